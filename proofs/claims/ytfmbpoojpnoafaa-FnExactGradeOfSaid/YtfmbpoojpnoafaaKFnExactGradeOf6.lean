import Derived.Test.YtfmbpoojpnoafaaKFnExactGradeOf1
import Derived.Test.YtfmbpoojpnoafaaKFnExactGradeOf4
import Derived.Test.YtfmbpoojpnoafaaKFnExactGradeOf5
import Derived.Test.YtfmbpoojpnoafaaKFnExactGradeOf3
import Derived.Test.YtfmbpoojpnoafaaKFnExactGradeOf2
section
namespace Go.Proofs.Ytfmbpoojpnoafaa.X
open Go.RowKit Go.Proofs.YtfmbpoojpnoafaaW.PrintWords Go.Proofs.YtfmbpoojpnoafaaW.PrintLast Go.Proofs.YtfmbpoojpnoafaaW.PrintMore
attribute [local go_sem] max2_int min2_int max_two min_two max_three min_three max_four min_four
set_option linter.unusedVariables false
set_option linter.unusedSimpArgs false
def spec_GradeBetween.f (k : Nat) (a0_0 : Int) (l0_1 : List Int) (l0_2 : List Int) (l0_3 : List (S92)) (a1_0 : Int) (l1_1 : List Int) : Option (Int):=(spec_AutomatonValid.f k a0_0 l0_1 l0_2 l0_3).bind fun t145 => (if t145 = true then ((spec_GradesValid.f k a1_0 l1_1).bind fun t146 => (if t146 = true then (if a1_0 = a0_0 then ((spec_l6Between.f k a0_0 l0_1 l0_2 l0_3 a1_0 l1_1).bind fun t147 => (some t147)) else (some (-1))) else (some (-1)))) else (some (-1)))
theorem spec_GradeBetween.mono : ∀ a0 a1 a2 a3 a4 a5 k,LeO (spec_GradeBetween.f k a0 a1 a2 a3 a4 a5) (spec_GradeBetween.f (k + 1) a0 a1 a2 a3 a4 a5):=by
 intro a0 a1 a2 a3 a4 a5 k
 unfold spec_GradeBetween.f
 repeat' first
   | (with_reducible exact spec_AutomatonValid.mono _ _ _ _ _)
   | (with_reducible exact spec_GradesValid.mono _ _ _)
   | (with_reducible exact spec_l6Between.mono _ _ _ _ _ _ _)
   | (with_reducible first|exact LeO.refl _|exact LeO.none _|refine LeO.ite ?_ ?_|refine LeO.bind ?_ (fun _ => ?_))
   | exact spec_AutomatonValid.mono _ _ _ _ _
   | exact spec_GradesValid.mono _ _ _
   | exact spec_l6Between.mono _ _ _ _ _ _ _
   | exact LeO.none _
   | refine LeO.ite ?_ ?_
   | refine LeO.bind ?_ (fun _ => ?_)
set_option maxHeartbeats 8000000 in
set_option maxRecDepth 100000 in
theorem spec_GradeBetween.calls (k : Nat) (a0_0 : Int) (A0_1 : Option Addr) (c0_1 : Nat) (l0_1 : List Int) (A0_2 : Option Addr) (c0_2 : Nat) (l0_2 : List Int) (A0_3 : Option Addr) (c0_3 : Nat) (l0_3 : List (S92)) (a1_0 : Int) (A1_1 : Option Addr) (c1_1 : Nat) (l1_1 : List Int) (r : Int) (w : World) (hr0_1 : Kd.C (Kd.int .i64) w A0_1 l0_1.length l0_1) (hc0_1 : l0_1.length ≤ c0_1) (hr0_2 : Kd.C (Kd.int .i64) w A0_2 l0_2.length l0_2) (hc0_2 : l0_2.length ≤ c0_2) (hr0_3 : Kd.C k92 w A0_3 l0_3.length l0_3) (hc0_3 : l0_3.length ≤ c0_3) (hr1_1 : Kd.C (Kd.int .i64) w A1_1 l1_1.length l1_1) (hc1_1 : l1_1.length ≤ c1_1) (h : spec_GradeBetween.f k a0_0 l0_1 l0_2 l0_3 a1_0 l1_1 = some r) :
  Calls Try.prog 16 #[.agg #[.int .i64 a0_0,.slice A0_1 l0_1.length c0_1,.slice A0_2 l0_2.length c0_2,.slice A0_3 l0_3.length c0_3],.agg #[.int .i64 a1_0,.slice A1_1 l1_1.length c1_1]] w fun e w' => e = .returned (.int .i64 r) ∧ Below w.heap.size w w':=by
 have hu33:=Try.underlying33
 have hu35:=Try.underlying35
 have HR0_1:=Aside0.mk hr0_1
 have HC0_1:=Aside0.mk hc0_1
 clear hr0_1 hc0_1
 have HR0_2:=Aside0.mk hr0_2
 have HC0_2:=Aside0.mk hc0_2
 clear hr0_2 hc0_2
 have HR0_3:=Aside0.mk hr0_3
 have HC0_3:=Aside0.mk hc0_3
 clear hr0_3 hc0_3
 have HR1_1:=Aside0.mk hr1_1
 have HC1_1:=Aside0.mk hc1_1
 clear hr1_1 hc1_1
 have HB:=Aside0.mk (Below.refl w.heap.size w)
 have H : ((spec_AutomatonValid.f k a0_0 l0_1 l0_2 l0_3).bind fun t145 => (if t145 = true then ((spec_GradesValid.f k a1_0 l1_1).bind fun t146 => (if t146 = true then (if a1_0 = a0_0 then ((spec_l6Between.f k a0_0 l0_1 l0_2 l0_3 a1_0 l1_1).bind fun t147 => (some t147)) else (some (-1))) else (some (-1)))) else (some (-1)))) = some r:=h
 clear h
 replace H:=Option.bind_eq_some_iff.mp H
 obtain ⟨t145,A30,H⟩:=H
 replace H : (if t145 = true then ((spec_GradesValid.f k a1_0 l1_1).bind fun t146 => (if t146 = true then (if a1_0 = a0_0 then ((spec_l6Between.f k a0_0 l0_1 l0_2 l0_3 a1_0 l1_1).bind fun t147 => (some t147)) else (some (-1))) else (some (-1)))) else (some (-1))) = some r:=H
 have A3:=Aside0.mk A30
 clear A30
 by_cases c4 : t145 = true
 ·subst c4
  have H1 : ((spec_GradesValid.f k a1_0 l1_1).bind fun t146 => (if t146 = true then (if a1_0 = a0_0 then ((spec_l6Between.f k a0_0 l0_1 l0_2 l0_3 a1_0 l1_1).bind fun t147 => (some t147)) else (some (-1))) else (some (-1)))) = some r:=by rw [if_pos rfl] at H;exact H
  clear H
  have H:=H1
  clear H1
  replace H:=Option.bind_eq_some_iff.mp H
  obtain ⟨t146,A50,H⟩:=H
  replace H : (if t146 = true then (if a1_0 = a0_0 then ((spec_l6Between.f k a0_0 l0_1 l0_2 l0_3 a1_0 l1_1).bind fun t147 => (some t147)) else (some (-1))) else (some (-1))) = some r:=H
  have A5:=Aside0.mk A50
  clear A50
  by_cases c6 : t146 = true
  ·subst c6
   have H1 : (if a1_0 = a0_0 then ((spec_l6Between.f k a0_0 l0_1 l0_2 l0_3 a1_0 l1_1).bind fun t147 => (some t147)) else (some (-1))) = some r:=by rw [if_pos rfl] at H;exact H
   clear H
   have H:=H1
   clear H1
   by_cases c7 : a1_0 = a0_0
   ·rw [if_pos c7] at H
    have c7b0 : (a1_0 == a0_0) = true:=beq_iff_eq.mpr c7
    have c7b1 : (a1_0 != a0_0) = false:=bne_eq_false_iff_eq.mpr c7
    clear c7
    replace H:=Option.bind_eq_some_iff.mp H
    obtain ⟨t147,A80,H⟩:=H
    replace H : (some t147) = some r:=H
    have A8:=Aside0.mk A80
    clear A80
    obtain rfl:=Option.some.inj H
    go_enter Try.func16,Try.ntmps16
    go_wp2_with (first|((with_reducible refine bev_ (N:=2) rfl rfl (cs:=#[.int .i64 a0_0,.slice A0_1 l0_1.length c0_1,.slice A0_2 l0_2.length c0_2,.slice A0_3 l0_3.length c0_3]) (t:=33) ?hr ?_);(case hr => first|(go_simp;done)|(go_simp;rfl));intro gb143 hg w9 hbox hb;have BK143:=Aside0.mk (hbox);have GW143:=Aside0.mk (szg_ hg (below_size (be0_ HB.out)));have GE143:=GW143;replace HB:=Aside0.mk (below_step (be0_ HB.out) hb);clear hb hbox hg)|((with_reducible refine bev_ (N:=3) rfl rfl (cs:=#[.int .i64 a1_0,.slice A1_1 l1_1.length c1_1]) (t:=35) ?hr ?_);(case hr => first|(go_simp;done)|(go_simp;rfl));intro gb144 hg w10 hbox hb;have BK144:=Aside0.mk (hbox);have GW144:=Aside0.mk (szg_ hg (below_size (be1_ HB.out GE143.out)));have GE144:=GW144;replace HB:=Aside0.mk (below_step (be1_ HB.out GE143.out) hb);have NB143_144:=nm_ hg BK143;have NB144_143:=nn_ hg BK143;replace BK143:=kc_ BK143 hb;clear hb hbox hg;have hnb11:=NB143_144.out;have hnc11:=NB144_143.out;obtain ⟨hcz12_0,hcz12_1,hcz12_2,hcz12_3,hfz12_0,hfz12_1,hfz12_2,hfz12_3⟩:=cf4_ BK143.out)|((with_reducible refine gate_callee (f:=67) rfl ?_);refine goesL_ (some 6) rfl rfl Try.func67 (by kernel_rfl) rfl #[.agg #[.int .i64 a0_0,.slice A0_1 l0_1.length c0_1,.slice A0_2 l0_2.length c0_2,.slice A0_3 l0_3.length c0_3]] rfl lp_ ?_;(with_reducible refine (spec_AutomatonValid.calls k a0_0 _ _ l0_1 _ _ l0_2 _ _ l0_3 true _ ?side1 ?side2 ?side3 ?side4 ?side5 ?side6 A3.out).mono ?_);(case side1 => exact cr_ (Kd.C_below HR0_1.out HB.out));(case side2 => exact HC0_1.out);(case side3 => exact cr_ (Kd.C_below HR0_2.out HB.out));(case side4 => exact HC0_2.out);(case side5 => exact cr_ (Kd.C_below HR0_3.out HB.out));(case side6 => exact HC0_3.out);rintro e w13 ⟨rfl,hb⟩;refine ⟨_,rfl,?_⟩;replace BK143:=kc_ BK143 hb;replace BK144:=kc_ BK144 hb;replace HB:=Aside0.mk (below_step (be2_ HB.out GE143.out GE144.out) hb);(try clear hb);(try clear hb2);(try clear hk);(try clear hi);obtain ⟨hcz14_0,hcz14_1,hfz14_0,hfz14_1⟩:=cf2_ BK144.out)|(go_at_call 68;(with_reducible refine (spec_GradesValid.calls k a1_0 _ _ l1_1 true _ ?side1 ?side2 A5.out).mono ?_);(case side1 => exact cr_ (Kd.C_below HR1_1.out HB.out));(case side2 => exact HC1_1.out);rintro e w15 ⟨rfl,hb⟩;replace BK143:=kc_ BK143 hb;replace BK144:=kc_ BK144 hb;replace HB:=Aside0.mk (below_step (be2_ HB.out GE143.out GE144.out) hb);(try clear hb);(try clear hb2);(try clear hk);(try clear hi);obtain ⟨hcz16_0,hcz16_1,hfz16_0,hfz16_1⟩:=cf2_ BK144.out;obtain ⟨hcz17_0,hcz17_1,hcz17_2,hcz17_3,hfz17_0,hfz17_1,hfz17_2,hfz17_3⟩:=cf4_ BK143.out)|((with_reducible refine gate_callee (f:=69) rfl ?_);refine goesL_ (some 22) rfl rfl Try.func69 (by kernel_rfl) rfl #[.agg #[.int .i64 a0_0,.slice A0_1 l0_1.length c0_1,.slice A0_2 l0_2.length c0_2,.slice A0_3 l0_3.length c0_3],.agg #[.int .i64 a1_0,.slice A1_1 l1_1.length c1_1]] rfl lp_ ?_;(with_reducible refine (spec_l6Between.calls k a0_0 _ _ l0_1 _ _ l0_2 _ _ l0_3 a1_0 _ _ l1_1 t147 _ ?side1 ?side2 ?side3 ?side4 ?side5 ?side6 ?side7 ?side8 A8.out).mono ?_);(case side1 => exact cr_ (Kd.C_below HR0_1.out HB.out));(case side2 => exact HC0_1.out);(case side3 => exact cr_ (Kd.C_below HR0_2.out HB.out));(case side4 => exact HC0_2.out);(case side5 => exact cr_ (Kd.C_below HR0_3.out HB.out));(case side6 => exact HC0_3.out);(case side7 => exact cr_ (Kd.C_below HR1_1.out HB.out));(case side8 => exact HC1_1.out);rintro e w18 ⟨rfl,hb⟩;refine ⟨_,rfl,?_⟩;replace BK143:=kc_ BK143 hb;replace BK144:=kc_ BK144 hb;replace HB:=Aside0.mk (below_step (be2_ HB.out GE143.out GE144.out) hb);(try clear hb);(try clear hb2);(try clear hk);(try clear hi)))
    go_ret
    exact ⟨er_,be2_ HB.out GE143.out GE144.out⟩
   ·rw [if_neg c7] at H
    have c7b0 : (a1_0 == a0_0) = false:=beq_eq_false_iff_ne.mpr c7
    have c7b1 : (a1_0 != a0_0) = true:=bne_iff_ne.mpr c7
    obtain rfl:=Option.some.inj H
    go_enter Try.func16,Try.ntmps16
    go_wp2_with (first|((with_reducible refine bev_ (N:=2) rfl rfl (cs:=#[.int .i64 a0_0,.slice A0_1 l0_1.length c0_1,.slice A0_2 l0_2.length c0_2,.slice A0_3 l0_3.length c0_3]) (t:=33) ?hr ?_);(case hr => first|(go_simp;done)|(go_simp;rfl));intro gb143 hg w19 hbox hb;have BK143:=Aside0.mk (hbox);have GW143:=Aside0.mk (szg_ hg (below_size (be0_ HB.out)));have GE143:=GW143;replace HB:=Aside0.mk (below_step (be0_ HB.out) hb);clear hb hbox hg)|((with_reducible refine bev_ (N:=3) rfl rfl (cs:=#[.int .i64 a1_0,.slice A1_1 l1_1.length c1_1]) (t:=35) ?hr ?_);(case hr => first|(go_simp;done)|(go_simp;rfl));intro gb144 hg w20 hbox hb;have BK144:=Aside0.mk (hbox);have GW144:=Aside0.mk (szg_ hg (below_size (be1_ HB.out GE143.out)));have GE144:=GW144;replace HB:=Aside0.mk (below_step (be1_ HB.out GE143.out) hb);have NB143_144:=nm_ hg BK143;have NB144_143:=nn_ hg BK143;replace BK143:=kc_ BK143 hb;clear hb hbox hg;have hnb21:=NB143_144.out;have hnc21:=NB144_143.out;obtain ⟨hcz22_0,hcz22_1,hcz22_2,hcz22_3,hfz22_0,hfz22_1,hfz22_2,hfz22_3⟩:=cf4_ BK143.out)|((with_reducible refine gate_callee (f:=67) rfl ?_);refine goesL_ (some 6) rfl rfl Try.func67 (by kernel_rfl) rfl #[.agg #[.int .i64 a0_0,.slice A0_1 l0_1.length c0_1,.slice A0_2 l0_2.length c0_2,.slice A0_3 l0_3.length c0_3]] rfl lp_ ?_;(with_reducible refine (spec_AutomatonValid.calls k a0_0 _ _ l0_1 _ _ l0_2 _ _ l0_3 true _ ?side1 ?side2 ?side3 ?side4 ?side5 ?side6 A3.out).mono ?_);(case side1 => exact cr_ (Kd.C_below HR0_1.out HB.out));(case side2 => exact HC0_1.out);(case side3 => exact cr_ (Kd.C_below HR0_2.out HB.out));(case side4 => exact HC0_2.out);(case side5 => exact cr_ (Kd.C_below HR0_3.out HB.out));(case side6 => exact HC0_3.out);rintro e w23 ⟨rfl,hb⟩;refine ⟨_,rfl,?_⟩;replace BK143:=kc_ BK143 hb;replace BK144:=kc_ BK144 hb;replace HB:=Aside0.mk (below_step (be2_ HB.out GE143.out GE144.out) hb);(try clear hb);(try clear hb2);(try clear hk);(try clear hi);obtain ⟨hcz24_0,hcz24_1,hfz24_0,hfz24_1⟩:=cf2_ BK144.out)|(go_at_call 68;(with_reducible refine (spec_GradesValid.calls k a1_0 _ _ l1_1 true _ ?side1 ?side2 A5.out).mono ?_);(case side1 => exact cr_ (Kd.C_below HR1_1.out HB.out));(case side2 => exact HC1_1.out);rintro e w25 ⟨rfl,hb⟩;replace BK143:=kc_ BK143 hb;replace BK144:=kc_ BK144 hb;replace HB:=Aside0.mk (below_step (be2_ HB.out GE143.out GE144.out) hb);(try clear hb);(try clear hb2);(try clear hk);(try clear hi);obtain ⟨hcz26_0,hcz26_1,hfz26_0,hfz26_1⟩:=cf2_ BK144.out;obtain ⟨hcz27_0,hcz27_1,hcz27_2,hcz27_3,hfz27_0,hfz27_1,hfz27_2,hfz27_3⟩:=cf4_ BK143.out))
    go_ret
    exact ⟨er_,be2_ HB.out GE143.out GE144.out⟩
  ·replace c6:=Bool.eq_false_iff.mpr c6
   subst c6
   have H1 : (some (-1)) = some r:=by rw [if_neg (show ¬ (false = true) by decide)] at H;exact H
   clear H
   have H:=H1
   clear H1
   obtain rfl:=Option.some.inj H
   go_enter Try.func16,Try.ntmps16
   go_wp2_with (first|((with_reducible refine bev_ (N:=2) rfl rfl (cs:=#[.int .i64 a0_0,.slice A0_1 l0_1.length c0_1,.slice A0_2 l0_2.length c0_2,.slice A0_3 l0_3.length c0_3]) (t:=33) ?hr ?_);(case hr => first|(go_simp;done)|(go_simp;rfl));intro gb143 hg w28 hbox hb;have BK143:=Aside0.mk (hbox);have GW143:=Aside0.mk (szg_ hg (below_size (be0_ HB.out)));have GE143:=GW143;replace HB:=Aside0.mk (below_step (be0_ HB.out) hb);clear hb hbox hg)|((with_reducible refine bev_ (N:=3) rfl rfl (cs:=#[.int .i64 a1_0,.slice A1_1 l1_1.length c1_1]) (t:=35) ?hr ?_);(case hr => first|(go_simp;done)|(go_simp;rfl));intro gb144 hg w29 hbox hb;have BK144:=Aside0.mk (hbox);have GW144:=Aside0.mk (szg_ hg (below_size (be1_ HB.out GE143.out)));have GE144:=GW144;replace HB:=Aside0.mk (below_step (be1_ HB.out GE143.out) hb);have NB143_144:=nm_ hg BK143;have NB144_143:=nn_ hg BK143;replace BK143:=kc_ BK143 hb;clear hb hbox hg;have hnb30:=NB143_144.out;have hnc30:=NB144_143.out;obtain ⟨hcz31_0,hcz31_1,hcz31_2,hcz31_3,hfz31_0,hfz31_1,hfz31_2,hfz31_3⟩:=cf4_ BK143.out)|((with_reducible refine gate_callee (f:=67) rfl ?_);refine goesL_ (some 6) rfl rfl Try.func67 (by kernel_rfl) rfl #[.agg #[.int .i64 a0_0,.slice A0_1 l0_1.length c0_1,.slice A0_2 l0_2.length c0_2,.slice A0_3 l0_3.length c0_3]] rfl lp_ ?_;(with_reducible refine (spec_AutomatonValid.calls k a0_0 _ _ l0_1 _ _ l0_2 _ _ l0_3 true _ ?side1 ?side2 ?side3 ?side4 ?side5 ?side6 A3.out).mono ?_);(case side1 => exact cr_ (Kd.C_below HR0_1.out HB.out));(case side2 => exact HC0_1.out);(case side3 => exact cr_ (Kd.C_below HR0_2.out HB.out));(case side4 => exact HC0_2.out);(case side5 => exact cr_ (Kd.C_below HR0_3.out HB.out));(case side6 => exact HC0_3.out);rintro e w32 ⟨rfl,hb⟩;refine ⟨_,rfl,?_⟩;replace BK143:=kc_ BK143 hb;replace BK144:=kc_ BK144 hb;replace HB:=Aside0.mk (below_step (be2_ HB.out GE143.out GE144.out) hb);(try clear hb);(try clear hb2);(try clear hk);(try clear hi);obtain ⟨hcz33_0,hcz33_1,hfz33_0,hfz33_1⟩:=cf2_ BK144.out)|(go_at_call 68;(with_reducible refine (spec_GradesValid.calls k a1_0 _ _ l1_1 false _ ?side1 ?side2 A5.out).mono ?_);(case side1 => exact cr_ (Kd.C_below HR1_1.out HB.out));(case side2 => exact HC1_1.out);rintro e w34 ⟨rfl,hb⟩;replace BK143:=kc_ BK143 hb;replace BK144:=kc_ BK144 hb;replace HB:=Aside0.mk (below_step (be2_ HB.out GE143.out GE144.out) hb);(try clear hb);(try clear hb2);(try clear hk);(try clear hi)))
   go_ret
   exact ⟨er_,be2_ HB.out GE143.out GE144.out⟩
 ·replace c4:=Bool.eq_false_iff.mpr c4
  subst c4
  have H1 : (some (-1)) = some r:=by rw [if_neg (show ¬ (false = true) by decide)] at H;exact H
  clear H
  have H:=H1
  clear H1
  obtain rfl:=Option.some.inj H
  go_enter Try.func16,Try.ntmps16
  go_wp2_with (first|((with_reducible refine bev_ (N:=2) rfl rfl (cs:=#[.int .i64 a0_0,.slice A0_1 l0_1.length c0_1,.slice A0_2 l0_2.length c0_2,.slice A0_3 l0_3.length c0_3]) (t:=33) ?hr ?_);(case hr => first|(go_simp;done)|(go_simp;rfl));intro gb143 hg w35 hbox hb;have BK143:=Aside0.mk (hbox);have GW143:=Aside0.mk (szg_ hg (below_size (be0_ HB.out)));have GE143:=GW143;replace HB:=Aside0.mk (below_step (be0_ HB.out) hb);clear hb hbox hg)|((with_reducible refine bev_ (N:=3) rfl rfl (cs:=#[.int .i64 a1_0,.slice A1_1 l1_1.length c1_1]) (t:=35) ?hr ?_);(case hr => first|(go_simp;done)|(go_simp;rfl));intro gb144 hg w36 hbox hb;have BK144:=Aside0.mk (hbox);have GW144:=Aside0.mk (szg_ hg (below_size (be1_ HB.out GE143.out)));have GE144:=GW144;replace HB:=Aside0.mk (below_step (be1_ HB.out GE143.out) hb);have NB143_144:=nm_ hg BK143;have NB144_143:=nn_ hg BK143;replace BK143:=kc_ BK143 hb;clear hb hbox hg;have hnb37:=NB143_144.out;have hnc37:=NB144_143.out;obtain ⟨hcz38_0,hcz38_1,hcz38_2,hcz38_3,hfz38_0,hfz38_1,hfz38_2,hfz38_3⟩:=cf4_ BK143.out)|((with_reducible refine gate_callee (f:=67) rfl ?_);refine goesL_ (some 6) rfl rfl Try.func67 (by kernel_rfl) rfl #[.agg #[.int .i64 a0_0,.slice A0_1 l0_1.length c0_1,.slice A0_2 l0_2.length c0_2,.slice A0_3 l0_3.length c0_3]] rfl lp_ ?_;(with_reducible refine (spec_AutomatonValid.calls k a0_0 _ _ l0_1 _ _ l0_2 _ _ l0_3 false _ ?side1 ?side2 ?side3 ?side4 ?side5 ?side6 A3.out).mono ?_);(case side1 => exact cr_ (Kd.C_below HR0_1.out HB.out));(case side2 => exact HC0_1.out);(case side3 => exact cr_ (Kd.C_below HR0_2.out HB.out));(case side4 => exact HC0_2.out);(case side5 => exact cr_ (Kd.C_below HR0_3.out HB.out));(case side6 => exact HC0_3.out);rintro e w39 ⟨rfl,hb⟩;refine ⟨_,rfl,?_⟩;replace BK143:=kc_ BK143 hb;replace BK144:=kc_ BK144 hb;replace HB:=Aside0.mk (below_step (be2_ HB.out GE143.out GE144.out) hb);(try clear hb);(try clear hb2);(try clear hk);(try clear hi)))
  go_ret
  exact ⟨er_,be2_ HB.out GE143.out GE144.out⟩
end Go.Proofs.Ytfmbpoojpnoafaa.X
end
section
namespace Go.Proofs.Ytfmbpoojpnoafaa.Y
open Go.RowKit Go.Proofs.Ytfmbpoojpnoafaa.X Go.Proofs.YtfmbpoojpnoafaaW.PrintWords Go.Proofs.YtfmbpoojpnoafaaW.PrintLast Go.Proofs.YtfmbpoojpnoafaaW.PrintMore
set_option linter.unusedVariables false
set_option linter.unusedSimpArgs false
def betw (n : Int) (s f l : List Int) : Int:=s.foldl (fun acc i => f.foldl (fun acc k => mn acc (l.getD (i * n + k).toNat 0)) acc) 3
theorem sBetw (n : Int) (hn : 1 ≤ n ∧ n ≤ 4) (s f : List Int) (t : List S92) (l : List Int) (hl : (l.length : Int) = n * n) (hs : ∀ x ∈ s,0 ≤ x ∧ x < n) (hf : ∀ x ∈ f,0 ≤ x ∧ x < n) (hsl : s.length ≤ 1000000000) (hfl : f.length ≤ 1000000000) :
  Ev (fun k => spec_l6Between.f k n s f t n l) (betw n s f l):=by
 have go : ∀ (u pre : List Int) (acc : Int),s = pre ++ u → Ev (fun k => spec_l6Between.l0 k acc s (s.length : Int) (pre.length : Int) n s f t n l) (u.foldl (fun acc i => f.foldl (fun acc k => mn acc (l.getD (i * n + k).toNat 0)) acc) acc):=by
  intro u
  induction u with
  | nil =>
   intro pre acc hp
   refine Ev.step (f:=fun _ => some acc) (fun k => ?_) (Ev.now _)
   simp only [spec_l6Between.l0];rw [if_neg (by rw [hp];simp)]
  | cons x u ih =>
   intro pre acc hp
   have hlen : s.length = pre.length + (u.length + 1):=by rw [hp];simp
   have hx : rd s (pre.length : Int) = x:=by rw [hp,rd_mid]
   have hb:=hs x (by rw [hp];simp)
   have inner : ∀ (v q : List Int) (acc : Int),f = q ++ v → Ev (fun k => spec_l6Between.l1 k acc x s (s.length : Int) (pre.length : Int) f (f.length : Int) (q.length : Int) n s f t n l) (u.foldl (fun acc i => f.foldl (fun acc k => mn acc (l.getD (i * n + k).toNat 0)) acc) (v.foldl (fun acc k => mn acc (l.getD (x * n + k).toNat 0)) acc)):=by
    intro v
    induction v with
    | nil =>
     intro q acc hq
     refine Ev.step (fun k => ?_) (ih (pre ++ [x]) acc (by simp [hp]))
     simp only [spec_l6Between.l1];rw [if_neg (by rw [hq];simp),w64 (by omega) (by omega),snoc_len]
    | cons y v ihv =>
     intro q acc hq
     have hlq : f.length = q.length + (v.length + 1):=by rw [hq];simp
     have hy : rd f (q.length : Int) = y:=by rw [hq,rd_mid]
     have hc:=hf y (by rw [hq];simp)
     have c:=cellZ hn hb hc
     refine Ev.step (fun k => ?_) (ihv (q ++ [y]) _ (by simp [hq]))
     simp only [spec_l6Between.l1]
     rw [if_pos (by omega),if_pos (by omega),if_pos (by omega),hy,cellW hn hb hc,if_pos (by omega),if_pos (by omega),w64 (x:=(q.length : Int) + 1) (by omega) (by omega),snoc_len]
     rfl
   refine Ev.step (fun k => ?_) (inner f [] acc rfl)
   simp only [spec_l6Between.l0]
   rw [if_pos (by omega),if_pos (by omega),if_pos (by omega),hx];rfl
 exact go s [] 3 rfl
theorem iBetw (n : Int) (hn : 1 ≤ n ∧ n ≤ 4) (s f : List Int) (t : List S92) (l : List Int) (hl : (l.length : Int) = n * n) (hs : ∀ x ∈ s,0 ≤ x ∧ x < n) (hf : ∀ x ∈ f,0 ≤ x ∧ x < n) (hsl : s.length ≤ 1000000000) (hfl : f.length ≤ 1000000000) :
  Ev (fun k => impl_GradeBetween.l0 k 3 s (s.length : Int) 0 n s f t n l) (betw n s f l):=by
 have go : ∀ (u pre : List Int) (acc : Int),s = pre ++ u → Ev (fun k => impl_GradeBetween.l0 k acc s (s.length : Int) (pre.length : Int) n s f t n l) (u.foldl (fun acc i => f.foldl (fun acc k => mn acc (l.getD (i * n + k).toNat 0)) acc) acc):=by
  intro u
  induction u with
  | nil =>
   intro pre acc hp
   refine Ev.step (f:=fun _ => some acc) (fun k => ?_) (Ev.now _)
   simp only [impl_GradeBetween.l0];rw [if_neg (by rw [hp];simp)]
  | cons x u ih =>
   intro pre acc hp
   have hlen : s.length = pre.length + (u.length + 1):=by rw [hp];simp
   have hx : rd s (pre.length : Int) = x:=by rw [hp,rd_mid]
   have hb:=hs x (by rw [hp];simp)
   have inner : ∀ (v q : List Int) (acc : Int),f = q ++ v → Ev (fun k => impl_GradeBetween.l1 k acc x s (s.length : Int) (pre.length : Int) f (f.length : Int) (q.length : Int) n s f t n l) (u.foldl (fun acc i => f.foldl (fun acc k => mn acc (l.getD (i * n + k).toNat 0)) acc) (v.foldl (fun acc k => mn acc (l.getD (x * n + k).toNat 0)) acc)):=by
    intro v
    induction v with
    | nil =>
     intro q acc hq
     refine Ev.step (fun k => ?_) (ih (pre ++ [x]) acc (by simp [hp]))
     simp only [impl_GradeBetween.l1];rw [if_neg (by rw [hq];simp),w64 (by omega) (by omega),snoc_len]
    | cons y v ihv =>
     intro q acc hq
     have hlq : f.length = q.length + (v.length + 1):=by rw [hq];simp
     have hy : rd f (q.length : Int) = y:=by rw [hq,rd_mid]
     have hc:=hf y (by rw [hq];simp)
     have c:=cellZ hn hb hc
     refine Ev.step (fun k => ?_) (ihv (q ++ [y]) _ (by simp [hq]))
     simp only [impl_GradeBetween.l1,impl_Matrix_at.f]
     rw [if_pos (by omega),if_pos (by omega),if_pos (by omega),hy,cellW hn hb hc,if_pos (by omega),if_pos (by omega),Option.bind_some,w64 (x:=(q.length : Int) + 1) (by omega) (by omega),snoc_len]
     rfl
   refine Ev.step (fun k => ?_) (inner f [] acc rfl)
   simp only [impl_GradeBetween.l0]
   rw [if_pos (by omega),if_pos (by omega),if_pos (by omega),hx];rfl
 exact go s [] 3 rfl
def grB (n : Int) (s f : List Int) (t : List S92) (m : Int) (l : List Int) : Int:=if AV n s f t = true ∧ GV m l ∧ m = n then betw n s f l else -1
theorem iGradeB (n : Int) (s f : List Int) (t : List S92) (m : Int) (l : List Int) (hs : s.length ≤ 1000000000) (hf : f.length ≤ 1000000000) (ht : t.length ≤ 1000000000) (hl : l.length ≤ maxLen) : Ev (fun k => impl_GradeBetween.f k n s f t m l) (grB n s f t m l):=by
 have bad : ∀ g : Nat → Option Int,(∀ k,g k = impl_GradeBetween.j0 k true n s f t m l) → ¬ (AV n s f t = true ∧ GV m l ∧ m = n) → Ev g (grB n s f t m l):=fun g hg he => Ev.congr hg ((Ev.step (f:=fun _ => some (-1)) (fun k => by simp only [impl_GradeBetween.j0];rw [if_pos trivial]) (Ev.now _)).is (by unfold grB;rw [if_neg he]))
 refine Ev.congr (f:=?f1) (fun k => ?h1) ?k1
 case h1 => unfold impl_GradeBetween.f;exact rfl
 refine Ev.bind (iAV n s f t hs hf ht) ?_
 by_cases g1 : AV n s f t = true
 case neg => exact bad _ (fun k => by rw [if_neg g1]) (fun h => g1 h.1)
 refine Ev_t g1 ?_
 refine Ev.bind (iGV m l hl) ?_
 by_cases g2 : GV m l
 case neg => exact bad _ (fun k => by rw [if_neg (by simpa using g2)]) (fun h => g2 h.2.1)
 refine Ev_t (decide_eq_true g2) ?_
 by_cases g3 : m = n
 case neg => exact bad _ (fun k => by rw [bne_iff_ne.mpr g3]) (fun h => g3 h.2.2)
 subst g3
 obtain ⟨h1,h2,h3,h4,h5⟩:=AV_parts g1
 refine Ev.step (fun k => by rw [bne_self_eq_false];simp only [impl_GradeBetween.j0];rw [if_neg (by simp)]) ((iBetw m h1 s f t l g2.1.2.2.1 (mrk_mem h3) (mrk_mem h4) hs hf).is ?_)
 unfold grB;rw [if_pos ⟨g1,g2,rfl⟩]
theorem sGradeB (n : Int) (s f : List Int) (t : List S92) (m : Int) (l : List Int) (hs : s.length ≤ 1000000000) (hf : f.length ≤ 1000000000) (ht : t.length ≤ 1000000000) (hl : l.length ≤ maxLen) : Ev (fun k => spec_GradeBetween.f k n s f t m l) (grB n s f t m l):=by
 have bad : ∀ g : Nat → Option Int,(∀ k,g k = some (-1)) → ¬ (AV n s f t = true ∧ GV m l ∧ m = n) → Ev g (grB n s f t m l):=fun g hg he => (ev_some hg).is (by unfold grB;rw [if_neg he])
 refine Ev.congr (f:=?f2) (fun k => ?h2) ?k2
 case h2 => unfold spec_GradeBetween.f;exact rfl
 refine Ev.bind (sAV n s f t hs hf ht) ?_
 by_cases g1 : AV n s f t = true
 case neg => exact bad _ (fun k => by rw [if_neg g1]) (fun h => g1 h.1)
 refine Ev_t g1 ?_
 refine Ev.bind (sGV m l hl) ?_
 by_cases g2 : GV m l
 case neg => exact bad _ (fun k => by rw [if_neg (by simpa using g2)]) (fun h => g2 h.2.1)
 refine Ev_t (decide_eq_true g2) ?_
 by_cases g3 : m = n
 case neg => exact bad _ (fun k => by rw [if_neg g3]) (fun h => g3 h.2.2)
 refine Ev_t g3 ?_
 subst g3
 obtain ⟨h1,h2,h3,h4,h5⟩:=AV_parts g1
 refine Ev.bind (sBetw m h1 s f t l g2.1.2.2.1 (mrk_mem h3) (mrk_mem h4) hs hf) ((Ev.now _).is ?_)
 unfold grB;rw [if_pos ⟨g1,g2,rfl⟩]
theorem div_mod_at (n i k : Nat) (hk : k < n) : (i * n + k) / n = i ∧ (i * n + k) % n = k:=by
 have hn : 0 < n:=by omega
 constructor
 ·rw [Nat.mul_comm,Nat.mul_add_div hn,Nat.div_eq_of_lt hk,Nat.add_zero]
 ·rw [Nat.mul_comm,Nat.mul_add_mod,Nat.mod_eq_of_lt hk]
theorem cell_lt (n i k : Nat) (hi : i < n) (hk : k < n) : i * n + k < n * n:=by
 have : (i + 1) * n ≤ n * n:=Nat.mul_le_mul_right n hi
 rw [Nat.succ_mul] at this
 omega
theorem sq_le (n : Nat) (h : n ≤ 4) : n * n ≤ 16:=by
 have:=Nat.mul_le_mul h h
 omega
theorem row_le (n i : Nat) (hn : n ≤ 4) (hi : i ≤ n) : i * n ≤ 16:=by
 have:=Nat.mul_le_mul (Nat.le_trans hi hn) hn
 omega
def cutF (n : Nat) (g : Nat → Nat → Int) : Int → Int → Option Int:=fun i k => if 0 ≤ i ∧ i < n ∧ 0 ≤ k ∧ k < n then some (g i.toNat k.toNat) else none
theorem cutF_at (n : Nat) (g : Nat → Nat → Int) (i k : Nat) (hi : i < n) (hk : k < n) : cutF n g (i : Int) (k : Int) = some (g i k):=by
 unfold cutF;rw [if_pos (by omega)];simp
def sqL (n : Nat) (g : Nat → Nat → Int) : List Int:=tab (n * n) (fun m => g (m / n) (m % n))
theorem sqL_get (n : Nat) (g : Nat → Nat → Int) (i k : Nat) (hi : i < n) (hk : k < n) : (sqL n g).getD (i * n + k) 0 = g i k:=by
 unfold sqL
 rw [tab_get _ _ _ (cell_lt n i k hi hk)]
 obtain ⟨h1,h2⟩:=div_mod_at n i k hk
 rw [h1,h2]
theorem sqL_congr (n : Nat) (g h : Nat → Nat → Int) (e : ∀ i k,i < n → k < n → g i k = h i k) : sqL n g = sqL n h:=by
 refine tab_congr _ _ _ (fun j hj => e _ _ (Nat.div_lt_of_lt_mul hj) (Nat.mod_lt _ ?_))
 rcases n with _|n
 ·simp at hj
 ·omega
theorem eq_sqL (n : Nat) (l : List Int) (h : l.length = n * n) : l = sqL n (fun i k => l.getD (i * n + k) 0):=by
 refine (eq_tab l _ h).trans (tab_congr _ _ _ (fun j _ => ?_))
 show l.getD j 0 = l.getD (j / n * n + j % n) 0
 rw [Nat.mul_comm,Nat.div_add_mod]
theorem filled_cut (n : Nat) (hn : n ≤ 4) (g : Nat → Nat → Int) : Ev (fun j => impl_filled.f (cutF n g) j (n : Int)) ((n : Int),sqL n g):=by
 have inner : ∀ (i : Nat) (r : Int × List Int),i < n → Ev (fun j => impl_filled.l0 (cutF n g) j n n ((i + 1 : Nat) : Int) n (tab ((i + 1) * n) (fun m => g (m / n) (m % n)))) r →
   Ev (fun j => impl_filled.l0 (cutF n g) j n n (i : Int) n (tab (i * n) (fun m => g (m / n) (m % n)))) r:=by
  intro i r hi h
  refine Ev.step (f:=fun j => impl_filled.l1 (cutF n g) j n i n i n ((0 : Nat) : Int) n (tab (i * n + 0) (fun m => g (m / n) (m % n)))) (fun k => ?_) ?_
  ·simp only [impl_filled.l0];rw [if_pos (by omega)];rfl
  refine up_loop n (fun k j => impl_filled.l1 (cutF n g) j n i n i n (k : Int) n (tab (i * n + k) (fun m => g (m / n) (m % n)))) r (fun k hk hs => ?_) ?_
  ·refine Ev.step (fun j => ?_) hs
   simp only [impl_filled.l1]
   have hr:=row_le n i hn (by omega)
   obtain ⟨h1,h2⟩:=div_mod_at n i k hk
   rw [if_pos (by omega),cutF_at n g i k hi hk,Option.bind_some,tab_length,if_pos (by omega),w64 (by omega) (by omega)]
   have e : tab (i * n + k) (fun m => g (m / n) (m % n)) ++ [g i k] = tab (i * n + (k + 1)) (fun m => g (m / n) (m % n)):=by
    rw [← Nat.add_assoc,← tab_snoc,h1,h2]
   rw [e];rfl
  ·refine Ev.step (fun j => ?_) h
   simp only [impl_filled.l1]
   rw [if_neg (by omega),w64 (by omega) (by omega),Nat.succ_mul];rfl
 refine Ev.congr (f:=fun j => impl_filled.l0 (cutF n g) j n n ((0 : Nat) : Int) n (tab (0 * n) (fun m => g (m / n) (m % n)))) (fun k => ?_) ?_
 ·unfold impl_filled.f;simp [tab]
 refine up_loop n (fun i j => impl_filled.l0 (cutF n g) j n n (i : Int) n (tab (i * n) (fun m => g (m / n) (m % n)))) _ (fun i hi hs => inner i _ hi hs) ?_
 refine Ev.step (f:=fun _ => some ((n : Int),sqL n g)) (fun j => ?_) (Ev.now _)
 simp only [impl_filled.l0]
 rw [if_neg (by omega)];rfl
theorem filled_ev (n : Nat) (hn : n ≤ 4) (g : Nat → Nat → Int) (p : Nat → Int → Int → Option Int) (h : ∀ i,i < n → ∀ k,k < n → Ev (fun K => p K (i : Int) (k : Int)) (g i k)) :
  Ev (fun K => impl_filled.f (p K) K (n : Int)) ((n : Int),sqL n g):=by
 have h2 : ∀ i,i < n → ∃ K0,∀ K,K0 ≤ K → ∀ k,k < n → p K (i : Int) (k : Int) = some (g i k):=fun i hi => ev_all n (fun k hk => h i hi k hk)
 have h3 : ∃ K0,∀ K,K0 ≤ K → ∀ i,i < n → ∀ k,k < n → p K (i : Int) (k : Int) = some (g i k):=by
  have : ∀ m,m ≤ n → ∃ K0,∀ K,K0 ≤ K → ∀ i,i < m → ∀ k,k < n → p K (i : Int) (k : Int) = some (g i k):=by
   intro m
   induction m with
   | zero => intro _;exact ⟨0,fun _ _ i hi => by omega⟩
   | succ m ih =>
    intro hm
    obtain ⟨a,ha⟩:=ih (by omega)
    obtain ⟨b,hb⟩:=h2 m (by omega)
    refine ⟨max a b,fun K hK i hi k hk => ?_⟩
    by_cases e : i = m
    ·subst e;exact hb K (by omega) k hk
    ·exact ha K (by omega) i (by omega) k hk
  exact this n (Nat.le_refl _)
 obtain ⟨K0,hK0⟩:=h3
 refine ev_up (f:=fun j => impl_filled.f (cutF n g) j (n : Int)) (p:=fun K j => impl_filled.f (p K) j (n : Int)) (filled_cut n hn g) ⟨K0,fun K hK j => ?_⟩ (fun K j => impl_filled.mono (p K) _ j)
 refine impl_filled.monoP (fun y0 y1 r hr => ?_) _ j
 unfold cutF at hr
 by_cases hc : 0 ≤ y0 ∧ y0 < n ∧ 0 ≤ y1 ∧ y1 < n
 ·rw [if_pos hc] at hr
  have e0 : ((y0.toNat : Nat) : Int) = y0:=by omega
  have e1 : ((y1.toNat : Nat) : Int) = y1:=by omega
  have:=hK0 K hK y0.toNat (by omega) y1.toNat (by omega)
  rw [e0,e1] at this
  rw [this];exact hr
 ·rw [if_neg hc] at hr;cases hr
theorem at_eq (n : Nat) (hn : n ≤ 4) (l : List Int) (hl : l.length = n * n) (i k : Nat) (hi : i < n) (hk : k < n) : impl_Matrix_at.f (n : Int) l (i : Int) (k : Int) = some (l.getD (i * n + k) 0):=by
 have hc:=cell_lt n i k hi hk
 have hr:=row_le n i hn (by omega)
 have e : wrap64 (wrap64 ((i : Int) * (n : Int)) + k) = ((i * n + k : Nat) : Int):=by
  have : (i : Int) * (n : Int) = ((i * n : Nat) : Int):=by simp
  rw [this,w64 (x:=((i * n : Nat) : Int)) (by omega) (by omega),w64 (by omega) (by omega)];simp
 unfold impl_Matrix_at.f
 rw [e,if_pos (by omega),if_pos (by omega),rd_nat]
theorem tdiv_nat (m n : Nat) : Int.tdiv (m : Int) (n : Int) = ((m / n : Nat) : Int):=by rw [Int.tdiv_eq_ediv_of_nonneg (by omega)];simp
theorem tmod_nat (m n : Nat) : Int.tmod (m : Int) (n : Int) = ((m % n : Nat) : Int):=by rw [Int.tmod_eq_emod_of_nonneg (by omega)];simp
theorem idx1 (n m l : Nat) (hn : n ≤ 4) (hi : m / n < n) (hl : l < n) : wrap64 (wrap64 (wrap64 (Int.tdiv (m : Int) (n : Int)) * (n : Int)) + l) = ((m / n * n + l : Nat) : Int):=by
 have r1:=row_le n (m / n) hn (by omega)
 rw [tdiv_nat]
 obtain ⟨q,hq⟩ : ∃ q : Nat,m / n = q:=⟨_,rfl⟩
 rw [hq] at hi r1 ⊢
 have h1 : ((q : Nat) : Int) * (n : Int) = ((q * n : Nat) : Int):=by simp
 obtain ⟨s,hs⟩ : ∃ s : Nat,q * n = s:=⟨_,rfl⟩
 rw [w64 (x:=((q : Nat) : Int)) (by omega) (by omega),h1]
 rw [hs] at r1 ⊢
 clear h1 hs hq
 rw [w64 (x:=((s : Nat) : Int)) (by omega) (by omega),w64 (by omega) (by omega)];simp
theorem idx2 (n m l : Nat) (hn : n ≤ 4) (hk : m % n < n) (hl : l < n) : wrap64 (wrap64 ((l : Int) * (n : Int)) + Int.tmod (m : Int) (n : Int)) = ((l * n + m % n : Nat) : Int):=by
 have r2:=row_le n l hn (by omega)
 rw [tmod_nat]
 obtain ⟨q,hq⟩ : ∃ q : Nat,m % n = q:=⟨_,rfl⟩
 rw [hq] at hk ⊢
 have h1 : (l : Int) * (n : Int) = ((l * n : Nat) : Int):=by simp
 obtain ⟨s,hs⟩ : ∃ s : Nat,l * n = s:=⟨_,rfl⟩
 rw [h1]
 rw [hs] at r2 ⊢
 clear h1 hs hq
 rw [w64 (x:=((s : Nat) : Int)) (by omega) (by omega),w64 (by omega) (by omega)];simp
theorem MV_nat {n : Int} {l : List Int} (h : MV n l) : ∃ m : Nat,n = (m : Int) ∧ 1 ≤ m ∧ m ≤ 4 ∧ l.length = m * m:=by
 refine ⟨n.toNat,?_⟩
 have h1:=h.1
 have h2:=h.2.1
 have h3:=h.2.2.1
 obtain ⟨m,rfl⟩ : ∃ m : Nat,n = (m : Int):=⟨n.toNat,by omega⟩
 refine ⟨by simp,by simp;omega,by simp;omega,?_⟩
 simp only [Int.toNat_natCast]
 exact_mod_cast h3
def mulE (n : Nat) (a b : List Int) (i k : Nat) : Int:=(List.range n).foldl (fun acc l => mn acc (mx (a.getD (i * n + l) 0) (b.getD (l * n + k) 0))) 3
def mulL (n : Nat) (a b : List Int) : List Int:=sqL n (mulE n a b)
theorem mulL_length (n : Nat) (a b : List Int) : (mulL n a b).length = n * n:=by simp [mulL,sqL,tab_length]
theorem iMulCell (n : Nat) (hn : n ≤ 4) (a b : List Int) (ha : a.length = n * n) (hb : b.length = n * n) (i k : Nat) (hi : i < n) (hk : k < n) :
  Ev (fun K => impl_MulGrades_1.f K (i : Int) (k : Int) (n : Int) a (n : Int) b) (mulE n a b i k):=by
 refine up_loop n (fun l K => impl_MulGrades_1.l0 K i k ((List.range l).foldl (fun acc l => mn acc (mx (a.getD (i * n + l) 0) (b.getD (l * n + k) 0))) 3) n (l : Int) n a n b) _ (fun l hl hs => ?_) ?_
 ·refine Ev.step (fun j => ?_) hs
  simp only [impl_MulGrades_1.l0]
  rw [if_pos (by omega),at_eq n hn a ha i l hi hl,Option.bind_some,at_eq n hn b hb l k hl hk,Option.bind_some,w64 (by omega) (by omega),fold_snoc];rfl
 ·refine Ev.step (f:=fun _ => some (mulE n a b i k)) (fun j => ?_) (Ev.now _)
  simp only [impl_MulGrades_1.l0]
  rw [if_neg (by omega)];rfl
theorem GV_len {n : Nat} {l : List Int} (h : GV (n : Int) l) : l.length = n * n:=by
 have:=h.1.2.2.1
 exact_mod_cast this
theorem GV_le {n : Nat} {l : List Int} (h : GV (n : Int) l) : n ≤ 4 ∧ 1 ≤ n:=by
 have h1:=h.1.1
 have h2:=h.1.2.1
 omega
theorem GV_nat {n : Int} {l : List Int} (h : GV n l) : ∃ m : Nat,n = (m : Int):=⟨n.toNat,by have:=h.1.1;omega⟩
theorem iMul (n : Nat) (a b : List Int) (ha : GV n a) (hb : GV n b) : Ev (fun k => impl_MulGrades.f k n a n b) ((n : Int),mulL n a b,true):=by
 have hn:=(GV_le ha).1
 have hla:=GV_len ha
 have hlb:=GV_len hb
 have hs:=sq_le n hn
 have hm : ∀ l : List Int,l.length = n * n → l.length ≤ maxLen:=fun l h => by rw [maxLen_eq];omega
 refine Ev.congr (f:=?f1) (fun k => ?h1) ?k1
 case h1 => unfold impl_MulGrades.f;exact rfl
 refine Ev.bind (iGV n a (hm a hla)) ?_
 refine Ev.congr (f:=?f2) (fun k => ?h2) ?k2
 case h2 => rw [decide_eq_true ha,if_pos rfl] <;> exact rfl
 refine Ev.bind (iGV n b (hm b hlb)) ?_
 refine Ev.congr (f:=?f3) (fun k => ?h3) ?k3
 case h3 => rw [decide_eq_true hb,if_pos rfl,if_pos rfl] <;> exact rfl
 refine Ev.bind (a:=((n : Int),mulL n a b)) ?_ (Ev.now _)
 exact filled_ev n hn (mulE n a b) (fun K y0 y1 => impl_MulGrades_1.f K y0 y1 n a n b) (fun i hi k hk => iMulCell n hn a b hla hlb i k hi hk)
def mulR (n : Int) (a : List Int) (m : Int) (b : List Int) : Int × List Int × Bool:=if GV n a ∧ GV m b ∧ n = m then (n,mulL n.toNat a b,true) else (0,[],false)
theorem iMul_any (n : Int) (a : List Int) (m : Int) (b : List Int) (ha : a.length ≤ maxLen) (hb : b.length ≤ maxLen) : Ev (fun k => impl_MulGrades.f k n a m b) (mulR n a m b):=by
 by_cases h : GV n a ∧ GV m b ∧ n = m
 ·obtain ⟨h1,h2,rfl⟩:=h
  obtain ⟨z,rfl⟩:=GV_nat h1
  refine (iMul z a b h1 h2).is ?_
  unfold mulR;rw [if_pos ⟨h1,h2,rfl⟩];rfl
 ·have hr : mulR n a m b = (0,[],false):=by unfold mulR;rw [if_neg h]
  rw [hr]
  refine Ev.congr (f:=?f4) (fun k => ?h4) ?k4
  case h4 => unfold impl_MulGrades.f;exact rfl
  refine Ev.bind (iGV n a ha) ?_
  by_cases h1 : GV n a
  ·refine Ev.congr (f:=?f5) (fun k => ?h5) ?k5
   case h5 => rw [decide_eq_true h1,if_pos rfl] <;> exact rfl
   refine Ev.bind (iGV m b hb) ?_
   by_cases h2 : GV m b
   ·exact ev_some (fun k => by rw [decide_eq_true h2,if_pos rfl,if_neg (fun e => h ⟨h1,h2,e⟩)])
   ·exact ev_some (fun k => by rw [decide_eq_false h2];rfl)
  ·exact ev_some (fun k => by rw [decide_eq_false h1];rfl)
theorem sMul (n : Nat) (hn : n ≤ 4) (h0 : 1 ≤ n) (a b : List Int) (hla : a.length = n * n) (hlb : b.length = n * n) : Ev (fun k => spec_l6Mul.f k n a n b) ((n : Int),mulL n a b):=by
 have hs:=sq_le n hn
 have e0 : wrap64 ((n : Int) * (n : Int)) = ((n * n : Nat) : Int):=by
  have : (n : Int) * (n : Int) = ((n * n : Nat) : Int):=by simp
  rw [this,w64 (by omega) (by omega)]
 refine Ev.congr (f:=fun k => spec_l6Mul.l0 k ((n * n : Nat) : Int) ((0 : Nat) : Int) n a n b n (tab 0 (fun m => mulE n a b (m / n) (m % n)))) (fun k => ?_) ?_
 ·unfold spec_l6Mul.f;rw [e0];simp [tab]
 refine up_loop (n * n) (fun m k => spec_l6Mul.l0 k ((n * n : Nat) : Int) (m : Int) n a n b n (tab m (fun m => mulE n a b (m / n) (m % n)))) _ (fun m hm hnext => ?_) ?_
 ·have hi : m / n < n:=Nat.div_lt_of_lt_mul hm
  have hk : m % n < n:=Nat.mod_lt _ (by omega)
  refine Ev.step (f:=fun k => spec_l6Mul.l1 k m ((List.range 0).foldl (fun acc l => mn acc (mx (a.getD (m / n * n + l) 0) (b.getD (l * n + m % n) 0))) 3) ((n * n : Nat) : Int) m n ((0 : Nat) : Int) n a n b n (tab m (fun m => mulE n a b (m / n) (m % n)))) (fun k => ?_) ?_
  ·simp only [spec_l6Mul.l0];rw [if_pos (by omega)];rfl
  refine up_loop n (fun l k => spec_l6Mul.l1 k m ((List.range l).foldl (fun acc l => mn acc (mx (a.getD (m / n * n + l) 0) (b.getD (l * n + m % n) 0))) 3) ((n * n : Nat) : Int) m n (l : Int) n a n b n (tab m (fun m => mulE n a b (m / n) (m % n)))) _ (fun l hl hs2 => ?_) ?_
  ·refine Ev.step (fun j => ?_) hs2
   have c1:=cell_lt n (m / n) l hi hl
   have c2:=cell_lt n l (m % n) hl hk
   have r1:=row_le n (m / n) hn (by omega)
   have r2:=row_le n l hn (by omega)
   have hA : (l : Int) < (n : Int):=by omega
   have hB : ¬ (n : Int) = 0:=by omega
   have hC : (((m / n * n + l : Nat)) : Int) < (a.length : Int):=by rw [hla];exact_mod_cast c1
   have hD : (((l * n + m % n : Nat)) : Int) < (b.length : Int):=by rw [hlb];exact_mod_cast c2
   have hE : wrap64 ((l : Int) + 1) = ((l + 1 : Nat) : Int):=by rw [w64 (by omega) (by omega)];rfl
   have e1:=idx1 n m l hn hi hl
   have e2:=idx2 n m l hn hk hl
   simp only [spec_l6Mul.l1]
   rw [if_pos hA,if_neg hB,e1,e2,if_pos (Int.natCast_nonneg _),if_pos hC,if_pos (Int.natCast_nonneg _),if_pos hD,rd_nat,rd_nat,hE,fold_snoc]
  ·refine Ev.step (fun j => ?_) hnext
   simp only [spec_l6Mul.l1]
   rw [if_neg (by omega),tab_length,if_pos (by omega),w64 (by omega) (by omega)]
   have e : tab m (fun m => mulE n a b (m / n) (m % n)) ++ [mulE n a b (m / n) (m % n)] = tab (m + 1) (fun m => mulE n a b (m / n) (m % n)):=tab_snoc m (fun m => mulE n a b (m / n) (m % n))
   show spec_l6Mul.l0 j _ _ _ _ _ _ _ (tab m (fun m => mulE n a b (m / n) (m % n)) ++ [mulE n a b (m / n) (m % n)]) = _
   rw [e];rfl
 ·refine Ev.step (f:=fun _ => some ((n : Int),mulL n a b)) (fun j => ?_) (Ev.now _)
  simp only [spec_l6Mul.l0]
  rw [if_neg (by omega)];rfl
theorem slicesEq_ev (a b : List Int) (h : a.length ≤ 1000000000) : Ev (fun k => slices_Equal_int_int.f k a b) (decide (a = b)):=by
 by_cases hl : a.length = b.length
 ·have go : ∀ (t u pre : List Int),a = pre ++ t → b = pre ++ u → Ev (fun k => slices_Equal_int_int.l0 k a b (a.length : Int) (pre.length : Int)) (decide (a = b)):=by
   intro t
   induction t with
   | nil =>
    intro u pre ha hb
    have hu : u = []:=by
     have h1:=congrArg List.length ha
     have h2:=congrArg List.length hb
     simp at h1 h2
     exact List.length_eq_zero_iff.mp (by omega)
    subst hu
    have hab : a = b:=by rw [ha,hb]
    refine Ev.step (f:=fun _ => some true) (fun k => ?_) ((Ev.now _).is (by rw [decide_eq_true hab]))
    simp only [slices_Equal_int_int.l0]
    rw [if_neg (by rw [ha];simp)]
   | cons x t ih =>
    intro u pre ha hb
    have hla : a.length = pre.length + (t.length + 1):=by rw [ha];simp
    cases u with
    | nil => have h2:=congrArg List.length hb;simp at h2;omega
    | cons y u =>
     by_cases hxy : x = y
     ·subst hxy
      refine Ev.step (fun k => ?_) (ih u (pre ++ [x]) (by simp [ha]) (by simp [hb]))
      simp only [slices_Equal_int_int.l0]
      rw [if_pos (by omega),if_pos (by omega),if_pos (by omega),if_pos (by omega),w64 (x:=(pre.length : Int) + 1) (by omega) (by omega),snoc_len,if_pos (by rw [ha,hb,rd_mid,rd_mid])]
     ·have hab : ¬ a = b:=by
       intro e
       rw [ha,hb] at e
       have:=List.append_cancel_left e
       simp at this
       exact hxy this.1
      refine Ev.step (f:=fun _ => some false) (fun k => ?_) ((Ev.now _).is (by rw [decide_eq_false hab]))
      simp only [slices_Equal_int_int.l0]
      rw [if_pos (by omega),if_pos (by omega),if_pos (by omega),if_pos (by omega),if_neg (by rw [ha,hb,rd_mid,rd_mid];exact hxy)]
  refine Ev.congr (fun k => ?_) (go a b [] rfl rfl)
  unfold slices_Equal_int_int.f
  rw [if_pos (by omega)];rfl
 ·have hab : ¬ a = b:=fun e => hl (by rw [e])
  refine Ev.congr (f:=fun _ => some false) (fun k => ?_) ((Ev.now _).is (by rw [decide_eq_false hab]))
  unfold slices_Equal_int_int.f
  rw [if_neg (by omega)]
theorem iSame_ev (n : Int) (a : List Int) (m : Int) (b : List Int) (h : a.length ≤ 1000000000) : Ev (fun k => impl_SameMatrix.f k n a m b) (decide (n = m ∧ a = b)):=by
 unfold impl_SameMatrix.f
 by_cases e : n = m
 ·exact Ev_t e (Ev.bind (slicesEq_ev a b h) ((Ev.now _).is (by simp [e])))
 ·exact Ev_f e ((Ev.now _).is (by simp [e]))
theorem sSame_ev (a b : List Int) (hl : a.length = b.length) (h : a.length ≤ 1000000000) : Ev (fun k => spec_l2Same.f k a b) (decide (a = b)):=by
 have go : ∀ (t u pre : List Int),a = pre ++ t → b = pre ++ u → Ev (fun k => spec_l2Same.l0 k a b (a.length : Int) (pre.length : Int)) (decide (a = b)):=by
  intro t
  induction t with
  | nil =>
   intro u pre ha hb
   have hu : u = []:=by
    have h1:=congrArg List.length ha
    have h2:=congrArg List.length hb
    simp at h1 h2
    exact List.length_eq_zero_iff.mp (by omega)
   subst hu
   have hab : a = b:=by rw [ha,hb]
   refine Ev.step (f:=fun _ => some ((a.length : Int) == (b.length : Int))) (fun k => ?_) ((Ev.now _).is (by rw [decide_eq_true hab,hl];simp))
   simp only [spec_l2Same.l0]
   rw [if_neg (by rw [ha];simp)]
  | cons x t ih =>
   intro u pre ha hb
   have hla : a.length = pre.length + (t.length + 1):=by rw [ha];simp
   cases u with
   | nil => have h2:=congrArg List.length hb;simp at h2;omega
   | cons y u =>
    by_cases hxy : x = y
    ·subst hxy
     refine Ev.step (fun k => ?_) (ih u (pre ++ [x]) (by simp [ha]) (by simp [hb]))
     simp only [spec_l2Same.l0]
     rw [if_pos (by omega),if_pos (by omega),if_pos (by omega),if_pos (by omega),w64 (x:=(pre.length : Int) + 1) (by omega) (by omega),snoc_len,if_pos (by rw [ha,hb,rd_mid,rd_mid])]
    ·have hab : ¬ a = b:=by
      intro e
      rw [ha,hb] at e
      have:=List.append_cancel_left e
      simp at this
      exact hxy this.1
     refine Ev.step (f:=fun _ => some false) (fun k => ?_) ((Ev.now _).is (by rw [decide_eq_false hab]))
     simp only [spec_l2Same.l0]
     rw [if_pos (by omega),if_pos (by omega),if_pos (by omega),if_pos (by omega),if_neg (by rw [ha,hb,rd_mid,rd_mid];exact hxy)]
 refine Ev.congr (fun k => ?_) (go a b [] rfl rfl)
 unfold spec_l2Same.f
 have e : mn (a.length : Int) (b.length : Int) = (a.length : Int):=by unfold mn;rw [if_neg (by omega)]
 rw [e];rfl
def Idem (n : Int) (l : List Int) : Prop:=GV n l ∧ mulL n.toNat l l = l
instance (n : Int) (l : List Int) : Decidable (Idem n l):=by unfold Idem;infer_instance
theorem len_of_GV {n : Int} {l : List Int} (h : GV n l) : l.length ≤ 16:=by
 obtain ⟨m,rfl⟩:=GV_nat h
 have h1:=GV_len h
 have h2:=sq_le m (GV_le h).1
 omega
theorem iIdem (n : Int) (l : List Int) (h : l.length ≤ maxLen) : Ev (fun k => impl_IsIdempotent.f k n l) (decide (Idem n l)):=by
 unfold impl_IsIdempotent.f
 refine Ev.bind (iMul_any n l n l h h) ?_
 by_cases g : GV n l
 ·have e : mulR n l n l = (n,mulL n.toNat l l,true):=by unfold mulR;rw [if_pos ⟨g,g,rfl⟩]
  rw [e]
  refine Ev_t rfl ?_
  have h16:=len_of_GV g
  obtain ⟨m,rfl⟩:=GV_nat g
  have h2:=sq_le m (GV_le g).1
  refine Ev.bind (iSame_ev (m : Int) (mulL m l l) m l (by rw [mulL_length];omega)) ((Ev.now _).is ?_)
  rw [Bool.eq_iff_iff]
  simp only [decide_eq_true_eq]
  exact ⟨fun x => ⟨g,x.2⟩,fun x => ⟨by trivial,x.2⟩⟩
 ·have e : mulR n l n l = (0,[],false):=by unfold mulR;rw [if_neg (fun x => g x.1)]
  rw [e]
  exact Ev_f (by simp) ((Ev.now _).is (by rw [decide_eq_false (fun x : Idem n l => g x.1)]))
theorem sIdemG (n : Nat) (l : List Int) (g : GV n l) : Ev (fun k => spec_l6Idempotent.f k n l) (decide (Idem n l)):=by
 have hn:=GV_le g
 have hl:=GV_len g
 have h2:=sq_le n hn.1
 unfold spec_l6Idempotent.f
 refine Ev.bind (sMul n hn.1 hn.2 l l hl hl) ?_
 refine Ev.bind (sSame_ev (mulL n l l) l (by rw [mulL_length,hl]) (by rw [mulL_length];omega)) ((Ev.now _).is ?_)
 rw [Bool.eq_iff_iff]
 simp only [decide_eq_true_eq]
 exact ⟨fun x => ⟨g,x⟩,fun x => x.2⟩
inductive Reads : List UInt8 → List S136 → List UInt8 → Prop
 | done : Reads [] [] []
 | letter (c : UInt8) (e : List UInt8) (ps : List S136) (r : List UInt8) : (c = 97 ∨ c = 98) → Reads e ps r → Reads (c :: e) ((⟨⟨#[c]⟩,[]⟩ : S136) :: ps) r
 | again (e : List UInt8) (w : List S136) (e2 : List UInt8) (ps : List S136) (r : List UInt8) : Reads e w (41 :: 35 :: e2) → w ≠ [] → Reads e2 ps r → Reads (40 :: e) ((⟨⟨#[]⟩,w⟩ : S136) :: ps) r
 | other (c : UInt8) (e : List UInt8) : c ≠ 97 → c ≠ 98 → c ≠ 40 → Reads (c :: e) [] (c :: e)
 | bad (e : List UInt8) (w : List S136) (r1 : List UInt8) : Reads e w r1 → (w = [] ∨ ∀ e2,r1 ≠ 41 :: 35 :: e2) → Reads (40 :: e) [] (40 :: e)
theorem Reads.suffix {e ps r} (h : Reads e ps r) : ∃ v,e = v ++ r:=by
 induction h with
 | done => exact ⟨[],rfl⟩
 | letter c e ps r _ _ ih => obtain ⟨v,rfl⟩:=ih;exact ⟨c :: v,rfl⟩
 | again e w e2 ps r _ _ _ ih1 ih2 =>
  obtain ⟨v1,rfl⟩:=ih1;obtain ⟨v2,rfl⟩:=ih2
  exact ⟨40 :: (v1 ++ 41 :: 35 :: v2),by simp⟩
 | other c e => exact ⟨[],rfl⟩
 | bad e w r1 => exact ⟨[],rfl⟩
theorem Reads.none {e r} (h : Reads e [] r) : r = e:=by cases h <;> rfl
theorem Reads.some {e ps r} (h : Reads e ps r) (hp : ps ≠ []) : r.length < e.length:=by
 cases h with
 | done => exact absurd rfl hp
 | letter c e ps r _ h => obtain ⟨v,rfl⟩:=h.suffix;simp;omega
 | again e w e2 ps r h1 _ h2 => obtain ⟨v1,rfl⟩:=h1.suffix;obtain ⟨v2,rfl⟩:=h2.suffix;simp;omega
 | other c e => exact absurd rfl hp
 | bad e w r1 => exact absurd rfl hp
theorem Reads.le {e ps r} (h : Reads e ps r) : r.length ≤ e.length:=by obtain ⟨v,rfl⟩:=h.suffix;simp
theorem Reads.parts {e ps r} (h : Reads e ps r) : ps.length + r.length ≤ e.length:=by
 induction h with
 | done => simp
 | letter c e ps r _ _ ih => simp;omega
 | again e w e2 ps r h1 _ _ ih1 ih2 => have:=h1.le;simp at *;omega
 | other c e => simp
 | bad e w r1 => simp
theorem reads_all (n : Nat) : ∀ e : List UInt8,e.length ≤ n → ∃ ps r,Reads e ps r:=by
 induction n with
 | zero => intro e h;cases e with
  | nil => exact ⟨[],[],.done⟩
  | cons c e => simp at h
 | succ n ih =>
  intro e h
  cases e with
  | nil => exact ⟨[],[],.done⟩
  | cons c e =>
   simp at h
   by_cases h1 : c = 97 ∨ c = 98
   ·obtain ⟨ps,r,hr⟩:=ih e h;exact ⟨_,_,.letter c e ps r h1 hr⟩
   ·by_cases h2 : c = 40
    ·subst h2
     obtain ⟨w,r1,hw⟩:=ih e h
     by_cases h3 : w = [] ∨ ∀ e2,r1 ≠ 41 :: 35 :: e2
     ·exact ⟨_,_,.bad e w r1 hw h3⟩
     ·obtain ⟨h4,h5⟩:=not_or.mp h3
      obtain ⟨e2,h6⟩:=Classical.not_forall.mp h5
      have h6:=Classical.not_not.mp h6
      subst h6
      have:=hw.le
      obtain ⟨ps,r,hr⟩:=ih e2 (by simp at this;omega)
      exact ⟨_,_,.again e w e2 ps r hw h4 hr⟩
    ·exact ⟨_,_,.other c e (fun h => h1 (.inl h)) (fun h => h1 (.inr h)) h2⟩
def endv (s : ByteArray) (r : List UInt8) (b : Int) : Int :=
 if r = [] ∨ r.head? = some 41 then (if (s.size : Int) - r.length = b then -1 else (s.size : Int) - r.length) else -1
theorem end_stop (s : ByteArray) (u : List UInt8) (b : Int) (x : Bool) (j : Int) (hj : j = u.length) (hx : x = false) :
  Ev (fun k => spec_l7End.j1 k s j b x) (if j = b then -1 else j):=by
 subst hx
 refine Ev.step (f:=fun _ => some (if j = b then -1 else j)) (fun k => ?_) (Ev.now _)
 simp only [spec_l7End.j1]
 rw [if_neg (by simp)]
 split <;> rfl
set_option maxHeartbeats 1000000 in
theorem end_reads {e ps r} (h : Reads e ps r) : ∀ (s : ByteArray) (u : List UInt8) (b : Int),L s = u ++ e → s.size ≤ 1000000 → 0 ≤ b → b ≤ u.length →
  Ev (fun k => spec_l7End.l0 k s u.length b) (endv s r b):=by
 induction h with
 | done =>
  intro s u b hs hn hb0 hb
  have hz:=size_suffix hs
  refine Ev.step (f:=fun k => spec_l7End.j1 k s u.length b false) (fun k => ?_) ?_
  ·simp only [spec_l7End.l0];rw [if_neg (by simp at hz;omega)]
  ·refine (end_stop s u b false _ rfl rfl).is ?_
   simp [endv];simp at hz;rw [hz]
 | letter c e ps r hc h ih =>
  intro s u b hs hn hb0 hb
  have hz:=size_suffix hs
  have hbt:=bt_suffix hs
  simp at hz
  have h41 : ((bt s u.length) != 41) = true:=by rw [hbt];rcases hc with rfl|rfl <;> decide
  refine Ev.step (f:=fun k => spec_l7End.j1 k s u.length b true) (fun k => ?_) ?_
  ·simp only [spec_l7End.l0];rw [if_pos (by omega),if_pos (by omega),h41]
  refine Ev.step (f:=fun k => spec_l7End.j2 k s u.length b true) (fun k => ?_) ?_
  ·simp only [spec_l7End.j1,if_true];rw [if_pos (by omega),if_pos (by omega)]
   rcases hc with rfl|rfl
   ·rw [if_pos (by rw [hbt];rfl)]
   ·rw [if_neg (by rw [hbt];decide),show ((bt s u.length) == 98) = true by rw [hbt];rfl]
  refine Ev.step (f:=fun k => spec_l7End.l0 k s (u ++ [c]).length b) (fun k => ?_) ?_
  ·simp only [spec_l7End.j2,if_true];rw [w64 (by omega) (by omega)];simp
  ·exact ih s (u ++ [c]) b (by simp [hs]) hn hb0 (by simp;omega)
 | again e w e2 ps r h1 hw h2 ih1 ih2 =>
  intro s u b hs hn hb0 hb
  have hz:=size_suffix hs
  have hbt:=bt_suffix hs
  simp at hz
  obtain ⟨v,hv⟩:=h1.suffix
  have hlt:=h1.some hw
  have hs1 : L s = (u ++ [40]) ++ e:=by simp [hs]
  have hs2 : L s = (u ++ 40 :: v) ++ 41 :: (35 :: e2):=by rw [hs,hv];simp
  have hs3 : L s = (u ++ 40 :: v ++ [41]) ++ 35 :: e2:=by rw [hs,hv];simp
  have hs4 : L s = (u ++ 40 :: v ++ [41,35]) ++ e2:=by rw [hs,hv];simp
  have b2:=bt_suffix hs2
  have b3:=bt_suffix hs3
  have z2:=size_suffix hs2
  simp at z2 hlt
  have i1:=ih1 s (u ++ [40]) ((u ++ [40]).length) hs1 hn (by omega) (by omega)
  have he : endv s (41 :: 35 :: e2) ((u ++ [40]).length) = ((u ++ 40 :: v).length : Int):=by
   have hvl : 0 < v.length:=by rw [hv] at hlt;simp at hlt;omega
   unfold endv;rw [if_pos (by simp),if_neg (by simp;omega)];simp;omega
  rw [he] at i1
  have h41 : ((bt s u.length) != 41) = true:=by rw [hbt];rfl
  refine Ev.step (f:=fun k => spec_l7End.j1 k s u.length b true) (fun k => ?_) ?_
  ·simp only [spec_l7End.l0];rw [if_pos (by omega),if_pos (by omega),h41]
  refine Ev.step (f:=fun k => spec_l7End.j2 k s u.length b false) (fun k => ?_) ?_
  ·simp only [spec_l7End.j1,if_true];rw [if_pos (by omega),if_pos (by omega),if_neg (by rw [hbt];decide),show ((bt s u.length) == 98) = false by rw [hbt];rfl]
  have hw1 : wrap64 ((u.length : Int) + 1) = ((u ++ [40]).length : Int):=by rw [w64 (by omega) (by omega)];simp
  refine Ev.step (f:=?f1) (fun k => ?h1) ?k1
  case h1 =>
   simp only [spec_l7End.j2]
   rw [if_neg (by simp),if_pos (by omega),if_pos (by omega),if_pos (by rw [hbt];rfl),hw1] <;> exact rfl
  refine Ev.bind (a:=((u ++ 40 :: v).length : Int)) (Ev.step (fun k => by simp only [spec_l7End.f]) i1) ?_
  simp only [List.length_append,List.length_cons]
  have i2:=ih2 s (u ++ 40 :: v ++ [41,35]) b hs4 hn hb0 (by simp;omega)
  refine Ev.congr (fun k => ?_) i2
  have e1 : wrap64 (((u.length + (v.length + 1) : Nat) : Int) + 1) = (((u ++ 40 :: v ++ [41]).length : Nat) : Int):=by rw [w64 (by omega) (by omega)];simp;omega
  have e2 : wrap64 (((u.length + (v.length + 1) : Nat) : Int) + 2) = (((u ++ 40 :: v ++ [41,35]).length : Nat) : Int):=by rw [w64 (by omega) (by omega)];simp;omega
  rw [e1,e2]
  simp only [List.length_append,List.length_cons,List.length_nil] at b2 b3 ⊢
  rw [if_neg (by omega),if_neg (by omega),if_pos (by omega),if_pos (by omega),if_pos (by rw [b2] <;> rfl),if_pos (by omega),if_pos (by omega),if_pos (by rw [b3] <;> rfl)]
 | other c e c1 c2 c3 =>
  intro s u b hs hn hb0 hb
  have hz:=size_suffix hs
  have hbt:=bt_suffix hs
  simp at hz
  by_cases h41 : c = 41
  ·subst h41
   refine Ev.step (f:=fun k => spec_l7End.j1 k s u.length b false) (fun k => ?_) ?_
   ·simp only [spec_l7End.l0];rw [if_pos (by omega),if_pos (by omega),show ((bt s u.length) != 41) = false by rw [hbt];rfl]
   ·refine (end_stop s u b false _ rfl rfl).is ?_
    have h2 : (s.size : Int) - ((41 :: e : List UInt8).length : Int) = u.length:=by simp only [List.length_cons];omega
    unfold endv;rw [if_pos (c:=(41 :: e : List UInt8) = [] ∨ (41 :: e : List UInt8).head? = some 41) (.inr rfl),h2]
  ·refine Ev.step (f:=fun k => spec_l7End.j1 k s u.length b true) (fun k => ?_) ?_
   ·simp only [spec_l7End.l0];rw [if_pos (by omega),if_pos (by omega),show ((bt s u.length) != 41) = true by rw [hbt];simpa using u8_ne h41]
   refine Ev.step (f:=fun k => spec_l7End.j2 k s u.length b false) (fun k => ?_) ?_
   ·simp only [spec_l7End.j1,if_true];rw [if_pos (by omega),if_pos (by omega),if_neg (by rw [hbt];exact u8_ne c1),show ((bt s u.length) == 98) = false by rw [hbt];simpa using u8_ne c2]
   refine Ev.step (f:=fun _ => some (-1)) (fun k => ?_) ((Ev.now _).is ?_)
   ·simp only [spec_l7End.j2];rw [if_neg (by simp),if_pos (by omega),if_pos (by omega),if_neg (by rw [hbt];exact u8_ne c3)]
   ·unfold endv;rw [if_neg (by simp [h41])]
 | bad e w r1 h1 hw ih =>
  intro s u b hs hn hb0 hb
  have hz:=size_suffix hs
  have hbt:=bt_suffix hs
  simp at hz
  obtain ⟨v,hv⟩:=h1.suffix
  have hs1 : L s = (u ++ [40]) ++ e:=by simp [hs]
  have hs2 : L s = (u ++ 40 :: v) ++ r1:=by rw [hs,hv];simp
  have z2:=size_suffix hs2
  simp at z2
  have i1:=ih s (u ++ [40]) ((u ++ [40]).length) hs1 hn (by omega) (by omega)
  have h41 : ((bt s u.length) != 41) = true:=by rw [hbt];rfl
  refine Ev.step (f:=fun k => spec_l7End.j1 k s u.length b true) (fun k => ?_) ?_
  ·simp only [spec_l7End.l0];rw [if_pos (by omega),if_pos (by omega),h41]
  refine Ev.step (f:=fun k => spec_l7End.j2 k s u.length b false) (fun k => ?_) ?_
  ·simp only [spec_l7End.j1,if_true];rw [if_pos (by omega),if_pos (by omega),if_neg (by rw [hbt];decide),show ((bt s u.length) == 98) = false by rw [hbt];rfl]
  have hw1 : wrap64 ((u.length : Int) + 1) = ((u ++ [40]).length : Int):=by rw [w64 (by omega) (by omega)];simp
  have hend : endv s (40 :: e) b = -1:=by unfold endv;rw [if_neg (by simp)]
  rw [hend]
  refine Ev.step (f:=?f2) (fun k => ?h2) ?k2
  case h2 =>
   simp only [spec_l7End.j2]
   rw [if_neg (by simp),if_pos (by omega),if_pos (by omega),if_pos (by rw [hbt];rfl),hw1] <;> exact rfl
  refine Ev.bind (a:=endv s r1 ((u ++ [40]).length)) (Ev.step (fun k => by simp only [spec_l7End.f]) i1) ?_
  refine Ev.congr (f:=fun _ => some (-1)) (fun k => ?_) (Ev.now _)
  unfold endv
  by_cases hr : r1 = [] ∨ r1.head? = some 41
  ·rw [if_pos hr]
   by_cases hb1 : (s.size : Int) - r1.length = ((u ++ [40]).length : Int)
   ·rw [if_pos hb1,if_pos (by omega)]
   ·rw [if_neg hb1,if_neg (by omega)]
    have e1 : wrap64 ((s.size : Int) - r1.length + 1) = (s.size : Int) - r1.length + 1:=w64 (by omega) (by omega)
    rw [e1]
    rcases hr with rfl|hr
    ·rw [if_pos (by simp;omega)]
    ·cases r1 with
     | nil => simp at hr
     | cons c r2 =>
      simp at hr;subst hr
      cases r2 with
      | nil => rw [if_pos (by simp)]
      | cons c2 r3 =>
       have hs3 : L s = (u ++ 40 :: v ++ [41]) ++ c2 :: r3:=by rw [hs2];simp
       have b2:=bt_suffix hs2
       have b3:=bt_suffix hs3
       simp at z2 b2 b3
       have hj : (s.size : Int) - ((41 :: c2 :: r3 : List UInt8).length : Int) = (u.length : Int) + (v.length + 1):=by simp;omega
       have hwn : w ≠ []:=by
        rintro rfl
        have:=h1.none
        apply hb1
        have hl : e.length = r3.length + 2:=by rw [← this];simp
        simp;omega
       have hc : c2 ≠ 35:=by
        rintro rfl
        rcases hw with h|h
        ·exact hwn h
        ·exact h r3 rfl
       rw [hj,if_neg (by omega),if_pos (by omega),if_pos (by omega),if_pos (by rw [b2] <;> rfl),if_pos (by omega),if_pos (by omega),if_neg (by rw [show (u.length : Int) + (v.length + 1) + 1 = u.length + (v.length + 1 + 1) by omega,b3];exact u8_ne hc)]
  ·rw [if_neg hr,if_pos (by omega)]
def gr (x : Int) : Int:=if x = 0 then 0 else if x = 1000000 then 3 else 1
def gradesR (n : Int) (l : List Int) : Int × List Int × Bool:=if MV n l then (n,l.map gr,true) else (0,[],false)
theorem gradesR_len (n : Int) (l : List Int) (h : l.length ≤ 1048576) : (gradesR n l).2.1.length ≤ 1048576:=by
 unfold gradesR
 by_cases g : MV n l
 ·rw [if_pos g];simpa using h
 ·rw [if_neg g];simp
theorem iGrades (n : Int) (l : List Int) (hl : l.length ≤ maxLen) : Ev (fun k => impl_GradesOf.f k n l) (gradesR n l):=by
 unfold impl_GradesOf.f
 refine Ev.bind (iMV n l hl) ?_
 by_cases g : MV n l
 ·refine Ev_t (decide_eq_true g) ?_
  have e : gradesR n l = (n,l.map gr,true):=by unfold gradesR;rw [if_pos g]
  rw [e]
  obtain ⟨m,rfl,h1,h4,hs⟩:=MV_nat g
  have em : l.map gr = sqL m (fun i k => gr (l.getD (i * m + k) 0)):=by
   rw [eq_sqL m (l.map gr) (by simpa using hs)]
   refine sqL_congr m _ _ (fun i k hi hk => ?_)
   have hc:=cell_lt m i k hi hk
   have hc' : i * m + k < l.length:=by omega
   simp [List.getD_eq_getElem?_getD,List.getElem?_eq_getElem hc']
  rw [em]
  refine Ev.bind (a:=((m : Int),sqL m (fun i k => gr (l.getD (i * m + k) 0)))) ?_ (Ev.now _)
  exact filled_ev m h4 (fun i k => gr (l.getD (i * m + k) 0)) (fun K y0 y1 => impl_GradesOf_1.f y0 y1 m l) (fun i hi k hk => ev_some (fun K => by
   unfold impl_GradesOf_1.f gr
   rw [at_eq m h4 l hs i k hi hk,Option.bind_some]
   by_cases a : l.getD (i * m + k) 0 = 0
   ·rw [if_pos a,if_pos a]
   ·rw [if_neg a,if_neg a]
    by_cases b : l.getD (i * m + k) 0 = 1000000
    ·rw [if_pos b,if_pos b]
    ·rw [if_neg b,if_neg b]))
 ·refine Ev_f (by rw [decide_eq_false g];simp) ((Ev.now _).is ?_)
  unfold gradesR;rw [if_neg g]
theorem sGradesL (n : Int) (l : List Int) (hl : l.length ≤ 1048576) : Ev (fun k => spec_l6Grades.f k n l) (n,l.map gr):=by
 have go : ∀ (t pre : List Int),l = pre ++ t → Ev (fun k => spec_l6Grades.l0 k l (l.length : Int) (pre.length : Int) n (pre.map gr)) (n,l.map gr):=by
  intro t
  induction t with
  | nil =>
   intro pre hp
   refine Ev.step (f:=fun _ => some (n,pre.map gr)) (fun k => ?_) ((Ev.now _).is (by rw [hp];simp))
   simp only [spec_l6Grades.l0];rw [if_neg (by rw [hp];simp)]
  | cons x t ih =>
   intro pre hp
   have hlen : l.length = pre.length + (t.length + 1):=by rw [hp];simp
   have hx : rd l (pre.length : Int) = x:=by rw [hp,rd_mid]
   have hi:=ih (pre ++ [x]) (by simp [hp])
   refine Ev.step (fun k => ?_) hi
   simp only [spec_l6Grades.l0]
   rw [if_pos (by omega),if_pos (by omega),if_pos (by omega),hx,w64 (x:=(pre.length : Int) + 1) (by omega) (by omega),snoc_len,List.map_append,List.map_cons,List.map_nil]
   have hm : (pre.map gr).length < 17592186044416:=by rw [List.length_map];omega
   by_cases a : x = 0
   ·have e : gr x = 0:=by unfold gr;rw [if_pos a]
    rw [if_pos a,if_pos hm,e]
   ·rw [if_neg a]
    by_cases b : x = 1000000
    ·have e : gr x = 3:=by unfold gr;rw [if_neg a,if_pos b]
     rw [if_pos b,if_pos hm,e]
    ·have e : gr x = 1:=by unfold gr;rw [if_neg a,if_neg b]
     rw [if_neg b,if_pos hm,e]
 exact go l [] rfl
end Go.Proofs.Ytfmbpoojpnoafaa.Y
end
section
namespace Go.Proofs.Ytfmbpoojpnoafaa.X
open Go.RowKit Go.Proofs.YtfmbpoojpnoafaaW.PrintWords Go.Proofs.YtfmbpoojpnoafaaW.PrintLast Go.Proofs.YtfmbpoojpnoafaaW.PrintMore
attribute [local go_sem] max2_int min2_int max_two min_two max_three min_three max_four min_four
set_option linter.unusedVariables false
set_option linter.unusedSimpArgs false
def impl_UnitMatrix_1.f (a0 : Int) (a1 : Int) : Option (Int):=if a0 = a1 then (some 0) else (some 1000000)
set_option maxHeartbeats 8000000 in
set_option maxRecDepth 100000 in
theorem impl_UnitMatrix_1.calls (a0 : Int) (a1 : Int) (r : Int) (w : World) (h : impl_UnitMatrix_1.f a0 a1 = some r) :
  Calls Try.prog 134 #[.int .i64 a0,.int .i64 a1] w fun e w' => e = .returned (.int .i64 r) ∧ Drawn0 w w':=by
 have H : (if a0 = a1 then (some 0) else (some 1000000)) = some r:=h
 clear h
 by_cases c3 : a0 = a1
 ·rw [if_pos c3] at H
  have c3b0 : (a0 == a1) = true:=beq_iff_eq.mpr c3
  have c3b1 : (a0 != a1) = false:=bne_eq_false_iff_eq.mpr c3
  clear c3
  obtain rfl:=Option.some.inj H
  go_enter Try.func134,Try.ntmps134
  go_wp2
  go_ret
  exact ⟨by first|rfl|(simp;done)|(simp [*];done),by repeat (first|exact Drawn0.refl _|apply Drawn0.step)⟩
 ·rw [if_neg c3] at H
  have c3b0 : (a0 == a1) = false:=beq_eq_false_iff_ne.mpr c3
  have c3b1 : (a0 != a1) = true:=bne_iff_ne.mpr c3
  obtain rfl:=Option.some.inj H
  go_enter Try.func134,Try.ntmps134
  go_wp2
  go_ret
  exact ⟨by first|rfl|(simp;done)|(simp [*];done),by repeat (first|exact Drawn0.refl _|apply Drawn0.step)⟩
def impl_filled__impl_UnitMatrix_1.f (k : Nat) (a0 : Int) : Option (Int × List Int):=impl_filled.f (fun y0 y1 => impl_UnitMatrix_1.f  y0 y1 ) k a0
theorem impl_filled__impl_UnitMatrix_1.mono : ∀ b0 k,LeO (impl_filled__impl_UnitMatrix_1.f k b0) (impl_filled__impl_UnitMatrix_1.f (k + 1) b0):=by
 intro b0 k
 exact impl_filled.monoP (fun _ _ => LeO.refl _) _ k
set_option maxHeartbeats 2000000 in
theorem impl_filled__impl_UnitMatrix_1.calls (k : Nat) (a0 : Int) (r1 : Int) (r2 : List Int) (w : World) (h : impl_filled__impl_UnitMatrix_1.f k a0 = some (r1,r2)) :
  Calls Try.prog 112 #[.int .i64 a0,.func (.func 134) #[] #[]] w fun e w' => ∃ v1_ : Value,e = .returned (.agg #[.int .i64 r1,v1_]) ∧ Kd.R (Kd.int .i64) 3 w' w.heap.size (fun _ => True) v1_ r2 ∧ Below w.heap.size w w':=by
 refine impl_filled.calls k a0 134 #[] #[] (fun y0 y1 => impl_UnitMatrix_1.f  y0 y1 ) r1 r2 w  ⟨_,Try.func134,rfl,rfl⟩ ?_ h
 intro ay0 ay1 z0 W_ hB_  h_
 refine calls_of_args (args':=#[.int .i64 ay0,.int .i64 ay1]) (by simp) ?_
 refine (impl_UnitMatrix_1.calls ay0 ay1 z0 W_  h_).mono ?_
 rintro e w' ⟨rfl,hd⟩
 exact ⟨rfl,hd.below⟩
def impl_UnitMatrix.f (k : Nat) (a0 : Int) : Option (Int × List Int × Bool):=if a0 < 1 then (some (0,([] : List Int),false)) else (if a0 > 4 then (some (0,([] : List Int),false)) else ((impl_filled__impl_UnitMatrix_1.f k a0).bind fun bt360 => (some (bt360.1,bt360.2,true))))
theorem impl_UnitMatrix.mono : ∀ a0 k,LeO (impl_UnitMatrix.f k a0) (impl_UnitMatrix.f (k + 1) a0):=by
 intro a0 k
 unfold impl_UnitMatrix.f
 repeat' first
   | (with_reducible exact impl_filled__impl_UnitMatrix_1.mono _ _)
   | (with_reducible first|exact LeO.refl _|exact LeO.none _|refine LeO.ite ?_ ?_|refine LeO.bind ?_ (fun _ => ?_))
   | exact impl_filled__impl_UnitMatrix_1.mono _ _
   | exact LeO.none _
   | refine LeO.ite ?_ ?_
   | refine LeO.bind ?_ (fun _ => ?_)
set_option maxHeartbeats 8000000 in
set_option maxRecDepth 100000 in
theorem impl_UnitMatrix.calls (k : Nat) (a0 : Int) (r1 : Int) (r2 : List Int) (r3 : Bool) (w : World) (h : impl_UnitMatrix.f k a0 = some (r1,r2,r3)) :
  Calls Try.prog 79 #[.int .i64 a0] w fun e w' => ∃ v1_ : Value,e = .returned (.tuple #[.agg #[.int .i64 r1,v1_],.bool r3]) ∧ Kd.R (Kd.int .i64) 3 w' w.heap.size (fun _ => True) v1_ r2 ∧ Below w.heap.size w w':=by
 have hu35:=Try.underlying35
 have HB:=Aside0.mk (Below.refl w.heap.size w)
 have H : (if a0 < 1 then (some (0,([] : List Int),false)) else (if a0 > 4 then (some (0,([] : List Int),false)) else ((impl_filled__impl_UnitMatrix_1.f k a0).bind fun bt360 => (some (bt360.1,bt360.2,true))))) = some (r1,r2,r3):=h
 clear h
 by_cases c2 : a0 < 1
 ·rw [if_pos c2] at H
  have c2b0 : decide (a0 < 1) = true:=decide_eq_true c2
  clear c2
  simp only [Option.some.injEq,Prod.mk.injEq] at H
  obtain ⟨rfl,rfl,rfl⟩:=H
  go_enter Try.func79,Try.ntmps79
  go_wp2_with (first|((with_reducible refine bev_ (N:=2) rfl rfl (cs:=#[.int .i64 0,.slice none 0 0]) (t:=35) ?hr ?_);(case hr => first|(go_simp;done)|(go_simp;rfl));intro gb359 hg w3 hbox hb;have BK359:=Aside0.mk (hbox);have GW359:=Aside0.mk (szg_ hg (below_size (be0_ HB.out)));have GE359:=GW359;replace HB:=Aside0.mk (below_step (be0_ HB.out) hb);clear hb hbox hg;obtain ⟨hcz4_0,hcz4_1,hfz4_0,hfz4_1⟩:=cf2_ BK359.out))
  refine bodyPost_ret (results_ct rfl _ _ gb359 35 #[.int .i64 0,.slice none 0 0] (0,0) _ rfl (by refine pe_ ?_;refine blk_put (cs:=#[.int .i64 0,.slice none 0 0]) ?_ 1 _ rfl;refine pe_ ?_;refine blk_put (cs:=#[.int .i64 0,.slice none 0 0]) ?_ 0 _ rfl;refine pe_ ?_;exact BK359.out) Try.underlying35 rfl (by kernel_rfl)) rfl ?_
  exact ⟨_,er_,by first|exact Kd.R_nil _ _ _ _ _|exact Kd.N_nil _ _ _ _ _|exact Kd.V_nil _ _ _ _ _|exact Kd.Q_nil _ _ _ _ _|exact Kd.S_nil _ _ _ _ _,be1_ HB.out GE359.out⟩
 ·rw [if_neg c2] at H
  have c2b0 : decide (a0 < 1) = false:=decide_eq_false c2
  clear c2
  by_cases c5 : a0 > 4
  ·rw [if_pos c5] at H
   have c5b0 : decide (4 < a0) = true:=decide_eq_true c5
   clear c5
   simp only [Option.some.injEq,Prod.mk.injEq] at H
   obtain ⟨rfl,rfl,rfl⟩:=H
   go_enter Try.func79,Try.ntmps79
   go_wp2_with (first|((with_reducible refine bev_ (N:=2) rfl rfl (cs:=#[.int .i64 0,.slice none 0 0]) (t:=35) ?hr ?_);(case hr => first|(go_simp;done)|(go_simp;rfl));intro gb359 hg w6 hbox hb;have BK359:=Aside0.mk (hbox);have GW359:=Aside0.mk (szg_ hg (below_size (be0_ HB.out)));have GE359:=GW359;replace HB:=Aside0.mk (below_step (be0_ HB.out) hb);clear hb hbox hg;obtain ⟨hcz7_0,hcz7_1,hfz7_0,hfz7_1⟩:=cf2_ BK359.out))
   refine bodyPost_ret (results_ct rfl _ _ gb359 35 #[.int .i64 0,.slice none 0 0] (0,0) _ rfl (by refine pe_ ?_;refine blk_put (cs:=#[.int .i64 0,.slice none 0 0]) ?_ 1 _ rfl;refine pe_ ?_;refine blk_put (cs:=#[.int .i64 0,.slice none 0 0]) ?_ 0 _ rfl;refine pe_ ?_;exact BK359.out) Try.underlying35 rfl (by kernel_rfl)) rfl ?_
   exact ⟨_,er_,by first|exact Kd.R_nil _ _ _ _ _|exact Kd.N_nil _ _ _ _ _|exact Kd.V_nil _ _ _ _ _|exact Kd.Q_nil _ _ _ _ _|exact Kd.S_nil _ _ _ _ _,be1_ HB.out GE359.out⟩
  ·rw [if_neg c5] at H
   have c5b0 : decide (4 < a0) = false:=decide_eq_false c5
   clear c5
   replace H:=Option.bind_eq_some_iff.mp H
   obtain ⟨⟨t360,t361⟩,A80,H⟩:=H
   replace H : (some (t360,t361,true)) = some (r1,r2,r3):=H
   have A8:=Aside0.mk A80
   clear A80
   simp only [Option.some.injEq,Prod.mk.injEq] at H
   obtain ⟨rfl,rfl,rfl⟩:=H
   go_enter Try.func79,Try.ntmps79
   go_wp2_with (first|((with_reducible refine bev_ (N:=2) rfl rfl (cs:=#[.int .i64 0,.slice none 0 0]) (t:=35) ?hr ?_);(case hr => first|(go_simp;done)|(go_simp;rfl));intro gb359 hg w9 hbox hb;have BK359:=Aside0.mk (hbox);have GW359:=Aside0.mk (szg_ hg (below_size (be0_ HB.out)));have GE359:=GW359;replace HB:=Aside0.mk (below_step (be0_ HB.out) hb);clear hb hbox hg)|((with_reducible refine gate_callee (f:=112) rfl ?_);refine goesL_ (some 12) rfl rfl Try.func112 (by kernel_rfl) rfl #[.int .i64 a0,.func (.func 134) #[] #[]] rfl lp_ ?_;(with_reducible refine (impl_filled__impl_UnitMatrix_1.calls k a0 t360 t361 _ A8.out).mono ?_);rintro e w10 ⟨v362,rfl,ho0,hb⟩;refine ⟨_,rfl,?_⟩;have HO363:=Aside0.mk (Kd.R_lower ho0 (below_size (be1_ HB.out GE359.out)));replace BK359:=kc_ BK359 hb;replace HB:=Aside0.mk (below_step (be1_ HB.out GE359.out) hb);(try clear hb);(try clear hb2);(try clear hk);(try clear hi);(try clear ho0);obtain ⟨hcz11_0,hcz11_1,hfz11_0,hfz11_1⟩:=cf2_ BK359.out;obtain ⟨Ao12,co12,eo12⟩:=Kd.R_slice HO363.out;subst eo12))
   refine bodyPost_ret (results_ct rfl _ _ gb359 35 #[.int .i64 t360,.slice Ao12 t361.length co12] (0,0) _ rfl (by refine pe_ ?_;refine blk_put (cs:=#[.int .i64 t360,.slice none 0 0]) ?_ 1 _ rfl;refine pe_ ?_;refine blk_put (cs:=#[.int .i64 0,.slice none 0 0]) ?_ 0 _ rfl;refine pe_ ?_;exact BK359.out) Try.underlying35 rfl (by kernel_rfl)) rfl ?_
   exact ⟨_,er_,by refine pr_ ?_;exact Kd.R_mono (Kd.R_far (p:=⟨gb359,1,none⟩) (Kd.R_far (p:=⟨gb359,0,none⟩) (Kd.R_types HO363.out BK359.out (by decide)) (fun _ hk => hk.2) (.int .i64 t360)) (fun _ hk => hk.2) (.slice Ao12 t361.length co12)) (fun _ hk => trivial),be1_ HB.out GE359.out⟩
end Go.Proofs.Ytfmbpoojpnoafaa.X
end
section
namespace Go.Proofs.Ytfmbpoojpnoafaa.Y
open Go.RowKit Go.Proofs.Ytfmbpoojpnoafaa.X Go.Proofs.YtfmbpoojpnoafaaW.PrintWords Go.Proofs.YtfmbpoojpnoafaaW.PrintLast Go.Proofs.YtfmbpoojpnoafaaW.PrintMore
set_option linter.unusedVariables false
set_option linter.unusedSimpArgs false
def unitE (i k : Nat) : Int:=if i = k then 0 else 1000000
def oneE (i k : Nat) : Int:=if i = k then 0 else 3
theorem iUnit (n : Nat) (h1 : 1 ≤ n) (h4 : n ≤ 4) : Ev (fun k => impl_UnitMatrix.f k (n : Int)) ((n : Int),sqL n unitE,true):=by
 unfold impl_UnitMatrix.f
 refine Ev_f (by omega) (Ev_f (by omega) ?_)
 refine Ev.bind (a:=((n : Int),sqL n unitE)) ?_ (Ev.now _)
 refine filled_ev n h4 unitE (fun _ y0 y1 => impl_UnitMatrix_1.f y0 y1) (fun i hi k hk => ?_)
 refine Ev.congr (f:=fun _ => some (unitE i k)) (fun _ => ?_) (Ev.now _)
 unfold impl_UnitMatrix_1.f unitE
 by_cases e : i = k
 ·subst e;rw [if_pos rfl,if_pos rfl]
 ·rw [if_neg (by omega),if_neg e]
theorem unit_MV (n : Nat) (h1 : 1 ≤ n) (h4 : n ≤ 4) : MV (n : Int) (sqL n unitE):=by
 refine ⟨by omega,by omega,?_,?_⟩
 ·unfold sqL;rw [tab_length];exact_mod_cast rfl
 ·intro x hx
  unfold sqL tab at hx
  obtain ⟨m,_,rfl⟩:=List.mem_map.mp hx
  unfold unitE
  by_cases e : m / n = m % n
  ·simp only [e,if_true];omega
  ·rw [if_neg e];omega
theorem MV_of {n : Nat} (h1 : 1 ≤ n) (h4 : n ≤ 4) (g : Nat → Nat → Int) (h : ∀ i k,i < n → k < n → 0 ≤ g i k ∧ g i k ≤ 1000000) : MV (n : Int) (sqL n g):=by
 refine ⟨by omega,by omega,?_,?_⟩
 ·unfold sqL;rw [tab_length];exact_mod_cast rfl
 ·intro x hx
  unfold sqL at hx
  obtain ⟨j,hj,rfl⟩:=mem_tab.mp hx
  exact h _ _ (Nat.div_lt_of_lt_mul hj) (Nat.mod_lt _ (by omega))
theorem MV_len {n : Nat} {l : List Int} (h : MV (n : Int) l) : l.length = n * n:=by
 have:=h.2.2.1
 exact_mod_cast this
theorem MV_at {n : Nat} {l : List Int} (h : MV (n : Int) l) (i k : Nat) (hi : i < n) (hk : k < n) : 0 ≤ l.getD (i * n + k) 0 ∧ l.getD (i * n + k) 0 ≤ 1000000:=by
 have hc:=cell_lt n i k hi hk
 have hl:=MV_len h
 rw [List.getD_eq_getElem?_getD,List.getElem?_eq_getElem (by omega)]
 exact h.2.2.2 _ (List.getElem_mem _)
theorem MV_max {n : Nat} {l : List Int} (h : MV (n : Int) l) : l.length ≤ maxLen:=by
 have h1:=h.2.1
 have:=sq_le n (by omega)
 have:=MV_len h
 rw [maxLen_eq];omega
theorem sUnit (n : Nat) (h1 : 1 ≤ n) (h4 : n ≤ 4) : Ev (fun k => spec_l2Unit.f k (n : Int)) ((n : Int),sqL n unitE):=by
 have hs:=sq_le n h4
 have e0 : wrap64 ((n : Int) * (n : Int)) = ((n * n : Nat) : Int):=by
  have : (n : Int) * (n : Int) = ((n * n : Nat) : Int):=by simp
  rw [this,w64 (by omega) (by omega)]
 refine Ev.congr (f:=fun k => spec_l2Unit.l0 k (n : Int) ((n * n : Nat) : Int) ((0 : Nat) : Int) n (tab 0 (fun m => unitE (m / n) (m % n)))) (fun k => ?_) ?_
 ·unfold spec_l2Unit.f;rw [e0];simp [tab]
 refine up_loop (n * n) (fun m k => spec_l2Unit.l0 k (n : Int) ((n * n : Nat) : Int) (m : Int) n (tab m (fun m => unitE (m / n) (m % n)))) _ (fun m hm hnext => ?_) ?_
 ·have hi : m / n < n:=Nat.div_lt_of_lt_mul hm
  have e1 : wrap64 (Int.tdiv (m : Int) (n : Int)) = ((m / n : Nat) : Int):=by
   rw [tdiv_nat]
   obtain ⟨q,hq⟩ : ∃ q : Nat,m / n = q:=⟨_,rfl⟩
   rw [hq] at hi ⊢
   exact w64 (by omega) (by omega)
  have e2 : Int.tmod (m : Int) (n : Int) = ((m % n : Nat) : Int):=tmod_nat m n
  have e : tab m (fun m => unitE (m / n) (m % n)) ++ [unitE (m / n) (m % n)] = tab (m + 1) (fun m => unitE (m / n) (m % n)):=tab_snoc m (fun m => unitE (m / n) (m % n))
  refine Ev.step (fun k => ?_) hnext
  simp only [spec_l2Unit.l0]
  rw [if_pos (by omega),if_neg (by omega),e1,e2,tab_length]
  by_cases h : m / n = m % n
  ·have hu : unitE (m / n) (m % n) = 0:=by unfold unitE;rw [if_pos h]
   rw [hu] at e
   rw [if_pos (by rw [h]),if_pos (by omega),w64 (by omega) (by omega),e];rfl
  ·have hu : unitE (m / n) (m % n) = 1000000:=by unfold unitE;rw [if_neg h]
   rw [hu] at e
   rw [if_neg (by intro g;exact h (by exact_mod_cast g)),if_pos (by omega),w64 (by omega) (by omega),e];rfl
 ·refine Ev.step (f:=fun _ => some ((n : Int),sqL n unitE)) (fun j => ?_) (Ev.now _)
  simp only [spec_l2Unit.l0]
  rw [if_neg (by omega)];rfl
def stepL (n : Nat) (c : List UInt8) (t : List S92) (l : List Int) : List Int:=t.foldl (fun (l : List Int) (s : S92) => if s.f1.toList = c then l.set (s.f0 * (n : Int) + s.f2).toNat s.f3 else l) l
def cst (n : Nat) : List Int:=List.replicate (n * n) 1000000
theorem stepL_len (n : Nat) (c : List UInt8) : ∀ (t : List S92) (l : List Int),(stepL n c t l).length = l.length:=by
 intro t
 induction t with
 | nil => intro l;rfl
 | cons s t ih =>
  intro l
  show (stepL n c t (if s.f1.toList = c then l.set (s.f0 * n + s.f2).toNat s.f3 else l)).length = l.length
  rw [ih]
  by_cases h : s.f1.toList = c
  ·rw [if_pos h,List.length_set]
  ·rw [if_neg h]
theorem stp_mem {n : Int} : ∀ {t : List S92} {p : Option S92},stp n p t = true → ∀ x ∈ t,stepOk n x = true
 | [],_,_,x,hx => by cases hx
 | y :: t,p,h,x,hx => by
  simp only [stp,Bool.and_eq_true] at h
  rcases List.mem_cons.mp hx with rfl|hx
  ·exact h.1.1
  ·exact stp_mem h.2 x hx
theorem stepL_MV (n : Nat) (h1 : 1 ≤ n) (h4 : n ≤ 4) (c : List UInt8) : ∀ (t : List S92) (l : List Int),(∀ x ∈ t,stepOk n x = true) → MV (n : Int) l → MV (n : Int) (stepL n c t l):=by
 intro t
 induction t with
 | nil => intro l _ h;exact h
 | cons s t ih =>
  intro l ht h
  show MV (n : Int) (stepL n c t (if s.f1.toList = c then l.set (s.f0 * n + s.f2).toNat s.f3 else l))
  refine ih _ (fun x hx => ht x (List.mem_cons_of_mem _ hx)) ?_
  by_cases e : s.f1.toList = c
  ·rw [if_pos e]
   refine ⟨h.1,h.2.1,by rw [List.length_set];exact h.2.2.1,fun x hx => ?_⟩
   rcases List.mem_or_eq_of_mem_set hx with hx|rfl
   ·exact h.2.2.2 x hx
   ·have o:=of_decide_eq_true (show decide _ = true from ht s (by simp));omega
  ·rw [if_neg e];exact h
theorem cst_MV (n : Nat) (h1 : 1 ≤ n) (h4 : n ≤ 4) : MV (n : Int) (cst n):=by
 refine ⟨by omega,by omega,?_,fun x hx => ?_⟩
 ·unfold cst;rw [List.length_replicate];exact_mod_cast rfl
 ·rw [(List.mem_replicate.mp hx).2];omega
theorem cst_sq (n : Nat) : sqL n (fun _ _ => 1000000) = cst n:=by
 unfold sqL tab cst
 rw [List.map_const',List.length_range]
theorem iStepLoop (n : Nat) (h1 : 1 ≤ n) (h4 : n ≤ 4) (s f : List Int) (x : ByteArray) (t : List S92) (ht : ∀ y ∈ t,stepOk n y = true) (hl : t.length ≤ 1000000000) (l : List Int) (hc : l.length = n * n) :
  Ev (fun k => impl_StepMatrix.l0 k x t (t.length : Int) 0 n l) ((n : Int),stepL n x.toList t l,true):=by
 have go : ∀ (u pre : List S92) (l : List Int),t = pre ++ u → l.length = n * n → Ev (fun k => impl_StepMatrix.l0 k x t (t.length : Int) (pre.length : Int) n l) ((n : Int),stepL n x.toList u l,true):=by
  intro u
  induction u with
  | nil =>
   intro pre l hp _
   refine Ev.step (f:=fun _ => some ((n : Int),l,true)) (fun k => ?_) (Ev.now _)
   simp only [impl_StepMatrix.l0];rw [if_neg (by rw [hp];simp)]
  | cons y u ih =>
   intro pre l hp hc
   have hlen : t.length = pre.length + (u.length + 1):=by rw [hp];simp
   have hx : rd_T92 t (pre.length : Int) = y:=by rw [hp,rdS_mid]
   have o:=of_decide_eq_true (show decide _ = true from ht y (by rw [hp];simp))
   have c:=cellZ (n:=(n : Int)) (i:=y.f0) (k:=y.f2) (by omega) (by omega) (by omega)
   have cw:=cellW (n:=(n : Int)) (i:=y.f0) (k:=y.f2) (by omega) (by omega) (by omega)
   have hc2 : (l.length : Int) = (n : Int) * (n : Int):=by rw [hc];simp
   by_cases e : y.f1.toList = x.toList
   ·refine Ev.step (fun k => ?_) ((ih (pre ++ [y]) (l.set (y.f0 * n + y.f2).toNat y.f3) (by simp [hp]) (by rw [List.length_set];exact hc)).is ?_)
    ·simp only [impl_StepMatrix.l0]
     rw [if_pos (by omega),if_pos (by omega),if_pos (by omega),hx,if_pos e,cw,if_pos (by omega),if_pos (by omega),w64 (x:=(pre.length : Int) + 1) (by omega) (by omega),snocA]
    ·show _ = ((n : Int),stepL n x.toList u (if y.f1.toList = x.toList then l.set (y.f0 * n + y.f2).toNat y.f3 else l),true)
     rw [if_pos e]
   ·refine Ev.step (fun k => ?_) ((ih (pre ++ [y]) l (by simp [hp]) hc).is ?_)
    ·simp only [impl_StepMatrix.l0]
     rw [if_pos (by omega),if_pos (by omega),if_pos (by omega),hx,if_neg e,w64 (x:=(pre.length : Int) + 1) (by omega) (by omega),snocA]
    ·show _ = ((n : Int),stepL n x.toList u (if y.f1.toList = x.toList then l.set (y.f0 * n + y.f2).toNat y.f3 else l),true)
     rw [if_neg e]
 exact go t [] l rfl hc
theorem sStepLoop (n : Nat) (h1 : 1 ≤ n) (h4 : n ≤ 4) (s f : List Int) (x : ByteArray) (t : List S92) (ht : ∀ y ∈ t,stepOk n y = true) (hl : t.length ≤ 1000000000) (l : List Int) (hc : l.length = n * n) :
  Ev (fun k => spec_l3Matrix.l1 k x t (t.length : Int) 0 n s f t n l) ((n : Int),stepL n x.toList t l):=by
 have go : ∀ (u pre : List S92) (l : List Int),t = pre ++ u → l.length = n * n → Ev (fun k => spec_l3Matrix.l1 k x t (t.length : Int) (pre.length : Int) n s f t n l) ((n : Int),stepL n x.toList u l):=by
  intro u
  induction u with
  | nil =>
   intro pre l hp _
   refine Ev.step (f:=fun _ => some ((n : Int),l)) (fun k => ?_) (Ev.now _)
   simp only [spec_l3Matrix.l1];rw [if_neg (by rw [hp];simp)]
  | cons y u ih =>
   intro pre l hp hc
   have hlen : t.length = pre.length + (u.length + 1):=by rw [hp];simp
   have hx : rd_T92 t (pre.length : Int) = y:=by rw [hp,rdS_mid]
   have o:=of_decide_eq_true (show decide _ = true from ht y (by rw [hp];simp))
   have c:=cellZ (n:=(n : Int)) (i:=y.f0) (k:=y.f2) (by omega) (by omega) (by omega)
   have cw:=cellW (n:=(n : Int)) (i:=y.f0) (k:=y.f2) (by omega) (by omega) (by omega)
   have hc2 : (l.length : Int) = (n : Int) * (n : Int):=by rw [hc];simp
   by_cases e : y.f1.toList = x.toList
   ·refine Ev.step (fun k => ?_) ((ih (pre ++ [y]) (l.set (y.f0 * n + y.f2).toNat y.f3) (by simp [hp]) (by rw [List.length_set];exact hc)).is ?_)
    ·simp only [spec_l3Matrix.l1]
     rw [if_pos (by omega),if_pos (by omega),if_pos (by omega),hx,if_pos e,cw,if_pos (by omega),if_pos (by omega),w64 (x:=(pre.length : Int) + 1) (by omega) (by omega),snocA]
    ·show _ = ((n : Int),stepL n x.toList u (if y.f1.toList = x.toList then l.set (y.f0 * n + y.f2).toNat y.f3 else l))
     rw [if_pos e]
   ·refine Ev.step (fun k => ?_) ((ih (pre ++ [y]) l (by simp [hp]) hc).is ?_)
    ·simp only [spec_l3Matrix.l1]
     rw [if_pos (by omega),if_pos (by omega),if_pos (by omega),hx,if_neg e,w64 (x:=(pre.length : Int) + 1) (by omega) (by omega),snocA]
    ·show _ = ((n : Int),stepL n x.toList u (if y.f1.toList = x.toList then l.set (y.f0 * n + y.f2).toNat y.f3 else l))
     rw [if_neg e]
 exact go t [] l rfl hc
theorem sLetter (n : Nat) (h1 : 1 ≤ n) (h4 : n ≤ 4) (s f : List Int) (x : ByteArray) (t : List S92) (ht : ∀ y ∈ t,stepOk n y = true) (hl : t.length ≤ 1000000000) :
  Ev (fun k => spec_l3Matrix.f k n s f t x) ((n : Int),stepL n x.toList t (cst n)):=by
 have hs:=sq_le n h4
 have e0 : wrap64 ((n : Int) * (n : Int)) = ((n * n : Nat) : Int):=by
  have : (n : Int) * (n : Int) = ((n * n : Nat) : Int):=by simp
  rw [this,w64 (by omega) (by omega)]
 refine Ev.congr (f:=fun k => spec_l3Matrix.l0 k x ((n * n : Nat) : Int) ((0 : Nat) : Int) n s f t n (List.replicate 0 1000000)) (fun k => ?_) ?_
 ·unfold spec_l3Matrix.f;rw [e0];rfl
 refine up_loop (n * n) (fun m k => spec_l3Matrix.l0 k x ((n * n : Nat) : Int) (m : Int) n s f t n (List.replicate m 1000000)) _ (fun m hm hnext => ?_) ?_
 ·refine Ev.step (fun k => ?_) hnext
  simp only [spec_l3Matrix.l0]
  rw [if_pos (by omega),List.length_replicate,if_pos (by omega),w64 (by omega) (by omega),← List.replicate_succ'];rfl
 ·refine Ev.step (fun k => ?_) (sStepLoop n h1 h4 s f x t ht hl (cst n) (by unfold cst;rw [List.length_replicate]))
  simp only [spec_l3Matrix.l0]
  rw [if_neg (by omega)];rfl
theorem iLetter (n : Nat) (s f : List Int) (x : ByteArray) (t : List S92) (hv : AV n s f t = true) (hs : s.length ≤ 1000000000) (hf : f.length ≤ 1000000000) (hl : t.length ≤ 1000000000) (hx : x.toList = ([97] : List UInt8) ∨ x.toList = ([98] : List UInt8)) :
  Ev (fun k => impl_StepMatrix.f k n s f t x) ((n : Int),stepL n x.toList t (cst n),true):=by
 obtain ⟨h1,h2,h3,h4,h5⟩:=AV_parts hv
 unfold impl_StepMatrix.f
 refine Ev.bind (iAV n s f t hs hf hl) (Ev_t hv ?_)
 have main : Ev (fun k => impl_StepMatrix.j0 k x false n s f t) ((n : Int),stepL n x.toList t (cst n),true):=by
  refine Ev.step (f:=?f1) (fun k => ?h1) ?k1
  case h1 => simp only [impl_StepMatrix.j0];rw [if_neg (by simp)] <;> exact rfl
  refine Ev.bind (a:=((n : Int),cst n)) ?_ (iStepLoop n (by omega) (by omega) s f x t (stp_mem h5) hl (cst n) (by unfold cst;rw [List.length_replicate]))
  have:=filled_ev n (by omega) (fun _ _ => 1000000) (fun K y0 y1 => impl_StepMatrix_1.f y0 y1) (fun i _ k _ => ev_some (fun K => rfl))
  rw [cst_sq] at this
  exact this
 by_cases e : x.toList = ([97] : List UInt8)
 ·exact Ev_t e main
 ·refine Ev_f e ?_
  have e2:=hx.resolve_left e
  rw [e2,bne_self_eq_false,← e2]
  exact main
def letL (n : Nat) (t : List S92) (c : UInt8) : List Int:=stepL n [c] t (cst n)
theorem letL_MV (n : Nat) (h1 : 1 ≤ n) (h4 : n ≤ 4) (t : List S92) (ht : ∀ y ∈ t,stepOk n y = true) (c : UInt8) : MV (n : Int) (letL n t c):=stepL_MV n h1 h4 [c] t (cst n) ht (cst_MV n h1 h4)
theorem rd_at (pre : List S136) (p : S136) (ps : List S136) : rd_T136 (pre ++ p :: ps) (pre.length : Int) = p:=by
 simp [rd_T136,List.getD_eq_getElem?_getD]
theorem next_letter (x : ByteArray) (c : UInt8) (e : List UInt8) (hx : L x = c :: e) (hc : c = 97 ∨ c = 98) : Ev (fun k => spec_l7Next.f k x) (⟨#[c]⟩,false,⟨e.toArray⟩):=by
 have hz : x.size = e.length + 1:=by rw [L_size,hx];simp
 have hbt : bt x 0 = (c.toNat : Int):=by rw [bt_L,hx];simp
 have h0 : x.extract 0 1 = ⟨#[c]⟩:=L_inj (by rw [L_extract,hx];simp [L])
 have h1 : x.extract 1 x.size = ⟨e.toArray⟩:=L_inj (by rw [L_extract,hx,L_mk,L_size,hx];simp)
 refine Ev.congr (f:=fun _ => some (⟨#[c]⟩,false,⟨e.toArray⟩)) (fun k => ?_) (Ev.now _)
 unfold spec_l7Next.f
 rw [if_pos (by omega),if_neg (by rw [hbt];rcases hc with rfl|rfl <;> decide),if_pos (by omega),if_pos (by omega),h0,h1]
theorem next_again (x : ByteArray) (e v e2 : List UInt8) (w : List S136) (hx : L x = 40 :: e) (hv : e = v ++ 41 :: 35 :: e2) (h : Reads e w (41 :: 35 :: e2)) (hw : w ≠ []) (hn : x.size ≤ 1000000) :
  Ev (fun k => spec_l7Next.f k x) (⟨v.toArray⟩,true,⟨e2.toArray⟩):=by
 have hz : x.size = e.length + 1:=by rw [L_size,hx];simp
 have hel : e.length = v.length + 2 + e2.length:=by rw [hv];simp;omega
 have hbt : bt x 0 = 40:=by rw [bt_L,hx];rfl
 have hlt:=h.some hw
 simp only [List.length_cons] at hlt
 have h1:=end_reads h x [40] 1 (by simp [hx]) hn (by omega) (by simp)
 have he : endv x (41 :: 35 :: e2) 1 = ((v.length + 1 : Nat) : Int):=by
  unfold endv;rw [if_pos (.inr rfl),if_neg (by simp only [List.length_cons];omega)];simp only [List.length_cons];omega
 rw [he] at h1
 refine Ev.congr (f:=?f1) (fun k => ?h1) ?k1
 case h1 => unfold spec_l7Next.f;rw [if_pos (by omega),if_pos hbt] <;> exact rfl
 refine Ev.bind (Ev.step (fun k => by simp only [spec_l7End.f];rfl) h1) ?_
 have e1 : x.extract 1 (v.length + 1) = ⟨v.toArray⟩:=L_inj (by rw [L_extract,hx,L_mk,hv];simp)
 have e2' : x.extract (v.length + 3) x.size = ⟨e2.toArray⟩:=L_inj (by rw [L_extract,hx,L_mk e2,List.take_of_length_le (by rw [List.length_cons,hz];exact Nat.le_refl _),hv,show (40 :: (v ++ 41 :: 35 :: e2) : List UInt8) = (40 :: v ++ [41,35]) ++ e2 by simp,List.drop_left' (by simp)])
 refine Ev.congr (f:=fun _ => some (⟨v.toArray⟩,true,⟨e2.toArray⟩)) (fun k => ?_) (Ev.now _)
 rw [w64 (by omega) (by omega),if_pos (by omega),if_pos (by omega),if_pos (by omega),if_pos (by omega)]
 rw [show (((v.length + 1 : Nat) : Int) + 2).toNat = v.length + 3 by omega,Int.toNat_natCast,e1,e2']
theorem reads_cut {e w r} (h : Reads e w r) : (r = [] ∨ r.head? = some 41) → ∀ v,e = v ++ r → ∀ r',(r' = [] ∨ r'.head? = some 41) → Reads (v ++ r') w r':=by
 have stop : ∀ r' : List UInt8,(r' = [] ∨ r'.head? = some 41) → Reads r' [] r':=by
  intro r' h
  rcases h with rfl|h
  ·exact .done
  ·cases r' with
   | nil => simp at h
   | cons c t => simp at h;subst h;exact .other 41 t (by decide) (by decide) (by decide)
 have self : ∀ (e v : List UInt8),e = v ++ e → v = []:=by
  intro e v h
  have h3:=congrArg List.length h
  simp at h3
  exact h3
 induction h with
 | done => intro _ v hv r' hr';rw [self _ _ hv];exact stop r' hr'
 | other c e => intro _ v hv r' hr';rw [self _ _ hv];exact stop r' hr'
 | bad e w r1 => intro hr v hv r' hr';simp at hr
 | letter c e ps r hc h ih =>
  intro hr v hv r' hr'
  cases v with
  | nil =>
   have h3:=congrArg List.length hv
   have:=h.le
   simp at h3
   omega
  | cons d v =>
   simp at hv
   obtain ⟨rfl,hv⟩:=hv
   exact .letter c (v ++ r') ps r' hc (ih hr v hv r' hr')
 | again e w e2 ps r h1 hw h2 ih1 ih2 =>
  intro hr v hv r' hr'
  obtain ⟨t1,ht1⟩:=h1.suffix
  obtain ⟨t2,ht2⟩:=h2.suffix
  have hvv : v = 40 :: (t1 ++ 41 :: 35 :: t2):=by
   have : 40 :: (t1 ++ 41 :: 35 :: t2) ++ r = v ++ r:=by rw [← hv,ht1,ht2];simp
   exact (List.append_cancel_right this).symm
  subst hvv
  have a:=ih1 (.inr rfl) t1 ht1 (41 :: 35 :: (t2 ++ r')) (.inr rfl)
  have b:=ih2 hr t2 ht2 r' hr'
  simpa using Reads.again (t1 ++ 41 :: 35 :: (t2 ++ r')) w (t2 ++ r') ps r' a hw b
theorem reads_inner {e t1 e2 : List UInt8} {w} (h : Reads e w (41 :: 35 :: e2)) (hv : e = t1 ++ 41 :: 35 :: e2) : Reads t1 w []:=by
 simpa using reads_cut h (.inr rfl) t1 hv [] (.inl rfl)
theorem mn_le (x y t : Int) : mn x y ≤ t ↔ x ≤ t ∨ y ≤ t:=by unfold mn;by_cases h : y < x <;> simp only [h,if_true,if_false] <;> omega
theorem mx_le (x y t : Int) : mx x y ≤ t ↔ x ≤ t ∧ y ≤ t:=by unfold mx;by_cases h : x < y <;> simp only [h,if_true,if_false] <;> omega
theorem fold_le (n : Nat) (F : Nat → Int) (c t : Int) : (List.range n).foldl (fun acc l => mn acc (F l)) c ≤ t ↔ c ≤ t ∨ ∃ l,l < n ∧ F l ≤ t:=by
 induction n with
 | zero => simp
 | succ n ih =>
  rw [fold_snoc,mn_le,ih]
  constructor
  ·rintro ((h | ⟨l,h1,h2⟩)|h)
   ·exact Or.inl h
   ·exact Or.inr ⟨l,by omega,h2⟩
   ·exact Or.inr ⟨n,by omega,h⟩
  ·rintro (h | ⟨l,h1,h2⟩)
   ·exact Or.inl (Or.inl h)
   ·by_cases e : l = n
    ·subst e;exact Or.inr h2
    ·exact Or.inl (Or.inr ⟨l,by omega,h2⟩)
theorem mulE_le (n : Nat) (a b : List Int) (i k : Nat) (t : Int) : mulE n a b i k ≤ t ↔ 3 ≤ t ∨ ∃ l,l < n ∧ a.getD (i * n + l) 0 ≤ t ∧ b.getD (l * n + k) 0 ≤ t:=by
 unfold mulE
 rw [fold_le n (fun l => mx (a.getD (i * n + l) 0) (b.getD (l * n + k) 0)) 3 t]
 constructor
 ·rintro (h | ⟨l,h1,h2⟩)
  ·exact Or.inl h
  ·rw [mx_le] at h2;exact Or.inr ⟨l,h1,h2.1,h2.2⟩
 ·rintro (h | ⟨l,h1,h2,h3⟩)
  ·exact Or.inl h
  ·exact Or.inr ⟨l,h1,by rw [mx_le];exact ⟨h2,h3⟩⟩
theorem mulL_get (n : Nat) (a b : List Int) (i k : Nat) (hi : i < n) (hk : k < n) : (mulL n a b).getD (i * n + k) 0 = mulE n a b i k:=sqL_get n _ i k hi hk
theorem eq_of_le (x y : Int) (h : ∀ t,x ≤ t ↔ y ≤ t) : x = y:=by
 have h1:=(h y).mpr (Int.le_refl _)
 have h2:=(h x).mp (Int.le_refl _)
 omega
theorem mul_assoc' (n : Nat) (a b c : List Int) : mulL n (mulL n a b) c = mulL n a (mulL n b c):=by
 unfold mulL
 refine sqL_congr n _ _ (fun i k hi hk => eq_of_le _ _ (fun t => ?_))
 show mulE n (mulL n a b) c i k ≤ t ↔ mulE n a (mulL n b c) i k ≤ t
 rw [mulE_le,mulE_le]
 constructor
 ·rintro (h | ⟨l,hl,h1,h2⟩)
  ·exact Or.inl h
  ·rw [mulL_get n a b i l hi hl,mulE_le] at h1
   rcases h1 with h1 | ⟨m,hm,h3,h4⟩
   ·exact Or.inl h1
   ·refine Or.inr ⟨m,hm,h3,?_⟩
    rw [mulL_get n b c m k hm hk,mulE_le]
    exact Or.inr ⟨l,hl,h4,h2⟩
 ·rintro (h | ⟨m,hm,h1,h2⟩)
  ·exact Or.inl h
  ·rw [mulL_get n b c m k hm hk,mulE_le] at h2
   rcases h2 with h2 | ⟨l,hl,h3,h4⟩
   ·exact Or.inl h2
   ·refine Or.inr ⟨l,hl,?_,h4⟩
    rw [mulL_get n a b i l hi hl,mulE_le]
    exact Or.inr ⟨m,hm,h1,h3⟩
def pw (n : Nat) (l : List Int) : Nat → List Int
 | 0 => l
 | m + 1 => mulL n (pw n l m) l
theorem pw_add (n : Nat) (l : List Int) (a b : Nat) : mulL n (pw n l a) (pw n l b) = pw n l (a + b + 1):=by
 induction b with
 | zero => rfl
 | succ b ih => show mulL n (pw n l a) (mulL n (pw n l b) l) = mulL n (pw n l (a + (b + 1))) l;rw [← mul_assoc',ih];rfl
def Gr (l : List Int) : Prop := ∀ x ∈ l,0 ≤ x ∧ x ≤ 3
theorem gr_getD {l : List Int} (h : Gr l) (j : Nat) : 0 ≤ l.getD j 0 ∧ l.getD j 0 ≤ 3:=by
 rw [List.getD_eq_getElem?_getD]
 by_cases hj : j < l.length
 ·rw [List.getElem?_eq_getElem hj];exact h _ (List.getElem_mem hj)
 ·rw [List.getElem?_eq_none (by omega)];simp
theorem mulE_in (n : Nat) (a b : List Int) (ha : Gr a) (hb : Gr b) (i k : Nat) : 0 ≤ mulE n a b i k ∧ mulE n a b i k ≤ 3:=by
 constructor
 ·have h:=mulE_le n a b i k (-1)
  have : ¬ mulE n a b i k ≤ -1:=by
   rw [h]
   rintro (h | ⟨l,_,h1,_⟩)
   ·omega
   ·have:=(gr_getD ha (i * n + l)).1;omega
  omega
 ·rw [mulE_le];exact Or.inl (Int.le_refl _)
theorem mul_gr (n : Nat) (a b : List Int) (ha : Gr a) (hb : Gr b) : Gr (mulL n a b):=by
 intro x hx
 obtain ⟨j,hj,rfl⟩:=mem_tab.mp hx
 exact mulE_in n a b ha hb _ _
theorem pw_gr (n : Nat) (l : List Int) (h : Gr l) (m : Nat) : Gr (pw n l m):=by
 induction m with
 | zero => exact h
 | succ m ih => exact mul_gr n _ _ ih h
theorem pw_len (n : Nat) (l : List Int) (h : l.length = n * n) (m : Nat) : (pw n l m).length = n * n:=by
 cases m with
 | zero => exact h
 | succ m => exact mulL_length n _ _
theorem pigeon (N : Nat) : ∀ f : Nat → Nat,(∀ i,i ≤ N → f i < N) → ∃ i j,i < j ∧ j ≤ N ∧ f i = f j:=by
 induction N with
 | zero => intro f h;exact absurd (h 0 (Nat.le_refl _)) (by omega)
 | succ N ih =>
  intro f h
  by_cases e : ∃ i,i ≤ N ∧ f i = f (N + 1)
  ·obtain ⟨i,h1,h2⟩:=e
   exact ⟨i,N + 1,by omega,Nat.le_refl _,h2⟩
  ·have ne : ∀ i,i ≤ N → f i ≠ f (N + 1):=fun i hi he => e ⟨i,hi,he⟩
   obtain ⟨i,j,h1,h2,h3⟩:=ih (fun i => if f i > f (N + 1) then f i - 1 else f i) (fun i hi => by
    have a:=h i (by omega)
    have b:=h (N + 1) (Nat.le_refl _)
    have c:=ne i hi
    show (if f i > f (N + 1) then f i - 1 else f i) < N
    by_cases d : f i > f (N + 1)
    ·rw [if_pos d];omega
    ·rw [if_neg d];omega)
   refine ⟨i,j,h1,by omega,?_⟩
   have c1:=ne i (by omega)
   have c2:=ne j h2
   have h3' : (if f i > f (N + 1) then f i - 1 else f i) = (if f j > f (N + 1) then f j - 1 else f j):=h3
   by_cases d1 : f i > f (N + 1) <;> by_cases d2 : f j > f (N + 1)
   ·rw [if_pos d1,if_pos d2] at h3';omega
   ·rw [if_pos d1,if_neg d2] at h3';omega
   ·rw [if_neg d1,if_pos d2] at h3';omega
   ·rw [if_neg d1,if_neg d2] at h3';omega
def code : List Int → Nat
 | [] => 0
 | x :: t => x.toNat + 4 * code t
theorem code_lt (l : List Int) (h : Gr l) : code l < 4 ^ l.length:=by
 induction l with
 | nil => simp [code]
 | cons x t ih =>
  have h1:=h x (by simp)
  have h2:=ih (fun y hy => h y (by simp [hy]))
  rw [List.length_cons,Nat.pow_succ]
  simp only [code]
  omega
theorem code_inj (l : List Int) : ∀ m : List Int,Gr l → Gr m → l.length = m.length → code l = code m → l = m:=by
 induction l with
 | nil => intro m _ _ h _;cases m with
  | nil => rfl
  | cons => simp at h
 | cons x t ih =>
  intro m hl hm h e
  cases m with
  | nil => simp at h
  | cons y u =>
   have h1:=hl x (by simp)
   have h2:=hm y (by simp)
   simp only [code] at e
   have e1 : x = y:=by omega
   have e2 : code t = code u:=by omega
   rw [e1,ih u (fun z hz => hl z (by simp [hz])) (fun z hz => hm z (by simp [hz])) (by simpa using h) e2]
theorem pw_again (n : Nat) (l : List Int) (i d : Nat) (h : pw n l i = pw n l (i + d)) : ∀ m,i ≤ m → ∀ q,pw n l m = pw n l (m + q * d):=by
 have one : ∀ m,i ≤ m → pw n l m = pw n l (m + d):=by
  intro m hm
  obtain ⟨x,rfl⟩:=Nat.le.dest hm
  cases x with
  | zero => exact h
  | succ x =>
   have a:=pw_add n l i x
   have b:=pw_add n l (i + d) x
   rw [← h] at b
   have e : i + d + x + 1 = i + (x + 1) + d:=by omega
   rw [← e,← b,a];rfl
 intro m hm q
 induction q with
 | zero => simp
 | succ q ih =>
  rw [ih,one (m + q * d) (by omega)]
  congr 1
  rw [Nat.succ_mul];omega
theorem some_idem (n : Nat) (l : List Int) (hl : l.length = n * n) (hg : Gr l) : ∃ m,mulL n (pw n l m) (pw n l m) = pw n l m:=by
 obtain ⟨i,j,hij,_,he⟩:=pigeon (4 ^ (n * n)) (fun m => code (pw n l m)) (fun m _ => by
  have:=code_lt (pw n l m) (pw_gr n l hg m)
  rwa [pw_len n l hl m] at this)
 have he2 : pw n l i = pw n l j:=code_inj _ _ (pw_gr n l hg i) (pw_gr n l hg j) (by rw [pw_len n l hl,pw_len n l hl]) he
 obtain ⟨d,rfl⟩ : ∃ d,j = i + (d + 1):=⟨j - i - 1,by omega⟩
 have per:=pw_again n l i (d + 1) he2
 have hM : i ≤ (i + 1) * (d + 1) - 1:=by
  have : i + 1 ≤ (i + 1) * (d + 1):=Nat.le_mul_of_pos_right _ (by omega)
  omega
 have hp : 1 ≤ (i + 1) * (d + 1):=Nat.mul_pos (by omega) (by omega)
 refine ⟨(i + 1) * (d + 1) - 1,?_⟩
 rw [pw_add,per _ hM (i + 1)]
 congr 1
theorem least (P : Nat → Prop) (h : ∃ m,P m) : ∃ m,P m ∧ ∀ j,j < m → ¬ P j:=by
 obtain ⟨m,hm⟩:=h
 induction m using Nat.strongRecOn with
 | _ m ih =>
  by_cases e : ∃ j,j < m ∧ P j
  ·obtain ⟨j,h1,h2⟩:=e
   exact ih j h1 h2
  ·exact ⟨m,hm,fun j h1 h2 => e ⟨j,h1,h2⟩⟩
theorem GV_iff (n : Nat) (l : List Int) : GV n l ↔ 1 ≤ n ∧ n ≤ 4 ∧ l.length = n * n ∧ Gr l:=by
 constructor
 ·intro h
  refine ⟨(GV_le h).2,(GV_le h).1,GV_len h,fun x hx => ⟨(h.1.2.2.2 x hx).1,h.2 x hx⟩⟩
 ·rintro ⟨h1,h2,h3,h4⟩
  refine ⟨⟨by omega,by omega,by rw [h3];simp,fun x hx => ⟨(h4 x hx).1,?_⟩⟩,fun x hx => (h4 x hx).2⟩
  have:=(h4 x hx).2
  omega
theorem GV_mul (n : Nat) (a b : List Int) (ha : GV n a) (hb : GV n b) : GV n (mulL n a b):=by
 rw [GV_iff] at ha hb ⊢
 exact ⟨ha.1,ha.2.1,mulL_length n a b,mul_gr n a b ha.2.2.2 hb.2.2.2⟩
theorem big16 {n : Nat} {l : List Int} (h : GV n l) : l.length ≤ maxLen:=by have:=len_of_GV h;rw [maxLen_eq];omega
theorem unit_gr (n : Nat) : (sqL n unitE).map gr = sqL n oneE:=by
 unfold sqL tab
 rw [List.map_map]
 refine List.map_congr_left (fun m _ => ?_)
 show gr (unitE (m / n) (m % n)) = oneE (m / n) (m % n)
 unfold unitE oneE gr
 by_cases e : m / n = m % n
 ·rw [if_pos e,if_pos e];rfl
 ·rw [if_neg e,if_neg e];rfl
theorem one_GV (n : Nat) (h1 : 1 ≤ n) (h4 : n ≤ 4) : GV (n : Int) (sqL n oneE):=by
 refine ⟨⟨by omega,by omega,?_,?_⟩,?_⟩
 ·unfold sqL;rw [tab_length];exact_mod_cast rfl
 ·intro x hx
  unfold sqL tab at hx
  obtain ⟨m,_,rfl⟩:=List.mem_map.mp hx
  unfold oneE
  by_cases e : m / n = m % n
  ·simp only [e,if_true];omega
  ·rw [if_neg e];omega
 ·intro x hx
  unfold sqL tab at hx
  obtain ⟨m,_,rfl⟩:=List.mem_map.mp hx
  unfold oneE
  by_cases e : m / n = m % n
  ·simp only [e,if_true];omega
  ·rw [if_neg e];omega
theorem mul_one' (n : Nat) (a : List Int) (h : GV (n : Int) a) : mulL n a (sqL n oneE) = a:=by
 have hg : Gr a:=fun x hx => ⟨(h.1.2.2.2 x hx).1,h.2 x hx⟩
 conv => rhs;rw [eq_sqL n a (GV_len h)]
 unfold mulL
 refine sqL_congr n _ _ (fun i k hi hk => ?_)
 refine eq_of_le _ _ (fun t => ?_)
 rw [mulE_le]
 have hb:=gr_getD hg (i * n + k)
 constructor
 ·rintro (h3 | ⟨l,hl,h1,h2⟩)
  ·omega
  ·rw [sqL_get n oneE l k hl hk] at h2
   unfold oneE at h2
   by_cases e : l = k
   ·subst e;exact h1
   ·rw [if_neg e] at h2;omega
 ·intro ht
  refine Or.inr ⟨k,hk,ht,?_⟩
  rw [sqL_get n oneE k k hk hk]
  unfold oneE
  rw [if_pos rfl];omega
theorem one_mul' (n : Nat) (a : List Int) (h : GV (n : Int) a) : mulL n (sqL n oneE) a = a:=by
 have hg : Gr a:=fun x hx => ⟨(h.1.2.2.2 x hx).1,h.2 x hx⟩
 conv => rhs;rw [eq_sqL n a (GV_len h)]
 unfold mulL
 refine sqL_congr n _ _ (fun i k hi hk => ?_)
 refine eq_of_le _ _ (fun t => ?_)
 rw [mulE_le]
 have hb:=gr_getD hg (i * n + k)
 constructor
 ·rintro (h3 | ⟨l,hl,h1,h2⟩)
  ·omega
  ·rw [sqL_get n oneE i l hi hl] at h1
   unfold oneE at h1
   by_cases e : i = l
   ·subst e;exact h2
   ·rw [if_neg e] at h1;omega
 ·intro ht
  refine Or.inr ⟨i,hi,?_,ht⟩
  rw [sqL_get n oneE i i hi hi]
  unfold oneE
  rw [if_pos rfl];omega
theorem prefix_eval (y : ByteArray) : strings_HasPrefix.f y ⟨#[41,35]⟩ = some ((L y).take 2 == [41,35]):=by
 have h2 : (⟨#[41,35]⟩ : ByteArray).size = 2:=rfl
 have hl : (⟨#[41,35]⟩ : ByteArray).toList = [41,35]:=by rw [toList_L];rfl
 unfold strings_HasPrefix.f stringslite_HasPrefix.f
 rw [h2,hl,toList_L,L_extract,L_size]
 cases h : L y with
 | nil => simp
 | cons a t =>
  cases t with
  | nil => simp
  | cons b t =>
   simp
   rw [if_pos (by omega),if_pos (by omega)]
theorem prefix_no {l : List UInt8} (h : ∀ e2,l ≠ 41 :: 35 :: e2) : (l.take 2 == [41,35]) = false:=by
 cases l with
 | nil => rfl
 | cons a t =>
  cases t with
  | nil => simp
  | cons b t =>
   simp
   rintro rfl rfl
   exact h t rfl
theorem parts_reads {e ps r} (h : Reads e ps r) : ∀ (x : ByteArray) (out : List S136),L x = e → out.length + x.size ≤ 1000000 →
  Ev (fun k => impl_readParts.l0 k x out) (out ++ ps,⟨r.toArray⟩):=by
 induction h with
 | done =>
  intro x out hx hn
  refine Ev.step (f:=fun _ => some (out,x)) (fun k => ?_) ((Ev.now _).is ?_)
  ·simp only [impl_readParts.l0];rw [if_pos (by rw [toList_L,hx])]
  ·simp;exact L_inj (by rw [hx];rfl)
 | letter c e ps r hc h ih =>
  intro x out hx hn
  have hz : x.size = e.length + 1:=by rw [L_size,hx];simp
  have hbt : bt x 0 = (c.toNat : Int):=by rw [bt_L,hx];simp
  have h1 : L (x.extract 1 x.size) = e:=by rw [L_extract,hx,L_size,hx];simp
  have h0 : x.extract 0 1 = ⟨#[c]⟩:=L_inj (by rw [L_extract,hx];simp [L])
  refine Ev.step (f:=fun k => impl_readParts.j1 k x out (bt x 0) true) (fun k => ?_) ?_
  ·simp only [impl_readParts.l0];rw [if_neg (by rw [toList_L,hx];simp),if_pos (by omega)]
   rcases hc with rfl|rfl
   ·rw [if_pos (by rw [hbt];rfl),show ((bt x 0) == 97) = true by rw [hbt];rfl]
   ·rw [if_neg (by rw [hbt];decide),show ((bt x 0) == 98) = true by rw [hbt];rfl]
  refine Ev.step (f:=fun k => impl_readParts.l0 k (x.extract 1 x.size) (out ++ [(⟨⟨#[c]⟩,[]⟩ : S136)])) (fun k => ?_) ?_
  ·simp only [impl_readParts.j1,if_true];rw [if_pos (by omega),if_pos (by omega),if_pos (by omega),h0]
  ·exact (ih (x.extract 1 x.size) _ h1 (by simp only [List.length_append,List.length_cons,List.length_nil];rw [L_size,h1];omega)).is (by simp)
 | again e w e2 ps r h1 hw h2 ih1 ih2 =>
  intro x out hx hn
  have hz : x.size = e.length + 1:=by rw [L_size,hx];simp
  have hbt : bt x 0 = 40:=by rw [bt_L,hx];rfl
  have he : L (x.extract 1 x.size) = e:=by rw [L_extract,hx,L_size,hx];simp
  have hle:=h1.le
  simp at hle
  refine Ev.step (f:=fun k => impl_readParts.j1 k x out 40 false) (fun k => ?_) ?_
  ·simp only [impl_readParts.l0];rw [if_neg (by rw [toList_L,hx];simp),if_pos (by omega),if_neg (by rw [hbt];decide),hbt];rfl
  refine Ev.step (f:=?f1) (fun k => ?h1) ?k1
  case h1 => simp only [impl_readParts.j1];rw [if_neg (by simp),if_pos trivial,if_pos (by omega)] <;> exact rfl
  have i1:=ih1 (x.extract 1 x.size) [] he (by simp only [List.length_nil];rw [L_size,he];omega)
  have hy : L (⟨(41 :: 35 :: e2 : List UInt8).toArray⟩ : ByteArray) = 41 :: 35 :: e2:=L_mk _
  have hyz : (⟨(41 :: 35 :: e2 : List UInt8).toArray⟩ : ByteArray).size = e2.length + 2:=by rw [L_size,hy];simp
  refine Ev.bind (a:=([] ++ w,⟨(41 :: 35 :: e2 : List UInt8).toArray⟩)) (Ev.step (fun k => by simp only [impl_readParts.f]) i1) ?_
  have hwl : 0 < w.length:=by cases w with
   | nil => exact absurd rfl hw
   | cons a b => simp
  have h2' : L ((⟨(41 :: 35 :: e2 : List UInt8).toArray⟩ : ByteArray).extract 2 (⟨(41 :: 35 :: e2 : List UInt8).toArray⟩ : ByteArray).size) = e2:=by rw [L_extract,hyz,hy];simp
  have i2:=ih2 _ (out ++ [(⟨⟨#[]⟩,w⟩ : S136)]) h2' (by rw [L_size _,h2'];simp only [List.length_append,List.length_cons,List.length_nil];omega)
  refine Ev.congr (fun k => ?_) (i2.is (by simp))
  dsimp only
  rw [List.nil_append,if_pos (by omega),prefix_eval,hy,show (List.take 2 (41 :: 35 :: e2) == [41,35]) = true from rfl,Option.bind_some,if_pos rfl,if_pos (by omega),if_pos (by omega)]
 | other c e c1 c2 c3 =>
  intro x out hx hn
  have hz : x.size = e.length + 1:=by rw [L_size,hx];simp
  have hbt : bt x 0 = (c.toNat : Int):=by rw [bt_L,hx];simp
  have hxe : x = ⟨(c :: e).toArray⟩:=L_inj (by rw [hx,L_mk])
  refine Ev.step (f:=fun k => impl_readParts.j1 k x out (bt x 0) false) (fun k => ?_) ?_
  ·simp only [impl_readParts.l0];rw [if_neg (by rw [toList_L,hx];simp),if_pos (by omega),if_neg (by rw [hbt];exact u8_ne c1),show ((bt x 0) == 98) = false by rw [hbt];simpa using u8_ne c2]
  refine Ev.step (f:=fun _ => some (out,x)) (fun k => ?_) ((Ev.now _).is (by rw [List.append_nil,← hxe]))
  ·simp only [impl_readParts.j1];rw [if_neg (by simp),if_neg (by rw [hbt];exact u8_ne c3)]
 | bad e w r1 h1 hw ih =>
  intro x out hx hn
  have hz : x.size = e.length + 1:=by rw [L_size,hx];simp
  have hbt : bt x 0 = 40:=by rw [bt_L,hx];rfl
  have he : L (x.extract 1 x.size) = e:=by rw [L_extract,hx,L_size,hx];simp
  have hxe : x = ⟨(40 :: e).toArray⟩:=L_inj (by rw [hx,L_mk])
  refine Ev.step (f:=fun k => impl_readParts.j1 k x out 40 false) (fun k => ?_) ?_
  ·simp only [impl_readParts.l0];rw [if_neg (by rw [toList_L,hx];simp),if_pos (by omega),if_neg (by rw [hbt];decide),hbt];rfl
  refine Ev.step (f:=?f2) (fun k => ?h2) ?k2
  case h2 => simp only [impl_readParts.j1];rw [if_neg (by simp),if_pos trivial,if_pos (by omega)] <;> exact rfl
  have i1:=ih (x.extract 1 x.size) [] he (by simp only [List.length_nil];rw [L_size,he];omega)
  refine Ev.bind (a:=([] ++ w,⟨r1.toArray⟩)) (Ev.step (fun k => by simp only [impl_readParts.f]) i1) ?_
  refine Ev.congr (f:=fun _ => some (out,x)) (fun k => ?_) ((Ev.now _).is (by rw [List.append_nil,← hxe]))
  dsimp only
  by_cases hwl : w = []
  ·subst hwl;rw [if_neg (by simp)]
  ·have hwl' : 0 < w.length:=by cases w with
    | nil => exact absurd rfl hwl
    | cons a b => simp
   have hn : ∀ e2,r1 ≠ 41 :: 35 :: e2:=by
    rcases hw with h'|h'
    ·exact absurd h' hwl
    ·exact h'
   rw [List.nil_append,if_pos (by omega),prefix_eval,L_mk,prefix_no hn,Option.bind_some,if_neg (by simp)]
theorem parts_eval (s : ByteArray) (hs : s.size ≤ 120) : ∃ ps r,Reads (L s) ps r ∧ Ev (fun k => impl_parts.f k s) (ps,decide (ps ≠ [] ∧ r = [])):=by
 obtain ⟨ps,r,h⟩:=reads_all (L s).length (L s) (Nat.le_refl _)
 refine ⟨ps,r,h,?_⟩
 have h1:=parts_reads h s [] rfl (by simp;omega)
 refine Ev.congr (f:=?f3) (fun k => ?h3) ?k3
 case h3 => unfold impl_parts.f;rw [if_neg (by omega)] <;> exact rfl
 refine Ev.bind (Ev.step (fun k => by simp only [impl_readParts.f]) h1) ?_
 refine Ev.congr (f:=fun _ => some (ps,decide (ps ≠ [] ∧ r = []))) (fun k => ?_) (Ev.now _)
 dsimp only
 rw [List.nil_append,toList_L,L_mk]
 cases ps with
 | nil => simp
 | cons p ps => simp;cases r <;> simp
theorem parts_long (s : ByteArray) (hs : 120 < s.size) : Ev (fun k => impl_parts.f k s) ([],false):=by
 refine Ev.congr (f:=fun _ => some ([],false)) (fun k => ?_) (Ev.now _)
 unfold impl_parts.f;rw [if_pos (by omega)]
theorem valid_eval (s : ByteArray) (hs : s.size ≤ 120) {ps r} (h : Reads (L s) ps r) : Ev (fun k => spec_ExpressionValid.f k s) (decide (ps ≠ [] ∧ r = [])):=by
 have h1:=end_reads h s [] 0 (by simp) (by omega) (by omega) (by simp)
 have hz : s.size = (L s).length:=L_size s
 refine Ev.congr (f:=?f4) (fun k => ?h4) ?k4
 case h4 => unfold spec_ExpressionValid.f;rw [if_pos (by omega)] <;> exact rfl
 refine Ev.bind (a:=endv s r 0) (Ev.step (fun k => by simp only [spec_l7End.f];rfl) h1) ?_
 refine Ev.congr (f:=fun _ => some (decide (ps ≠ [] ∧ r = []))) (fun k => ?_) (Ev.now _)
 by_cases hr : r = []
 ·subst hr
  by_cases hp : ps = []
  ·subst hp
   have:=h.none
   have h0 : s.size = 0:=by rw [hz,← this];rfl
   have e : endv s [] 0 = -1:=by unfold endv;rw [if_pos (.inl rfl),if_pos (by rw [h0];rfl)]
   rw [e,if_neg (by omega)];simp
  ·have:=h.some hp
   simp only [List.length_nil] at this
   have e : endv s [] 0 = s.size:=by unfold endv;rw [if_pos (.inl rfl),if_neg (by simp only [List.length_nil];omega)];simp
   rw [e,if_pos rfl]
   have hp2 : ps ≠ [] ∧ ([] : List UInt8) = []:=⟨hp,rfl⟩
   rw [decide_eq_true hp2,decide_eq_true (show (s.size : Int) > 0 by omega)]
 ·have hl : 0 < r.length:=by cases r with
   | nil => exact absurd rfl hr
   | cons a b => simp
  rw [if_neg (by unfold endv;split <;> (try split) <;> omega)];simp [hr]
theorem valid_long (s : ByteArray) (hs : 120 < s.size) : Ev (fun k => spec_ExpressionValid.f k s) false:=by
 refine Ev.congr (f:=fun _ => some false) (fun k => ?_) (Ev.now _)
 unfold spec_ExpressionValid.f;rw [if_neg (by omega)]
theorem valid_both (s : ByteArray) : ∃ b ps,Ev (fun k => spec_ExpressionValid.f k s) b ∧ Ev (fun k => impl_parts.f k s) (ps,b):=by
 by_cases h : s.size ≤ 120
 ·obtain ⟨ps,r,hr,hp⟩:=parts_eval s h
  exact ⟨_,ps,valid_eval s h hr,hp⟩
 ·exact ⟨false,[],valid_long s (by omega),parts_long s (by omega)⟩
def ag (x : Int) : Int:=if x = 1 then 2 else x
def stE (n : Nat) (a : List Int) (i k : Nat) : Int:=(List.range n).foldl (fun acc l => mn acc (mx (mx (a.getD (i * n + l) 0) (ag (a.getD (l * n + l) 0))) (a.getD (l * n + k) 0))) 3
def stL (n : Nat) (a : List Int) : List Int:=sqL n (stE n a)
def stabR (n : Int) (l : List Int) : Int × List Int × Bool:=if Idem n l then (n,stL n.toNat l,true) else (0,[],false)
theorem stL_length (n : Nat) (a : List Int) : (stL n a).length = n * n:=by simp [stL,sqL,tab_length]
theorem stabR_len (n : Int) (l : List Int) : (stabR n l).2.1.length ≤ 16:=by
 unfold stabR
 by_cases g : Idem n l
 ·rw [if_pos g]
  obtain ⟨m,rfl⟩:=GV_nat g.1
  have:=sq_le m (GV_le g.1).1
  show (stL m l).length ≤ 16
  rw [stL_length];exact this
 ·rw [if_neg g];simp
theorem iStCell (n : Nat) (hn : n ≤ 4) (a : List Int) (ha : a.length = n * n) (i k : Nat) (hi : i < n) (hk : k < n) :
  Ev (fun K => impl_Stabilise_1.f K (i : Int) (k : Int) (n : Int) a) (stE n a i k):=by
 refine up_loop n (fun l K => impl_Stabilise_1.l0 K i k ((List.range l).foldl (fun acc l => mn acc (mx (mx (a.getD (i * n + l) 0) (ag (a.getD (l * n + l) 0))) (a.getD (l * n + k) 0))) 3) n (l : Int) n a) _ (fun l hl hs => ?_) ?_
 ·refine Ev.step (fun j => ?_) hs
  simp only [impl_Stabilise_1.l0]
  rw [if_pos (by omega),at_eq n hn a ha l l hl hl,Option.bind_some,at_eq n hn a ha i l hi hl,Option.bind_some,at_eq n hn a ha l k hl hk,Option.bind_some,Option.bind_some,w64 (x:=(l : Int) + 1) (by omega) (by omega),fold_snoc]
  by_cases e : a.getD (l * n + l) 0 = 1
  ·rw [if_pos e];unfold ag;rw [if_pos e];rfl
  ·rw [if_neg e];unfold ag;rw [if_neg e];rfl
 ·refine Ev.step (f:=fun _ => some (stE n a i k)) (fun j => ?_) (Ev.now _)
  simp only [impl_Stabilise_1.l0]
  rw [if_neg (by omega)];rfl
theorem iStab (n : Int) (l : List Int) (hl : l.length ≤ maxLen) : Ev (fun k => impl_Stabilise.f k n l) (stabR n l):=by
 unfold impl_Stabilise.f
 refine Ev.bind (iIdem n l hl) ?_
 by_cases g : Idem n l
 ·refine Ev_t (decide_eq_true g) ?_
  have e : stabR n l = (n,stL n.toNat l,true):=by unfold stabR;rw [if_pos g]
  rw [e]
  obtain ⟨m,rfl⟩:=GV_nat g.1
  refine Ev.bind (a:=((m : Int),stL m l)) ?_ (Ev.now _)
  exact filled_ev m (GV_le g.1).1 (stE m l) (fun K y0 y1 => impl_Stabilise_1.f K y0 y1 m l) (fun i hi k hk => iStCell m (GV_le g.1).1 l (GV_len g.1) i k hi hk)
 ·refine Ev_f (by rw [decide_eq_false g];simp) ((Ev.now _).is ?_)
  unfold stabR;rw [if_neg g]
theorem sAgain (x : Int) : spec_l6Again.f x = some (ag x):=by
 unfold spec_l6Again.f ag
 by_cases e : x = 1
 ·rw [if_pos e,if_pos e]
 ·rw [if_neg e,if_neg e]
theorem idx3 (n l : Nat) (hn : n ≤ 4) (hl : l < n) : wrap64 (wrap64 ((l : Int) * (n : Int)) + (l : Int)) = ((l * n + l : Nat) : Int):=by
 have r2:=row_le n l hn (by omega)
 have : (l : Int) * (n : Int) = ((l * n : Nat) : Int):=by simp
 rw [this,w64 (x:=((l * n : Nat) : Int)) (by omega) (by omega),w64 (x:=((l * n : Nat) : Int) + (l : Int)) (by omega) (by omega)]
 simp
theorem sStab1 (n : Nat) (hn : n ≤ 4) (h0 : 1 ≤ n) (a : List Int) (hla : a.length = n * n) : Ev (fun k => spec_l6Stable.f k n a) ((n : Int),stL n a):=by
 have hs:=sq_le n hn
 have e0 : wrap64 ((n : Int) * (n : Int)) = ((n * n : Nat) : Int):=by
  have : (n : Int) * (n : Int) = ((n * n : Nat) : Int):=by simp
  rw [this,w64 (by omega) (by omega)]
 refine Ev.congr (f:=fun k => spec_l6Stable.l0 k ((n * n : Nat) : Int) ((0 : Nat) : Int) n a n (tab 0 (fun m => stE n a (m / n) (m % n)))) (fun k => ?_) ?_
 ·unfold spec_l6Stable.f;rw [e0];simp [tab]
 refine up_loop (n * n) (fun m k => spec_l6Stable.l0 k ((n * n : Nat) : Int) (m : Int) n a n (tab m (fun m => stE n a (m / n) (m % n)))) _ (fun m hm hnext => ?_) ?_
 ·have hi : m / n < n:=Nat.div_lt_of_lt_mul hm
  have hk : m % n < n:=Nat.mod_lt _ (by omega)
  refine Ev.step (f:=fun k => spec_l6Stable.l1 k m ((List.range 0).foldl (fun acc l => mn acc (mx (mx (a.getD (m / n * n + l) 0) (ag (a.getD (l * n + l) 0))) (a.getD (l * n + m % n) 0))) 3) ((n * n : Nat) : Int) m n ((0 : Nat) : Int) n a n (tab m (fun m => stE n a (m / n) (m % n)))) (fun k => ?_) ?_
  ·simp only [spec_l6Stable.l0];rw [if_pos (by omega)];rfl
  refine up_loop n (fun l k => spec_l6Stable.l1 k m ((List.range l).foldl (fun acc l => mn acc (mx (mx (a.getD (m / n * n + l) 0) (ag (a.getD (l * n + l) 0))) (a.getD (l * n + m % n) 0))) 3) ((n * n : Nat) : Int) m n (l : Int) n a n (tab m (fun m => stE n a (m / n) (m % n)))) _ (fun l hl hs2 => ?_) ?_
  ·refine Ev.step (fun j => ?_) hs2
   have c1:=cell_lt n (m / n) l hi hl
   have c2:=cell_lt n l (m % n) hl hk
   have c3:=cell_lt n l l hl hl
   have hA : (l : Int) < (n : Int):=by omega
   have hB : ¬ (n : Int) = 0:=by omega
   have hC : (((m / n * n + l : Nat)) : Int) < (a.length : Int):=by rw [hla];exact_mod_cast c1
   have hD : (((l * n + m % n : Nat)) : Int) < (a.length : Int):=by rw [hla];exact_mod_cast c2
   have hF : (((l * n + l : Nat)) : Int) < (a.length : Int):=by rw [hla];exact_mod_cast c3
   have hE : wrap64 ((l : Int) + 1) = ((l + 1 : Nat) : Int):=by rw [w64 (by omega) (by omega)];rfl
   have e1:=idx1 n m l hn hi hl
   have e2:=idx2 n m l hn hk hl
   have e3:=idx3 n l hn hl
   simp only [spec_l6Stable.l1]
   rw [if_pos hA,if_neg hB,e1,e2,e3,if_pos (Int.natCast_nonneg _),if_pos hC,if_pos (Int.natCast_nonneg _),if_pos hF,sAgain,Option.bind_some,if_pos (Int.natCast_nonneg _),if_pos hD,rd_nat,rd_nat,rd_nat,hE,fold_snoc]
  ·refine Ev.step (fun j => ?_) hnext
   simp only [spec_l6Stable.l1]
   rw [if_neg (by omega),tab_length,if_pos (by omega),w64 (x:=(m : Int) + 1) (by omega) (by omega)]
   have e : tab m (fun m => stE n a (m / n) (m % n)) ++ [stE n a (m / n) (m % n)] = tab (m + 1) (fun m => stE n a (m / n) (m % n)):=tab_snoc m (fun m => stE n a (m / n) (m % n))
   show spec_l6Stable.l0 j _ _ _ _ _ (tab m (fun m => stE n a (m / n) (m % n)) ++ [stE n a (m / n) (m % n)]) = _
   rw [e];rfl
 ·refine Ev.step (f:=fun _ => some ((n : Int),stL n a)) (fun j => ?_) (Ev.now _)
  simp only [spec_l6Stable.l0]
  rw [if_neg (by omega)];rfl
theorem stE_le (n : Nat) (a : List Int) (i k : Nat) (t : Int) : stE n a i k ≤ t ↔ 3 ≤ t ∨ ∃ l,l < n ∧ a.getD (i * n + l) 0 ≤ t ∧ ag (a.getD (l * n + l) 0) ≤ t ∧ a.getD (l * n + k) 0 ≤ t:=by
 unfold stE
 rw [fold_le n (fun l => mx (mx (a.getD (i * n + l) 0) (ag (a.getD (l * n + l) 0))) (a.getD (l * n + k) 0)) 3 t]
 constructor
 ·rintro (h | ⟨l,h1,h2⟩)
  ·exact Or.inl h
  ·rw [mx_le,mx_le] at h2;exact Or.inr ⟨l,h1,h2.1.1,h2.1.2,h2.2⟩
 ·rintro (h | ⟨l,h1,h2,h3,h4⟩)
  ·exact Or.inl h
  ·exact Or.inr ⟨l,h1,by rw [mx_le,mx_le];exact ⟨⟨h2,h3⟩,h4⟩⟩
theorem ag_ge (x : Int) : x ≤ ag x:=by unfold ag;by_cases h : x = 1 <;> simp only [h,if_true,if_false] <;> omega
theorem ag_mono (x y : Int) (h : x ≤ y) : ag x ≤ ag y:=by
 unfold ag
 by_cases h1 : x = 1
 ·rw [if_pos h1];by_cases h2 : y = 1
  ·rw [if_pos h2];omega
  ·rw [if_neg h2];omega
 ·rw [if_neg h1];by_cases h2 : y = 1
  ·rw [if_pos h2];omega
  ·rw [if_neg h2];omega
theorem ag_ag (x : Int) : ag (ag x) = ag x:=by
 unfold ag
 by_cases h1 : x = 1
 ·rw [if_pos h1,if_neg (by omega)]
 ·rw [if_neg h1,if_neg h1]
theorem ag_le2 (x : Int) (h : x ≤ 2) : ag x ≤ 2:=by
 unfold ag
 by_cases h1 : x = 1
 ·rw [if_pos h1];omega
 ·rw [if_neg h1];exact h
section
variable {n : Nat} {a : List Int}
theorem st_get (i k : Nat) (hi : i < n) (hk : k < n) : (stL n a).getD (i * n + k) 0 = stE n a i k:=sqL_get n _ i k hi hk
theorem idem_le (h : mulL n a a = a) (i k : Nat) (hi : i < n) (hk : k < n) (t : Int) : a.getD (i * n + k) 0 ≤ t ↔ 3 ≤ t ∨ ∃ l,l < n ∧ a.getD (i * n + l) 0 ≤ t ∧ a.getD (l * n + k) 0 ≤ t:=by
 rw [← mulE_le,← mulL_get n a a i k hi hk,h]
theorem trans_le (h : mulL n a a = a) (i l k : Nat) (hi : i < n) (hl : l < n) (hk : k < n) (t : Int) (h1 : a.getD (i * n + l) 0 ≤ t) (h2 : a.getD (l * n + k) 0 ≤ t) : a.getD (i * n + k) 0 ≤ t :=
 (idem_le h i k hi hk t).mpr (Or.inr ⟨l,hl,h1,h2⟩)
theorem st_left (h : mulL n a a = a) : mulL n a (stL n a) = stL n a:=by
 refine sqL_congr n _ _ (fun i k hi hk => eq_of_le _ _ (fun t => ?_))
 rw [mulE_le,stE_le]
 constructor
 ·rintro (h1 | ⟨j,hj,h1,h2⟩)
  ·exact Or.inl h1
  ·rw [st_get j k hj hk,stE_le] at h2
   rcases h2 with h2 | ⟨l,hl,h2,h3,h4⟩
   ·exact Or.inl h2
   ·exact Or.inr ⟨l,hl,trans_le h i j l hi hj hl t h1 h2,h3,h4⟩
 ·rintro (h1 | ⟨l,hl,h1,h2,h3⟩)
  ·exact Or.inl h1
  ·rcases (idem_le h i l hi hl t).mp h1 with h4 | ⟨j,hj,h4,h5⟩
   ·exact Or.inl h4
   ·exact Or.inr ⟨j,hj,h4,by rw [st_get j k hj hk,stE_le];exact Or.inr ⟨l,hl,h5,h2,h3⟩⟩
theorem st_right (h : mulL n a a = a) : mulL n (stL n a) a = stL n a:=by
 refine sqL_congr n _ _ (fun i k hi hk => eq_of_le _ _ (fun t => ?_))
 rw [mulE_le,stE_le]
 constructor
 ·rintro (h1 | ⟨j,hj,h1,h2⟩)
  ·exact Or.inl h1
  ·rw [st_get i j hi hj,stE_le] at h1
   rcases h1 with h1 | ⟨l,hl,h1,h3,h4⟩
   ·exact Or.inl h1
   ·exact Or.inr ⟨l,hl,h1,h3,trans_le h l j k hl hj hk t h4 h2⟩
 ·rintro (h1 | ⟨l,hl,h1,h2,h3⟩)
  ·exact Or.inl h1
  ·rcases (idem_le h l k hl hk t).mp h3 with h4 | ⟨j,hj,h4,h5⟩
   ·exact Or.inl h4
   ·exact Or.inr ⟨j,hj,by rw [st_get i j hi hj,stE_le];exact Or.inr ⟨l,hl,h1,h2,h4⟩,h5⟩
theorem st_mid (h : mulL n a a = a) (i l k : Nat) (hi : i < n) (hl : l < n) (hk : k < n) (t : Int) (h1 : a.getD (i * n + l) 0 ≤ t) (h2 : ag (a.getD (l * n + l) 0) ≤ t) (h3 : a.getD (l * n + k) 0 ≤ t) :
  stE n a i l ≤ t ∧ stE n a l k ≤ t:=by
 have h4 : a.getD (l * n + l) 0 ≤ t:=Int.le_trans (ag_ge _) h2
 exact ⟨by rw [stE_le];exact Or.inr ⟨l,hl,h1,h2,h4⟩,by rw [stE_le];exact Or.inr ⟨l,hl,h4,h2,h3⟩⟩
theorem st_idem (h : mulL n a a = a) : mulL n (stL n a) (stL n a) = stL n a:=by
 refine sqL_congr n _ _ (fun i k hi hk => eq_of_le _ _ (fun t => ?_))
 rw [mulE_le]
 constructor
 ·rintro (h1 | ⟨j,hj,h1,h2⟩)
  ·rw [stE_le];exact Or.inl h1
  ·rw [st_get i j hi hj,stE_le] at h1
   rw [st_get j k hj hk,stE_le] at h2
   rw [stE_le]
   rcases h1 with h1 | ⟨l,hl,h1,h3,h4⟩
   ·exact Or.inl h1
   ·rcases h2 with h2 | ⟨m,hm,h5,h6,h7⟩
    ·exact Or.inl h2
    ·exact Or.inr ⟨l,hl,h1,h3,trans_le h l m k hl hm hk t (trans_le h l j m hl hj hm t h4 h5) h7⟩
 ·intro h1
  rw [stE_le] at h1
  rcases h1 with h1 | ⟨l,hl,h1,h2,h3⟩
  ·exact Or.inl h1
  ·obtain ⟨x,y⟩:=st_mid h i l k hi hl hk t h1 h2 h3
   exact Or.inr ⟨l,hl,by rw [st_get i l hi hl];exact x,by rw [st_get l k hl hk];exact y⟩
theorem st_st (h : mulL n a a = a) : stL n (stL n a) = stL n a:=by
 refine sqL_congr n _ _ (fun i k hi hk => eq_of_le _ _ (fun t => ?_))
 rw [stE_le]
 constructor
 ·rintro (h1 | ⟨l,hl,h1,h2,h3⟩)
  ·rw [stE_le];exact Or.inl h1
  ·rw [← st_get i k hi hk]
   exact trans_le (st_idem h) i l k hi hl hk t h1 h3
 ·intro h1
  rw [stE_le] at h1
  rcases h1 with h1 | ⟨l,hl,h1,h2,h3⟩
  ·exact Or.inl h1
  ·obtain ⟨x,y⟩:=st_mid h i l k hi hl hk t h1 h2 h3
   refine Or.inr ⟨l,hl,by rw [st_get i l hi hl];exact x,?_,by rw [st_get l k hl hk];exact y⟩
   rw [st_get l l hl hl]
   have z : stE n a l l ≤ ag (a.getD (l * n + l) 0):=by
    rw [stE_le];exact Or.inr ⟨l,hl,ag_ge _,Int.le_refl _,ag_ge _⟩
   have w:=ag_mono _ _ z
   rw [ag_ag] at w
   exact Int.le_trans w h2
theorem st_ge (h : mulL n a a = a) (hg : Gr a) (i k : Nat) (hi : i < n) (hk : k < n) : a.getD (i * n + k) 0 ≤ stE n a i k:=by
 have h1:=(stE_le n a i k (stE n a i k)).mp (Int.le_refl _)
 rcases h1 with h1 | ⟨l,hl,h1,_,h3⟩
 ·have:=(gr_getD hg (i * n + k)).2;omega
 ·exact trans_le h i l k hi hl hk _ h1 h3
theorem loop_at (h : mulL n a a = a) (i k : Nat) (hi : i < n) (hk : k < n) (h2 : a.getD (i * n + k) 0 ≤ 2) : ∃ l,l < n ∧ a.getD (i * n + l) 0 ≤ 2 ∧ a.getD (l * n + l) 0 ≤ 2 ∧ a.getD (l * n + k) 0 ≤ 2:=by
 let P : Nat → Prop:=fun x => x < n ∧ a.getD (i * n + x) 0 ≤ 2 ∧ a.getD (x * n + k) 0 ≤ 2
 have dense : ∀ x y,x < n → y < n → a.getD (x * n + y) 0 ≤ 2 → ∃ z,z < n ∧ a.getD (x * n + z) 0 ≤ 2 ∧ a.getD (z * n + y) 0 ≤ 2:=by
  intro x y hx hy hxy
  rcases (idem_le h x y hx hy 2).mp hxy with e|e
  ·omega
  ·exact e
 have start : ∃ x,P x:=dense i k hi hk h2
 have next : ∀ x,P x → ∃ y,P y ∧ a.getD (x * n + y) 0 ≤ 2:=by
  rintro x ⟨hx,h3,h4⟩
  obtain ⟨z,hz,h5,h6⟩:=dense x k hx hk h4
  exact ⟨z,⟨hz,trans_le h i x z hi hx hz 2 h3 h5,h6⟩,h5⟩
 let sq : Nat → {x // P x}:=fun m => Nat.rec (motive:=fun _ => {x // P x}) ⟨Classical.choose start,Classical.choose_spec start⟩ (fun _ x => ⟨Classical.choose (next x.1 x.2),(Classical.choose_spec (next x.1 x.2)).1⟩) m
 have one : ∀ m,a.getD ((sq m).1 * n + (sq (m + 1)).1) 0 ≤ 2:=fun m => (Classical.choose_spec (next (sq m).1 (sq m).2)).2
 have far : ∀ d m,a.getD ((sq m).1 * n + (sq (m + (d + 1))).1) 0 ≤ 2:=by
  intro d
  induction d with
  | zero => exact one
  | succ d ih => intro m;exact trans_le h _ _ _ (sq m).2.1 (sq (m + (d + 1))).2.1 (sq (m + (d + 1 + 1))).2.1 2 (ih m) (one (m + (d + 1)))
 obtain ⟨x,y,hxy,_,he⟩:=pigeon n (fun m => (sq m).1) (fun m _ => (sq m).2.1)
 obtain ⟨d,rfl⟩ : ∃ d,y = x + (d + 1):=⟨y - x - 1,by omega⟩
 have f:=far d x
 have he' : (sq x).1 = (sq (x + (d + 1))).1:=he
 rw [← he'] at f
 exact ⟨(sq x).1,(sq x).2.1,(sq x).2.2.1,f,(sq x).2.2.2⟩
theorem st_never (h : mulL n a a = a) (hg : Gr a) (i k : Nat) (hi : i < n) (hk : k < n) (h3 : stE n a i k = 3) : a.getD (i * n + k) 0 = 3:=by
 have b:=(gr_getD hg (i * n + k)).2
 by_cases e : a.getD (i * n + k) 0 ≤ 2
 ·obtain ⟨l,hl,h4,h5,h6⟩:=loop_at h i k hi hk e
  have : stE n a i k ≤ 2:=by rw [stE_le];exact Or.inr ⟨l,hl,h4,ag_le2 _ h5,h6⟩
  omega
 ·omega
end
theorem stE_in (n : Nat) (a : List Int) (ha : Gr a) (i k : Nat) : 0 ≤ stE n a i k ∧ stE n a i k ≤ 3:=by
 constructor
 ·have h:=stE_le n a i k (-1)
  have : ¬ stE n a i k ≤ -1:=by
   rw [h]
   rintro (h | ⟨l,_,h1,_⟩)
   ·omega
   ·have:=(gr_getD ha (i * n + l)).1;omega
  omega
 ·rw [stE_le];exact Or.inl (Int.le_refl _)
theorem GV_st (n : Nat) (a : List Int) (h : GV n a) : GV n (stL n a):=by
 rw [GV_iff] at h ⊢
 refine ⟨h.1,h.2.1,stL_length n a,?_⟩
 intro x hx
 obtain ⟨j,hj,rfl⟩:=mem_tab.mp hx
 exact stE_in n a h.2.2.2 _ _
theorem gr_GV (n : Nat) (l : List Int) (h : MV (n : Int) l) : GV (n : Int) (l.map gr):=by
 have hg : ∀ x,0 ≤ gr x ∧ gr x ≤ 3:=by
  intro x
  unfold gr
  by_cases a : x = 0
  ·rw [if_pos a];omega
  ·by_cases b : x = 1000000
   ·rw [if_neg a,if_pos b];omega
   ·rw [if_neg a,if_neg b];omega
 refine ⟨⟨h.1,h.2.1,by rw [List.length_map];exact h.2.2.1,?_⟩,?_⟩
 ·intro x hx;obtain ⟨y,_,rfl⟩:=List.mem_map.mp hx;have:=hg y;omega
 ·intro x hx;obtain ⟨y,_,rfl⟩:=List.mem_map.mp hx;exact (hg y).2
def lgr (n : Nat) (t : List S92) (c : UInt8) : List Int:=(letL n t c).map gr
def resV (n : Nat) : Option (List Int) → Int × List Int × Bool
 | some b => ((n : Int),b,true)
 | none => (0,[],false)
theorem B_toL (l : List UInt8) : (⟨l.toArray⟩ : ByteArray).toList = l:=by rw [toList_L,L_mk]
theorem iLetG (n : Nat) (s f : List Int) (t : List S92) (hv : AV n s f t = true) (hs : s.length ≤ 1000000000) (hf : f.length ≤ 1000000000) (hl : t.length ≤ 1000000000) (c : UInt8) (hc : c = 97 ∨ c = 98) (r : Int × List Int × Bool) (g : Nat → Int × List Int × Bool → Option (Int × List Int × Bool)) (hg : Ev (fun k => g k ((n : Int),lgr n t c,true)) r) :
  Ev (fun k => (impl_StepMatrix.f k n s f t ⟨#[c]⟩).bind fun m => (impl_GradesOf.f k m.1 m.2.1).bind fun v => g k v) r:=by
 obtain ⟨h1,h2,h3,h4,h5⟩:=AV_parts hv
 have e : (⟨#[c]⟩ : ByteArray).toList = [c]:=B_toL [c]
 have a:=iLetter n s f ⟨#[c]⟩ t hv hs hf hl (by rw [e];rcases hc with rfl|rfl <;> simp)
 rw [e] at a
 have hm:=letL_MV n (by omega) (by omega) t (stp_mem h5) c
 refine Ev.bind a (Ev.bind (iGrades n (letL n t c) (MV_max hm)) ?_)
 have e2 : gradesR (n : Int) (letL n t c) = ((n : Int),lgr n t c,true):=by unfold gradesR;rw [if_pos hm];rfl
 rw [e2];exact hg
theorem sLetG (n : Nat) (s f : List Int) (t : List S92) (hv : AV n s f t = true) (hl : t.length ≤ 1000000000) (c : UInt8) (r : Int × List Int × Bool) (g : Nat → Int × List Int → Option (Int × List Int × Bool)) (hg : Ev (fun k => g k ((n : Int),lgr n t c)) r) :
  Ev (fun k => (spec_l3Matrix.f k n s f t ⟨#[c]⟩).bind fun m => (spec_l6Grades.f k m.1 m.2).bind fun v => g k v) r:=by
 obtain ⟨h1,h2,h3,h4,h5⟩:=AV_parts hv
 have e : (⟨#[c]⟩ : ByteArray).toList = [c]:=B_toL [c]
 have a:=sLetter n (by omega) (by omega) s f ⟨#[c]⟩ t (stp_mem h5) hl
 rw [e] at a
 have hm:=letL_MV n (by omega) (by omega) t (stp_mem h5) c
 have hz:=MV_len hm
 have hq:=sq_le n (by omega)
 exact Ev.bind a (Ev.bind (sGradesL n (letL n t c) (by omega)) hg)
structure Val (n : Nat) (s f : List Int) (t : List S92) (e : List UInt8) (ps : List S136) (v : List Int → Option (List Int)) : Prop where
 gv : ∀ a,GV (n : Int) a → ∀ b,v a = some b → GV (n : Int) b
 sp : ∀ a,GV (n : Int) a → Ev (fun k => spec_l7Value.l0 k ⟨e.toArray⟩ n s f t n a) (resV n (v a))
 im : ∀ (pre : List S136),pre ≠ [] → pre.length + ps.length ≤ 1000000 → ∀ a,GV (n : Int) a → Ev (fun k => impl_value.l0 k (pre ++ ps) ((pre ++ ps).length : Int) (pre.length : Int) n s f t n a) (resV n (v a))
 first : ps ≠ [] → ps.length ≤ 1000000 → Ev (fun k => impl_value.l0 k ps (ps.length : Int) 0 n s f t 0 []) (resV n (v (sqL n oneE)))
theorem value_reads (n : Nat) (s f : List Int) (t : List S92) (hv : AV n s f t = true) (hs : s.length ≤ 1000000000) (hf : f.length ≤ 1000000000) (hl : t.length ≤ 1000000000) (N : Nat) : ∀ (e : List UInt8) (ps : List S136),e.length ≤ N → N ≤ 1000 → Reads e ps [] → ∃ v,Val n s f t e ps v:=by
 obtain ⟨h1,h2,h3,h4,h5⟩:=AV_parts hv
 have hn1 : 1 ≤ n:=by omega
 have hn4 : n ≤ 4:=by omega
 have hone:=one_GV n hn1 hn4
 have nil : ∃ v,Val n s f t [] [] v:=by
  refine ⟨some,fun a h b e => by obtain rfl:=Option.some.inj e;exact h,fun a _ => ?_,fun pre _ _ a _ => ?_,fun h => absurd rfl h⟩
  ·refine Ev.step (f:=fun _ => some ((n : Int),a,true)) (fun k => ?_) (Ev.now _)
   simp only [spec_l7Value.l0];rw [if_pos (B_toL [])]
  ·refine Ev.step (f:=fun _ => some ((n : Int),a,true)) (fun k => ?_) (Ev.now _)
   simp only [impl_value.l0];rw [if_neg (by simp)]
 induction N with
 | zero =>
  intro e ps hn hm h
  have he : e = []:=List.length_eq_zero_iff.mp (by omega)
  subst he
  cases h
  exact nil
 | succ N ih =>
  intro e ps hn hm h
  have join : ∀ (a w : List Int),GV (n : Int) a → GV (n : Int) w → GV (n : Int) (mulL n a w):=fun a w ha hw => GV_mul n a w ha hw
  cases h with
  | done => exact nil
  | letter c e ps _ hc h =>
   simp only [List.length_cons] at hn
   obtain ⟨v,V⟩:=ih e ps (by omega) (by omega) h
   have hw : GV (n : Int) (lgr n t c):=gr_GV n _ (letL_MV n hn1 hn4 t (stp_mem h5) c)
   have hne : ¬ (⟨#[c]⟩ : ByteArray).toList = ([] : List UInt8):=by rw [B_toL [c]];simp
   have hlp:=h.parts
   simp only [List.length_nil] at hlp
   refine ⟨fun a => v (mulL n a (lgr n t c)),fun a ha b hb => V.gv _ (join a _ ha hw) b hb,fun a ha => ?_,fun pre hp hlen a ha => ?_,fun _ hlen => ?_⟩
   ·refine Ev.step (f:=?f1) (fun k => ?h1) ?k1
    case h1 => simp only [spec_l7Value.l0];rw [if_neg (by rw [B_toL];simp)] <;> exact rfl
    refine Ev.bind (next_letter ⟨(c :: e).toArray⟩ c e (L_mk _) hc) ?_
    refine Ev_f (by simp) ?_
    exact sLetG n s f t hv hl c _ _ (Ev.bind (sMul n hn4 hn1 a _ (GV_len ha) (GV_len hw)) (V.sp _ (join a _ ha hw)))
   ·have hi:=V.im (pre ++ [⟨⟨#[c]⟩,[]⟩]) (by simp) (by simp only [List.length_append,List.length_cons,List.length_nil] at hlen ⊢;omega) (mulL n a (lgr n t c)) (join a _ ha hw)
    rw [List.append_assoc,List.singleton_append,snocA] at hi
    simp only [List.length_cons] at hlen
    have hpl : 0 < pre.length:=List.length_pos_iff.mpr hp
    have hd : ((pre ++ (⟨⟨#[c]⟩,[]⟩ : S136) :: ps).length : Int) = pre.length + (ps.length + 1):=by rw [List.length_append,List.length_cons];push_cast;rfl
    refine Ev.step (f:=?f2) (fun k => ?h2) ?k2
    case h2 => simp only [impl_value.l0];rw [if_pos (by omega),if_pos (by omega),if_pos (by omega),rd_at,if_neg hne] <;> exact rfl
    refine iLetG n s f t hv hs hf hl c hc _ _ ?_
    refine Ev.step (f:=?f3) (fun k => ?h3) ?k3
    case h3 => simp only [impl_value.j1];rw [if_pos trivial,if_pos (by omega)] <;> exact rfl
    refine Ev.bind (iMul n a _ ha hw) ?_
    refine Ev.congr (fun k => ?_) hi
    rw [w64 (x:=(pre.length : Int) + 1) (by omega) (by omega)]
   ·have hi:=V.im [⟨⟨#[c]⟩,[]⟩] (by simp) (by simp only [List.length_cons,List.length_nil] at hlen ⊢;omega) (lgr n t c) hw
    simp only [List.length_cons] at hlen
    have hd : (((⟨⟨#[c]⟩,[]⟩ : S136) :: ps).length : Int) = ps.length + 1:=by rw [List.length_cons];push_cast;rfl
    have hr : rd_T136 ((⟨⟨#[c]⟩,[]⟩ : S136) :: ps) 0 = ⟨⟨#[c]⟩,[]⟩:=rd_at [] _ ps
    show Ev _ (resV n (v (mulL n (sqL n oneE) (lgr n t c))))
    rw [one_mul' n _ hw]
    refine Ev.step (f:=?f4) (fun k => ?h4) ?k4
    case h4 => simp only [impl_value.l0];rw [if_pos (by omega),if_pos (by omega),if_pos (by omega),hr,if_neg hne] <;> exact rfl
    refine iLetG n s f t hv hs hf hl c hc _ _ ?_
    refine Ev.step (f:=?f5) (fun k => ?h5) ?k5
    case h5 => simp only [impl_value.j1];rw [if_pos trivial,if_neg (by omega)] <;> exact rfl
    exact Ev.congr (fun k => by rw [show wrap64 ((0 : Int) + 1) = 1 from w64 (by omega) (by omega)];rfl) hi
  | again e w e2 ps _ h hw0 h' =>
   simp only [List.length_cons] at hn
   obtain ⟨t1,ht1⟩ : ∃ t1,e = t1 ++ 41 :: 35 :: e2:=h.suffix
   have hin:=reads_inner h ht1
   have hel : e.length = t1.length + (e2.length + 2):=by rw [ht1];simp
   obtain ⟨v1,V1⟩:=ih t1 w (by omega) (by omega) hin
   obtain ⟨v,V⟩:=ih e2 ps (by omega) (by omega) h'
   have hlp:=h'.parts
   have hlw:=hin.parts
   simp only [List.length_nil] at hlp hlw
   have hnil : (⟨#[]⟩ : ByteArray).toList = ([] : List UInt8):=B_toL []
   have hnx : Ev (fun k => spec_l7Next.f k ⟨(40 :: e).toArray⟩) (⟨t1.toArray⟩,true,⟨e2.toArray⟩):=next_again ⟨(40 :: e).toArray⟩ e t1 e2 w (L_mk _) ht1 h hw0 (by rw [L_size,L_mk];simp only [List.length_cons];omega)
   have sIn : Ev (fun k => spec_l7Value.f k n s f t ⟨t1.toArray⟩) (resV n (v1 (sqL n oneE))):=by
    refine Ev.step (f:=?f6) (fun k => ?h6) ?k6
    case h6 => simp only [spec_l7Value.f] <;> exact rfl
    refine Ev.bind (sUnit n hn1 hn4) (Ev.bind (sGradesL n _ ?_) ?_)
    ·have h1_:=MV_len (unit_MV n hn1 hn4)
     have h2_:=sq_le n hn4
     show (sqL n unitE).length ≤ 1048576
     omega
    ·rw [unit_gr];exact V1.sp _ hone
   have iIn : Ev (fun k => impl_value.f k n s f t w) (resV n (v1 (sqL n oneE))):=Ev.step (fun k => by simp only [impl_value.f]) (V1.first hw0 (by omega))
   let inner : Option (List Int):=(v1 (sqL n oneE)).bind fun M => if Idem n M then some (stL n M) else none
   have innerGV : ∀ M,inner = some M → GV (n : Int) M:=by
    intro M hM
    show GV (n : Int) M
    cases h1v : v1 (sqL n oneE) with
    | none =>
     have : inner = none:=by show (v1 (sqL n oneE)).bind _ = none;rw [h1v];rfl
     rw [this] at hM;cases hM
    | some b =>
     have hb:=V1.gv _ hone b h1v
     by_cases hi : Idem (n : Int) b
     ·have : inner = some (stL n b):=by show (v1 (sqL n oneE)).bind _ = _;rw [h1v];show (if Idem n b then some (stL n b) else none) = _;rw [if_pos hi]
      rw [this] at hM;obtain rfl:=Option.some.inj hM
      exact GV_st n b hb
     ·have : inner = none:=by show (v1 (sqL n oneE)).bind _ = none;rw [h1v];show (if Idem n b then some (stL n b) else none) = _;rw [if_neg hi]
      rw [this] at hM;cases hM
   have sPart : ∀ (a : List Int) (r : Int × List Int × Bool),GV (n : Int) a → (inner = none → r = (0,[],false)) → (∀ M,inner = some M → Ev (fun k => spec_l7Value.l0 k ⟨e2.toArray⟩ n s f t n (mulL n a M)) r) →
     Ev (fun k => spec_l7Value.l0 k ⟨(40 :: e).toArray⟩ n s f t n a) r:=by
    intro a r ha hno hyes
    refine Ev.step (f:=?f7) (fun k => ?h7) ?k7
    case h7 => simp only [spec_l7Value.l0];rw [if_neg (by rw [B_toL];simp)] <;> exact rfl
    refine Ev.bind hnx (Ev_t rfl (Ev.bind sIn ?_))
    cases h1v : v1 (sqL n oneE) with
    | none =>
     have : inner = none:=by show (v1 (sqL n oneE)).bind _ = none;rw [h1v];rfl
     refine Ev_f (by show ¬ (false = true);simp) ?_
     refine Ev.step (f:=fun _ => some (0,[],false)) (fun k => ?_) ((Ev.now _).is (hno this).symm)
     simp only [spec_l7Value.j1];rw [if_pos trivial]
    | some b =>
     have hb:=V1.gv _ hone b h1v
     refine Ev_t rfl (Ev.bind (sIdemG n b hb) ?_)
     by_cases hi : Idem (n : Int) b
     ·have : inner = some (stL n b):=by show (v1 (sqL n oneE)).bind _ = _;rw [h1v];show (if Idem n b then some (stL n b) else none) = _;rw [if_pos hi]
      refine Ev.step (f:=?f8) (fun k => ?h8) ?k8
      case h8 => simp only [spec_l7Value.j1];rw [decide_eq_true hi,if_neg (by simp)] <;> exact rfl
      refine Ev.bind (sStab1 n hn4 hn1 b (GV_len hb)) (Ev.bind (sMul n hn4 hn1 a _ (GV_len ha) (stL_length n b)) ?_)
      exact hyes _ this
     ·have : inner = none:=by show (v1 (sqL n oneE)).bind _ = none;rw [h1v];show (if Idem n b then some (stL n b) else none) = _;rw [if_neg hi]
      refine Ev.step (f:=fun _ => some (0,[],false)) (fun k => ?_) ((Ev.now _).is (hno this).symm)
      simp only [spec_l7Value.j1];rw [decide_eq_false hi,if_pos (by rfl)]
   have iPart : ∀ (r : Int × List Int × Bool) (g : Nat → Int × List Int × Bool → Option (Int × List Int × Bool)),(inner = none → ∀ b,b.2.2 = false → Ev (fun k => g k b) r) → (∀ M,inner = some M → Ev (fun k => g k ((n : Int),M,true)) r) →
     Ev (fun k => (impl_value.f k n s f t w).bind fun b => if b.2.2 = true then ((impl_Stabilise.f k b.1 b.2.1).bind fun q => g k q) else g k b) r:=by
    intro r g hno hyes
    refine Ev.bind iIn ?_
    cases h1v : v1 (sqL n oneE) with
    | none =>
     have : inner = none:=by show (v1 (sqL n oneE)).bind _ = none;rw [h1v];rfl
     exact Ev_f (by show ¬ (false = true);simp) (hno this _ rfl)
    | some b =>
     have hb:=V1.gv _ hone b h1v
     refine Ev_t rfl (Ev.bind (iStab n b (big16 hb)) ?_)
     by_cases hi : Idem (n : Int) b
     ·have : inner = some (stL n b):=by show (v1 (sqL n oneE)).bind _ = _;rw [h1v];show (if Idem n b then some (stL n b) else none) = _;rw [if_pos hi]
      have e1 : stabR (n : Int) b = ((n : Int),stL n b,true):=by unfold stabR;rw [if_pos hi];rfl
      rw [e1];exact hyes _ this
     ·have : inner = none:=by show (v1 (sqL n oneE)).bind _ = none;rw [h1v];show (if Idem n b then some (stL n b) else none) = _;rw [if_neg hi]
      have e1 : stabR (n : Int) b = (0,[],false):=by unfold stabR;rw [if_neg hi]
      rw [e1];exact hno this _ rfl
   refine ⟨fun a => inner.bind fun M => v (mulL n a M),fun a ha b hb => ?_,fun a ha => ?_,fun pre hp hlen a ha => ?_,fun _ hlen => ?_⟩
   ·cases hI : inner with
    | none => rw [hI] at hb;cases hb
    | some M => rw [hI] at hb;exact V.gv _ (join a M ha (innerGV M hI)) b hb
   ·refine sPart a _ ha (fun hI => by rw [hI];rfl) (fun M hI => ?_)
    rw [hI];exact V.sp _ (join a M ha (innerGV M hI))
   ·simp only [List.length_cons] at hlen
    have hpl : 0 < pre.length:=List.length_pos_iff.mpr hp
    have hd : ((pre ++ (⟨⟨#[]⟩,w⟩ : S136) :: ps).length : Int) = pre.length + (ps.length + 1):=by rw [List.length_append,List.length_cons];push_cast;rfl
    refine Ev.step (f:=?f9) (fun k => ?h9) ?k9
    case h9 => simp only [impl_value.l0];rw [if_pos (by omega),if_pos (by omega),if_pos (by omega),rd_at,if_pos hnil] <;> exact rfl
    refine iPart _ (fun k b => impl_value.j1 k pre.length b.2.2 (pre ++ (⟨⟨#[]⟩,w⟩ : S136) :: ps) ((pre ++ (⟨⟨#[]⟩,w⟩ : S136) :: ps).length : Int) pre.length n s f t n a b.1 b.2.1) (fun hI b hb => ?_) (fun M hI => ?_)
    ·rw [hI]
     refine Ev.step (f:=fun _ => some (0,[],false)) (fun k => ?_) (Ev.now _)
     rw [hb];simp only [impl_value.j1];rw [if_neg (by simp)]
    ·have hi:=V.im (pre ++ [⟨⟨#[]⟩,w⟩]) (by simp) (by simp only [List.length_append,List.length_cons,List.length_nil];omega) (mulL n a M) (join a M ha (innerGV M hI))
     rw [List.append_assoc,List.singleton_append,snocA] at hi
     rw [hI]
     refine Ev.step (f:=?f10) (fun k => ?h10) ?k10
     case h10 => simp only [impl_value.j1];rw [if_pos trivial,if_pos (by omega)] <;> exact rfl
     refine Ev.bind (iMul n a M ha (innerGV M hI)) ?_
     refine Ev.congr (fun k => ?_) hi
     rw [w64 (x:=(pre.length : Int) + 1) (by omega) (by omega)]
   ·simp only [List.length_cons] at hlen
    have hd : (((⟨⟨#[]⟩,w⟩ : S136) :: ps).length : Int) = ps.length + 1:=by rw [List.length_cons];push_cast;rfl
    have hr : rd_T136 ((⟨⟨#[]⟩,w⟩ : S136) :: ps) 0 = ⟨⟨#[]⟩,w⟩:=rd_at [] _ ps
    refine Ev.step (f:=?f11) (fun k => ?h11) ?k11
    case h11 => simp only [impl_value.l0];rw [if_pos (by omega),if_pos (by omega),if_pos (by omega),hr,if_pos hnil] <;> exact rfl
    refine iPart _ (fun k b => impl_value.j1 k 0 b.2.2 ((⟨⟨#[]⟩,w⟩ : S136) :: ps) (((⟨⟨#[]⟩,w⟩ : S136) :: ps).length : Int) 0 n s f t 0 [] b.1 b.2.1) (fun hI b hb => ?_) (fun M hI => ?_)
    ·rw [hI]
     refine Ev.step (f:=fun _ => some (0,[],false)) (fun k => ?_) (Ev.now _)
     rw [hb];simp only [impl_value.j1];rw [if_neg (by simp)]
    ·have hi:=V.im [⟨⟨#[]⟩,w⟩] (by simp) (by simp only [List.length_cons,List.length_nil];omega) M (innerGV M hI)
     rw [hI]
     show Ev _ (resV n (v (mulL n (sqL n oneE) M)))
     rw [one_mul' n M (innerGV M hI)]
     refine Ev.step (f:=?f12) (fun k => ?h12) ?k12
     case h12 => simp only [impl_value.j1];rw [if_pos trivial,if_neg (by omega)] <;> exact rfl
     exact Ev.congr (fun k => by rw [show wrap64 ((0 : Int) + 1) = 1 from w64 (by omega) (by omega)];rfl) hi
theorem value_both (n : Int) (s f : List Int) (t : List S92) (x : ByteArray) (hs : s.length ≤ 1000000000) (hf : f.length ≤ 1000000000) (hl : t.length ≤ 1000000000) : ∃ r : Int × List Int × Bool,r.2.1.length ≤ 16 ∧ (r.2.2 = true → AV n s f t = true ∧ r.1 = n ∧ GV n r.2.1) ∧
  Ev (fun k => spec_ValueOf.f k n s f t x) r ∧ Ev (fun k => impl_ValueOf.f k n s f t x) r:=by
 have no : Ev (fun k => spec_ValueOf.f k n s f t x) (0,[],false) → Ev (fun k => impl_ValueOf.f k n s f t x) (0,[],false) → ∃ r : Int × List Int × Bool,r.2.1.length ≤ 16 ∧ (r.2.2 = true → AV n s f t = true ∧ r.1 = n ∧ GV n r.2.1) ∧ Ev (fun k => spec_ValueOf.f k n s f t x) r ∧ Ev (fun k => impl_ValueOf.f k n s f t x) r:=fun a b => ⟨(0,[],false),by simp,fun h => (by cases h),a,b⟩
 obtain ⟨ps,ok,hp,hvld,hrd⟩ : ∃ (ps : List S136) (ok : Bool),Ev (fun k => impl_parts.f k x) (ps,ok) ∧ Ev (fun k => spec_ExpressionValid.f k x) ok ∧ (ok = true → x.size ≤ 120 ∧ ps ≠ [] ∧ Reads (L x) ps []):=by
  by_cases hz : x.size ≤ 120
  ·obtain ⟨ps,r,h,hp⟩:=parts_eval x hz
   refine ⟨ps,_,hp,valid_eval x hz h,fun ho => ?_⟩
   have:=of_decide_eq_true ho
   obtain ⟨h1,rfl⟩:=this
   exact ⟨hz,h1,h⟩
  ·exact ⟨[],false,parts_long x (by omega),valid_long x (by omega),fun h => by cases h⟩
 by_cases g1 : AV n s f t = true
 case neg =>
  refine no ?_ ?_
  ·unfold spec_ValueOf.f;exact Ev.bind (sAV n s f t hs hf hl) (Ev_f g1 (Ev.now _))
  ·unfold impl_ValueOf.f
   refine Ev.bind hp ?_
   cases ok with
   | true => exact Ev_t rfl (Ev.bind (iAV n s f t hs hf hl) (Ev_f g1 (Ev.now _)))
   | false => exact Ev_f (by simp) (Ev.now _)
 cases ok with
 | false =>
  refine no ?_ ?_
  ·unfold spec_ValueOf.f;exact Ev.bind (sAV n s f t hs hf hl) (Ev_t g1 (Ev.bind hvld (Ev_f (by simp) (Ev.now _))))
  ·unfold impl_ValueOf.f;exact Ev.bind hp (Ev_f (by simp) (Ev.now _))
 | true =>
  obtain ⟨hz,hne,hR⟩:=hrd rfl
  obtain ⟨h1,h2,h3,h4,h5⟩:=AV_parts g1
  obtain ⟨m,rfl⟩ : ∃ m : Nat,n = (m : Int):=⟨n.toNat,by omega⟩
  have hone:=one_GV m (by omega) (by omega)
  have hxl : (L x).length ≤ 120:=by rw [← L_size];exact hz
  obtain ⟨v,V⟩:=value_reads m s f t g1 hs hf hl 1000 (L x) ps (by omega) (Nat.le_refl _) hR
  have hx : (⟨(L x).toArray⟩ : ByteArray) = x:=L_inj (L_mk _)
  have hlp:=hR.parts
  simp only [List.length_nil] at hlp
  refine ⟨resV m (v (sqL m oneE)),?_,?_,?_,?_⟩
  ·cases hq : v (sqL m oneE) with
   | none => simp [resV]
   | some b => exact len_of_GV (V.gv _ hone b hq)
  ·cases hq : v (sqL m oneE) with
   | none => intro h;cases h
   | some b => intro _;exact ⟨g1,rfl,V.gv _ hone b hq⟩
  ·unfold spec_ValueOf.f
   refine Ev.bind (sAV m s f t hs hf hl) (Ev_t g1 (Ev.bind hvld (Ev_t rfl ?_)))
   refine Ev.bind (a:=resV m (v (sqL m oneE))) ?_ (Ev.now _)
   refine Ev.step (f:=?f13) (fun k => ?h13) ?k13
   case h13 => simp only [spec_l7Value.f] <;> exact rfl
   refine Ev.bind (sUnit m (by omega) (by omega)) (Ev.bind (sGradesL m _ ?_) ?_)
   ·have h1_:=MV_len (unit_MV m (by omega) (by omega))
    have h2_:=sq_le m (by omega)
    show (sqL m unitE).length ≤ 1048576
    omega
   ·rw [unit_gr,← hx];exact V.sp _ hone
  ·unfold impl_ValueOf.f
   refine Ev.bind hp (Ev_t rfl (Ev.bind (iAV m s f t hs hf hl) (Ev_t g1 ?_)))
   refine Ev.bind (a:=resV m (v (sqL m oneE))) ?_ (Ev.now _)
   exact Ev.step (fun k => by simp only [impl_value.f]) (V.first hne (by omega))
end Go.Proofs.Ytfmbpoojpnoafaa.Y
end
