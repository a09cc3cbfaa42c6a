import Derived.Test.YtfmbpoojpnoafaaKFnExactValueOf1
import Derived.Test.YtfmbpoojpnoafaaKFnExactValueOf3
section
namespace Go.Proofs.Ytfmbpoojpnoafaa.X
open Go.RowKit Go.Proofs.YtfmbpoojpnoafaaW.PrintWords Go.Proofs.YtfmbpoojpnoafaaW.PrintLast Go.Proofs.YtfmbpoojpnoafaaW.PrintMore
attribute [local go_sem] max2_int min2_int max_two min_two max_three min_three max_four min_four
set_option linter.unusedVariables false
set_option linter.unusedSimpArgs false
mutual
def spec_AutomatonValid.j0 : Nat → Bool → Int → List Int → List Int → List (S92) → Option (Bool)
 | 0,_,_,_,_,_ => none
 | k + 1,x30,x120000,x120001,x120002,x120003 => if x30 = true then (some false) else (spec_AutomatonValid.l0 k x120003 (x120003.length : Int) 0 x120000 x120001 x120002 x120003)
def spec_AutomatonValid.l0 : Nat → List (S92) → Int → Int → Int → List Int → List Int → List (S92) → Option (Bool)
 | 0,_,_,_,_,_,_,_ => none
 | k + 1,x32,x33,x34,x120000,x120001,x120002,x120003 => if x34 < x33 then (if 0 ≤ x34 then (if x34 < (x32.length : Int) then ((spec_l3Step.f x120000 ((rd_T92 x32 x34).f0) ((rd_T92 x32 x34).f1) ((rd_T92 x32 x34).f2) ((rd_T92 x32 x34).f3)).bind fun t125 => (if t125 = true then (if x34 > 0 then (if 0 ≤ (wrap64 (x34 - 1)) then (if (wrap64 (x34 - 1)) < (x120003.length : Int) then ((spec_l3Before.f ((rd_T92 x120003 (wrap64 (x34 - 1))).f0) ((rd_T92 x120003 (wrap64 (x34 - 1))).f1) ((rd_T92 x120003 (wrap64 (x34 - 1))).f2) ((rd_T92 x120003 (wrap64 (x34 - 1))).f3) ((rd_T92 x32 x34).f0) ((rd_T92 x32 x34).f1) ((rd_T92 x32 x34).f2) ((rd_T92 x32 x34).f3)).bind fun t127 => (if t127 = true then (spec_AutomatonValid.l0 k x32 x33 (wrap64 (x34 + 1)) x120000 x120001 x120002 x120003) else (some false))) else (none)) else (none)) else (spec_AutomatonValid.l0 k x32 x33 (wrap64 (x34 + 1)) x120000 x120001 x120002 x120003)) else (some false))) else (none)) else (none)) else (some true)
end
def spec_AutomatonValid.f (k : Nat) (a0_0 : Int) (l0_1 : List Int) (l0_2 : List Int) (l0_3 : List (S92)) : Option (Bool):=(spec_l1In.f a0_0 1 4).bind fun t120 => (if t120 = true then ((spec_l3Marks.f k a0_0 l0_1).bind fun t121 => (if t121 = true then ((spec_l3Marks.f k a0_0 l0_2).bind fun t122 => (if t122 = true then (spec_AutomatonValid.j0 k (decide ((l0_3.length : Int) > 24)) a0_0 l0_1 l0_2 l0_3) else (spec_AutomatonValid.j0 k true a0_0 l0_1 l0_2 l0_3))) else (spec_AutomatonValid.j0 k true a0_0 l0_1 l0_2 l0_3))) else (spec_AutomatonValid.j0 k true a0_0 l0_1 l0_2 l0_3))
theorem spec_AutomatonValid.mono_l : ∀ k,(∀ y0 y1 y2 y3 y4,LeO (spec_AutomatonValid.j0 k y0 y1 y2 y3 y4) (spec_AutomatonValid.j0 (k + 1) y0 y1 y2 y3 y4)) ∧ (∀ y0 y1 y2 y3 y4 y5 y6,LeO (spec_AutomatonValid.l0 k y0 y1 y2 y3 y4 y5 y6) (spec_AutomatonValid.l0 (k + 1) y0 y1 y2 y3 y4 y5 y6))
 | 0 => ⟨fun _ _ _ _ _ r h => by simp [spec_AutomatonValid.j0] at h,fun _ _ _ _ _ _ _ r h => by simp [spec_AutomatonValid.l0] at h⟩
 | k + 1 => by
  obtain ⟨ih0,ih1⟩:=spec_AutomatonValid.mono_l k
  refine ⟨?_,?_⟩
  ·intro y0 y1 y2 y3 y4
   unfold spec_AutomatonValid.j0
   repeat' first
   | (with_reducible exact ih0 _ _ _ _ _)
   | (with_reducible exact ih1 _ _ _ _ _ _ _)
   | (with_reducible exact spec_l3Marks.mono _ _ _)
   | (with_reducible first|exact LeO.refl _|exact LeO.none _|refine LeO.ite ?_ ?_|refine LeO.bind ?_ (fun _ => ?_))
   | exact ih0 _ _ _ _ _
   | exact ih1 _ _ _ _ _ _ _
   | exact spec_l3Marks.mono _ _ _
   | exact LeO.none _
   | refine LeO.ite ?_ ?_
   | refine LeO.bind ?_ (fun _ => ?_)
  ·intro y0 y1 y2 y3 y4 y5 y6
   unfold spec_AutomatonValid.l0
   repeat' first
   | (with_reducible exact ih0 _ _ _ _ _)
   | (with_reducible exact ih1 _ _ _ _ _ _ _)
   | (with_reducible exact spec_l3Marks.mono _ _ _)
   | (with_reducible first|exact LeO.refl _|exact LeO.none _|refine LeO.ite ?_ ?_|refine LeO.bind ?_ (fun _ => ?_))
   | exact ih0 _ _ _ _ _
   | exact ih1 _ _ _ _ _ _ _
   | exact spec_l3Marks.mono _ _ _
   | exact LeO.none _
   | refine LeO.ite ?_ ?_
   | refine LeO.bind ?_ (fun _ => ?_)
theorem spec_AutomatonValid.mono : ∀ a0 a1 a2 a3 k,LeO (spec_AutomatonValid.f k a0 a1 a2 a3) (spec_AutomatonValid.f (k + 1) a0 a1 a2 a3):=by
 intro a0 a1 a2 a3 k
 obtain ⟨ih0,ih1⟩:=spec_AutomatonValid.mono_l k
 unfold spec_AutomatonValid.f
 repeat' first
   | (with_reducible exact ih0 _ _ _ _ _)
   | (with_reducible exact ih1 _ _ _ _ _ _ _)
   | (with_reducible exact spec_l3Marks.mono _ _ _)
   | (with_reducible first|exact LeO.refl _|exact LeO.none _|refine LeO.ite ?_ ?_|refine LeO.bind ?_ (fun _ => ?_))
   | exact ih0 _ _ _ _ _
   | exact ih1 _ _ _ _ _ _ _
   | exact spec_l3Marks.mono _ _ _
   | exact LeO.none _
   | refine LeO.ite ?_ ?_
   | refine LeO.bind ?_ (fun _ => ?_)
def spec_AutomatonValid.T6 : Bool × List (List Nat × List Nat):=(true,[([],[]),([0],[0]),([],[]),([1,2],[1,2]),([3],[3]),([4,3],[4]),([5],[5]),([6,5],[5,6]),([7,5,5],[5,7]),([8],[8]),([9,8],[8,9]),([8],[8]),([11,8],[8,11]),([10,12,8],[8,10,12]),([13,8],[8,13]),([8],[8]),([14,15,8,8],[8,14,15]),([16,8],[8,16]),([8,17,5],[5,8,17]),([5,18],[5,18])])
def spec_AutomatonValid.B6 : List Nat:=[0,1,0,7,15,31,63,127,255,511,1023,511,2559,8191,16383,511,65535,131071,262143,524287]
theorem spec_AutomatonValid.tab6 : rtab .any (opsOf Try.f67 6) = spec_AutomatonValid.T6:=by kernel_rfl
theorem spec_AutomatonValid.bits6 : waitsOk spec_AutomatonValid.T6.2 spec_AutomatonValid.B6 = true:=by kernel_rfl
set_option maxHeartbeats 8000000 in
set_option maxRecDepth 100000 in
theorem spec_AutomatonValid.calls (k : Nat) (a0_0 : Int) (A0_1 : Option Addr) (c0_1 : Nat) (l0_1 : List Int) (A0_2 : Option Addr) (c0_2 : Nat) (l0_2 : List Int) (A0_3 : Option Addr) (c0_3 : Nat) (l0_3 : List (S92)) (r : Bool) (w : World) (hr0_1 : Kd.C (Kd.int .i64) w A0_1 l0_1.length l0_1) (hc0_1 : l0_1.length ≤ c0_1) (hr0_2 : Kd.C (Kd.int .i64) w A0_2 l0_2.length l0_2) (hc0_2 : l0_2.length ≤ c0_2) (hr0_3 : Kd.C k92 w A0_3 l0_3.length l0_3) (hc0_3 : l0_3.length ≤ c0_3) (h : spec_AutomatonValid.f k a0_0 l0_1 l0_2 l0_3 = some r) :
  Calls Try.prog 67 #[.agg #[.int .i64 a0_0,.slice A0_1 l0_1.length c0_1,.slice A0_2 l0_2.length c0_2,.slice A0_3 l0_3.length c0_3]] w fun e w' => e = .returned (.bool r) ∧ Below w.heap.size w w':=by
 have hu33:=Try.underlying33
 have hu92:=Try.underlying92
 have HR0_1:=Aside0.mk hr0_1
 have HC0_1:=Aside0.mk hc0_1
 clear hr0_1 hc0_1
 have HR0_2:=Aside0.mk hr0_2
 have HC0_2:=Aside0.mk hc0_2
 clear hr0_2 hc0_2
 have HR0_3:=Aside0.mk hr0_3
 have HC0_3:=Aside0.mk hc0_3
 clear hr0_3 hc0_3
 have HB:=Aside0.mk (Below.refl w.heap.size w)
 have H : ((spec_l1In.f a0_0 1 4).bind fun t120 => (if t120 = true then ((spec_l3Marks.f k a0_0 l0_1).bind fun t121 => (if t121 = true then ((spec_l3Marks.f k a0_0 l0_2).bind fun t122 => (if t122 = true then (spec_AutomatonValid.j0 k (decide ((l0_3.length : Int) > 24)) a0_0 l0_1 l0_2 l0_3) else (spec_AutomatonValid.j0 k true a0_0 l0_1 l0_2 l0_3))) else (spec_AutomatonValid.j0 k true a0_0 l0_1 l0_2 l0_3))) else (spec_AutomatonValid.j0 k true a0_0 l0_1 l0_2 l0_3))) = some r:=h
 clear h
 have HC2:=Aside0.mk H
 clear H
 go_enter Try.func67,Try.ntmps67
 go_upto_region 1 with (first|((with_reducible refine gate_dst (N:=1) rfl ?_);(try (refine gate_guard (by rfl) ?_;dsimp only));refine box_event ?hg (N:=1) ?hd (cs:=#[.int .i64 a0_0,.slice A0_1 l0_1.length c0_1,.slice A0_2 l0_2.length c0_2,.slice A0_3 l0_3.length c0_3]) (t:=33) ?hr ?_;(case hd => rfl);(case hg => rfl);(case hr => first|(go_simp;done)|(go_simp;rfl));intro gb119 hg w3 hbox hb;have BK119:=Aside0.mk (hbox);have GW119:=gw0_ hg HB;have GE119:=GW119;replace HB:=hs0_ HB hb;clear hb hbox hg))
 (try simp only [Act.put,List.setIfInBounds_toArray,List.set_cons_zero,List.set_cons_succ])
 go_cut [30] (fun v30 wc => ∃ (kq : Nat) (x30_1 : Bool),v30 = .bool x30_1 ∧ Aside0 (spec_AutomatonValid.j0 kq x30_1 a0_0 l0_1 l0_2 l0_3 = some r) ∧ Aside0 (kq ≤ k) ∧ Aside0 (wc.heap[gb119]? = some (.cells #[.int .i64 a0_0,(.slice A0_1 l0_1.length c0_1),(.slice A0_2 l0_2.length c0_2),(.slice A0_3 l0_3.length c0_3)] 33 (0,0))) ∧ Aside0 (Below w.heap.size w wc))
 case first =>
  have H:=HC2.out
  clear HC2
  replace H:=Option.bind_eq_some_iff.mp H
  obtain ⟨t120,A40,H⟩:=H
  replace H : (if t120 = true then ((spec_l3Marks.f k a0_0 l0_1).bind fun t121 => (if t121 = true then ((spec_l3Marks.f k a0_0 l0_2).bind fun t122 => (if t122 = true then (spec_AutomatonValid.j0 k (decide ((l0_3.length : Int) > 24)) a0_0 l0_1 l0_2 l0_3) else (spec_AutomatonValid.j0 k true a0_0 l0_1 l0_2 l0_3))) else (spec_AutomatonValid.j0 k true a0_0 l0_1 l0_2 l0_3))) else (spec_AutomatonValid.j0 k true a0_0 l0_1 l0_2 l0_3)) = some r:=H
  have A4:=Aside0.mk A40
  clear A40
  by_cases c5 : t120 = true
  ·subst c5
   have H1 : ((spec_l3Marks.f k a0_0 l0_1).bind fun t121 => (if t121 = true then ((spec_l3Marks.f k a0_0 l0_2).bind fun t122 => (if t122 = true then (spec_AutomatonValid.j0 k (decide ((l0_3.length : Int) > 24)) a0_0 l0_1 l0_2 l0_3) else (spec_AutomatonValid.j0 k true a0_0 l0_1 l0_2 l0_3))) else (spec_AutomatonValid.j0 k true a0_0 l0_1 l0_2 l0_3))) = some r:=by rw [if_pos rfl] at H;exact H
   clear H
   have H:=H1
   clear H1
   replace H:=Option.bind_eq_some_iff.mp H
   obtain ⟨t121,A60,H⟩:=H
   replace H : (if t121 = true then ((spec_l3Marks.f k a0_0 l0_2).bind fun t122 => (if t122 = true then (spec_AutomatonValid.j0 k (decide ((l0_3.length : Int) > 24)) a0_0 l0_1 l0_2 l0_3) else (spec_AutomatonValid.j0 k true a0_0 l0_1 l0_2 l0_3))) else (spec_AutomatonValid.j0 k true a0_0 l0_1 l0_2 l0_3)) = some r:=H
   have A6:=Aside0.mk A60
   clear A60
   by_cases c7 : t121 = true
   ·subst c7
    have H1 : ((spec_l3Marks.f k a0_0 l0_2).bind fun t122 => (if t122 = true then (spec_AutomatonValid.j0 k (decide ((l0_3.length : Int) > 24)) a0_0 l0_1 l0_2 l0_3) else (spec_AutomatonValid.j0 k true a0_0 l0_1 l0_2 l0_3))) = some r:=by rw [if_pos rfl] at H;exact H
    clear H
    have H:=H1
    clear H1
    replace H:=Option.bind_eq_some_iff.mp H
    obtain ⟨t122,A80,H⟩:=H
    replace H : (if t122 = true then (spec_AutomatonValid.j0 k (decide ((l0_3.length : Int) > 24)) a0_0 l0_1 l0_2 l0_3) else (spec_AutomatonValid.j0 k true a0_0 l0_1 l0_2 l0_3)) = some r:=H
    have A8:=Aside0.mk A80
    clear A80
    by_cases c9 : t122 = true
    ·subst c9
     have H1 : (spec_AutomatonValid.j0 k (decide ((l0_3.length : Int) > 24)) a0_0 l0_1 l0_2 l0_3) = some r:=by rw [if_pos rfl] at H;exact H
     clear H
     have H:=H1
     clear H1
     have H':=Aside0.mk H
     clear H
     obtain ⟨hcz10_0,hcz10_1,hcz10_2,hcz10_3,hfz10_0,hfz10_1,hfz10_2,hfz10_3⟩:=cf4_ BK119.out
     go_wp2_with (first|((with_reducible refine gate_callee (f:=90) rfl ?_);refine goesL_ (some 7) rfl rfl Try.func90 (by kernel_rfl) rfl #[.int .i64 a0_0,.int .i64 1,.int .i64 4] rfl lp_ ?_;(with_reducible refine (spec_l1In.calls a0_0 1 4 true _ A4.out).mono ?_);rintro e w' ⟨rfl,⟨nd,rfl⟩⟩;refine ⟨_,rfl,?_⟩)|(go_at_call 119;(with_reducible refine (spec_l3Marks.calls k a0_0 _ _ l0_1 true _ ?side1 ?side2 A6.out).mono ?_);(case side1 => exact cr_ (Kd.C_below HR0_1.out (be1_ HB.out GE119.out)));(case side2 => exact HC0_1.out);rintro e w' ⟨rfl,⟨nd,rfl⟩⟩)|(go_at_call 119;(with_reducible refine (spec_l3Marks.calls k a0_0 _ _ l0_2 true _ ?side1 ?side2 A8.out).mono ?_);(case side1 => exact cr_ (Kd.C_below HR0_2.out (be1_ HB.out GE119.out)));(case side2 => exact HC0_2.out);rintro e w' ⟨rfl,⟨nd,rfl⟩⟩))
     go_meet
     case rel => exact ⟨_,(decide ((l0_3.length : Int) > 24)),rs_,H',⟨by first|omega|exact Nat.le_refl _⟩,⟨pe_ BK119.out⟩,⟨be1_ HB.out GE119.out⟩⟩
    ·replace c9:=Bool.eq_false_iff.mpr c9
     subst c9
     have H1 : (spec_AutomatonValid.j0 k true a0_0 l0_1 l0_2 l0_3) = some r:=by rw [if_neg (show ¬ (false = true) by decide)] at H;exact H
     clear H
     have H:=H1
     clear H1
     have H':=Aside0.mk H
     clear H
     obtain ⟨hcz11_0,hcz11_1,hcz11_2,hcz11_3,hfz11_0,hfz11_1,hfz11_2,hfz11_3⟩:=cf4_ BK119.out
     go_wp2_with (first|((with_reducible refine gate_callee (f:=90) rfl ?_);refine goesL_ (some 7) rfl rfl Try.func90 (by kernel_rfl) rfl #[.int .i64 a0_0,.int .i64 1,.int .i64 4] rfl lp_ ?_;(with_reducible refine (spec_l1In.calls a0_0 1 4 true _ A4.out).mono ?_);rintro e w' ⟨rfl,⟨nd,rfl⟩⟩;refine ⟨_,rfl,?_⟩)|(go_at_call 119;(with_reducible refine (spec_l3Marks.calls k a0_0 _ _ l0_1 true _ ?side1 ?side2 A6.out).mono ?_);(case side1 => exact cr_ (Kd.C_below HR0_1.out (be1_ HB.out GE119.out)));(case side2 => exact HC0_1.out);rintro e w' ⟨rfl,⟨nd,rfl⟩⟩)|(go_at_call 119;(with_reducible refine (spec_l3Marks.calls k a0_0 _ _ l0_2 false _ ?side1 ?side2 A8.out).mono ?_);(case side1 => exact cr_ (Kd.C_below HR0_2.out (be1_ HB.out GE119.out)));(case side2 => exact HC0_2.out);rintro e w' ⟨rfl,⟨nd,rfl⟩⟩))
     go_meet
     case rel => exact ⟨_,(true),rs_,H',⟨by first|omega|exact Nat.le_refl _⟩,⟨pe_ BK119.out⟩,⟨be1_ HB.out GE119.out⟩⟩
   ·replace c7:=Bool.eq_false_iff.mpr c7
    subst c7
    have H1 : (spec_AutomatonValid.j0 k true a0_0 l0_1 l0_2 l0_3) = some r:=by rw [if_neg (show ¬ (false = true) by decide)] at H;exact H
    clear H
    have H:=H1
    clear H1
    have H':=Aside0.mk H
    clear H
    obtain ⟨hcz12_0,hcz12_1,hcz12_2,hcz12_3,hfz12_0,hfz12_1,hfz12_2,hfz12_3⟩:=cf4_ BK119.out
    go_wp2_with (first|((with_reducible refine gate_callee (f:=90) rfl ?_);refine goesL_ (some 7) rfl rfl Try.func90 (by kernel_rfl) rfl #[.int .i64 a0_0,.int .i64 1,.int .i64 4] rfl lp_ ?_;(with_reducible refine (spec_l1In.calls a0_0 1 4 true _ A4.out).mono ?_);rintro e w' ⟨rfl,⟨nd,rfl⟩⟩;refine ⟨_,rfl,?_⟩)|(go_at_call 119;(with_reducible refine (spec_l3Marks.calls k a0_0 _ _ l0_1 false _ ?side1 ?side2 A6.out).mono ?_);(case side1 => exact cr_ (Kd.C_below HR0_1.out (be1_ HB.out GE119.out)));(case side2 => exact HC0_1.out);rintro e w' ⟨rfl,⟨nd,rfl⟩⟩))
    go_meet
    case rel => exact ⟨_,(true),rs_,H',⟨by first|omega|exact Nat.le_refl _⟩,⟨pe_ BK119.out⟩,⟨be1_ HB.out GE119.out⟩⟩
  ·replace c5:=Bool.eq_false_iff.mpr c5
   subst c5
   have H1 : (spec_AutomatonValid.j0 k true a0_0 l0_1 l0_2 l0_3) = some r:=by rw [if_neg (show ¬ (false = true) by decide)] at H;exact H
   clear H
   have H:=H1
   clear H1
   have H':=Aside0.mk H
   clear H
   obtain ⟨hcz13_0,hcz13_1,hcz13_2,hcz13_3,hfz13_0,hfz13_1,hfz13_2,hfz13_3⟩:=cf4_ BK119.out
   go_wp2_with (first|((with_reducible refine gate_callee (f:=90) rfl ?_);refine goesL_ (some 7) rfl rfl Try.func90 (by kernel_rfl) rfl #[.int .i64 a0_0,.int .i64 1,.int .i64 4] rfl lp_ ?_;(with_reducible refine (spec_l1In.calls a0_0 1 4 false _ A4.out).mono ?_);rintro e w' ⟨rfl,⟨nd,rfl⟩⟩;refine ⟨_,rfl,?_⟩))
   go_meet
   case rel => exact ⟨_,(true),rs_,H',⟨by first|omega|exact Nat.le_refl _⟩,⟨pe_ BK119.out⟩,⟨be1_ HB.out GE119.out⟩⟩
 case rest =>
  clear HC2
  obtain ⟨kq,x30_1,rfl,HA,HJ1,BK119,HB⟩:=hcut
  cases kq with
  | zero => exact absurd HA.out (by simp [spec_AutomatonValid.j0])
  | succ kj1 =>
   have H:=HA.out
   clear HA
   simp only [spec_AutomatonValid.j0] at H
   by_cases c14 : x30_1 = true
   ·subst c14
    have H1 : (some false) = some r:=by rw [if_pos rfl] at H;exact H
    clear H
    have H:=H1
    clear H1
    obtain rfl:=Option.some.inj H
    go_wp2
    go_ret
    exact ⟨er_,be1_ HB.out GE119.out⟩
   ·replace c14:=Bool.eq_false_iff.mpr c14
    subst c14
    have H1 : (spec_AutomatonValid.l0 kj1 l0_3 (l0_3.length : Int) 0 a0_0 l0_1 l0_2 l0_3) = some r:=by rw [if_neg (show ¬ (false = true) by decide)] at H;exact H
    clear H
    have H:=H1
    clear H1
    have H':=Aside0.mk H
    clear H
    obtain ⟨hcz15_0,hcz15_1,hcz15_2,hcz15_3,hfz15_0,hfz15_1,hfz15_2,hfz15_3⟩:=cf4_ BK119.out
    go_wp2
    go_loopg [34] kj1 (fun kq v34 w' => ∃ (x34_2 : Int),v34 = .int .i64 x34_2 ∧ Aside0 (spec_AutomatonValid.l0 kq l0_3 (l0_3.length : Int) x34_2 a0_0 l0_1 l0_2 l0_3 = some r) ∧ Aside0 (kq ≤ kj1) ∧ Aside0 (w'.heap[gb119]? = some (.cells #[.int .i64 a0_0,(.slice A0_1 l0_1.length c0_1),(.slice A0_2 l0_2.length c0_2),(.slice A0_3 l0_3.length c0_3)] 33 (0,0))) ∧ Aside0 (Below w.heap.size w w'))
    case atStart => exact ⟨(0),rs_,H',⟨Nat.le_refl _⟩,⟨pe_ BK119.out⟩,⟨be1_ HB.out GE119.out⟩⟩
    case round =>
     clear H'
     obtain ⟨x34_2,rfl,HA,HK2,BK119,HB⟩:=hrel
     cases gk with
     | zero => exact absurd HA.out (by simp [spec_AutomatonValid.l0])
     | succ k2 =>
      have H:=HA.out
      clear HA
      simp only [spec_AutomatonValid.l0] at H
      by_cases c16 : x34_2 < (l0_3.length : Int)
      ·rw [if_pos c16] at H
       have c16b0 : decide (x34_2 < (l0_3.length : Int)) = true:=decide_eq_true c16
       clear c16
       by_cases c17 : 0 ≤ x34_2
       ·rw [if_pos c17] at H
        have c17b0 : decide (0 ≤ x34_2) = true:=decide_eq_true c17
        clear c17
        by_cases c18 : x34_2 < (l0_3.length : Int)
        ·rw [if_pos c18] at H
         have c18b0 : decide (x34_2 < (l0_3.length : Int)) = true:=decide_eq_true c18
         clear c18
         replace H:=Option.bind_eq_some_iff.mp H
         obtain ⟨t125,A190,H⟩:=H
         replace H : (if t125 = true then (if x34_2 > 0 then (if 0 ≤ (wrap64 (x34_2 - 1)) then (if (wrap64 (x34_2 - 1)) < (l0_3.length : Int) then ((spec_l3Before.f ((rd_T92 l0_3 (wrap64 (x34_2 - 1))).f0) ((rd_T92 l0_3 (wrap64 (x34_2 - 1))).f1) ((rd_T92 l0_3 (wrap64 (x34_2 - 1))).f2) ((rd_T92 l0_3 (wrap64 (x34_2 - 1))).f3) ((rd_T92 l0_3 x34_2).f0) ((rd_T92 l0_3 x34_2).f1) ((rd_T92 l0_3 x34_2).f2) ((rd_T92 l0_3 x34_2).f3)).bind fun t127 => (if t127 = true then (spec_AutomatonValid.l0 k2 l0_3 (l0_3.length : Int) (wrap64 (x34_2 + 1)) a0_0 l0_1 l0_2 l0_3) else (some false))) else (none)) else (none)) else (spec_AutomatonValid.l0 k2 l0_3 (l0_3.length : Int) (wrap64 (x34_2 + 1)) a0_0 l0_1 l0_2 l0_3)) else (some false)) = some r:=H
         have A19:=Aside0.mk A190
         clear A190
         by_cases c20 : t125 = true
         ·subst c20
          have H1 : (if x34_2 > 0 then (if 0 ≤ (wrap64 (x34_2 - 1)) then (if (wrap64 (x34_2 - 1)) < (l0_3.length : Int) then ((spec_l3Before.f ((rd_T92 l0_3 (wrap64 (x34_2 - 1))).f0) ((rd_T92 l0_3 (wrap64 (x34_2 - 1))).f1) ((rd_T92 l0_3 (wrap64 (x34_2 - 1))).f2) ((rd_T92 l0_3 (wrap64 (x34_2 - 1))).f3) ((rd_T92 l0_3 x34_2).f0) ((rd_T92 l0_3 x34_2).f1) ((rd_T92 l0_3 x34_2).f2) ((rd_T92 l0_3 x34_2).f3)).bind fun t127 => (if t127 = true then (spec_AutomatonValid.l0 k2 l0_3 (l0_3.length : Int) (wrap64 (x34_2 + 1)) a0_0 l0_1 l0_2 l0_3) else (some false))) else (none)) else (none)) else (spec_AutomatonValid.l0 k2 l0_3 (l0_3.length : Int) (wrap64 (x34_2 + 1)) a0_0 l0_1 l0_2 l0_3)) = some r:=by rw [if_pos rfl] at H;exact H
          clear H
          have H:=H1
          clear H1
          by_cases c21 : x34_2 > 0
          ·rw [if_pos c21] at H
           have c21b0 : decide (0 < x34_2) = true:=decide_eq_true c21
           clear c21
           obtain ⟨ji22,hji22⟩ : ∃ j_ : Int,(wrap64 (x34_2 - 1)) = j_:=⟨_,rfl⟩
           replace H : (if 0 ≤ (ji22) then (if (ji22) < (l0_3.length : Int) then ((spec_l3Before.f ((rd_T92 l0_3 (ji22)).f0) ((rd_T92 l0_3 (ji22)).f1) ((rd_T92 l0_3 (ji22)).f2) ((rd_T92 l0_3 (ji22)).f3) ((rd_T92 l0_3 x34_2).f0) ((rd_T92 l0_3 x34_2).f1) ((rd_T92 l0_3 x34_2).f2) ((rd_T92 l0_3 x34_2).f3)).bind fun t127 => (if t127 = true then (spec_AutomatonValid.l0 k2 l0_3 (l0_3.length : Int) (wrap64 (x34_2 + 1)) a0_0 l0_1 l0_2 l0_3) else (some false))) else (none)) else (none)) = some r:=by first|(rw [hji22] at H;exact H)|(simp only [hji22] at H ⊢;exact H)
           (try rw [hji22] at A19)
           have hji22w : (IntKind.i64.wrap (x34_2 - 1)) = ji22:=(i64_w _).trans hji22
           by_cases c23 : 0 ≤ (ji22)
           ·rw [if_pos c23] at H
            have c23b0 : decide (0 ≤ (ji22)) = true:=decide_eq_true c23
            clear c23
            by_cases c24 : (ji22) < (l0_3.length : Int)
            ·rw [if_pos c24] at H
             have c24b0 : decide ((ji22) < (l0_3.length : Int)) = true:=decide_eq_true c24
             clear c24
             replace H:=Option.bind_eq_some_iff.mp H
             obtain ⟨t127,A250,H⟩:=H
             replace H : (if t127 = true then (spec_AutomatonValid.l0 k2 l0_3 (l0_3.length : Int) (wrap64 (x34_2 + 1)) a0_0 l0_1 l0_2 l0_3) else (some false)) = some r:=H
             have A25:=Aside0.mk A250
             clear A250
             by_cases c26 : t127 = true
             ·subst c26
              have H1 : (spec_AutomatonValid.l0 k2 l0_3 (l0_3.length : Int) (wrap64 (x34_2 + 1)) a0_0 l0_1 l0_2 l0_3) = some r:=by rw [if_pos rfl] at H;exact H
              clear H
              have H:=H1
              clear H1
              have H':=Aside0.mk H
              clear H
              have p123 : 0 ≤ (x34_2 : Int):=od_
              have q123 : x34_2 < (l0_3.length : Int):=od_
              obtain ⟨ad123,e123,hx123_0,hx123_1,hx123_2,hx123_3⟩:=at_T92 HR0_3.out x34_2 p123 q123
              cases e123
              replace hx123_0:=hbc_ HB.out hx123_0
              replace hx123_1:=hbc_ HB.out hx123_1
              replace hx123_2:=hbc_ HB.out hx123_2
              replace hx123_3:=hbc_ HB.out hx123_3
              replace p123:=eq_true p123
              replace q123:=eq_true q123
              try go_wp2_with (first|((with_reducible refine gate_dst (N:=4) rfl ?_);(try (refine gate_guard (by rfl) ?_;dsimp only));refine box_event ?hg (N:=4) ?hd (cs:=#[.int .i64 0,.string (⟨#[]⟩ : ByteArray),.int .i64 0,.int .i64 0]) (t:=92) ?hr ?_;(case hd => rfl);(case hg => rfl);(case hr => first|(go_simp;done)|(go_simp;rfl));intro gb124 hg w27 hbox hb;have BK124:=Aside0.mk (hbox);have GW124:=gw1_ hg HB GE119;have GE124:=GW124;replace HB:=hs1_ HB GE119 hb;have NB119_124:=nm_ hg BK119;have NB124_119:=nn_ hg BK119;replace BK119:=kc_ BK119 hb;clear hb hbox hg;have hnb28:=NB124_119.out;have hnc28:=NB119_124.out;obtain ⟨hcz29_0,hcz29_1,hcz29_2,hcz29_3,hfz29_0,hfz29_1,hfz29_2,hfz29_3⟩:=cf4_ BK124.out))
              have n0_ : Aside0 (((((w27.setCell ⟨gb124,0,none⟩ (.int .i64 ((rd_T92 l0_3 x34_2).f0))).setCell ⟨gb124,1,none⟩ (.string ((rd_T92 l0_3 x34_2).f1))).setCell ⟨gb124,2,none⟩ (.int .i64 ((rd_T92 l0_3 x34_2).f2))).setCell ⟨gb124,3,none⟩ (.int .i64 ((rd_T92 l0_3 x34_2).f3))).heap[gb119]? = some (.cells #[.int .i64 a0_0,.slice A0_1 l0_1.length c0_1,.slice A0_2 l0_2.length c0_2,.slice (some ad123) l0_3.length c0_3] 33 (0,0))):=⟨bf1_ BK119.out NB119_124.out⟩
              have n1_ : Aside0 (((((w27.setCell ⟨gb124,0,none⟩ (.int .i64 ((rd_T92 l0_3 x34_2).f0))).setCell ⟨gb124,1,none⟩ (.string ((rd_T92 l0_3 x34_2).f1))).setCell ⟨gb124,2,none⟩ (.int .i64 ((rd_T92 l0_3 x34_2).f2))).setCell ⟨gb124,3,none⟩ (.int .i64 ((rd_T92 l0_3 x34_2).f3))).heap[gb124]? = some (.cells #[.int .i64 ((rd_T92 l0_3 x34_2).f0),.string ((rd_T92 l0_3 x34_2).f1),.int .i64 ((rd_T92 l0_3 x34_2).f2),.int .i64 ((rd_T92 l0_3 x34_2).f3)] 92 (0,0))):=⟨by refine pe_ ?_;refine blk_put (cs:=#[.int .i64 ((rd_T92 l0_3 x34_2).f0),.string ((rd_T92 l0_3 x34_2).f1),.int .i64 ((rd_T92 l0_3 x34_2).f2),.int .i64 0]) ?_ 3 _ rfl;refine pe_ ?_;refine blk_put (cs:=#[.int .i64 ((rd_T92 l0_3 x34_2).f0),.string ((rd_T92 l0_3 x34_2).f1),.int .i64 0,.int .i64 0]) ?_ 2 _ rfl;refine pe_ ?_;refine blk_put (cs:=#[.int .i64 ((rd_T92 l0_3 x34_2).f0),.string (⟨#[]⟩ : ByteArray),.int .i64 0,.int .i64 0]) ?_ 1 _ rfl;refine pe_ ?_;refine blk_put (cs:=#[.int .i64 0,.string (⟨#[]⟩ : ByteArray),.int .i64 0,.int .i64 0]) ?_ 0 _ rfl;refine pe_ ?_;exact BK124.out⟩
              have n2_ : Aside0 (Below w.heap.size w ((((w27.setCell ⟨gb124,0,none⟩ (.int .i64 ((rd_T92 l0_3 x34_2).f0))).setCell ⟨gb124,1,none⟩ (.string ((rd_T92 l0_3 x34_2).f1))).setCell ⟨gb124,2,none⟩ (.int .i64 ((rd_T92 l0_3 x34_2).f2))).setCell ⟨gb124,3,none⟩ (.int .i64 ((rd_T92 l0_3 x34_2).f3)))):=⟨be2_ HB.out GE119.out GE124.out⟩
              (try clear BK119)
              (try clear BK124)
              (try clear HB)
              generalize ((((w27.setCell ⟨gb124,0,none⟩ (.int .i64 ((rd_T92 l0_3 x34_2).f0))).setCell ⟨gb124,1,none⟩ (.string ((rd_T92 l0_3 x34_2).f1))).setCell ⟨gb124,2,none⟩ (.int .i64 ((rd_T92 l0_3 x34_2).f2))).setCell ⟨gb124,3,none⟩ (.int .i64 ((rd_T92 l0_3 x34_2).f3))) = w30 at n0_ n1_ n2_ ⊢
              have BK119:=n0_
              have BK124:=n1_
              have HB:=n2_
              clear n0_ n1_ n2_
              replace BK119:=Aside0.mk (blk_drew BK119.out)
              replace BK124:=Aside0.mk (blk_drew BK124.out)
              replace HB:=Aside0.mk (below_drew1 HB.out)
              have p126 : 0 ≤ ((ji22) : Int):=od_
              have q126 : (ji22) < (l0_3.length : Int):=od_
              obtain ⟨ad126,e126,hx126_0,hx126_1,hx126_2,hx126_3⟩:=at_T92 HR0_3.out (ji22) p126 q126
              have hw126_3:=hx126_3
              have hw126_2:=hx126_2
              have hw126_1:=hx126_1
              have hw126_0:=hx126_0
              obtain rfl : ad123 = ad126:=(by injection e126)
              replace hx126_0:=hbc_ HB.out hx126_0
              replace hx126_1:=hbc_ HB.out hx126_1
              replace hx126_2:=hbc_ HB.out hx126_2
              replace hx126_3:=hbc_ HB.out hx126_3
              replace p126:=eq_true p126
              replace q126:=eq_true q126
              refine start_ (n:=20) (S:=fun w' => w'.cell? ⟨gb119,0,none⟩ = some (.int .i64 a0_0) ∧ w'.cell? ⟨gb119,1,none⟩ = some (.slice A0_1 l0_1.length c0_1) ∧ w'.cell? ⟨gb119,2,none⟩ = some (.slice A0_2 l0_2.length c0_2) ∧ w'.cell? ⟨gb119,3,none⟩ = some (.slice (some ad123) l0_3.length c0_3) ∧ w'.cell? ⟨gb124,0,none⟩ = some (.int .i64 ((rd_T92 l0_3 x34_2).f0)) ∧ w'.cell? ⟨gb124,1,none⟩ = some (.string ((rd_T92 l0_3 x34_2).f1)) ∧ w'.cell? ⟨gb124,2,none⟩ = some (.int .i64 ((rd_T92 l0_3 x34_2).f2)) ∧ w'.cell? ⟨gb124,3,none⟩ = some (.int .i64 ((rd_T92 l0_3 x34_2).f3)) ∧ w'.cell? (ad123.add (((ji22)).toNat * 4)) = some (.int .i64 ((rd_T92 l0_3 (ji22)).f0)) ∧ w'.cell? ⟨(ad123.add (((ji22)).toNat * 4)).block,(ad123.add (((ji22)).toNat * 4)).off + 1,none⟩ = some (.string ((rd_T92 l0_3 (ji22)).f1)) ∧ w'.cell? ⟨(ad123.add (((ji22)).toNat * 4)).block,(ad123.add (((ji22)).toNat * 4)).off + 2,none⟩ = some (.int .i64 ((rd_T92 l0_3 (ji22)).f2)) ∧ w'.cell? ⟨(ad123.add (((ji22)).toNat * 4)).block,(ad123.add (((ji22)).toNat * 4)).off + 3,none⟩ = some (.int .i64 ((rd_T92 l0_3 (ji22)).f3))) (ds:=[]) #[false,false,false,false,false,false,false,false,false,false,false,false,false,false,false,false,false,false,false,false] (by kernel_rfl) rfl rfl ⟨bc_ BK119 0,bc_ BK119 1,bc_ BK119 2,bc_ BK119 3,bc_ BK124 0,bc_ BK124 1,bc_ BK124 2,bc_ BK124 3,(hbc_ HB.out hw126_0),(hbc_ HB.out hw126_1),(hbc_ HB.out hw126_2),(hbc_ HB.out hw126_3)⟩ (fun hHeld => ?_);refine with_tabW spec_AutomatonValid.tab6 spec_AutomatonValid.bits6 (fun HT_ HW_ => ?_)
              generalize w30.drew = w31 at BK119 BK124 HB hx126_0 hx126_1 hx126_2 hx126_3 hHeld ⊢
              refine stW_ [.p 0 39,.t 1 40,.t 2 41] 3 7 20 HT_.out HW_.out hHeld (a':=?_) ?_ rfl (by kernel_rfl) (fun _ _ _ _ h => h) ?_
              rotate_left
              ·repeat (first|exact Steps.nil|(refine Steps.p (oi:=?_) (v:=?_) (a1:=?_) ?_ ?_ ?_ ?_ ?_;rotate_left 2;rfl;rfl;(refine Or.inl ⟨by rfl,?_⟩;intro w';go_simp;with_reducible rfl);rotate_left;exact ap_)|(refine Steps.t (oi:=?_) (v:=?_) (a1:=?_) ?_ ?_ ?_ ?_ ?_;rotate_left 2;rfl;rfl;(refine Or.inl ⟨by rfl,?_⟩;rintro w' ⟨s0,s1,s2,s3,s4,s5,s6,s7,s8,s9,s10,s11⟩;go_simp;with_reducible rfl);rotate_left;exact ap_))
              refine one_ (i:=3) (N:=some 42) #[true,true,true,true,false,false,false,false,false,false,false,false,false,false,false,false,false,false,false,false] rfl rfl (one_of HT_.out (by kernel_rfl)) (by decide) (fun K hK => ?_)
              refine goes_ Try.func120 (by kernel_rfl) rfl #[.int .i64 a0_0,.agg #[.int .i64 ((rd_T92 l0_3 x34_2).f0),.string ((rd_T92 l0_3 x34_2).f1),.int .i64 ((rd_T92 l0_3 x34_2).f2),.int .i64 ((rd_T92 l0_3 x34_2).f3)]] (by rfl) rfl rfl lp_ ?_
              with_reducible refine (spec_l3Step.calls a0_0 ((rd_T92 l0_3 x34_2).f0) ((rd_T92 l0_3 x34_2).f1) ((rd_T92 l0_3 x34_2).f2) ((rd_T92 l0_3 x34_2).f3) true _ A19.out).mono ?_
              rintro e w32 ⟨rfl,hb⟩
              refine ⟨_,rfl,?_⟩
              replace BK119:=kc_ BK119 hb
              replace BK124:=kc_ BK124 hb
              replace HB:=hs2_ HB GE119 GE124 hb
              (try clear hb)
              (try clear hb2)
              (try clear hk)
              (try clear hi)
              refine hK.out _ _ ⟨bc_ BK119 0,bc_ BK119 1,bc_ BK119 2,bc_ BK119 3,bc_ BK124 0,bc_ BK124 1,bc_ BK124 2,bc_ BK124 3,(hbc_ HB.out hw126_0),(hbc_ HB.out hw126_1),(hbc_ HB.out hw126_2),(hbc_ HB.out hw126_3)⟩ (fun hHeld => ?_)
              clear hK K
              refine norm_ (a':=?_) ?_ ?_
              rotate_left
              ·show Act.put _ (some 42) _ = _
               simp only [Act.put,List.setIfInBounds_toArray,List.set_cons_zero,List.set_cons_succ,i64_w,i32_w]
               rfl
              refine stW_ [.p 4 43,.p 5 44,.p 6 45,.p 7 46,.p 8 47,.p 9 48,.p 11 50,.p 12 51,.t 10 49,.p 13 52,.t 14 53,.t 15 54] 12 65535 20 HT_.out HW_.out hHeld (a':=?_) ?_ rfl (by kernel_rfl) (fun _ _ _ _ h => h) ?_
              rotate_left
              ·repeat (first|exact Steps.nil|(refine Steps.p (oi:=?_) (v:=?_) (a1:=?_) ?_ ?_ ?_ ?_ ?_;rotate_left 2;rfl;rfl;(refine Or.inl ⟨by rfl,?_⟩;intro w';go_simp;with_reducible rfl);rotate_left;exact ap_)|(refine Steps.t (oi:=?_) (v:=?_) (a1:=?_) ?_ ?_ ?_ ?_ ?_;rotate_left 2;rfl;rfl;(refine Or.inl ⟨by rfl,?_⟩;rintro w' ⟨s0,s1,s2,s3,s4,s5,s6,s7,s8,s9,s10,s11⟩;go_simp;with_reducible rfl);rotate_left;exact ap_))
              refine one_ (i:=16) (N:=some 55) #[true,true,true,true,true,true,true,true,true,true,true,true,true,true,true,true,true,false,false,false] rfl rfl (one_of HT_.out (by kernel_rfl)) (by decide) (fun K hK => ?_)
              refine goes_ Try.func121 (by kernel_rfl) rfl #[.agg #[.int .i64 ((rd_T92 l0_3 (ji22)).f0),.string ((rd_T92 l0_3 (ji22)).f1),.int .i64 ((rd_T92 l0_3 (ji22)).f2),.int .i64 ((rd_T92 l0_3 (ji22)).f3)],.agg #[.int .i64 ((rd_T92 l0_3 x34_2).f0),.string ((rd_T92 l0_3 x34_2).f1),.int .i64 ((rd_T92 l0_3 x34_2).f2),.int .i64 ((rd_T92 l0_3 x34_2).f3)]] (by rfl) rfl rfl (by (try simp only [List.map_toArray,List.map_cons,List.map_nil]);first|done|(simp only [hji22];rfl)|rfl|(simp only [List.length_drop,List.length_take];rfl)) ?_
              with_reducible refine (spec_l3Before.calls ((rd_T92 l0_3 (ji22)).f0) ((rd_T92 l0_3 (ji22)).f1) ((rd_T92 l0_3 (ji22)).f2) ((rd_T92 l0_3 (ji22)).f3) ((rd_T92 l0_3 x34_2).f0) ((rd_T92 l0_3 x34_2).f1) ((rd_T92 l0_3 x34_2).f2) ((rd_T92 l0_3 x34_2).f3) true _ A25.out).mono ?_
              rintro e w33 ⟨rfl,hb⟩
              refine ⟨_,rfl,?_⟩
              replace BK119:=kc_ BK119 hb
              replace BK124:=kc_ BK124 hb
              replace HB:=hs2_ HB GE119 GE124 hb
              (try clear hb)
              (try clear hb2)
              (try clear hk)
              (try clear hi)
              refine hK.out _ _ ⟨bc_ BK119 0,bc_ BK119 1,bc_ BK119 2,bc_ BK119 3,bc_ BK124 0,bc_ BK124 1,bc_ BK124 2,bc_ BK124 3,(hbc_ HB.out hw126_0),(hbc_ HB.out hw126_1),(hbc_ HB.out hw126_2),(hbc_ HB.out hw126_3)⟩ (fun hHeld => ?_)
              clear hK K
              refine norm_ (a':=?_) ?_ ?_
              rotate_left
              ·show Act.put _ (some 55) _ = _
               simp only [Act.put,List.setIfInBounds_toArray,List.set_cons_zero,List.set_cons_succ,i64_w,i32_w]
               rfl
              refine stW_ [.p 17 56,.p 18 57,.p 19 58] 3 1048575 20 HT_.out HW_.out hHeld (a':=?_) ?_ rfl (by kernel_rfl) (fun _ _ _ _ h => h) ?_
              rotate_left
              ·repeat (first|exact Steps.nil|(refine Steps.p (oi:=?_) (v:=?_) (a1:=?_) ?_ ?_ ?_ ?_ ?_;rotate_left 2;rfl;rfl;(refine Or.inl ⟨by rfl,?_⟩;intro w';go_simp;with_reducible rfl);rotate_left;exact ap_))
              refine done_ (done_of HT_.out (by kernel_rfl)) ?_
              try go_wp2
              go_roundg k2
              case measure => have:=HJ1.out;have:=HK2.out;omega
              case rel => exact ⟨(wrap64 (x34_2 + 1)),rs_,H',⟨by have:=HJ1.out;have:=HK2.out;omega⟩,⟨pe_ BK119.out⟩,⟨be2_ HB.out GE119.out GE124.out⟩⟩
             ·replace c26:=Bool.eq_false_iff.mpr c26
              subst c26
              have H1 : (some false) = some r:=by rw [if_neg (show ¬ (false = true) by decide)] at H;exact H
              clear H
              have H:=H1
              clear H1
              obtain rfl:=Option.some.inj H
              have p123 : 0 ≤ (x34_2 : Int):=od_
              have q123 : x34_2 < (l0_3.length : Int):=od_
              obtain ⟨ad123,e123,hx123_0,hx123_1,hx123_2,hx123_3⟩:=at_T92 HR0_3.out x34_2 p123 q123
              cases e123
              replace hx123_0:=hbc_ HB.out hx123_0
              replace hx123_1:=hbc_ HB.out hx123_1
              replace hx123_2:=hbc_ HB.out hx123_2
              replace hx123_3:=hbc_ HB.out hx123_3
              replace p123:=eq_true p123
              replace q123:=eq_true q123
              try go_wp2_with (first|((with_reducible refine gate_dst (N:=4) rfl ?_);(try (refine gate_guard (by rfl) ?_;dsimp only));refine box_event ?hg (N:=4) ?hd (cs:=#[.int .i64 0,.string (⟨#[]⟩ : ByteArray),.int .i64 0,.int .i64 0]) (t:=92) ?hr ?_;(case hd => rfl);(case hg => rfl);(case hr => first|(go_simp;done)|(go_simp;rfl));intro gb124 hg w34 hbox hb;have BK124:=Aside0.mk (hbox);have GW124:=gw1_ hg HB GE119;have GE124:=GW124;replace HB:=hs1_ HB GE119 hb;have NB119_124:=nm_ hg BK119;have NB124_119:=nn_ hg BK119;replace BK119:=kc_ BK119 hb;clear hb hbox hg;have hnb35:=NB124_119.out;have hnc35:=NB119_124.out;obtain ⟨hcz36_0,hcz36_1,hcz36_2,hcz36_3,hfz36_0,hfz36_1,hfz36_2,hfz36_3⟩:=cf4_ BK124.out))
              have n0_ : Aside0 (((((w34.setCell ⟨gb124,0,none⟩ (.int .i64 ((rd_T92 l0_3 x34_2).f0))).setCell ⟨gb124,1,none⟩ (.string ((rd_T92 l0_3 x34_2).f1))).setCell ⟨gb124,2,none⟩ (.int .i64 ((rd_T92 l0_3 x34_2).f2))).setCell ⟨gb124,3,none⟩ (.int .i64 ((rd_T92 l0_3 x34_2).f3))).heap[gb119]? = some (.cells #[.int .i64 a0_0,.slice A0_1 l0_1.length c0_1,.slice A0_2 l0_2.length c0_2,.slice (some ad123) l0_3.length c0_3] 33 (0,0))):=⟨bf1_ BK119.out NB119_124.out⟩
              have n1_ : Aside0 (((((w34.setCell ⟨gb124,0,none⟩ (.int .i64 ((rd_T92 l0_3 x34_2).f0))).setCell ⟨gb124,1,none⟩ (.string ((rd_T92 l0_3 x34_2).f1))).setCell ⟨gb124,2,none⟩ (.int .i64 ((rd_T92 l0_3 x34_2).f2))).setCell ⟨gb124,3,none⟩ (.int .i64 ((rd_T92 l0_3 x34_2).f3))).heap[gb124]? = some (.cells #[.int .i64 ((rd_T92 l0_3 x34_2).f0),.string ((rd_T92 l0_3 x34_2).f1),.int .i64 ((rd_T92 l0_3 x34_2).f2),.int .i64 ((rd_T92 l0_3 x34_2).f3)] 92 (0,0))):=⟨by refine pe_ ?_;refine blk_put (cs:=#[.int .i64 ((rd_T92 l0_3 x34_2).f0),.string ((rd_T92 l0_3 x34_2).f1),.int .i64 ((rd_T92 l0_3 x34_2).f2),.int .i64 0]) ?_ 3 _ rfl;refine pe_ ?_;refine blk_put (cs:=#[.int .i64 ((rd_T92 l0_3 x34_2).f0),.string ((rd_T92 l0_3 x34_2).f1),.int .i64 0,.int .i64 0]) ?_ 2 _ rfl;refine pe_ ?_;refine blk_put (cs:=#[.int .i64 ((rd_T92 l0_3 x34_2).f0),.string (⟨#[]⟩ : ByteArray),.int .i64 0,.int .i64 0]) ?_ 1 _ rfl;refine pe_ ?_;refine blk_put (cs:=#[.int .i64 0,.string (⟨#[]⟩ : ByteArray),.int .i64 0,.int .i64 0]) ?_ 0 _ rfl;refine pe_ ?_;exact BK124.out⟩
              have n2_ : Aside0 (Below w.heap.size w ((((w34.setCell ⟨gb124,0,none⟩ (.int .i64 ((rd_T92 l0_3 x34_2).f0))).setCell ⟨gb124,1,none⟩ (.string ((rd_T92 l0_3 x34_2).f1))).setCell ⟨gb124,2,none⟩ (.int .i64 ((rd_T92 l0_3 x34_2).f2))).setCell ⟨gb124,3,none⟩ (.int .i64 ((rd_T92 l0_3 x34_2).f3)))):=⟨be2_ HB.out GE119.out GE124.out⟩
              (try clear BK119)
              (try clear BK124)
              (try clear HB)
              generalize ((((w34.setCell ⟨gb124,0,none⟩ (.int .i64 ((rd_T92 l0_3 x34_2).f0))).setCell ⟨gb124,1,none⟩ (.string ((rd_T92 l0_3 x34_2).f1))).setCell ⟨gb124,2,none⟩ (.int .i64 ((rd_T92 l0_3 x34_2).f2))).setCell ⟨gb124,3,none⟩ (.int .i64 ((rd_T92 l0_3 x34_2).f3))) = w37 at n0_ n1_ n2_ ⊢
              have BK119:=n0_
              have BK124:=n1_
              have HB:=n2_
              clear n0_ n1_ n2_
              replace BK119:=Aside0.mk (blk_drew BK119.out)
              replace BK124:=Aside0.mk (blk_drew BK124.out)
              replace HB:=Aside0.mk (below_drew1 HB.out)
              have p126 : 0 ≤ ((ji22) : Int):=od_
              have q126 : (ji22) < (l0_3.length : Int):=od_
              obtain ⟨ad126,e126,hx126_0,hx126_1,hx126_2,hx126_3⟩:=at_T92 HR0_3.out (ji22) p126 q126
              have hw126_3:=hx126_3
              have hw126_2:=hx126_2
              have hw126_1:=hx126_1
              have hw126_0:=hx126_0
              obtain rfl : ad123 = ad126:=(by injection e126)
              replace hx126_0:=hbc_ HB.out hx126_0
              replace hx126_1:=hbc_ HB.out hx126_1
              replace hx126_2:=hbc_ HB.out hx126_2
              replace hx126_3:=hbc_ HB.out hx126_3
              replace p126:=eq_true p126
              replace q126:=eq_true q126
              refine start_ (n:=20) (S:=fun w' => w'.cell? ⟨gb119,0,none⟩ = some (.int .i64 a0_0) ∧ w'.cell? ⟨gb119,1,none⟩ = some (.slice A0_1 l0_1.length c0_1) ∧ w'.cell? ⟨gb119,2,none⟩ = some (.slice A0_2 l0_2.length c0_2) ∧ w'.cell? ⟨gb119,3,none⟩ = some (.slice (some ad123) l0_3.length c0_3) ∧ w'.cell? ⟨gb124,0,none⟩ = some (.int .i64 ((rd_T92 l0_3 x34_2).f0)) ∧ w'.cell? ⟨gb124,1,none⟩ = some (.string ((rd_T92 l0_3 x34_2).f1)) ∧ w'.cell? ⟨gb124,2,none⟩ = some (.int .i64 ((rd_T92 l0_3 x34_2).f2)) ∧ w'.cell? ⟨gb124,3,none⟩ = some (.int .i64 ((rd_T92 l0_3 x34_2).f3)) ∧ w'.cell? (ad123.add (((ji22)).toNat * 4)) = some (.int .i64 ((rd_T92 l0_3 (ji22)).f0)) ∧ w'.cell? ⟨(ad123.add (((ji22)).toNat * 4)).block,(ad123.add (((ji22)).toNat * 4)).off + 1,none⟩ = some (.string ((rd_T92 l0_3 (ji22)).f1)) ∧ w'.cell? ⟨(ad123.add (((ji22)).toNat * 4)).block,(ad123.add (((ji22)).toNat * 4)).off + 2,none⟩ = some (.int .i64 ((rd_T92 l0_3 (ji22)).f2)) ∧ w'.cell? ⟨(ad123.add (((ji22)).toNat * 4)).block,(ad123.add (((ji22)).toNat * 4)).off + 3,none⟩ = some (.int .i64 ((rd_T92 l0_3 (ji22)).f3))) (ds:=[]) #[false,false,false,false,false,false,false,false,false,false,false,false,false,false,false,false,false,false,false,false] (by kernel_rfl) rfl rfl ⟨bc_ BK119 0,bc_ BK119 1,bc_ BK119 2,bc_ BK119 3,bc_ BK124 0,bc_ BK124 1,bc_ BK124 2,bc_ BK124 3,(hbc_ HB.out hw126_0),(hbc_ HB.out hw126_1),(hbc_ HB.out hw126_2),(hbc_ HB.out hw126_3)⟩ (fun hHeld => ?_);refine with_tabW spec_AutomatonValid.tab6 spec_AutomatonValid.bits6 (fun HT_ HW_ => ?_)
              generalize w37.drew = w38 at BK119 BK124 HB hx126_0 hx126_1 hx126_2 hx126_3 hHeld ⊢
              refine stW_ [.p 0 39,.t 1 40,.t 2 41] 3 7 20 HT_.out HW_.out hHeld (a':=?_) ?_ rfl (by kernel_rfl) (fun _ _ _ _ h => h) ?_
              rotate_left
              ·repeat (first|exact Steps.nil|(refine Steps.p (oi:=?_) (v:=?_) (a1:=?_) ?_ ?_ ?_ ?_ ?_;rotate_left 2;rfl;rfl;(refine Or.inl ⟨by rfl,?_⟩;intro w';go_simp;with_reducible rfl);rotate_left;exact ap_)|(refine Steps.t (oi:=?_) (v:=?_) (a1:=?_) ?_ ?_ ?_ ?_ ?_;rotate_left 2;rfl;rfl;(refine Or.inl ⟨by rfl,?_⟩;rintro w' ⟨s0,s1,s2,s3,s4,s5,s6,s7,s8,s9,s10,s11⟩;go_simp;with_reducible rfl);rotate_left;exact ap_))
              refine one_ (i:=3) (N:=some 42) #[true,true,true,true,false,false,false,false,false,false,false,false,false,false,false,false,false,false,false,false] rfl rfl (one_of HT_.out (by kernel_rfl)) (by decide) (fun K hK => ?_)
              refine goes_ Try.func120 (by kernel_rfl) rfl #[.int .i64 a0_0,.agg #[.int .i64 ((rd_T92 l0_3 x34_2).f0),.string ((rd_T92 l0_3 x34_2).f1),.int .i64 ((rd_T92 l0_3 x34_2).f2),.int .i64 ((rd_T92 l0_3 x34_2).f3)]] (by rfl) rfl rfl lp_ ?_
              with_reducible refine (spec_l3Step.calls a0_0 ((rd_T92 l0_3 x34_2).f0) ((rd_T92 l0_3 x34_2).f1) ((rd_T92 l0_3 x34_2).f2) ((rd_T92 l0_3 x34_2).f3) true _ A19.out).mono ?_
              rintro e w39 ⟨rfl,hb⟩
              refine ⟨_,rfl,?_⟩
              replace BK119:=kc_ BK119 hb
              replace BK124:=kc_ BK124 hb
              replace HB:=hs2_ HB GE119 GE124 hb
              (try clear hb)
              (try clear hb2)
              (try clear hk)
              (try clear hi)
              refine hK.out _ _ ⟨bc_ BK119 0,bc_ BK119 1,bc_ BK119 2,bc_ BK119 3,bc_ BK124 0,bc_ BK124 1,bc_ BK124 2,bc_ BK124 3,(hbc_ HB.out hw126_0),(hbc_ HB.out hw126_1),(hbc_ HB.out hw126_2),(hbc_ HB.out hw126_3)⟩ (fun hHeld => ?_)
              clear hK K
              refine norm_ (a':=?_) ?_ ?_
              rotate_left
              ·show Act.put _ (some 42) _ = _
               simp only [Act.put,List.setIfInBounds_toArray,List.set_cons_zero,List.set_cons_succ,i64_w,i32_w]
               rfl
              refine stW_ [.p 4 43,.p 5 44,.p 6 45,.p 7 46,.p 8 47,.p 9 48,.p 11 50,.p 12 51,.t 10 49,.p 13 52,.t 14 53,.t 15 54] 12 65535 20 HT_.out HW_.out hHeld (a':=?_) ?_ rfl (by kernel_rfl) (fun _ _ _ _ h => h) ?_
              rotate_left
              ·repeat (first|exact Steps.nil|(refine Steps.p (oi:=?_) (v:=?_) (a1:=?_) ?_ ?_ ?_ ?_ ?_;rotate_left 2;rfl;rfl;(refine Or.inl ⟨by rfl,?_⟩;intro w';go_simp;with_reducible rfl);rotate_left;exact ap_)|(refine Steps.t (oi:=?_) (v:=?_) (a1:=?_) ?_ ?_ ?_ ?_ ?_;rotate_left 2;rfl;rfl;(refine Or.inl ⟨by rfl,?_⟩;rintro w' ⟨s0,s1,s2,s3,s4,s5,s6,s7,s8,s9,s10,s11⟩;go_simp;with_reducible rfl);rotate_left;exact ap_))
              refine one_ (i:=16) (N:=some 55) #[true,true,true,true,true,true,true,true,true,true,true,true,true,true,true,true,true,false,false,false] rfl rfl (one_of HT_.out (by kernel_rfl)) (by decide) (fun K hK => ?_)
              refine goes_ Try.func121 (by kernel_rfl) rfl #[.agg #[.int .i64 ((rd_T92 l0_3 (ji22)).f0),.string ((rd_T92 l0_3 (ji22)).f1),.int .i64 ((rd_T92 l0_3 (ji22)).f2),.int .i64 ((rd_T92 l0_3 (ji22)).f3)],.agg #[.int .i64 ((rd_T92 l0_3 x34_2).f0),.string ((rd_T92 l0_3 x34_2).f1),.int .i64 ((rd_T92 l0_3 x34_2).f2),.int .i64 ((rd_T92 l0_3 x34_2).f3)]] (by rfl) rfl rfl (by (try simp only [List.map_toArray,List.map_cons,List.map_nil]);first|done|(simp only [hji22];rfl)|rfl|(simp only [List.length_drop,List.length_take];rfl)) ?_
              with_reducible refine (spec_l3Before.calls ((rd_T92 l0_3 (ji22)).f0) ((rd_T92 l0_3 (ji22)).f1) ((rd_T92 l0_3 (ji22)).f2) ((rd_T92 l0_3 (ji22)).f3) ((rd_T92 l0_3 x34_2).f0) ((rd_T92 l0_3 x34_2).f1) ((rd_T92 l0_3 x34_2).f2) ((rd_T92 l0_3 x34_2).f3) false _ A25.out).mono ?_
              rintro e w40 ⟨rfl,hb⟩
              refine ⟨_,rfl,?_⟩
              replace BK119:=kc_ BK119 hb
              replace BK124:=kc_ BK124 hb
              replace HB:=hs2_ HB GE119 GE124 hb
              (try clear hb)
              (try clear hb2)
              (try clear hk)
              (try clear hi)
              refine hK.out _ _ ⟨bc_ BK119 0,bc_ BK119 1,bc_ BK119 2,bc_ BK119 3,bc_ BK124 0,bc_ BK124 1,bc_ BK124 2,bc_ BK124 3,(hbc_ HB.out hw126_0),(hbc_ HB.out hw126_1),(hbc_ HB.out hw126_2),(hbc_ HB.out hw126_3)⟩ (fun hHeld => ?_)
              clear hK K
              refine norm_ (a':=?_) ?_ ?_
              rotate_left
              ·show Act.put _ (some 55) _ = _
               simp only [Act.put,List.setIfInBounds_toArray,List.set_cons_zero,List.set_cons_succ,i64_w,i32_w]
               rfl
              refine stW_ [.p 17 56,.p 18 57,.p 19 58] 3 1048575 20 HT_.out HW_.out hHeld (a':=?_) ?_ rfl (by kernel_rfl) (fun _ _ _ _ h => h) ?_
              rotate_left
              ·repeat (first|exact Steps.nil|(refine Steps.p (oi:=?_) (v:=?_) (a1:=?_) ?_ ?_ ?_ ?_ ?_;rotate_left 2;rfl;rfl;(refine Or.inl ⟨by rfl,?_⟩;intro w';go_simp;with_reducible rfl);rotate_left;exact ap_))
              refine done_ (done_of HT_.out (by kernel_rfl)) ?_
              try go_wp2
              go_ret
              exact ⟨by first|rfl|(simp [errW_none,errW_some] <;> rfl)|(simp only [← hji22];first|rfl|(simp [errW_none,errW_some] <;> rfl))|(simp [*,errW_none,errW_some] <;> rfl),be2_ HB.out GE119.out GE124.out⟩
            ·rw [if_neg c24] at H
             exact absurd H (by simp)
           ·rw [if_neg c23] at H
            exact absurd H (by simp)
          ·rw [if_neg c21] at H
           have c21b0 : decide (0 < x34_2) = false:=decide_eq_false c21
           clear c21
           have H':=Aside0.mk H
           clear H
           have p123 : 0 ≤ (x34_2 : Int):=od_
           have q123 : x34_2 < (l0_3.length : Int):=od_
           obtain ⟨ad123,e123,hx123_0,hx123_1,hx123_2,hx123_3⟩:=at_T92 HR0_3.out x34_2 p123 q123
           cases e123
           replace hx123_0:=hbc_ HB.out hx123_0
           replace hx123_1:=hbc_ HB.out hx123_1
           replace hx123_2:=hbc_ HB.out hx123_2
           replace hx123_3:=hbc_ HB.out hx123_3
           replace p123:=eq_true p123
           replace q123:=eq_true q123
           try go_wp2_with (first|((with_reducible refine gate_dst (N:=4) rfl ?_);(try (refine gate_guard (by rfl) ?_;dsimp only));refine box_event ?hg (N:=4) ?hd (cs:=#[.int .i64 0,.string (⟨#[]⟩ : ByteArray),.int .i64 0,.int .i64 0]) (t:=92) ?hr ?_;(case hd => rfl);(case hg => rfl);(case hr => first|(go_simp;done)|(go_simp;rfl));intro gb124 hg w41 hbox hb;have BK124:=Aside0.mk (hbox);have GW124:=gw1_ hg HB GE119;have GE124:=GW124;replace HB:=hs1_ HB GE119 hb;have NB119_124:=nm_ hg BK119;have NB124_119:=nn_ hg BK119;replace BK119:=kc_ BK119 hb;clear hb hbox hg;have hnb42:=NB124_119.out;have hnc42:=NB119_124.out;obtain ⟨hcz43_0,hcz43_1,hcz43_2,hcz43_3,hfz43_0,hfz43_1,hfz43_2,hfz43_3⟩:=cf4_ BK124.out))
           have n0_ : Aside0 (((((w41.setCell ⟨gb124,0,none⟩ (.int .i64 ((rd_T92 l0_3 x34_2).f0))).setCell ⟨gb124,1,none⟩ (.string ((rd_T92 l0_3 x34_2).f1))).setCell ⟨gb124,2,none⟩ (.int .i64 ((rd_T92 l0_3 x34_2).f2))).setCell ⟨gb124,3,none⟩ (.int .i64 ((rd_T92 l0_3 x34_2).f3))).heap[gb119]? = some (.cells #[.int .i64 a0_0,.slice A0_1 l0_1.length c0_1,.slice A0_2 l0_2.length c0_2,.slice (some ad123) l0_3.length c0_3] 33 (0,0))):=⟨bf1_ BK119.out NB119_124.out⟩
           have n1_ : Aside0 (((((w41.setCell ⟨gb124,0,none⟩ (.int .i64 ((rd_T92 l0_3 x34_2).f0))).setCell ⟨gb124,1,none⟩ (.string ((rd_T92 l0_3 x34_2).f1))).setCell ⟨gb124,2,none⟩ (.int .i64 ((rd_T92 l0_3 x34_2).f2))).setCell ⟨gb124,3,none⟩ (.int .i64 ((rd_T92 l0_3 x34_2).f3))).heap[gb124]? = some (.cells #[.int .i64 ((rd_T92 l0_3 x34_2).f0),.string ((rd_T92 l0_3 x34_2).f1),.int .i64 ((rd_T92 l0_3 x34_2).f2),.int .i64 ((rd_T92 l0_3 x34_2).f3)] 92 (0,0))):=⟨by refine pe_ ?_;refine blk_put (cs:=#[.int .i64 ((rd_T92 l0_3 x34_2).f0),.string ((rd_T92 l0_3 x34_2).f1),.int .i64 ((rd_T92 l0_3 x34_2).f2),.int .i64 0]) ?_ 3 _ rfl;refine pe_ ?_;refine blk_put (cs:=#[.int .i64 ((rd_T92 l0_3 x34_2).f0),.string ((rd_T92 l0_3 x34_2).f1),.int .i64 0,.int .i64 0]) ?_ 2 _ rfl;refine pe_ ?_;refine blk_put (cs:=#[.int .i64 ((rd_T92 l0_3 x34_2).f0),.string (⟨#[]⟩ : ByteArray),.int .i64 0,.int .i64 0]) ?_ 1 _ rfl;refine pe_ ?_;refine blk_put (cs:=#[.int .i64 0,.string (⟨#[]⟩ : ByteArray),.int .i64 0,.int .i64 0]) ?_ 0 _ rfl;refine pe_ ?_;exact BK124.out⟩
           have n2_ : Aside0 (Below w.heap.size w ((((w41.setCell ⟨gb124,0,none⟩ (.int .i64 ((rd_T92 l0_3 x34_2).f0))).setCell ⟨gb124,1,none⟩ (.string ((rd_T92 l0_3 x34_2).f1))).setCell ⟨gb124,2,none⟩ (.int .i64 ((rd_T92 l0_3 x34_2).f2))).setCell ⟨gb124,3,none⟩ (.int .i64 ((rd_T92 l0_3 x34_2).f3)))):=⟨be2_ HB.out GE119.out GE124.out⟩
           (try clear BK119)
           (try clear BK124)
           (try clear HB)
           generalize ((((w41.setCell ⟨gb124,0,none⟩ (.int .i64 ((rd_T92 l0_3 x34_2).f0))).setCell ⟨gb124,1,none⟩ (.string ((rd_T92 l0_3 x34_2).f1))).setCell ⟨gb124,2,none⟩ (.int .i64 ((rd_T92 l0_3 x34_2).f2))).setCell ⟨gb124,3,none⟩ (.int .i64 ((rd_T92 l0_3 x34_2).f3))) = w44 at n0_ n1_ n2_ ⊢
           have BK119:=n0_
           have BK124:=n1_
           have HB:=n2_
           clear n0_ n1_ n2_
           replace BK119:=Aside0.mk (blk_drew BK119.out)
           replace BK124:=Aside0.mk (blk_drew BK124.out)
           replace HB:=Aside0.mk (below_drew1 HB.out)
           refine start_ (n:=20) (S:=fun w' => w'.cell? ⟨gb119,0,none⟩ = some (.int .i64 a0_0) ∧ w'.cell? ⟨gb119,1,none⟩ = some (.slice A0_1 l0_1.length c0_1) ∧ w'.cell? ⟨gb119,2,none⟩ = some (.slice A0_2 l0_2.length c0_2) ∧ w'.cell? ⟨gb119,3,none⟩ = some (.slice (some ad123) l0_3.length c0_3) ∧ w'.cell? ⟨gb124,0,none⟩ = some (.int .i64 ((rd_T92 l0_3 x34_2).f0)) ∧ w'.cell? ⟨gb124,1,none⟩ = some (.string ((rd_T92 l0_3 x34_2).f1)) ∧ w'.cell? ⟨gb124,2,none⟩ = some (.int .i64 ((rd_T92 l0_3 x34_2).f2)) ∧ w'.cell? ⟨gb124,3,none⟩ = some (.int .i64 ((rd_T92 l0_3 x34_2).f3))) (ds:=[]) #[false,false,false,false,false,false,false,false,false,false,false,false,false,false,false,false,false,false,false,false] (by kernel_rfl) rfl rfl ⟨bc_ BK119 0,bc_ BK119 1,bc_ BK119 2,bc_ BK119 3,bc_ BK124 0,bc_ BK124 1,bc_ BK124 2,bc_ BK124 3⟩ (fun hHeld => ?_);refine with_tabW spec_AutomatonValid.tab6 spec_AutomatonValid.bits6 (fun HT_ HW_ => ?_)
           generalize w44.drew = w45 at BK119 BK124 HB hHeld ⊢
           refine stW_ [.p 0 39,.t 1 40,.t 2 41] 3 7 20 HT_.out HW_.out hHeld (a':=?_) ?_ rfl (by kernel_rfl) (fun _ _ _ _ h => h) ?_
           rotate_left
           ·repeat (first|exact Steps.nil|(refine Steps.p (oi:=?_) (v:=?_) (a1:=?_) ?_ ?_ ?_ ?_ ?_;rotate_left 2;rfl;rfl;(refine Or.inl ⟨by rfl,?_⟩;intro w';go_simp;with_reducible rfl);rotate_left;exact ap_)|(refine Steps.t (oi:=?_) (v:=?_) (a1:=?_) ?_ ?_ ?_ ?_ ?_;rotate_left 2;rfl;rfl;(refine Or.inl ⟨by rfl,?_⟩;rintro w' ⟨s0,s1,s2,s3,s4,s5,s6,s7⟩;go_simp;with_reducible rfl);rotate_left;exact ap_))
           refine one_ (i:=3) (N:=some 42) #[true,true,true,true,false,false,false,false,false,false,false,false,false,false,false,false,false,false,false,false] rfl rfl (one_of HT_.out (by kernel_rfl)) (by decide) (fun K hK => ?_)
           refine goes_ Try.func120 (by kernel_rfl) rfl #[.int .i64 a0_0,.agg #[.int .i64 ((rd_T92 l0_3 x34_2).f0),.string ((rd_T92 l0_3 x34_2).f1),.int .i64 ((rd_T92 l0_3 x34_2).f2),.int .i64 ((rd_T92 l0_3 x34_2).f3)]] (by rfl) rfl rfl lp_ ?_
           with_reducible refine (spec_l3Step.calls a0_0 ((rd_T92 l0_3 x34_2).f0) ((rd_T92 l0_3 x34_2).f1) ((rd_T92 l0_3 x34_2).f2) ((rd_T92 l0_3 x34_2).f3) true _ A19.out).mono ?_
           rintro e w46 ⟨rfl,hb⟩
           refine ⟨_,rfl,?_⟩
           replace BK119:=kc_ BK119 hb
           replace BK124:=kc_ BK124 hb
           replace HB:=hs2_ HB GE119 GE124 hb
           (try clear hb)
           (try clear hb2)
           (try clear hk)
           (try clear hi)
           refine hK.out _ _ ⟨bc_ BK119 0,bc_ BK119 1,bc_ BK119 2,bc_ BK119 3,bc_ BK124 0,bc_ BK124 1,bc_ BK124 2,bc_ BK124 3⟩ (fun hHeld => ?_)
           clear hK K
           refine norm_ (a':=?_) ?_ ?_
           rotate_left
           ·show Act.put _ (some 42) _ = _
            simp only [Act.put,List.setIfInBounds_toArray,List.set_cons_zero,List.set_cons_succ,i64_w,i32_w]
            rfl
           refine stW_ [.p 4 43,.p 5 44,.p 6 45,.p 7 46,.p 8 47,.u 9 48,.u 10 49,.u 11 50,.u 12 51,.u 13 52,.u 14 53,.u 15 54,.u 16 55,.u 17 56,.p 18 57,.p 19 58] 16 1048575 20 HT_.out HW_.out hHeld (a':=?_) ?_ rfl (by kernel_rfl) (fun _ _ _ _ h => h) ?_
           rotate_left
           ·repeat (first|exact Steps.nil|(refine Steps.u (oi:=?_) (a1:=?_) ?_ ?_ ?_ ?_ ?_;rotate_left 1;rfl;rfl;exact Or.inr ⟨by rfl,rfl⟩;rotate_left;exact ap_)|(refine Steps.p (oi:=?_) (v:=?_) (a1:=?_) ?_ ?_ ?_ ?_ ?_;rotate_left 2;rfl;rfl;(refine Or.inl ⟨by rfl,?_⟩;intro w';go_simp;with_reducible rfl);rotate_left;exact ap_))
           refine done_ (done_of HT_.out (by kernel_rfl)) ?_
           try go_wp2
           go_roundg k2
           case measure => have:=HJ1.out;have:=HK2.out;omega
           case rel => exact ⟨(wrap64 (x34_2 + 1)),rs_,H',⟨by have:=HJ1.out;have:=HK2.out;omega⟩,⟨pe_ BK119.out⟩,⟨be2_ HB.out GE119.out GE124.out⟩⟩
         ·replace c20:=Bool.eq_false_iff.mpr c20
          subst c20
          have H1 : (some false) = some r:=by rw [if_neg (show ¬ (false = true) by decide)] at H;exact H
          clear H
          have H:=H1
          clear H1
          obtain rfl:=Option.some.inj H
          have p123 : 0 ≤ (x34_2 : Int):=od_
          have q123 : x34_2 < (l0_3.length : Int):=od_
          obtain ⟨ad123,e123,hx123_0,hx123_1,hx123_2,hx123_3⟩:=at_T92 HR0_3.out x34_2 p123 q123
          cases e123
          replace hx123_0:=hbc_ HB.out hx123_0
          replace hx123_1:=hbc_ HB.out hx123_1
          replace hx123_2:=hbc_ HB.out hx123_2
          replace hx123_3:=hbc_ HB.out hx123_3
          replace p123:=eq_true p123
          replace q123:=eq_true q123
          try go_wp2_with (first|((with_reducible refine gate_dst (N:=4) rfl ?_);(try (refine gate_guard (by rfl) ?_;dsimp only));refine box_event ?hg (N:=4) ?hd (cs:=#[.int .i64 0,.string (⟨#[]⟩ : ByteArray),.int .i64 0,.int .i64 0]) (t:=92) ?hr ?_;(case hd => rfl);(case hg => rfl);(case hr => first|(go_simp;done)|(go_simp;rfl));intro gb124 hg w47 hbox hb;have BK124:=Aside0.mk (hbox);have GW124:=gw1_ hg HB GE119;have GE124:=GW124;replace HB:=hs1_ HB GE119 hb;have NB119_124:=nm_ hg BK119;have NB124_119:=nn_ hg BK119;replace BK119:=kc_ BK119 hb;clear hb hbox hg;have hnb48:=NB124_119.out;have hnc48:=NB119_124.out;obtain ⟨hcz49_0,hcz49_1,hcz49_2,hcz49_3,hfz49_0,hfz49_1,hfz49_2,hfz49_3⟩:=cf4_ BK124.out))
          have n0_ : Aside0 (((((w47.setCell ⟨gb124,0,none⟩ (.int .i64 ((rd_T92 l0_3 x34_2).f0))).setCell ⟨gb124,1,none⟩ (.string ((rd_T92 l0_3 x34_2).f1))).setCell ⟨gb124,2,none⟩ (.int .i64 ((rd_T92 l0_3 x34_2).f2))).setCell ⟨gb124,3,none⟩ (.int .i64 ((rd_T92 l0_3 x34_2).f3))).heap[gb119]? = some (.cells #[.int .i64 a0_0,.slice A0_1 l0_1.length c0_1,.slice A0_2 l0_2.length c0_2,.slice (some ad123) l0_3.length c0_3] 33 (0,0))):=⟨bf1_ BK119.out NB119_124.out⟩
          have n1_ : Aside0 (((((w47.setCell ⟨gb124,0,none⟩ (.int .i64 ((rd_T92 l0_3 x34_2).f0))).setCell ⟨gb124,1,none⟩ (.string ((rd_T92 l0_3 x34_2).f1))).setCell ⟨gb124,2,none⟩ (.int .i64 ((rd_T92 l0_3 x34_2).f2))).setCell ⟨gb124,3,none⟩ (.int .i64 ((rd_T92 l0_3 x34_2).f3))).heap[gb124]? = some (.cells #[.int .i64 ((rd_T92 l0_3 x34_2).f0),.string ((rd_T92 l0_3 x34_2).f1),.int .i64 ((rd_T92 l0_3 x34_2).f2),.int .i64 ((rd_T92 l0_3 x34_2).f3)] 92 (0,0))):=⟨by refine pe_ ?_;refine blk_put (cs:=#[.int .i64 ((rd_T92 l0_3 x34_2).f0),.string ((rd_T92 l0_3 x34_2).f1),.int .i64 ((rd_T92 l0_3 x34_2).f2),.int .i64 0]) ?_ 3 _ rfl;refine pe_ ?_;refine blk_put (cs:=#[.int .i64 ((rd_T92 l0_3 x34_2).f0),.string ((rd_T92 l0_3 x34_2).f1),.int .i64 0,.int .i64 0]) ?_ 2 _ rfl;refine pe_ ?_;refine blk_put (cs:=#[.int .i64 ((rd_T92 l0_3 x34_2).f0),.string (⟨#[]⟩ : ByteArray),.int .i64 0,.int .i64 0]) ?_ 1 _ rfl;refine pe_ ?_;refine blk_put (cs:=#[.int .i64 0,.string (⟨#[]⟩ : ByteArray),.int .i64 0,.int .i64 0]) ?_ 0 _ rfl;refine pe_ ?_;exact BK124.out⟩
          have n2_ : Aside0 (Below w.heap.size w ((((w47.setCell ⟨gb124,0,none⟩ (.int .i64 ((rd_T92 l0_3 x34_2).f0))).setCell ⟨gb124,1,none⟩ (.string ((rd_T92 l0_3 x34_2).f1))).setCell ⟨gb124,2,none⟩ (.int .i64 ((rd_T92 l0_3 x34_2).f2))).setCell ⟨gb124,3,none⟩ (.int .i64 ((rd_T92 l0_3 x34_2).f3)))):=⟨be2_ HB.out GE119.out GE124.out⟩
          (try clear BK119)
          (try clear BK124)
          (try clear HB)
          generalize ((((w47.setCell ⟨gb124,0,none⟩ (.int .i64 ((rd_T92 l0_3 x34_2).f0))).setCell ⟨gb124,1,none⟩ (.string ((rd_T92 l0_3 x34_2).f1))).setCell ⟨gb124,2,none⟩ (.int .i64 ((rd_T92 l0_3 x34_2).f2))).setCell ⟨gb124,3,none⟩ (.int .i64 ((rd_T92 l0_3 x34_2).f3))) = w50 at n0_ n1_ n2_ ⊢
          have BK119:=n0_
          have BK124:=n1_
          have HB:=n2_
          clear n0_ n1_ n2_
          replace BK119:=Aside0.mk (blk_drew BK119.out)
          replace BK124:=Aside0.mk (blk_drew BK124.out)
          replace HB:=Aside0.mk (below_drew1 HB.out)
          refine start_ (n:=20) (S:=fun w' => w'.cell? ⟨gb119,0,none⟩ = some (.int .i64 a0_0) ∧ w'.cell? ⟨gb119,1,none⟩ = some (.slice A0_1 l0_1.length c0_1) ∧ w'.cell? ⟨gb119,2,none⟩ = some (.slice A0_2 l0_2.length c0_2) ∧ w'.cell? ⟨gb119,3,none⟩ = some (.slice (some ad123) l0_3.length c0_3) ∧ w'.cell? ⟨gb124,0,none⟩ = some (.int .i64 ((rd_T92 l0_3 x34_2).f0)) ∧ w'.cell? ⟨gb124,1,none⟩ = some (.string ((rd_T92 l0_3 x34_2).f1)) ∧ w'.cell? ⟨gb124,2,none⟩ = some (.int .i64 ((rd_T92 l0_3 x34_2).f2)) ∧ w'.cell? ⟨gb124,3,none⟩ = some (.int .i64 ((rd_T92 l0_3 x34_2).f3))) (ds:=[]) #[false,false,false,false,false,false,false,false,false,false,false,false,false,false,false,false,false,false,false,false] (by kernel_rfl) rfl rfl ⟨bc_ BK119 0,bc_ BK119 1,bc_ BK119 2,bc_ BK119 3,bc_ BK124 0,bc_ BK124 1,bc_ BK124 2,bc_ BK124 3⟩ (fun hHeld => ?_);refine with_tabW spec_AutomatonValid.tab6 spec_AutomatonValid.bits6 (fun HT_ HW_ => ?_)
          generalize w50.drew = w51 at BK119 BK124 HB hHeld ⊢
          refine stW_ [.p 0 39,.t 1 40,.t 2 41] 3 7 20 HT_.out HW_.out hHeld (a':=?_) ?_ rfl (by kernel_rfl) (fun _ _ _ _ h => h) ?_
          rotate_left
          ·repeat (first|exact Steps.nil|(refine Steps.p (oi:=?_) (v:=?_) (a1:=?_) ?_ ?_ ?_ ?_ ?_;rotate_left 2;rfl;rfl;(refine Or.inl ⟨by rfl,?_⟩;intro w';go_simp;with_reducible rfl);rotate_left;exact ap_)|(refine Steps.t (oi:=?_) (v:=?_) (a1:=?_) ?_ ?_ ?_ ?_ ?_;rotate_left 2;rfl;rfl;(refine Or.inl ⟨by rfl,?_⟩;rintro w' ⟨s0,s1,s2,s3,s4,s5,s6,s7⟩;go_simp;with_reducible rfl);rotate_left;exact ap_))
          refine one_ (i:=3) (N:=some 42) #[true,true,true,true,false,false,false,false,false,false,false,false,false,false,false,false,false,false,false,false] rfl rfl (one_of HT_.out (by kernel_rfl)) (by decide) (fun K hK => ?_)
          refine goes_ Try.func120 (by kernel_rfl) rfl #[.int .i64 a0_0,.agg #[.int .i64 ((rd_T92 l0_3 x34_2).f0),.string ((rd_T92 l0_3 x34_2).f1),.int .i64 ((rd_T92 l0_3 x34_2).f2),.int .i64 ((rd_T92 l0_3 x34_2).f3)]] (by rfl) rfl rfl lp_ ?_
          with_reducible refine (spec_l3Step.calls a0_0 ((rd_T92 l0_3 x34_2).f0) ((rd_T92 l0_3 x34_2).f1) ((rd_T92 l0_3 x34_2).f2) ((rd_T92 l0_3 x34_2).f3) false _ A19.out).mono ?_
          rintro e w52 ⟨rfl,hb⟩
          refine ⟨_,rfl,?_⟩
          replace BK119:=kc_ BK119 hb
          replace BK124:=kc_ BK124 hb
          replace HB:=hs2_ HB GE119 GE124 hb
          (try clear hb)
          (try clear hb2)
          (try clear hk)
          (try clear hi)
          refine hK.out _ _ ⟨bc_ BK119 0,bc_ BK119 1,bc_ BK119 2,bc_ BK119 3,bc_ BK124 0,bc_ BK124 1,bc_ BK124 2,bc_ BK124 3⟩ (fun hHeld => ?_)
          clear hK K
          refine norm_ (a':=?_) ?_ ?_
          rotate_left
          ·show Act.put _ (some 42) _ = _
           simp only [Act.put,List.setIfInBounds_toArray,List.set_cons_zero,List.set_cons_succ,i64_w,i32_w]
           rfl
          refine stW_ [.p 4 43,.p 5 44,.u 6 45,.u 7 46,.u 8 47,.u 9 48,.u 10 49,.u 11 50,.u 12 51,.u 13 52,.u 14 53,.u 15 54,.u 16 55,.u 17 56,.u 18 57,.p 19 58] 16 1048575 20 HT_.out HW_.out hHeld (a':=?_) ?_ rfl (by kernel_rfl) (fun _ _ _ _ h => h) ?_
          rotate_left
          ·repeat (first|exact Steps.nil|(refine Steps.u (oi:=?_) (a1:=?_) ?_ ?_ ?_ ?_ ?_;rotate_left 1;rfl;rfl;exact Or.inr ⟨by rfl,rfl⟩;rotate_left;exact ap_)|(refine Steps.p (oi:=?_) (v:=?_) (a1:=?_) ?_ ?_ ?_ ?_ ?_;rotate_left 2;rfl;rfl;(refine Or.inl ⟨by rfl,?_⟩;intro w';go_simp;with_reducible rfl);rotate_left;exact ap_))
          refine done_ (done_of HT_.out (by kernel_rfl)) ?_
          try go_wp2
          go_ret
          exact ⟨er_,be2_ HB.out GE119.out GE124.out⟩
        ·rw [if_neg c18] at H
         exact absurd H (by simp)
       ·rw [if_neg c17] at H
        exact absurd H (by simp)
      ·rw [if_neg c16] at H
       have c16b0 : decide (x34_2 < (l0_3.length : Int)) = false:=decide_eq_false c16
       clear c16
       obtain rfl:=Option.some.inj H
       go_wp2
       go_ret
       exact ⟨er_,be1_ HB.out GE119.out⟩
mutual
def spec_l7End.l0 : Nat → ByteArray → Int → Int → Option (Int)
 | 0,_,_,_ => none
 | k + 1,x0,x1,x5 => if x1 < (x0.size : Int) then (if 0 ≤ x1 then (spec_l7End.j1 k x0 x1 x5 ((bt x0 x1) != 41)) else (none)) else (spec_l7End.j1 k x0 x1 x5 false)
def spec_l7End.j1 : Nat → ByteArray → Int → Int → Bool → Option (Int)
 | 0,_,_,_,_ => none
 | k + 1,x0,x1,x5,x16 => if x16 = true then (if 0 ≤ x1 then (if x1 < (x0.size : Int) then (if (bt x0 x1) = 97 then (spec_l7End.j2 k x0 x1 x5 true) else (spec_l7End.j2 k x0 x1 x5 ((bt x0 x1) == 98))) else (none)) else (none)) else (if x1 = x5 then (some (-1)) else (some x1))
def spec_l7End.j2 : Nat → ByteArray → Int → Int → Bool → Option (Int)
 | 0,_,_,_,_ => none
 | k + 1,x0,x1,x5,x17 => if x17 = true then (spec_l7End.l0 k x0 (wrap64 (x1 + 1)) x5) else (if 0 ≤ x1 then (if x1 < (x0.size : Int) then (if (bt x0 x1) = 40 then ((spec_l7End.f k x0 (wrap64 (x1 + 1))).bind fun t597 => (if t597 < 0 then (some (-1)) else (if (wrap64 (t597 + 1)) ≥ (x0.size : Int) then (some (-1)) else (if 0 ≤ t597 then (if t597 < (x0.size : Int) then (if (bt x0 t597) = 41 then (if 0 ≤ (wrap64 (t597 + 1)) then (if (wrap64 (t597 + 1)) < (x0.size : Int) then (if (bt x0 (wrap64 (t597 + 1))) = 35 then (spec_l7End.l0 k x0 (wrap64 (t597 + 2)) x5) else (some (-1))) else (none)) else (none)) else (some (-1))) else (none)) else (none))))) else (some (-1))) else (none)) else (none))
def spec_l7End.f : Nat → ByteArray → Int → Option (Int)
 | 0,_,_ => none
 | k + 1,a0,a1 => spec_l7End.l0 k a0 a1 a1
end
theorem spec_l7End.mono_l : ∀ k,(∀ y0 y1,LeO (spec_l7End.f k y0 y1) (spec_l7End.f (k + 1) y0 y1)) ∧ (∀ y0 y1 y2,LeO (spec_l7End.l0 k y0 y1 y2) (spec_l7End.l0 (k + 1) y0 y1 y2)) ∧ (∀ y0 y1 y2 y3,LeO (spec_l7End.j1 k y0 y1 y2 y3) (spec_l7End.j1 (k + 1) y0 y1 y2 y3)) ∧ (∀ y0 y1 y2 y3,LeO (spec_l7End.j2 k y0 y1 y2 y3) (spec_l7End.j2 (k + 1) y0 y1 y2 y3))
 | 0 => ⟨fun _ _ r h => by simp [spec_l7End.f] at h,fun _ _ _ r h => by simp [spec_l7End.l0] at h,fun _ _ _ _ r h => by simp [spec_l7End.j1] at h,fun _ _ _ _ r h => by simp [spec_l7End.j2] at h⟩
 | k + 1 => by
  obtain ⟨ih0,ih1,ih2,ih3⟩:=spec_l7End.mono_l k
  refine ⟨?_,?_,?_,?_⟩
  ·intro y0 y1
   unfold spec_l7End.f
   repeat' first
   | (with_reducible exact ih0 _ _)
   | (with_reducible exact ih1 _ _ _)
   | (with_reducible exact ih2 _ _ _ _)
   | (with_reducible exact ih3 _ _ _ _)
   | (with_reducible first|exact LeO.refl _|exact LeO.none _|refine LeO.ite ?_ ?_|refine LeO.bind ?_ (fun _ => ?_))
   | exact ih0 _ _
   | exact ih1 _ _ _
   | exact ih2 _ _ _ _
   | exact ih3 _ _ _ _
   | exact LeO.none _
   | refine LeO.ite ?_ ?_
   | refine LeO.bind ?_ (fun _ => ?_)
  ·intro y0 y1 y2
   unfold spec_l7End.l0
   repeat' first
   | (with_reducible exact ih0 _ _)
   | (with_reducible exact ih1 _ _ _)
   | (with_reducible exact ih2 _ _ _ _)
   | (with_reducible exact ih3 _ _ _ _)
   | (with_reducible first|exact LeO.refl _|exact LeO.none _|refine LeO.ite ?_ ?_|refine LeO.bind ?_ (fun _ => ?_))
   | exact ih0 _ _
   | exact ih1 _ _ _
   | exact ih2 _ _ _ _
   | exact ih3 _ _ _ _
   | exact LeO.none _
   | refine LeO.ite ?_ ?_
   | refine LeO.bind ?_ (fun _ => ?_)
  ·intro y0 y1 y2 y3
   unfold spec_l7End.j1
   repeat' first
   | (with_reducible exact ih0 _ _)
   | (with_reducible exact ih1 _ _ _)
   | (with_reducible exact ih2 _ _ _ _)
   | (with_reducible exact ih3 _ _ _ _)
   | (with_reducible first|exact LeO.refl _|exact LeO.none _|refine LeO.ite ?_ ?_|refine LeO.bind ?_ (fun _ => ?_))
   | exact ih0 _ _
   | exact ih1 _ _ _
   | exact ih2 _ _ _ _
   | exact ih3 _ _ _ _
   | exact LeO.none _
   | refine LeO.ite ?_ ?_
   | refine LeO.bind ?_ (fun _ => ?_)
  ·intro y0 y1 y2 y3
   unfold spec_l7End.j2
   repeat' first
   | (with_reducible exact ih0 _ _)
   | (with_reducible exact ih1 _ _ _)
   | (with_reducible exact ih2 _ _ _ _)
   | (with_reducible exact ih3 _ _ _ _)
   | (with_reducible first|exact LeO.refl _|exact LeO.none _|refine LeO.ite ?_ ?_|refine LeO.bind ?_ (fun _ => ?_))
   | exact ih0 _ _
   | exact ih1 _ _ _
   | exact ih2 _ _ _ _
   | exact ih3 _ _ _ _
   | exact LeO.none _
   | refine LeO.ite ?_ ?_
   | refine LeO.bind ?_ (fun _ => ?_)
theorem spec_l7End.mono : ∀ a0 a1 k,LeO (spec_l7End.f k a0 a1) (spec_l7End.f (k + 1) a0 a1):=by
 intro a0 a1 k
 obtain ⟨ih0,ih1,ih2,ih3⟩:=spec_l7End.mono_l k
 exact ih0 a0 a1
set_option maxHeartbeats 8000000 in
set_option maxRecDepth 100000 in
theorem spec_l7End.calls (k : Nat) : ∀ (a0 : ByteArray) (a1 : Int) (r : Int) (w : World) (h : spec_l7End.f k a0 a1 = some r),
  Calls Try.prog 141 #[.string a0,.int .i64 a1] w fun e w' => e = .returned (.int .i64 r) ∧ Drawn0 w w':=by
 induction k using Nat.strongRecOn with
 | _ k ih =>
 intro a0 a1 r w h
 cases k with
 | zero => exact absurd h (by simp [spec_l7End.f])
 | succ k =>
 simp only [spec_l7End.f] at h
 have H : (spec_l7End.l0 k a0 a1 a1) = some r:=h
 clear h
 have H':=Aside0.mk H
 clear H
 go_enter Try.func141,Try.ntmps141
 go_wp2
 go_loopg [1] k (fun kq v1 w' => ∃ (x1_1 : Int),v1 = .int .i64 x1_1 ∧ Aside0 (spec_l7End.l0 kq a0 x1_1 a1 = some r) ∧ Aside0 (kq ≤ k) ∧ Drawn0 w w')
 case atStart => exact ⟨(a1),rs_,H',⟨Nat.le_refl _⟩,by repeat (first|exact Drawn0.refl _|apply Drawn0.step)⟩
 case round =>
  clear H'
  obtain ⟨x1_1,rfl,HA,HK1,⟨m1,rfl⟩⟩:=hrel
  cases gk with
  | zero => exact absurd HA.out (by simp [spec_l7End.l0])
  | succ k1 =>
   have H:=HA.out
   clear HA
   simp only [spec_l7End.l0] at H
   have HC3:=Aside0.mk H
   clear H
   go_upto_region 2 with (fail)
   go_cut [16] (fun v16 wc => ∃ (kq : Nat) (x16_2 : Bool),v16 = .bool x16_2 ∧ Aside0 (spec_l7End.j1 kq a0 x1_1 a1 x16_2 = some r) ∧ Aside0 (kq ≤ k1) ∧ Drawn0 w wc)
   case first =>
    have H:=HC3.out
    clear HC3
    by_cases c4 : x1_1 < (a0.size : Int)
    ·rw [if_pos c4] at H
     have c4b0 : decide (x1_1 < (a0.size : Int)) = true:=decide_eq_true c4
     clear c4
     (first|rw [c4b0]|(simp only [i64_w,i32_w];rw [c4b0])|skip)
     by_cases c5 : 0 ≤ x1_1
     ·rw [if_pos c5] at H
      have c5b0 : decide (0 ≤ x1_1) = true:=decide_eq_true c5
      clear c5
      have H':=Aside0.mk H
      clear H
      have p6 : 0 ≤ (x1_1 : Int):=od_
      have q6 : x1_1 < (a0.size : Int):=od_
      have hx6:=bt_at a0 x1_1
      replace p6:=eq_true p6
      replace q6:=eq_true q6
      go_wp2
      go_meet
      case rel => exact ⟨_,(((bt a0 x1_1) != 41)),rs_,H',⟨by have:=HK1.out;first|omega|exact Nat.le_refl _⟩,by repeat (first|exact Drawn0.refl _|apply Drawn0.step)⟩
     ·rw [if_neg c5] at H
      exact absurd H (by simp)
    ·rw [if_neg c4] at H
     have c4b0 : decide (x1_1 < (a0.size : Int)) = false:=decide_eq_false c4
     clear c4
     (first|rw [c4b0]|(simp only [i64_w,i32_w];rw [c4b0])|skip)
     have H':=Aside0.mk H
     clear H
     go_wp2
     go_meet
     case rel => exact ⟨_,(false),rs_,H',⟨by have:=HK1.out;first|omega|exact Nat.le_refl _⟩,by repeat (first|exact Drawn0.refl _|apply Drawn0.step)⟩
   case rest =>
    clear HC3
    try clear hx6
    obtain ⟨kq,x16_2,rfl,HA,HJ2,⟨mc2,rfl⟩⟩:=hcut
    cases kq with
    | zero => exact absurd HA.out (by simp [spec_l7End.j1])
    | succ kj2 =>
     have H:=HA.out
     clear HA
     simp only [spec_l7End.j1] at H
     by_cases c7 : x16_2 = true
     ·subst c7
      have H1 : (if 0 ≤ x1_1 then (if x1_1 < (a0.size : Int) then (if (bt a0 x1_1) = 97 then (spec_l7End.j2 kj2 a0 x1_1 a1 true) else (spec_l7End.j2 kj2 a0 x1_1 a1 ((bt a0 x1_1) == 98))) else (none)) else (none)) = some r:=by rw [if_pos rfl] at H;exact H
      clear H
      have H:=H1
      clear H1
      have HC8:=Aside0.mk H
      clear H
      go_upto_region 4 with (fail)
      go_cut [17] (fun v17 wc => ∃ (kq : Nat) (x17_7 : Bool),v17 = .bool x17_7 ∧ Aside0 (spec_l7End.j2 kq a0 x1_1 a1 x17_7 = some r) ∧ Aside0 (kq ≤ kj2) ∧ Drawn0 w wc)
      case first =>
       have H:=HC8.out
       clear HC8
       by_cases c9 : 0 ≤ x1_1
       ·rw [if_pos c9] at H
        have c9b0 : decide (0 ≤ x1_1) = true:=decide_eq_true c9
        clear c9
        (first|rw [c9b0]|(simp only [i64_w,i32_w];rw [c9b0])|skip)
        by_cases c10 : x1_1 < (a0.size : Int)
        ·rw [if_pos c10] at H
         have c10b0 : decide (x1_1 < (a0.size : Int)) = true:=decide_eq_true c10
         clear c10
         by_cases c12 : (bt a0 x1_1) = 97
         ·rw [if_pos c12] at H
          have c12b0 : ((bt a0 x1_1) == 97) = true:=beq_iff_eq.mpr c12
          have c12b1 : ((bt a0 x1_1) != 97) = false:=bne_eq_false_iff_eq.mpr c12
          clear c12
          have H':=Aside0.mk H
          clear H
          have p11 : 0 ≤ (x1_1 : Int):=od_
          have q11 : x1_1 < (a0.size : Int):=od_
          have hx11:=bt_at a0 x1_1
          replace p11:=eq_true p11
          replace q11:=eq_true q11
          go_wp2
          go_meet
          case rel => exact ⟨_,(true),rs_,H',⟨by have:=HK1.out;have:=HJ2.out;first|omega|exact Nat.le_refl _⟩,by repeat (first|exact Drawn0.refl _|apply Drawn0.step)⟩
         ·rw [if_neg c12] at H
          have c12b0 : ((bt a0 x1_1) == 97) = false:=beq_eq_false_iff_ne.mpr c12
          have c12b1 : ((bt a0 x1_1) != 97) = true:=bne_iff_ne.mpr c12
          have H':=Aside0.mk H
          clear H
          have p11 : 0 ≤ (x1_1 : Int):=od_
          have q11 : x1_1 < (a0.size : Int):=od_
          have hx11:=bt_at a0 x1_1
          replace p11:=eq_true p11
          replace q11:=eq_true q11
          have p13 : 0 ≤ (x1_1 : Int):=od_
          have q13 : x1_1 < (a0.size : Int):=od_
          have hx13:=bt_at a0 x1_1
          replace p13:=eq_true p13
          replace q13:=eq_true q13
          go_wp2
          go_meet
          case rel => exact ⟨_,(((bt a0 x1_1) == 98)),rs_,H',⟨by have:=HK1.out;have:=HJ2.out;first|omega|exact Nat.le_refl _⟩,by repeat (first|exact Drawn0.refl _|apply Drawn0.step)⟩
        ·rw [if_neg c10] at H
         exact absurd H (by simp)
       ·rw [if_neg c9] at H
        exact absurd H (by simp)
      case rest =>
       clear HC8
       try clear hx1
       try clear hx6
       try clear hx11
       try clear hx13
       obtain ⟨kq,x17_7,rfl,HA,HJ7,⟨mc7,rfl⟩⟩:=hcut
       cases kq with
       | zero => exact absurd HA.out (by simp [spec_l7End.j2])
       | succ kj7 =>
        have H:=HA.out
        clear HA
        simp only [spec_l7End.j2] at H
        by_cases c14 : x17_7 = true
        ·subst c14
         have H1 : (spec_l7End.l0 kj7 a0 (wrap64 (x1_1 + 1)) a1) = some r:=by rw [if_pos rfl] at H;exact H
         clear H
         have H:=H1
         clear H1
         have H':=Aside0.mk H
         clear H
         go_wp2
         go_roundg kj7
         case measure => have:=HK1.out;have:=HJ2.out;have:=HJ7.out;omega
         case rel => exact ⟨(wrap64 (x1_1 + 1)),rs_,H',⟨by have:=HK1.out;have:=HJ2.out;have:=HJ7.out;omega⟩,by repeat (first|exact Drawn0.refl _|apply Drawn0.step)⟩
        ·replace c14:=Bool.eq_false_iff.mpr c14
         subst c14
         have H1 : (if 0 ≤ x1_1 then (if x1_1 < (a0.size : Int) then (if (bt a0 x1_1) = 40 then ((spec_l7End.f kj7 a0 (wrap64 (x1_1 + 1))).bind fun t597 => (if t597 < 0 then (some (-1)) else (if (wrap64 (t597 + 1)) ≥ (a0.size : Int) then (some (-1)) else (if 0 ≤ t597 then (if t597 < (a0.size : Int) then (if (bt a0 t597) = 41 then (if 0 ≤ (wrap64 (t597 + 1)) then (if (wrap64 (t597 + 1)) < (a0.size : Int) then (if (bt a0 (wrap64 (t597 + 1))) = 35 then (spec_l7End.l0 kj7 a0 (wrap64 (t597 + 2)) a1) else (some (-1))) else (none)) else (none)) else (some (-1))) else (none)) else (none))))) else (some (-1))) else (none)) else (none)) = some r:=by rw [if_neg (show ¬ (false = true) by decide)] at H;exact H
         clear H
         have H:=H1
         clear H1
         by_cases c15 : 0 ≤ x1_1
         ·rw [if_pos c15] at H
          have c15b0 : decide (0 ≤ x1_1) = true:=decide_eq_true c15
          clear c15
          by_cases c16 : x1_1 < (a0.size : Int)
          ·rw [if_pos c16] at H
           have c16b0 : decide (x1_1 < (a0.size : Int)) = true:=decide_eq_true c16
           clear c16
           by_cases c18 : (bt a0 x1_1) = 40
           ·rw [if_pos c18] at H
            have c18b0 : ((bt a0 x1_1) == 40) = true:=beq_iff_eq.mpr c18
            have c18b1 : ((bt a0 x1_1) != 40) = false:=bne_eq_false_iff_eq.mpr c18
            clear c18
            replace H:=Option.bind_eq_some_iff.mp H
            obtain ⟨t597,A190,H⟩:=H
            replace H : (if t597 < 0 then (some (-1)) else (if (wrap64 (t597 + 1)) ≥ (a0.size : Int) then (some (-1)) else (if 0 ≤ t597 then (if t597 < (a0.size : Int) then (if (bt a0 t597) = 41 then (if 0 ≤ (wrap64 (t597 + 1)) then (if (wrap64 (t597 + 1)) < (a0.size : Int) then (if (bt a0 (wrap64 (t597 + 1))) = 35 then (spec_l7End.l0 kj7 a0 (wrap64 (t597 + 2)) a1) else (some (-1))) else (none)) else (none)) else (some (-1))) else (none)) else (none)))) = some r:=H
            have A19:=Aside0.mk A190
            clear A190
            by_cases c20 : t597 < 0
            ·rw [if_pos c20] at H
             have c20b0 : decide (t597 < 0) = true:=decide_eq_true c20
             clear c20
             obtain rfl:=Option.some.inj H
             have p17 : 0 ≤ (x1_1 : Int):=od_
             have q17 : x1_1 < (a0.size : Int):=od_
             have hx17:=bt_at a0 x1_1
             replace p17:=eq_true p17
             replace q17:=eq_true q17
             go_wp2_with (first|((with_reducible refine gate_callee (f:=141) rfl ?_);refine goesL_ (some 38) rfl rfl Try.func141 (by kernel_rfl) rfl #[.string a0,.int .i64 (wrap64 (x1_1 + 1))] rfl lp_ ?_;(with_reducible refine (ih kj7 (by have:=HK1.out;have:=HJ2.out;have:=HJ7.out;omega) a0 (wrap64 (x1_1 + 1)) t597 _ A19.out).mono ?_);rintro e w' ⟨rfl,⟨nd,rfl⟩⟩;refine ⟨_,rfl,?_⟩))
             go_ret
             exact ⟨by first|rfl|(simp;done)|(simp [*];done),by repeat (first|exact Drawn0.refl _|apply Drawn0.step)⟩
            ·rw [if_neg c20] at H
             have c20b0 : decide (t597 < 0) = false:=decide_eq_false c20
             clear c20
             by_cases c21 : (wrap64 (t597 + 1)) ≥ (a0.size : Int)
             ·rw [if_pos c21] at H
              have c21b0 : decide ((a0.size : Int) ≤ (wrap64 (t597 + 1))) = true:=decide_eq_true c21
              clear c21
              obtain rfl:=Option.some.inj H
              have p17 : 0 ≤ (x1_1 : Int):=od_
              have q17 : x1_1 < (a0.size : Int):=od_
              have hx17:=bt_at a0 x1_1
              replace p17:=eq_true p17
              replace q17:=eq_true q17
              go_wp2_with (first|((with_reducible refine gate_callee (f:=141) rfl ?_);refine goesL_ (some 38) rfl rfl Try.func141 (by kernel_rfl) rfl #[.string a0,.int .i64 (wrap64 (x1_1 + 1))] rfl lp_ ?_;(with_reducible refine (ih kj7 (by have:=HK1.out;have:=HJ2.out;have:=HJ7.out;omega) a0 (wrap64 (x1_1 + 1)) t597 _ A19.out).mono ?_);rintro e w' ⟨rfl,⟨nd,rfl⟩⟩;refine ⟨_,rfl,?_⟩))
              go_ret
              exact ⟨by first|rfl|(simp;done)|(simp [*];done),by repeat (first|exact Drawn0.refl _|apply Drawn0.step)⟩
             ·rw [if_neg c21] at H
              have c21b0 : decide ((a0.size : Int) ≤ (wrap64 (t597 + 1))) = false:=decide_eq_false c21
              clear c21
              by_cases c22 : 0 ≤ t597
              ·rw [if_pos c22] at H
               have c22b0 : decide (0 ≤ t597) = true:=decide_eq_true c22
               clear c22
               by_cases c23 : t597 < (a0.size : Int)
               ·rw [if_pos c23] at H
                have c23b0 : decide (t597 < (a0.size : Int)) = true:=decide_eq_true c23
                clear c23
                by_cases c25 : (bt a0 t597) = 41
                ·rw [if_pos c25] at H
                 have c25b0 : ((bt a0 t597) == 41) = true:=beq_iff_eq.mpr c25
                 have c25b1 : ((bt a0 t597) != 41) = false:=bne_eq_false_iff_eq.mpr c25
                 clear c25
                 obtain ⟨ji26,hji26⟩ : ∃ j_ : Int,(wrap64 (t597 + 1)) = j_:=⟨_,rfl⟩
                 replace H : (if 0 ≤ (ji26) then (if (ji26) < (a0.size : Int) then (if (bt a0 (ji26)) = 35 then (spec_l7End.l0 kj7 a0 (wrap64 (t597 + 2)) a1) else (some (-1))) else (none)) else (none)) = some r:=by first|(rw [hji26] at H;exact H)|(simp only [hji26] at H ⊢;exact H)
                 (try rw [hji26] at c21b0)
                 (try rw [hji26] at A19)
                 have hji26w : (IntKind.i64.wrap (t597 + 1)) = ji26:=(i64_w _).trans hji26
                 by_cases c27 : 0 ≤ (ji26)
                 ·rw [if_pos c27] at H
                  have c27b0 : decide (0 ≤ (ji26)) = true:=decide_eq_true c27
                  clear c27
                  by_cases c28 : (ji26) < (a0.size : Int)
                  ·rw [if_pos c28] at H
                   have c28b0 : decide ((ji26) < (a0.size : Int)) = true:=decide_eq_true c28
                   clear c28
                   by_cases c30 : (bt a0 (ji26)) = 35
                   ·rw [if_pos c30] at H
                    have c30b0 : ((bt a0 (ji26)) == 35) = true:=beq_iff_eq.mpr c30
                    have c30b1 : ((bt a0 (ji26)) != 35) = false:=bne_eq_false_iff_eq.mpr c30
                    clear c30
                    have H':=Aside0.mk H
                    clear H
                    have p17 : 0 ≤ (x1_1 : Int):=od_
                    have q17 : x1_1 < (a0.size : Int):=od_
                    have hx17:=bt_at a0 x1_1
                    replace p17:=eq_true p17
                    replace q17:=eq_true q17
                    go_wp2_with (first|((with_reducible refine gate_callee (f:=141) rfl ?_);refine goesL_ (some 38) rfl rfl Try.func141 (by kernel_rfl) rfl #[.string a0,.int .i64 (wrap64 (x1_1 + 1))] rfl lp_ ?_;(with_reducible refine (ih kj7 (by have:=HK1.out;have:=HJ2.out;have:=HJ7.out;omega) a0 (wrap64 (x1_1 + 1)) t597 _ A19.out).mono ?_);rintro e w' ⟨rfl,⟨nd,rfl⟩⟩;refine ⟨_,rfl,?_⟩;have p24 : 0 ≤ (t597 : Int):=od_;have q24 : t597 < (a0.size : Int):=od_;have hx24:=bt_at a0 t597;replace p24:=eq_true p24;replace q24:=eq_true q24;have p29 : 0 ≤ ((ji26) : Int):=od_;have q29 : (ji26) < (a0.size : Int):=od_;have hx29:=bt_at a0 (ji26);replace p29:=eq_true p29;replace q29:=eq_true q29))
                    go_roundg kj7
                    case measure => have:=HK1.out;have:=HJ2.out;have:=HJ7.out;omega
                    case rel => exact ⟨(wrap64 (t597 + 2)),rs_,H',⟨by have:=HK1.out;have:=HJ2.out;have:=HJ7.out;omega⟩,by repeat (first|exact Drawn0.refl _|apply Drawn0.step)⟩
                   ·rw [if_neg c30] at H
                    have c30b0 : ((bt a0 (ji26)) == 35) = false:=beq_eq_false_iff_ne.mpr c30
                    have c30b1 : ((bt a0 (ji26)) != 35) = true:=bne_iff_ne.mpr c30
                    obtain rfl:=Option.some.inj H
                    have p17 : 0 ≤ (x1_1 : Int):=od_
                    have q17 : x1_1 < (a0.size : Int):=od_
                    have hx17:=bt_at a0 x1_1
                    replace p17:=eq_true p17
                    replace q17:=eq_true q17
                    go_wp2_with (first|((with_reducible refine gate_callee (f:=141) rfl ?_);refine goesL_ (some 38) rfl rfl Try.func141 (by kernel_rfl) rfl #[.string a0,.int .i64 (wrap64 (x1_1 + 1))] rfl lp_ ?_;(with_reducible refine (ih kj7 (by have:=HK1.out;have:=HJ2.out;have:=HJ7.out;omega) a0 (wrap64 (x1_1 + 1)) t597 _ A19.out).mono ?_);rintro e w' ⟨rfl,⟨nd,rfl⟩⟩;refine ⟨_,rfl,?_⟩;have p24 : 0 ≤ (t597 : Int):=od_;have q24 : t597 < (a0.size : Int):=od_;have hx24:=bt_at a0 t597;replace p24:=eq_true p24;replace q24:=eq_true q24;have p29 : 0 ≤ ((ji26) : Int):=od_;have q29 : (ji26) < (a0.size : Int):=od_;have hx29:=bt_at a0 (ji26);replace p29:=eq_true p29;replace q29:=eq_true q29))
                    go_ret
                    exact ⟨by first|rfl|(simp;done)|(simp only [← hji26] <;> (first|rfl|simp))|(simp [*];done),by repeat (first|exact Drawn0.refl _|apply Drawn0.step)⟩
                  ·rw [if_neg c28] at H
                   exact absurd H (by simp)
                 ·rw [if_neg c27] at H
                  exact absurd H (by simp)
                ·rw [if_neg c25] at H
                 have c25b0 : ((bt a0 t597) == 41) = false:=beq_eq_false_iff_ne.mpr c25
                 have c25b1 : ((bt a0 t597) != 41) = true:=bne_iff_ne.mpr c25
                 obtain rfl:=Option.some.inj H
                 have p17 : 0 ≤ (x1_1 : Int):=od_
                 have q17 : x1_1 < (a0.size : Int):=od_
                 have hx17:=bt_at a0 x1_1
                 replace p17:=eq_true p17
                 replace q17:=eq_true q17
                 go_wp2_with (first|((with_reducible refine gate_callee (f:=141) rfl ?_);refine goesL_ (some 38) rfl rfl Try.func141 (by kernel_rfl) rfl #[.string a0,.int .i64 (wrap64 (x1_1 + 1))] rfl lp_ ?_;(with_reducible refine (ih kj7 (by have:=HK1.out;have:=HJ2.out;have:=HJ7.out;omega) a0 (wrap64 (x1_1 + 1)) t597 _ A19.out).mono ?_);rintro e w' ⟨rfl,⟨nd,rfl⟩⟩;refine ⟨_,rfl,?_⟩;have p24 : 0 ≤ (t597 : Int):=od_;have q24 : t597 < (a0.size : Int):=od_;have hx24:=bt_at a0 t597;replace p24:=eq_true p24;replace q24:=eq_true q24))
                 go_ret
                 exact ⟨by first|rfl|(simp;done)|(simp [*];done),by repeat (first|exact Drawn0.refl _|apply Drawn0.step)⟩
               ·rw [if_neg c23] at H
                exact absurd H (by simp)
              ·rw [if_neg c22] at H
               exact absurd H (by simp)
           ·rw [if_neg c18] at H
            have c18b0 : ((bt a0 x1_1) == 40) = false:=beq_eq_false_iff_ne.mpr c18
            have c18b1 : ((bt a0 x1_1) != 40) = true:=bne_iff_ne.mpr c18
            obtain rfl:=Option.some.inj H
            have p17 : 0 ≤ (x1_1 : Int):=od_
            have q17 : x1_1 < (a0.size : Int):=od_
            have hx17:=bt_at a0 x1_1
            replace p17:=eq_true p17
            replace q17:=eq_true q17
            go_wp2
            go_ret
            exact ⟨by first|rfl|(simp;done)|(simp [*];done),by repeat (first|exact Drawn0.refl _|apply Drawn0.step)⟩
          ·rw [if_neg c16] at H
           exact absurd H (by simp)
         ·rw [if_neg c15] at H
          exact absurd H (by simp)
     ·replace c7:=Bool.eq_false_iff.mpr c7
      subst c7
      have H1 : (if x1_1 = a1 then (some (-1)) else (some x1_1)) = some r:=by rw [if_neg (show ¬ (false = true) by decide)] at H;exact H
      clear H
      have H:=H1
      clear H1
      by_cases c31 : x1_1 = a1
      ·rw [if_pos c31] at H
       have c31b0 : (x1_1 == a1) = true:=beq_iff_eq.mpr c31
       have c31b1 : (x1_1 != a1) = false:=bne_eq_false_iff_eq.mpr c31
       clear c31
       obtain rfl:=Option.some.inj H
       go_wp2
       go_ret
       exact ⟨by first|rfl|(simp;done)|(simp [*];done),by repeat (first|exact Drawn0.refl _|apply Drawn0.step)⟩
      ·rw [if_neg c31] at H
       have c31b0 : (x1_1 == a1) = false:=beq_eq_false_iff_ne.mpr c31
       have c31b1 : (x1_1 != a1) = true:=bne_iff_ne.mpr c31
       obtain rfl:=Option.some.inj H
       go_wp2
       go_ret
       exact ⟨by first|rfl|(simp;done)|(simp [*];done),by repeat (first|exact Drawn0.refl _|apply Drawn0.step)⟩
def spec_ExpressionValid.f (k : Nat) (a0 : ByteArray) : Option (Bool):=if (a0.size : Int) ≤ 120 then ((spec_l7End.f k a0 0).bind fun t598 => (if t598 = (a0.size : Int) then (some (decide ((a0.size : Int) > 0))) else (some false))) else (some false)
theorem spec_ExpressionValid.mono : ∀ a0 k,LeO (spec_ExpressionValid.f k a0) (spec_ExpressionValid.f (k + 1) a0):=by
 intro a0 k
 unfold spec_ExpressionValid.f
 repeat' first
   | (with_reducible exact spec_l7End.mono _ _ _)
   | (with_reducible first|exact LeO.refl _|exact LeO.none _|refine LeO.ite ?_ ?_|refine LeO.bind ?_ (fun _ => ?_))
   | exact spec_l7End.mono _ _ _
   | exact LeO.none _
   | refine LeO.ite ?_ ?_
   | refine LeO.bind ?_ (fun _ => ?_)
set_option maxHeartbeats 8000000 in
set_option maxRecDepth 100000 in
theorem spec_ExpressionValid.calls (k : Nat) (a0 : ByteArray) (r : Bool) (w : World) (h : spec_ExpressionValid.f k a0 = some r) :
  Calls Try.prog 86 #[.string a0] w fun e w' => e = .returned (.bool r) ∧ Drawn0 w w':=by
 have H : (if (a0.size : Int) ≤ 120 then ((spec_l7End.f k a0 0).bind fun t598 => (if t598 = (a0.size : Int) then (some (decide ((a0.size : Int) > 0))) else (some false))) else (some false)) = some r:=h
 clear h
 by_cases c2 : (a0.size : Int) ≤ 120
 ·rw [if_pos c2] at H
  have c2b0 : decide ((a0.size : Int) ≤ 120) = true:=decide_eq_true c2
  have c2b1 : decide (a0.size ≤ 120) = true:=decide_eq_true (by omega)
  clear c2
  replace H:=Option.bind_eq_some_iff.mp H
  obtain ⟨t598,A30,H⟩:=H
  replace H : (if t598 = (a0.size : Int) then (some (decide ((a0.size : Int) > 0))) else (some false)) = some r:=H
  have A3:=Aside0.mk A30
  clear A30
  by_cases c4 : t598 = (a0.size : Int)
  ·rw [if_pos c4] at H
   have c4b0 : (t598 == (a0.size : Int)) = true:=beq_iff_eq.mpr c4
   have c4b1 : (t598 != (a0.size : Int)) = false:=bne_eq_false_iff_eq.mpr c4
   clear c4
   obtain rfl:=Option.some.inj H
   go_enter Try.func86,Try.ntmps86
   go_wp2_with (first|(go_at_call 141;(with_reducible refine (spec_l7End.calls k a0 0 t598 _ A3.out).mono ?_);rintro e w' ⟨rfl,⟨nd,rfl⟩⟩))
   go_ret
   exact ⟨by first|rfl|(simp;done)|(simp [*];done),by repeat (first|exact Drawn0.refl _|apply Drawn0.step)⟩
  ·rw [if_neg c4] at H
   have c4b0 : (t598 == (a0.size : Int)) = false:=beq_eq_false_iff_ne.mpr c4
   have c4b1 : (t598 != (a0.size : Int)) = true:=bne_iff_ne.mpr c4
   obtain rfl:=Option.some.inj H
   go_enter Try.func86,Try.ntmps86
   go_wp2_with (first|(go_at_call 141;(with_reducible refine (spec_l7End.calls k a0 0 t598 _ A3.out).mono ?_);rintro e w' ⟨rfl,⟨nd,rfl⟩⟩))
   go_ret
   exact ⟨by first|rfl|(simp;done)|(simp [*];done),by repeat (first|exact Drawn0.refl _|apply Drawn0.step)⟩
 ·rw [if_neg c2] at H
  have c2b0 : decide ((a0.size : Int) ≤ 120) = false:=decide_eq_false c2
  have c2b1 : decide (a0.size ≤ 120) = false:=decide_eq_false (by omega)
  clear c2
  obtain rfl:=Option.some.inj H
  go_enter Try.func86,Try.ntmps86
  go_wp2
  go_ret
  exact ⟨by first|rfl|(simp;done)|(simp [*];done),by repeat (first|exact Drawn0.refl _|apply Drawn0.step)⟩
def spec_l2Unit.l0 : Nat → Int → Int → Int → Int → List Int → Option (Int × List Int)
 | 0,_,_,_,_,_ => none
 | k + 1,x0,x9,x10,x296000,x296001 => if x10 < x9 then (if x0 = 0 then (none) else (if (wrap64 (Int.tdiv x10 x0)) = (Int.tmod x10 x0) then (if x296001.length < 17592186044416 then (spec_l2Unit.l0 k x0 x9 (wrap64 (x10 + 1)) x296000 (x296001 ++ [0])) else (none)) else (if x296001.length < 17592186044416 then (spec_l2Unit.l0 k x0 x9 (wrap64 (x10 + 1)) x296000 (x296001 ++ [1000000])) else (none)))) else (some (x296000,x296001))
def spec_l2Unit.f (k : Nat) (a0 : Int) : Option (Int × List Int):=spec_l2Unit.l0 k a0 (wrap64 (a0 * a0)) 0 a0 ([] : List Int)
theorem spec_l2Unit.mono_l : ∀ k,(∀ y0 y1 y2 y3 y4,LeO (spec_l2Unit.l0 k y0 y1 y2 y3 y4) (spec_l2Unit.l0 (k + 1) y0 y1 y2 y3 y4))
 | 0 => fun _ _ _ _ _ r h => by simp [spec_l2Unit.l0] at h
 | k + 1 => by
  have ih0:=spec_l2Unit.mono_l k
  ·intro y0 y1 y2 y3 y4
   unfold spec_l2Unit.l0
   repeat' first
   | (with_reducible exact ih0 _ _ _ _ _)
   | (with_reducible first|exact LeO.refl _|exact LeO.none _|refine LeO.ite ?_ ?_|refine LeO.bind ?_ (fun _ => ?_))
   | exact ih0 _ _ _ _ _
   | exact LeO.none _
   | refine LeO.ite ?_ ?_
   | refine LeO.bind ?_ (fun _ => ?_)
theorem spec_l2Unit.mono : ∀ a0 k,LeO (spec_l2Unit.f k a0) (spec_l2Unit.f (k + 1) a0):=by
 intro a0 k
 have ih0:=spec_l2Unit.mono_l k
 unfold spec_l2Unit.f
 repeat' first
   | (with_reducible exact ih0 _ _ _ _ _)
   | (with_reducible first|exact LeO.refl _|exact LeO.none _|refine LeO.ite ?_ ?_|refine LeO.bind ?_ (fun _ => ?_))
   | exact ih0 _ _ _ _ _
   | exact LeO.none _
   | refine LeO.ite ?_ ?_
   | refine LeO.bind ?_ (fun _ => ?_)
set_option maxHeartbeats 8000000 in
set_option maxRecDepth 100000 in
theorem spec_l2Unit.calls (k : Nat) (a0 : Int) (r1 : Int) (r2 : List Int) (w : World) (h : spec_l2Unit.f k a0 = some (r1,r2)) :
  Calls Try.prog 131 #[.int .i64 a0] w fun e w' => ∃ v1_ : Value,e = .returned (.agg #[.int .i64 r1,v1_]) ∧ Kd.R (Kd.int .i64) 3 w' w.heap.size (fun _ => True) v1_ r2 ∧ Below w.heap.size w w':=by
 have hu35:=Try.underlying35
 have HB:=Aside0.mk (Below.refl w.heap.size w)
 have H : (spec_l2Unit.l0 k a0 (wrap64 (a0 * a0)) 0 a0 ([] : List Int)) = some (r1,r2):=h
 clear h
 have H':=Aside0.mk H
 clear H
 go_enter Try.func131,Try.ntmps131
 go_wp2_with (first|((with_reducible refine bev_ (N:=2) rfl rfl (cs:=#[.int .i64 0,.slice none 0 0]) (t:=35) ?hr ?_);(case hr => first|(go_simp;done)|(go_simp;rfl));intro gb294 hg w2 hbox hb;have BK294:=Aside0.mk (hbox);have GW294:=gw0_ hg HB;have GE294:=GW294;replace HB:=hs0_ HB hb;clear hb hbox hg)|((with_reducible refine bev_ (N:=3) rfl rfl (cs:=#[.int .i64 0,.slice none 0 0]) (t:=35) ?hr ?_);(case hr => first|(go_simp;done)|(go_simp;rfl));intro gb295 hg w3 hbox hb;have BK295:=Aside0.mk (hbox);have GW295:=gw1_ hg HB GE294;have GE295:=GW295;replace HB:=hs1_ HB GE294 hb;have NB294_295:=nm_ hg BK294;have NB295_294:=nn_ hg BK294;replace BK294:=kc_ BK294 hb;clear hb hbox hg;have hnb4:=NB295_294.out;have hnc4:=NB294_295.out;obtain ⟨hcz5_0,hcz5_1,hfz5_0,hfz5_1⟩:=cf2_ BK295.out))
 repeat (go_quiet (first|((with_reducible refine bev_ (N:=2) rfl rfl (cs:=#[.int .i64 0,.slice none 0 0]) (t:=35) ?hr ?_);(case hr => first|(go_simp;done)|(go_simp;rfl));intro gb294 hg w2 hbox hb;have BK294:=Aside0.mk (hbox);have GW294:=gw0_ hg HB;have GE294:=GW294;replace HB:=hs0_ HB hb;clear hb hbox hg)|((with_reducible refine bev_ (N:=3) rfl rfl (cs:=#[.int .i64 0,.slice none 0 0]) (t:=35) ?hr ?_);(case hr => first|(go_simp;done)|(go_simp;rfl));intro gb295 hg w3 hbox hb;have BK295:=Aside0.mk (hbox);have GW295:=gw1_ hg HB GE294;have GE295:=GW295;replace HB:=hs1_ HB GE294 hb;have NB294_295:=nm_ hg BK294;have NB295_294:=nn_ hg BK294;replace BK294:=kc_ BK294 hb;clear hb hbox hg;have hnb4:=NB295_294.out;have hnc4:=NB294_295.out;obtain ⟨hcz5_0,hcz5_1,hfz5_0,hfz5_1⟩:=cf2_ BK295.out));try go_wp2_with (first|((with_reducible refine bev_ (N:=2) rfl rfl (cs:=#[.int .i64 0,.slice none 0 0]) (t:=35) ?hr ?_);(case hr => first|(go_simp;done)|(go_simp;rfl));intro gb294 hg w2 hbox hb;have BK294:=Aside0.mk (hbox);have GW294:=gw0_ hg HB;have GE294:=GW294;replace HB:=hs0_ HB hb;clear hb hbox hg)|((with_reducible refine bev_ (N:=3) rfl rfl (cs:=#[.int .i64 0,.slice none 0 0]) (t:=35) ?hr ?_);(case hr => first|(go_simp;done)|(go_simp;rfl));intro gb295 hg w3 hbox hb;have BK295:=Aside0.mk (hbox);have GW295:=gw1_ hg HB GE294;have GE295:=GW295;replace HB:=hs1_ HB GE294 hb;have NB294_295:=nm_ hg BK294;have NB295_294:=nn_ hg BK294;replace BK294:=kc_ BK294 hb;clear hb hbox hg;have hnb4:=NB295_294.out;have hnc4:=NB294_295.out;obtain ⟨hcz5_0,hcz5_1,hfz5_0,hfz5_1⟩:=cf2_ BK295.out)))
 go_loopg [10] k (fun kq v10 w' => ∃ (x10_1 : Int) (x296001_1 : List Int) (u296001 : Value),v10 = .int .i64 x10_1 ∧ Aside0 (spec_l2Unit.l0 kq a0 (wrap64 (a0 * a0)) x10_1 a0 x296001_1 = some (r1,r2)) ∧ Aside0 (kq ≤ k) ∧ Aside0 (Kd.R (Kd.int .i64) 3 w' w.heap.size (fun _ => True) u296001 x296001_1) ∧ Aside0 (w'.heap[gb294]? = some (.cells #[.int .i64 0,(.slice none 0 0)] 35 (0,0))) ∧ Aside0 (w'.heap[gb295]? = some (.cells #[.int .i64 a0,u296001] 35 (0,0))) ∧ Aside0 (Below w.heap.size w w'))
 case atStart => exact ⟨(0),(([] : List Int)),(.slice none 0 0),rs_,H',⟨Nat.le_refl _⟩,⟨by first|exact Kd.R_nil _ _ _ _ _|exact Kd.N_nil _ _ _ _ _|exact Kd.V_nil _ _ _ _ _|exact Kd.Q_nil _ _ _ _ _|exact Kd.S_nil _ _ _ _ _⟩,⟨bf1_ BK294.out NB294_295.out⟩,⟨by refine pe_ ?_;refine blk_put (cs:=#[.int .i64 a0,.slice none 0 0]) ?_ 1 _ rfl;refine pe_ ?_;refine blk_put (cs:=#[.int .i64 0,.slice none 0 0]) ?_ 0 _ rfl;refine pe_ ?_;exact BK295.out⟩,⟨be2_ HB.out GE294.out GE295.out⟩⟩
 case round =>
  clear H'
  obtain ⟨x10_1,x296001_1,u296001,rfl,HA,HK1,HO_296001,BK294,BK295,HB⟩:=hrel
  cases gk with
  | zero => exact absurd HA.out (by simp [spec_l2Unit.l0])
  | succ k1 =>
   have H:=HA.out
   clear HA
   simp only [spec_l2Unit.l0] at H
   by_cases c6 : x10_1 < (wrap64 (a0 * a0))
   ·rw [if_pos c6] at H
    have c6b0 : decide (x10_1 < (wrap64 (a0 * a0))) = true:=decide_eq_true c6
    clear c6
    by_cases c7 : a0 = 0
    ·rw [if_pos c7] at H
     exact absurd H (by simp)
    ·rw [if_neg c7] at H
     have c7b0 : (a0 == 0) = false:=beq_eq_false_iff_ne.mpr c7
     have c7b1 : (a0 != 0) = true:=bne_iff_ne.mpr c7
     by_cases c8 : (wrap64 (Int.tdiv x10_1 a0)) = (Int.tmod x10_1 a0)
     ·rw [if_pos c8] at H
      have c8b0 : ((wrap64 (Int.tdiv x10_1 a0)) == (Int.tmod x10_1 a0)) = true:=beq_iff_eq.mpr c8
      have c8b1 : ((wrap64 (Int.tdiv x10_1 a0)) != (Int.tmod x10_1 a0)) = false:=bne_eq_false_iff_eq.mpr c8
      clear c8
      by_cases c9 : x296001_1.length < 17592186044416
      ·rw [if_pos c9] at H
       have LMc9:=Aside0.mk c9
       clear c9
       obtain ⟨y296,hy296⟩ : ∃ y_ : List Int,y_ = (x296001_1 ++ [0]):=⟨_,rfl⟩
       replace H : (spec_l2Unit.l0 k1 a0 (wrap64 (a0 * a0)) (wrap64 (x10_1 + 1)) a0 y296) = some (r1,r2):=by first|(rw [hy296];with_reducible exact H)|(have H2_:=(Option.bind_some _ _).symm.trans H;rw [hy296];with_reducible exact H2_)|(have H2_:=(Option.bind_some _ _).symm.trans H;with_reducible exact H2_)|with_reducible exact H|(rw [hy296];exact H)|exact H
       have Ny296:=Aside0.mk hy296
       clear hy296
       have H':=Aside0.mk H
       clear H
       have hnb10:=NB295_294.out
       have hnc10:=NB294_295.out
       obtain ⟨hcz11_0,hcz11_1,hfz11_0,hfz11_1⟩:=cf2_ BK295.out
       go_wp2_with (first|((with_reducible refine gate_builtin (b:=.append) (xs:=#[.tmp 21,.tmp 22]) rfl ?_);at_builtin;refine Kd.R_append (Kd.int .i64) (w0:=w) w.heap.size rfl (.tmp 21) (.tmp 22) 22 3 (.int .i64 0) 8 rfl Try.underlying22 info3 rfl (by decide) (by omega) u296001 x296001_1 0 [.int .i64 0] (fun _ => True) (fun _ => False) rfl rfl ?aP (fun _ hk => hk.elim) ?aF ?aO ?aB ?aS ?aL ?_;(case aP => exact rfl);(case aB => exact (be2_ HB.out GE294.out GE295.out));(case aF => exact (fun _ _ => trivial));(case aO => exact (pr_ HO_296001.out));(case aS => exact (below_size (be2_ HB.out GE294.out GE295.out)));(case aL => have:=LMc9.out;omega);intro v297 w12 ho hb hg hat;rw [← Ny296.out] at ho;replace BK294:=Aside0.mk (blk_grown (g:=gb294) (o:=.cells #[.int .i64 0,.slice none 0 0] 35 (0,0)) (pe_ BK294.out) hg (Kd.R_ne HO_296001.out BK294.out (by decide)));replace BK295:=Aside0.mk (blk_grown (g:=gb295) (o:=.cells #[.int .i64 a0,u296001] 35 (0,0)) (pe_ BK295.out) hg (Kd.R_ne HO_296001.out BK295.out (by decide)));replace HB:=Aside0.mk (hb);have HO298:=Aside0.mk (ho);clear HO_296001;clear ho hb hg hat;obtain ⟨Ao13,co13,eo13⟩:=Kd.R_slice HO298.out;subst eo13;obtain ⟨hcz14_0,hcz14_1,hfz14_0,hfz14_1⟩:=cf2_ BK295.out))
       repeat (go_quiet (first|((with_reducible refine gate_builtin (b:=.append) (xs:=#[.tmp 21,.tmp 22]) rfl ?_);at_builtin;refine Kd.R_append (Kd.int .i64) (w0:=w) w.heap.size rfl (.tmp 21) (.tmp 22) 22 3 (.int .i64 0) 8 rfl Try.underlying22 info3 rfl (by decide) (by omega) u296001 x296001_1 0 [.int .i64 0] (fun _ => True) (fun _ => False) rfl rfl ?aP (fun _ hk => hk.elim) ?aF ?aO ?aB ?aS ?aL ?_;(case aP => exact rfl);(case aB => exact (be2_ HB.out GE294.out GE295.out));(case aF => exact (fun _ _ => trivial));(case aO => exact (pr_ HO_296001.out));(case aS => exact (below_size (be2_ HB.out GE294.out GE295.out)));(case aL => have:=LMc9.out;omega);intro v297 w12 ho hb hg hat;rw [← Ny296.out] at ho;replace BK294:=Aside0.mk (blk_grown (g:=gb294) (o:=.cells #[.int .i64 0,.slice none 0 0] 35 (0,0)) (pe_ BK294.out) hg (Kd.R_ne HO_296001.out BK294.out (by decide)));replace BK295:=Aside0.mk (blk_grown (g:=gb295) (o:=.cells #[.int .i64 a0,u296001] 35 (0,0)) (pe_ BK295.out) hg (Kd.R_ne HO_296001.out BK295.out (by decide)));replace HB:=Aside0.mk (hb);have HO298:=Aside0.mk (ho);clear HO_296001;clear ho hb hg hat;obtain ⟨Ao13,co13,eo13⟩:=Kd.R_slice HO298.out;subst eo13;obtain ⟨hcz14_0,hcz14_1,hfz14_0,hfz14_1⟩:=cf2_ BK295.out));try go_wp2_with (first|((with_reducible refine gate_builtin (b:=.append) (xs:=#[.tmp 21,.tmp 22]) rfl ?_);at_builtin;refine Kd.R_append (Kd.int .i64) (w0:=w) w.heap.size rfl (.tmp 21) (.tmp 22) 22 3 (.int .i64 0) 8 rfl Try.underlying22 info3 rfl (by decide) (by omega) u296001 x296001_1 0 [.int .i64 0] (fun _ => True) (fun _ => False) rfl rfl ?aP (fun _ hk => hk.elim) ?aF ?aO ?aB ?aS ?aL ?_;(case aP => exact rfl);(case aB => exact (be2_ HB.out GE294.out GE295.out));(case aF => exact (fun _ _ => trivial));(case aO => exact (pr_ HO_296001.out));(case aS => exact (below_size (be2_ HB.out GE294.out GE295.out)));(case aL => have:=LMc9.out;omega);intro v297 w12 ho hb hg hat;rw [← Ny296.out] at ho;replace BK294:=Aside0.mk (blk_grown (g:=gb294) (o:=.cells #[.int .i64 0,.slice none 0 0] 35 (0,0)) (pe_ BK294.out) hg (Kd.R_ne HO_296001.out BK294.out (by decide)));replace BK295:=Aside0.mk (blk_grown (g:=gb295) (o:=.cells #[.int .i64 a0,u296001] 35 (0,0)) (pe_ BK295.out) hg (Kd.R_ne HO_296001.out BK295.out (by decide)));replace HB:=Aside0.mk (hb);have HO298:=Aside0.mk (ho);clear HO_296001;clear ho hb hg hat;obtain ⟨Ao13,co13,eo13⟩:=Kd.R_slice HO298.out;subst eo13;obtain ⟨hcz14_0,hcz14_1,hfz14_0,hfz14_1⟩:=cf2_ BK295.out)))
       go_roundg k1
       case measure => have:=HK1.out;omega
       case rel => exact ⟨(wrap64 (x10_1 + 1)),(y296),(.slice Ao13 y296.length co13),rs_,H',⟨by have:=HK1.out;omega⟩,⟨by refine pr_ ?_;exact Kd.R_mono (Kd.R_far (p:=⟨gb295,1,none⟩) (Kd.R_types HO298.out BK295.out (by decide)) (fun _ hk => hk.2) (.slice Ao13 y296.length co13)) (fun _ hk => trivial)⟩,⟨bf1_ BK294.out NB294_295.out⟩,⟨by refine pe_ ?_;refine blk_put (cs:=#[.int .i64 a0,u296001]) ?_ 1 _ rfl;refine pe_ ?_;exact BK295.out⟩,⟨be2_ HB.out GE294.out GE295.out⟩⟩
      ·rw [if_neg c9] at H
       exact absurd H (by simp)
     ·rw [if_neg c8] at H
      have c8b0 : ((wrap64 (Int.tdiv x10_1 a0)) == (Int.tmod x10_1 a0)) = false:=beq_eq_false_iff_ne.mpr c8
      have c8b1 : ((wrap64 (Int.tdiv x10_1 a0)) != (Int.tmod x10_1 a0)) = true:=bne_iff_ne.mpr c8
      by_cases c15 : x296001_1.length < 17592186044416
      ·rw [if_pos c15] at H
       have LMc15:=Aside0.mk c15
       clear c15
       obtain ⟨y299,hy299⟩ : ∃ y_ : List Int,y_ = (x296001_1 ++ [1000000]):=⟨_,rfl⟩
       replace H : (spec_l2Unit.l0 k1 a0 (wrap64 (a0 * a0)) (wrap64 (x10_1 + 1)) a0 y299) = some (r1,r2):=by first|(rw [hy299];with_reducible exact H)|(have H2_:=(Option.bind_some _ _).symm.trans H;rw [hy299];with_reducible exact H2_)|(have H2_:=(Option.bind_some _ _).symm.trans H;with_reducible exact H2_)|with_reducible exact H|(rw [hy299];exact H)|exact H
       have Ny299:=Aside0.mk hy299
       clear hy299
       have H':=Aside0.mk H
       clear H
       have hnb16:=NB295_294.out
       have hnc16:=NB294_295.out
       obtain ⟨hcz17_0,hcz17_1,hfz17_0,hfz17_1⟩:=cf2_ BK295.out
       go_wp2_with (first|((with_reducible refine gate_builtin (b:=.append) (xs:=#[.tmp 26,.tmp 27]) rfl ?_);at_builtin;refine Kd.R_append (Kd.int .i64) (w0:=w) w.heap.size rfl (.tmp 26) (.tmp 27) 22 3 (.int .i64 0) 8 rfl Try.underlying22 info3 rfl (by decide) (by omega) u296001 x296001_1 1000000 [.int .i64 1000000] (fun _ => True) (fun _ => False) rfl rfl ?aP (fun _ hk => hk.elim) ?aF ?aO ?aB ?aS ?aL ?_;(case aP => exact rfl);(case aB => exact (be2_ HB.out GE294.out GE295.out));(case aF => exact (fun _ _ => trivial));(case aO => exact (pr_ HO_296001.out));(case aS => exact (below_size (be2_ HB.out GE294.out GE295.out)));(case aL => have:=LMc15.out;omega);intro v300 w18 ho hb hg hat;rw [← Ny299.out] at ho;replace BK294:=Aside0.mk (blk_grown (g:=gb294) (o:=.cells #[.int .i64 0,.slice none 0 0] 35 (0,0)) (pe_ BK294.out) hg (Kd.R_ne HO_296001.out BK294.out (by decide)));replace BK295:=Aside0.mk (blk_grown (g:=gb295) (o:=.cells #[.int .i64 a0,u296001] 35 (0,0)) (pe_ BK295.out) hg (Kd.R_ne HO_296001.out BK295.out (by decide)));replace HB:=Aside0.mk (hb);have HO301:=Aside0.mk (ho);clear HO_296001;clear ho hb hg hat;obtain ⟨Ao19,co19,eo19⟩:=Kd.R_slice HO301.out;subst eo19;obtain ⟨hcz20_0,hcz20_1,hfz20_0,hfz20_1⟩:=cf2_ BK295.out))
       repeat (go_quiet (first|((with_reducible refine gate_builtin (b:=.append) (xs:=#[.tmp 26,.tmp 27]) rfl ?_);at_builtin;refine Kd.R_append (Kd.int .i64) (w0:=w) w.heap.size rfl (.tmp 26) (.tmp 27) 22 3 (.int .i64 0) 8 rfl Try.underlying22 info3 rfl (by decide) (by omega) u296001 x296001_1 1000000 [.int .i64 1000000] (fun _ => True) (fun _ => False) rfl rfl ?aP (fun _ hk => hk.elim) ?aF ?aO ?aB ?aS ?aL ?_;(case aP => exact rfl);(case aB => exact (be2_ HB.out GE294.out GE295.out));(case aF => exact (fun _ _ => trivial));(case aO => exact (pr_ HO_296001.out));(case aS => exact (below_size (be2_ HB.out GE294.out GE295.out)));(case aL => have:=LMc15.out;omega);intro v300 w18 ho hb hg hat;rw [← Ny299.out] at ho;replace BK294:=Aside0.mk (blk_grown (g:=gb294) (o:=.cells #[.int .i64 0,.slice none 0 0] 35 (0,0)) (pe_ BK294.out) hg (Kd.R_ne HO_296001.out BK294.out (by decide)));replace BK295:=Aside0.mk (blk_grown (g:=gb295) (o:=.cells #[.int .i64 a0,u296001] 35 (0,0)) (pe_ BK295.out) hg (Kd.R_ne HO_296001.out BK295.out (by decide)));replace HB:=Aside0.mk (hb);have HO301:=Aside0.mk (ho);clear HO_296001;clear ho hb hg hat;obtain ⟨Ao19,co19,eo19⟩:=Kd.R_slice HO301.out;subst eo19;obtain ⟨hcz20_0,hcz20_1,hfz20_0,hfz20_1⟩:=cf2_ BK295.out));try go_wp2_with (first|((with_reducible refine gate_builtin (b:=.append) (xs:=#[.tmp 26,.tmp 27]) rfl ?_);at_builtin;refine Kd.R_append (Kd.int .i64) (w0:=w) w.heap.size rfl (.tmp 26) (.tmp 27) 22 3 (.int .i64 0) 8 rfl Try.underlying22 info3 rfl (by decide) (by omega) u296001 x296001_1 1000000 [.int .i64 1000000] (fun _ => True) (fun _ => False) rfl rfl ?aP (fun _ hk => hk.elim) ?aF ?aO ?aB ?aS ?aL ?_;(case aP => exact rfl);(case aB => exact (be2_ HB.out GE294.out GE295.out));(case aF => exact (fun _ _ => trivial));(case aO => exact (pr_ HO_296001.out));(case aS => exact (below_size (be2_ HB.out GE294.out GE295.out)));(case aL => have:=LMc15.out;omega);intro v300 w18 ho hb hg hat;rw [← Ny299.out] at ho;replace BK294:=Aside0.mk (blk_grown (g:=gb294) (o:=.cells #[.int .i64 0,.slice none 0 0] 35 (0,0)) (pe_ BK294.out) hg (Kd.R_ne HO_296001.out BK294.out (by decide)));replace BK295:=Aside0.mk (blk_grown (g:=gb295) (o:=.cells #[.int .i64 a0,u296001] 35 (0,0)) (pe_ BK295.out) hg (Kd.R_ne HO_296001.out BK295.out (by decide)));replace HB:=Aside0.mk (hb);have HO301:=Aside0.mk (ho);clear HO_296001;clear ho hb hg hat;obtain ⟨Ao19,co19,eo19⟩:=Kd.R_slice HO301.out;subst eo19;obtain ⟨hcz20_0,hcz20_1,hfz20_0,hfz20_1⟩:=cf2_ BK295.out)))
       go_roundg k1
       case measure => have:=HK1.out;omega
       case rel => exact ⟨(wrap64 (x10_1 + 1)),(y299),(.slice Ao19 y299.length co19),rs_,H',⟨by have:=HK1.out;omega⟩,⟨by refine pr_ ?_;exact Kd.R_mono (Kd.R_far (p:=⟨gb295,1,none⟩) (Kd.R_types HO301.out BK295.out (by decide)) (fun _ hk => hk.2) (.slice Ao19 y299.length co19)) (fun _ hk => trivial)⟩,⟨bf1_ BK294.out NB294_295.out⟩,⟨by refine pe_ ?_;refine blk_put (cs:=#[.int .i64 a0,u296001]) ?_ 1 _ rfl;refine pe_ ?_;exact BK295.out⟩,⟨be2_ HB.out GE294.out GE295.out⟩⟩
      ·rw [if_neg c15] at H
       exact absurd H (by simp)
   ·rw [if_neg c6] at H
    have c6b0 : decide (x10_1 < (wrap64 (a0 * a0))) = false:=decide_eq_false c6
    clear c6
    simp only [Option.some.injEq,Prod.mk.injEq] at H
    obtain ⟨rfl,rfl⟩:=H
    have hnb21:=NB295_294.out
    have hnc21:=NB294_295.out
    obtain ⟨hcz22_0,hcz22_1,hfz22_0,hfz22_1⟩:=cf2_ BK295.out
    obtain ⟨hcz23_0,hcz23_1,hfz23_0,hfz23_1⟩:=cf2_ BK294.out
    obtain ⟨Ao24,co24,eo24⟩:=Kd.R_slice HO_296001.out
    subst eo24
    go_wp2
    repeat (go_quiet (fail);try go_wp2)
    refine bodyPost_ret (results_cell_row rfl _ _ gb294 35 #[.int .i64 a0,.slice Ao24 x296001_1.length co24] (0,0) _ rfl (by refine pe_ ?_;refine blk_put (cs:=#[.int .i64 a0,.slice none 0 0]) ?_ 1 _ rfl;refine pe_ ?_;refine blk_put (cs:=#[.int .i64 0,.slice none 0 0]) ?_ 0 _ rfl;refine pe_ ?_;exact BK294.out) Try.underlying35 rfl (by kernel_rfl)) rfl ?_
    exact ⟨_,er_,by refine pr_ ?_;exact Kd.R_mono (Kd.R_far (p:=⟨gb294,1,none⟩) (Kd.R_far (p:=⟨gb294,0,none⟩) (Kd.R_types HO_296001.out BK294.out (by decide)) (fun _ hk => hk.2) (.int .i64 a0)) (fun _ hk => hk.2) (.slice Ao24 x296001_1.length co24)) (fun _ hk => trivial),be2_ HB.out GE294.out GE295.out⟩
mutual
def spec_l3Matrix.l0 : Nat → ByteArray → Int → Int → Int → List Int → List Int → List (S92) → Int → List Int → Option (Int × List Int)
 | 0,_,_,_,_,_,_,_,_,_ => none
 | k + 1,x1,x15,x16,x303000,x303001,x303002,x303003,x305000,x305001 => if x16 < x15 then (if x305001.length < 17592186044416 then (spec_l3Matrix.l0 k x1 x15 (wrap64 (x16 + 1)) x303000 x303001 x303002 x303003 x305000 (x305001 ++ [1000000])) else (none)) else (spec_l3Matrix.l1 k x1 x303003 (x303003.length : Int) 0 x303000 x303001 x303002 x303003 x305000 x305001)
def spec_l3Matrix.l1 : Nat → ByteArray → List (S92) → Int → Int → Int → List Int → List Int → List (S92) → Int → List Int → Option (Int × List Int)
 | 0,_,_,_,_,_,_,_,_,_,_ => none
 | k + 1,x1,x25,x26,x27,x303000,x303001,x303002,x303003,x305000,x305001 => if x27 < x26 then (if 0 ≤ x27 then (if x27 < (x25.length : Int) then (if ((rd_T92 x25 x27).f1).toList = x1.toList then (if 0 ≤ (wrap64 ((wrap64 (((rd_T92 x25 x27).f0) * x303000)) + ((rd_T92 x25 x27).f2))) then (if (wrap64 ((wrap64 (((rd_T92 x25 x27).f0) * x303000)) + ((rd_T92 x25 x27).f2))) < (x305001.length : Int) then (spec_l3Matrix.l1 k x1 x25 x26 (wrap64 (x27 + 1)) x303000 x303001 x303002 x303003 x305000 (x305001.set ((wrap64 ((wrap64 (((rd_T92 x25 x27).f0) * x303000)) + ((rd_T92 x25 x27).f2))) : Int).toNat ((rd_T92 x25 x27).f3))) else (none)) else (none)) else (spec_l3Matrix.l1 k x1 x25 x26 (wrap64 (x27 + 1)) x303000 x303001 x303002 x303003 x305000 x305001)) else (none)) else (none)) else (some (x305000,x305001))
end
def spec_l3Matrix.f (k : Nat) (a0_0 : Int) (l0_1 : List Int) (l0_2 : List Int) (l0_3 : List (S92)) (a1 : ByteArray) : Option (Int × List Int):=spec_l3Matrix.l0 k a1 (wrap64 (a0_0 * a0_0)) 0 a0_0 l0_1 l0_2 l0_3 a0_0 ([] : List Int)
theorem spec_l3Matrix.mono_l : ∀ k,(∀ y0 y1 y2 y3 y4 y5 y6 y7 y8,LeO (spec_l3Matrix.l0 k y0 y1 y2 y3 y4 y5 y6 y7 y8) (spec_l3Matrix.l0 (k + 1) y0 y1 y2 y3 y4 y5 y6 y7 y8)) ∧ (∀ y0 y1 y2 y3 y4 y5 y6 y7 y8 y9,LeO (spec_l3Matrix.l1 k y0 y1 y2 y3 y4 y5 y6 y7 y8 y9) (spec_l3Matrix.l1 (k + 1) y0 y1 y2 y3 y4 y5 y6 y7 y8 y9))
 | 0 => ⟨fun _ _ _ _ _ _ _ _ _ r h => by simp [spec_l3Matrix.l0] at h,fun _ _ _ _ _ _ _ _ _ _ r h => by simp [spec_l3Matrix.l1] at h⟩
 | k + 1 => by
  obtain ⟨ih0,ih1⟩:=spec_l3Matrix.mono_l k
  refine ⟨?_,?_⟩
  ·intro y0 y1 y2 y3 y4 y5 y6 y7 y8
   unfold spec_l3Matrix.l0
   repeat' first
   | (with_reducible exact ih0 _ _ _ _ _ _ _ _ _)
   | (with_reducible exact ih1 _ _ _ _ _ _ _ _ _ _)
   | (with_reducible first|exact LeO.refl _|exact LeO.none _|refine LeO.ite ?_ ?_|refine LeO.bind ?_ (fun _ => ?_))
   | exact ih0 _ _ _ _ _ _ _ _ _
   | exact ih1 _ _ _ _ _ _ _ _ _ _
   | exact LeO.none _
   | refine LeO.ite ?_ ?_
   | refine LeO.bind ?_ (fun _ => ?_)
  ·intro y0 y1 y2 y3 y4 y5 y6 y7 y8 y9
   unfold spec_l3Matrix.l1
   repeat' first
   | (with_reducible exact ih0 _ _ _ _ _ _ _ _ _)
   | (with_reducible exact ih1 _ _ _ _ _ _ _ _ _ _)
   | (with_reducible first|exact LeO.refl _|exact LeO.none _|refine LeO.ite ?_ ?_|refine LeO.bind ?_ (fun _ => ?_))
   | exact ih0 _ _ _ _ _ _ _ _ _
   | exact ih1 _ _ _ _ _ _ _ _ _ _
   | exact LeO.none _
   | refine LeO.ite ?_ ?_
   | refine LeO.bind ?_ (fun _ => ?_)
theorem spec_l3Matrix.mono : ∀ a0 a1 a2 a3 a4 k,LeO (spec_l3Matrix.f k a0 a1 a2 a3 a4) (spec_l3Matrix.f (k + 1) a0 a1 a2 a3 a4):=by
 intro a0 a1 a2 a3 a4 k
 obtain ⟨ih0,ih1⟩:=spec_l3Matrix.mono_l k
 unfold spec_l3Matrix.f
 repeat' first
   | (with_reducible exact ih0 _ _ _ _ _ _ _ _ _)
   | (with_reducible exact ih1 _ _ _ _ _ _ _ _ _ _)
   | (with_reducible first|exact LeO.refl _|exact LeO.none _|refine LeO.ite ?_ ?_|refine LeO.bind ?_ (fun _ => ?_))
   | exact ih0 _ _ _ _ _ _ _ _ _
   | exact ih1 _ _ _ _ _ _ _ _ _ _
   | exact LeO.none _
   | refine LeO.ite ?_ ?_
   | refine LeO.bind ?_ (fun _ => ?_)
set_option maxHeartbeats 8000000 in
set_option maxRecDepth 100000 in
theorem spec_l3Matrix.calls (k : Nat) (a0_0 : Int) (A0_1 : Option Addr) (c0_1 : Nat) (l0_1 : List Int) (A0_2 : Option Addr) (c0_2 : Nat) (l0_2 : List Int) (A0_3 : Option Addr) (c0_3 : Nat) (l0_3 : List (S92)) (a1 : ByteArray) (r1 : Int) (r2 : List Int) (w : World) (hr0_1 : Kd.C (Kd.int .i64) w A0_1 l0_1.length l0_1) (hc0_1 : l0_1.length ≤ c0_1) (hr0_2 : Kd.C (Kd.int .i64) w A0_2 l0_2.length l0_2) (hc0_2 : l0_2.length ≤ c0_2) (hr0_3 : Kd.C k92 w A0_3 l0_3.length l0_3) (hc0_3 : l0_3.length ≤ c0_3) (h : spec_l3Matrix.f k a0_0 l0_1 l0_2 l0_3 a1 = some (r1,r2)) :
  Calls Try.prog 132 #[.agg #[.int .i64 a0_0,.slice A0_1 l0_1.length c0_1,.slice A0_2 l0_2.length c0_2,.slice A0_3 l0_3.length c0_3],.string a1] w fun e w' => ∃ v1_ : Value,e = .returned (.agg #[.int .i64 r1,v1_]) ∧ Kd.R (Kd.int .i64) 3 w' w.heap.size (fun _ => True) v1_ r2 ∧ Below w.heap.size w w':=by
 have hu33:=Try.underlying33
 have hu35:=Try.underlying35
 have hu92:=Try.underlying92
 have HR0_1:=Aside0.mk hr0_1
 have HC0_1:=Aside0.mk hc0_1
 clear hr0_1 hc0_1
 have HR0_2:=Aside0.mk hr0_2
 have HC0_2:=Aside0.mk hc0_2
 clear hr0_2 hc0_2
 have HR0_3:=Aside0.mk hr0_3
 have HC0_3:=Aside0.mk hc0_3
 clear hr0_3 hc0_3
 have HB:=Aside0.mk (Below.refl w.heap.size w)
 have H : (spec_l3Matrix.l0 k a1 (wrap64 (a0_0 * a0_0)) 0 a0_0 l0_1 l0_2 l0_3 a0_0 ([] : List Int)) = some (r1,r2):=h
 clear h
 have H':=Aside0.mk H
 clear H
 go_enter Try.func132,Try.ntmps132
 go_wp2_with (first|((with_reducible refine bev_ (N:=2) rfl rfl (cs:=#[.int .i64 a0_0,.slice A0_1 l0_1.length c0_1,.slice A0_2 l0_2.length c0_2,.slice A0_3 l0_3.length c0_3]) (t:=33) ?hr ?_);(case hr => first|(go_simp;done)|(go_simp;rfl));intro gb302 hg w3 hbox hb;have BK302:=Aside0.mk (hbox);have GW302:=gw0_ hg HB;have GE302:=GW302;replace HB:=hs0_ HB hb;clear hb hbox hg)|((with_reducible refine bev_ (N:=4) rfl rfl (cs:=#[.int .i64 0,.slice none 0 0]) (t:=35) ?hr ?_);(case hr => first|(go_simp;done)|(go_simp;rfl));intro gb303 hg w4 hbox hb;have BK303:=Aside0.mk (hbox);have GW303:=gw1_ hg HB GE302;have GE303:=GW303;replace HB:=hs1_ HB GE302 hb;have NB302_303:=nm_ hg BK302;have NB303_302:=nn_ hg BK302;replace BK302:=kc_ BK302 hb;clear hb hbox hg;have hnb5:=NB302_303.out;have hnc5:=NB303_302.out;obtain ⟨hcz6_0,hcz6_1,hcz6_2,hcz6_3,hfz6_0,hfz6_1,hfz6_2,hfz6_3⟩:=cf4_ BK302.out)|((with_reducible refine bev_ (N:=5) rfl rfl (cs:=#[.int .i64 0,.slice none 0 0]) (t:=35) ?hr ?_);(case hr => first|(go_simp;done)|(go_simp;rfl));intro gb304 hg w7 hbox hb;have BK304:=Aside0.mk (hbox);have GW304:=gw2_ hg HB GE302 GE303;have GE304:=GW304;replace HB:=hs2_ HB GE302 GE303 hb;have NB302_304:=nm_ hg BK302;have NB304_302:=nn_ hg BK302;replace BK302:=kc_ BK302 hb;have NB303_304:=nm_ hg BK303;have NB304_303:=nn_ hg BK303;replace BK303:=kc_ BK303 hb;clear hb hbox hg;have hnb8:=NB304_302.out;have hnc8:=NB302_304.out;have hnb9:=NB304_303.out;have hnc9:=NB303_304.out;obtain ⟨hcz10_0,hcz10_1,hfz10_0,hfz10_1⟩:=cf2_ BK304.out;obtain ⟨hcz11_0,hcz11_1,hcz11_2,hcz11_3,hfz11_0,hfz11_1,hfz11_2,hfz11_3⟩:=cf4_ BK302.out))
 go_loopg [16] k (fun kq v16 w' => ∃ (x16_1 : Int) (x305001_1 : List Int) (u305001 : Value),v16 = .int .i64 x16_1 ∧ Aside0 (spec_l3Matrix.l0 kq a1 (wrap64 (a0_0 * a0_0)) x16_1 a0_0 l0_1 l0_2 l0_3 a0_0 x305001_1 = some (r1,r2)) ∧ Aside0 (kq ≤ k) ∧ Aside0 (Kd.R (Kd.int .i64) 3 w' w.heap.size (fun _ => True) u305001 x305001_1) ∧ Aside0 (w'.heap[gb302]? = some (.cells #[.int .i64 a0_0,(.slice A0_1 l0_1.length c0_1),(.slice A0_2 l0_2.length c0_2),(.slice A0_3 l0_3.length c0_3)] 33 (0,0))) ∧ Aside0 (w'.heap[gb303]? = some (.cells #[.int .i64 0,(.slice none 0 0)] 35 (0,0))) ∧ Aside0 (w'.heap[gb304]? = some (.cells #[.int .i64 a0_0,u305001] 35 (0,0))) ∧ Aside0 (Below w.heap.size w w'))
 case atStart => exact ⟨(0),(([] : List Int)),(.slice none 0 0),rs_,H',⟨Nat.le_refl _⟩,⟨by first|exact Kd.R_nil _ _ _ _ _|exact Kd.N_nil _ _ _ _ _|exact Kd.V_nil _ _ _ _ _|exact Kd.Q_nil _ _ _ _ _|exact Kd.S_nil _ _ _ _ _⟩,⟨bf1_ BK302.out NB302_304.out⟩,⟨bf1_ BK303.out NB303_304.out⟩,⟨by refine pe_ ?_;refine blk_put (cs:=#[.int .i64 a0_0,.slice none 0 0]) ?_ 1 _ rfl;refine pe_ ?_;refine blk_put (cs:=#[.int .i64 0,.slice none 0 0]) ?_ 0 _ rfl;refine pe_ ?_;exact BK304.out⟩,⟨be3_ HB.out GE302.out GE303.out GE304.out⟩⟩
 case round =>
  clear H'
  obtain ⟨x16_1,x305001_1,u305001,rfl,HA,HK1,HO_305001,BK302,BK303,BK304,HB⟩:=hrel
  cases gk with
  | zero => exact absurd HA.out (by simp [spec_l3Matrix.l0])
  | succ k1 =>
   have H:=HA.out
   clear HA
   simp only [spec_l3Matrix.l0] at H
   by_cases c12 : x16_1 < (wrap64 (a0_0 * a0_0))
   ·rw [if_pos c12] at H
    have c12b0 : decide (x16_1 < (wrap64 (a0_0 * a0_0))) = true:=decide_eq_true c12
    clear c12
    by_cases c13 : x305001_1.length < 17592186044416
    ·rw [if_pos c13] at H
     have LMc13:=Aside0.mk c13
     clear c13
     obtain ⟨y305,hy305⟩ : ∃ y_ : List Int,y_ = (x305001_1 ++ [1000000]):=⟨_,rfl⟩
     replace H : (spec_l3Matrix.l0 k1 a1 (wrap64 (a0_0 * a0_0)) (wrap64 (x16_1 + 1)) a0_0 l0_1 l0_2 l0_3 a0_0 y305) = some (r1,r2):=by first|(rw [hy305];with_reducible exact H)|(have H2_:=(Option.bind_some _ _).symm.trans H;rw [hy305];with_reducible exact H2_)|(have H2_:=(Option.bind_some _ _).symm.trans H;with_reducible exact H2_)|with_reducible exact H|(rw [hy305];exact H)|exact H
     have Ny305:=Aside0.mk hy305
     clear hy305
     have H':=Aside0.mk H
     clear H
     have hnb14:=NB304_302.out
     have hnc14:=NB302_304.out
     have hnb15:=NB304_303.out
     have hnc15:=NB303_304.out
     obtain ⟨hcz16_0,hcz16_1,hfz16_0,hfz16_1⟩:=cf2_ BK304.out
     go_wp2_with (first|((with_reducible refine gate_builtin (b:=.append) (xs:=#[.tmp 19,.tmp 20]) rfl ?_);at_builtin;refine Kd.R_append (Kd.int .i64) (w0:=w) w.heap.size rfl (.tmp 19) (.tmp 20) 22 3 (.int .i64 0) 8 rfl Try.underlying22 info3 rfl (by decide) (by omega) u305001 x305001_1 1000000 [.int .i64 1000000] (fun _ => True) (fun _ => False) rfl rfl ?aP (fun _ hk => hk.elim) ?aF ?aO ?aB ?aS ?aL ?_;(case aP => exact rfl);(case aB => exact (be3_ HB.out GE302.out GE303.out GE304.out));(case aF => exact (fun _ _ => trivial));(case aO => exact (pr_ HO_305001.out));(case aS => exact (below_size (be3_ HB.out GE302.out GE303.out GE304.out)));(case aL => have:=LMc13.out;omega);intro v306 w17 ho hb hg hat;rw [← Ny305.out] at ho;replace BK302:=Aside0.mk (blk_grown (g:=gb302) (o:=.cells #[.int .i64 a0_0,.slice A0_1 l0_1.length c0_1,.slice A0_2 l0_2.length c0_2,.slice A0_3 l0_3.length c0_3] 33 (0,0)) (pe_ BK302.out) hg (Kd.R_ne HO_305001.out BK302.out (by decide)));replace BK303:=Aside0.mk (blk_grown (g:=gb303) (o:=.cells #[.int .i64 0,.slice none 0 0] 35 (0,0)) (pe_ BK303.out) hg (Kd.R_ne HO_305001.out BK303.out (by decide)));replace BK304:=Aside0.mk (blk_grown (g:=gb304) (o:=.cells #[.int .i64 a0_0,u305001] 35 (0,0)) (pe_ BK304.out) hg (Kd.R_ne HO_305001.out BK304.out (by decide)));replace HB:=Aside0.mk (hb);have HO307:=Aside0.mk (ho);clear HO_305001;clear ho hb hg hat;obtain ⟨Ao18,co18,eo18⟩:=Kd.R_slice HO307.out;subst eo18;obtain ⟨hcz19_0,hcz19_1,hfz19_0,hfz19_1⟩:=cf2_ BK304.out))
     go_roundg k1
     case measure => have:=HK1.out;omega
     case rel => exact ⟨(wrap64 (x16_1 + 1)),(y305),(.slice Ao18 y305.length co18),rs_,H',⟨by have:=HK1.out;omega⟩,⟨by refine pr_ ?_;exact Kd.R_mono (Kd.R_far (p:=⟨gb304,1,none⟩) (Kd.R_types HO307.out BK304.out (by decide)) (fun _ hk => hk.2) (.slice Ao18 y305.length co18)) (fun _ hk => trivial)⟩,⟨bf1_ BK302.out NB302_304.out⟩,⟨bf1_ BK303.out NB303_304.out⟩,⟨by refine pe_ ?_;refine blk_put (cs:=#[.int .i64 a0_0,u305001]) ?_ 1 _ rfl;refine pe_ ?_;exact BK304.out⟩,⟨be3_ HB.out GE302.out GE303.out GE304.out⟩⟩
    ·rw [if_neg c13] at H
     exact absurd H (by simp)
   ·rw [if_neg c12] at H
    have c12b0 : decide (x16_1 < (wrap64 (a0_0 * a0_0))) = false:=decide_eq_false c12
    clear c12
    have H':=Aside0.mk H
    clear H
    have hnb20:=NB302_303.out
    have hnc20:=NB303_302.out
    have hnb21:=NB302_304.out
    have hnc21:=NB304_302.out
    obtain ⟨hcz22_0,hcz22_1,hcz22_2,hcz22_3,hfz22_0,hfz22_1,hfz22_2,hfz22_3⟩:=cf4_ BK302.out
    go_wp2
    go_loopg [27] k1 (fun kq v27 w' => ∃ (x27_2 : Int) (x305001_2 : List Int) (u305001 : Value),v27 = .int .i64 x27_2 ∧ Aside0 (spec_l3Matrix.l1 kq a1 l0_3 (l0_3.length : Int) x27_2 a0_0 l0_1 l0_2 l0_3 a0_0 x305001_2 = some (r1,r2)) ∧ Aside0 (kq ≤ k1) ∧ Aside0 (Kd.R (Kd.int .i64) 3 w' w.heap.size (fun _ => True) u305001 x305001_2) ∧ Aside0 (w'.heap[gb302]? = some (.cells #[.int .i64 a0_0,(.slice A0_1 l0_1.length c0_1),(.slice A0_2 l0_2.length c0_2),(.slice A0_3 l0_3.length c0_3)] 33 (0,0))) ∧ Aside0 (w'.heap[gb303]? = some (.cells #[.int .i64 0,(.slice none 0 0)] 35 (0,0))) ∧ Aside0 (w'.heap[gb304]? = some (.cells #[.int .i64 a0_0,u305001] 35 (0,0))) ∧ Aside0 (Below w.heap.size w w'))
    case atStart => exact ⟨(0),(x305001_1),(u305001),rs_,H',⟨Nat.le_refl _⟩,⟨pr_ HO_305001.out⟩,⟨pe_ BK302.out⟩,⟨pe_ BK303.out⟩,⟨pe_ BK304.out⟩,⟨be3_ HB.out GE302.out GE303.out GE304.out⟩⟩
    case round =>
     clear H'
     obtain ⟨x27_2,x305001_2,u305001,rfl,HA,HK2,HO_305001,BK302,BK303,BK304,HB⟩:=hrel
     cases gk with
     | zero => exact absurd HA.out (by simp [spec_l3Matrix.l1])
     | succ k2 =>
      have H:=HA.out
      clear HA
      simp only [spec_l3Matrix.l1] at H
      by_cases c23 : x27_2 < (l0_3.length : Int)
      ·rw [if_pos c23] at H
       have c23b0 : decide (x27_2 < (l0_3.length : Int)) = true:=decide_eq_true c23
       clear c23
       by_cases c24 : 0 ≤ x27_2
       ·rw [if_pos c24] at H
        have c24b0 : decide (0 ≤ x27_2) = true:=decide_eq_true c24
        clear c24
        by_cases c25 : x27_2 < (l0_3.length : Int)
        ·rw [if_pos c25] at H
         have c25b0 : decide (x27_2 < (l0_3.length : Int)) = true:=decide_eq_true c25
         clear c25
         by_cases c26 : ((rd_T92 l0_3 x27_2).f1).toList = a1.toList
         ·rw [if_pos c26] at H
          have c26b0 : (((rd_T92 l0_3 x27_2).f1).toList == a1.toList) = true:=beq_iff_eq.mpr c26
          have c26b1 : (((rd_T92 l0_3 x27_2).f1).toList != a1.toList) = false:=bne_eq_false_iff_eq.mpr c26
          clear c26
          obtain ⟨ji27,hji27⟩ : ∃ j_ : Int,(wrap64 ((wrap64 (((rd_T92 l0_3 x27_2).f0) * a0_0)) + ((rd_T92 l0_3 x27_2).f2))) = j_:=⟨_,rfl⟩
          replace H : (if 0 ≤ (ji27) then (if (ji27) < (x305001_2.length : Int) then (spec_l3Matrix.l1 k2 a1 l0_3 (l0_3.length : Int) (wrap64 (x27_2 + 1)) a0_0 l0_1 l0_2 l0_3 a0_0 (x305001_2.set ((ji27) : Int).toNat ((rd_T92 l0_3 x27_2).f3))) else (none)) else (none)) = some (r1,r2):=by first|(rw [hji27] at H;exact H)|(simp only [hji27] at H ⊢;exact H)
          have hji27w : (IntKind.i64.wrap ((wrap64 (((rd_T92 l0_3 x27_2).f0) * a0_0)) + ((rd_T92 l0_3 x27_2).f2))) = ji27:=(i64_w _).trans hji27
          by_cases c28 : 0 ≤ (ji27)
          ·rw [if_pos c28] at H
           have c28b0 : decide (0 ≤ (ji27)) = true:=decide_eq_true c28
           clear c28
           by_cases c29 : (ji27) < (x305001_2.length : Int)
           ·rw [if_pos c29] at H
            have c29b0 : decide ((ji27) < (x305001_2.length : Int)) = true:=decide_eq_true c29
            clear c29
            obtain ⟨y310,hy310⟩ : ∃ y_ : List Int,y_ = (x305001_2.set ((ji27) : Int).toNat ((rd_T92 l0_3 x27_2).f3)):=⟨_,rfl⟩
            replace H : (spec_l3Matrix.l1 k2 a1 l0_3 (l0_3.length : Int) (wrap64 (x27_2 + 1)) a0_0 l0_1 l0_2 l0_3 a0_0 y310) = some (r1,r2):=by first|(rw [hy310];with_reducible exact H)|(have H2_:=(Option.bind_some _ _).symm.trans H;rw [hy310];with_reducible exact H2_)|(have H2_:=(Option.bind_some _ _).symm.trans H;with_reducible exact H2_)|with_reducible exact H|(rw [hy310];exact H)|exact H
            have Ny310:=Aside0.mk hy310
            clear hy310
            have H':=Aside0.mk H
            clear H
            have p308 : 0 ≤ (x27_2 : Int):=od_
            have q308 : x27_2 < (l0_3.length : Int):=od_
            obtain ⟨ad308,e308,hx308_0,hx308_1,hx308_2,hx308_3⟩:=at_T92 HR0_3.out x27_2 p308 q308
            cases e308
            replace hx308_0:=hbc_ HB.out hx308_0
            replace hx308_1:=hbc_ HB.out hx308_1
            replace hx308_2:=hbc_ HB.out hx308_2
            replace hx308_3:=hbc_ HB.out hx308_3
            replace p308:=eq_true p308
            replace q308:=eq_true q308
            go_wp2_with (first|((with_reducible refine bev_ (N:=7) rfl rfl (cs:=#[.int .i64 0,.string (⟨#[]⟩ : ByteArray),.int .i64 0,.int .i64 0]) (t:=92) ?hr ?_);(case hr => first|(go_simp;done)|(go_simp;rfl));intro gb309 hg w31 hbox hb;replace HO_305001:=Aside0.mk (Kd.R_below (pr_ HO_305001.out) hb);have BK309:=Aside0.mk (hbox);have GW309:=gw3_ hg HB GE302 GE303 GE304;have GE309:=GW309;replace HB:=hs3_ HB GE302 GE303 GE304 hb;have NB302_309:=nm_ hg BK302;have NB309_302:=nn_ hg BK302;replace BK302:=kc_ BK302 hb;have NB303_309:=nm_ hg BK303;have NB309_303:=nn_ hg BK303;replace BK303:=kc_ BK303 hb;have NB304_309:=nm_ hg BK304;have NB309_304:=nn_ hg BK304;replace BK304:=kc_ BK304 hb;clear hb hbox hg;have hnb32:=NB309_302.out;have hnc32:=NB302_309.out;have hnb33:=NB309_303.out;have hnc33:=NB303_309.out;have hnb34:=NB309_304.out;have hnc34:=NB304_309.out;obtain ⟨hcz35_0,hcz35_1,hcz35_2,hcz35_3,hfz35_0,hfz35_1,hfz35_2,hfz35_3⟩:=cf4_ BK309.out)|((with_reducible refine gate_store (t:=92) (p:=7) rfl ?_);refine store_event (t:=92) (p:=7) (v:=?vo_w36) (w1:=((((w31.setCell ⟨gb309,0,none⟩ (.int .i64 ((rd_T92 l0_3 x27_2).f0))).setCell ⟨gb309,1,none⟩ (.string ((rd_T92 l0_3 x27_2).f1))).setCell ⟨gb309,2,none⟩ (.int .i64 ((rd_T92 l0_3 x27_2).f2))).setCell ⟨gb309,3,none⟩ (.int .i64 ((rd_T92 l0_3 x27_2).f3)))) ?hg ?ho ?hn ?hr ?_;(case ho => rfl);(case hg => rfl);(case hn => rfl);(case hr => first|(go_simp;done)|(go_simp;rfl));intro w36 hw;have n0_ : Aside0 (Kd.R (Kd.int .i64) 3 w36 w.heap.size (fun _ => True) u305001 x305001_2):=⟨(by rw [hw];exact (by refine pr_ ?_;exact Kd.R_mono (Kd.R_far (p:=⟨gb309,3,none⟩) (Kd.R_far (p:=⟨gb309,2,none⟩) (Kd.R_far (p:=⟨gb309,1,none⟩) (Kd.R_far (p:=⟨gb309,0,none⟩) (Kd.R_types HO_305001.out BK309.out (by decide)) (fun _ hk => hk.2) (.int .i64 ((rd_T92 l0_3 x27_2).f0))) (fun _ hk => hk.2) (.string ((rd_T92 l0_3 x27_2).f1))) (fun _ hk => hk.2) (.int .i64 ((rd_T92 l0_3 x27_2).f2))) (fun _ hk => hk.2) (.int .i64 ((rd_T92 l0_3 x27_2).f3))) (fun _ hk => trivial)))⟩;have n1_ : Aside0 (w36.heap[gb302]? = some (.cells #[.int .i64 a0_0,.slice A0_1 l0_1.length c0_1,.slice A0_2 l0_2.length c0_2,.slice (some ad308) l0_3.length c0_3] 33 (0,0))):=⟨(by rw [hw];exact (bf1_ BK302.out NB302_309.out))⟩;have n2_ : Aside0 (w36.heap[gb303]? = some (.cells #[.int .i64 0,.slice none 0 0] 35 (0,0))):=⟨(by rw [hw];exact (bf1_ BK303.out NB303_309.out))⟩;have n3_ : Aside0 (w36.heap[gb304]? = some (.cells #[.int .i64 a0_0,u305001] 35 (0,0))):=⟨(by rw [hw];exact (bf1_ BK304.out NB304_309.out))⟩;have n4_ : Aside0 (w36.heap[gb309]? = some (.cells #[.int .i64 ((rd_T92 l0_3 x27_2).f0),.string ((rd_T92 l0_3 x27_2).f1),.int .i64 ((rd_T92 l0_3 x27_2).f2),.int .i64 ((rd_T92 l0_3 x27_2).f3)] 92 (0,0))):=⟨(by rw [hw];exact (by refine pe_ ?_;refine blk_put (cs:=#[.int .i64 ((rd_T92 l0_3 x27_2).f0),.string ((rd_T92 l0_3 x27_2).f1),.int .i64 ((rd_T92 l0_3 x27_2).f2),.int .i64 0]) ?_ 3 _ rfl;refine pe_ ?_;refine blk_put (cs:=#[.int .i64 ((rd_T92 l0_3 x27_2).f0),.string ((rd_T92 l0_3 x27_2).f1),.int .i64 0,.int .i64 0]) ?_ 2 _ rfl;refine pe_ ?_;refine blk_put (cs:=#[.int .i64 ((rd_T92 l0_3 x27_2).f0),.string (⟨#[]⟩ : ByteArray),.int .i64 0,.int .i64 0]) ?_ 1 _ rfl;refine pe_ ?_;refine blk_put (cs:=#[.int .i64 0,.string (⟨#[]⟩ : ByteArray),.int .i64 0,.int .i64 0]) ?_ 0 _ rfl;refine pe_ ?_;exact BK309.out))⟩;have n5_ : Aside0 (Below w.heap.size w w36):=⟨(by rw [hw];exact (be4_ HB.out GE302.out GE303.out GE304.out GE309.out))⟩;clear hw;clear HO_305001;clear BK302;clear BK303;clear BK304;clear BK309;clear HB;have HO_305001:=n0_;have BK302:=n1_;have BK303:=n2_;have BK304:=n3_;have BK309:=n4_;have HB:=n5_;clear n0_ n1_ n2_ n3_ n4_ n5_;obtain ⟨hcz37_0,hcz37_1,hcz37_2,hcz37_3,hfz37_0,hfz37_1,hfz37_2,hfz37_3⟩:=cf4_ BK309.out;have hnb38:=NB304_302.out;have hnc38:=NB302_304.out;have hnb39:=NB304_303.out;have hnc39:=NB303_304.out;obtain ⟨hcz40_0,hcz40_1,hfz40_0,hfz40_1⟩:=cf2_ BK304.out;have hnb41:=NB302_303.out;have hnc41:=NB303_302.out;obtain ⟨hcz42_0,hcz42_1,hcz42_2,hcz42_3,hfz42_0,hfz42_1,hfz42_2,hfz42_3⟩:=cf4_ BK302.out;have p30 : 0 ≤ ((ji27) : Int):=od_;have q30 : ((ji27) : Int) < ((x305001_2.length : Int) : Int):=od_;obtain ⟨go30,co30,eo30,gb30,gl30,cl30,HG30⟩:=Kd.R_form HO_305001.out (by omega);(first|cases eo30|(injection eo30 with ea_ en_ ec_;(first|subst ea_|(injection ea_ with ea_;subst ea_));subst ec_;clear en_));have GB30:=Aside0.mk gb30;have GG30:=Aside0.mk HG30;clear gb30 gl30 HG30;obtain ⟨hx30_0,hf30_0⟩:=Kd.R_celln 0 HO_305001.out ((ji27) : Int) p30 q30;replace p30:=eq_true p30;replace q30:=eq_true q30;obtain ⟨hy43_,hz43_⟩:=Kd.R_celln 0 HO_305001.out ((ji27) : Int) (od_) (od_);have HP43:=Kd.R_putg HO_305001.out ((ji27) : Int) ((rd_T92 l0_3 x27_2).f3))|((with_reducible refine gate_store (t:=3) (p:=47) rfl ?_);refine store_event (t:=3) (p:=47) (v:=?vo_w44) (w1:=(w36.setCell ⟨go30,((ji27) : Int).toNat,none⟩ (.int .i64 ((rd_T92 l0_3 x27_2).f3)))) ?hg ?ho ?hn ?hr ?_;(case ho => rfl);(case hg => rfl);(case hn => rfl);(case hr => first|(go_simp;done)|(go_simp;rfl));intro w44 hw;have hg : w36.grownBy w44 (some go30):=(by rw [hw];exact HP43.2);have hp_ : Kd.R (Kd.int .i64) 3 w44 w.heap.size (fun _ => True) (.slice (some ⟨go30,0,none⟩) x305001_2.length co30) y310:=(by rw [hw,Ny310.out];exact HP43.1);clear HP43;replace BK302:=Aside0.mk (blk_grown (g:=gb302) (o:=.cells #[.int .i64 a0_0,.slice A0_1 l0_1.length c0_1,.slice A0_2 l0_2.length c0_2,.slice (some ad308) l0_3.length c0_3] 33 (0,0)) (pe_ BK302.out) hg (Kd.R_ne HO_305001.out BK302.out (by decide)));replace BK303:=Aside0.mk (blk_grown (g:=gb303) (o:=.cells #[.int .i64 0,.slice none 0 0] 35 (0,0)) (pe_ BK303.out) hg (Kd.R_ne HO_305001.out BK303.out (by decide)));replace BK304:=Aside0.mk (blk_grown (g:=gb304) (o:=.cells #[.int .i64 a0_0,.slice (some ⟨go30,0,none⟩) x305001_2.length co30] 35 (0,0)) (pe_ BK304.out) hg (Kd.R_ne HO_305001.out BK304.out (by decide)));replace BK309:=Aside0.mk (blk_grown (g:=gb309) (o:=.cells #[.int .i64 ((rd_T92 l0_3 x27_2).f0),.string ((rd_T92 l0_3 x27_2).f1),.int .i64 ((rd_T92 l0_3 x27_2).f2),.int .i64 ((rd_T92 l0_3 x27_2).f3)] 92 (0,0)) (pe_ BK309.out) hg (Kd.R_ne HO_305001.out BK309.out (by decide)));replace HO_305001:=Aside0.mk (hp_);replace HB:=Aside0.mk ((by rw [hw];exact below_set (HB.out) GB30.out : Below w.heap.size w w44));clear hg hw hp_))
            go_roundg k2
            case measure => have:=HK1.out;have:=HK2.out;omega
            case rel => exact ⟨(wrap64 (x27_2 + 1)),(y310),(.slice (some ⟨go30,0,none⟩) x305001_2.length co30),rs_,H',⟨by have:=HK1.out;have:=HK2.out;omega⟩,⟨pr_ HO_305001.out⟩,⟨pe_ BK302.out⟩,⟨pe_ BK303.out⟩,⟨pe_ BK304.out⟩,⟨be4_ HB.out GE302.out GE303.out GE304.out GE309.out⟩⟩
           ·rw [if_neg c29] at H
            exact absurd H (by simp)
          ·rw [if_neg c28] at H
           exact absurd H (by simp)
         ·rw [if_neg c26] at H
          have c26b0 : (((rd_T92 l0_3 x27_2).f1).toList == a1.toList) = false:=beq_eq_false_iff_ne.mpr c26
          have c26b1 : (((rd_T92 l0_3 x27_2).f1).toList != a1.toList) = true:=bne_iff_ne.mpr c26
          have H':=Aside0.mk H
          clear H
          have p308 : 0 ≤ (x27_2 : Int):=od_
          have q308 : x27_2 < (l0_3.length : Int):=od_
          obtain ⟨ad308,e308,hx308_0,hx308_1,hx308_2,hx308_3⟩:=at_T92 HR0_3.out x27_2 p308 q308
          cases e308
          replace hx308_0:=hbc_ HB.out hx308_0
          replace hx308_1:=hbc_ HB.out hx308_1
          replace hx308_2:=hbc_ HB.out hx308_2
          replace hx308_3:=hbc_ HB.out hx308_3
          replace p308:=eq_true p308
          replace q308:=eq_true q308
          go_wp2_with (first|((with_reducible refine bev_ (N:=7) rfl rfl (cs:=#[.int .i64 0,.string (⟨#[]⟩ : ByteArray),.int .i64 0,.int .i64 0]) (t:=92) ?hr ?_);(case hr => first|(go_simp;done)|(go_simp;rfl));intro gb309 hg w45 hbox hb;replace HO_305001:=Aside0.mk (Kd.R_below (pr_ HO_305001.out) hb);have BK309:=Aside0.mk (hbox);have GW309:=gw3_ hg HB GE302 GE303 GE304;have GE309:=GW309;replace HB:=hs3_ HB GE302 GE303 GE304 hb;have NB302_309:=nm_ hg BK302;have NB309_302:=nn_ hg BK302;replace BK302:=kc_ BK302 hb;have NB303_309:=nm_ hg BK303;have NB309_303:=nn_ hg BK303;replace BK303:=kc_ BK303 hb;have NB304_309:=nm_ hg BK304;have NB309_304:=nn_ hg BK304;replace BK304:=kc_ BK304 hb;clear hb hbox hg;have hnb46:=NB309_302.out;have hnc46:=NB302_309.out;have hnb47:=NB309_303.out;have hnc47:=NB303_309.out;have hnb48:=NB309_304.out;have hnc48:=NB304_309.out;obtain ⟨hcz49_0,hcz49_1,hcz49_2,hcz49_3,hfz49_0,hfz49_1,hfz49_2,hfz49_3⟩:=cf4_ BK309.out))
          go_roundg k2
          case measure => have:=HK1.out;have:=HK2.out;omega
          case rel => exact ⟨(wrap64 (x27_2 + 1)),(x305001_2),(u305001),rs_,H',⟨by have:=HK1.out;have:=HK2.out;omega⟩,⟨by refine pr_ ?_;exact Kd.R_mono (Kd.R_far (p:=⟨gb309,3,none⟩) (Kd.R_far (p:=⟨gb309,2,none⟩) (Kd.R_far (p:=⟨gb309,1,none⟩) (Kd.R_far (p:=⟨gb309,0,none⟩) (Kd.R_types HO_305001.out BK309.out (by decide)) (fun _ hk => hk.2) (.int .i64 ((rd_T92 l0_3 x27_2).f0))) (fun _ hk => hk.2) (.string ((rd_T92 l0_3 x27_2).f1))) (fun _ hk => hk.2) (.int .i64 ((rd_T92 l0_3 x27_2).f2))) (fun _ hk => hk.2) (.int .i64 ((rd_T92 l0_3 x27_2).f3))) (fun _ hk => trivial)⟩,⟨bf1_ BK302.out NB302_309.out⟩,⟨bf1_ BK303.out NB303_309.out⟩,⟨bf1_ BK304.out NB304_309.out⟩,⟨be4_ HB.out GE302.out GE303.out GE304.out GE309.out⟩⟩
        ·rw [if_neg c25] at H
         exact absurd H (by simp)
       ·rw [if_neg c24] at H
        exact absurd H (by simp)
      ·rw [if_neg c23] at H
       have c23b0 : decide (x27_2 < (l0_3.length : Int)) = false:=decide_eq_false c23
       clear c23
       simp only [Option.some.injEq,Prod.mk.injEq] at H
       obtain ⟨rfl,rfl⟩:=H
       have hnb50:=NB304_302.out
       have hnc50:=NB302_304.out
       have hnb51:=NB304_303.out
       have hnc51:=NB303_304.out
       obtain ⟨hcz52_0,hcz52_1,hfz52_0,hfz52_1⟩:=cf2_ BK304.out
       have hnb53:=NB303_302.out
       have hnc53:=NB302_303.out
       obtain ⟨hcz54_0,hcz54_1,hfz54_0,hfz54_1⟩:=cf2_ BK303.out
       obtain ⟨Ao55,co55,eo55⟩:=Kd.R_slice HO_305001.out
       subst eo55
       go_wp2
       refine bodyPost_ret (results_cell_row rfl _ _ gb303 35 #[.int .i64 a0_0,.slice Ao55 x305001_2.length co55] (0,0) _ rfl (by refine pe_ ?_;refine blk_put (cs:=#[.int .i64 a0_0,.slice none 0 0]) ?_ 1 _ rfl;refine pe_ ?_;refine blk_put (cs:=#[.int .i64 0,.slice none 0 0]) ?_ 0 _ rfl;refine pe_ ?_;exact BK303.out) Try.underlying35 rfl (by kernel_rfl)) rfl ?_
       exact ⟨_,er_,by refine pr_ ?_;exact Kd.R_mono (Kd.R_far (p:=⟨gb303,1,none⟩) (Kd.R_far (p:=⟨gb303,0,none⟩) (Kd.R_types HO_305001.out BK303.out (by decide)) (fun _ hk => hk.2) (.int .i64 a0_0)) (fun _ hk => hk.2) (.slice Ao55 x305001_2.length co55)) (fun _ hk => trivial),be3_ HB.out GE302.out GE303.out GE304.out⟩
def spec_l6Grades.l0 : Nat → List Int → Int → Int → Int → List Int → Option (Int × List Int)
 | 0,_,_,_,_,_ => none
 | k + 1,x10,x11,x12,x629000,x629001 => if x12 < x11 then (if 0 ≤ x12 then (if x12 < (x10.length : Int) then (if (rd x10 x12) = 0 then (if x629001.length < 17592186044416 then (spec_l6Grades.l0 k x10 x11 (wrap64 (x12 + 1)) x629000 (x629001 ++ [0])) else (none)) else (if (rd x10 x12) = 1000000 then (if x629001.length < 17592186044416 then (spec_l6Grades.l0 k x10 x11 (wrap64 (x12 + 1)) x629000 (x629001 ++ [3])) else (none)) else (if x629001.length < 17592186044416 then (spec_l6Grades.l0 k x10 x11 (wrap64 (x12 + 1)) x629000 (x629001 ++ [1])) else (none)))) else (none)) else (none)) else (some (x629000,x629001))
def spec_l6Grades.f (k : Nat) (a0_0 : Int) (l0_1 : List Int) : Option (Int × List Int):=spec_l6Grades.l0 k l0_1 (l0_1.length : Int) 0 a0_0 ([] : List Int)
theorem spec_l6Grades.mono_l : ∀ k,(∀ y0 y1 y2 y3 y4,LeO (spec_l6Grades.l0 k y0 y1 y2 y3 y4) (spec_l6Grades.l0 (k + 1) y0 y1 y2 y3 y4))
 | 0 => fun _ _ _ _ _ r h => by simp [spec_l6Grades.l0] at h
 | k + 1 => by
  have ih0:=spec_l6Grades.mono_l k
  ·intro y0 y1 y2 y3 y4
   unfold spec_l6Grades.l0
   repeat' first
   | (with_reducible exact ih0 _ _ _ _ _)
   | (with_reducible first|exact LeO.refl _|exact LeO.none _|refine LeO.ite ?_ ?_|refine LeO.bind ?_ (fun _ => ?_))
   | exact ih0 _ _ _ _ _
   | exact LeO.none _
   | refine LeO.ite ?_ ?_
   | refine LeO.bind ?_ (fun _ => ?_)
theorem spec_l6Grades.mono : ∀ a0 a1 k,LeO (spec_l6Grades.f k a0 a1) (spec_l6Grades.f (k + 1) a0 a1):=by
 intro a0 a1 k
 have ih0:=spec_l6Grades.mono_l k
 unfold spec_l6Grades.f
 repeat' first
   | (with_reducible exact ih0 _ _ _ _ _)
   | (with_reducible first|exact LeO.refl _|exact LeO.none _|refine LeO.ite ?_ ?_|refine LeO.bind ?_ (fun _ => ?_))
   | exact ih0 _ _ _ _ _
   | exact LeO.none _
   | refine LeO.ite ?_ ?_
   | refine LeO.bind ?_ (fun _ => ?_)
set_option maxHeartbeats 8000000 in
set_option maxRecDepth 100000 in
theorem spec_l6Grades.calls (k : Nat) (a0_0 : Int) (A0_1 : Option Addr) (c0_1 : Nat) (l0_1 : List Int) (r1 : Int) (r2 : List Int) (w : World) (hr0_1 : Kd.C (Kd.int .i64) w A0_1 l0_1.length l0_1) (hc0_1 : l0_1.length ≤ c0_1) (h : spec_l6Grades.f k a0_0 l0_1 = some (r1,r2)) :
  Calls Try.prog 142 #[.agg #[.int .i64 a0_0,.slice A0_1 l0_1.length c0_1]] w fun e w' => ∃ v1_ : Value,e = .returned (.agg #[.int .i64 r1,v1_]) ∧ Kd.R (Kd.int .i64) 3 w' w.heap.size (fun _ => True) v1_ r2 ∧ Below w.heap.size w w':=by
 have hu35:=Try.underlying35
 have HR0_1:=Aside0.mk hr0_1
 have HC0_1:=Aside0.mk hc0_1
 clear hr0_1 hc0_1
 have HB:=Aside0.mk (Below.refl w.heap.size w)
 have H : (spec_l6Grades.l0 k l0_1 (l0_1.length : Int) 0 a0_0 ([] : List Int)) = some (r1,r2):=h
 clear h
 have H':=Aside0.mk H
 clear H
 go_enter Try.func142,Try.ntmps142
 go_wp2_with (first|((with_reducible refine bev_ (N:=1) rfl rfl (cs:=#[.int .i64 a0_0,.slice A0_1 l0_1.length c0_1]) (t:=35) ?hr ?_);(case hr => first|(go_simp;done)|(go_simp;rfl));intro gb626 hg w2 hbox hb;have BK626:=Aside0.mk (hbox);have GW626:=gw0_ hg HB;have GE626:=GW626;replace HB:=hs0_ HB hb;clear hb hbox hg)|((with_reducible refine bev_ (N:=2) rfl rfl (cs:=#[.int .i64 0,.slice none 0 0]) (t:=35) ?hr ?_);(case hr => first|(go_simp;done)|(go_simp;rfl));intro gb627 hg w3 hbox hb;have BK627:=Aside0.mk (hbox);have GW627:=gw1_ hg HB GE626;have GE627:=GW627;replace HB:=hs1_ HB GE626 hb;have NB626_627:=nm_ hg BK626;have NB627_626:=nn_ hg BK626;replace BK626:=kc_ BK626 hb;clear hb hbox hg;have hnb4:=NB626_627.out;have hnc4:=NB627_626.out;obtain ⟨hcz5_0,hcz5_1,hfz5_0,hfz5_1⟩:=cf2_ BK626.out)|((with_reducible refine bev_ (N:=3) rfl rfl (cs:=#[.int .i64 0,.slice none 0 0]) (t:=35) ?hr ?_);(case hr => first|(go_simp;done)|(go_simp;rfl));intro gb628 hg w6 hbox hb;have BK628:=Aside0.mk (hbox);have GW628:=gw2_ hg HB GE626 GE627;have GE628:=GW628;replace HB:=hs2_ HB GE626 GE627 hb;have NB626_628:=nm_ hg BK626;have NB628_626:=nn_ hg BK626;replace BK626:=kc_ BK626 hb;have NB627_628:=nm_ hg BK627;have NB628_627:=nn_ hg BK627;replace BK627:=kc_ BK627 hb;clear hb hbox hg;have hnb7:=NB628_626.out;have hnc7:=NB626_628.out;have hnb8:=NB628_627.out;have hnc8:=NB627_628.out;obtain ⟨hcz9_0,hcz9_1,hfz9_0,hfz9_1⟩:=cf2_ BK628.out;obtain ⟨hcz10_0,hcz10_1,hfz10_0,hfz10_1⟩:=cf2_ BK626.out))
 go_loopg [12] k (fun kq v12 w' => ∃ (x12_1 : Int) (x629001_1 : List Int) (u629001 : Value),v12 = .int .i64 x12_1 ∧ Aside0 (spec_l6Grades.l0 kq l0_1 (l0_1.length : Int) x12_1 a0_0 x629001_1 = some (r1,r2)) ∧ Aside0 (kq ≤ k) ∧ Aside0 (Kd.R (Kd.int .i64) 3 w' w.heap.size (fun _ => True) u629001 x629001_1) ∧ Aside0 (w'.heap[gb626]? = some (.cells #[.int .i64 a0_0,(.slice A0_1 l0_1.length c0_1)] 35 (0,0))) ∧ Aside0 (w'.heap[gb627]? = some (.cells #[.int .i64 0,(.slice none 0 0)] 35 (0,0))) ∧ Aside0 (w'.heap[gb628]? = some (.cells #[.int .i64 a0_0,u629001] 35 (0,0))) ∧ Aside0 (Below w.heap.size w w'))
 case atStart => exact ⟨(0),(([] : List Int)),(.slice none 0 0),rs_,H',⟨Nat.le_refl _⟩,⟨by first|exact Kd.R_nil _ _ _ _ _|exact Kd.N_nil _ _ _ _ _|exact Kd.V_nil _ _ _ _ _|exact Kd.Q_nil _ _ _ _ _|exact Kd.S_nil _ _ _ _ _⟩,⟨bf1_ BK626.out NB626_628.out⟩,⟨bf1_ BK627.out NB627_628.out⟩,⟨by refine pe_ ?_;refine blk_put (cs:=#[.int .i64 a0_0,.slice none 0 0]) ?_ 1 _ rfl;refine pe_ ?_;refine blk_put (cs:=#[.int .i64 0,.slice none 0 0]) ?_ 0 _ rfl;refine pe_ ?_;exact BK628.out⟩,⟨be3_ HB.out GE626.out GE627.out GE628.out⟩⟩
 case round =>
  clear H'
  obtain ⟨x12_1,x629001_1,u629001,rfl,HA,HK1,HO_629001,BK626,BK627,BK628,HB⟩:=hrel
  cases gk with
  | zero => exact absurd HA.out (by simp [spec_l6Grades.l0])
  | succ k1 =>
   have H:=HA.out
   clear HA
   simp only [spec_l6Grades.l0] at H
   by_cases c11 : x12_1 < (l0_1.length : Int)
   ·rw [if_pos c11] at H
    have c11b0 : decide (x12_1 < (l0_1.length : Int)) = true:=decide_eq_true c11
    clear c11
    by_cases c12 : 0 ≤ x12_1
    ·rw [if_pos c12] at H
     have c12b0 : decide (0 ≤ x12_1) = true:=decide_eq_true c12
     clear c12
     by_cases c13 : x12_1 < (l0_1.length : Int)
     ·rw [if_pos c13] at H
      have c13b0 : decide (x12_1 < (l0_1.length : Int)) = true:=decide_eq_true c13
      clear c13
      by_cases c14 : (rd l0_1 x12_1) = 0
      ·rw [if_pos c14] at H
       have c14b0 : ((rd l0_1 x12_1) == 0) = true:=beq_iff_eq.mpr c14
       have c14b1 : ((rd l0_1 x12_1) != 0) = false:=bne_eq_false_iff_eq.mpr c14
       clear c14
       by_cases c15 : x629001_1.length < 17592186044416
       ·rw [if_pos c15] at H
        have LMc15:=Aside0.mk c15
        clear c15
        obtain ⟨y630,hy630⟩ : ∃ y_ : List Int,y_ = (x629001_1 ++ [0]):=⟨_,rfl⟩
        replace H : (spec_l6Grades.l0 k1 l0_1 (l0_1.length : Int) (wrap64 (x12_1 + 1)) a0_0 y630) = some (r1,r2):=by first|(rw [hy630];with_reducible exact H)|(have H2_:=(Option.bind_some _ _).symm.trans H;rw [hy630];with_reducible exact H2_)|(have H2_:=(Option.bind_some _ _).symm.trans H;with_reducible exact H2_)|with_reducible exact H|(rw [hy630];exact H)|exact H
        have Ny630:=Aside0.mk hy630
        clear hy630
        have H':=Aside0.mk H
        clear H
        have p629 : 0 ≤ (x12_1 : Int):=od_
        have q629 : x12_1 < (l0_1.length : Int):=od_
        obtain ⟨ad629,e629,hx629_0⟩:=Kd.at_int HR0_1.out x12_1 p629 q629
        cases e629
        replace hx629_0:=hbc_ HB.out hx629_0
        replace p629:=eq_true p629
        replace q629:=eq_true q629
        have hnb16:=NB628_626.out
        have hnc16:=NB626_628.out
        have hnb17:=NB628_627.out
        have hnc17:=NB627_628.out
        obtain ⟨hcz18_0,hcz18_1,hfz18_0,hfz18_1⟩:=cf2_ BK628.out
        go_wp2_with (first|((with_reducible refine gate_builtin (b:=.append) (xs:=#[.tmp 25,.tmp 26]) rfl ?_);at_builtin;refine Kd.R_append (Kd.int .i64) (w0:=w) w.heap.size rfl (.tmp 25) (.tmp 26) 22 3 (.int .i64 0) 8 rfl Try.underlying22 info3 rfl (by decide) (by omega) u629001 x629001_1 0 [.int .i64 0] (fun _ => True) (fun _ => False) rfl rfl ?aP (fun _ hk => hk.elim) ?aF ?aO ?aB ?aS ?aL ?_;(case aP => exact rfl);(case aB => exact (be3_ HB.out GE626.out GE627.out GE628.out));(case aF => exact (fun _ _ => trivial));(case aO => exact (pr_ HO_629001.out));(case aS => exact (below_size (be3_ HB.out GE626.out GE627.out GE628.out)));(case aL => have:=LMc15.out;omega);intro v631 w19 ho hb hg hat;rw [← Ny630.out] at ho;replace BK626:=Aside0.mk (blk_grown (g:=gb626) (o:=.cells #[.int .i64 a0_0,.slice (some ad629) l0_1.length c0_1] 35 (0,0)) (pe_ BK626.out) hg (Kd.R_ne HO_629001.out BK626.out (by decide)));replace BK627:=Aside0.mk (blk_grown (g:=gb627) (o:=.cells #[.int .i64 0,.slice none 0 0] 35 (0,0)) (pe_ BK627.out) hg (Kd.R_ne HO_629001.out BK627.out (by decide)));replace BK628:=Aside0.mk (blk_grown (g:=gb628) (o:=.cells #[.int .i64 a0_0,u629001] 35 (0,0)) (pe_ BK628.out) hg (Kd.R_ne HO_629001.out BK628.out (by decide)));replace HB:=Aside0.mk (hb);have HO632:=Aside0.mk (ho);clear HO_629001;clear ho hb hg hat;obtain ⟨Ao20,co20,eo20⟩:=Kd.R_slice HO632.out;subst eo20;obtain ⟨hcz21_0,hcz21_1,hfz21_0,hfz21_1⟩:=cf2_ BK628.out))
        go_roundg k1
        case measure => have:=HK1.out;omega
        case rel => exact ⟨(wrap64 (x12_1 + 1)),(y630),(.slice Ao20 y630.length co20),rs_,H',⟨by have:=HK1.out;omega⟩,⟨by refine pr_ ?_;exact Kd.R_mono (Kd.R_far (p:=⟨gb628,1,none⟩) (Kd.R_types HO632.out BK628.out (by decide)) (fun _ hk => hk.2) (.slice Ao20 y630.length co20)) (fun _ hk => trivial)⟩,⟨bf1_ BK626.out NB626_628.out⟩,⟨bf1_ BK627.out NB627_628.out⟩,⟨by refine pe_ ?_;refine blk_put (cs:=#[.int .i64 a0_0,u629001]) ?_ 1 _ rfl;refine pe_ ?_;exact BK628.out⟩,⟨be3_ HB.out GE626.out GE627.out GE628.out⟩⟩
       ·rw [if_neg c15] at H
        exact absurd H (by simp)
      ·rw [if_neg c14] at H
       have c14b0 : ((rd l0_1 x12_1) == 0) = false:=beq_eq_false_iff_ne.mpr c14
       have c14b1 : ((rd l0_1 x12_1) != 0) = true:=bne_iff_ne.mpr c14
       by_cases c22 : (rd l0_1 x12_1) = 1000000
       ·rw [if_pos c22] at H
        have c22b0 : ((rd l0_1 x12_1) == 1000000) = true:=beq_iff_eq.mpr c22
        have c22b1 : ((rd l0_1 x12_1) != 1000000) = false:=bne_eq_false_iff_eq.mpr c22
        clear c22
        by_cases c23 : x629001_1.length < 17592186044416
        ·rw [if_pos c23] at H
         have LMc23:=Aside0.mk c23
         clear c23
         obtain ⟨y633,hy633⟩ : ∃ y_ : List Int,y_ = (x629001_1 ++ [3]):=⟨_,rfl⟩
         replace H : (spec_l6Grades.l0 k1 l0_1 (l0_1.length : Int) (wrap64 (x12_1 + 1)) a0_0 y633) = some (r1,r2):=by first|(rw [hy633];with_reducible exact H)|(have H2_:=(Option.bind_some _ _).symm.trans H;rw [hy633];with_reducible exact H2_)|(have H2_:=(Option.bind_some _ _).symm.trans H;with_reducible exact H2_)|with_reducible exact H|(rw [hy633];exact H)|exact H
         have Ny633:=Aside0.mk hy633
         clear hy633
         have H':=Aside0.mk H
         clear H
         have p629 : 0 ≤ (x12_1 : Int):=od_
         have q629 : x12_1 < (l0_1.length : Int):=od_
         obtain ⟨ad629,e629,hx629_0⟩:=Kd.at_int HR0_1.out x12_1 p629 q629
         cases e629
         replace hx629_0:=hbc_ HB.out hx629_0
         replace p629:=eq_true p629
         replace q629:=eq_true q629
         have hnb24:=NB628_626.out
         have hnc24:=NB626_628.out
         have hnb25:=NB628_627.out
         have hnc25:=NB627_628.out
         obtain ⟨hcz26_0,hcz26_1,hfz26_0,hfz26_1⟩:=cf2_ BK628.out
         go_wp2_with (first|((with_reducible refine gate_builtin (b:=.append) (xs:=#[.tmp 32,.tmp 33]) rfl ?_);at_builtin;refine Kd.R_append (Kd.int .i64) (w0:=w) w.heap.size rfl (.tmp 32) (.tmp 33) 22 3 (.int .i64 0) 8 rfl Try.underlying22 info3 rfl (by decide) (by omega) u629001 x629001_1 3 [.int .i64 3] (fun _ => True) (fun _ => False) rfl rfl ?aP (fun _ hk => hk.elim) ?aF ?aO ?aB ?aS ?aL ?_;(case aP => exact rfl);(case aB => exact (be3_ HB.out GE626.out GE627.out GE628.out));(case aF => exact (fun _ _ => trivial));(case aO => exact (pr_ HO_629001.out));(case aS => exact (below_size (be3_ HB.out GE626.out GE627.out GE628.out)));(case aL => have:=LMc23.out;omega);intro v634 w27 ho hb hg hat;rw [← Ny633.out] at ho;replace BK626:=Aside0.mk (blk_grown (g:=gb626) (o:=.cells #[.int .i64 a0_0,.slice (some ad629) l0_1.length c0_1] 35 (0,0)) (pe_ BK626.out) hg (Kd.R_ne HO_629001.out BK626.out (by decide)));replace BK627:=Aside0.mk (blk_grown (g:=gb627) (o:=.cells #[.int .i64 0,.slice none 0 0] 35 (0,0)) (pe_ BK627.out) hg (Kd.R_ne HO_629001.out BK627.out (by decide)));replace BK628:=Aside0.mk (blk_grown (g:=gb628) (o:=.cells #[.int .i64 a0_0,u629001] 35 (0,0)) (pe_ BK628.out) hg (Kd.R_ne HO_629001.out BK628.out (by decide)));replace HB:=Aside0.mk (hb);have HO635:=Aside0.mk (ho);clear HO_629001;clear ho hb hg hat;obtain ⟨Ao28,co28,eo28⟩:=Kd.R_slice HO635.out;subst eo28;obtain ⟨hcz29_0,hcz29_1,hfz29_0,hfz29_1⟩:=cf2_ BK628.out))
         go_roundg k1
         case measure => have:=HK1.out;omega
         case rel => exact ⟨(wrap64 (x12_1 + 1)),(y633),(.slice Ao28 y633.length co28),rs_,H',⟨by have:=HK1.out;omega⟩,⟨by refine pr_ ?_;exact Kd.R_mono (Kd.R_far (p:=⟨gb628,1,none⟩) (Kd.R_types HO635.out BK628.out (by decide)) (fun _ hk => hk.2) (.slice Ao28 y633.length co28)) (fun _ hk => trivial)⟩,⟨bf1_ BK626.out NB626_628.out⟩,⟨bf1_ BK627.out NB627_628.out⟩,⟨by refine pe_ ?_;refine blk_put (cs:=#[.int .i64 a0_0,u629001]) ?_ 1 _ rfl;refine pe_ ?_;exact BK628.out⟩,⟨be3_ HB.out GE626.out GE627.out GE628.out⟩⟩
        ·rw [if_neg c23] at H
         exact absurd H (by simp)
       ·rw [if_neg c22] at H
        have c22b0 : ((rd l0_1 x12_1) == 1000000) = false:=beq_eq_false_iff_ne.mpr c22
        have c22b1 : ((rd l0_1 x12_1) != 1000000) = true:=bne_iff_ne.mpr c22
        by_cases c30 : x629001_1.length < 17592186044416
        ·rw [if_pos c30] at H
         have LMc30:=Aside0.mk c30
         clear c30
         obtain ⟨y636,hy636⟩ : ∃ y_ : List Int,y_ = (x629001_1 ++ [1]):=⟨_,rfl⟩
         replace H : (spec_l6Grades.l0 k1 l0_1 (l0_1.length : Int) (wrap64 (x12_1 + 1)) a0_0 y636) = some (r1,r2):=by first|(rw [hy636];with_reducible exact H)|(have H2_:=(Option.bind_some _ _).symm.trans H;rw [hy636];with_reducible exact H2_)|(have H2_:=(Option.bind_some _ _).symm.trans H;with_reducible exact H2_)|with_reducible exact H|(rw [hy636];exact H)|exact H
         have Ny636:=Aside0.mk hy636
         clear hy636
         have H':=Aside0.mk H
         clear H
         have p629 : 0 ≤ (x12_1 : Int):=od_
         have q629 : x12_1 < (l0_1.length : Int):=od_
         obtain ⟨ad629,e629,hx629_0⟩:=Kd.at_int HR0_1.out x12_1 p629 q629
         cases e629
         replace hx629_0:=hbc_ HB.out hx629_0
         replace p629:=eq_true p629
         replace q629:=eq_true q629
         have hnb31:=NB628_626.out
         have hnc31:=NB626_628.out
         have hnb32:=NB628_627.out
         have hnc32:=NB627_628.out
         obtain ⟨hcz33_0,hcz33_1,hfz33_0,hfz33_1⟩:=cf2_ BK628.out
         go_wp2_with (first|((with_reducible refine gate_builtin (b:=.append) (xs:=#[.tmp 18,.tmp 19]) rfl ?_);at_builtin;refine Kd.R_append (Kd.int .i64) (w0:=w) w.heap.size rfl (.tmp 18) (.tmp 19) 22 3 (.int .i64 0) 8 rfl Try.underlying22 info3 rfl (by decide) (by omega) u629001 x629001_1 1 [.int .i64 1] (fun _ => True) (fun _ => False) rfl rfl ?aP (fun _ hk => hk.elim) ?aF ?aO ?aB ?aS ?aL ?_;(case aP => exact rfl);(case aB => exact (be3_ HB.out GE626.out GE627.out GE628.out));(case aF => exact (fun _ _ => trivial));(case aO => exact (pr_ HO_629001.out));(case aS => exact (below_size (be3_ HB.out GE626.out GE627.out GE628.out)));(case aL => have:=LMc30.out;omega);intro v637 w34 ho hb hg hat;rw [← Ny636.out] at ho;replace BK626:=Aside0.mk (blk_grown (g:=gb626) (o:=.cells #[.int .i64 a0_0,.slice (some ad629) l0_1.length c0_1] 35 (0,0)) (pe_ BK626.out) hg (Kd.R_ne HO_629001.out BK626.out (by decide)));replace BK627:=Aside0.mk (blk_grown (g:=gb627) (o:=.cells #[.int .i64 0,.slice none 0 0] 35 (0,0)) (pe_ BK627.out) hg (Kd.R_ne HO_629001.out BK627.out (by decide)));replace BK628:=Aside0.mk (blk_grown (g:=gb628) (o:=.cells #[.int .i64 a0_0,u629001] 35 (0,0)) (pe_ BK628.out) hg (Kd.R_ne HO_629001.out BK628.out (by decide)));replace HB:=Aside0.mk (hb);have HO638:=Aside0.mk (ho);clear HO_629001;clear ho hb hg hat;obtain ⟨Ao35,co35,eo35⟩:=Kd.R_slice HO638.out;subst eo35;obtain ⟨hcz36_0,hcz36_1,hfz36_0,hfz36_1⟩:=cf2_ BK628.out))
         go_roundg k1
         case measure => have:=HK1.out;omega
         case rel => exact ⟨(wrap64 (x12_1 + 1)),(y636),(.slice Ao35 y636.length co35),rs_,H',⟨by have:=HK1.out;omega⟩,⟨by refine pr_ ?_;exact Kd.R_mono (Kd.R_far (p:=⟨gb628,1,none⟩) (Kd.R_types HO638.out BK628.out (by decide)) (fun _ hk => hk.2) (.slice Ao35 y636.length co35)) (fun _ hk => trivial)⟩,⟨bf1_ BK626.out NB626_628.out⟩,⟨bf1_ BK627.out NB627_628.out⟩,⟨by refine pe_ ?_;refine blk_put (cs:=#[.int .i64 a0_0,u629001]) ?_ 1 _ rfl;refine pe_ ?_;exact BK628.out⟩,⟨be3_ HB.out GE626.out GE627.out GE628.out⟩⟩
        ·rw [if_neg c30] at H
         exact absurd H (by simp)
     ·rw [if_neg c13] at H
      exact absurd H (by simp)
    ·rw [if_neg c12] at H
     exact absurd H (by simp)
   ·rw [if_neg c11] at H
    have c11b0 : decide (x12_1 < (l0_1.length : Int)) = false:=decide_eq_false c11
    clear c11
    simp only [Option.some.injEq,Prod.mk.injEq] at H
    obtain ⟨rfl,rfl⟩:=H
    have hnb37:=NB628_626.out
    have hnc37:=NB626_628.out
    have hnb38:=NB628_627.out
    have hnc38:=NB627_628.out
    obtain ⟨hcz39_0,hcz39_1,hfz39_0,hfz39_1⟩:=cf2_ BK628.out
    have hnb40:=NB627_626.out
    have hnc40:=NB626_627.out
    obtain ⟨hcz41_0,hcz41_1,hfz41_0,hfz41_1⟩:=cf2_ BK627.out
    obtain ⟨Ao42,co42,eo42⟩:=Kd.R_slice HO_629001.out
    subst eo42
    go_wp2
    refine bodyPost_ret (results_cell_row rfl _ _ gb627 35 #[.int .i64 a0_0,.slice Ao42 x629001_1.length co42] (0,0) _ rfl (by refine pe_ ?_;refine blk_put (cs:=#[.int .i64 a0_0,.slice none 0 0]) ?_ 1 _ rfl;refine pe_ ?_;refine blk_put (cs:=#[.int .i64 0,.slice none 0 0]) ?_ 0 _ rfl;refine pe_ ?_;exact BK627.out) Try.underlying35 rfl (by kernel_rfl)) rfl ?_
    exact ⟨_,er_,by refine pr_ ?_;exact Kd.R_mono (Kd.R_far (p:=⟨gb627,1,none⟩) (Kd.R_far (p:=⟨gb627,0,none⟩) (Kd.R_types HO_629001.out BK627.out (by decide)) (fun _ hk => hk.2) (.int .i64 a0_0)) (fun _ hk => hk.2) (.slice Ao42 x629001_1.length co42)) (fun _ hk => trivial),be3_ HB.out GE626.out GE627.out GE628.out⟩
def spec_l2Same.l0 : Nat → List Int → List Int → Int → Int → Option (Bool)
 | 0,_,_,_,_ => none
 | k + 1,x0,x1,x10,x11 => if x11 < x10 then (if 0 ≤ x11 then (if x11 < (x0.length : Int) then (if x11 < (x1.length : Int) then (if (rd x0 x11) = (rd x1 x11) then (spec_l2Same.l0 k x0 x1 x10 (wrap64 (x11 + 1))) else (some false)) else (none)) else (none)) else (none)) else (some ((x0.length : Int) == (x1.length : Int)))
def spec_l2Same.f (k : Nat) (l0 : List Int) (l1 : List Int) : Option (Bool):=spec_l2Same.l0 k l0 l1 (mn (l0.length : Int) (l1.length : Int)) 0
theorem spec_l2Same.mono_l : ∀ k,(∀ y0 y1 y2 y3,LeO (spec_l2Same.l0 k y0 y1 y2 y3) (spec_l2Same.l0 (k + 1) y0 y1 y2 y3))
 | 0 => fun _ _ _ _ r h => by simp [spec_l2Same.l0] at h
 | k + 1 => by
  have ih0:=spec_l2Same.mono_l k
  ·intro y0 y1 y2 y3
   unfold spec_l2Same.l0
   repeat' first
   | (with_reducible exact ih0 _ _ _ _)
   | (with_reducible first|exact LeO.refl _|exact LeO.none _|refine LeO.ite ?_ ?_|refine LeO.bind ?_ (fun _ => ?_))
   | exact ih0 _ _ _ _
   | exact LeO.none _
   | refine LeO.ite ?_ ?_
   | refine LeO.bind ?_ (fun _ => ?_)
theorem spec_l2Same.mono : ∀ a0 a1 k,LeO (spec_l2Same.f k a0 a1) (spec_l2Same.f (k + 1) a0 a1):=by
 intro a0 a1 k
 have ih0:=spec_l2Same.mono_l k
 unfold spec_l2Same.f
 repeat' first
   | (with_reducible exact ih0 _ _ _ _)
   | (with_reducible first|exact LeO.refl _|exact LeO.none _|refine LeO.ite ?_ ?_|refine LeO.bind ?_ (fun _ => ?_))
   | exact ih0 _ _ _ _
   | exact LeO.none _
   | refine LeO.ite ?_ ?_
   | refine LeO.bind ?_ (fun _ => ?_)
set_option maxHeartbeats 8000000 in
set_option maxRecDepth 100000 in
theorem spec_l2Same.calls (k : Nat) (A0 : Option Addr) (c0 : Nat) (l0 : List Int) (A1 : Option Addr) (c1 : Nat) (l1 : List Int) (r : Bool) (w : World) (hr0 : Kd.C (Kd.int .i64) w A0 l0.length l0) (hc0 : l0.length ≤ c0) (hr1 : Kd.C (Kd.int .i64) w A1 l1.length l1) (hc1 : l1.length ≤ c1) (h : spec_l2Same.f k l0 l1 = some r) :
  Calls Try.prog 97 #[.slice A0 l0.length c0,.slice A1 l1.length c1] w fun e w' => e = .returned (.bool r) ∧ Below w.heap.size w w':=by
 have HR0:=Aside0.mk hr0
 have HC0:=Aside0.mk hc0
 clear hr0 hc0
 have HR1:=Aside0.mk hr1
 have HC1:=Aside0.mk hc1
 clear hr1 hc1
 have HB:=Aside0.mk (Below.refl w.heap.size w)
 have H : (spec_l2Same.l0 k l0 l1 (mn (l0.length : Int) (l1.length : Int)) 0) = some r:=h
 clear h
 obtain ⟨ji3,hji3⟩ : ∃ j_ : Int,(mn (l0.length : Int) (l1.length : Int)) = j_:=⟨_,rfl⟩
 replace H : (spec_l2Same.l0 k l0 l1 ji3 0) = some r:=by first|(rw [hji3] at H;exact H)|(simp only [hji3] at H ⊢;exact H)
 (try (have hji3l : 0 ≤ ji3:=by (rw [← hji3];unfold mn;(repeat' split) <;> omega)))
 (try (have hji3m : 0 ≤ ji3:=by omega))
 have hji3_ : (if (l1.length : Int) < (l0.length : Int) then (l1.length : Int) else (l0.length : Int)) = ji3:=hji3
 have hji3n : (if l1.length < l0.length then (l1.length : Int) else (l0.length : Int)) = ji3:=by rw [← hji3];unfold mn;(repeat' split) <;> omega
 have H':=Aside0.mk H
 clear H
 go_enter Try.func97,Try.ntmps97
 go_wp2
 repeat (go_quiet (fail);try go_wp2)
 go_loopg [11] k (fun kq v11 w' => ∃ (x11_1 : Int),v11 = .int .i64 x11_1 ∧ Aside0 (spec_l2Same.l0 kq l0 l1 ji3 x11_1 = some r) ∧ Aside0 (kq ≤ k) ∧ Aside0 (Below w.heap.size w w'))
 case atStart => exact ⟨(0),rs_,H',⟨Nat.le_refl _⟩,⟨be0_ HB.out⟩⟩
 case round =>
  clear H'
  obtain ⟨x11_1,rfl,HA,HK1,HB⟩:=hrel
  cases gk with
  | zero => exact absurd HA.out (by simp [spec_l2Same.l0])
  | succ k1 =>
   have H:=HA.out
   clear HA
   simp only [spec_l2Same.l0] at H
   by_cases c4 : x11_1 < ji3
   ·rw [if_pos c4] at H
    have c4b0 : decide (x11_1 < ji3) = true:=decide_eq_true c4
    clear c4
    by_cases c5 : 0 ≤ x11_1
    ·rw [if_pos c5] at H
     have c5b0 : decide (0 ≤ x11_1) = true:=decide_eq_true c5
     clear c5
     by_cases c6 : x11_1 < (l0.length : Int)
     ·rw [if_pos c6] at H
      have c6b0 : decide (x11_1 < (l0.length : Int)) = true:=decide_eq_true c6
      clear c6
      by_cases c7 : x11_1 < (l1.length : Int)
      ·rw [if_pos c7] at H
       have c7b0 : decide (x11_1 < (l1.length : Int)) = true:=decide_eq_true c7
       clear c7
       by_cases c8 : (rd l0 x11_1) = (rd l1 x11_1)
       ·rw [if_pos c8] at H
        have c8b0 : ((rd l0 x11_1) == (rd l1 x11_1)) = true:=beq_iff_eq.mpr c8
        have c8b1 : ((rd l0 x11_1) != (rd l1 x11_1)) = false:=bne_eq_false_iff_eq.mpr c8
        clear c8
        have H':=Aside0.mk H
        clear H
        have p599 : 0 ≤ (x11_1 : Int):=od_
        have q599 : x11_1 < (l0.length : Int):=od_
        obtain ⟨ad599,e599,hx599_0⟩:=Kd.at_int HR0.out x11_1 p599 q599
        cases e599
        replace hx599_0:=hbc_ HB.out hx599_0
        replace p599:=eq_true p599
        replace q599:=eq_true q599
        have p600 : 0 ≤ (x11_1 : Int):=od_
        have q600 : x11_1 < (l1.length : Int):=od_
        obtain ⟨ad600,e600,hx600_0⟩:=Kd.at_int HR1.out x11_1 p600 q600
        cases e600
        replace hx600_0:=hbc_ HB.out hx600_0
        replace p600:=eq_true p600
        replace q600:=eq_true q600
        go_wp2
        repeat (go_quiet (fail);try go_wp2)
        go_roundg k1
        case measure => have:=HK1.out;omega
        case rel => exact ⟨(wrap64 (x11_1 + 1)),rs_,H',⟨by have:=HK1.out;omega⟩,⟨be0_ HB.out⟩⟩
       ·rw [if_neg c8] at H
        have c8b0 : ((rd l0 x11_1) == (rd l1 x11_1)) = false:=beq_eq_false_iff_ne.mpr c8
        have c8b1 : ((rd l0 x11_1) != (rd l1 x11_1)) = true:=bne_iff_ne.mpr c8
        obtain rfl:=Option.some.inj H
        have p599 : 0 ≤ (x11_1 : Int):=od_
        have q599 : x11_1 < (l0.length : Int):=od_
        obtain ⟨ad599,e599,hx599_0⟩:=Kd.at_int HR0.out x11_1 p599 q599
        cases e599
        replace hx599_0:=hbc_ HB.out hx599_0
        replace p599:=eq_true p599
        replace q599:=eq_true q599
        have p600 : 0 ≤ (x11_1 : Int):=od_
        have q600 : x11_1 < (l1.length : Int):=od_
        obtain ⟨ad600,e600,hx600_0⟩:=Kd.at_int HR1.out x11_1 p600 q600
        cases e600
        replace hx600_0:=hbc_ HB.out hx600_0
        replace p600:=eq_true p600
        replace q600:=eq_true q600
        go_wp2
        repeat (go_quiet (fail);try go_wp2)
        go_ret
        exact ⟨by first|rfl|(simp [errW_none,errW_some] <;> rfl)|(simp only [← hji3];first|rfl|(simp [errW_none,errW_some] <;> rfl))|(simp [*,errW_none,errW_some] <;> rfl),be0_ HB.out⟩
      ·rw [if_neg c7] at H
       exact absurd H (by simp)
     ·rw [if_neg c6] at H
      exact absurd H (by simp)
    ·rw [if_neg c5] at H
     exact absurd H (by simp)
   ·rw [if_neg c4] at H
    have c4b0 : decide (x11_1 < ji3) = false:=decide_eq_false c4
    clear c4
    obtain rfl:=Option.some.inj H
    go_wp2
    repeat (go_quiet (fail);try go_wp2)
    go_ret
    exact ⟨by first|rfl|(simp [errW_none,errW_some] <;> rfl)|(simp only [← hji3];first|rfl|(simp [errW_none,errW_some] <;> rfl))|(simp [*,errW_none,errW_some] <;> rfl),be0_ HB.out⟩
mutual
def spec_l6Mul.l0 : Nat → Int → Int → Int → List Int → Int → List Int → Int → List Int → Option (Int × List Int)
 | 0,_,_,_,_,_,_,_,_ => none
 | k + 1,x16,x17,x602000,x602001,x603000,x603001,x605000,x605001 => if x17 < x16 then (spec_l6Mul.l1 k x17 3 x16 x17 x602000 0 x602000 x602001 x603000 x603001 x605000 x605001) else (some (x605000,x605001))
def spec_l6Mul.l1 : Nat → Int → Int → Int → Int → Int → Int → Int → List Int → Int → List Int → Int → List Int → Option (Int × List Int)
 | 0,_,_,_,_,_,_,_,_,_,_,_,_ => none
 | k + 1,x6,x7,x16,x17,x21,x22,x602000,x602001,x603000,x603001,x605000,x605001 => if x22 < x21 then (if x602000 = 0 then (none) else (if 0 ≤ (wrap64 ((wrap64 ((wrap64 (Int.tdiv x6 x602000)) * x602000)) + x22)) then (if (wrap64 ((wrap64 ((wrap64 (Int.tdiv x6 x602000)) * x602000)) + x22)) < (x602001.length : Int) then (if 0 ≤ (wrap64 ((wrap64 (x22 * x602000)) + (Int.tmod x6 x602000))) then (if (wrap64 ((wrap64 (x22 * x602000)) + (Int.tmod x6 x602000))) < (x603001.length : Int) then (spec_l6Mul.l1 k x6 (mn x7 (mx (rd x602001 (wrap64 ((wrap64 ((wrap64 (Int.tdiv x6 x602000)) * x602000)) + x22))) (rd x603001 (wrap64 ((wrap64 (x22 * x602000)) + (Int.tmod x6 x602000)))))) x16 x17 x21 (wrap64 (x22 + 1)) x602000 x602001 x603000 x603001 x605000 x605001) else (none)) else (none)) else (none)) else (none))) else (if x605001.length < 17592186044416 then (spec_l6Mul.l0 k x16 (wrap64 (x17 + 1)) x602000 x602001 x603000 x603001 x605000 (x605001 ++ [x7])) else (none))
end
def spec_l6Mul.f (k : Nat) (a0_0 : Int) (l0_1 : List Int) (a1_0 : Int) (l1_1 : List Int) : Option (Int × List Int):=spec_l6Mul.l0 k (wrap64 (a0_0 * a0_0)) 0 a0_0 l0_1 a1_0 l1_1 a0_0 ([] : List Int)
theorem spec_l6Mul.mono_l : ∀ k,(∀ y0 y1 y2 y3 y4 y5 y6 y7,LeO (spec_l6Mul.l0 k y0 y1 y2 y3 y4 y5 y6 y7) (spec_l6Mul.l0 (k + 1) y0 y1 y2 y3 y4 y5 y6 y7)) ∧ (∀ y0 y1 y2 y3 y4 y5 y6 y7 y8 y9 y10 y11,LeO (spec_l6Mul.l1 k y0 y1 y2 y3 y4 y5 y6 y7 y8 y9 y10 y11) (spec_l6Mul.l1 (k + 1) y0 y1 y2 y3 y4 y5 y6 y7 y8 y9 y10 y11))
 | 0 => ⟨fun _ _ _ _ _ _ _ _ r h => by simp [spec_l6Mul.l0] at h,fun _ _ _ _ _ _ _ _ _ _ _ _ r h => by simp [spec_l6Mul.l1] at h⟩
 | k + 1 => by
  obtain ⟨ih0,ih1⟩:=spec_l6Mul.mono_l k
  refine ⟨?_,?_⟩
  ·intro y0 y1 y2 y3 y4 y5 y6 y7
   unfold spec_l6Mul.l0
   repeat' first
   | (with_reducible exact ih0 _ _ _ _ _ _ _ _)
   | (with_reducible exact ih1 _ _ _ _ _ _ _ _ _ _ _ _)
   | (with_reducible first|exact LeO.refl _|exact LeO.none _|refine LeO.ite ?_ ?_|refine LeO.bind ?_ (fun _ => ?_))
   | exact ih0 _ _ _ _ _ _ _ _
   | exact ih1 _ _ _ _ _ _ _ _ _ _ _ _
   | exact LeO.none _
   | refine LeO.ite ?_ ?_
   | refine LeO.bind ?_ (fun _ => ?_)
  ·intro y0 y1 y2 y3 y4 y5 y6 y7 y8 y9 y10 y11
   unfold spec_l6Mul.l1
   repeat' first
   | (with_reducible exact ih0 _ _ _ _ _ _ _ _)
   | (with_reducible exact ih1 _ _ _ _ _ _ _ _ _ _ _ _)
   | (with_reducible first|exact LeO.refl _|exact LeO.none _|refine LeO.ite ?_ ?_|refine LeO.bind ?_ (fun _ => ?_))
   | exact ih0 _ _ _ _ _ _ _ _
   | exact ih1 _ _ _ _ _ _ _ _ _ _ _ _
   | exact LeO.none _
   | refine LeO.ite ?_ ?_
   | refine LeO.bind ?_ (fun _ => ?_)
theorem spec_l6Mul.mono : ∀ a0 a1 a2 a3 k,LeO (spec_l6Mul.f k a0 a1 a2 a3) (spec_l6Mul.f (k + 1) a0 a1 a2 a3):=by
 intro a0 a1 a2 a3 k
 obtain ⟨ih0,ih1⟩:=spec_l6Mul.mono_l k
 unfold spec_l6Mul.f
 repeat' first
   | (with_reducible exact ih0 _ _ _ _ _ _ _ _)
   | (with_reducible exact ih1 _ _ _ _ _ _ _ _ _ _ _ _)
   | (with_reducible first|exact LeO.refl _|exact LeO.none _|refine LeO.ite ?_ ?_|refine LeO.bind ?_ (fun _ => ?_))
   | exact ih0 _ _ _ _ _ _ _ _
   | exact ih1 _ _ _ _ _ _ _ _ _ _ _ _
   | exact LeO.none _
   | refine LeO.ite ?_ ?_
   | refine LeO.bind ?_ (fun _ => ?_)
set_option maxHeartbeats 8000000 in
set_option maxRecDepth 100000 in
theorem spec_l6Mul.calls (k : Nat) (a0_0 : Int) (A0_1 : Option Addr) (c0_1 : Nat) (l0_1 : List Int) (a1_0 : Int) (A1_1 : Option Addr) (c1_1 : Nat) (l1_1 : List Int) (r1 : Int) (r2 : List Int) (w : World) (hr0_1 : Kd.C (Kd.int .i64) w A0_1 l0_1.length l0_1) (hc0_1 : l0_1.length ≤ c0_1) (hr1_1 : Kd.C (Kd.int .i64) w A1_1 l1_1.length l1_1) (hc1_1 : l1_1.length ≤ c1_1) (h : spec_l6Mul.f k a0_0 l0_1 a1_0 l1_1 = some (r1,r2)) :
  Calls Try.prog 144 #[.agg #[.int .i64 a0_0,.slice A0_1 l0_1.length c0_1],.agg #[.int .i64 a1_0,.slice A1_1 l1_1.length c1_1]] w fun e w' => ∃ v1_ : Value,e = .returned (.agg #[.int .i64 r1,v1_]) ∧ Kd.R (Kd.int .i64) 3 w' w.heap.size (fun _ => True) v1_ r2 ∧ Below w.heap.size w w':=by
 have hu35:=Try.underlying35
 have HR0_1:=Aside0.mk hr0_1
 have HC0_1:=Aside0.mk hc0_1
 clear hr0_1 hc0_1
 have HR1_1:=Aside0.mk hr1_1
 have HC1_1:=Aside0.mk hc1_1
 clear hr1_1 hc1_1
 have HB:=Aside0.mk (Below.refl w.heap.size w)
 have H : (spec_l6Mul.l0 k (wrap64 (a0_0 * a0_0)) 0 a0_0 l0_1 a1_0 l1_1 a0_0 ([] : List Int)) = some (r1,r2):=h
 clear h
 have H':=Aside0.mk H
 clear H
 go_enter Try.func144,Try.ntmps144
 go_wp2_with (first|((with_reducible refine bev_ (N:=2) rfl rfl (cs:=#[.int .i64 a0_0,.slice A0_1 l0_1.length c0_1]) (t:=35) ?hr ?_);(case hr => first|(go_simp;done)|(go_simp;rfl));intro gb601 hg w3 hbox hb;have BK601:=Aside0.mk (hbox);have GW601:=gw0_ hg HB;have GE601:=GW601;replace HB:=hs0_ HB hb;clear hb hbox hg)|((with_reducible refine bev_ (N:=3) rfl rfl (cs:=#[.int .i64 a1_0,.slice A1_1 l1_1.length c1_1]) (t:=35) ?hr ?_);(case hr => first|(go_simp;done)|(go_simp;rfl));intro gb602 hg w4 hbox hb;have BK602:=Aside0.mk (hbox);have GW602:=gw1_ hg HB GE601;have GE602:=GW602;replace HB:=hs1_ HB GE601 hb;have NB601_602:=nm_ hg BK601;have NB602_601:=nn_ hg BK601;replace BK601:=kc_ BK601 hb;clear hb hbox hg)|((with_reducible refine bev_ (N:=4) rfl rfl (cs:=#[.int .i64 0,.slice none 0 0]) (t:=35) ?hr ?_);(case hr => first|(go_simp;done)|(go_simp;rfl));intro gb603 hg w5 hbox hb;have BK603:=Aside0.mk (hbox);have GW603:=gw2_ hg HB GE601 GE602;have GE603:=GW603;replace HB:=hs2_ HB GE601 GE602 hb;have NB601_603:=nm_ hg BK601;have NB603_601:=nn_ hg BK601;replace BK601:=kc_ BK601 hb;have NB602_603:=nm_ hg BK602;have NB603_602:=nn_ hg BK602;replace BK602:=kc_ BK602 hb;clear hb hbox hg;have hnb6:=NB601_602.out;have hnc6:=NB602_601.out;have hnb7:=NB601_603.out;have hnc7:=NB603_601.out;obtain ⟨hcz8_0,hcz8_1,hfz8_0,hfz8_1⟩:=cf2_ BK601.out)|((with_reducible refine bev_ (N:=5) rfl rfl (cs:=#[.int .i64 0,.slice none 0 0]) (t:=35) ?hr ?_);(case hr => first|(go_simp;done)|(go_simp;rfl));intro gb604 hg w9 hbox hb;have BK604:=Aside0.mk (hbox);have GW604:=gw3_ hg HB GE601 GE602 GE603;have GE604:=GW604;replace HB:=hs3_ HB GE601 GE602 GE603 hb;have NB601_604:=nm_ hg BK601;have NB604_601:=nn_ hg BK601;replace BK601:=kc_ BK601 hb;have NB602_604:=nm_ hg BK602;have NB604_602:=nn_ hg BK602;replace BK602:=kc_ BK602 hb;have NB603_604:=nm_ hg BK603;have NB604_603:=nn_ hg BK603;replace BK603:=kc_ BK603 hb;clear hb hbox hg;have hnb10:=NB604_601.out;have hnc10:=NB601_604.out;have hnb11:=NB604_602.out;have hnc11:=NB602_604.out;have hnb12:=NB604_603.out;have hnc12:=NB603_604.out;obtain ⟨hcz13_0,hcz13_1,hfz13_0,hfz13_1⟩:=cf2_ BK604.out;obtain ⟨hcz14_0,hcz14_1,hfz14_0,hfz14_1⟩:=cf2_ BK601.out))
 repeat (go_quiet (first|((with_reducible refine bev_ (N:=2) rfl rfl (cs:=#[.int .i64 a0_0,.slice A0_1 l0_1.length c0_1]) (t:=35) ?hr ?_);(case hr => first|(go_simp;done)|(go_simp;rfl));intro gb601 hg w3 hbox hb;have BK601:=Aside0.mk (hbox);have GW601:=gw0_ hg HB;have GE601:=GW601;replace HB:=hs0_ HB hb;clear hb hbox hg)|((with_reducible refine bev_ (N:=3) rfl rfl (cs:=#[.int .i64 a1_0,.slice A1_1 l1_1.length c1_1]) (t:=35) ?hr ?_);(case hr => first|(go_simp;done)|(go_simp;rfl));intro gb602 hg w4 hbox hb;have BK602:=Aside0.mk (hbox);have GW602:=gw1_ hg HB GE601;have GE602:=GW602;replace HB:=hs1_ HB GE601 hb;have NB601_602:=nm_ hg BK601;have NB602_601:=nn_ hg BK601;replace BK601:=kc_ BK601 hb;clear hb hbox hg)|((with_reducible refine bev_ (N:=4) rfl rfl (cs:=#[.int .i64 0,.slice none 0 0]) (t:=35) ?hr ?_);(case hr => first|(go_simp;done)|(go_simp;rfl));intro gb603 hg w5 hbox hb;have BK603:=Aside0.mk (hbox);have GW603:=gw2_ hg HB GE601 GE602;have GE603:=GW603;replace HB:=hs2_ HB GE601 GE602 hb;have NB601_603:=nm_ hg BK601;have NB603_601:=nn_ hg BK601;replace BK601:=kc_ BK601 hb;have NB602_603:=nm_ hg BK602;have NB603_602:=nn_ hg BK602;replace BK602:=kc_ BK602 hb;clear hb hbox hg;have hnb6:=NB601_602.out;have hnc6:=NB602_601.out;have hnb7:=NB601_603.out;have hnc7:=NB603_601.out;obtain ⟨hcz8_0,hcz8_1,hfz8_0,hfz8_1⟩:=cf2_ BK601.out)|((with_reducible refine bev_ (N:=5) rfl rfl (cs:=#[.int .i64 0,.slice none 0 0]) (t:=35) ?hr ?_);(case hr => first|(go_simp;done)|(go_simp;rfl));intro gb604 hg w9 hbox hb;have BK604:=Aside0.mk (hbox);have GW604:=gw3_ hg HB GE601 GE602 GE603;have GE604:=GW604;replace HB:=hs3_ HB GE601 GE602 GE603 hb;have NB601_604:=nm_ hg BK601;have NB604_601:=nn_ hg BK601;replace BK601:=kc_ BK601 hb;have NB602_604:=nm_ hg BK602;have NB604_602:=nn_ hg BK602;replace BK602:=kc_ BK602 hb;have NB603_604:=nm_ hg BK603;have NB604_603:=nn_ hg BK603;replace BK603:=kc_ BK603 hb;clear hb hbox hg;have hnb10:=NB604_601.out;have hnc10:=NB601_604.out;have hnb11:=NB604_602.out;have hnc11:=NB602_604.out;have hnb12:=NB604_603.out;have hnc12:=NB603_604.out;obtain ⟨hcz13_0,hcz13_1,hfz13_0,hfz13_1⟩:=cf2_ BK604.out;obtain ⟨hcz14_0,hcz14_1,hfz14_0,hfz14_1⟩:=cf2_ BK601.out));try go_wp2_with (first|((with_reducible refine bev_ (N:=2) rfl rfl (cs:=#[.int .i64 a0_0,.slice A0_1 l0_1.length c0_1]) (t:=35) ?hr ?_);(case hr => first|(go_simp;done)|(go_simp;rfl));intro gb601 hg w3 hbox hb;have BK601:=Aside0.mk (hbox);have GW601:=gw0_ hg HB;have GE601:=GW601;replace HB:=hs0_ HB hb;clear hb hbox hg)|((with_reducible refine bev_ (N:=3) rfl rfl (cs:=#[.int .i64 a1_0,.slice A1_1 l1_1.length c1_1]) (t:=35) ?hr ?_);(case hr => first|(go_simp;done)|(go_simp;rfl));intro gb602 hg w4 hbox hb;have BK602:=Aside0.mk (hbox);have GW602:=gw1_ hg HB GE601;have GE602:=GW602;replace HB:=hs1_ HB GE601 hb;have NB601_602:=nm_ hg BK601;have NB602_601:=nn_ hg BK601;replace BK601:=kc_ BK601 hb;clear hb hbox hg)|((with_reducible refine bev_ (N:=4) rfl rfl (cs:=#[.int .i64 0,.slice none 0 0]) (t:=35) ?hr ?_);(case hr => first|(go_simp;done)|(go_simp;rfl));intro gb603 hg w5 hbox hb;have BK603:=Aside0.mk (hbox);have GW603:=gw2_ hg HB GE601 GE602;have GE603:=GW603;replace HB:=hs2_ HB GE601 GE602 hb;have NB601_603:=nm_ hg BK601;have NB603_601:=nn_ hg BK601;replace BK601:=kc_ BK601 hb;have NB602_603:=nm_ hg BK602;have NB603_602:=nn_ hg BK602;replace BK602:=kc_ BK602 hb;clear hb hbox hg;have hnb6:=NB601_602.out;have hnc6:=NB602_601.out;have hnb7:=NB601_603.out;have hnc7:=NB603_601.out;obtain ⟨hcz8_0,hcz8_1,hfz8_0,hfz8_1⟩:=cf2_ BK601.out)|((with_reducible refine bev_ (N:=5) rfl rfl (cs:=#[.int .i64 0,.slice none 0 0]) (t:=35) ?hr ?_);(case hr => first|(go_simp;done)|(go_simp;rfl));intro gb604 hg w9 hbox hb;have BK604:=Aside0.mk (hbox);have GW604:=gw3_ hg HB GE601 GE602 GE603;have GE604:=GW604;replace HB:=hs3_ HB GE601 GE602 GE603 hb;have NB601_604:=nm_ hg BK601;have NB604_601:=nn_ hg BK601;replace BK601:=kc_ BK601 hb;have NB602_604:=nm_ hg BK602;have NB604_602:=nn_ hg BK602;replace BK602:=kc_ BK602 hb;have NB603_604:=nm_ hg BK603;have NB604_603:=nn_ hg BK603;replace BK603:=kc_ BK603 hb;clear hb hbox hg;have hnb10:=NB604_601.out;have hnc10:=NB601_604.out;have hnb11:=NB604_602.out;have hnc11:=NB602_604.out;have hnb12:=NB604_603.out;have hnc12:=NB603_604.out;obtain ⟨hcz13_0,hcz13_1,hfz13_0,hfz13_1⟩:=cf2_ BK604.out;obtain ⟨hcz14_0,hcz14_1,hfz14_0,hfz14_1⟩:=cf2_ BK601.out)))
 go_loopg [17] k (fun kq v17 w' => ∃ (x17_1 : Int) (x605001_1 : List Int) (u605001 : Value),v17 = .int .i64 x17_1 ∧ Aside0 (spec_l6Mul.l0 kq (wrap64 (a0_0 * a0_0)) x17_1 a0_0 l0_1 a1_0 l1_1 a0_0 x605001_1 = some (r1,r2)) ∧ Aside0 (kq ≤ k) ∧ Aside0 (Kd.R (Kd.int .i64) 3 w' w.heap.size (fun _ => True) u605001 x605001_1) ∧ Aside0 (w'.heap[gb601]? = some (.cells #[.int .i64 a0_0,(.slice A0_1 l0_1.length c0_1)] 35 (0,0))) ∧ Aside0 (w'.heap[gb602]? = some (.cells #[.int .i64 a1_0,(.slice A1_1 l1_1.length c1_1)] 35 (0,0))) ∧ Aside0 (w'.heap[gb603]? = some (.cells #[.int .i64 0,(.slice none 0 0)] 35 (0,0))) ∧ Aside0 (w'.heap[gb604]? = some (.cells #[.int .i64 a0_0,u605001] 35 (0,0))) ∧ Aside0 (Below w.heap.size w w'))
 case atStart => exact ⟨(0),(([] : List Int)),(.slice none 0 0),rs_,H',⟨Nat.le_refl _⟩,⟨by first|exact Kd.R_nil _ _ _ _ _|exact Kd.N_nil _ _ _ _ _|exact Kd.V_nil _ _ _ _ _|exact Kd.Q_nil _ _ _ _ _|exact Kd.S_nil _ _ _ _ _⟩,⟨bf1_ BK601.out NB601_604.out⟩,⟨bf1_ BK602.out NB602_604.out⟩,⟨bf1_ BK603.out NB603_604.out⟩,⟨by refine pe_ ?_;refine blk_put (cs:=#[.int .i64 a0_0,.slice none 0 0]) ?_ 1 _ rfl;refine pe_ ?_;refine blk_put (cs:=#[.int .i64 0,.slice none 0 0]) ?_ 0 _ rfl;refine pe_ ?_;exact BK604.out⟩,⟨be4_ HB.out GE601.out GE602.out GE603.out GE604.out⟩⟩
 case round =>
  clear H'
  obtain ⟨x17_1,x605001_1,u605001,rfl,HA,HK1,HO_605001,BK601,BK602,BK603,BK604,HB⟩:=hrel
  cases gk with
  | zero => exact absurd HA.out (by simp [spec_l6Mul.l0])
  | succ k1 =>
   have H:=HA.out
   clear HA
   simp only [spec_l6Mul.l0] at H
   by_cases c15 : x17_1 < (wrap64 (a0_0 * a0_0))
   ·rw [if_pos c15] at H
    have c15b0 : decide (x17_1 < (wrap64 (a0_0 * a0_0))) = true:=decide_eq_true c15
    clear c15
    have H':=Aside0.mk H
    clear H
    have hnb16:=NB601_602.out
    have hnc16:=NB602_601.out
    have hnb17:=NB601_603.out
    have hnc17:=NB603_601.out
    have hnb18:=NB601_604.out
    have hnc18:=NB604_601.out
    obtain ⟨hcz19_0,hcz19_1,hfz19_0,hfz19_1⟩:=cf2_ BK601.out
    go_wp2
    repeat (go_quiet (fail);try go_wp2)
    go_loopg [7,22] k1 (fun kq v7 v22 w' => ∃ (x7_2 : Int) (x22_2 : Int),v7 = .int .i64 x7_2 ∧ v22 = .int .i64 x22_2 ∧ Aside0 (spec_l6Mul.l1 kq x17_1 x7_2 (wrap64 (a0_0 * a0_0)) x17_1 a0_0 x22_2 a0_0 l0_1 a1_0 l1_1 a0_0 x605001_1 = some (r1,r2)) ∧ Aside0 (kq ≤ k1) ∧ Aside0 (Kd.R (Kd.int .i64) 3 w' w.heap.size (fun _ => True) u605001 x605001_1) ∧ Aside0 (w'.heap[gb601]? = some (.cells #[.int .i64 a0_0,(.slice A0_1 l0_1.length c0_1)] 35 (0,0))) ∧ Aside0 (w'.heap[gb602]? = some (.cells #[.int .i64 a1_0,(.slice A1_1 l1_1.length c1_1)] 35 (0,0))) ∧ Aside0 (w'.heap[gb603]? = some (.cells #[.int .i64 0,(.slice none 0 0)] 35 (0,0))) ∧ Aside0 (w'.heap[gb604]? = some (.cells #[.int .i64 a0_0,u605001] 35 (0,0))) ∧ Aside0 (Below w.heap.size w w'))
    case atStart => exact ⟨(3),(0),rs_,rs_,H',⟨Nat.le_refl _⟩,⟨pr_ HO_605001.out⟩,⟨pe_ BK601.out⟩,⟨pe_ BK602.out⟩,⟨pe_ BK603.out⟩,⟨pe_ BK604.out⟩,⟨be4_ HB.out GE601.out GE602.out GE603.out GE604.out⟩⟩
    case round =>
     clear H'
     obtain ⟨x7_2,x22_2,rfl,rfl,HA,HK2,HO_605001,BK601,BK602,BK603,BK604,HB⟩:=hrel
     cases gk with
     | zero => exact absurd HA.out (by simp [spec_l6Mul.l1])
     | succ k2 =>
      have H:=HA.out
      clear HA
      simp only [spec_l6Mul.l1] at H
      by_cases c20 : x22_2 < a0_0
      ·rw [if_pos c20] at H
       have c20b0 : decide (x22_2 < a0_0) = true:=decide_eq_true c20
       clear c20
       by_cases c21 : a0_0 = 0
       ·rw [if_pos c21] at H
        exact absurd H (by simp)
       ·rw [if_neg c21] at H
        have c21b0 : (a0_0 == 0) = false:=beq_eq_false_iff_ne.mpr c21
        have c21b1 : (a0_0 != 0) = true:=bne_iff_ne.mpr c21
        obtain ⟨ji22,hji22⟩ : ∃ j_ : Int,(wrap64 ((wrap64 ((wrap64 (Int.tdiv x17_1 a0_0)) * a0_0)) + x22_2)) = j_:=⟨_,rfl⟩
        replace H : (if 0 ≤ (ji22) then (if (ji22) < (l0_1.length : Int) then (if 0 ≤ (wrap64 ((wrap64 (x22_2 * a0_0)) + (Int.tmod x17_1 a0_0))) then (if (wrap64 ((wrap64 (x22_2 * a0_0)) + (Int.tmod x17_1 a0_0))) < (l1_1.length : Int) then (spec_l6Mul.l1 k2 x17_1 (mn x7_2 (mx (rd l0_1 (ji22)) (rd l1_1 (wrap64 ((wrap64 (x22_2 * a0_0)) + (Int.tmod x17_1 a0_0)))))) (wrap64 (a0_0 * a0_0)) x17_1 a0_0 (wrap64 (x22_2 + 1)) a0_0 l0_1 a1_0 l1_1 a0_0 x605001_1) else (none)) else (none)) else (none)) else (none)) = some (r1,r2):=by first|(rw [hji22] at H;exact H)|(simp only [hji22] at H ⊢;exact H)
        have hji22w : (IntKind.i64.wrap ((wrap64 ((wrap64 (Int.tdiv x17_1 a0_0)) * a0_0)) + x22_2)) = ji22:=(i64_w _).trans hji22
        by_cases c23 : 0 ≤ (ji22)
        ·rw [if_pos c23] at H
         have c23b0 : decide (0 ≤ (ji22)) = true:=decide_eq_true c23
         clear c23
         by_cases c24 : (ji22) < (l0_1.length : Int)
         ·rw [if_pos c24] at H
          have c24b0 : decide ((ji22) < (l0_1.length : Int)) = true:=decide_eq_true c24
          clear c24
          obtain ⟨ji25,hji25⟩ : ∃ j_ : Int,(wrap64 ((wrap64 (x22_2 * a0_0)) + (Int.tmod x17_1 a0_0))) = j_:=⟨_,rfl⟩
          replace H : (if 0 ≤ (ji25) then (if (ji25) < (l1_1.length : Int) then (spec_l6Mul.l1 k2 x17_1 (mn x7_2 (mx (rd l0_1 (ji22)) (rd l1_1 (ji25)))) (wrap64 (a0_0 * a0_0)) x17_1 a0_0 (wrap64 (x22_2 + 1)) a0_0 l0_1 a1_0 l1_1 a0_0 x605001_1) else (none)) else (none)) = some (r1,r2):=by first|(rw [hji25] at H;exact H)|(simp only [hji25] at H ⊢;exact H)
          have hji25w : (IntKind.i64.wrap ((wrap64 (x22_2 * a0_0)) + (Int.tmod x17_1 a0_0))) = ji25:=(i64_w _).trans hji25
          by_cases c26 : 0 ≤ (ji25)
          ·rw [if_pos c26] at H
           have c26b0 : decide (0 ≤ (ji25)) = true:=decide_eq_true c26
           clear c26
           by_cases c27 : (ji25) < (l1_1.length : Int)
           ·rw [if_pos c27] at H
            have c27b0 : decide ((ji25) < (l1_1.length : Int)) = true:=decide_eq_true c27
            clear c27
            obtain ⟨ji28,hji28⟩ : ∃ j_ : Int,(mx (rd l0_1 (ji22)) (rd l1_1 (ji25))) = j_:=⟨_,rfl⟩
            replace H : (spec_l6Mul.l1 k2 x17_1 (mn x7_2 (ji28)) (wrap64 (a0_0 * a0_0)) x17_1 a0_0 (wrap64 (x22_2 + 1)) a0_0 l0_1 a1_0 l1_1 a0_0 x605001_1) = some (r1,r2):=by first|(rw [hji28] at H;exact H)|(simp only [hji28] at H ⊢;exact H)
            have hji28_ : (if (rd l0_1 (ji22)) < (rd l1_1 (ji25)) then (rd l1_1 (ji25)) else (rd l0_1 (ji22))) = ji28:=hji28
            obtain ⟨ji29,hji29⟩ : ∃ j_ : Int,(mn x7_2 (ji28)) = j_:=⟨_,rfl⟩
            replace H : (spec_l6Mul.l1 k2 x17_1 ji29 (wrap64 (a0_0 * a0_0)) x17_1 a0_0 (wrap64 (x22_2 + 1)) a0_0 l0_1 a1_0 l1_1 a0_0 x605001_1) = some (r1,r2):=by first|(rw [hji29] at H;exact H)|(simp only [hji29] at H ⊢;exact H)
            have hji29_ : (if (ji28) < x7_2 then (ji28) else x7_2) = ji29:=hji29
            have H':=Aside0.mk H
            clear H
            have hnb30:=NB601_602.out
            have hnc30:=NB602_601.out
            have hnb31:=NB601_603.out
            have hnc31:=NB603_601.out
            have hnb32:=NB601_604.out
            have hnc32:=NB604_601.out
            obtain ⟨hcz33_0,hcz33_1,hfz33_0,hfz33_1⟩:=cf2_ BK601.out
            have p605 : 0 ≤ ((ji22) : Int):=od_
            have q605 : (ji22) < (l0_1.length : Int):=od_
            obtain ⟨ad605,e605,hx605_0⟩:=Kd.at_int HR0_1.out (ji22) p605 q605
            cases e605
            replace hx605_0:=hbc_ HB.out hx605_0
            replace p605:=eq_true p605
            replace q605:=eq_true q605
            have hnb34:=NB602_603.out
            have hnc34:=NB603_602.out
            have hnb35:=NB602_604.out
            have hnc35:=NB604_602.out
            obtain ⟨hcz36_0,hcz36_1,hfz36_0,hfz36_1⟩:=cf2_ BK602.out
            have p606 : 0 ≤ ((ji25) : Int):=od_
            have q606 : (ji25) < (l1_1.length : Int):=od_
            obtain ⟨ad606,e606,hx606_0⟩:=Kd.at_int HR1_1.out (ji25) p606 q606
            cases e606
            replace hx606_0:=hbc_ HB.out hx606_0
            replace p606:=eq_true p606
            replace q606:=eq_true q606
            go_wp2
            repeat (go_quiet (fail);try go_wp2)
            go_roundg k2
            case measure => have:=HK1.out;have:=HK2.out;omega
            case rel => exact ⟨(ji29),(wrap64 (x22_2 + 1)),(by first|rfl|(simp;done)|(simp only [← hji29] <;> (first|rfl|simp))|(simp [*];done)),rs_,H',⟨by have:=HK1.out;have:=HK2.out;omega⟩,⟨pr_ HO_605001.out⟩,⟨pe_ BK601.out⟩,⟨pe_ BK602.out⟩,⟨pe_ BK603.out⟩,⟨pe_ BK604.out⟩,⟨be4_ HB.out GE601.out GE602.out GE603.out GE604.out⟩⟩
           ·rw [if_neg c27] at H
            exact absurd H (by simp)
          ·rw [if_neg c26] at H
           exact absurd H (by simp)
         ·rw [if_neg c24] at H
          exact absurd H (by simp)
        ·rw [if_neg c23] at H
         exact absurd H (by simp)
      ·rw [if_neg c20] at H
       have c20b0 : decide (x22_2 < a0_0) = false:=decide_eq_false c20
       clear c20
       by_cases c37 : x605001_1.length < 17592186044416
       ·rw [if_pos c37] at H
        have LMc37:=Aside0.mk c37
        clear c37
        obtain ⟨y607,hy607⟩ : ∃ y_ : List Int,y_ = (x605001_1 ++ [x7_2]):=⟨_,rfl⟩
        replace H : (spec_l6Mul.l0 k2 (wrap64 (a0_0 * a0_0)) (wrap64 (x17_1 + 1)) a0_0 l0_1 a1_0 l1_1 a0_0 y607) = some (r1,r2):=by first|(rw [hy607];with_reducible exact H)|(have H2_:=(Option.bind_some _ _).symm.trans H;rw [hy607];with_reducible exact H2_)|(have H2_:=(Option.bind_some _ _).symm.trans H;with_reducible exact H2_)|with_reducible exact H|(rw [hy607];exact H)|exact H
        have Ny607:=Aside0.mk hy607
        clear hy607
        have H':=Aside0.mk H
        clear H
        have hnb38:=NB604_601.out
        have hnc38:=NB601_604.out
        have hnb39:=NB604_602.out
        have hnc39:=NB602_604.out
        have hnb40:=NB604_603.out
        have hnc40:=NB603_604.out
        obtain ⟨hcz41_0,hcz41_1,hfz41_0,hfz41_1⟩:=cf2_ BK604.out
        go_wp2_with (first|((with_reducible refine gate_builtin (b:=.append) (xs:=#[.tmp 56,.tmp 58]) rfl ?_);at_builtin;refine Kd.R_append (Kd.int .i64) (w0:=w) w.heap.size rfl (.tmp 56) (.tmp 58) 22 3 (.int .i64 0) 8 rfl Try.underlying22 info3 rfl (by decide) (by omega) u605001 x605001_1 x7_2 [.int .i64 x7_2] (fun _ => True) (fun _ => False) rfl rfl ?aP (fun _ hk => hk.elim) ?aF ?aO ?aB ?aS ?aL ?_;(case aP => exact rfl);(case aB => exact (be4_ HB.out GE601.out GE602.out GE603.out GE604.out));(case aF => exact (fun _ _ => trivial));(case aO => exact (pr_ HO_605001.out));(case aS => exact (below_size (be4_ HB.out GE601.out GE602.out GE603.out GE604.out)));(case aL => have:=LMc37.out;omega);intro v608 w42 ho hb hg hat;rw [← Ny607.out] at ho;replace BK601:=Aside0.mk (blk_grown (g:=gb601) (o:=.cells #[.int .i64 a0_0,.slice A0_1 l0_1.length c0_1] 35 (0,0)) (pe_ BK601.out) hg (Kd.R_ne HO_605001.out BK601.out (by decide)));replace BK602:=Aside0.mk (blk_grown (g:=gb602) (o:=.cells #[.int .i64 a1_0,.slice A1_1 l1_1.length c1_1] 35 (0,0)) (pe_ BK602.out) hg (Kd.R_ne HO_605001.out BK602.out (by decide)));replace BK603:=Aside0.mk (blk_grown (g:=gb603) (o:=.cells #[.int .i64 0,.slice none 0 0] 35 (0,0)) (pe_ BK603.out) hg (Kd.R_ne HO_605001.out BK603.out (by decide)));replace BK604:=Aside0.mk (blk_grown (g:=gb604) (o:=.cells #[.int .i64 a0_0,u605001] 35 (0,0)) (pe_ BK604.out) hg (Kd.R_ne HO_605001.out BK604.out (by decide)));replace HB:=Aside0.mk (hb);have HO609:=Aside0.mk (ho);clear HO_605001;clear ho hb hg hat;obtain ⟨Ao43,co43,eo43⟩:=Kd.R_slice HO609.out;subst eo43;obtain ⟨hcz44_0,hcz44_1,hfz44_0,hfz44_1⟩:=cf2_ BK604.out))
        repeat (go_quiet (first|((with_reducible refine gate_builtin (b:=.append) (xs:=#[.tmp 56,.tmp 58]) rfl ?_);at_builtin;refine Kd.R_append (Kd.int .i64) (w0:=w) w.heap.size rfl (.tmp 56) (.tmp 58) 22 3 (.int .i64 0) 8 rfl Try.underlying22 info3 rfl (by decide) (by omega) u605001 x605001_1 x7_2 [.int .i64 x7_2] (fun _ => True) (fun _ => False) rfl rfl ?aP (fun _ hk => hk.elim) ?aF ?aO ?aB ?aS ?aL ?_;(case aP => exact rfl);(case aB => exact (be4_ HB.out GE601.out GE602.out GE603.out GE604.out));(case aF => exact (fun _ _ => trivial));(case aO => exact (pr_ HO_605001.out));(case aS => exact (below_size (be4_ HB.out GE601.out GE602.out GE603.out GE604.out)));(case aL => have:=LMc37.out;omega);intro v608 w42 ho hb hg hat;rw [← Ny607.out] at ho;replace BK601:=Aside0.mk (blk_grown (g:=gb601) (o:=.cells #[.int .i64 a0_0,.slice A0_1 l0_1.length c0_1] 35 (0,0)) (pe_ BK601.out) hg (Kd.R_ne HO_605001.out BK601.out (by decide)));replace BK602:=Aside0.mk (blk_grown (g:=gb602) (o:=.cells #[.int .i64 a1_0,.slice A1_1 l1_1.length c1_1] 35 (0,0)) (pe_ BK602.out) hg (Kd.R_ne HO_605001.out BK602.out (by decide)));replace BK603:=Aside0.mk (blk_grown (g:=gb603) (o:=.cells #[.int .i64 0,.slice none 0 0] 35 (0,0)) (pe_ BK603.out) hg (Kd.R_ne HO_605001.out BK603.out (by decide)));replace BK604:=Aside0.mk (blk_grown (g:=gb604) (o:=.cells #[.int .i64 a0_0,u605001] 35 (0,0)) (pe_ BK604.out) hg (Kd.R_ne HO_605001.out BK604.out (by decide)));replace HB:=Aside0.mk (hb);have HO609:=Aside0.mk (ho);clear HO_605001;clear ho hb hg hat;obtain ⟨Ao43,co43,eo43⟩:=Kd.R_slice HO609.out;subst eo43;obtain ⟨hcz44_0,hcz44_1,hfz44_0,hfz44_1⟩:=cf2_ BK604.out));try go_wp2_with (first|((with_reducible refine gate_builtin (b:=.append) (xs:=#[.tmp 56,.tmp 58]) rfl ?_);at_builtin;refine Kd.R_append (Kd.int .i64) (w0:=w) w.heap.size rfl (.tmp 56) (.tmp 58) 22 3 (.int .i64 0) 8 rfl Try.underlying22 info3 rfl (by decide) (by omega) u605001 x605001_1 x7_2 [.int .i64 x7_2] (fun _ => True) (fun _ => False) rfl rfl ?aP (fun _ hk => hk.elim) ?aF ?aO ?aB ?aS ?aL ?_;(case aP => exact rfl);(case aB => exact (be4_ HB.out GE601.out GE602.out GE603.out GE604.out));(case aF => exact (fun _ _ => trivial));(case aO => exact (pr_ HO_605001.out));(case aS => exact (below_size (be4_ HB.out GE601.out GE602.out GE603.out GE604.out)));(case aL => have:=LMc37.out;omega);intro v608 w42 ho hb hg hat;rw [← Ny607.out] at ho;replace BK601:=Aside0.mk (blk_grown (g:=gb601) (o:=.cells #[.int .i64 a0_0,.slice A0_1 l0_1.length c0_1] 35 (0,0)) (pe_ BK601.out) hg (Kd.R_ne HO_605001.out BK601.out (by decide)));replace BK602:=Aside0.mk (blk_grown (g:=gb602) (o:=.cells #[.int .i64 a1_0,.slice A1_1 l1_1.length c1_1] 35 (0,0)) (pe_ BK602.out) hg (Kd.R_ne HO_605001.out BK602.out (by decide)));replace BK603:=Aside0.mk (blk_grown (g:=gb603) (o:=.cells #[.int .i64 0,.slice none 0 0] 35 (0,0)) (pe_ BK603.out) hg (Kd.R_ne HO_605001.out BK603.out (by decide)));replace BK604:=Aside0.mk (blk_grown (g:=gb604) (o:=.cells #[.int .i64 a0_0,u605001] 35 (0,0)) (pe_ BK604.out) hg (Kd.R_ne HO_605001.out BK604.out (by decide)));replace HB:=Aside0.mk (hb);have HO609:=Aside0.mk (ho);clear HO_605001;clear ho hb hg hat;obtain ⟨Ao43,co43,eo43⟩:=Kd.R_slice HO609.out;subst eo43;obtain ⟨hcz44_0,hcz44_1,hfz44_0,hfz44_1⟩:=cf2_ BK604.out)))
        go_roundg k2
        case measure => have:=HK1.out;have:=HK2.out;omega
        case rel => exact ⟨(wrap64 (x17_1 + 1)),(y607),(.slice Ao43 y607.length co43),rs_,H',⟨by have:=HK1.out;have:=HK2.out;omega⟩,⟨by refine pr_ ?_;exact Kd.R_mono (Kd.R_far (p:=⟨gb604,1,none⟩) (Kd.R_types HO609.out BK604.out (by decide)) (fun _ hk => hk.2) (.slice Ao43 y607.length co43)) (fun _ hk => trivial)⟩,⟨bf1_ BK601.out NB601_604.out⟩,⟨bf1_ BK602.out NB602_604.out⟩,⟨bf1_ BK603.out NB603_604.out⟩,⟨by refine pe_ ?_;refine blk_put (cs:=#[.int .i64 a0_0,u605001]) ?_ 1 _ rfl;refine pe_ ?_;exact BK604.out⟩,⟨be4_ HB.out GE601.out GE602.out GE603.out GE604.out⟩⟩
       ·rw [if_neg c37] at H
        exact absurd H (by simp)
   ·rw [if_neg c15] at H
    have c15b0 : decide (x17_1 < (wrap64 (a0_0 * a0_0))) = false:=decide_eq_false c15
    clear c15
    simp only [Option.some.injEq,Prod.mk.injEq] at H
    obtain ⟨rfl,rfl⟩:=H
    have hnb45:=NB604_601.out
    have hnc45:=NB601_604.out
    have hnb46:=NB604_602.out
    have hnc46:=NB602_604.out
    have hnb47:=NB604_603.out
    have hnc47:=NB603_604.out
    obtain ⟨hcz48_0,hcz48_1,hfz48_0,hfz48_1⟩:=cf2_ BK604.out
    have hnb49:=NB603_601.out
    have hnc49:=NB601_603.out
    have hnb50:=NB603_602.out
    have hnc50:=NB602_603.out
    obtain ⟨hcz51_0,hcz51_1,hfz51_0,hfz51_1⟩:=cf2_ BK603.out
    obtain ⟨Ao52,co52,eo52⟩:=Kd.R_slice HO_605001.out
    subst eo52
    go_wp2
    repeat (go_quiet (fail);try go_wp2)
    refine bodyPost_ret (results_cell_row rfl _ _ gb603 35 #[.int .i64 a0_0,.slice Ao52 x605001_1.length co52] (0,0) _ rfl (by refine pe_ ?_;refine blk_put (cs:=#[.int .i64 a0_0,.slice none 0 0]) ?_ 1 _ rfl;refine pe_ ?_;refine blk_put (cs:=#[.int .i64 0,.slice none 0 0]) ?_ 0 _ rfl;refine pe_ ?_;exact BK603.out) Try.underlying35 rfl (by kernel_rfl)) rfl ?_
    exact ⟨_,er_,by refine pr_ ?_;exact Kd.R_mono (Kd.R_far (p:=⟨gb603,1,none⟩) (Kd.R_far (p:=⟨gb603,0,none⟩) (Kd.R_types HO_605001.out BK603.out (by decide)) (fun _ hk => hk.2) (.int .i64 a0_0)) (fun _ hk => hk.2) (.slice Ao52 x605001_1.length co52)) (fun _ hk => trivial),be4_ HB.out GE601.out GE602.out GE603.out GE604.out⟩
def spec_l6Idempotent.f (k : Nat) (a0_0 : Int) (l0_1 : List Int) : Option (Bool):=(spec_l6Mul.f k a0_0 l0_1 a0_0 l0_1).bind fun bt611 => ((spec_l2Same.f k bt611.2 l0_1).bind fun t615 => (some t615))
theorem spec_l6Idempotent.mono : ∀ a0 a1 k,LeO (spec_l6Idempotent.f k a0 a1) (spec_l6Idempotent.f (k + 1) a0 a1):=by
 intro a0 a1 k
 unfold spec_l6Idempotent.f
 repeat' first
   | (with_reducible exact spec_l2Same.mono _ _ _)
   | (with_reducible exact spec_l6Mul.mono _ _ _ _ _)
   | (with_reducible first|exact LeO.refl _|exact LeO.none _|refine LeO.ite ?_ ?_|refine LeO.bind ?_ (fun _ => ?_))
   | exact spec_l2Same.mono _ _ _
   | exact spec_l6Mul.mono _ _ _ _ _
   | exact LeO.none _
   | refine LeO.ite ?_ ?_
   | refine LeO.bind ?_ (fun _ => ?_)
def spec_l6Idempotent.T1 : Bool × List (List Nat × List Nat):=(true,[([],[]),([],[]),([0,1],[0,1]),([2],[2]),([],[]),([4],[4]),([3,5,2],[3,5]),([6,6,0,1,2,3,4,5,6],[6])])
def spec_l6Idempotent.B1 : List Nat:=[0,0,3,7,0,16,63,127]
theorem spec_l6Idempotent.tab1 : rtab .any (opsOf Try.f96 1) = spec_l6Idempotent.T1:=by kernel_rfl
theorem spec_l6Idempotent.bits1 : waitsOk spec_l6Idempotent.T1.2 spec_l6Idempotent.B1 = true:=by kernel_rfl
set_option maxHeartbeats 8000000 in
set_option maxRecDepth 100000 in
theorem spec_l6Idempotent.calls (k : Nat) (a0_0 : Int) (A0_1 : Option Addr) (c0_1 : Nat) (l0_1 : List Int) (r : Bool) (w : World) (hr0_1 : Kd.C (Kd.int .i64) w A0_1 l0_1.length l0_1) (hc0_1 : l0_1.length ≤ c0_1) (h : spec_l6Idempotent.f k a0_0 l0_1 = some r) :
  Calls Try.prog 96 #[.agg #[.int .i64 a0_0,.slice A0_1 l0_1.length c0_1]] w fun e w' => e = .returned (.bool r) ∧ Below w.heap.size w w':=by
 have hu35:=Try.underlying35
 have hfd35_1 : ∀ (y0 y1 : Value) (W : World),(Instr.field 35 (.agg #[y0,y1]) 1).run Try.prog W = .ok (y1) W:=fun y0 y1 W => by rfl
 have HR0_1:=Aside0.mk hr0_1
 have HC0_1:=Aside0.mk hc0_1
 clear hr0_1 hc0_1
 have HB:=Aside0.mk (Below.refl w.heap.size w)
 have H : ((spec_l6Mul.f k a0_0 l0_1 a0_0 l0_1).bind fun bt611 => ((spec_l2Same.f k bt611.2 l0_1).bind fun t615 => (some t615))) = some r:=h
 clear h
 replace H:=Option.bind_eq_some_iff.mp H
 obtain ⟨⟨t611,t612⟩,A20,H⟩:=H
 replace H : ((spec_l2Same.f k t612 l0_1).bind fun t615 => (some t615)) = some r:=H
 have A2:=Aside0.mk A20
 clear A20
 replace H:=Option.bind_eq_some_iff.mp H
 obtain ⟨t615,A30,H⟩:=H
 replace H : (some t615) = some r:=H
 have A3:=Aside0.mk A30
 clear A30
 obtain rfl:=Option.some.inj H
 go_enter Try.func96,Try.ntmps96
 try go_wp2_with (first|((with_reducible refine bev_ (N:=1) rfl rfl (cs:=#[.int .i64 a0_0,.slice A0_1 l0_1.length c0_1]) (t:=35) ?hr ?_);(case hr => first|(go_simp;done)|(go_simp;rfl));intro gb610 hg w4 hbox hb;have BK610:=Aside0.mk (hbox);have GW610:=gw0_ hg HB;have GE610:=GW610;replace HB:=hs0_ HB hb;clear hb hbox hg))
 replace BK610:=Aside0.mk (blk_drew BK610.out)
 replace HB:=Aside0.mk (below_drew1 HB.out)
 refine start_ (n:=8) (S:=fun w' => w'.cell? ⟨gb610,0,none⟩ = some (.int .i64 a0_0) ∧ w'.cell? ⟨gb610,1,none⟩ = some (.slice A0_1 l0_1.length c0_1)) (ds:=[]) #[false,false,false,false,false,false,false,false] (by kernel_rfl) rfl rfl ⟨bc_ BK610 0,bc_ BK610 1⟩ (fun hHeld => ?_);refine with_tabW spec_l6Idempotent.tab1 spec_l6Idempotent.bits1 (fun HT_ HW_ => ?_)
 generalize w4.drew = w5 at BK610 HB hHeld ⊢
 refine pure_ (i:=4) (N:=some 7) (v:=?_) (a':=?_) #[false,false,false,false,true,false,false,false] rfl rfl (any_of HT_.out (by kernel_rfl)) (fun _ _ _ h => h) (Or.inl ⟨by rfl,?_⟩) ?_ ?_
 rotate_left
 ·intro w'
  go_simp
  with_reducible rfl
 rotate_left
 ·simp only [Act.put,List.setIfInBounds_toArray,List.set_cons_zero,List.set_cons_succ,i64_w,i32_w]
  rfl
 refine take_ (i:=0) (N:=some 3) (v:=?_) (a':=?_) #[true,false,false,false,true,false,false,false] rfl rfl (take_ofW HT_.out HW_.out (by kernel_rfl)) (fun _ _ _ h => h) (Or.inl ⟨by rfl,?_⟩) hHeld ?_ ?_
 rotate_left
 ·rintro w' ⟨s0,s1⟩
  go_simp
  with_reducible rfl
 rotate_left
 ·simp only [Act.put,List.setIfInBounds_toArray,List.set_cons_zero,List.set_cons_succ,i64_w,i32_w]
  rfl
 refine take_ (i:=1) (N:=some 4) (v:=?_) (a':=?_) #[true,true,false,false,true,false,false,false] rfl rfl (take_ofW HT_.out HW_.out (by kernel_rfl)) (fun _ _ _ h => h) (Or.inl ⟨by rfl,?_⟩) hHeld ?_ ?_
 rotate_left
 ·rintro w' ⟨s0,s1⟩
  go_simp
  with_reducible rfl
 rotate_left
 ·simp only [Act.put,List.setIfInBounds_toArray,List.set_cons_zero,List.set_cons_succ,i64_w,i32_w]
  rfl
 refine take_ (i:=5) (N:=some 8) (v:=?_) (a':=?_) #[true,true,false,false,true,true,false,false] rfl rfl (take_ofW HT_.out HW_.out (by kernel_rfl)) (fun _ _ _ h => h) (Or.inl ⟨by rfl,?_⟩) hHeld ?_ ?_
 rotate_left
 ·rintro w' ⟨s0,s1⟩
  go_simp
  with_reducible rfl
 rotate_left
 ·simp only [Act.put,List.setIfInBounds_toArray,List.set_cons_zero,List.set_cons_succ,i64_w,i32_w]
  rfl
 refine one_ (i:=2) (N:=some 5) #[true,true,true,false,true,true,false,false] rfl rfl (one_of HT_.out (by kernel_rfl)) (by decide) (fun K hK => ?_)
 refine goes_ Try.func144 (by kernel_rfl) rfl #[.agg #[.int .i64 a0_0,.slice A0_1 l0_1.length c0_1],.agg #[.int .i64 a0_0,.slice A0_1 l0_1.length c0_1]] (by rfl) rfl rfl lp_ ?_
 with_reducible refine (spec_l6Mul.calls k a0_0 _ _ l0_1 a0_0 _ _ l0_1 t611 t612 _ ?side1 ?side2 ?side3 ?side4 A2.out).mono ?_
 (case side1 => exact cr_ (Kd.C_below HR0_1.out HB.out))
 (case side2 => exact HC0_1.out)
 (case side3 => exact cr_ (Kd.C_below HR0_1.out HB.out))
 (case side4 => exact HC0_1.out)
 rintro e w6 ⟨v613,rfl,ho0,hb⟩
 refine ⟨_,rfl,?_⟩
 have HO614:=Aside0.mk (Kd.R_lower ho0 (below_size (be1_ HB.out GE610.out)))
 replace BK610:=kc_ BK610 hb
 replace HB:=hs1_ HB GE610 hb
 (try clear hb)
 (try clear hb2)
 (try clear hk)
 (try clear hi)
 (try clear ho0)
 obtain ⟨Ao7,co7,eo7⟩:=Kd.R_slice HO614.out
 (first|subst eo7|(injection eo7 with f1_ f2_ f3_;have f4_:=f1_.symm;have f5_:=f3_.symm;clear f1_ f2_ f3_;subst f4_;subst f5_))
 refine hK.out _ _ ⟨bc_ BK610 0,bc_ BK610 1⟩ (fun hHeld => ?_)
 clear hK K
 refine norm_ (a':=?_) ?_ ?_
 rotate_left
 ·show Act.put _ (some 5) _ = _
  simp only [Act.put,List.setIfInBounds_toArray,List.set_cons_zero,List.set_cons_succ,i64_w,i32_w]
  rfl
 refine pure_ (i:=3) (N:=some 6) (v:=?_) (a':=?_) #[true,true,true,true,true,true,false,false] rfl rfl (any_of HT_.out (by kernel_rfl)) (fun _ _ _ h => h) (Or.inl ⟨by rfl,?_⟩) ?_ ?_
 rotate_left
 ·intro w'
  go_simp
  with_reducible rfl
 rotate_left
 ·simp only [Act.put,List.setIfInBounds_toArray,List.set_cons_zero,List.set_cons_succ,i64_w,i32_w]
  rfl
 refine one_ (i:=6) (N:=some 9) #[true,true,true,true,true,true,true,false] rfl rfl (one_of HT_.out (by kernel_rfl)) (by decide) (fun K hK => ?_)
 refine goes_ Try.func97 (by kernel_rfl) rfl #[.slice Ao7 t612.length co7,.slice A0_1 l0_1.length c0_1] (by rfl) rfl rfl lp_ ?_
 with_reducible refine (spec_l2Same.calls k _ _ t612 _ _ l0_1 t615 _ ?side1 ?side2 ?side3 ?side4 A3.out).mono ?_
 (case side1 => exact cr_ (Kd.R_reads' HO614.out).2.2)
 (case side2 => exact (Kd.R_reads' HO614.out).2.1)
 (case side3 => exact cr_ (Kd.C_below HR0_1.out HB.out))
 (case side4 => exact HC0_1.out)
 rintro e w8 ⟨rfl,hb⟩
 refine ⟨_,rfl,?_⟩
 replace HO614:=Aside0.mk (Kd.R_below (pr_ HO614.out) hb)
 replace BK610:=kc_ BK610 hb
 replace HB:=hs1_ HB GE610 hb
 (try clear hb)
 (try clear hb2)
 (try clear hk)
 (try clear hi)
 refine hK.out _ _ ⟨bc_ BK610 0,bc_ BK610 1⟩ (fun hHeld => ?_)
 clear hK K
 refine norm_ (a':=?_) ?_ ?_
 rotate_left
 ·show Act.put _ (some 9) _ = _
  simp only [Act.put,List.setIfInBounds_toArray,List.set_cons_zero,List.set_cons_succ,i64_w,i32_w]
  rfl
 refine pure_ (i:=7) (N:=some 2) (v:=?_) (a':=?_) #[true,true,true,true,true,true,true,true] rfl rfl (any_of HT_.out (by kernel_rfl)) (fun _ _ _ h => h) (Or.inl ⟨by rfl,?_⟩) ?_ ?_
 rotate_left
 ·intro w'
  go_simp
  with_reducible rfl
 rotate_left
 ·simp only [Act.put,List.setIfInBounds_toArray,List.set_cons_zero,List.set_cons_succ,i64_w,i32_w]
  rfl
 refine done_ (done_of HT_.out (by kernel_rfl)) ?_
 try go_wp2
 go_ret
 exact ⟨er_,be1_ HB.out GE610.out⟩
def spec_l6Again.f (a0 : Int) : Option (Int):=if a0 = 1 then (some 2) else (some a0)
set_option maxHeartbeats 8000000 in
set_option maxRecDepth 100000 in
theorem spec_l6Again.calls (a0 : Int) (r : Int) (w : World) (h : spec_l6Again.f a0 = some r) :
  Calls Try.prog 150 #[.int .i64 a0] w fun e w' => e = .returned (.int .i64 r) ∧ Drawn0 w w':=by
 have H : (if a0 = 1 then (some 2) else (some a0)) = some r:=h
 clear h
 by_cases c2 : a0 = 1
 ·rw [if_pos c2] at H
  have c2b0 : (a0 == 1) = true:=beq_iff_eq.mpr c2
  have c2b1 : (a0 != 1) = false:=bne_eq_false_iff_eq.mpr c2
  clear c2
  obtain rfl:=Option.some.inj H
  go_enter Try.func150,Try.ntmps150
  go_wp2
  go_ret
  exact ⟨by first|rfl|(simp;done)|(simp [*];done),by repeat (first|exact Drawn0.refl _|apply Drawn0.step)⟩
 ·rw [if_neg c2] at H
  have c2b0 : (a0 == 1) = false:=beq_eq_false_iff_ne.mpr c2
  have c2b1 : (a0 != 1) = true:=bne_iff_ne.mpr c2
  obtain rfl:=Option.some.inj H
  go_enter Try.func150,Try.ntmps150
  go_wp2
  go_ret
  exact ⟨by first|rfl|(simp;done)|(simp [*];done),by repeat (first|exact Drawn0.refl _|apply Drawn0.step)⟩
mutual
def spec_l6Stable.l0 : Nat → Int → Int → Int → List Int → Int → List Int → Option (Int × List Int)
 | 0,_,_,_,_,_,_ => none
 | k + 1,x14,x15,x617000,x617001,x619000,x619001 => if x15 < x14 then (spec_l6Stable.l1 k x15 3 x14 x15 x617000 0 x617000 x617001 x619000 x619001) else (some (x619000,x619001))
def spec_l6Stable.l1 : Nat → Int → Int → Int → Int → Int → Int → Int → List Int → Int → List Int → Option (Int × List Int)
 | 0,_,_,_,_,_,_,_,_,_,_ => none
 | k + 1,x4,x5,x14,x15,x19,x20,x617000,x617001,x619000,x619001 => if x20 < x19 then (if x617000 = 0 then (none) else (if 0 ≤ (wrap64 ((wrap64 ((wrap64 (Int.tdiv x4 x617000)) * x617000)) + x20)) then (if (wrap64 ((wrap64 ((wrap64 (Int.tdiv x4 x617000)) * x617000)) + x20)) < (x617001.length : Int) then (if 0 ≤ (wrap64 ((wrap64 (x20 * x617000)) + x20)) then (if (wrap64 ((wrap64 (x20 * x617000)) + x20)) < (x617001.length : Int) then ((spec_l6Again.f (rd x617001 (wrap64 ((wrap64 (x20 * x617000)) + x20)))).bind fun t621 => (if 0 ≤ (wrap64 ((wrap64 (x20 * x617000)) + (Int.tmod x4 x617000))) then (if (wrap64 ((wrap64 (x20 * x617000)) + (Int.tmod x4 x617000))) < (x617001.length : Int) then (spec_l6Stable.l1 k x4 (mn x5 (mx (mx (rd x617001 (wrap64 ((wrap64 ((wrap64 (Int.tdiv x4 x617000)) * x617000)) + x20))) t621) (rd x617001 (wrap64 ((wrap64 (x20 * x617000)) + (Int.tmod x4 x617000)))))) x14 x15 x19 (wrap64 (x20 + 1)) x617000 x617001 x619000 x619001) else (none)) else (none))) else (none)) else (none)) else (none)) else (none))) else (if x619001.length < 17592186044416 then (spec_l6Stable.l0 k x14 (wrap64 (x15 + 1)) x617000 x617001 x619000 (x619001 ++ [x5])) else (none))
end
def spec_l6Stable.f (k : Nat) (a0_0 : Int) (l0_1 : List Int) : Option (Int × List Int):=spec_l6Stable.l0 k (wrap64 (a0_0 * a0_0)) 0 a0_0 l0_1 a0_0 ([] : List Int)
theorem spec_l6Stable.mono_l : ∀ k,(∀ y0 y1 y2 y3 y4 y5,LeO (spec_l6Stable.l0 k y0 y1 y2 y3 y4 y5) (spec_l6Stable.l0 (k + 1) y0 y1 y2 y3 y4 y5)) ∧ (∀ y0 y1 y2 y3 y4 y5 y6 y7 y8 y9,LeO (spec_l6Stable.l1 k y0 y1 y2 y3 y4 y5 y6 y7 y8 y9) (spec_l6Stable.l1 (k + 1) y0 y1 y2 y3 y4 y5 y6 y7 y8 y9))
 | 0 => ⟨fun _ _ _ _ _ _ r h => by simp [spec_l6Stable.l0] at h,fun _ _ _ _ _ _ _ _ _ _ r h => by simp [spec_l6Stable.l1] at h⟩
 | k + 1 => by
  obtain ⟨ih0,ih1⟩:=spec_l6Stable.mono_l k
  refine ⟨?_,?_⟩
  ·intro y0 y1 y2 y3 y4 y5
   unfold spec_l6Stable.l0
   repeat' first
   | (with_reducible exact ih0 _ _ _ _ _ _)
   | (with_reducible exact ih1 _ _ _ _ _ _ _ _ _ _)
   | (with_reducible first|exact LeO.refl _|exact LeO.none _|refine LeO.ite ?_ ?_|refine LeO.bind ?_ (fun _ => ?_))
   | exact ih0 _ _ _ _ _ _
   | exact ih1 _ _ _ _ _ _ _ _ _ _
   | exact LeO.none _
   | refine LeO.ite ?_ ?_
   | refine LeO.bind ?_ (fun _ => ?_)
  ·intro y0 y1 y2 y3 y4 y5 y6 y7 y8 y9
   unfold spec_l6Stable.l1
   repeat' first
   | (with_reducible exact ih0 _ _ _ _ _ _)
   | (with_reducible exact ih1 _ _ _ _ _ _ _ _ _ _)
   | (with_reducible first|exact LeO.refl _|exact LeO.none _|refine LeO.ite ?_ ?_|refine LeO.bind ?_ (fun _ => ?_))
   | exact ih0 _ _ _ _ _ _
   | exact ih1 _ _ _ _ _ _ _ _ _ _
   | exact LeO.none _
   | refine LeO.ite ?_ ?_
   | refine LeO.bind ?_ (fun _ => ?_)
theorem spec_l6Stable.mono : ∀ a0 a1 k,LeO (spec_l6Stable.f k a0 a1) (spec_l6Stable.f (k + 1) a0 a1):=by
 intro a0 a1 k
 obtain ⟨ih0,ih1⟩:=spec_l6Stable.mono_l k
 unfold spec_l6Stable.f
 repeat' first
   | (with_reducible exact ih0 _ _ _ _ _ _)
   | (with_reducible exact ih1 _ _ _ _ _ _ _ _ _ _)
   | (with_reducible first|exact LeO.refl _|exact LeO.none _|refine LeO.ite ?_ ?_|refine LeO.bind ?_ (fun _ => ?_))
   | exact ih0 _ _ _ _ _ _
   | exact ih1 _ _ _ _ _ _ _ _ _ _
   | exact LeO.none _
   | refine LeO.ite ?_ ?_
   | refine LeO.bind ?_ (fun _ => ?_)
def spec_l6Stable.T9 : Bool × List (List Nat × List Nat):=(true,[([],[]),([],[]),([1],[1]),([],[]),([],[]),([4],[4]),([3,5],[3,5]),([],[]),([7],[7]),([6,8],[6,8]),([],[]),([9,10],[9,10]),([2,11],[2,11]),([12],[12]),([],[]),([14],[14]),([],[]),([],[]),([17],[17]),([16,18],[16,18]),([],[]),([19,20],[19,20]),([15,21],[15,21]),([22],[22]),([23],[23]),([],[]),([25],[25]),([],[]),([],[]),([28],[28]),([27,29],[27,29]),([],[]),([],[]),([32],[32]),([31,33],[31,33]),([30,34],[30,34]),([26,35],[26,35]),([36],[36]),([13,24,37],[13,24,37]),([0,38],[0,38]),([39,24,0,1,2,3,4,5,6,7,8,9,10,11,12,13,14,15,16,17,18,19,20,21,22,23,24,25,26,27,28,29,30,31,32,33,34,35,36,37,38,39],[0,39])])
def spec_l6Stable.B9 : List Nat:=[0,0,2,0,0,16,56,0,128,504,0,2040,4094,8190,0,16384,0,0,131072,458752,0,2031616,4177920,8372224,16760832,0,33554432,0,0,268435456,939524096,0,0,4294967296,15032385536,34225520640,68685922304,137405399040,274877906942,549755813887,1099511627775]
theorem spec_l6Stable.tab9 : rtab .any (opsOf Try.f98 9) = spec_l6Stable.T9:=by kernel_rfl
theorem spec_l6Stable.bits9 : waitsOk spec_l6Stable.T9.2 spec_l6Stable.B9 = true:=by kernel_rfl
set_option maxHeartbeats 8000000 in
set_option maxRecDepth 100000 in
theorem spec_l6Stable.calls (k : Nat) (a0_0 : Int) (A0_1 : Option Addr) (c0_1 : Nat) (l0_1 : List Int) (r1 : Int) (r2 : List Int) (w : World) (hr0_1 : Kd.C (Kd.int .i64) w A0_1 l0_1.length l0_1) (hc0_1 : l0_1.length ≤ c0_1) (h : spec_l6Stable.f k a0_0 l0_1 = some (r1,r2)) :
  Calls Try.prog 98 #[.agg #[.int .i64 a0_0,.slice A0_1 l0_1.length c0_1]] w fun e w' => ∃ v1_ : Value,e = .returned (.agg #[.int .i64 r1,v1_]) ∧ Kd.R (Kd.int .i64) 3 w' w.heap.size (fun _ => True) v1_ r2 ∧ Below w.heap.size w w':=by
 have hu35:=Try.underlying35
 have HR0_1:=Aside0.mk hr0_1
 have HC0_1:=Aside0.mk hc0_1
 clear hr0_1 hc0_1
 have HB:=Aside0.mk (Below.refl w.heap.size w)
 have H : (spec_l6Stable.l0 k (wrap64 (a0_0 * a0_0)) 0 a0_0 l0_1 a0_0 ([] : List Int)) = some (r1,r2):=h
 clear h
 have H':=Aside0.mk H
 clear H
 go_enter Try.func98,Try.ntmps98
 go_wp2_with (first|((with_reducible refine bev_ (N:=1) rfl rfl (cs:=#[.int .i64 a0_0,.slice A0_1 l0_1.length c0_1]) (t:=35) ?hr ?_);(case hr => first|(go_simp;done)|(go_simp;rfl));intro gb616 hg w2 hbox hb;have BK616:=Aside0.mk (hbox);have GW616:=gw0_ hg HB;have GE616:=GW616;replace HB:=hs0_ HB hb;clear hb hbox hg)|((with_reducible refine bev_ (N:=2) rfl rfl (cs:=#[.int .i64 0,.slice none 0 0]) (t:=35) ?hr ?_);(case hr => first|(go_simp;done)|(go_simp;rfl));intro gb617 hg w3 hbox hb;have BK617:=Aside0.mk (hbox);have GW617:=gw1_ hg HB GE616;have GE617:=GW617;replace HB:=hs1_ HB GE616 hb;have NB616_617:=nm_ hg BK616;have NB617_616:=nn_ hg BK616;replace BK616:=kc_ BK616 hb;clear hb hbox hg;have hnb4:=NB616_617.out;have hnc4:=NB617_616.out;obtain ⟨hcz5_0,hcz5_1,hfz5_0,hfz5_1⟩:=cf2_ BK616.out)|((with_reducible refine bev_ (N:=3) rfl rfl (cs:=#[.int .i64 0,.slice none 0 0]) (t:=35) ?hr ?_);(case hr => first|(go_simp;done)|(go_simp;rfl));intro gb618 hg w6 hbox hb;have BK618:=Aside0.mk (hbox);have GW618:=gw2_ hg HB GE616 GE617;have GE618:=GW618;replace HB:=hs2_ HB GE616 GE617 hb;have NB616_618:=nm_ hg BK616;have NB618_616:=nn_ hg BK616;replace BK616:=kc_ BK616 hb;have NB617_618:=nm_ hg BK617;have NB618_617:=nn_ hg BK617;replace BK617:=kc_ BK617 hb;clear hb hbox hg;have hnb7:=NB618_616.out;have hnc7:=NB616_618.out;have hnb8:=NB618_617.out;have hnc8:=NB617_618.out;obtain ⟨hcz9_0,hcz9_1,hfz9_0,hfz9_1⟩:=cf2_ BK618.out;obtain ⟨hcz10_0,hcz10_1,hfz10_0,hfz10_1⟩:=cf2_ BK616.out))
 go_loopg [15] k (fun kq v15 w' => ∃ (x15_1 : Int) (x619001_1 : List Int) (u619001 : Value),v15 = .int .i64 x15_1 ∧ Aside0 (spec_l6Stable.l0 kq (wrap64 (a0_0 * a0_0)) x15_1 a0_0 l0_1 a0_0 x619001_1 = some (r1,r2)) ∧ Aside0 (kq ≤ k) ∧ Aside0 (Kd.R (Kd.int .i64) 3 w' w.heap.size (fun _ => True) u619001 x619001_1) ∧ Aside0 (w'.heap[gb616]? = some (.cells #[.int .i64 a0_0,(.slice A0_1 l0_1.length c0_1)] 35 (0,0))) ∧ Aside0 (w'.heap[gb617]? = some (.cells #[.int .i64 0,(.slice none 0 0)] 35 (0,0))) ∧ Aside0 (w'.heap[gb618]? = some (.cells #[.int .i64 a0_0,u619001] 35 (0,0))) ∧ Aside0 (Below w.heap.size w w'))
 case atStart => exact ⟨(0),(([] : List Int)),(.slice none 0 0),rs_,H',⟨Nat.le_refl _⟩,⟨by first|exact Kd.R_nil _ _ _ _ _|exact Kd.N_nil _ _ _ _ _|exact Kd.V_nil _ _ _ _ _|exact Kd.Q_nil _ _ _ _ _|exact Kd.S_nil _ _ _ _ _⟩,⟨bf1_ BK616.out NB616_618.out⟩,⟨bf1_ BK617.out NB617_618.out⟩,⟨by refine pe_ ?_;refine blk_put (cs:=#[.int .i64 a0_0,.slice none 0 0]) ?_ 1 _ rfl;refine pe_ ?_;refine blk_put (cs:=#[.int .i64 0,.slice none 0 0]) ?_ 0 _ rfl;refine pe_ ?_;exact BK618.out⟩,⟨be3_ HB.out GE616.out GE617.out GE618.out⟩⟩
 case round =>
  clear H'
  obtain ⟨x15_1,x619001_1,u619001,rfl,HA,HK1,HO_619001,BK616,BK617,BK618,HB⟩:=hrel
  cases gk with
  | zero => exact absurd HA.out (by simp [spec_l6Stable.l0])
  | succ k1 =>
   have H:=HA.out
   clear HA
   simp only [spec_l6Stable.l0] at H
   by_cases c11 : x15_1 < (wrap64 (a0_0 * a0_0))
   ·rw [if_pos c11] at H
    have c11b0 : decide (x15_1 < (wrap64 (a0_0 * a0_0))) = true:=decide_eq_true c11
    clear c11
    have H':=Aside0.mk H
    clear H
    have hnb12:=NB616_617.out
    have hnc12:=NB617_616.out
    have hnb13:=NB616_618.out
    have hnc13:=NB618_616.out
    obtain ⟨hcz14_0,hcz14_1,hfz14_0,hfz14_1⟩:=cf2_ BK616.out
    go_wp2
    go_loopg [5,20] k1 (fun kq v5 v20 w' => ∃ (x5_2 : Int) (x20_2 : Int),v5 = .int .i64 x5_2 ∧ v20 = .int .i64 x20_2 ∧ Aside0 (spec_l6Stable.l1 kq x15_1 x5_2 (wrap64 (a0_0 * a0_0)) x15_1 a0_0 x20_2 a0_0 l0_1 a0_0 x619001_1 = some (r1,r2)) ∧ Aside0 (kq ≤ k1) ∧ Aside0 (Kd.R (Kd.int .i64) 3 w' w.heap.size (fun _ => True) u619001 x619001_1) ∧ Aside0 (w'.heap[gb616]? = some (.cells #[.int .i64 a0_0,(.slice A0_1 l0_1.length c0_1)] 35 (0,0))) ∧ Aside0 (w'.heap[gb617]? = some (.cells #[.int .i64 0,(.slice none 0 0)] 35 (0,0))) ∧ Aside0 (w'.heap[gb618]? = some (.cells #[.int .i64 a0_0,u619001] 35 (0,0))) ∧ Aside0 (Below w.heap.size w w'))
    case atStart => exact ⟨(3),(0),rs_,rs_,H',⟨Nat.le_refl _⟩,⟨pr_ HO_619001.out⟩,⟨pe_ BK616.out⟩,⟨pe_ BK617.out⟩,⟨pe_ BK618.out⟩,⟨be3_ HB.out GE616.out GE617.out GE618.out⟩⟩
    case round =>
     clear H'
     obtain ⟨x5_2,x20_2,rfl,rfl,HA,HK2,HO_619001,BK616,BK617,BK618,HB⟩:=hrel
     cases gk with
     | zero => exact absurd HA.out (by simp [spec_l6Stable.l1])
     | succ k2 =>
      have H:=HA.out
      clear HA
      simp only [spec_l6Stable.l1] at H
      by_cases c15 : x20_2 < a0_0
      ·rw [if_pos c15] at H
       have c15b0 : decide (x20_2 < a0_0) = true:=decide_eq_true c15
       clear c15
       by_cases c16 : a0_0 = 0
       ·rw [if_pos c16] at H
        exact absurd H (by simp)
       ·rw [if_neg c16] at H
        have c16b0 : (a0_0 == 0) = false:=beq_eq_false_iff_ne.mpr c16
        have c16b1 : (a0_0 != 0) = true:=bne_iff_ne.mpr c16
        obtain ⟨ji17,hji17⟩ : ∃ j_ : Int,(wrap64 ((wrap64 ((wrap64 (Int.tdiv x15_1 a0_0)) * a0_0)) + x20_2)) = j_:=⟨_,rfl⟩
        replace H : (if 0 ≤ (ji17) then (if (ji17) < (l0_1.length : Int) then (if 0 ≤ (wrap64 ((wrap64 (x20_2 * a0_0)) + x20_2)) then (if (wrap64 ((wrap64 (x20_2 * a0_0)) + x20_2)) < (l0_1.length : Int) then ((spec_l6Again.f (rd l0_1 (wrap64 ((wrap64 (x20_2 * a0_0)) + x20_2)))).bind fun t621 => (if 0 ≤ (wrap64 ((wrap64 (x20_2 * a0_0)) + (Int.tmod x15_1 a0_0))) then (if (wrap64 ((wrap64 (x20_2 * a0_0)) + (Int.tmod x15_1 a0_0))) < (l0_1.length : Int) then (spec_l6Stable.l1 k2 x15_1 (mn x5_2 (mx (mx (rd l0_1 (ji17)) t621) (rd l0_1 (wrap64 ((wrap64 (x20_2 * a0_0)) + (Int.tmod x15_1 a0_0)))))) (wrap64 (a0_0 * a0_0)) x15_1 a0_0 (wrap64 (x20_2 + 1)) a0_0 l0_1 a0_0 x619001_1) else (none)) else (none))) else (none)) else (none)) else (none)) else (none)) = some (r1,r2):=by first|(rw [hji17] at H;exact H)|(simp only [hji17] at H ⊢;exact H)
        have hji17w : (IntKind.i64.wrap ((wrap64 ((wrap64 (Int.tdiv x15_1 a0_0)) * a0_0)) + x20_2)) = ji17:=(i64_w _).trans hji17
        by_cases c18 : 0 ≤ (ji17)
        ·rw [if_pos c18] at H
         have c18b0 : decide (0 ≤ (ji17)) = true:=decide_eq_true c18
         clear c18
         by_cases c19 : (ji17) < (l0_1.length : Int)
         ·rw [if_pos c19] at H
          have c19b0 : decide ((ji17) < (l0_1.length : Int)) = true:=decide_eq_true c19
          clear c19
          obtain ⟨ji20,hji20⟩ : ∃ j_ : Int,(wrap64 ((wrap64 (x20_2 * a0_0)) + x20_2)) = j_:=⟨_,rfl⟩
          replace H : (if 0 ≤ (ji20) then (if (ji20) < (l0_1.length : Int) then ((spec_l6Again.f (rd l0_1 (ji20))).bind fun t621 => (if 0 ≤ (wrap64 ((wrap64 (x20_2 * a0_0)) + (Int.tmod x15_1 a0_0))) then (if (wrap64 ((wrap64 (x20_2 * a0_0)) + (Int.tmod x15_1 a0_0))) < (l0_1.length : Int) then (spec_l6Stable.l1 k2 x15_1 (mn x5_2 (mx (mx (rd l0_1 (ji17)) t621) (rd l0_1 (wrap64 ((wrap64 (x20_2 * a0_0)) + (Int.tmod x15_1 a0_0)))))) (wrap64 (a0_0 * a0_0)) x15_1 a0_0 (wrap64 (x20_2 + 1)) a0_0 l0_1 a0_0 x619001_1) else (none)) else (none))) else (none)) else (none)) = some (r1,r2):=by first|(rw [hji20] at H;exact H)|(simp only [hji20] at H ⊢;exact H)
          have hji20w : (IntKind.i64.wrap ((wrap64 (x20_2 * a0_0)) + x20_2)) = ji20:=(i64_w _).trans hji20
          by_cases c21 : 0 ≤ (ji20)
          ·rw [if_pos c21] at H
           have c21b0 : decide (0 ≤ (ji20)) = true:=decide_eq_true c21
           clear c21
           by_cases c22 : (ji20) < (l0_1.length : Int)
           ·rw [if_pos c22] at H
            have c22b0 : decide ((ji20) < (l0_1.length : Int)) = true:=decide_eq_true c22
            clear c22
            replace H:=Option.bind_eq_some_iff.mp H
            obtain ⟨t621,A230,H⟩:=H
            replace H : (if 0 ≤ (wrap64 ((wrap64 (x20_2 * a0_0)) + (Int.tmod x15_1 a0_0))) then (if (wrap64 ((wrap64 (x20_2 * a0_0)) + (Int.tmod x15_1 a0_0))) < (l0_1.length : Int) then (spec_l6Stable.l1 k2 x15_1 (mn x5_2 (mx (mx (rd l0_1 (ji17)) t621) (rd l0_1 (wrap64 ((wrap64 (x20_2 * a0_0)) + (Int.tmod x15_1 a0_0)))))) (wrap64 (a0_0 * a0_0)) x15_1 a0_0 (wrap64 (x20_2 + 1)) a0_0 l0_1 a0_0 x619001_1) else (none)) else (none)) = some (r1,r2):=H
            have A23:=Aside0.mk A230
            clear A230
            obtain ⟨ji24,hji24⟩ : ∃ j_ : Int,(wrap64 ((wrap64 (x20_2 * a0_0)) + (Int.tmod x15_1 a0_0))) = j_:=⟨_,rfl⟩
            replace H : (if 0 ≤ (ji24) then (if (ji24) < (l0_1.length : Int) then (spec_l6Stable.l1 k2 x15_1 (mn x5_2 (mx (mx (rd l0_1 (ji17)) t621) (rd l0_1 (ji24)))) (wrap64 (a0_0 * a0_0)) x15_1 a0_0 (wrap64 (x20_2 + 1)) a0_0 l0_1 a0_0 x619001_1) else (none)) else (none)) = some (r1,r2):=by first|(rw [hji24] at H;exact H)|(simp only [hji24] at H ⊢;exact H)
            (try rw [hji24] at A23)
            have hji24w : (IntKind.i64.wrap ((wrap64 (x20_2 * a0_0)) + (Int.tmod x15_1 a0_0))) = ji24:=(i64_w _).trans hji24
            by_cases c25 : 0 ≤ (ji24)
            ·rw [if_pos c25] at H
             have c25b0 : decide (0 ≤ (ji24)) = true:=decide_eq_true c25
             clear c25
             by_cases c26 : (ji24) < (l0_1.length : Int)
             ·rw [if_pos c26] at H
              have c26b0 : decide ((ji24) < (l0_1.length : Int)) = true:=decide_eq_true c26
              clear c26
              obtain ⟨ji27,hji27⟩ : ∃ j_ : Int,(mx (rd l0_1 (ji17)) t621) = j_:=⟨_,rfl⟩
              replace H : (spec_l6Stable.l1 k2 x15_1 (mn x5_2 (mx (ji27) (rd l0_1 (ji24)))) (wrap64 (a0_0 * a0_0)) x15_1 a0_0 (wrap64 (x20_2 + 1)) a0_0 l0_1 a0_0 x619001_1) = some (r1,r2):=by first|(rw [hji27] at H;exact H)|(simp only [hji27] at H ⊢;exact H)
              (try rw [hji27] at A23)
              have hji27_ : (if (rd l0_1 (ji17)) < t621 then t621 else (rd l0_1 (ji17))) = ji27:=hji27
              obtain ⟨ji28,hji28⟩ : ∃ j_ : Int,(mx (ji27) (rd l0_1 (ji24))) = j_:=⟨_,rfl⟩
              replace H : (spec_l6Stable.l1 k2 x15_1 (mn x5_2 (ji28)) (wrap64 (a0_0 * a0_0)) x15_1 a0_0 (wrap64 (x20_2 + 1)) a0_0 l0_1 a0_0 x619001_1) = some (r1,r2):=by first|(rw [hji28] at H;exact H)|(simp only [hji28] at H ⊢;exact H)
              (try rw [hji28] at A23)
              have hji28_ : (if (ji27) < (rd l0_1 (ji24)) then (rd l0_1 (ji24)) else (ji27)) = ji28:=hji28
              obtain ⟨ji29,hji29⟩ : ∃ j_ : Int,(mn x5_2 (ji28)) = j_:=⟨_,rfl⟩
              replace H : (spec_l6Stable.l1 k2 x15_1 ji29 (wrap64 (a0_0 * a0_0)) x15_1 a0_0 (wrap64 (x20_2 + 1)) a0_0 l0_1 a0_0 x619001_1) = some (r1,r2):=by first|(rw [hji29] at H;exact H)|(simp only [hji29] at H ⊢;exact H)
              (try rw [hji29] at A23)
              have hji29_ : (if (ji28) < x5_2 then (ji28) else x5_2) = ji29:=hji29
              have H':=Aside0.mk H
              clear H
              try go_wp2
              replace HO_619001:=Aside0.mk (Kd.R_drew HO_619001.out)
              replace BK616:=Aside0.mk (blk_drew BK616.out)
              replace BK617:=Aside0.mk (blk_drew BK617.out)
              replace BK618:=Aside0.mk (blk_drew BK618.out)
              replace HB:=Aside0.mk (below_drew1 HB.out)
              have p619 : 0 ≤ ((ji17) : Int):=od_
              have q619 : (ji17) < (l0_1.length : Int):=od_
              obtain ⟨ad619,e619,hx619_0⟩:=Kd.at_int HR0_1.out (ji17) p619 q619
              have hw619_0:=hx619_0
              cases e619
              replace hx619_0:=hbc_ HB.out hx619_0
              replace p619:=eq_true p619
              replace q619:=eq_true q619
              have p620 : 0 ≤ ((ji20) : Int):=od_
              have q620 : (ji20) < (l0_1.length : Int):=od_
              obtain ⟨ad620,e620,hx620_0⟩:=Kd.at_int HR0_1.out (ji20) p620 q620
              have hw620_0:=hx620_0
              obtain rfl : ad619 = ad620:=(by injection e620)
              replace hx620_0:=hbc_ HB.out hx620_0
              replace p620:=eq_true p620
              replace q620:=eq_true q620
              have p622 : 0 ≤ ((ji24) : Int):=od_
              have q622 : (ji24) < (l0_1.length : Int):=od_
              obtain ⟨ad622,e622,hx622_0⟩:=Kd.at_int HR0_1.out (ji24) p622 q622
              have hw622_0:=hx622_0
              obtain rfl : ad619 = ad622:=(by injection e622)
              replace hx622_0:=hbc_ HB.out hx622_0
              replace p622:=eq_true p622
              replace q622:=eq_true q622
              refine start_ (n:=41) (S:=fun w' => w'.cell? ⟨gb616,0,none⟩ = some (.int .i64 a0_0) ∧ w'.cell? ⟨gb616,1,none⟩ = some (.slice (some ad619) l0_1.length c0_1) ∧ w'.cell? (ad619.add ((ji17)).toNat) = some (.int .i64 (rd l0_1 (ji17))) ∧ w'.cell? (ad619.add ((ji20)).toNat) = some (.int .i64 (rd l0_1 (ji20))) ∧ w'.cell? (ad619.add ((ji24)).toNat) = some (.int .i64 (rd l0_1 (ji24)))) (ds:=[]) #[false,false,false,false,false,false,false,false,false,false,false,false,false,false,false,false,false,false,false,false,false,false,false,false,false,false,false,false,false,false,false,false,false,false,false,false,false,false,false,false,false] (by kernel_rfl) rfl rfl ⟨bc_ BK616 0,bc_ BK616 1,(hbc_ HB.out hw619_0),(hbc_ HB.out hw620_0),(hbc_ HB.out hw622_0)⟩ (fun hHeld => ?_);refine with_tabW spec_l6Stable.tab9 spec_l6Stable.bits9 (fun HT_ HW_ => ?_)
              generalize wr.drew = w30 at HO_619001 BK616 BK617 BK618 HB hx619_0 hx620_0 hx622_0 hHeld ⊢
              refine stW_ [.p 0 23,.p 1 24,.p 3 26,.p 4 27,.p 7 30,.p 10 33,.p 14 37,.p 16 39,.p 17 40,.p 20 43,.p 25 48,.p 27 50,.p 28 51,.p 31 54,.p 32 55,.t 2 25,.t 5 28,.p 6 29,.t 8 31,.p 9 32,.p 11 34,.p 12 35,.t 13 36,.t 15 38,.t 18 41,.p 19 42,.p 21 44,.p 22 45,.t 23 46,.t 26 49,.t 29 52,.p 30 53,.t 33 56,.p 34 57,.p 35 58,.p 36 59,.t 37 60] 37 274861129727 41 HT_.out HW_.out hHeld (a':=?_) ?_ rfl (by kernel_rfl) (fun _ _ _ _ h => h) ?_
              rotate_left
              ·repeat (first|exact Steps.nil|(refine Steps.p (oi:=?_) (v:=?_) (a1:=?_) ?_ ?_ ?_ ?_ ?_;rotate_left 2;rfl;rfl;(refine Or.inl ⟨by rfl,?_⟩;intro w';go_simp;with_reducible rfl);rotate_left;exact ap_)|(refine Steps.t (oi:=?_) (v:=?_) (a1:=?_) ?_ ?_ ?_ ?_ ?_;rotate_left 2;rfl;rfl;(refine Or.inl ⟨by rfl,?_⟩;rintro w' ⟨s0,s1,s2,s3,s4⟩;go_simp;with_reducible rfl);rotate_left;exact ap_))
              refine one_ (i:=24) (N:=some 47) #[true,true,true,true,true,true,true,true,true,true,true,true,true,true,true,true,true,true,true,true,true,true,true,true,true,true,true,true,true,true,true,true,true,true,true,true,true,true,false,false,false] rfl rfl (one_of HT_.out (by kernel_rfl)) (by decide) (fun K hK => ?_)
              refine goes_ Try.func150 (by kernel_rfl) rfl #[.int .i64 (rd l0_1 (ji20))] (by rfl) rfl rfl (by (try simp only [List.map_toArray,List.map_cons,List.map_nil]);first|done|(simp only [hji20];rfl)|rfl|(simp only [List.length_drop,List.length_take];rfl)) ?_
              with_reducible refine (spec_l6Again.calls (rd l0_1 (ji20)) t621 _ A23.out).mono ?_
              rintro e w' ⟨rfl,⟨nd,rfl⟩⟩
              refine ⟨_,rfl,?_⟩
              refine hK.out _ _ ⟨bc_ BK616 0,bc_ BK616 1,((HB.out.cell (World.block_lt_of_cell? w _ hw619_0)).trans hw619_0),((HB.out.cell (World.block_lt_of_cell? w _ hw620_0)).trans hw620_0),((HB.out.cell (World.block_lt_of_cell? w _ hw622_0)).trans hw622_0)⟩ (fun hHeld => ?_)
              clear hK K
              refine norm_ (a':=?_) ?_ ?_
              rotate_left
              ·show Act.put _ (some 47) _ = _
               simp only [Act.put,List.setIfInBounds_toArray,List.set_cons_zero,List.set_cons_succ,i64_w,i32_w]
               rfl
              refine stW_ [.p 38 61,.p 39 62,.p 40 5] 3 2199023255551 41 HT_.out HW_.out hHeld (a':=?_) ?_ rfl (by kernel_rfl) (fun _ _ _ _ h => h) ?_
              rotate_left
              ·repeat (first|exact Steps.nil|(refine Steps.p (oi:=?_) (v:=?_) (a1:=?_) ?_ ?_ ?_ ?_ ?_;rotate_left 2;rfl;rfl;(refine Or.inl ⟨by rfl,?_⟩;intro w';go_simp;with_reducible rfl);rotate_left;exact ap_))
              refine done_ (done_of HT_.out (by kernel_rfl)) ?_
              try go_wp2
              go_roundg k2
              case measure => have:=HK1.out;have:=HK2.out;omega
              case rel => exact ⟨(ji29),(wrap64 (x20_2 + 1)),(by first|rfl|(simp;done)|(simp only [← hji29] <;> (first|rfl|simp))|(simp [*];done)),rs_,H',⟨by have:=HK1.out;have:=HK2.out;omega⟩,⟨pr_ HO_619001.out⟩,⟨pe_ BK616.out⟩,⟨pe_ BK617.out⟩,⟨pe_ BK618.out⟩,⟨be3_ HB.out GE616.out GE617.out GE618.out⟩⟩
             ·rw [if_neg c26] at H
              exact absurd H (by simp)
            ·rw [if_neg c25] at H
             exact absurd H (by simp)
           ·rw [if_neg c22] at H
            exact absurd H (by simp)
          ·rw [if_neg c21] at H
           exact absurd H (by simp)
         ·rw [if_neg c19] at H
          exact absurd H (by simp)
        ·rw [if_neg c18] at H
         exact absurd H (by simp)
      ·rw [if_neg c15] at H
       have c15b0 : decide (x20_2 < a0_0) = false:=decide_eq_false c15
       clear c15
       by_cases c31 : x619001_1.length < 17592186044416
       ·rw [if_pos c31] at H
        have LMc31:=Aside0.mk c31
        clear c31
        obtain ⟨y623,hy623⟩ : ∃ y_ : List Int,y_ = (x619001_1 ++ [x5_2]):=⟨_,rfl⟩
        replace H : (spec_l6Stable.l0 k2 (wrap64 (a0_0 * a0_0)) (wrap64 (x15_1 + 1)) a0_0 l0_1 a0_0 y623) = some (r1,r2):=by first|(rw [hy623];with_reducible exact H)|(have H2_:=(Option.bind_some _ _).symm.trans H;rw [hy623];with_reducible exact H2_)|(have H2_:=(Option.bind_some _ _).symm.trans H;with_reducible exact H2_)|with_reducible exact H|(rw [hy623];exact H)|exact H
        have Ny623:=Aside0.mk hy623
        clear hy623
        have H':=Aside0.mk H
        clear H
        have hnb32:=NB618_616.out
        have hnc32:=NB616_618.out
        have hnb33:=NB618_617.out
        have hnc33:=NB617_618.out
        obtain ⟨hcz34_0,hcz34_1,hfz34_0,hfz34_1⟩:=cf2_ BK618.out
        go_wp2_with (first|((with_reducible refine gate_builtin (b:=.append) (xs:=#[.tmp 65,.tmp 67]) rfl ?_);at_builtin;refine Kd.R_append (Kd.int .i64) (w0:=w) w.heap.size rfl (.tmp 65) (.tmp 67) 22 3 (.int .i64 0) 8 rfl Try.underlying22 info3 rfl (by decide) (by omega) u619001 x619001_1 x5_2 [.int .i64 x5_2] (fun _ => True) (fun _ => False) rfl rfl ?aP (fun _ hk => hk.elim) ?aF ?aO ?aB ?aS ?aL ?_;(case aP => exact rfl);(case aB => exact (be3_ HB.out GE616.out GE617.out GE618.out));(case aF => exact (fun _ _ => trivial));(case aO => exact (pr_ HO_619001.out));(case aS => exact (below_size (be3_ HB.out GE616.out GE617.out GE618.out)));(case aL => have:=LMc31.out;omega);intro v624 w35 ho hb hg hat;rw [← Ny623.out] at ho;replace BK616:=Aside0.mk (blk_grown (g:=gb616) (o:=.cells #[.int .i64 a0_0,.slice A0_1 l0_1.length c0_1] 35 (0,0)) (pe_ BK616.out) hg (Kd.R_ne HO_619001.out BK616.out (by decide)));replace BK617:=Aside0.mk (blk_grown (g:=gb617) (o:=.cells #[.int .i64 0,.slice none 0 0] 35 (0,0)) (pe_ BK617.out) hg (Kd.R_ne HO_619001.out BK617.out (by decide)));replace BK618:=Aside0.mk (blk_grown (g:=gb618) (o:=.cells #[.int .i64 a0_0,u619001] 35 (0,0)) (pe_ BK618.out) hg (Kd.R_ne HO_619001.out BK618.out (by decide)));replace HB:=Aside0.mk (hb);have HO625:=Aside0.mk (ho);clear HO_619001;clear ho hb hg hat;obtain ⟨Ao36,co36,eo36⟩:=Kd.R_slice HO625.out;subst eo36;obtain ⟨hcz37_0,hcz37_1,hfz37_0,hfz37_1⟩:=cf2_ BK618.out))
        go_roundg k2
        case measure => have:=HK1.out;have:=HK2.out;omega
        case rel => exact ⟨(wrap64 (x15_1 + 1)),(y623),(.slice Ao36 y623.length co36),rs_,H',⟨by have:=HK1.out;have:=HK2.out;omega⟩,⟨by refine pr_ ?_;exact Kd.R_mono (Kd.R_far (p:=⟨gb618,1,none⟩) (Kd.R_types HO625.out BK618.out (by decide)) (fun _ hk => hk.2) (.slice Ao36 y623.length co36)) (fun _ hk => trivial)⟩,⟨bf1_ BK616.out NB616_618.out⟩,⟨bf1_ BK617.out NB617_618.out⟩,⟨by refine pe_ ?_;refine blk_put (cs:=#[.int .i64 a0_0,u619001]) ?_ 1 _ rfl;refine pe_ ?_;exact BK618.out⟩,⟨be3_ HB.out GE616.out GE617.out GE618.out⟩⟩
       ·rw [if_neg c31] at H
        exact absurd H (by simp)
   ·rw [if_neg c11] at H
    have c11b0 : decide (x15_1 < (wrap64 (a0_0 * a0_0))) = false:=decide_eq_false c11
    clear c11
    simp only [Option.some.injEq,Prod.mk.injEq] at H
    obtain ⟨rfl,rfl⟩:=H
    have hnb38:=NB618_616.out
    have hnc38:=NB616_618.out
    have hnb39:=NB618_617.out
    have hnc39:=NB617_618.out
    obtain ⟨hcz40_0,hcz40_1,hfz40_0,hfz40_1⟩:=cf2_ BK618.out
    have hnb41:=NB617_616.out
    have hnc41:=NB616_617.out
    obtain ⟨hcz42_0,hcz42_1,hfz42_0,hfz42_1⟩:=cf2_ BK617.out
    obtain ⟨Ao43,co43,eo43⟩:=Kd.R_slice HO_619001.out
    subst eo43
    go_wp2
    refine bodyPost_ret (results_cell_row rfl _ _ gb617 35 #[.int .i64 a0_0,.slice Ao43 x619001_1.length co43] (0,0) _ rfl (by refine pe_ ?_;refine blk_put (cs:=#[.int .i64 a0_0,.slice none 0 0]) ?_ 1 _ rfl;refine pe_ ?_;refine blk_put (cs:=#[.int .i64 0,.slice none 0 0]) ?_ 0 _ rfl;refine pe_ ?_;exact BK617.out) Try.underlying35 rfl (by kernel_rfl)) rfl ?_
    exact ⟨_,er_,by refine pr_ ?_;exact Kd.R_mono (Kd.R_far (p:=⟨gb617,1,none⟩) (Kd.R_far (p:=⟨gb617,0,none⟩) (Kd.R_types HO_619001.out BK617.out (by decide)) (fun _ hk => hk.2) (.int .i64 a0_0)) (fun _ hk => hk.2) (.slice Ao43 x619001_1.length co43)) (fun _ hk => trivial),be3_ HB.out GE616.out GE617.out GE618.out⟩
def spec_l7Next.f (k : Nat) (a0 : ByteArray) : Option (ByteArray × Bool × ByteArray):=if 0 < (a0.size : Int) then (if (bt a0 0) = 40 then ((spec_l7End.f k a0 1).bind fun t639 => (if 1 ≤ t639 then (if t639 ≤ (a0.size : Int) then (if 0 ≤ (wrap64 (t639 + 2)) then (if (wrap64 (t639 + 2)) ≤ (a0.size : Int) then (some (a0.extract 1 (t639 : Int).toNat,true,a0.extract ((wrap64 (t639 + 2)) : Int).toNat a0.size)) else (none)) else (none)) else (none)) else (none))) else (if 0 ≤ 1 then (if 1 ≤ (a0.size : Int) then (some (a0.extract 0 1,false,a0.extract 1 a0.size)) else (none)) else (none))) else (none)
theorem spec_l7Next.mono : ∀ a0 k,LeO (spec_l7Next.f k a0) (spec_l7Next.f (k + 1) a0):=by
 intro a0 k
 unfold spec_l7Next.f
 repeat' first
   | (with_reducible exact spec_l7End.mono _ _ _)
   | (with_reducible first|exact LeO.refl _|exact LeO.none _|refine LeO.ite ?_ ?_|refine LeO.bind ?_ (fun _ => ?_))
   | exact spec_l7End.mono _ _ _
   | exact LeO.none _
   | refine LeO.ite ?_ ?_
   | refine LeO.bind ?_ (fun _ => ?_)
set_option maxHeartbeats 8000000 in
set_option maxRecDepth 100000 in
theorem spec_l7Next.calls (k : Nat) (a0 : ByteArray) (r1 : ByteArray) (r2 : Bool) (r3 : ByteArray) (w : World) (h : spec_l7Next.f k a0 = some (r1,r2,r3)) :
  Calls Try.prog 143 #[.string a0] w fun e w' => e = .returned (.tuple #[.string r1,.bool r2,.string r3]) ∧ Drawn0 w w':=by
 have H : (if 0 < (a0.size : Int) then (if (bt a0 0) = 40 then ((spec_l7End.f k a0 1).bind fun t639 => (if 1 ≤ t639 then (if t639 ≤ (a0.size : Int) then (if 0 ≤ (wrap64 (t639 + 2)) then (if (wrap64 (t639 + 2)) ≤ (a0.size : Int) then (some (a0.extract 1 (t639 : Int).toNat,true,a0.extract ((wrap64 (t639 + 2)) : Int).toNat a0.size)) else (none)) else (none)) else (none)) else (none))) else (if 0 ≤ 1 then (if 1 ≤ (a0.size : Int) then (some (a0.extract 0 1,false,a0.extract 1 a0.size)) else (none)) else (none))) else (none)) = some (r1,r2,r3):=h
 clear h
 by_cases c2 : 0 < (a0.size : Int)
 ·rw [if_pos c2] at H
  have c2b0 : decide (0 < (a0.size : Int)) = true:=decide_eq_true c2
  have c2b1 : decide (0 < a0.size) = true:=decide_eq_true (by omega)
  clear c2
  by_cases c4 : (bt a0 0) = 40
  ·rw [if_pos c4] at H
   have c4b0 : ((bt a0 0) == 40) = true:=beq_iff_eq.mpr c4
   have c4b1 : ((bt a0 0) != 40) = false:=bne_eq_false_iff_eq.mpr c4
   clear c4
   replace H:=Option.bind_eq_some_iff.mp H
   obtain ⟨t639,A50,H⟩:=H
   replace H : (if 1 ≤ t639 then (if t639 ≤ (a0.size : Int) then (if 0 ≤ (wrap64 (t639 + 2)) then (if (wrap64 (t639 + 2)) ≤ (a0.size : Int) then (some (a0.extract 1 (t639 : Int).toNat,true,a0.extract ((wrap64 (t639 + 2)) : Int).toNat a0.size)) else (none)) else (none)) else (none)) else (none)) = some (r1,r2,r3):=H
   have A5:=Aside0.mk A50
   clear A50
   by_cases c6 : 1 ≤ t639
   ·rw [if_pos c6] at H
    have c6b0:=eq_true c6
    have c6b1 : decide (1 ≤ t639) = true:=decide_eq_true c6
    clear c6
    by_cases c7 : t639 ≤ (a0.size : Int)
    ·rw [if_pos c7] at H
     have c7b0:=eq_true c7
     have c7b1 : decide (t639 ≤ (a0.size : Int)) = true:=decide_eq_true c7
     clear c7
     obtain ⟨ji8,hji8⟩ : ∃ j_ : Int,(wrap64 (t639 + 2)) = j_:=⟨_,rfl⟩
     replace H : (if 0 ≤ (ji8) then (if (ji8) ≤ (a0.size : Int) then (some (a0.extract 1 (t639 : Int).toNat,true,a0.extract ((ji8) : Int).toNat a0.size)) else (none)) else (none)) = some (r1,r2,r3):=by first|(rw [hji8] at H;exact H)|(simp only [hji8] at H ⊢;exact H)
     (try rw [hji8] at A5)
     have hji8w : (IntKind.i64.wrap (t639 + 2)) = ji8:=(i64_w _).trans hji8
     by_cases c9 : 0 ≤ (ji8)
     ·rw [if_pos c9] at H
      have c9b0:=eq_true c9
      have c9b1 : decide (0 ≤ (ji8)) = true:=decide_eq_true c9
      clear c9
      by_cases c10 : (ji8) ≤ (a0.size : Int)
      ·rw [if_pos c10] at H
       have c10b0:=eq_true c10
       have c10b1 : decide ((ji8) ≤ (a0.size : Int)) = true:=decide_eq_true c10
       clear c10
       simp only [Option.some.injEq,Prod.mk.injEq] at H
       obtain ⟨rfl,rfl,rfl⟩:=H
       have p3 : 0 ≤ (0 : Int):=(by omega)
       have q3 : 0 < a0.size:=(by have : (0 : Int) < (a0.size : Int):=od_;omega)
       have hx3 : ∀ h : 0 < a0.size,((a0[0]'h).toNat : Int) = bt a0 0:=bt_at a0 0
       clear p3
       have qi3 : (0 < (a0.size : Int)) = True:=eq_true (od_)
       replace q3:=eq_true q3
       go_enter Try.func143,Try.ntmps143
       go_wp2_with (first|(go_at_call 141;(with_reducible refine (spec_l7End.calls k a0 1 t639 _ A5.out).mono ?_);rintro e w' ⟨rfl,⟨nd,rfl⟩⟩;(try first|exact ⟨rfl,_,World.drewN_drewN _ _ _⟩|exact ⟨rfl,_,Eq.trans (World.drewN_drewN _ _ _) (congrArg (World.drewN _) (Nat.add_assoc _ _ _))⟩)))
       repeat (go_quiet (first|(go_at_call 141;(with_reducible refine (spec_l7End.calls k a0 1 t639 _ A5.out).mono ?_);rintro e w' ⟨rfl,⟨nd,rfl⟩⟩;(try first|exact ⟨rfl,_,World.drewN_drewN _ _ _⟩|exact ⟨rfl,_,Eq.trans (World.drewN_drewN _ _ _) (congrArg (World.drewN _) (Nat.add_assoc _ _ _))⟩)));try go_wp2_with (first|(go_at_call 141;(with_reducible refine (spec_l7End.calls k a0 1 t639 _ A5.out).mono ?_);rintro e w' ⟨rfl,⟨nd,rfl⟩⟩;(try first|exact ⟨rfl,_,World.drewN_drewN _ _ _⟩|exact ⟨rfl,_,Eq.trans (World.drewN_drewN _ _ _) (congrArg (World.drewN _) (Nat.add_assoc _ _ _))⟩))))
       go_ret3
       exact ⟨by first|rfl|(simp;done)|(simp only [← hji8] <;> (first|rfl|simp))|(simp [*];done),by repeat (first|exact Drawn0.refl _|apply Drawn0.step)⟩
      ·rw [if_neg c10] at H
       exact absurd H (by simp)
     ·rw [if_neg c9] at H
      exact absurd H (by simp)
    ·rw [if_neg c7] at H
     exact absurd H (by simp)
   ·rw [if_neg c6] at H
    exact absurd H (by simp)
  ·rw [if_neg c4] at H
   have c4b0 : ((bt a0 0) == 40) = false:=beq_eq_false_iff_ne.mpr c4
   have c4b1 : ((bt a0 0) != 40) = true:=bne_iff_ne.mpr c4
   by_cases c11 : 0 ≤ 1
   ·rw [if_pos c11] at H
    have c11b0:=eq_true c11
    have c11b1 : decide (0 ≤ 1) = true:=decide_eq_true c11
    clear c11
    by_cases c12 : 1 ≤ (a0.size : Int)
    ·rw [if_pos c12] at H
     have c12b0:=eq_true c12
     have c12b1 : decide (1 ≤ (a0.size : Int)) = true:=decide_eq_true c12
     clear c12
     have c13b0:=eq_true (od_ : 1 ≤ (a0.size : Int))
     simp only [Option.some.injEq,Prod.mk.injEq] at H
     obtain ⟨rfl,rfl,rfl⟩:=H
     have p3 : 0 ≤ (0 : Int):=(by omega)
     have q3 : 0 < a0.size:=(by have : (0 : Int) < (a0.size : Int):=od_;omega)
     have hx3 : ∀ h : 0 < a0.size,((a0[0]'h).toNat : Int) = bt a0 0:=bt_at a0 0
     clear p3
     have qi3 : (0 < (a0.size : Int)) = True:=eq_true (od_)
     replace q3:=eq_true q3
     go_enter Try.func143,Try.ntmps143
     go_wp2
     repeat (go_quiet (fail);try go_wp2)
     go_ret3
     exact ⟨by first|rfl|(simp;done)|(simp [*];done),by repeat (first|exact Drawn0.refl _|apply Drawn0.step)⟩
    ·rw [if_neg c12] at H
     exact absurd H (by simp)
   ·rw [if_neg c11] at H
    exact absurd H (by simp)
 ·rw [if_neg c2] at H
  exact absurd H (by simp)
end Go.Proofs.Ytfmbpoojpnoafaa.X
end
