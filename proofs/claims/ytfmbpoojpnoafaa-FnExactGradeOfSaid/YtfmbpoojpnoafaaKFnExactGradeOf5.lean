import Derived.Test.YtfmbpoojpnoafaaKFnExactGradeOf1
import Derived.Test.YtfmbpoojpnoafaaKFnExactGradeOf4
import Derived.Test.YtfmbpoojpnoafaaKFnExactGradeOf3
import Derived.Deep.Slices
import Derived.Deep.Fields
import Derived.ChangeSame
import Derived.Lib.SmallJoins
import Derived.ChangeSlices
import Derived.Lib.Bytealg
section
namespace Go.Proofs.Ytfmbpoojpnoafaa.X
open Go.RowKit Go.Proofs.YtfmbpoojpnoafaaW.PrintWords Go.Proofs.YtfmbpoojpnoafaaW.PrintLast Go.Proofs.YtfmbpoojpnoafaaW.PrintMore
attribute [local go_sem] max2_int min2_int max_two min_two max_three min_three max_four min_four
set_option linter.unusedVariables false
set_option linter.unusedSimpArgs false
def spec_l7Next.f (k : Nat) (a0 : ByteArray) : Option (ByteArray × Bool × ByteArray):=if 0 < (a0.size : Int) then (if (bt a0 0) = 40 then ((spec_l7End.f k a0 1).bind fun t639 => (if 1 ≤ t639 then (if t639 ≤ (a0.size : Int) then (if 0 ≤ (wrap64 (t639 + 2)) then (if (wrap64 (t639 + 2)) ≤ (a0.size : Int) then (some (a0.extract 1 (t639 : Int).toNat,true,a0.extract ((wrap64 (t639 + 2)) : Int).toNat a0.size)) else (none)) else (none)) else (none)) else (none))) else (if 0 ≤ 1 then (if 1 ≤ (a0.size : Int) then (some (a0.extract 0 1,false,a0.extract 1 a0.size)) else (none)) else (none))) else (none)
theorem spec_l7Next.mono : ∀ a0 k,LeO (spec_l7Next.f k a0) (spec_l7Next.f (k + 1) a0):=by
 intro a0 k
 unfold spec_l7Next.f
 repeat' first
   | (with_reducible exact spec_l7End.mono _ _ _)
   | (with_reducible first|exact LeO.refl _|exact LeO.none _|refine LeO.ite ?_ ?_|refine LeO.bind ?_ (fun _ => ?_))
   | exact spec_l7End.mono _ _ _
   | exact LeO.none _
   | refine LeO.ite ?_ ?_
   | refine LeO.bind ?_ (fun _ => ?_)
set_option maxHeartbeats 8000000 in
set_option maxRecDepth 100000 in
theorem spec_l7Next.calls (k : Nat) (a0 : ByteArray) (r1 : ByteArray) (r2 : Bool) (r3 : ByteArray) (w : World) (h : spec_l7Next.f k a0 = some (r1,r2,r3)) :
  Calls Try.prog 143 #[.string a0] w fun e w' => e = .returned (.tuple #[.string r1,.bool r2,.string r3]) ∧ Drawn0 w w':=by
 have H : (if 0 < (a0.size : Int) then (if (bt a0 0) = 40 then ((spec_l7End.f k a0 1).bind fun t639 => (if 1 ≤ t639 then (if t639 ≤ (a0.size : Int) then (if 0 ≤ (wrap64 (t639 + 2)) then (if (wrap64 (t639 + 2)) ≤ (a0.size : Int) then (some (a0.extract 1 (t639 : Int).toNat,true,a0.extract ((wrap64 (t639 + 2)) : Int).toNat a0.size)) else (none)) else (none)) else (none)) else (none))) else (if 0 ≤ 1 then (if 1 ≤ (a0.size : Int) then (some (a0.extract 0 1,false,a0.extract 1 a0.size)) else (none)) else (none))) else (none)) = some (r1,r2,r3):=h
 clear h
 by_cases c2 : 0 < (a0.size : Int)
 ·rw [if_pos c2] at H
  have c2b0 : decide (0 < (a0.size : Int)) = true:=decide_eq_true c2
  have c2b1 : decide (0 < a0.size) = true:=decide_eq_true (by omega)
  clear c2
  by_cases c4 : (bt a0 0) = 40
  ·rw [if_pos c4] at H
   have c4b0 : ((bt a0 0) == 40) = true:=beq_iff_eq.mpr c4
   have c4b1 : ((bt a0 0) != 40) = false:=bne_eq_false_iff_eq.mpr c4
   clear c4
   replace H:=Option.bind_eq_some_iff.mp H
   obtain ⟨t639,A50,H⟩:=H
   replace H : (if 1 ≤ t639 then (if t639 ≤ (a0.size : Int) then (if 0 ≤ (wrap64 (t639 + 2)) then (if (wrap64 (t639 + 2)) ≤ (a0.size : Int) then (some (a0.extract 1 (t639 : Int).toNat,true,a0.extract ((wrap64 (t639 + 2)) : Int).toNat a0.size)) else (none)) else (none)) else (none)) else (none)) = some (r1,r2,r3):=H
   have A5:=Aside0.mk A50
   clear A50
   by_cases c6 : 1 ≤ t639
   ·rw [if_pos c6] at H
    have c6b0:=eq_true c6
    have c6b1 : decide (1 ≤ t639) = true:=decide_eq_true c6
    clear c6
    by_cases c7 : t639 ≤ (a0.size : Int)
    ·rw [if_pos c7] at H
     have c7b0:=eq_true c7
     have c7b1 : decide (t639 ≤ (a0.size : Int)) = true:=decide_eq_true c7
     clear c7
     obtain ⟨ji8,hji8⟩ : ∃ j_ : Int,(wrap64 (t639 + 2)) = j_:=⟨_,rfl⟩
     replace H : (if 0 ≤ (ji8) then (if (ji8) ≤ (a0.size : Int) then (some (a0.extract 1 (t639 : Int).toNat,true,a0.extract ((ji8) : Int).toNat a0.size)) else (none)) else (none)) = some (r1,r2,r3):=by first|(rw [hji8] at H;exact H)|(simp only [hji8] at H ⊢;exact H)
     (try rw [hji8] at A5)
     have hji8w : (IntKind.i64.wrap (t639 + 2)) = ji8:=(i64_w _).trans hji8
     by_cases c9 : 0 ≤ (ji8)
     ·rw [if_pos c9] at H
      have c9b0:=eq_true c9
      have c9b1 : decide (0 ≤ (ji8)) = true:=decide_eq_true c9
      clear c9
      by_cases c10 : (ji8) ≤ (a0.size : Int)
      ·rw [if_pos c10] at H
       have c10b0:=eq_true c10
       have c10b1 : decide ((ji8) ≤ (a0.size : Int)) = true:=decide_eq_true c10
       clear c10
       simp only [Option.some.injEq,Prod.mk.injEq] at H
       obtain ⟨rfl,rfl,rfl⟩:=H
       have p3 : 0 ≤ (0 : Int):=(by omega)
       have q3 : 0 < a0.size:=(by have : (0 : Int) < (a0.size : Int):=od_;omega)
       have hx3 : ∀ h : 0 < a0.size,((a0[0]'h).toNat : Int) = bt a0 0:=bt_at a0 0
       clear p3
       have qi3 : (0 < (a0.size : Int)) = True:=eq_true (od_)
       replace q3:=eq_true q3
       go_enter Try.func143,Try.ntmps143
       go_wp2_with (first|(go_at_call 141;(with_reducible refine (spec_l7End.calls k a0 1 t639 _ A5.out).mono ?_);rintro e w' ⟨rfl,⟨nd,rfl⟩⟩;(try first|exact ⟨rfl,_,World.drewN_drewN _ _ _⟩|exact ⟨rfl,_,Eq.trans (World.drewN_drewN _ _ _) (congrArg (World.drewN _) (Nat.add_assoc _ _ _))⟩)))
       repeat (go_quiet (first|(go_at_call 141;(with_reducible refine (spec_l7End.calls k a0 1 t639 _ A5.out).mono ?_);rintro e w' ⟨rfl,⟨nd,rfl⟩⟩;(try first|exact ⟨rfl,_,World.drewN_drewN _ _ _⟩|exact ⟨rfl,_,Eq.trans (World.drewN_drewN _ _ _) (congrArg (World.drewN _) (Nat.add_assoc _ _ _))⟩)));try go_wp2_with (first|(go_at_call 141;(with_reducible refine (spec_l7End.calls k a0 1 t639 _ A5.out).mono ?_);rintro e w' ⟨rfl,⟨nd,rfl⟩⟩;(try first|exact ⟨rfl,_,World.drewN_drewN _ _ _⟩|exact ⟨rfl,_,Eq.trans (World.drewN_drewN _ _ _) (congrArg (World.drewN _) (Nat.add_assoc _ _ _))⟩))))
       go_ret3
       exact ⟨by first|rfl|(simp;done)|(simp only [← hji8] <;> (first|rfl|simp))|(simp [*];done),by repeat (first|exact Drawn0.refl _|apply Drawn0.step)⟩
      ·rw [if_neg c10] at H
       exact absurd H (by simp)
     ·rw [if_neg c9] at H
      exact absurd H (by simp)
    ·rw [if_neg c7] at H
     exact absurd H (by simp)
   ·rw [if_neg c6] at H
    exact absurd H (by simp)
  ·rw [if_neg c4] at H
   have c4b0 : ((bt a0 0) == 40) = false:=beq_eq_false_iff_ne.mpr c4
   have c4b1 : ((bt a0 0) != 40) = true:=bne_iff_ne.mpr c4
   by_cases c11 : 0 ≤ 1
   ·rw [if_pos c11] at H
    have c11b0:=eq_true c11
    have c11b1 : decide (0 ≤ 1) = true:=decide_eq_true c11
    clear c11
    by_cases c12 : 1 ≤ (a0.size : Int)
    ·rw [if_pos c12] at H
     have c12b0:=eq_true c12
     have c12b1 : decide (1 ≤ (a0.size : Int)) = true:=decide_eq_true c12
     clear c12
     have c13b0:=eq_true (od_ : 1 ≤ (a0.size : Int))
     simp only [Option.some.injEq,Prod.mk.injEq] at H
     obtain ⟨rfl,rfl,rfl⟩:=H
     have p3 : 0 ≤ (0 : Int):=(by omega)
     have q3 : 0 < a0.size:=(by have : (0 : Int) < (a0.size : Int):=od_;omega)
     have hx3 : ∀ h : 0 < a0.size,((a0[0]'h).toNat : Int) = bt a0 0:=bt_at a0 0
     clear p3
     have qi3 : (0 < (a0.size : Int)) = True:=eq_true (od_)
     replace q3:=eq_true q3
     go_enter Try.func143,Try.ntmps143
     go_wp2
     repeat (go_quiet (fail);try go_wp2)
     go_ret3
     exact ⟨by first|rfl|(simp;done)|(simp [*];done),by repeat (first|exact Drawn0.refl _|apply Drawn0.step)⟩
    ·rw [if_neg c12] at H
     exact absurd H (by simp)
   ·rw [if_neg c11] at H
    exact absurd H (by simp)
 ·rw [if_neg c2] at H
  exact absurd H (by simp)
mutual
def spec_l7Value.l0 : Nat → ByteArray → Int → List Int → List Int → List (S92) → Int → List Int → Option (Int × List Int × Bool)
 | 0,_,_,_,_,_,_,_ => none
 | k + 1,x1,x641000,x641001,x641002,x641003,x651000,x651001 => if x1.toList = ([] : List UInt8) then (some (x651000,x651001,true)) else ((spec_l7Next.f k x1).bind fun bt651 => (if bt651.2.1 = true then ((spec_l7Value.f k x641000 x641001 x641002 x641003 bt651.1).bind fun bt655 => (if bt655.2.2 = true then ((spec_l6Idempotent.f k bt655.1 bt655.2.1).bind fun t661 => (spec_l7Value.j1 k bt651.2.2 (!t661) x641000 x641001 x641002 x641003 x651000 x651001 bt655.1 bt655.2.1)) else (spec_l7Value.j1 k bt651.2.2 true x641000 x641001 x641002 x641003 x651000 x651001 bt655.1 bt655.2.1))) else ((spec_l3Matrix.f k x641000 x641001 x641002 x641003 bt651.1).bind fun bt670 => ((spec_l6Grades.f k bt670.1 bt670.2).bind fun bt674 => ((spec_l6Mul.f k x651000 x651001 bt674.1 bt674.2).bind fun bt678 => (spec_l7Value.l0 k bt651.2.2 x641000 x641001 x641002 x641003 bt678.1 bt678.2))))))
def spec_l7Value.j1 : Nat → ByteArray → Bool → Int → List Int → List Int → List (S92) → Int → List Int → Int → List Int → Option (Int × List Int × Bool)
 | 0,_,_,_,_,_,_,_,_,_,_ => none
 | k + 1,x9,x39,x641000,x641001,x641002,x641003,x651000,x651001,x661000,x661001 => if x39 = true then (some (0,([] : List Int),false)) else ((spec_l6Stable.f k x661000 x661001).bind fun bt662 => ((spec_l6Mul.f k x651000 x651001 bt662.1 bt662.2).bind fun bt666 => (spec_l7Value.l0 k x9 x641000 x641001 x641002 x641003 bt666.1 bt666.2)))
def spec_l7Value.f : Nat → Int → List Int → List Int → List (S92) → ByteArray → Option (Int × List Int × Bool)
 | 0,_,_,_,_,_ => none
 | k + 1,a0_0,l0_1,l0_2,l0_3,a1 => (spec_l2Unit.f k a0_0).bind fun bt642 => ((spec_l6Grades.f k bt642.1 bt642.2).bind fun bt646 => (spec_l7Value.l0 k a1 a0_0 l0_1 l0_2 l0_3 bt646.1 bt646.2))
end
theorem spec_l7Value.mono_l : ∀ k,(∀ y0 y1 y2 y3 y4,LeO (spec_l7Value.f k y0 y1 y2 y3 y4) (spec_l7Value.f (k + 1) y0 y1 y2 y3 y4)) ∧ (∀ y0 y1 y2 y3 y4 y5 y6,LeO (spec_l7Value.l0 k y0 y1 y2 y3 y4 y5 y6) (spec_l7Value.l0 (k + 1) y0 y1 y2 y3 y4 y5 y6)) ∧ (∀ y0 y1 y2 y3 y4 y5 y6 y7 y8 y9,LeO (spec_l7Value.j1 k y0 y1 y2 y3 y4 y5 y6 y7 y8 y9) (spec_l7Value.j1 (k + 1) y0 y1 y2 y3 y4 y5 y6 y7 y8 y9))
 | 0 => ⟨fun _ _ _ _ _ r h => by simp [spec_l7Value.f] at h,fun _ _ _ _ _ _ _ r h => by simp [spec_l7Value.l0] at h,fun _ _ _ _ _ _ _ _ _ _ r h => by simp [spec_l7Value.j1] at h⟩
 | k + 1 => by
  obtain ⟨ih0,ih1,ih2⟩:=spec_l7Value.mono_l k
  refine ⟨?_,?_,?_⟩
  ·intro y0 y1 y2 y3 y4
   unfold spec_l7Value.f
   repeat' first
   | (with_reducible exact ih0 _ _ _ _ _)
   | (with_reducible exact ih1 _ _ _ _ _ _ _)
   | (with_reducible exact ih2 _ _ _ _ _ _ _ _ _ _)
   | (with_reducible exact spec_l2Unit.mono _ _)
   | (with_reducible exact spec_l3Matrix.mono _ _ _ _ _ _)
   | (with_reducible exact spec_l6Grades.mono _ _ _)
   | (with_reducible exact spec_l6Idempotent.mono _ _ _)
   | (with_reducible exact spec_l6Mul.mono _ _ _ _ _)
   | (with_reducible exact spec_l6Stable.mono _ _ _)
   | (with_reducible exact spec_l7Next.mono _ _)
   | (with_reducible first|exact LeO.refl _|exact LeO.none _|refine LeO.ite ?_ ?_|refine LeO.bind ?_ (fun _ => ?_))
   | exact ih0 _ _ _ _ _
   | exact ih1 _ _ _ _ _ _ _
   | exact ih2 _ _ _ _ _ _ _ _ _ _
   | exact spec_l2Unit.mono _ _
   | exact spec_l3Matrix.mono _ _ _ _ _ _
   | exact spec_l6Grades.mono _ _ _
   | exact spec_l6Idempotent.mono _ _ _
   | exact spec_l6Mul.mono _ _ _ _ _
   | exact spec_l6Stable.mono _ _ _
   | exact spec_l7Next.mono _ _
   | exact LeO.none _
   | refine LeO.ite ?_ ?_
   | refine LeO.bind ?_ (fun _ => ?_)
  ·intro y0 y1 y2 y3 y4 y5 y6
   unfold spec_l7Value.l0
   repeat' first
   | (with_reducible exact ih0 _ _ _ _ _)
   | (with_reducible exact ih1 _ _ _ _ _ _ _)
   | (with_reducible exact ih2 _ _ _ _ _ _ _ _ _ _)
   | (with_reducible exact spec_l2Unit.mono _ _)
   | (with_reducible exact spec_l3Matrix.mono _ _ _ _ _ _)
   | (with_reducible exact spec_l6Grades.mono _ _ _)
   | (with_reducible exact spec_l6Idempotent.mono _ _ _)
   | (with_reducible exact spec_l6Mul.mono _ _ _ _ _)
   | (with_reducible exact spec_l6Stable.mono _ _ _)
   | (with_reducible exact spec_l7Next.mono _ _)
   | (with_reducible first|exact LeO.refl _|exact LeO.none _|refine LeO.ite ?_ ?_|refine LeO.bind ?_ (fun _ => ?_))
   | exact ih0 _ _ _ _ _
   | exact ih1 _ _ _ _ _ _ _
   | exact ih2 _ _ _ _ _ _ _ _ _ _
   | exact spec_l2Unit.mono _ _
   | exact spec_l3Matrix.mono _ _ _ _ _ _
   | exact spec_l6Grades.mono _ _ _
   | exact spec_l6Idempotent.mono _ _ _
   | exact spec_l6Mul.mono _ _ _ _ _
   | exact spec_l6Stable.mono _ _ _
   | exact spec_l7Next.mono _ _
   | exact LeO.none _
   | refine LeO.ite ?_ ?_
   | refine LeO.bind ?_ (fun _ => ?_)
  ·intro y0 y1 y2 y3 y4 y5 y6 y7 y8 y9
   unfold spec_l7Value.j1
   repeat' first
   | (with_reducible exact ih0 _ _ _ _ _)
   | (with_reducible exact ih1 _ _ _ _ _ _ _)
   | (with_reducible exact ih2 _ _ _ _ _ _ _ _ _ _)
   | (with_reducible exact spec_l2Unit.mono _ _)
   | (with_reducible exact spec_l3Matrix.mono _ _ _ _ _ _)
   | (with_reducible exact spec_l6Grades.mono _ _ _)
   | (with_reducible exact spec_l6Idempotent.mono _ _ _)
   | (with_reducible exact spec_l6Mul.mono _ _ _ _ _)
   | (with_reducible exact spec_l6Stable.mono _ _ _)
   | (with_reducible exact spec_l7Next.mono _ _)
   | (with_reducible first|exact LeO.refl _|exact LeO.none _|refine LeO.ite ?_ ?_|refine LeO.bind ?_ (fun _ => ?_))
   | exact ih0 _ _ _ _ _
   | exact ih1 _ _ _ _ _ _ _
   | exact ih2 _ _ _ _ _ _ _ _ _ _
   | exact spec_l2Unit.mono _ _
   | exact spec_l3Matrix.mono _ _ _ _ _ _
   | exact spec_l6Grades.mono _ _ _
   | exact spec_l6Idempotent.mono _ _ _
   | exact spec_l6Mul.mono _ _ _ _ _
   | exact spec_l6Stable.mono _ _ _
   | exact spec_l7Next.mono _ _
   | exact LeO.none _
   | refine LeO.ite ?_ ?_
   | refine LeO.bind ?_ (fun _ => ?_)
theorem spec_l7Value.mono : ∀ a0 a1 a2 a3 a4 k,LeO (spec_l7Value.f k a0 a1 a2 a3 a4) (spec_l7Value.f (k + 1) a0 a1 a2 a3 a4):=by
 intro a0 a1 a2 a3 a4 k
 obtain ⟨ih0,ih1,ih2⟩:=spec_l7Value.mono_l k
 exact ih0 a0 a1 a2 a3 a4
set_option maxHeartbeats 8000000 in
set_option maxRecDepth 100000 in
theorem spec_l7Value.calls (k : Nat) : ∀ (a0_0 : Int) (A0_1 : Option Addr) (c0_1 : Nat) (l0_1 : List Int) (A0_2 : Option Addr) (c0_2 : Nat) (l0_2 : List Int) (A0_3 : Option Addr) (c0_3 : Nat) (l0_3 : List (S92)) (a1 : ByteArray) (r1 : Int) (r2 : List Int) (r3 : Bool) (w : World) (hr0_1 : Kd.C (Kd.int .i64) w A0_1 l0_1.length l0_1) (hc0_1 : l0_1.length ≤ c0_1) (hr0_2 : Kd.C (Kd.int .i64) w A0_2 l0_2.length l0_2) (hc0_2 : l0_2.length ≤ c0_2) (hr0_3 : Kd.C k92 w A0_3 l0_3.length l0_3) (hc0_3 : l0_3.length ≤ c0_3) (h : spec_l7Value.f k a0_0 l0_1 l0_2 l0_3 a1 = some (r1,r2,r3)),
  Calls Try.prog 87 #[.agg #[.int .i64 a0_0,.slice A0_1 l0_1.length c0_1,.slice A0_2 l0_2.length c0_2,.slice A0_3 l0_3.length c0_3],.string a1] w fun e w' => ∃ v1_ : Value,e = .returned (.tuple #[.agg #[.int .i64 r1,v1_],.bool r3]) ∧ Kd.R (Kd.int .i64) 3 w' w.heap.size (fun _ => True) v1_ r2 ∧ Below w.heap.size w w':=by
 induction k using Nat.strongRecOn with
 | _ k ih =>
 intro a0_0 A0_1 c0_1 l0_1 A0_2 c0_2 l0_2 A0_3 c0_3 l0_3 a1 r1 r2 r3 w hr0_1 hc0_1 hr0_2 hc0_2 hr0_3 hc0_3 h
 cases k with
 | zero => exact absurd h (by simp [spec_l7Value.f])
 | succ k =>
 simp only [spec_l7Value.f] at h
 have hu33:=Try.underlying33
 have hu35:=Try.underlying35
 have HR0_1:=Aside0.mk hr0_1
 have HC0_1:=Aside0.mk hc0_1
 clear hr0_1 hc0_1
 have HR0_2:=Aside0.mk hr0_2
 have HC0_2:=Aside0.mk hc0_2
 clear hr0_2 hc0_2
 have HR0_3:=Aside0.mk hr0_3
 have HC0_3:=Aside0.mk hc0_3
 clear hr0_3 hc0_3
 have HB:=Aside0.mk (Below.refl w.heap.size w)
 have H : ((spec_l2Unit.f k a0_0).bind fun bt642 => ((spec_l6Grades.f k bt642.1 bt642.2).bind fun bt646 => (spec_l7Value.l0 k a1 a0_0 l0_1 l0_2 l0_3 bt646.1 bt646.2))) = some (r1,r2,r3):=h
 clear h
 replace H:=Option.bind_eq_some_iff.mp H
 obtain ⟨⟨t642,t643⟩,A30,H⟩:=H
 replace H : ((spec_l6Grades.f k t642 t643).bind fun bt646 => (spec_l7Value.l0 k a1 a0_0 l0_1 l0_2 l0_3 bt646.1 bt646.2)) = some (r1,r2,r3):=H
 have A3:=Aside0.mk A30
 clear A30
 replace H:=Option.bind_eq_some_iff.mp H
 obtain ⟨⟨t646,t647⟩,A40,H⟩:=H
 replace H : (spec_l7Value.l0 k a1 a0_0 l0_1 l0_2 l0_3 t646 t647) = some (r1,r2,r3):=H
 have A4:=Aside0.mk A40
 clear A40
 have H':=Aside0.mk H
 clear H
 go_enter Try.func87,Try.ntmps87
 go_wp2_with (first|((with_reducible refine bev_ (N:=2) rfl rfl (cs:=#[.int .i64 a0_0,.slice A0_1 l0_1.length c0_1,.slice A0_2 l0_2.length c0_2,.slice A0_3 l0_3.length c0_3]) (t:=33) ?hr ?_);(case hr => first|(go_simp;done)|(go_simp;rfl));intro gb640 hg w5 hbox hb;have BK640:=Aside0.mk (hbox);have GW640:=Aside0.mk (szg_ hg (below_size (be0_ HB.out)));have GE640:=GW640;replace HB:=Aside0.mk (below_step (be0_ HB.out) hb);clear hb hbox hg)|((with_reducible refine bev_ (N:=4) rfl rfl (cs:=#[.int .i64 0,.slice none 0 0]) (t:=35) ?hr ?_);(case hr => first|(go_simp;done)|(go_simp;rfl));intro gb641 hg w6 hbox hb;have BK641:=Aside0.mk (hbox);have GW641:=Aside0.mk (szg_ hg (below_size (be1_ HB.out GE640.out)));have GE641:=GW641;replace HB:=Aside0.mk (below_step (be1_ HB.out GE640.out) hb);have NB640_641:=nm_ hg BK640;have NB641_640:=nn_ hg BK640;replace BK640:=kc_ BK640 hb;clear hb hbox hg;have hnb7:=NB640_641.out;have hnc7:=NB641_640.out;obtain ⟨hcz8_0,hcz8_1,hcz8_2,hcz8_3,hfz8_0,hfz8_1,hfz8_2,hfz8_3⟩:=cf4_ BK640.out)|((with_reducible refine gate_callee (f:=131) rfl ?_);refine goesL_ (some 15) rfl rfl Try.func131 (by kernel_rfl) rfl #[.int .i64 a0_0] rfl lp_ ?_;(with_reducible refine (spec_l2Unit.calls k a0_0 t642 t643 _ A3.out).mono ?_);rintro e w9 ⟨v644,rfl,ho0,hb⟩;refine ⟨_,rfl,?_⟩;have HO645:=Aside0.mk (Kd.R_lower ho0 (below_size (be2_ HB.out GE640.out GE641.out)));replace BK640:=kc_ BK640 hb;replace BK641:=kc_ BK641 hb;replace HB:=Aside0.mk (below_step (be2_ HB.out GE640.out GE641.out) hb);(try clear hb);(try clear hb2);(try clear hk);(try clear hi);(try clear ho0);obtain ⟨Ao10,co10,eo10⟩:=Kd.R_slice HO645.out;subst eo10)|((with_reducible refine gate_callee (f:=142) rfl ?_);refine goesL_ (some 16) rfl rfl Try.func142 (by kernel_rfl) rfl #[.agg #[.int .i64 t642,.slice Ao10 t643.length co10]] rfl lp_ ?_;(with_reducible refine (spec_l6Grades.calls k t642 _ _ t643 t646 t647 _ ?side1 ?side2 A4.out).mono ?_);(case side1 => exact cr_ (Kd.R_reads' HO645.out).2.2);(case side2 => exact (Kd.R_reads' HO645.out).2.1);rintro e w11 ⟨v648,rfl,ho0,hb⟩;refine ⟨_,rfl,?_⟩;have HO649:=Aside0.mk (Kd.R_lower (Kd.R_new' ho0 (Kd.R_lt (pr_ HO645.out))) (below_size (be2_ HB.out GE640.out GE641.out)));replace HO645:=Aside0.mk (Kd.R_elder' (pr_ HO645.out) (Kd.R_base ho0) hb);replace BK640:=kc_ BK640 hb;replace BK641:=kc_ BK641 hb;replace HB:=Aside0.mk (below_step (be2_ HB.out GE640.out GE641.out) hb);(try clear hb);(try clear hb2);(try clear hk);(try clear hi);(try clear ho0))|((with_reducible refine bev_ (N:=6) rfl rfl (cs:=#[.int .i64 0,.slice none 0 0]) (t:=35) ?hr ?_);(case hr => first|(go_simp;done)|(go_simp;rfl));intro gb650 hg w12 hbox hb;replace HO645:=Aside0.mk (Kd.R_below (pr_ HO645.out) hb);replace HO649:=Aside0.mk (Kd.R_below (pr_ HO649.out) hb);have BK650:=Aside0.mk (hbox);have GW650:=Aside0.mk (szg_ hg (below_size (be2_ HB.out GE640.out GE641.out)));have GE650:=GW650;replace HB:=Aside0.mk (below_step (be2_ HB.out GE640.out GE641.out) hb);have NB640_650:=nm_ hg BK640;have NB650_640:=nn_ hg BK640;replace BK640:=kc_ BK640 hb;have NB641_650:=nm_ hg BK641;have NB650_641:=nn_ hg BK641;replace BK641:=kc_ BK641 hb;clear hb hbox hg;have hnb13:=NB650_640.out;have hnc13:=NB640_650.out;have hnb14:=NB650_641.out;have hnc14:=NB641_650.out;obtain ⟨hcz15_0,hcz15_1,hfz15_0,hfz15_1⟩:=cf2_ BK650.out;obtain ⟨Ao16,co16,eo16⟩:=Kd.R_slice HO649.out;subst eo16))
 go_loopg [1] k (fun kq v1 w' => ∃ (x1_1 : ByteArray) (x642000_1 : Int) (x651000_1 : Int) (x651001_1 : List Int) (u651001 : Value),v1 = .string x1_1 ∧ Aside0 (spec_l7Value.l0 kq x1_1 a0_0 l0_1 l0_2 l0_3 x651000_1 x651001_1 = some (r1,r2,r3)) ∧ Aside0 (kq ≤ k) ∧ Aside0 (Kd.R (Kd.int .i64) 3 w' w.heap.size (fun _ => True) u651001 x651001_1) ∧ Aside0 (w'.heap[gb640]? = some (.cells #[.int .i64 a0_0,(.slice A0_1 l0_1.length c0_1),(.slice A0_2 l0_2.length c0_2),(.slice A0_3 l0_3.length c0_3)] 33 (0,0))) ∧ Aside0 (w'.heap[gb641]? = some (.cells #[.int .i64 x642000_1,(.slice none 0 0)] 35 (0,0))) ∧ Aside0 (w'.heap[gb650]? = some (.cells #[.int .i64 x651000_1,u651001] 35 (0,0))) ∧ Aside0 (Below w.heap.size w w'))
 case atStart => exact ⟨(a1),(0),(t646),(t647),(.slice Ao16 t647.length co16),rs_,H',⟨Nat.le_refl _⟩,⟨by refine pr_ ?_;exact Kd.R_mono (Kd.R_far (p:=⟨gb650,1,none⟩) (Kd.R_far (p:=⟨gb650,0,none⟩) (Kd.R_types HO649.out BK650.out (by decide)) (fun _ hk => hk.2) (.int .i64 t646)) (fun _ hk => hk.2) (.slice Ao16 t647.length co16)) (fun _ hk => trivial)⟩,⟨bf1_ BK640.out NB640_650.out⟩,⟨bf1_ BK641.out NB641_650.out⟩,⟨by refine pe_ ?_;refine blk_put (cs:=#[.int .i64 t646,.slice none 0 0]) ?_ 1 _ rfl;refine pe_ ?_;refine blk_put (cs:=#[.int .i64 0,.slice none 0 0]) ?_ 0 _ rfl;refine pe_ ?_;exact BK650.out⟩,⟨be3_ HB.out GE640.out GE641.out GE650.out⟩⟩
 case round =>
  clear H'
  try clear c1
  try clear p2
  try clear c7
  try clear c8
  try clear c13
  try clear c14
  obtain ⟨x1_1,x642000_1,x651000_1,x651001_1,u651001,rfl,HA,HK1,HO_651001,BK640,BK641,BK650,HB⟩:=hrel
  cases gk with
  | zero => exact absurd HA.out (by simp [spec_l7Value.l0])
  | succ k1 =>
   have H:=HA.out
   clear HA
   simp only [spec_l7Value.l0] at H
   by_cases c17 : x1_1.toList = ([] : List UInt8)
   ·rw [if_pos c17] at H
    have c17b0 : (x1_1.toList == ([] : List UInt8)) = true:=beq_iff_eq.mpr c17
    have c17b1 : (x1_1.toList != ([] : List UInt8)) = false:=bne_eq_false_iff_eq.mpr c17
    clear c17
    simp only [Option.some.injEq,Prod.mk.injEq] at H
    obtain ⟨rfl,rfl,rfl⟩:=H
    have hnb18:=NB650_640.out
    have hnc18:=NB640_650.out
    have hnb19:=NB650_641.out
    have hnc19:=NB641_650.out
    obtain ⟨hcz20_0,hcz20_1,hfz20_0,hfz20_1⟩:=cf2_ BK650.out
    have hnb21:=NB641_640.out
    have hnc21:=NB640_641.out
    obtain ⟨hcz22_0,hcz22_1,hfz22_0,hfz22_1⟩:=cf2_ BK641.out
    obtain ⟨Ao23,co23,eo23⟩:=Kd.R_slice HO_651001.out
    subst eo23
    go_wp2
    refine bodyPost_ret (results_ct rfl _ _ gb641 35 #[.int .i64 x651000_1,.slice Ao23 x651001_1.length co23] (0,0) _ rfl (by refine pe_ ?_;refine blk_put (cs:=#[.int .i64 x651000_1,.slice none 0 0]) ?_ 1 _ rfl;refine pe_ ?_;refine blk_put (cs:=#[.int .i64 x642000_1,.slice none 0 0]) ?_ 0 _ rfl;refine pe_ ?_;exact BK641.out) Try.underlying35 rfl (by kernel_rfl)) rfl ?_
    exact ⟨_,er_,by refine pr_ ?_;exact Kd.R_mono (Kd.R_far (p:=⟨gb641,1,none⟩) (Kd.R_far (p:=⟨gb641,0,none⟩) (Kd.R_types HO_651001.out BK641.out (by decide)) (fun _ hk => hk.2) (.int .i64 x651000_1)) (fun _ hk => hk.2) (.slice Ao23 x651001_1.length co23)) (fun _ hk => trivial),be3_ HB.out GE640.out GE641.out GE650.out⟩
   ·rw [if_neg c17] at H
    have c17b0 : (x1_1.toList == ([] : List UInt8)) = false:=beq_eq_false_iff_ne.mpr c17
    have c17b1 : (x1_1.toList != ([] : List UInt8)) = true:=bne_iff_ne.mpr c17
    replace H:=Option.bind_eq_some_iff.mp H
    obtain ⟨⟨t651,t652,t653⟩,A240,H⟩:=H
    replace H : (if t652 = true then ((spec_l7Value.f k1 a0_0 l0_1 l0_2 l0_3 t651).bind fun bt655 => (if bt655.2.2 = true then ((spec_l6Idempotent.f k1 bt655.1 bt655.2.1).bind fun t661 => (spec_l7Value.j1 k1 t653 (!t661) a0_0 l0_1 l0_2 l0_3 x651000_1 x651001_1 bt655.1 bt655.2.1)) else (spec_l7Value.j1 k1 t653 true a0_0 l0_1 l0_2 l0_3 x651000_1 x651001_1 bt655.1 bt655.2.1))) else ((spec_l3Matrix.f k1 a0_0 l0_1 l0_2 l0_3 t651).bind fun bt670 => ((spec_l6Grades.f k1 bt670.1 bt670.2).bind fun bt674 => ((spec_l6Mul.f k1 x651000_1 x651001_1 bt674.1 bt674.2).bind fun bt678 => (spec_l7Value.l0 k1 t653 a0_0 l0_1 l0_2 l0_3 bt678.1 bt678.2))))) = some (r1,r2,r3):=H
    have A24:=Aside0.mk A240
    clear A240
    by_cases c25 : t652 = true
    ·subst c25
     have H1 : ((spec_l7Value.f k1 a0_0 l0_1 l0_2 l0_3 t651).bind fun bt655 => (if bt655.2.2 = true then ((spec_l6Idempotent.f k1 bt655.1 bt655.2.1).bind fun t661 => (spec_l7Value.j1 k1 t653 (!t661) a0_0 l0_1 l0_2 l0_3 x651000_1 x651001_1 bt655.1 bt655.2.1)) else (spec_l7Value.j1 k1 t653 true a0_0 l0_1 l0_2 l0_3 x651000_1 x651001_1 bt655.1 bt655.2.1))) = some (r1,r2,r3):=by rw [if_pos rfl] at H;exact H
     clear H
     have H:=H1
     clear H1
     replace H:=Option.bind_eq_some_iff.mp H
     obtain ⟨⟨t655,t656,t659⟩,A260,H⟩:=H
     replace H : (if t659 = true then ((spec_l6Idempotent.f k1 t655 t656).bind fun t661 => (spec_l7Value.j1 k1 t653 (!t661) a0_0 l0_1 l0_2 l0_3 x651000_1 x651001_1 t655 t656)) else (spec_l7Value.j1 k1 t653 true a0_0 l0_1 l0_2 l0_3 x651000_1 x651001_1 t655 t656)) = some (r1,r2,r3):=H
     have A26:=Aside0.mk A260
     clear A260
     have HC27:=Aside0.mk H
     clear H
     go_upto_region 7 with (first|((with_reducible refine gate_callee (f:=143) rfl ?_);refine goesL_ (some 21) rfl rfl Try.func143 (by kernel_rfl) rfl #[.string x1_1] rfl lp_ ?_;(with_reducible refine (spec_l7Next.calls k1 x1_1 t651 true t653 _ A24.out).mono ?_);rintro e w' ⟨rfl,⟨nd,rfl⟩⟩;refine ⟨_,rfl,?_⟩;(try (rw [drewN_self wr];generalize hq_ : World.drewN wr _ = wr;have n0_ : Aside0 (Kd.R (Kd.int .i64) 3 wr w.heap.size (fun _ => True) u651001 x651001_1):=⟨by rw [← hq_];exact (pr_ HO_651001.out)⟩;have n1_ : Aside0 (wr.heap[gb640]? = some (.cells #[.int .i64 a0_0,.slice A0_1 l0_1.length c0_1,.slice A0_2 l0_2.length c0_2,.slice A0_3 l0_3.length c0_3] 33 (0,0))):=⟨by rw [← hq_];exact (pe_ BK640.out)⟩;have n2_ : Aside0 (wr.heap[gb641]? = some (.cells #[.int .i64 x642000_1,.slice none 0 0] 35 (0,0))):=⟨by rw [← hq_];exact (pe_ BK641.out)⟩;have n3_ : Aside0 (wr.heap[gb650]? = some (.cells #[.int .i64 x651000_1,u651001] 35 (0,0))):=⟨by rw [← hq_];exact (pe_ BK650.out)⟩;have n4_ : Aside0 (Below w.heap.size w wr):=⟨by rw [← hq_];exact (be3_ HB.out GE640.out GE641.out GE650.out)⟩;clear HO_651001 BK640 BK641 BK650 HB hq_;have HO_651001:=n0_;have BK640:=n1_;have BK641:=n2_;have BK650:=n3_;have HB:=n4_;clear n0_ n1_ n2_ n3_ n4_)))|((with_reducible refine bev_ (N:=10) rfl rfl (cs:=#[.int .i64 0,.slice none 0 0]) (t:=35) ?hr ?_);(case hr => first|(go_simp;done)|(go_simp;rfl));intro gb654 hg w28 hbox hb;replace HO_651001:=Aside0.mk (Kd.R_below (pr_ HO_651001.out) hb);have BK654:=Aside0.mk (hbox);have GW654:=Aside0.mk (szg_ hg (below_size (be3_ HB.out GE640.out GE641.out GE650.out)));have GE654:=GW654;replace HB:=Aside0.mk (below_step (be3_ HB.out GE640.out GE641.out GE650.out) hb);have NB640_654:=nm_ hg BK640;have NB654_640:=nn_ hg BK640;replace BK640:=kc_ BK640 hb;have NB641_654:=nm_ hg BK641;have NB654_641:=nn_ hg BK641;replace BK641:=kc_ BK641 hb;have NB650_654:=nm_ hg BK650;have NB654_650:=nn_ hg BK650;replace BK650:=kc_ BK650 hb;clear hb hbox hg;have hnb29:=NB654_640.out;have hnc29:=NB640_654.out;have hnb30:=NB654_641.out;have hnc30:=NB641_654.out;have hnb31:=NB654_650.out;have hnc31:=NB650_654.out;obtain ⟨hcz32_0,hcz32_1,hfz32_0,hfz32_1⟩:=cf2_ BK654.out;have hnb33:=NB640_641.out;have hnc33:=NB641_640.out;have hnb34:=NB640_650.out;have hnc34:=NB650_640.out;obtain ⟨hcz35_0,hcz35_1,hcz35_2,hcz35_3,hfz35_0,hfz35_1,hfz35_2,hfz35_3⟩:=cf4_ BK640.out)|((with_reducible refine gate_callee (f:=87) rfl ?_);refine goesL_ (some 30) rfl rfl Try.func87 (by kernel_rfl) rfl #[.agg #[.int .i64 a0_0,.slice A0_1 l0_1.length c0_1,.slice A0_2 l0_2.length c0_2,.slice A0_3 l0_3.length c0_3],.string t651] rfl lp_ ?_;(with_reducible refine (ih k1 (by have:=HK1.out;omega) a0_0 _ _ l0_1 _ _ l0_2 _ _ l0_3 t651 t655 t656 t659 _ ?side1 ?side2 ?side3 ?side4 ?side5 ?side6 A26.out).mono ?_);(case side1 => exact Kd.C_below HR0_1.out (be4_ HB.out GE640.out GE641.out GE650.out GE654.out));(case side2 => exact HC0_1.out);(case side3 => exact Kd.C_below HR0_2.out (be4_ HB.out GE640.out GE641.out GE650.out GE654.out));(case side4 => exact HC0_2.out);(case side5 => exact Kd.C_below HR0_3.out (be4_ HB.out GE640.out GE641.out GE650.out GE654.out));(case side6 => exact HC0_3.out);rintro e w36 ⟨v657,rfl,ho0,hb⟩;refine ⟨_,rfl,?_⟩;have HO658:=Aside0.mk (Kd.R_lower (Kd.R_new' ho0 (Kd.R_lt (by refine pr_ ?_;exact (Kd.R_mono (Kd.R_far (p:=⟨gb654,1,none⟩) (Kd.R_far (p:=⟨gb654,0,none⟩) (Kd.R_types HO_651001.out BK654.out (by decide)) (fun _ hk => hk.2) (.int .i64 0)) (fun _ hk => hk.2) (.slice none 0 0)) (fun _ h_ => h_.1))))) (below_size (be4_ HB.out GE640.out GE641.out GE650.out GE654.out)));replace HO_651001:=Aside0.mk (Kd.R_elder' (by refine pr_ ?_;exact (Kd.R_mono (Kd.R_far (p:=⟨gb654,1,none⟩) (Kd.R_far (p:=⟨gb654,0,none⟩) (Kd.R_types HO_651001.out BK654.out (by decide)) (fun _ hk => hk.2) (.int .i64 0)) (fun _ hk => hk.2) (.slice none 0 0)) (fun _ h_ => h_.1))) (Kd.R_base ho0) hb);replace BK640:=Aside0.mk (blk_below (g:=gb640) (o:=.cells #[.int .i64 a0_0,.slice A0_1 l0_1.length c0_1,.slice A0_2 l0_2.length c0_2,.slice A0_3 l0_3.length c0_3] 33 (0,0)) (bf1_ BK640.out NB640_654.out) hb);replace BK641:=Aside0.mk (blk_below (g:=gb641) (o:=.cells #[.int .i64 x642000_1,.slice none 0 0] 35 (0,0)) (bf1_ BK641.out NB641_654.out) hb);replace BK650:=Aside0.mk (blk_below (g:=gb650) (o:=.cells #[.int .i64 x651000_1,u651001] 35 (0,0)) (bf1_ BK650.out NB650_654.out) hb);replace BK654:=Aside0.mk (blk_below (g:=gb654) (o:=.cells #[.int .i64 0,.slice none 0 0] 35 (0,0)) (by refine pe_ ?_;refine blk_put (cs:=#[.int .i64 0,.slice none 0 0]) ?_ 1 _ rfl;refine pe_ ?_;refine blk_put (cs:=#[.int .i64 0,.slice none 0 0]) ?_ 0 _ rfl;refine pe_ ?_;exact BK654.out) hb);replace HB:=Aside0.mk (below_step (be4_ HB.out GE640.out GE641.out GE650.out GE654.out) hb);(try clear hb);(try clear hb2);(try clear hk);(try clear hi);(try clear ho0))|((with_reducible refine bev_ (N:=11) rfl rfl (cs:=#[.int .i64 0,.slice none 0 0]) (t:=35) ?hr ?_);(case hr => first|(go_simp;done)|(go_simp;rfl));intro gb660 hg w37 hbox hb;replace HO_651001:=Aside0.mk (Kd.R_below (pr_ HO_651001.out) hb);replace HO658:=Aside0.mk (Kd.R_below (pr_ HO658.out) hb);have BK660:=Aside0.mk (hbox);have GW660:=Aside0.mk (szg_ hg (below_size (be4_ HB.out GE640.out GE641.out GE650.out GE654.out)));have GE660:=GW660;replace HB:=Aside0.mk (below_step (be4_ HB.out GE640.out GE641.out GE650.out GE654.out) hb);have NB640_660:=nm_ hg BK640;have NB660_640:=nn_ hg BK640;replace BK640:=kc_ BK640 hb;have NB641_660:=nm_ hg BK641;have NB660_641:=nn_ hg BK641;replace BK641:=kc_ BK641 hb;have NB650_660:=nm_ hg BK650;have NB660_650:=nn_ hg BK650;replace BK650:=kc_ BK650 hb;have NB654_660:=nm_ hg BK654;have NB660_654:=nn_ hg BK654;replace BK654:=kc_ BK654 hb;clear hb hbox hg;have hnb38:=NB660_640.out;have hnc38:=NB640_660.out;have hnb39:=NB660_641.out;have hnc39:=NB641_660.out;have hnb40:=NB660_650.out;have hnc40:=NB650_660.out;have hnb41:=NB660_654.out;have hnc41:=NB654_660.out;obtain ⟨hcz42_0,hcz42_1,hfz42_0,hfz42_1⟩:=cf2_ BK660.out;obtain ⟨Ao43,co43,eo43⟩:=Kd.R_slice HO658.out;subst eo43))
     (try simp only [Act.put,List.setIfInBounds_toArray,List.set_cons_zero,List.set_cons_succ])
     go_cut [39] (fun v39 wc => ∃ (kq : Nat) (x39_26 : Bool),v39 = .bool x39_26 ∧ Aside0 (spec_l7Value.j1 kq t653 x39_26 a0_0 l0_1 l0_2 l0_3 x651000_1 x651001_1 t655 t656 = some (r1,r2,r3)) ∧ Aside0 (kq ≤ k1) ∧ Aside0 (Kd.R (Kd.int .i64) 3 wc w.heap.size (fun k_ => some k_ ≠ ((.slice Ao43 t656.length co43) : Value).ownBlock) u651001 x651001_1) ∧ Aside0 (Kd.R (Kd.int .i64) 3 wc w.heap.size (fun k_ => some k_ ≠ (u651001 : Value).ownBlock) (.slice Ao43 t656.length co43) t656) ∧ Aside0 (wc.heap[gb640]? = some (.cells #[.int .i64 a0_0,(.slice A0_1 l0_1.length c0_1),(.slice A0_2 l0_2.length c0_2),(.slice A0_3 l0_3.length c0_3)] 33 (0,0))) ∧ Aside0 (wc.heap[gb641]? = some (.cells #[.int .i64 x642000_1,(.slice none 0 0)] 35 (0,0))) ∧ Aside0 (wc.heap[gb650]? = some (.cells #[.int .i64 x651000_1,u651001] 35 (0,0))) ∧ Aside0 (wc.heap[gb654]? = some (.cells #[.int .i64 0,(.slice none 0 0)] 35 (0,0))) ∧ Aside0 (wc.heap[gb660]? = some (.cells #[.int .i64 t655,(.slice Ao43 t656.length co43)] 35 (0,0))) ∧ Aside0 (Below w.heap.size w wc))
     case first =>
      have H:=HC27.out
      clear HC27
      by_cases c44 : t659 = true
      ·subst c44
       have H1 : ((spec_l6Idempotent.f k1 t655 t656).bind fun t661 => (spec_l7Value.j1 k1 t653 (!t661) a0_0 l0_1 l0_2 l0_3 x651000_1 x651001_1 t655 t656)) = some (r1,r2,r3):=by rw [if_pos rfl] at H;exact H
       clear H
       have H:=H1
       clear H1
       replace H:=Option.bind_eq_some_iff.mp H
       obtain ⟨t661,A450,H⟩:=H
       replace H : (spec_l7Value.j1 k1 t653 (!t661) a0_0 l0_1 l0_2 l0_3 x651000_1 x651001_1 t655 t656) = some (r1,r2,r3):=H
       have A45:=Aside0.mk A450
       clear A450
       have H':=Aside0.mk H
       clear H
       have hnb46:=NB660_640.out
       have hnc46:=NB640_660.out
       have hnb47:=NB660_641.out
       have hnc47:=NB641_660.out
       have hnb48:=NB660_650.out
       have hnc48:=NB650_660.out
       have hnb49:=NB660_654.out
       have hnc49:=NB654_660.out
       obtain ⟨hcz50_0,hcz50_1,hfz50_0,hfz50_1⟩:=cf2_ BK660.out
       go_wp2_with (first|(go_at_call 96;(with_reducible refine (spec_l6Idempotent.calls k1 t655 _ _ t656 t661 _ ?side1 ?side2 A45.out).mono ?_);(case side1 => refine (Kd.R_reads' (e:=3) (base:=w.heap.size) (ok:=fun k_ => (True ∧ some k_ ≠ (u651001 : Value).ownBlock)) (n:=t656.length) (c:=co43) ?_).2.2;exact (by refine pr_ ?_;exact (Kd.R_mono (Kd.R_far (p:=⟨gb660,1,none⟩) (Kd.R_far (p:=⟨gb660,0,none⟩) (Kd.R_types HO658.out BK660.out (by decide)) (fun _ hk => hk.2) (.int .i64 t655)) (fun _ hk => hk.2) (.slice Ao43 t656.length co43)) (fun _ h_ => h_.1))));(case side2 => exact (Kd.R_reads' HO658.out).2.1);rintro e w51 ⟨rfl,hb⟩;replace HO_651001:=Aside0.mk (Kd.R_below (by refine pr_ ?_;exact (Kd.R_mono (Kd.R_far (p:=⟨gb660,1,none⟩) (Kd.R_far (p:=⟨gb660,0,none⟩) (Kd.R_types HO_651001.out BK660.out (by decide)) (fun _ hk => hk.2) (.int .i64 t655)) (fun _ hk => hk.2) (.slice Ao43 t656.length co43)) (fun _ h_ => h_.1))) hb);replace HO658:=Aside0.mk (Kd.R_below (by refine pr_ ?_;exact (Kd.R_mono (Kd.R_far (p:=⟨gb660,1,none⟩) (Kd.R_far (p:=⟨gb660,0,none⟩) (Kd.R_types HO658.out BK660.out (by decide)) (fun _ hk => hk.2) (.int .i64 t655)) (fun _ hk => hk.2) (.slice Ao43 t656.length co43)) (fun _ h_ => h_.1))) hb);replace BK640:=Aside0.mk (blk_below (g:=gb640) (o:=.cells #[.int .i64 a0_0,.slice A0_1 l0_1.length c0_1,.slice A0_2 l0_2.length c0_2,.slice A0_3 l0_3.length c0_3] 33 (0,0)) (bf1_ BK640.out NB640_660.out) hb);replace BK641:=Aside0.mk (blk_below (g:=gb641) (o:=.cells #[.int .i64 x642000_1,.slice none 0 0] 35 (0,0)) (bf1_ BK641.out NB641_660.out) hb);replace BK650:=Aside0.mk (blk_below (g:=gb650) (o:=.cells #[.int .i64 x651000_1,u651001] 35 (0,0)) (bf1_ BK650.out NB650_660.out) hb);replace BK654:=Aside0.mk (blk_below (g:=gb654) (o:=.cells #[.int .i64 0,.slice none 0 0] 35 (0,0)) (bf1_ BK654.out NB654_660.out) hb);replace BK660:=Aside0.mk (blk_below (g:=gb660) (o:=.cells #[.int .i64 t655,.slice Ao43 t656.length co43] 35 (0,0)) (by refine pe_ ?_;refine blk_put (cs:=#[.int .i64 t655,.slice none 0 0]) ?_ 1 _ rfl;refine pe_ ?_;refine blk_put (cs:=#[.int .i64 0,.slice none 0 0]) ?_ 0 _ rfl;refine pe_ ?_;exact BK660.out) hb);replace HB:=Aside0.mk (below_step (be5_ HB.out GE640.out GE641.out GE650.out GE654.out GE660.out) hb);(try clear hb);(try clear hb2);(try clear hk);(try clear hi)))
       go_meet
       case rel => exact ⟨_,(!t661),rs_,H',⟨by have:=HK1.out;first|omega|exact Nat.le_refl _⟩,⟨by refine pr_ ?_;exact Kd.R_mono HO_651001.out (fun _ hk => (by first|exact hk.2|trivial))⟩,⟨by refine pr_ ?_;exact Kd.R_mono HO658.out (fun _ hk => (by first|exact hk.2|trivial))⟩,⟨pe_ BK640.out⟩,⟨pe_ BK641.out⟩,⟨pe_ BK650.out⟩,⟨pe_ BK654.out⟩,⟨pe_ BK660.out⟩,⟨be5_ HB.out GE640.out GE641.out GE650.out GE654.out GE660.out⟩⟩
      ·replace c44:=Bool.eq_false_iff.mpr c44
       subst c44
       have H1 : (spec_l7Value.j1 k1 t653 true a0_0 l0_1 l0_2 l0_3 x651000_1 x651001_1 t655 t656) = some (r1,r2,r3):=by rw [if_neg (show ¬ (false = true) by decide)] at H;exact H
       clear H
       have H:=H1
       clear H1
       have H':=Aside0.mk H
       clear H
       go_wp2
       go_meet
       case rel => exact ⟨_,(true),rs_,H',⟨by have:=HK1.out;first|omega|exact Nat.le_refl _⟩,⟨by refine pr_ ?_;exact Kd.R_mono (Kd.R_far (p:=⟨gb660,1,none⟩) (Kd.R_far (p:=⟨gb660,0,none⟩) (Kd.R_types HO_651001.out BK660.out (by decide)) (fun _ hk => hk.2) (.int .i64 t655)) (fun _ hk => hk.2) (.slice Ao43 t656.length co43)) (fun _ hk => (by first|exact hk.1.2|trivial))⟩,⟨by refine pr_ ?_;exact Kd.R_mono (Kd.R_far (p:=⟨gb660,1,none⟩) (Kd.R_far (p:=⟨gb660,0,none⟩) (Kd.R_types HO658.out BK660.out (by decide)) (fun _ hk => hk.2) (.int .i64 t655)) (fun _ hk => hk.2) (.slice Ao43 t656.length co43)) (fun _ hk => (by first|exact hk.1.2|trivial))⟩,⟨bf1_ BK640.out NB640_660.out⟩,⟨bf1_ BK641.out NB641_660.out⟩,⟨bf1_ BK650.out NB650_660.out⟩,⟨bf1_ BK654.out NB654_660.out⟩,⟨by refine pe_ ?_;refine blk_put (cs:=#[.int .i64 t655,.slice none 0 0]) ?_ 1 _ rfl;refine pe_ ?_;refine blk_put (cs:=#[.int .i64 0,.slice none 0 0]) ?_ 0 _ rfl;refine pe_ ?_;exact BK660.out⟩,⟨be5_ HB.out GE640.out GE641.out GE650.out GE654.out GE660.out⟩⟩
     case rest =>
      clear HC27
      try clear c1
      try clear c2
      try clear p2
      try clear c3
      try clear c4
      try clear c7
      try clear c8
      try clear c13
      try clear c14
      try clear c17
      try clear c17b0
      try clear c17b1
      try clear c18
      try clear c19
      try clear c21
      try clear c25
      try clear c29
      try clear c30
      try clear c31
      try clear c33
      try clear c34
      try clear c38
      try clear c39
      try clear c40
      try clear c41
      try clear c44
      try clear c46
      try clear c47
      try clear c48
      try clear c49
      try clear p2
      obtain ⟨kq,x39_26,rfl,HA,HJ26,HO_651001,HO_661001,BK640,BK641,BK650,BK654,BK660,HB⟩:=hcut
      cases kq with
      | zero => exact absurd HA.out (by simp [spec_l7Value.j1])
      | succ kj26 =>
       have H:=HA.out
       clear HA
       simp only [spec_l7Value.j1] at H
       by_cases c52 : x39_26 = true
       ·subst c52
        have H1 : (some (0,([] : List Int),false)) = some (r1,r2,r3):=by rw [if_pos rfl] at H;exact H
        clear H
        have H:=H1
        clear H1
        simp only [Option.some.injEq,Prod.mk.injEq] at H
        obtain ⟨rfl,rfl,rfl⟩:=H
        have hnb53:=NB641_640.out
        have hnc53:=NB640_641.out
        have hnb54:=NB641_650.out
        have hnc54:=NB650_641.out
        have hnb55:=NB641_654.out
        have hnc55:=NB654_641.out
        have hnb56:=NB641_660.out
        have hnc56:=NB660_641.out
        obtain ⟨hcz57_0,hcz57_1,hfz57_0,hfz57_1⟩:=cf2_ BK641.out
        go_wp2
        refine bodyPost_ret (results_ct rfl _ _ gb641 35 #[.int .i64 0,.slice none 0 0] (0,0) _ rfl (by refine pe_ ?_;refine blk_put (cs:=#[.int .i64 0,.slice none 0 0]) ?_ 1 _ rfl;refine pe_ ?_;refine blk_put (cs:=#[.int .i64 x642000_1,.slice none 0 0]) ?_ 0 _ rfl;refine pe_ ?_;exact BK641.out) Try.underlying35 rfl (by kernel_rfl)) rfl ?_
        exact ⟨_,er_,by first|exact Kd.R_nil _ _ _ _ _|exact Kd.N_nil _ _ _ _ _|exact Kd.V_nil _ _ _ _ _|exact Kd.Q_nil _ _ _ _ _|exact Kd.S_nil _ _ _ _ _,be5_ HB.out GE640.out GE641.out GE650.out GE654.out GE660.out⟩
       ·replace c52:=Bool.eq_false_iff.mpr c52
        subst c52
        have H1 : ((spec_l6Stable.f kj26 t655 t656).bind fun bt662 => ((spec_l6Mul.f kj26 x651000_1 x651001_1 bt662.1 bt662.2).bind fun bt666 => (spec_l7Value.l0 kj26 t653 a0_0 l0_1 l0_2 l0_3 bt666.1 bt666.2))) = some (r1,r2,r3):=by rw [if_neg (show ¬ (false = true) by decide)] at H;exact H
        clear H
        have H:=H1
        clear H1
        replace H:=Option.bind_eq_some_iff.mp H
        obtain ⟨⟨t662,t663⟩,A580,H⟩:=H
        replace H : ((spec_l6Mul.f kj26 x651000_1 x651001_1 t662 t663).bind fun bt666 => (spec_l7Value.l0 kj26 t653 a0_0 l0_1 l0_2 l0_3 bt666.1 bt666.2)) = some (r1,r2,r3):=H
        have A58:=Aside0.mk A580
        clear A580
        replace H:=Option.bind_eq_some_iff.mp H
        obtain ⟨⟨t666,t667⟩,A590,H⟩:=H
        replace H : (spec_l7Value.l0 kj26 t653 a0_0 l0_1 l0_2 l0_3 t666 t667) = some (r1,r2,r3):=H
        have A59:=Aside0.mk A590
        clear A590
        have H':=Aside0.mk H
        clear H
        have hnb60:=NB660_640.out
        have hnc60:=NB640_660.out
        have hnb61:=NB660_641.out
        have hnc61:=NB641_660.out
        have hnb62:=NB660_650.out
        have hnc62:=NB650_660.out
        have hnb63:=NB660_654.out
        have hnc63:=NB654_660.out
        obtain ⟨hcz64_0,hcz64_1,hfz64_0,hfz64_1⟩:=cf2_ BK660.out
        go_wp2_with (first|((with_reducible refine gate_callee (f:=98) rfl ?_);refine goesL_ (some 42) rfl rfl Try.func98 (by kernel_rfl) rfl #[.agg #[.int .i64 t655,.slice Ao43 t656.length co43]] rfl lp_ ?_;(with_reducible refine (spec_l6Stable.calls kj26 t655 _ _ t656 t662 t663 _ ?side1 ?side2 A58.out).mono ?_);(case side1 => exact cr_ (Kd.R_reads' HO_661001.out).2.2);(case side2 => exact (Kd.R_reads' HO_661001.out).2.1);rintro e w65 ⟨v664,rfl,ho0,hb⟩;refine ⟨_,rfl,?_⟩;have HO665:=Aside0.mk (Kd.R_lower (Kd.R_new' (Kd.R_new' ho0 (Kd.R_lt (pr_ HO_651001.out))) (Kd.R_lt (pr_ HO_661001.out))) (below_size (be5_ HB.out GE640.out GE641.out GE650.out GE654.out GE660.out)));replace HO_651001:=Aside0.mk (Kd.R_elder' (pr_ HO_651001.out) (Kd.R_base ho0) hb);replace HO_661001:=Aside0.mk (Kd.R_elder' (pr_ HO_661001.out) (Kd.R_base ho0) hb);replace BK640:=kc_ BK640 hb;replace BK641:=kc_ BK641 hb;replace BK650:=kc_ BK650 hb;replace BK654:=kc_ BK654 hb;replace BK660:=kc_ BK660 hb;replace HB:=Aside0.mk (below_step (be5_ HB.out GE640.out GE641.out GE650.out GE654.out GE660.out) hb);(try clear hb);(try clear hb2);(try clear hk);(try clear hi);(try clear ho0);have hnb66:=NB654_640.out;have hnc66:=NB640_654.out;have hnb67:=NB654_641.out;have hnc67:=NB641_654.out;have hnb68:=NB654_650.out;have hnc68:=NB650_654.out;obtain ⟨hcz69_0,hcz69_1,hfz69_0,hfz69_1⟩:=cf2_ BK654.out;obtain ⟨Ao70,co70,eo70⟩:=Kd.R_slice HO665.out;subst eo70;have hnb71:=NB650_640.out;have hnc71:=NB640_650.out;have hnb72:=NB650_641.out;have hnc72:=NB641_650.out;obtain ⟨hcz73_0,hcz73_1,hfz73_0,hfz73_1⟩:=cf2_ BK650.out;obtain ⟨Ao74,co74,eo74⟩:=Kd.R_slice HO_651001.out;subst eo74)|((with_reducible refine gate_callee (f:=144) rfl ?_);refine goesL_ (some 49) rfl rfl Try.func144 (by kernel_rfl) rfl #[.agg #[.int .i64 x651000_1,.slice Ao74 x651001_1.length co74],.agg #[.int .i64 t662,.slice Ao70 t663.length co70]] rfl lp_ ?_;(with_reducible refine (spec_l6Mul.calls kj26 x651000_1 _ _ x651001_1 t662 _ _ t663 t666 t667 _ ?side1 ?side2 ?side3 ?side4 A59.out).mono ?_);(case side1 => refine (Kd.R_reads' (e:=3) (base:=w.heap.size) (ok:=fun k_ => (some k_ ≠ (.slice Ao43 t656.length co43 : Value).ownBlock ∧ some k_ ≠ (.slice Ao70 t663.length co70 : Value).ownBlock)) (n:=x651001_1.length) (c:=co74) ?_).2.2;exact (by refine pr_ ?_;exact (Kd.R_mono (Kd.R_far (p:=⟨gb654,1,none⟩) (Kd.R_far (p:=⟨gb654,0,none⟩) (Kd.R_types HO_651001.out BK654.out (by decide)) (fun _ hk => hk.2) (.int .i64 t662)) (fun _ hk => hk.2) (.slice Ao70 t663.length co70)) (fun _ h_ => h_.1))));(case side2 => exact (Kd.R_reads' HO_651001.out).2.1);(case side3 => refine (Kd.R_reads' (e:=3) (base:=w.heap.size) (ok:=fun k_ => ((True ∧ some k_ ≠ (.slice Ao74 x651001_1.length co74 : Value).ownBlock) ∧ some k_ ≠ (.slice Ao43 t656.length co43 : Value).ownBlock)) (n:=t663.length) (c:=co70) ?_).2.2;exact (by refine pr_ ?_;exact (Kd.R_mono (Kd.R_far (p:=⟨gb654,1,none⟩) (Kd.R_far (p:=⟨gb654,0,none⟩) (Kd.R_types HO665.out BK654.out (by decide)) (fun _ hk => hk.2) (.int .i64 t662)) (fun _ hk => hk.2) (.slice Ao70 t663.length co70)) (fun _ h_ => h_.1))));(case side4 => exact (Kd.R_reads' HO665.out).2.1);rintro e w75 ⟨v668,rfl,ho0,hb⟩;refine ⟨_,rfl,?_⟩;have HO669:=Aside0.mk (Kd.R_lower (Kd.R_new' (Kd.R_new' (Kd.R_new' ho0 (Kd.R_lt (by refine pr_ ?_;exact (Kd.R_mono (Kd.R_far (p:=⟨gb654,1,none⟩) (Kd.R_far (p:=⟨gb654,0,none⟩) (Kd.R_types HO_651001.out BK654.out (by decide)) (fun _ hk => hk.2) (.int .i64 t662)) (fun _ hk => hk.2) (.slice Ao70 t663.length co70)) (fun _ h_ => h_.1))))) (Kd.R_lt (by refine pr_ ?_;exact (Kd.R_mono (Kd.R_far (p:=⟨gb654,1,none⟩) (Kd.R_far (p:=⟨gb654,0,none⟩) (Kd.R_types HO_661001.out BK654.out (by decide)) (fun _ hk => hk.2) (.int .i64 t662)) (fun _ hk => hk.2) (.slice Ao70 t663.length co70)) (fun _ h_ => h_.1))))) (Kd.R_lt (by refine pr_ ?_;exact (Kd.R_mono (Kd.R_far (p:=⟨gb654,1,none⟩) (Kd.R_far (p:=⟨gb654,0,none⟩) (Kd.R_types HO665.out BK654.out (by decide)) (fun _ hk => hk.2) (.int .i64 t662)) (fun _ hk => hk.2) (.slice Ao70 t663.length co70)) (fun _ h_ => h_.1))))) (below_size (be5_ HB.out GE640.out GE641.out GE650.out GE654.out GE660.out)));replace HO_651001:=Aside0.mk (Kd.R_elder' (by refine pr_ ?_;exact (Kd.R_mono (Kd.R_far (p:=⟨gb654,1,none⟩) (Kd.R_far (p:=⟨gb654,0,none⟩) (Kd.R_types HO_651001.out BK654.out (by decide)) (fun _ hk => hk.2) (.int .i64 t662)) (fun _ hk => hk.2) (.slice Ao70 t663.length co70)) (fun _ h_ => h_.1))) (Kd.R_base ho0) hb);replace HO_661001:=Aside0.mk (Kd.R_elder' (by refine pr_ ?_;exact (Kd.R_mono (Kd.R_far (p:=⟨gb654,1,none⟩) (Kd.R_far (p:=⟨gb654,0,none⟩) (Kd.R_types HO_661001.out BK654.out (by decide)) (fun _ hk => hk.2) (.int .i64 t662)) (fun _ hk => hk.2) (.slice Ao70 t663.length co70)) (fun _ h_ => h_.1))) (Kd.R_base ho0) hb);replace HO665:=Aside0.mk (Kd.R_elder' (by refine pr_ ?_;exact (Kd.R_mono (Kd.R_far (p:=⟨gb654,1,none⟩) (Kd.R_far (p:=⟨gb654,0,none⟩) (Kd.R_types HO665.out BK654.out (by decide)) (fun _ hk => hk.2) (.int .i64 t662)) (fun _ hk => hk.2) (.slice Ao70 t663.length co70)) (fun _ h_ => h_.1))) (Kd.R_base ho0) hb);replace BK640:=Aside0.mk (blk_below (g:=gb640) (o:=.cells #[.int .i64 a0_0,.slice A0_1 l0_1.length c0_1,.slice A0_2 l0_2.length c0_2,.slice A0_3 l0_3.length c0_3] 33 (0,0)) (bf1_ BK640.out NB640_654.out) hb);replace BK641:=Aside0.mk (blk_below (g:=gb641) (o:=.cells #[.int .i64 x642000_1,.slice none 0 0] 35 (0,0)) (bf1_ BK641.out NB641_654.out) hb);replace BK650:=Aside0.mk (blk_below (g:=gb650) (o:=.cells #[.int .i64 x651000_1,.slice Ao74 x651001_1.length co74] 35 (0,0)) (bf1_ BK650.out NB650_654.out) hb);replace BK654:=Aside0.mk (blk_below (g:=gb654) (o:=.cells #[.int .i64 t662,.slice Ao70 t663.length co70] 35 (0,0)) (by refine pe_ ?_;refine blk_put (cs:=#[.int .i64 t662,.slice none 0 0]) ?_ 1 _ rfl;refine pe_ ?_;refine blk_put (cs:=#[.int .i64 0,.slice none 0 0]) ?_ 0 _ rfl;refine pe_ ?_;exact BK654.out) hb);replace BK660:=Aside0.mk (blk_below (g:=gb660) (o:=.cells #[.int .i64 t655,.slice Ao43 t656.length co43] 35 (0,0)) (bf1_ BK660.out NB660_654.out) hb);replace HB:=Aside0.mk (below_step (be5_ HB.out GE640.out GE641.out GE650.out GE654.out GE660.out) hb);(try clear hb);(try clear hb2);(try clear hk);(try clear hi);(try clear ho0);obtain ⟨hcz76_0,hcz76_1,hfz76_0,hfz76_1⟩:=cf2_ BK650.out;obtain ⟨Ao77,co77,eo77⟩:=Kd.R_slice HO669.out;subst eo77))
        go_roundg kj26
        case measure => have:=HK1.out;have:=HJ26.out;omega
        case rel => exact ⟨(t653),(x642000_1),(t666),(t667),(.slice Ao77 t667.length co77),rs_,H',⟨by have:=HK1.out;have:=HJ26.out;omega⟩,⟨by refine pr_ ?_;exact Kd.R_mono (Kd.R_far (p:=⟨gb650,1,none⟩) (Kd.R_far (p:=⟨gb650,0,none⟩) (Kd.R_types HO669.out BK650.out (by decide)) (fun _ hk => hk.2) (.int .i64 t666)) (fun _ hk => hk.2) (.slice Ao77 t667.length co77)) (fun _ hk => trivial)⟩,⟨bf1_ BK640.out NB640_650.out⟩,⟨bf1_ BK641.out NB641_650.out⟩,⟨by refine pe_ ?_;refine blk_put (cs:=#[.int .i64 t666,.slice Ao74 x651001_1.length co74]) ?_ 1 _ rfl;refine pe_ ?_;refine blk_put (cs:=#[.int .i64 x651000_1,.slice Ao74 x651001_1.length co74]) ?_ 0 _ rfl;refine pe_ ?_;exact BK650.out⟩,⟨be5_ HB.out GE640.out GE641.out GE650.out GE654.out GE660.out⟩⟩
    ·replace c25:=Bool.eq_false_iff.mpr c25
     subst c25
     have H1 : ((spec_l3Matrix.f k1 a0_0 l0_1 l0_2 l0_3 t651).bind fun bt670 => ((spec_l6Grades.f k1 bt670.1 bt670.2).bind fun bt674 => ((spec_l6Mul.f k1 x651000_1 x651001_1 bt674.1 bt674.2).bind fun bt678 => (spec_l7Value.l0 k1 t653 a0_0 l0_1 l0_2 l0_3 bt678.1 bt678.2)))) = some (r1,r2,r3):=by rw [if_neg (show ¬ (false = true) by decide)] at H;exact H
     clear H
     have H:=H1
     clear H1
     replace H:=Option.bind_eq_some_iff.mp H
     obtain ⟨⟨t670,t671⟩,A780,H⟩:=H
     replace H : ((spec_l6Grades.f k1 t670 t671).bind fun bt674 => ((spec_l6Mul.f k1 x651000_1 x651001_1 bt674.1 bt674.2).bind fun bt678 => (spec_l7Value.l0 k1 t653 a0_0 l0_1 l0_2 l0_3 bt678.1 bt678.2))) = some (r1,r2,r3):=H
     have A78:=Aside0.mk A780
     clear A780
     replace H:=Option.bind_eq_some_iff.mp H
     obtain ⟨⟨t674,t675⟩,A790,H⟩:=H
     replace H : ((spec_l6Mul.f k1 x651000_1 x651001_1 t674 t675).bind fun bt678 => (spec_l7Value.l0 k1 t653 a0_0 l0_1 l0_2 l0_3 bt678.1 bt678.2)) = some (r1,r2,r3):=H
     have A79:=Aside0.mk A790
     clear A790
     replace H:=Option.bind_eq_some_iff.mp H
     obtain ⟨⟨t678,t679⟩,A800,H⟩:=H
     replace H : (spec_l7Value.l0 k1 t653 a0_0 l0_1 l0_2 l0_3 t678 t679) = some (r1,r2,r3):=H
     have A80:=Aside0.mk A800
     clear A800
     have H':=Aside0.mk H
     clear H
     go_wp2_with (first|((with_reducible refine gate_callee (f:=143) rfl ?_);refine goesL_ (some 21) rfl rfl Try.func143 (by kernel_rfl) rfl #[.string x1_1] rfl lp_ ?_;(with_reducible refine (spec_l7Next.calls k1 x1_1 t651 false t653 _ A24.out).mono ?_);rintro e w' ⟨rfl,⟨nd,rfl⟩⟩;refine ⟨_,rfl,?_⟩;(try (rw [drewN_self wr];generalize hq_ : World.drewN wr _ = wr;have n0_ : Aside0 (Kd.R (Kd.int .i64) 3 wr w.heap.size (fun _ => True) u651001 x651001_1):=⟨by rw [← hq_];exact (pr_ HO_651001.out)⟩;have n1_ : Aside0 (wr.heap[gb640]? = some (.cells #[.int .i64 a0_0,.slice A0_1 l0_1.length c0_1,.slice A0_2 l0_2.length c0_2,.slice A0_3 l0_3.length c0_3] 33 (0,0))):=⟨by rw [← hq_];exact (pe_ BK640.out)⟩;have n2_ : Aside0 (wr.heap[gb641]? = some (.cells #[.int .i64 x642000_1,.slice none 0 0] 35 (0,0))):=⟨by rw [← hq_];exact (pe_ BK641.out)⟩;have n3_ : Aside0 (wr.heap[gb650]? = some (.cells #[.int .i64 x651000_1,u651001] 35 (0,0))):=⟨by rw [← hq_];exact (pe_ BK650.out)⟩;have n4_ : Aside0 (Below w.heap.size w wr):=⟨by rw [← hq_];exact (be3_ HB.out GE640.out GE641.out GE650.out)⟩;clear HO_651001 BK640 BK641 BK650 HB hq_;have HO_651001:=n0_;have BK640:=n1_;have BK641:=n2_;have BK650:=n3_;have HB:=n4_;clear n0_ n1_ n2_ n3_ n4_)))|((with_reducible refine bev_ (N:=10) rfl rfl (cs:=#[.int .i64 0,.slice none 0 0]) (t:=35) ?hr ?_);(case hr => first|(go_simp;done)|(go_simp;rfl));intro gb654 hg w81 hbox hb;replace HO_651001:=Aside0.mk (Kd.R_below (pr_ HO_651001.out) hb);have BK654:=Aside0.mk (hbox);have GW654:=Aside0.mk (szg_ hg (below_size (be3_ HB.out GE640.out GE641.out GE650.out)));have GE654:=GW654;replace HB:=Aside0.mk (below_step (be3_ HB.out GE640.out GE641.out GE650.out) hb);have NB640_654:=nm_ hg BK640;have NB654_640:=nn_ hg BK640;replace BK640:=kc_ BK640 hb;have NB641_654:=nm_ hg BK641;have NB654_641:=nn_ hg BK641;replace BK641:=kc_ BK641 hb;have NB650_654:=nm_ hg BK650;have NB654_650:=nn_ hg BK650;replace BK650:=kc_ BK650 hb;clear hb hbox hg;have hnb82:=NB654_640.out;have hnc82:=NB640_654.out;have hnb83:=NB654_641.out;have hnc83:=NB641_654.out;have hnb84:=NB654_650.out;have hnc84:=NB650_654.out;obtain ⟨hcz85_0,hcz85_1,hfz85_0,hfz85_1⟩:=cf2_ BK654.out;have hnb86:=NB640_641.out;have hnc86:=NB641_640.out;have hnb87:=NB640_650.out;have hnc87:=NB650_640.out;obtain ⟨hcz88_0,hcz88_1,hcz88_2,hcz88_3,hfz88_0,hfz88_1,hfz88_2,hfz88_3⟩:=cf4_ BK640.out)|((with_reducible refine gate_callee (f:=132) rfl ?_);refine goesL_ (some 45) rfl rfl Try.func132 (by kernel_rfl) rfl #[.agg #[.int .i64 a0_0,.slice A0_1 l0_1.length c0_1,.slice A0_2 l0_2.length c0_2,.slice A0_3 l0_3.length c0_3],.string t651] rfl lp_ ?_;(with_reducible refine (spec_l3Matrix.calls k1 a0_0 _ _ l0_1 _ _ l0_2 _ _ l0_3 t651 t670 t671 _ ?side1 ?side2 ?side3 ?side4 ?side5 ?side6 A78.out).mono ?_);(case side1 => exact Kd.C_below HR0_1.out (be4_ HB.out GE640.out GE641.out GE650.out GE654.out));(case side2 => exact HC0_1.out);(case side3 => exact Kd.C_below HR0_2.out (be4_ HB.out GE640.out GE641.out GE650.out GE654.out));(case side4 => exact HC0_2.out);(case side5 => exact Kd.C_below HR0_3.out (be4_ HB.out GE640.out GE641.out GE650.out GE654.out));(case side6 => exact HC0_3.out);rintro e w89 ⟨v672,rfl,ho0,hb⟩;refine ⟨_,rfl,?_⟩;have HO673:=Aside0.mk (Kd.R_lower (Kd.R_new' ho0 (Kd.R_lt (by refine pr_ ?_;exact (Kd.R_mono (Kd.R_far (p:=⟨gb654,1,none⟩) (Kd.R_far (p:=⟨gb654,0,none⟩) (Kd.R_types HO_651001.out BK654.out (by decide)) (fun _ hk => hk.2) (.int .i64 0)) (fun _ hk => hk.2) (.slice none 0 0)) (fun _ h_ => h_.1))))) (below_size (be4_ HB.out GE640.out GE641.out GE650.out GE654.out)));replace HO_651001:=Aside0.mk (Kd.R_elder' (by refine pr_ ?_;exact (Kd.R_mono (Kd.R_far (p:=⟨gb654,1,none⟩) (Kd.R_far (p:=⟨gb654,0,none⟩) (Kd.R_types HO_651001.out BK654.out (by decide)) (fun _ hk => hk.2) (.int .i64 0)) (fun _ hk => hk.2) (.slice none 0 0)) (fun _ h_ => h_.1))) (Kd.R_base ho0) hb);replace BK640:=Aside0.mk (blk_below (g:=gb640) (o:=.cells #[.int .i64 a0_0,.slice A0_1 l0_1.length c0_1,.slice A0_2 l0_2.length c0_2,.slice A0_3 l0_3.length c0_3] 33 (0,0)) (bf1_ BK640.out NB640_654.out) hb);replace BK641:=Aside0.mk (blk_below (g:=gb641) (o:=.cells #[.int .i64 x642000_1,.slice none 0 0] 35 (0,0)) (bf1_ BK641.out NB641_654.out) hb);replace BK650:=Aside0.mk (blk_below (g:=gb650) (o:=.cells #[.int .i64 x651000_1,u651001] 35 (0,0)) (bf1_ BK650.out NB650_654.out) hb);replace BK654:=Aside0.mk (blk_below (g:=gb654) (o:=.cells #[.int .i64 0,.slice none 0 0] 35 (0,0)) (by refine pe_ ?_;refine blk_put (cs:=#[.int .i64 0,.slice none 0 0]) ?_ 1 _ rfl;refine pe_ ?_;refine blk_put (cs:=#[.int .i64 0,.slice none 0 0]) ?_ 0 _ rfl;refine pe_ ?_;exact BK654.out) hb);replace HB:=Aside0.mk (below_step (be4_ HB.out GE640.out GE641.out GE650.out GE654.out) hb);(try clear hb);(try clear hb2);(try clear hk);(try clear hi);(try clear ho0);obtain ⟨Ao90,co90,eo90⟩:=Kd.R_slice HO673.out;subst eo90)|((with_reducible refine gate_callee (f:=142) rfl ?_);refine goesL_ (some 46) rfl rfl Try.func142 (by kernel_rfl) rfl #[.agg #[.int .i64 t670,.slice Ao90 t671.length co90]] rfl lp_ ?_;(with_reducible refine (spec_l6Grades.calls k1 t670 _ _ t671 t674 t675 _ ?side1 ?side2 A79.out).mono ?_);(case side1 => exact cr_ (Kd.R_reads' HO673.out).2.2);(case side2 => exact (Kd.R_reads' HO673.out).2.1);rintro e w91 ⟨v676,rfl,ho0,hb⟩;refine ⟨_,rfl,?_⟩;have HO677:=Aside0.mk (Kd.R_lower (Kd.R_new' (Kd.R_new' ho0 (Kd.R_lt (pr_ HO_651001.out))) (Kd.R_lt (pr_ HO673.out))) (below_size (be4_ HB.out GE640.out GE641.out GE650.out GE654.out)));replace HO_651001:=Aside0.mk (Kd.R_elder' (pr_ HO_651001.out) (Kd.R_base ho0) hb);replace HO673:=Aside0.mk (Kd.R_elder' (pr_ HO673.out) (Kd.R_base ho0) hb);replace BK640:=kc_ BK640 hb;replace BK641:=kc_ BK641 hb;replace BK650:=kc_ BK650 hb;replace BK654:=kc_ BK654 hb;replace HB:=Aside0.mk (below_step (be4_ HB.out GE640.out GE641.out GE650.out GE654.out) hb);(try clear hb);(try clear hb2);(try clear hk);(try clear hi);(try clear ho0);obtain ⟨hcz92_0,hcz92_1,hfz92_0,hfz92_1⟩:=cf2_ BK654.out;obtain ⟨Ao93,co93,eo93⟩:=Kd.R_slice HO677.out;subst eo93;have hnb94:=NB650_641.out;have hnc94:=NB641_650.out;obtain ⟨hcz95_0,hcz95_1,hfz95_0,hfz95_1⟩:=cf2_ BK650.out;obtain ⟨Ao96,co96,eo96⟩:=Kd.R_slice HO_651001.out;subst eo96)|((with_reducible refine gate_callee (f:=144) rfl ?_);refine goesL_ (some 49) rfl rfl Try.func144 (by kernel_rfl) rfl #[.agg #[.int .i64 x651000_1,.slice Ao96 x651001_1.length co96],.agg #[.int .i64 t674,.slice Ao93 t675.length co93]] rfl lp_ ?_;(with_reducible refine (spec_l6Mul.calls k1 x651000_1 _ _ x651001_1 t674 _ _ t675 t678 t679 _ ?side1 ?side2 ?side3 ?side4 A80.out).mono ?_);(case side1 => refine (Kd.R_reads' (e:=3) (base:=w.heap.size) (ok:=fun k_ => ((True ∧ some k_ ≠ (.slice Ao90 t671.length co90 : Value).ownBlock) ∧ some k_ ≠ (.slice Ao93 t675.length co93 : Value).ownBlock)) (n:=x651001_1.length) (c:=co96) ?_).2.2;exact (by refine pr_ ?_;exact (Kd.R_mono (Kd.R_far (p:=⟨gb654,1,none⟩) (Kd.R_far (p:=⟨gb654,0,none⟩) (Kd.R_types HO_651001.out BK654.out (by decide)) (fun _ hk => hk.2) (.int .i64 t674)) (fun _ hk => hk.2) (.slice Ao93 t675.length co93)) (fun _ h_ => h_.1))));(case side2 => exact (Kd.R_reads' HO_651001.out).2.1);(case side3 => refine (Kd.R_reads' (e:=3) (base:=w.heap.size) (ok:=fun k_ => ((True ∧ some k_ ≠ (.slice Ao96 x651001_1.length co96 : Value).ownBlock) ∧ some k_ ≠ (.slice Ao90 t671.length co90 : Value).ownBlock)) (n:=t675.length) (c:=co93) ?_).2.2;exact (by refine pr_ ?_;exact (Kd.R_mono (Kd.R_far (p:=⟨gb654,1,none⟩) (Kd.R_far (p:=⟨gb654,0,none⟩) (Kd.R_types HO677.out BK654.out (by decide)) (fun _ hk => hk.2) (.int .i64 t674)) (fun _ hk => hk.2) (.slice Ao93 t675.length co93)) (fun _ h_ => h_.1))));(case side4 => exact (Kd.R_reads' HO677.out).2.1);rintro e w97 ⟨v680,rfl,ho0,hb⟩;refine ⟨_,rfl,?_⟩;have HO681:=Aside0.mk (Kd.R_lower (Kd.R_new' (Kd.R_new' (Kd.R_new' ho0 (Kd.R_lt (by refine pr_ ?_;exact (Kd.R_mono (Kd.R_far (p:=⟨gb654,1,none⟩) (Kd.R_far (p:=⟨gb654,0,none⟩) (Kd.R_types HO_651001.out BK654.out (by decide)) (fun _ hk => hk.2) (.int .i64 t674)) (fun _ hk => hk.2) (.slice Ao93 t675.length co93)) (fun _ h_ => h_.1))))) (Kd.R_lt (by refine pr_ ?_;exact (Kd.R_mono (Kd.R_far (p:=⟨gb654,1,none⟩) (Kd.R_far (p:=⟨gb654,0,none⟩) (Kd.R_types HO673.out BK654.out (by decide)) (fun _ hk => hk.2) (.int .i64 t674)) (fun _ hk => hk.2) (.slice Ao93 t675.length co93)) (fun _ h_ => h_.1))))) (Kd.R_lt (by refine pr_ ?_;exact (Kd.R_mono (Kd.R_far (p:=⟨gb654,1,none⟩) (Kd.R_far (p:=⟨gb654,0,none⟩) (Kd.R_types HO677.out BK654.out (by decide)) (fun _ hk => hk.2) (.int .i64 t674)) (fun _ hk => hk.2) (.slice Ao93 t675.length co93)) (fun _ h_ => h_.1))))) (below_size (be4_ HB.out GE640.out GE641.out GE650.out GE654.out)));replace HO_651001:=Aside0.mk (Kd.R_elder' (by refine pr_ ?_;exact (Kd.R_mono (Kd.R_far (p:=⟨gb654,1,none⟩) (Kd.R_far (p:=⟨gb654,0,none⟩) (Kd.R_types HO_651001.out BK654.out (by decide)) (fun _ hk => hk.2) (.int .i64 t674)) (fun _ hk => hk.2) (.slice Ao93 t675.length co93)) (fun _ h_ => h_.1))) (Kd.R_base ho0) hb);replace HO673:=Aside0.mk (Kd.R_elder' (by refine pr_ ?_;exact (Kd.R_mono (Kd.R_far (p:=⟨gb654,1,none⟩) (Kd.R_far (p:=⟨gb654,0,none⟩) (Kd.R_types HO673.out BK654.out (by decide)) (fun _ hk => hk.2) (.int .i64 t674)) (fun _ hk => hk.2) (.slice Ao93 t675.length co93)) (fun _ h_ => h_.1))) (Kd.R_base ho0) hb);replace HO677:=Aside0.mk (Kd.R_elder' (by refine pr_ ?_;exact (Kd.R_mono (Kd.R_far (p:=⟨gb654,1,none⟩) (Kd.R_far (p:=⟨gb654,0,none⟩) (Kd.R_types HO677.out BK654.out (by decide)) (fun _ hk => hk.2) (.int .i64 t674)) (fun _ hk => hk.2) (.slice Ao93 t675.length co93)) (fun _ h_ => h_.1))) (Kd.R_base ho0) hb);replace BK640:=Aside0.mk (blk_below (g:=gb640) (o:=.cells #[.int .i64 a0_0,.slice A0_1 l0_1.length c0_1,.slice A0_2 l0_2.length c0_2,.slice A0_3 l0_3.length c0_3] 33 (0,0)) (bf1_ BK640.out NB640_654.out) hb);replace BK641:=Aside0.mk (blk_below (g:=gb641) (o:=.cells #[.int .i64 x642000_1,.slice none 0 0] 35 (0,0)) (bf1_ BK641.out NB641_654.out) hb);replace BK650:=Aside0.mk (blk_below (g:=gb650) (o:=.cells #[.int .i64 x651000_1,.slice Ao96 x651001_1.length co96] 35 (0,0)) (bf1_ BK650.out NB650_654.out) hb);replace BK654:=Aside0.mk (blk_below (g:=gb654) (o:=.cells #[.int .i64 t674,.slice Ao93 t675.length co93] 35 (0,0)) (by refine pe_ ?_;refine blk_put (cs:=#[.int .i64 t674,.slice none 0 0]) ?_ 1 _ rfl;refine pe_ ?_;refine blk_put (cs:=#[.int .i64 0,.slice none 0 0]) ?_ 0 _ rfl;refine pe_ ?_;exact BK654.out) hb);replace HB:=Aside0.mk (below_step (be4_ HB.out GE640.out GE641.out GE650.out GE654.out) hb);(try clear hb);(try clear hb2);(try clear hk);(try clear hi);(try clear ho0);obtain ⟨hcz98_0,hcz98_1,hfz98_0,hfz98_1⟩:=cf2_ BK650.out;obtain ⟨Ao99,co99,eo99⟩:=Kd.R_slice HO681.out;subst eo99))
     go_roundg k1
     case measure => have:=HK1.out;omega
     case rel => exact ⟨(t653),(x642000_1),(t678),(t679),(.slice Ao99 t679.length co99),rs_,H',⟨by have:=HK1.out;omega⟩,⟨by refine pr_ ?_;exact Kd.R_mono (Kd.R_far (p:=⟨gb650,1,none⟩) (Kd.R_far (p:=⟨gb650,0,none⟩) (Kd.R_types HO681.out BK650.out (by decide)) (fun _ hk => hk.2) (.int .i64 t678)) (fun _ hk => hk.2) (.slice Ao99 t679.length co99)) (fun _ hk => trivial)⟩,⟨bf1_ BK640.out NB640_650.out⟩,⟨bf1_ BK641.out NB641_650.out⟩,⟨by refine pe_ ?_;refine blk_put (cs:=#[.int .i64 t678,.slice Ao96 x651001_1.length co96]) ?_ 1 _ rfl;refine pe_ ?_;refine blk_put (cs:=#[.int .i64 x651000_1,.slice Ao96 x651001_1.length co96]) ?_ 0 _ rfl;refine pe_ ?_;exact BK650.out⟩,⟨be4_ HB.out GE640.out GE641.out GE650.out GE654.out⟩⟩
def spec_ValueOf.f (k : Nat) (a0_0 : Int) (l0_1 : List Int) (l0_2 : List Int) (l0_3 : List (S92)) (a1 : ByteArray) : Option (Int × List Int × Bool):=(spec_AutomatonValid.f k a0_0 l0_1 l0_2 l0_3).bind fun t684 => (if t684 = true then ((spec_ExpressionValid.f k a1).bind fun t685 => (if t685 = true then ((spec_l7Value.f k a0_0 l0_1 l0_2 l0_3 a1).bind fun bt686 => (some (bt686.1,bt686.2.1,bt686.2.2))) else (some (0,([] : List Int),false)))) else (some (0,([] : List Int),false)))
theorem spec_ValueOf.mono : ∀ a0 a1 a2 a3 a4 k,LeO (spec_ValueOf.f k a0 a1 a2 a3 a4) (spec_ValueOf.f (k + 1) a0 a1 a2 a3 a4):=by
 intro a0 a1 a2 a3 a4 k
 unfold spec_ValueOf.f
 repeat' first
   | (with_reducible exact spec_AutomatonValid.mono _ _ _ _ _)
   | (with_reducible exact spec_ExpressionValid.mono _ _)
   | (with_reducible exact spec_l7Value.mono _ _ _ _ _ _)
   | (with_reducible first|exact LeO.refl _|exact LeO.none _|refine LeO.ite ?_ ?_|refine LeO.bind ?_ (fun _ => ?_))
   | exact spec_AutomatonValid.mono _ _ _ _ _
   | exact spec_ExpressionValid.mono _ _
   | exact spec_l7Value.mono _ _ _ _ _ _
   | exact LeO.none _
   | refine LeO.ite ?_ ?_
   | refine LeO.bind ?_ (fun _ => ?_)
set_option maxHeartbeats 8000000 in
set_option maxRecDepth 100000 in
theorem spec_ValueOf.calls (k : Nat) (a0_0 : Int) (A0_1 : Option Addr) (c0_1 : Nat) (l0_1 : List Int) (A0_2 : Option Addr) (c0_2 : Nat) (l0_2 : List Int) (A0_3 : Option Addr) (c0_3 : Nat) (l0_3 : List (S92)) (a1 : ByteArray) (r1 : Int) (r2 : List Int) (r3 : Bool) (w : World) (hr0_1 : Kd.C (Kd.int .i64) w A0_1 l0_1.length l0_1) (hc0_1 : l0_1.length ≤ c0_1) (hr0_2 : Kd.C (Kd.int .i64) w A0_2 l0_2.length l0_2) (hc0_2 : l0_2.length ≤ c0_2) (hr0_3 : Kd.C k92 w A0_3 l0_3.length l0_3) (hc0_3 : l0_3.length ≤ c0_3) (h : spec_ValueOf.f k a0_0 l0_1 l0_2 l0_3 a1 = some (r1,r2,r3)) :
  Calls Try.prog 34 #[.agg #[.int .i64 a0_0,.slice A0_1 l0_1.length c0_1,.slice A0_2 l0_2.length c0_2,.slice A0_3 l0_3.length c0_3],.string a1] w fun e w' => ∃ v1_ : Value,e = .returned (.tuple #[.agg #[.int .i64 r1,v1_],.bool r3]) ∧ Kd.R (Kd.int .i64) 3 w' w.heap.size (fun _ => True) v1_ r2 ∧ Below w.heap.size w w':=by
 have hu33:=Try.underlying33
 have hu35:=Try.underlying35
 have HR0_1:=Aside0.mk hr0_1
 have HC0_1:=Aside0.mk hc0_1
 clear hr0_1 hc0_1
 have HR0_2:=Aside0.mk hr0_2
 have HC0_2:=Aside0.mk hc0_2
 clear hr0_2 hc0_2
 have HR0_3:=Aside0.mk hr0_3
 have HC0_3:=Aside0.mk hc0_3
 clear hr0_3 hc0_3
 have HB:=Aside0.mk (Below.refl w.heap.size w)
 have H : ((spec_AutomatonValid.f k a0_0 l0_1 l0_2 l0_3).bind fun t684 => (if t684 = true then ((spec_ExpressionValid.f k a1).bind fun t685 => (if t685 = true then ((spec_l7Value.f k a0_0 l0_1 l0_2 l0_3 a1).bind fun bt686 => (some (bt686.1,bt686.2.1,bt686.2.2))) else (some (0,([] : List Int),false)))) else (some (0,([] : List Int),false)))) = some (r1,r2,r3):=h
 clear h
 replace H:=Option.bind_eq_some_iff.mp H
 obtain ⟨t684,A30,H⟩:=H
 replace H : (if t684 = true then ((spec_ExpressionValid.f k a1).bind fun t685 => (if t685 = true then ((spec_l7Value.f k a0_0 l0_1 l0_2 l0_3 a1).bind fun bt686 => (some (bt686.1,bt686.2.1,bt686.2.2))) else (some (0,([] : List Int),false)))) else (some (0,([] : List Int),false))) = some (r1,r2,r3):=H
 have A3:=Aside0.mk A30
 clear A30
 by_cases c4 : t684 = true
 ·subst c4
  have H1 : ((spec_ExpressionValid.f k a1).bind fun t685 => (if t685 = true then ((spec_l7Value.f k a0_0 l0_1 l0_2 l0_3 a1).bind fun bt686 => (some (bt686.1,bt686.2.1,bt686.2.2))) else (some (0,([] : List Int),false)))) = some (r1,r2,r3):=by rw [if_pos rfl] at H;exact H
  clear H
  have H:=H1
  clear H1
  replace H:=Option.bind_eq_some_iff.mp H
  obtain ⟨t685,A50,H⟩:=H
  replace H : (if t685 = true then ((spec_l7Value.f k a0_0 l0_1 l0_2 l0_3 a1).bind fun bt686 => (some (bt686.1,bt686.2.1,bt686.2.2))) else (some (0,([] : List Int),false))) = some (r1,r2,r3):=H
  have A5:=Aside0.mk A50
  clear A50
  by_cases c6 : t685 = true
  ·subst c6
   have H1 : ((spec_l7Value.f k a0_0 l0_1 l0_2 l0_3 a1).bind fun bt686 => (some (bt686.1,bt686.2.1,bt686.2.2))) = some (r1,r2,r3):=by rw [if_pos rfl] at H;exact H
   clear H
   have H:=H1
   clear H1
   replace H:=Option.bind_eq_some_iff.mp H
   obtain ⟨⟨t686,t687,t690⟩,A70,H⟩:=H
   replace H : (some (t686,t687,t690)) = some (r1,r2,r3):=H
   have A7:=Aside0.mk A70
   clear A70
   simp only [Option.some.injEq,Prod.mk.injEq] at H
   obtain ⟨rfl,rfl,rfl⟩:=H
   go_enter Try.func34,Try.ntmps34
   go_wp2_with (first|((with_reducible refine bev_ (N:=2) rfl rfl (cs:=#[.int .i64 a0_0,.slice A0_1 l0_1.length c0_1,.slice A0_2 l0_2.length c0_2,.slice A0_3 l0_3.length c0_3]) (t:=33) ?hr ?_);(case hr => first|(go_simp;done)|(go_simp;rfl));intro gb682 hg w8 hbox hb;have BK682:=Aside0.mk (hbox);have GW682:=Aside0.mk (szg_ hg (below_size (be0_ HB.out)));have GE682:=GW682;replace HB:=Aside0.mk (below_step (be0_ HB.out) hb);clear hb hbox hg)|((with_reducible refine bev_ (N:=4) rfl rfl (cs:=#[.int .i64 0,.slice none 0 0]) (t:=35) ?hr ?_);(case hr => first|(go_simp;done)|(go_simp;rfl));intro gb683 hg w9 hbox hb;have BK683:=Aside0.mk (hbox);have GW683:=Aside0.mk (szg_ hg (below_size (be1_ HB.out GE682.out)));have GE683:=GW683;replace HB:=Aside0.mk (below_step (be1_ HB.out GE682.out) hb);have NB682_683:=nm_ hg BK682;have NB683_682:=nn_ hg BK682;replace BK682:=kc_ BK682 hb;clear hb hbox hg;have hnb10:=NB682_683.out;have hnc10:=NB683_682.out;obtain ⟨hcz11_0,hcz11_1,hcz11_2,hcz11_3,hfz11_0,hfz11_1,hfz11_2,hfz11_3⟩:=cf4_ BK682.out)|((with_reducible refine gate_callee (f:=67) rfl ?_);refine goesL_ (some 7) rfl rfl Try.func67 (by kernel_rfl) rfl #[.agg #[.int .i64 a0_0,.slice A0_1 l0_1.length c0_1,.slice A0_2 l0_2.length c0_2,.slice A0_3 l0_3.length c0_3]] rfl lp_ ?_;(with_reducible refine (spec_AutomatonValid.calls k a0_0 _ _ l0_1 _ _ l0_2 _ _ l0_3 true _ ?side1 ?side2 ?side3 ?side4 ?side5 ?side6 A3.out).mono ?_);(case side1 => exact cr_ (Kd.C_below HR0_1.out HB.out));(case side2 => exact HC0_1.out);(case side3 => exact cr_ (Kd.C_below HR0_2.out HB.out));(case side4 => exact HC0_2.out);(case side5 => exact cr_ (Kd.C_below HR0_3.out HB.out));(case side6 => exact HC0_3.out);rintro e w12 ⟨rfl,hb⟩;refine ⟨_,rfl,?_⟩;replace BK682:=kc_ BK682 hb;replace BK683:=kc_ BK683 hb;replace HB:=Aside0.mk (below_step (be2_ HB.out GE682.out GE683.out) hb);(try clear hb);(try clear hb2);(try clear hk);(try clear hi))|(go_at_call 86;(with_reducible refine (spec_ExpressionValid.calls k a1 true _ A5.out).mono ?_);rintro e w' ⟨rfl,⟨nd,rfl⟩⟩;(try (rw [drewN_self w12];generalize hq_ : World.drewN w12 _ = w12;have n0_ : Aside0 (w12.heap[gb682]? = some (.cells #[.int .i64 a0_0,.slice A0_1 l0_1.length c0_1,.slice A0_2 l0_2.length c0_2,.slice A0_3 l0_3.length c0_3] 33 (0,0))):=⟨by rw [← hq_];exact (pe_ BK682.out)⟩;have n1_ : Aside0 (w12.heap[gb683]? = some (.cells #[.int .i64 0,.slice none 0 0] 35 (0,0))):=⟨by rw [← hq_];exact (pe_ BK683.out)⟩;have n2_ : Aside0 (Below w.heap.size w w12):=⟨by rw [← hq_];exact (be2_ HB.out GE682.out GE683.out)⟩;clear BK682 BK683 HB hq_;have BK682:=n0_;have BK683:=n1_;have HB:=n2_;clear n0_ n1_ n2_));obtain ⟨hcz13_0,hcz13_1,hcz13_2,hcz13_3,hfz13_0,hfz13_1,hfz13_2,hfz13_3⟩:=cf4_ BK682.out)|((with_reducible refine gate_callee (f:=87) rfl ?_);refine goesL_ (some 17) rfl rfl Try.func87 (by kernel_rfl) rfl #[.agg #[.int .i64 a0_0,.slice A0_1 l0_1.length c0_1,.slice A0_2 l0_2.length c0_2,.slice A0_3 l0_3.length c0_3],.string a1] rfl lp_ ?_;(with_reducible refine (spec_l7Value.calls k a0_0 _ _ l0_1 _ _ l0_2 _ _ l0_3 a1 t686 t687 t690 _ ?side1 ?side2 ?side3 ?side4 ?side5 ?side6 A7.out).mono ?_);(case side1 => exact cr_ (Kd.C_below HR0_1.out HB.out));(case side2 => exact HC0_1.out);(case side3 => exact cr_ (Kd.C_below HR0_2.out HB.out));(case side4 => exact HC0_2.out);(case side5 => exact cr_ (Kd.C_below HR0_3.out HB.out));(case side6 => exact HC0_3.out);rintro e w14 ⟨v688,rfl,ho0,hb⟩;refine ⟨_,rfl,?_⟩;have HO689:=Aside0.mk (Kd.R_lower ho0 (below_size (be2_ HB.out GE682.out GE683.out)));replace BK682:=kc_ BK682 hb;replace BK683:=kc_ BK683 hb;replace HB:=Aside0.mk (below_step (be2_ HB.out GE682.out GE683.out) hb);(try clear hb);(try clear hb2);(try clear hk);(try clear hi);(try clear ho0);obtain ⟨hcz15_0,hcz15_1,hfz15_0,hfz15_1⟩:=cf2_ BK683.out;obtain ⟨Ao16,co16,eo16⟩:=Kd.R_slice HO689.out;subst eo16))
   refine bodyPost_ret (results_ct rfl _ _ gb683 35 #[.int .i64 t686,.slice Ao16 t687.length co16] (0,0) _ rfl (by refine pe_ ?_;refine blk_put (cs:=#[.int .i64 t686,.slice none 0 0]) ?_ 1 _ rfl;refine pe_ ?_;refine blk_put (cs:=#[.int .i64 0,.slice none 0 0]) ?_ 0 _ rfl;refine pe_ ?_;exact BK683.out) Try.underlying35 rfl (by kernel_rfl)) rfl ?_
   exact ⟨_,er_,by refine pr_ ?_;exact Kd.R_mono (Kd.R_far (p:=⟨gb683,1,none⟩) (Kd.R_far (p:=⟨gb683,0,none⟩) (Kd.R_types HO689.out BK683.out (by decide)) (fun _ hk => hk.2) (.int .i64 t686)) (fun _ hk => hk.2) (.slice Ao16 t687.length co16)) (fun _ hk => trivial),be2_ HB.out GE682.out GE683.out⟩
  ·replace c6:=Bool.eq_false_iff.mpr c6
   subst c6
   have H1 : (some (0,([] : List Int),false)) = some (r1,r2,r3):=by rw [if_neg (show ¬ (false = true) by decide)] at H;exact H
   clear H
   have H:=H1
   clear H1
   simp only [Option.some.injEq,Prod.mk.injEq] at H
   obtain ⟨rfl,rfl,rfl⟩:=H
   go_enter Try.func34,Try.ntmps34
   go_wp2_with (first|((with_reducible refine bev_ (N:=2) rfl rfl (cs:=#[.int .i64 a0_0,.slice A0_1 l0_1.length c0_1,.slice A0_2 l0_2.length c0_2,.slice A0_3 l0_3.length c0_3]) (t:=33) ?hr ?_);(case hr => first|(go_simp;done)|(go_simp;rfl));intro gb682 hg w17 hbox hb;have BK682:=Aside0.mk (hbox);have GW682:=Aside0.mk (szg_ hg (below_size (be0_ HB.out)));have GE682:=GW682;replace HB:=Aside0.mk (below_step (be0_ HB.out) hb);clear hb hbox hg)|((with_reducible refine bev_ (N:=4) rfl rfl (cs:=#[.int .i64 0,.slice none 0 0]) (t:=35) ?hr ?_);(case hr => first|(go_simp;done)|(go_simp;rfl));intro gb683 hg w18 hbox hb;have BK683:=Aside0.mk (hbox);have GW683:=Aside0.mk (szg_ hg (below_size (be1_ HB.out GE682.out)));have GE683:=GW683;replace HB:=Aside0.mk (below_step (be1_ HB.out GE682.out) hb);have NB682_683:=nm_ hg BK682;have NB683_682:=nn_ hg BK682;replace BK682:=kc_ BK682 hb;clear hb hbox hg;have hnb19:=NB682_683.out;have hnc19:=NB683_682.out;obtain ⟨hcz20_0,hcz20_1,hcz20_2,hcz20_3,hfz20_0,hfz20_1,hfz20_2,hfz20_3⟩:=cf4_ BK682.out)|((with_reducible refine gate_callee (f:=67) rfl ?_);refine goesL_ (some 7) rfl rfl Try.func67 (by kernel_rfl) rfl #[.agg #[.int .i64 a0_0,.slice A0_1 l0_1.length c0_1,.slice A0_2 l0_2.length c0_2,.slice A0_3 l0_3.length c0_3]] rfl lp_ ?_;(with_reducible refine (spec_AutomatonValid.calls k a0_0 _ _ l0_1 _ _ l0_2 _ _ l0_3 true _ ?side1 ?side2 ?side3 ?side4 ?side5 ?side6 A3.out).mono ?_);(case side1 => exact cr_ (Kd.C_below HR0_1.out HB.out));(case side2 => exact HC0_1.out);(case side3 => exact cr_ (Kd.C_below HR0_2.out HB.out));(case side4 => exact HC0_2.out);(case side5 => exact cr_ (Kd.C_below HR0_3.out HB.out));(case side6 => exact HC0_3.out);rintro e w21 ⟨rfl,hb⟩;refine ⟨_,rfl,?_⟩;replace BK682:=kc_ BK682 hb;replace BK683:=kc_ BK683 hb;replace HB:=Aside0.mk (below_step (be2_ HB.out GE682.out GE683.out) hb);(try clear hb);(try clear hb2);(try clear hk);(try clear hi))|(go_at_call 86;(with_reducible refine (spec_ExpressionValid.calls k a1 false _ A5.out).mono ?_);rintro e w' ⟨rfl,⟨nd,rfl⟩⟩;(try (rw [drewN_self w21];generalize hq_ : World.drewN w21 _ = w21;have n0_ : Aside0 (w21.heap[gb682]? = some (.cells #[.int .i64 a0_0,.slice A0_1 l0_1.length c0_1,.slice A0_2 l0_2.length c0_2,.slice A0_3 l0_3.length c0_3] 33 (0,0))):=⟨by rw [← hq_];exact (pe_ BK682.out)⟩;have n1_ : Aside0 (w21.heap[gb683]? = some (.cells #[.int .i64 0,.slice none 0 0] 35 (0,0))):=⟨by rw [← hq_];exact (pe_ BK683.out)⟩;have n2_ : Aside0 (Below w.heap.size w w21):=⟨by rw [← hq_];exact (be2_ HB.out GE682.out GE683.out)⟩;clear BK682 BK683 HB hq_;have BK682:=n0_;have BK683:=n1_;have HB:=n2_;clear n0_ n1_ n2_));obtain ⟨hcz22_0,hcz22_1,hfz22_0,hfz22_1⟩:=cf2_ BK683.out))
   refine bodyPost_ret (results_ct rfl _ _ gb683 35 #[.int .i64 0,.slice none 0 0] (0,0) _ rfl (by refine pe_ ?_;refine blk_put (cs:=#[.int .i64 0,.slice none 0 0]) ?_ 1 _ rfl;refine pe_ ?_;refine blk_put (cs:=#[.int .i64 0,.slice none 0 0]) ?_ 0 _ rfl;refine pe_ ?_;exact BK683.out) Try.underlying35 rfl (by kernel_rfl)) rfl ?_
   exact ⟨_,er_,by first|exact Kd.R_nil _ _ _ _ _|exact Kd.N_nil _ _ _ _ _|exact Kd.V_nil _ _ _ _ _|exact Kd.Q_nil _ _ _ _ _|exact Kd.S_nil _ _ _ _ _,be2_ HB.out GE682.out GE683.out⟩
 ·replace c4:=Bool.eq_false_iff.mpr c4
  subst c4
  have H1 : (some (0,([] : List Int),false)) = some (r1,r2,r3):=by rw [if_neg (show ¬ (false = true) by decide)] at H;exact H
  clear H
  have H:=H1
  clear H1
  simp only [Option.some.injEq,Prod.mk.injEq] at H
  obtain ⟨rfl,rfl,rfl⟩:=H
  go_enter Try.func34,Try.ntmps34
  go_wp2_with (first|((with_reducible refine bev_ (N:=2) rfl rfl (cs:=#[.int .i64 a0_0,.slice A0_1 l0_1.length c0_1,.slice A0_2 l0_2.length c0_2,.slice A0_3 l0_3.length c0_3]) (t:=33) ?hr ?_);(case hr => first|(go_simp;done)|(go_simp;rfl));intro gb682 hg w23 hbox hb;have BK682:=Aside0.mk (hbox);have GW682:=Aside0.mk (szg_ hg (below_size (be0_ HB.out)));have GE682:=GW682;replace HB:=Aside0.mk (below_step (be0_ HB.out) hb);clear hb hbox hg)|((with_reducible refine bev_ (N:=4) rfl rfl (cs:=#[.int .i64 0,.slice none 0 0]) (t:=35) ?hr ?_);(case hr => first|(go_simp;done)|(go_simp;rfl));intro gb683 hg w24 hbox hb;have BK683:=Aside0.mk (hbox);have GW683:=Aside0.mk (szg_ hg (below_size (be1_ HB.out GE682.out)));have GE683:=GW683;replace HB:=Aside0.mk (below_step (be1_ HB.out GE682.out) hb);have NB682_683:=nm_ hg BK682;have NB683_682:=nn_ hg BK682;replace BK682:=kc_ BK682 hb;clear hb hbox hg;have hnb25:=NB682_683.out;have hnc25:=NB683_682.out;obtain ⟨hcz26_0,hcz26_1,hcz26_2,hcz26_3,hfz26_0,hfz26_1,hfz26_2,hfz26_3⟩:=cf4_ BK682.out)|((with_reducible refine gate_callee (f:=67) rfl ?_);refine goesL_ (some 7) rfl rfl Try.func67 (by kernel_rfl) rfl #[.agg #[.int .i64 a0_0,.slice A0_1 l0_1.length c0_1,.slice A0_2 l0_2.length c0_2,.slice A0_3 l0_3.length c0_3]] rfl lp_ ?_;(with_reducible refine (spec_AutomatonValid.calls k a0_0 _ _ l0_1 _ _ l0_2 _ _ l0_3 false _ ?side1 ?side2 ?side3 ?side4 ?side5 ?side6 A3.out).mono ?_);(case side1 => exact cr_ (Kd.C_below HR0_1.out HB.out));(case side2 => exact HC0_1.out);(case side3 => exact cr_ (Kd.C_below HR0_2.out HB.out));(case side4 => exact HC0_2.out);(case side5 => exact cr_ (Kd.C_below HR0_3.out HB.out));(case side6 => exact HC0_3.out);rintro e w27 ⟨rfl,hb⟩;refine ⟨_,rfl,?_⟩;replace BK682:=kc_ BK682 hb;replace BK683:=kc_ BK683 hb;replace HB:=Aside0.mk (below_step (be2_ HB.out GE682.out GE683.out) hb);(try clear hb);(try clear hb2);(try clear hk);(try clear hi);obtain ⟨hcz28_0,hcz28_1,hfz28_0,hfz28_1⟩:=cf2_ BK683.out))
  refine bodyPost_ret (results_ct rfl _ _ gb683 35 #[.int .i64 0,.slice none 0 0] (0,0) _ rfl (by refine pe_ ?_;refine blk_put (cs:=#[.int .i64 0,.slice none 0 0]) ?_ 1 _ rfl;refine pe_ ?_;refine blk_put (cs:=#[.int .i64 0,.slice none 0 0]) ?_ 0 _ rfl;refine pe_ ?_;exact BK683.out) Try.underlying35 rfl (by kernel_rfl)) rfl ?_
  exact ⟨_,er_,by first|exact Kd.R_nil _ _ _ _ _|exact Kd.N_nil _ _ _ _ _|exact Kd.V_nil _ _ _ _ _|exact Kd.Q_nil _ _ _ _ _|exact Kd.S_nil _ _ _ _ _,be2_ HB.out GE682.out GE683.out⟩
def spec_GradeOf.f (k : Nat) (a0_0 : Int) (l0_1 : List Int) (l0_2 : List Int) (l0_3 : List (S92)) (a1 : ByteArray) : Option (Int):=(spec_ValueOf.f k a0_0 l0_1 l0_2 l0_3 a1).bind fun bt692 => (if bt692.2.2 = true then ((spec_l6Between.f k a0_0 l0_1 l0_2 l0_3 bt692.1 bt692.2.1).bind fun t698 => (some t698)) else (some (-1)))
theorem spec_GradeOf.mono : ∀ a0 a1 a2 a3 a4 k,LeO (spec_GradeOf.f k a0 a1 a2 a3 a4) (spec_GradeOf.f (k + 1) a0 a1 a2 a3 a4):=by
 intro a0 a1 a2 a3 a4 k
 unfold spec_GradeOf.f
 repeat' first
   | (with_reducible exact spec_ValueOf.mono _ _ _ _ _ _)
   | (with_reducible exact spec_l6Between.mono _ _ _ _ _ _ _)
   | (with_reducible first|exact LeO.refl _|exact LeO.none _|refine LeO.ite ?_ ?_|refine LeO.bind ?_ (fun _ => ?_))
   | exact spec_ValueOf.mono _ _ _ _ _ _
   | exact spec_l6Between.mono _ _ _ _ _ _ _
   | exact LeO.none _
   | refine LeO.ite ?_ ?_
   | refine LeO.bind ?_ (fun _ => ?_)
set_option maxHeartbeats 8000000 in
set_option maxRecDepth 100000 in
theorem spec_GradeOf.calls (k : Nat) (a0_0 : Int) (A0_1 : Option Addr) (c0_1 : Nat) (l0_1 : List Int) (A0_2 : Option Addr) (c0_2 : Nat) (l0_2 : List Int) (A0_3 : Option Addr) (c0_3 : Nat) (l0_3 : List (S92)) (a1 : ByteArray) (r : Int) (w : World) (hr0_1 : Kd.C (Kd.int .i64) w A0_1 l0_1.length l0_1) (hc0_1 : l0_1.length ≤ c0_1) (hr0_2 : Kd.C (Kd.int .i64) w A0_2 l0_2.length l0_2) (hc0_2 : l0_2.length ≤ c0_2) (hr0_3 : Kd.C k92 w A0_3 l0_3.length l0_3) (hc0_3 : l0_3.length ≤ c0_3) (h : spec_GradeOf.f k a0_0 l0_1 l0_2 l0_3 a1 = some r) :
  Calls Try.prog 32 #[.agg #[.int .i64 a0_0,.slice A0_1 l0_1.length c0_1,.slice A0_2 l0_2.length c0_2,.slice A0_3 l0_3.length c0_3],.string a1] w fun e w' => e = .returned (.int .i64 r) ∧ Below w.heap.size w w':=by
 have hu33:=Try.underlying33
 have hu35:=Try.underlying35
 have HR0_1:=Aside0.mk hr0_1
 have HC0_1:=Aside0.mk hc0_1
 clear hr0_1 hc0_1
 have HR0_2:=Aside0.mk hr0_2
 have HC0_2:=Aside0.mk hc0_2
 clear hr0_2 hc0_2
 have HR0_3:=Aside0.mk hr0_3
 have HC0_3:=Aside0.mk hc0_3
 clear hr0_3 hc0_3
 have HB:=Aside0.mk (Below.refl w.heap.size w)
 have H : ((spec_ValueOf.f k a0_0 l0_1 l0_2 l0_3 a1).bind fun bt692 => (if bt692.2.2 = true then ((spec_l6Between.f k a0_0 l0_1 l0_2 l0_3 bt692.1 bt692.2.1).bind fun t698 => (some t698)) else (some (-1)))) = some r:=h
 clear h
 replace H:=Option.bind_eq_some_iff.mp H
 obtain ⟨⟨t692,t693,t696⟩,A30,H⟩:=H
 replace H : (if t696 = true then ((spec_l6Between.f k a0_0 l0_1 l0_2 l0_3 t692 t693).bind fun t698 => (some t698)) else (some (-1))) = some r:=H
 have A3:=Aside0.mk A30
 clear A30
 by_cases c4 : t696 = true
 ·subst c4
  have H1 : ((spec_l6Between.f k a0_0 l0_1 l0_2 l0_3 t692 t693).bind fun t698 => (some t698)) = some r:=by rw [if_pos rfl] at H;exact H
  clear H
  have H:=H1
  clear H1
  replace H:=Option.bind_eq_some_iff.mp H
  obtain ⟨t698,A50,H⟩:=H
  replace H : (some t698) = some r:=H
  have A5:=Aside0.mk A50
  clear A50
  obtain rfl:=Option.some.inj H
  go_enter Try.func32,Try.ntmps32
  go_wp2_with (first|((with_reducible refine bev_ (N:=2) rfl rfl (cs:=#[.int .i64 a0_0,.slice A0_1 l0_1.length c0_1,.slice A0_2 l0_2.length c0_2,.slice A0_3 l0_3.length c0_3]) (t:=33) ?hr ?_);(case hr => first|(go_simp;done)|(go_simp;rfl));intro gb691 hg w6 hbox hb;have BK691:=Aside0.mk (hbox);have GW691:=Aside0.mk (szg_ hg (below_size (be0_ HB.out)));have GE691:=GW691;replace HB:=Aside0.mk (below_step (be0_ HB.out) hb);clear hb hbox hg;obtain ⟨hcz7_0,hcz7_1,hcz7_2,hcz7_3,hfz7_0,hfz7_1,hfz7_2,hfz7_3⟩:=cf4_ BK691.out)|((with_reducible refine gate_callee (f:=34) rfl ?_);refine goesL_ (some 10) rfl rfl Try.func34 (by kernel_rfl) rfl #[.agg #[.int .i64 a0_0,.slice A0_1 l0_1.length c0_1,.slice A0_2 l0_2.length c0_2,.slice A0_3 l0_3.length c0_3],.string a1] rfl lp_ ?_;(with_reducible refine (spec_ValueOf.calls k a0_0 _ _ l0_1 _ _ l0_2 _ _ l0_3 a1 t692 t693 true _ ?side1 ?side2 ?side3 ?side4 ?side5 ?side6 A3.out).mono ?_);(case side1 => exact cr_ (Kd.C_below HR0_1.out HB.out));(case side2 => exact HC0_1.out);(case side3 => exact cr_ (Kd.C_below HR0_2.out HB.out));(case side4 => exact HC0_2.out);(case side5 => exact cr_ (Kd.C_below HR0_3.out HB.out));(case side6 => exact HC0_3.out);rintro e w8 ⟨v694,rfl,ho0,hb⟩;refine ⟨_,rfl,?_⟩;have HO695:=Aside0.mk (Kd.R_lower ho0 (below_size (be1_ HB.out GE691.out)));replace BK691:=kc_ BK691 hb;replace HB:=Aside0.mk (below_step (be1_ HB.out GE691.out) hb);(try clear hb);(try clear hb2);(try clear hk);(try clear hi);(try clear ho0))|((with_reducible refine bev_ (N:=5) rfl rfl (cs:=#[.int .i64 0,.slice none 0 0]) (t:=35) ?hr ?_);(case hr => first|(go_simp;done)|(go_simp;rfl));intro gb697 hg w9 hbox hb;replace HO695:=Aside0.mk (Kd.R_below (pr_ HO695.out) hb);have BK697:=Aside0.mk (hbox);have GW697:=Aside0.mk (szg_ hg (below_size (be1_ HB.out GE691.out)));have GE697:=GW697;replace HB:=Aside0.mk (below_step (be1_ HB.out GE691.out) hb);have NB691_697:=nm_ hg BK691;have NB697_691:=nn_ hg BK691;replace BK691:=kc_ BK691 hb;clear hb hbox hg;have hnb10:=NB697_691.out;have hnc10:=NB691_697.out;obtain ⟨hcz11_0,hcz11_1,hfz11_0,hfz11_1⟩:=cf2_ BK697.out;obtain ⟨Ao12,co12,eo12⟩:=Kd.R_slice HO695.out;subst eo12;obtain ⟨hcz13_0,hcz13_1,hcz13_2,hcz13_3,hfz13_0,hfz13_1,hfz13_2,hfz13_3⟩:=cf4_ BK691.out)|((with_reducible refine gate_callee (f:=69) rfl ?_);refine goesL_ (some 17) rfl rfl Try.func69 (by kernel_rfl) rfl #[.agg #[.int .i64 a0_0,.slice A0_1 l0_1.length c0_1,.slice A0_2 l0_2.length c0_2,.slice A0_3 l0_3.length c0_3],.agg #[.int .i64 t692,.slice Ao12 t693.length co12]] rfl lp_ ?_;(with_reducible refine (spec_l6Between.calls k a0_0 _ _ l0_1 _ _ l0_2 _ _ l0_3 t692 _ _ t693 t698 _ ?side1 ?side2 ?side3 ?side4 ?side5 ?side6 ?side7 ?side8 A5.out).mono ?_);(case side1 => exact Kd.C_below HR0_1.out (be2_ HB.out GE691.out GE697.out));(case side2 => exact HC0_1.out);(case side3 => exact Kd.C_below HR0_2.out (be2_ HB.out GE691.out GE697.out));(case side4 => exact HC0_2.out);(case side5 => exact Kd.C_below HR0_3.out (be2_ HB.out GE691.out GE697.out));(case side6 => exact HC0_3.out);(case side7 => refine (Kd.R_reads' (e:=3) (base:=w.heap.size) (ok:=fun k_ => True) (n:=t693.length) (c:=co12) ?_).2.2;exact (by refine pr_ ?_;exact (Kd.R_mono (Kd.R_far (p:=⟨gb697,1,none⟩) (Kd.R_far (p:=⟨gb697,0,none⟩) (Kd.R_types HO695.out BK697.out (by decide)) (fun _ hk => hk.2) (.int .i64 t692)) (fun _ hk => hk.2) (.slice Ao12 t693.length co12)) (fun _ h_ => h_.1))));(case side8 => exact (Kd.R_reads' HO695.out).2.1);rintro e w14 ⟨rfl,hb⟩;refine ⟨_,rfl,?_⟩;replace HO695:=Aside0.mk (Kd.R_below (by refine pr_ ?_;exact (Kd.R_mono (Kd.R_far (p:=⟨gb697,1,none⟩) (Kd.R_far (p:=⟨gb697,0,none⟩) (Kd.R_types HO695.out BK697.out (by decide)) (fun _ hk => hk.2) (.int .i64 t692)) (fun _ hk => hk.2) (.slice Ao12 t693.length co12)) (fun _ h_ => h_.1))) hb);replace BK691:=Aside0.mk (blk_below (g:=gb691) (o:=.cells #[.int .i64 a0_0,.slice A0_1 l0_1.length c0_1,.slice A0_2 l0_2.length c0_2,.slice A0_3 l0_3.length c0_3] 33 (0,0)) (bf1_ BK691.out NB691_697.out) hb);replace BK697:=Aside0.mk (blk_below (g:=gb697) (o:=.cells #[.int .i64 t692,.slice Ao12 t693.length co12] 35 (0,0)) (by refine pe_ ?_;refine blk_put (cs:=#[.int .i64 t692,.slice none 0 0]) ?_ 1 _ rfl;refine pe_ ?_;refine blk_put (cs:=#[.int .i64 0,.slice none 0 0]) ?_ 0 _ rfl;refine pe_ ?_;exact BK697.out) hb);replace HB:=Aside0.mk (below_step (be2_ HB.out GE691.out GE697.out) hb);(try clear hb);(try clear hb2);(try clear hk);(try clear hi)))
  go_ret
  exact ⟨er_,be2_ HB.out GE691.out GE697.out⟩
 ·replace c4:=Bool.eq_false_iff.mpr c4
  subst c4
  have H1 : (some (-1)) = some r:=by rw [if_neg (show ¬ (false = true) by decide)] at H;exact H
  clear H
  have H:=H1
  clear H1
  obtain rfl:=Option.some.inj H
  go_enter Try.func32,Try.ntmps32
  go_wp2_with (first|((with_reducible refine bev_ (N:=2) rfl rfl (cs:=#[.int .i64 a0_0,.slice A0_1 l0_1.length c0_1,.slice A0_2 l0_2.length c0_2,.slice A0_3 l0_3.length c0_3]) (t:=33) ?hr ?_);(case hr => first|(go_simp;done)|(go_simp;rfl));intro gb691 hg w15 hbox hb;have BK691:=Aside0.mk (hbox);have GW691:=Aside0.mk (szg_ hg (below_size (be0_ HB.out)));have GE691:=GW691;replace HB:=Aside0.mk (below_step (be0_ HB.out) hb);clear hb hbox hg;obtain ⟨hcz16_0,hcz16_1,hcz16_2,hcz16_3,hfz16_0,hfz16_1,hfz16_2,hfz16_3⟩:=cf4_ BK691.out)|((with_reducible refine gate_callee (f:=34) rfl ?_);refine goesL_ (some 10) rfl rfl Try.func34 (by kernel_rfl) rfl #[.agg #[.int .i64 a0_0,.slice A0_1 l0_1.length c0_1,.slice A0_2 l0_2.length c0_2,.slice A0_3 l0_3.length c0_3],.string a1] rfl lp_ ?_;(with_reducible refine (spec_ValueOf.calls k a0_0 _ _ l0_1 _ _ l0_2 _ _ l0_3 a1 t692 t693 false _ ?side1 ?side2 ?side3 ?side4 ?side5 ?side6 A3.out).mono ?_);(case side1 => exact cr_ (Kd.C_below HR0_1.out HB.out));(case side2 => exact HC0_1.out);(case side3 => exact cr_ (Kd.C_below HR0_2.out HB.out));(case side4 => exact HC0_2.out);(case side5 => exact cr_ (Kd.C_below HR0_3.out HB.out));(case side6 => exact HC0_3.out);rintro e w17 ⟨v694,rfl,ho0,hb⟩;refine ⟨_,rfl,?_⟩;have HO695:=Aside0.mk (Kd.R_lower ho0 (below_size (be1_ HB.out GE691.out)));replace BK691:=kc_ BK691 hb;replace HB:=Aside0.mk (below_step (be1_ HB.out GE691.out) hb);(try clear hb);(try clear hb2);(try clear hk);(try clear hi);(try clear ho0))|((with_reducible refine bev_ (N:=5) rfl rfl (cs:=#[.int .i64 0,.slice none 0 0]) (t:=35) ?hr ?_);(case hr => first|(go_simp;done)|(go_simp;rfl));intro gb697 hg w18 hbox hb;replace HO695:=Aside0.mk (Kd.R_below (pr_ HO695.out) hb);have BK697:=Aside0.mk (hbox);have GW697:=Aside0.mk (szg_ hg (below_size (be1_ HB.out GE691.out)));have GE697:=GW697;replace HB:=Aside0.mk (below_step (be1_ HB.out GE691.out) hb);have NB691_697:=nm_ hg BK691;have NB697_691:=nn_ hg BK691;replace BK691:=kc_ BK691 hb;clear hb hbox hg;have hnb19:=NB697_691.out;have hnc19:=NB691_697.out;obtain ⟨hcz20_0,hcz20_1,hfz20_0,hfz20_1⟩:=cf2_ BK697.out;obtain ⟨Ao21,co21,eo21⟩:=Kd.R_slice HO695.out;subst eo21))
  go_ret
  exact ⟨er_,be2_ HB.out GE691.out GE697.out⟩
mutual
def laws_FnExactGradeOf.j0 : Nat → ByteArray → Int → List Int → List Int → List (S118) → Option (Bool)
 | 0,_,_,_,_,_ => none
 | k + 1,x1,x815000,x815001,x815002,x815003 => (laws_szAutomaton.f k x815000 x815001 x815002 x815003 1048576).bind fun t815 => (if t815 < 0 then (some true) else (laws_FnExactGradeOf.j1 k x1 x815000 x815001 x815002 x815003))
def laws_FnExactGradeOf.j1 : Nat → ByteArray → Int → List Int → List Int → List (S118) → Option (Bool)
 | 0,_,_,_,_,_ => none
 | k + 1,x1,x815000,x815001,x815002,x815003 => (laws_toAutomaton.f k x815000 x815001 x815002 x815003).bind fun bt816 => ((spec_GradeOf.f k bt816.1 bt816.2.1 bt816.2.2.1 bt816.2.2.2 x1).bind fun t826 => ((laws_toAutomaton.f k x815000 x815001 x815002 x815003).bind fun bt827 => ((impl_GradeOf.f k bt827.1 bt827.2.1 bt827.2.2.1 bt827.2.2.2 x1).bind fun t838 => (if t838 = t826 then (laws_FnExactGradeOf.j2 k x815000 x815001 x815002 x815003 bt827.1 bt827.2.1 bt827.2.2.1 bt827.2.2.2) else (some false)))))
def laws_FnExactGradeOf.j2 : Nat → Int → List Int → List Int → List (S118) → Int → List Int → List Int → List (S92) → Option (Bool)
 | 0,_,_,_,_,_,_,_,_ => none
 | k + 1,x815000,x815001,x815002,x815003,x838000,x838001,x838002,x838003 => (laws_toAutomaton.f k x815000 x815001 x815002 x815003).bind fun bt839 => ((laws_eqAutomaton.f k x838000 x838001 x838002 x838003 bt839.1 bt839.2.1 bt839.2.2.1 bt839.2.2.2).bind fun t849 => (if t849 = true then (some true) else (some false)))
end
def laws_FnExactGradeOf.f (k : Nat) (a0_0 : Int) (l0_1 : List Int) (l0_2 : List Int) (l0_3 : List (S118)) (a1 : ByteArray) : Option (Bool):=if (a1.size : Int) > 1048576 then (some true) else (laws_FnExactGradeOf.j0 k a1 a0_0 l0_1 l0_2 l0_3)
theorem laws_FnExactGradeOf.mono_l : ∀ k,(∀ y0 y1 y2 y3 y4,LeO (laws_FnExactGradeOf.j0 k y0 y1 y2 y3 y4) (laws_FnExactGradeOf.j0 (k + 1) y0 y1 y2 y3 y4)) ∧ (∀ y0 y1 y2 y3 y4,LeO (laws_FnExactGradeOf.j1 k y0 y1 y2 y3 y4) (laws_FnExactGradeOf.j1 (k + 1) y0 y1 y2 y3 y4)) ∧ (∀ y0 y1 y2 y3 y4 y5 y6 y7,LeO (laws_FnExactGradeOf.j2 k y0 y1 y2 y3 y4 y5 y6 y7) (laws_FnExactGradeOf.j2 (k + 1) y0 y1 y2 y3 y4 y5 y6 y7))
 | 0 => ⟨fun _ _ _ _ _ r h => by simp [laws_FnExactGradeOf.j0] at h,fun _ _ _ _ _ r h => by simp [laws_FnExactGradeOf.j1] at h,fun _ _ _ _ _ _ _ _ r h => by simp [laws_FnExactGradeOf.j2] at h⟩
 | k + 1 => by
  obtain ⟨ih0,ih1,ih2⟩:=laws_FnExactGradeOf.mono_l k
  refine ⟨?_,?_,?_⟩
  ·intro y0 y1 y2 y3 y4
   unfold laws_FnExactGradeOf.j0
   repeat' first
   | (with_reducible exact ih0 _ _ _ _ _)
   | (with_reducible exact ih1 _ _ _ _ _)
   | (with_reducible exact ih2 _ _ _ _ _ _ _ _)
   | (with_reducible exact impl_GradeOf.mono _ _ _ _ _ _)
   | (with_reducible exact laws_eqAutomaton.mono _ _ _ _ _ _ _ _ _)
   | (with_reducible exact laws_szAutomaton.mono _ _ _ _ _ _)
   | (with_reducible exact laws_toAutomaton.mono _ _ _ _ _)
   | (with_reducible exact spec_GradeOf.mono _ _ _ _ _ _)
   | (with_reducible first|exact LeO.refl _|exact LeO.none _|refine LeO.ite ?_ ?_|refine LeO.bind ?_ (fun _ => ?_))
   | exact ih0 _ _ _ _ _
   | exact ih1 _ _ _ _ _
   | exact ih2 _ _ _ _ _ _ _ _
   | exact impl_GradeOf.mono _ _ _ _ _ _
   | exact laws_eqAutomaton.mono _ _ _ _ _ _ _ _ _
   | exact laws_szAutomaton.mono _ _ _ _ _ _
   | exact laws_toAutomaton.mono _ _ _ _ _
   | exact spec_GradeOf.mono _ _ _ _ _ _
   | exact LeO.none _
   | refine LeO.ite ?_ ?_
   | refine LeO.bind ?_ (fun _ => ?_)
  ·intro y0 y1 y2 y3 y4
   unfold laws_FnExactGradeOf.j1
   repeat' first
   | (with_reducible exact ih0 _ _ _ _ _)
   | (with_reducible exact ih1 _ _ _ _ _)
   | (with_reducible exact ih2 _ _ _ _ _ _ _ _)
   | (with_reducible exact impl_GradeOf.mono _ _ _ _ _ _)
   | (with_reducible exact laws_eqAutomaton.mono _ _ _ _ _ _ _ _ _)
   | (with_reducible exact laws_szAutomaton.mono _ _ _ _ _ _)
   | (with_reducible exact laws_toAutomaton.mono _ _ _ _ _)
   | (with_reducible exact spec_GradeOf.mono _ _ _ _ _ _)
   | (with_reducible first|exact LeO.refl _|exact LeO.none _|refine LeO.ite ?_ ?_|refine LeO.bind ?_ (fun _ => ?_))
   | exact ih0 _ _ _ _ _
   | exact ih1 _ _ _ _ _
   | exact ih2 _ _ _ _ _ _ _ _
   | exact impl_GradeOf.mono _ _ _ _ _ _
   | exact laws_eqAutomaton.mono _ _ _ _ _ _ _ _ _
   | exact laws_szAutomaton.mono _ _ _ _ _ _
   | exact laws_toAutomaton.mono _ _ _ _ _
   | exact spec_GradeOf.mono _ _ _ _ _ _
   | exact LeO.none _
   | refine LeO.ite ?_ ?_
   | refine LeO.bind ?_ (fun _ => ?_)
  ·intro y0 y1 y2 y3 y4 y5 y6 y7
   unfold laws_FnExactGradeOf.j2
   repeat' first
   | (with_reducible exact ih0 _ _ _ _ _)
   | (with_reducible exact ih1 _ _ _ _ _)
   | (with_reducible exact ih2 _ _ _ _ _ _ _ _)
   | (with_reducible exact impl_GradeOf.mono _ _ _ _ _ _)
   | (with_reducible exact laws_eqAutomaton.mono _ _ _ _ _ _ _ _ _)
   | (with_reducible exact laws_szAutomaton.mono _ _ _ _ _ _)
   | (with_reducible exact laws_toAutomaton.mono _ _ _ _ _)
   | (with_reducible exact spec_GradeOf.mono _ _ _ _ _ _)
   | (with_reducible first|exact LeO.refl _|exact LeO.none _|refine LeO.ite ?_ ?_|refine LeO.bind ?_ (fun _ => ?_))
   | exact ih0 _ _ _ _ _
   | exact ih1 _ _ _ _ _
   | exact ih2 _ _ _ _ _ _ _ _
   | exact impl_GradeOf.mono _ _ _ _ _ _
   | exact laws_eqAutomaton.mono _ _ _ _ _ _ _ _ _
   | exact laws_szAutomaton.mono _ _ _ _ _ _
   | exact laws_toAutomaton.mono _ _ _ _ _
   | exact spec_GradeOf.mono _ _ _ _ _ _
   | exact LeO.none _
   | refine LeO.ite ?_ ?_
   | refine LeO.bind ?_ (fun _ => ?_)
theorem laws_FnExactGradeOf.mono : ∀ a0 a1 a2 a3 a4 k,LeO (laws_FnExactGradeOf.f k a0 a1 a2 a3 a4) (laws_FnExactGradeOf.f (k + 1) a0 a1 a2 a3 a4):=by
 intro a0 a1 a2 a3 a4 k
 obtain ⟨ih0,ih1,ih2⟩:=laws_FnExactGradeOf.mono_l k
 unfold laws_FnExactGradeOf.f
 repeat' first
   | (with_reducible exact ih0 _ _ _ _ _)
   | (with_reducible exact ih1 _ _ _ _ _)
   | (with_reducible exact ih2 _ _ _ _ _ _ _ _)
   | (with_reducible exact impl_GradeOf.mono _ _ _ _ _ _)
   | (with_reducible exact laws_eqAutomaton.mono _ _ _ _ _ _ _ _ _)
   | (with_reducible exact laws_szAutomaton.mono _ _ _ _ _ _)
   | (with_reducible exact laws_toAutomaton.mono _ _ _ _ _)
   | (with_reducible exact spec_GradeOf.mono _ _ _ _ _ _)
   | (with_reducible first|exact LeO.refl _|exact LeO.none _|refine LeO.ite ?_ ?_|refine LeO.bind ?_ (fun _ => ?_))
   | exact ih0 _ _ _ _ _
   | exact ih1 _ _ _ _ _
   | exact ih2 _ _ _ _ _ _ _ _
   | exact impl_GradeOf.mono _ _ _ _ _ _
   | exact laws_eqAutomaton.mono _ _ _ _ _ _ _ _ _
   | exact laws_szAutomaton.mono _ _ _ _ _ _
   | exact laws_toAutomaton.mono _ _ _ _ _
   | exact spec_GradeOf.mono _ _ _ _ _ _
   | exact LeO.none _
   | refine LeO.ite ?_ ?_
   | refine LeO.bind ?_ (fun _ => ?_)
set_option maxHeartbeats 8000000 in
set_option maxRecDepth 100000 in
theorem laws_FnExactGradeOf.calls (k : Nat) (a0_0 : Int) (A0_1 : Option Addr) (c0_1 : Nat) (l0_1 : List Int) (A0_2 : Option Addr) (c0_2 : Nat) (l0_2 : List Int) (A0_3 : Option Addr) (c0_3 : Nat) (l0_3 : List (S118)) (a1 : ByteArray) (r : Bool) (w : World) (hr0_1 : Kd.C (Kd.int .i64) w A0_1 l0_1.length l0_1) (hc0_1 : l0_1.length ≤ c0_1) (hr0_2 : Kd.C (Kd.int .i64) w A0_2 l0_2.length l0_2) (hc0_2 : l0_2.length ≤ c0_2) (hr0_3 : Kd.C k118 w A0_3 l0_3.length l0_3) (hc0_3 : l0_3.length ≤ c0_3) (h : laws_FnExactGradeOf.f k a0_0 l0_1 l0_2 l0_3 a1 = some r) :
  Calls Try.prog 6 #[.agg #[.int .i64 a0_0,.slice A0_1 l0_1.length c0_1,.slice A0_2 l0_2.length c0_2,.slice A0_3 l0_3.length c0_3],.string a1] w fun e w' => e = .returned (.bool r) ∧ Below w.heap.size w w':=by
 have hu25:=Try.underlying25
 have hu33:=Try.underlying33
 have HR0_1:=Aside0.mk hr0_1
 have HC0_1:=Aside0.mk hc0_1
 clear hr0_1 hc0_1
 have HR0_2:=Aside0.mk hr0_2
 have HC0_2:=Aside0.mk hc0_2
 clear hr0_2 hc0_2
 have HR0_3:=Aside0.mk hr0_3
 have HC0_3:=Aside0.mk hc0_3
 clear hr0_3 hc0_3
 have HB:=Aside0.mk (Below.refl w.heap.size w)
 have H : (if (a1.size : Int) > 1048576 then (some true) else (laws_FnExactGradeOf.j0 k a1 a0_0 l0_1 l0_2 l0_3)) = some r:=h
 clear h
 have HC3:=Aside0.mk H
 clear H
 go_enter Try.func6,Try.ntmps6
 go_upto_if 11 with (first|((with_reducible refine bev_ (N:=2) rfl rfl (cs:=#[.int .i64 a0_0,.slice A0_1 l0_1.length c0_1,.slice A0_2 l0_2.length c0_2,.slice A0_3 l0_3.length c0_3]) (t:=25) ?hr ?_);(case hr => first|(go_simp;done)|(go_simp;rfl));intro gb814 hg w4 hbox hb;have BK814:=Aside0.mk (hbox);have GW814:=Aside0.mk (szg_ hg (below_size (be0_ HB.out)));have GE814:=GW814;replace HB:=Aside0.mk (below_step (be0_ HB.out) hb);clear hb hbox hg))
 (try simp only [Act.put,List.setIfInBounds_toArray,List.set_cons_zero,List.set_cons_succ])
 go_cut [] (fun wc => ∃ (kq : Nat),Aside0 (laws_FnExactGradeOf.j0 kq a1 a0_0 l0_1 l0_2 l0_3 = some r) ∧ Aside0 (kq ≤ k) ∧ Aside0 (wc.heap[gb814]? = some (.cells #[.int .i64 a0_0,(.slice A0_1 l0_1.length c0_1),(.slice A0_2 l0_2.length c0_2),(.slice A0_3 l0_3.length c0_3)] 25 (0,0))) ∧ Aside0 (Below w.heap.size w wc))
 case first =>
  have H:=HC3.out
  clear HC3
  by_cases c5 : (a1.size : Int) > 1048576
  ·rw [if_pos c5] at H
   have c5b0 : decide (1048576 < (a1.size : Int)) = true:=decide_eq_true c5
   have c5b1 : decide (1048576 < a1.size) = true:=decide_eq_true (by omega)
   clear c5
   (first|rw [c5b0]|(simp only [i64_w,i32_w];rw [c5b0])|skip)
   obtain rfl:=Option.some.inj H
   go_wp2
   go_ret
   exact ⟨er_,be1_ HB.out GE814.out⟩
  ·rw [if_neg c5] at H
   have c5b0 : decide (1048576 < (a1.size : Int)) = false:=decide_eq_false c5
   have c5b1 : decide (1048576 < a1.size) = false:=decide_eq_false (by omega)
   clear c5
   (first|rw [c5b0]|(simp only [i64_w,i32_w];rw [c5b0])|skip)
   have H':=Aside0.mk H
   clear H
   go_wp2
   go_meet
   case rel => exact ⟨_,H',⟨by first|omega|exact Nat.le_refl _⟩,⟨pe_ BK814.out⟩,⟨be1_ HB.out GE814.out⟩⟩
 case rest =>
  clear HC3
  try clear p2
  try clear c5
  try clear c5b0
  try clear c5b1
  obtain ⟨kq,HA,HJ2,BK814,HB⟩:=hcut
  cases kq with
  | zero => exact absurd HA.out (by simp [laws_FnExactGradeOf.j0])
  | succ kj2 =>
   have H:=HA.out
   clear HA
   simp only [laws_FnExactGradeOf.j0] at H
   replace H:=Option.bind_eq_some_iff.mp H
   obtain ⟨t815,A60,H⟩:=H
   replace H : (if t815 < 0 then (some true) else (laws_FnExactGradeOf.j1 kj2 a1 a0_0 l0_1 l0_2 l0_3)) = some r:=H
   have A6:=Aside0.mk A60
   clear A60
   have HC7:=Aside0.mk H
   clear H
   obtain ⟨hcz8_0,hcz8_1,hcz8_2,hcz8_3,hfz8_0,hfz8_1,hfz8_2,hfz8_3⟩:=cf4_ BK814.out
   go_upto_if 16 with (first|((with_reducible refine gate_callee (f:=14) rfl ?_);refine goesL_ (some 14) rfl rfl Try.func14 (by kernel_rfl) rfl #[.agg #[.int .i64 a0_0,.slice A0_1 l0_1.length c0_1,.slice A0_2 l0_2.length c0_2,.slice A0_3 l0_3.length c0_3],.int .i64 1048576] rfl lp_ ?_;(with_reducible refine (laws_szAutomaton.calls kj2 a0_0 _ _ l0_1 _ _ l0_2 _ _ l0_3 1048576 t815 _ ?side1 ?side2 ?side3 ?side4 ?side5 ?side6 A6.out).mono ?_);(case side1 => exact cr_ (Kd.C_below HR0_1.out HB.out));(case side2 => exact HC0_1.out);(case side3 => exact cr_ (Kd.C_below HR0_2.out HB.out));(case side4 => exact HC0_2.out);(case side5 => exact cr_ (Kd.C_below HR0_3.out HB.out));(case side6 => exact HC0_3.out);rintro e w9 ⟨rfl,hb⟩;refine ⟨_,rfl,?_⟩;replace BK814:=kc_ BK814 hb;replace HB:=Aside0.mk (below_step (be1_ HB.out GE814.out) hb);(try clear hb);(try clear hb2);(try clear hk);(try clear hi)))
   (try simp only [Act.put,List.setIfInBounds_toArray,List.set_cons_zero,List.set_cons_succ])
   go_cut [] (fun wc => ∃ (kq : Nat),Aside0 (laws_FnExactGradeOf.j1 kq a1 a0_0 l0_1 l0_2 l0_3 = some r) ∧ Aside0 (kq ≤ kj2) ∧ Aside0 (wc.heap[gb814]? = some (.cells #[.int .i64 a0_0,(.slice A0_1 l0_1.length c0_1),(.slice A0_2 l0_2.length c0_2),(.slice A0_3 l0_3.length c0_3)] 25 (0,0))) ∧ Aside0 (Below w.heap.size w wc))
   case first =>
    have H:=HC7.out
    clear HC7
    by_cases c10 : t815 < 0
    ·rw [if_pos c10] at H
     have c10b0 : decide (t815 < 0) = true:=decide_eq_true c10
     clear c10
     (first|rw [c10b0]|(simp only [i64_w,i32_w];rw [c10b0])|skip)
     obtain rfl:=Option.some.inj H
     go_wp2
     go_ret
     exact ⟨er_,be1_ HB.out GE814.out⟩
    ·rw [if_neg c10] at H
     have c10b0 : decide (t815 < 0) = false:=decide_eq_false c10
     clear c10
     (first|rw [c10b0]|(simp only [i64_w,i32_w];rw [c10b0])|skip)
     have H':=Aside0.mk H
     clear H
     go_wp2
     go_meet
     case rel => exact ⟨_,H',⟨by have:=HJ2.out;first|omega|exact Nat.le_refl _⟩,⟨pe_ BK814.out⟩,⟨be1_ HB.out GE814.out⟩⟩
   case rest =>
    clear HC7
    try clear c1
    try clear p2
    try clear c5
    try clear c5b0
    try clear c5b1
    try clear c6
    try clear c10
    try clear c10b0
    try clear p2
    obtain ⟨kq,HA,HJ6,BK814,HB⟩:=hcut
    cases kq with
    | zero => exact absurd HA.out (by simp [laws_FnExactGradeOf.j1])
    | succ kj6 =>
     have H:=HA.out
     clear HA
     simp only [laws_FnExactGradeOf.j1] at H
     replace H:=Option.bind_eq_some_iff.mp H
     obtain ⟨⟨t816,t817,t820,t823⟩,A110,H⟩:=H
     replace H : ((spec_GradeOf.f kj6 t816 t817 t820 t823 a1).bind fun t826 => ((laws_toAutomaton.f kj6 a0_0 l0_1 l0_2 l0_3).bind fun bt827 => ((impl_GradeOf.f kj6 bt827.1 bt827.2.1 bt827.2.2.1 bt827.2.2.2 a1).bind fun t838 => (if t838 = t826 then (laws_FnExactGradeOf.j2 kj6 a0_0 l0_1 l0_2 l0_3 bt827.1 bt827.2.1 bt827.2.2.1 bt827.2.2.2) else (some false))))) = some r:=H
     have A11:=Aside0.mk A110
     clear A110
     replace H:=Option.bind_eq_some_iff.mp H
     obtain ⟨t826,A120,H⟩:=H
     replace H : ((laws_toAutomaton.f kj6 a0_0 l0_1 l0_2 l0_3).bind fun bt827 => ((impl_GradeOf.f kj6 bt827.1 bt827.2.1 bt827.2.2.1 bt827.2.2.2 a1).bind fun t838 => (if t838 = t826 then (laws_FnExactGradeOf.j2 kj6 a0_0 l0_1 l0_2 l0_3 bt827.1 bt827.2.1 bt827.2.2.1 bt827.2.2.2) else (some false)))) = some r:=H
     have A12:=Aside0.mk A120
     clear A120
     replace H:=Option.bind_eq_some_iff.mp H
     obtain ⟨⟨t827,t828,t831,t834⟩,A130,H⟩:=H
     replace H : ((impl_GradeOf.f kj6 t827 t828 t831 t834 a1).bind fun t838 => (if t838 = t826 then (laws_FnExactGradeOf.j2 kj6 a0_0 l0_1 l0_2 l0_3 t827 t828 t831 t834) else (some false))) = some r:=H
     have A13:=Aside0.mk A130
     clear A130
     replace H:=Option.bind_eq_some_iff.mp H
     obtain ⟨t838,A140,H⟩:=H
     replace H : (if t838 = t826 then (laws_FnExactGradeOf.j2 kj6 a0_0 l0_1 l0_2 l0_3 t827 t828 t831 t834) else (some false)) = some r:=H
     have A14:=Aside0.mk A140
     clear A140
     have HC15:=Aside0.mk H
     clear H
     obtain ⟨hcz16_0,hcz16_1,hcz16_2,hcz16_3,hfz16_0,hfz16_1,hfz16_2,hfz16_3⟩:=cf4_ BK814.out
     go_upto_if 28 with (first|((with_reducible refine gate_callee (f:=17) rfl ?_);refine goesL_ (some 18) rfl rfl Try.func17 (by kernel_rfl) rfl #[.agg #[.int .i64 a0_0,.slice A0_1 l0_1.length c0_1,.slice A0_2 l0_2.length c0_2,.slice A0_3 l0_3.length c0_3]] rfl lp_ ?_;(with_reducible refine (laws_toAutomaton.calls kj6 a0_0 _ _ l0_1 _ _ l0_2 _ _ l0_3 t816 t817 t820 t823 _ ?side1 ?side2 ?side3 ?side4 ?side5 ?side6 A11.out).mono ?_);(case side1 => exact cr_ (Kd.C_below HR0_1.out HB.out));(case side2 => exact HC0_1.out);(case side3 => exact cr_ (Kd.C_below HR0_2.out HB.out));(case side4 => exact HC0_2.out);(case side5 => exact cr_ (Kd.C_below HR0_3.out HB.out));(case side6 => exact HC0_3.out);rintro e w17 ⟨v818,v821,v824,rfl,ho0,ho1,ho2,hb⟩;refine ⟨_,rfl,?_⟩;have HO819:=Aside0.mk (Kd.R_lower ho0 (below_size (be1_ HB.out GE814.out)));have HO822:=Aside0.mk (Kd.R_lower ho1 (below_size (be1_ HB.out GE814.out)));have HO825:=Aside0.mk (Kd.R_lower ho2 (below_size (be1_ HB.out GE814.out)));replace BK814:=kc_ BK814 hb;replace HB:=Aside0.mk (below_step (be1_ HB.out GE814.out) hb);(try clear hb);(try clear hb2);(try clear hk);(try clear hi);(try clear ho0);(try clear ho1);(try clear ho2);obtain ⟨Ao18,co18,eo18⟩:=Kd.R_slice HO819.out;subst eo18;obtain ⟨Ao19,co19,eo19⟩:=Kd.R_slice HO822.out;subst eo19;obtain ⟨Ao20,co20,eo20⟩:=Kd.R_slice HO825.out;subst eo20)|((with_reducible refine gate_callee (f:=32) rfl ?_);refine goesL_ (some 20) rfl rfl Try.func32 (by kernel_rfl) rfl #[.agg #[.int .i64 t816,.slice Ao18 t817.length co18,.slice Ao19 t820.length co19,.slice Ao20 t823.length co20],.string a1] rfl lp_ ?_;(with_reducible refine (spec_GradeOf.calls kj6 t816 _ _ t817 _ _ t820 _ _ t823 a1 t826 _ ?side1 ?side2 ?side3 ?side4 ?side5 ?side6 A12.out).mono ?_);(case side1 => exact cr_ (Kd.R_reads' HO819.out).2.2);(case side2 => exact (Kd.R_reads' HO819.out).2.1);(case side3 => exact cr_ (Kd.R_reads' HO822.out).2.2);(case side4 => exact (Kd.R_reads' HO822.out).2.1);(case side5 => exact cr_ (Kd.R_reads' HO825.out).2.2);(case side6 => exact (Kd.R_reads' HO825.out).2.1);rintro e w21 ⟨rfl,hb⟩;refine ⟨_,rfl,?_⟩;replace HO819:=Aside0.mk (Kd.R_below (pr_ HO819.out) hb);replace HO822:=Aside0.mk (Kd.R_below (pr_ HO822.out) hb);replace HO825:=Aside0.mk (Kd.R_below (pr_ HO825.out) hb);replace BK814:=kc_ BK814 hb;replace HB:=Aside0.mk (below_step (be1_ HB.out GE814.out) hb);(try clear hb);(try clear hb2);(try clear hk);(try clear hi);obtain ⟨hcz22_0,hcz22_1,hcz22_2,hcz22_3,hfz22_0,hfz22_1,hfz22_2,hfz22_3⟩:=cf4_ BK814.out)|((with_reducible refine gate_callee (f:=17) rfl ?_);refine goesL_ (some 22) rfl rfl Try.func17 (by kernel_rfl) rfl #[.agg #[.int .i64 a0_0,.slice A0_1 l0_1.length c0_1,.slice A0_2 l0_2.length c0_2,.slice A0_3 l0_3.length c0_3]] rfl lp_ ?_;(with_reducible refine (laws_toAutomaton.calls kj6 a0_0 _ _ l0_1 _ _ l0_2 _ _ l0_3 t827 t828 t831 t834 _ ?side1 ?side2 ?side3 ?side4 ?side5 ?side6 A13.out).mono ?_);(case side1 => exact cr_ (Kd.C_below HR0_1.out HB.out));(case side2 => exact HC0_1.out);(case side3 => exact cr_ (Kd.C_below HR0_2.out HB.out));(case side4 => exact HC0_2.out);(case side5 => exact cr_ (Kd.C_below HR0_3.out HB.out));(case side6 => exact HC0_3.out);rintro e w23 ⟨v829,v832,v835,rfl,ho0,ho1,ho2,hb⟩;refine ⟨_,rfl,?_⟩;have HO830:=Aside0.mk (Kd.R_lower (Kd.R_new' (Kd.R_new' ho0 (Kd.R_lt (pr_ HO819.out))) (Kd.R_lt (pr_ HO822.out))) (below_size (be1_ HB.out GE814.out)));have HO833:=Aside0.mk (Kd.R_lower (Kd.R_new' (Kd.R_new' ho1 (Kd.R_lt (pr_ HO819.out))) (Kd.R_lt (pr_ HO822.out))) (below_size (be1_ HB.out GE814.out)));replace HO819:=Aside0.mk (Kd.R_mono (Kd.R_told (Kd.R_told (Kd.R_old (pr_ HO819.out) hb) (Kd.R_base ho0)) (Kd.R_base ho1)) (fun _ h_ => h_.1));replace HO822:=Aside0.mk (Kd.R_mono (Kd.R_told (Kd.R_told (Kd.R_old (pr_ HO822.out) hb) (Kd.R_base ho0)) (Kd.R_base ho1)) (fun _ h_ => h_.1));have HO836:=Aside0.mk (Kd.R_lower (Kd.R_new' ho2 (Kd.R_lt (pr_ HO825.out))) (below_size (be1_ HB.out GE814.out)));replace HO825:=Aside0.mk (Kd.R_elder' (pr_ HO825.out) (Kd.R_base ho2) hb);replace BK814:=kc_ BK814 hb;replace HB:=Aside0.mk (below_step (be1_ HB.out GE814.out) hb);(try clear hb);(try clear hb2);(try clear hk);(try clear hi);(try clear ho0);(try clear ho1);(try clear ho2))|((with_reducible refine bev_ (N:=7) rfl rfl (cs:=#[.int .i64 0,.slice none 0 0,.slice none 0 0,.slice none 0 0]) (t:=33) ?hr ?_);(case hr => first|(go_simp;done)|(go_simp;rfl));intro gb837 hg w24 hbox hb;replace HO819:=Aside0.mk (Kd.R_below (pr_ HO819.out) hb);replace HO822:=Aside0.mk (Kd.R_below (pr_ HO822.out) hb);replace HO825:=Aside0.mk (Kd.R_below (pr_ HO825.out) hb);replace HO830:=Aside0.mk (Kd.R_below (pr_ HO830.out) hb);replace HO833:=Aside0.mk (Kd.R_below (pr_ HO833.out) hb);replace HO836:=Aside0.mk (Kd.R_below (pr_ HO836.out) hb);have BK837:=Aside0.mk (hbox);have GW837:=Aside0.mk (szg_ hg (below_size (be1_ HB.out GE814.out)));have GE837:=GW837;replace HB:=Aside0.mk (below_step (be1_ HB.out GE814.out) hb);have NB814_837:=nm_ hg BK814;have NB837_814:=nn_ hg BK814;replace BK814:=kc_ BK814 hb;clear hb hbox hg;have hnb25:=NB837_814.out;have hnc25:=NB814_837.out;obtain ⟨hcz26_0,hcz26_1,hcz26_2,hcz26_3,hfz26_0,hfz26_1,hfz26_2,hfz26_3⟩:=cf4_ BK837.out;obtain ⟨Ao27,co27,eo27⟩:=Kd.R_slice HO830.out;subst eo27;obtain ⟨Ao28,co28,eo28⟩:=Kd.R_slice HO833.out;subst eo28;obtain ⟨Ao29,co29,eo29⟩:=Kd.R_slice HO836.out;subst eo29)|((with_reducible refine gate_callee (f:=33) rfl ?_);refine goesL_ (some 25) rfl rfl Try.func33 (by kernel_rfl) rfl #[.agg #[.int .i64 t827,.slice Ao27 t828.length co27,.slice Ao28 t831.length co28,.slice Ao29 t834.length co29],.string a1] rfl lp_ ?_;(with_reducible refine (impl_GradeOf.calls kj6 t827 _ _ t828 _ _ t831 _ _ t834 a1 t838 _ ?side1 ?side2 ?side3 ?side4 ?side5 ?side6 A14.out).mono ?_);(case side1 => refine (Kd.R_reads' (e:=3) (base:=w.heap.size) (ok:=fun k_ => ((some k_ ≠ (.slice Ao28 t831.length co28 : Value).ownBlock ∧ some k_ ≠ (.slice Ao18 t817.length co18 : Value).ownBlock) ∧ some k_ ≠ (.slice Ao19 t820.length co19 : Value).ownBlock)) (n:=t828.length) (c:=co27) ?_).2.2;exact (by refine pr_ ?_;exact (Kd.R_mono (Kd.R_far (p:=⟨gb837,3,none⟩) (Kd.R_far (p:=⟨gb837,2,none⟩) (Kd.R_far (p:=⟨gb837,1,none⟩) (Kd.R_far (p:=⟨gb837,0,none⟩) (Kd.R_types HO830.out BK837.out (by decide)) (fun _ hk => hk.2) (.int .i64 t827)) (fun _ hk => hk.2) (.slice Ao27 t828.length co27)) (fun _ hk => hk.2) (.slice Ao28 t831.length co28)) (fun _ hk => hk.2) (.slice Ao29 t834.length co29)) (fun _ h_ => h_.1))));(case side2 => exact (Kd.R_reads' HO830.out).2.1);(case side3 => refine (Kd.R_reads' (e:=3) (base:=w.heap.size) (ok:=fun k_ => ((some k_ ≠ (.slice Ao27 t828.length co27 : Value).ownBlock ∧ some k_ ≠ (.slice Ao18 t817.length co18 : Value).ownBlock) ∧ some k_ ≠ (.slice Ao19 t820.length co19 : Value).ownBlock)) (n:=t831.length) (c:=co28) ?_).2.2;exact (by refine pr_ ?_;exact (Kd.R_mono (Kd.R_far (p:=⟨gb837,3,none⟩) (Kd.R_far (p:=⟨gb837,2,none⟩) (Kd.R_far (p:=⟨gb837,1,none⟩) (Kd.R_far (p:=⟨gb837,0,none⟩) (Kd.R_types HO833.out BK837.out (by decide)) (fun _ hk => hk.2) (.int .i64 t827)) (fun _ hk => hk.2) (.slice Ao27 t828.length co27)) (fun _ hk => hk.2) (.slice Ao28 t831.length co28)) (fun _ hk => hk.2) (.slice Ao29 t834.length co29)) (fun _ h_ => h_.1))));(case side4 => exact (Kd.R_reads' HO833.out).2.1);(case side5 => refine (Kd.R_reads' (e:=92) (base:=w.heap.size) (ok:=fun k_ => (True ∧ some k_ ≠ (.slice Ao20 t823.length co20 : Value).ownBlock)) (n:=t834.length) (c:=co29) ?_).2.2;exact (by refine pr_ ?_;exact (Kd.R_mono (Kd.R_far (p:=⟨gb837,3,none⟩) (Kd.R_far (p:=⟨gb837,2,none⟩) (Kd.R_far (p:=⟨gb837,1,none⟩) (Kd.R_far (p:=⟨gb837,0,none⟩) (Kd.R_types HO836.out BK837.out (by decide)) (fun _ hk => hk.2) (.int .i64 t827)) (fun _ hk => hk.2) (.slice Ao27 t828.length co27)) (fun _ hk => hk.2) (.slice Ao28 t831.length co28)) (fun _ hk => hk.2) (.slice Ao29 t834.length co29)) (fun _ h_ => h_.1))));(case side6 => exact (Kd.R_reads' HO836.out).2.1);rintro e w30 ⟨rfl,hb⟩;refine ⟨_,rfl,?_⟩;replace HO819:=Aside0.mk (Kd.R_below (by refine pr_ ?_;exact (Kd.R_mono (Kd.R_far (p:=⟨gb837,3,none⟩) (Kd.R_far (p:=⟨gb837,2,none⟩) (Kd.R_far (p:=⟨gb837,1,none⟩) (Kd.R_far (p:=⟨gb837,0,none⟩) (Kd.R_types HO819.out BK837.out (by decide)) (fun _ hk => hk.2) (.int .i64 t827)) (fun _ hk => hk.2) (.slice Ao27 t828.length co27)) (fun _ hk => hk.2) (.slice Ao28 t831.length co28)) (fun _ hk => hk.2) (.slice Ao29 t834.length co29)) (fun _ h_ => h_.1))) hb);replace HO822:=Aside0.mk (Kd.R_below (by refine pr_ ?_;exact (Kd.R_mono (Kd.R_far (p:=⟨gb837,3,none⟩) (Kd.R_far (p:=⟨gb837,2,none⟩) (Kd.R_far (p:=⟨gb837,1,none⟩) (Kd.R_far (p:=⟨gb837,0,none⟩) (Kd.R_types HO822.out BK837.out (by decide)) (fun _ hk => hk.2) (.int .i64 t827)) (fun _ hk => hk.2) (.slice Ao27 t828.length co27)) (fun _ hk => hk.2) (.slice Ao28 t831.length co28)) (fun _ hk => hk.2) (.slice Ao29 t834.length co29)) (fun _ h_ => h_.1))) hb);replace HO825:=Aside0.mk (Kd.R_below (by refine pr_ ?_;exact (Kd.R_mono (Kd.R_far (p:=⟨gb837,3,none⟩) (Kd.R_far (p:=⟨gb837,2,none⟩) (Kd.R_far (p:=⟨gb837,1,none⟩) (Kd.R_far (p:=⟨gb837,0,none⟩) (Kd.R_types HO825.out BK837.out (by decide)) (fun _ hk => hk.2) (.int .i64 t827)) (fun _ hk => hk.2) (.slice Ao27 t828.length co27)) (fun _ hk => hk.2) (.slice Ao28 t831.length co28)) (fun _ hk => hk.2) (.slice Ao29 t834.length co29)) (fun _ h_ => h_.1))) hb);replace HO830:=Aside0.mk (Kd.R_below (by refine pr_ ?_;exact (Kd.R_mono (Kd.R_far (p:=⟨gb837,3,none⟩) (Kd.R_far (p:=⟨gb837,2,none⟩) (Kd.R_far (p:=⟨gb837,1,none⟩) (Kd.R_far (p:=⟨gb837,0,none⟩) (Kd.R_types HO830.out BK837.out (by decide)) (fun _ hk => hk.2) (.int .i64 t827)) (fun _ hk => hk.2) (.slice Ao27 t828.length co27)) (fun _ hk => hk.2) (.slice Ao28 t831.length co28)) (fun _ hk => hk.2) (.slice Ao29 t834.length co29)) (fun _ h_ => h_.1))) hb);replace HO833:=Aside0.mk (Kd.R_below (by refine pr_ ?_;exact (Kd.R_mono (Kd.R_far (p:=⟨gb837,3,none⟩) (Kd.R_far (p:=⟨gb837,2,none⟩) (Kd.R_far (p:=⟨gb837,1,none⟩) (Kd.R_far (p:=⟨gb837,0,none⟩) (Kd.R_types HO833.out BK837.out (by decide)) (fun _ hk => hk.2) (.int .i64 t827)) (fun _ hk => hk.2) (.slice Ao27 t828.length co27)) (fun _ hk => hk.2) (.slice Ao28 t831.length co28)) (fun _ hk => hk.2) (.slice Ao29 t834.length co29)) (fun _ h_ => h_.1))) hb);replace HO836:=Aside0.mk (Kd.R_below (by refine pr_ ?_;exact (Kd.R_mono (Kd.R_far (p:=⟨gb837,3,none⟩) (Kd.R_far (p:=⟨gb837,2,none⟩) (Kd.R_far (p:=⟨gb837,1,none⟩) (Kd.R_far (p:=⟨gb837,0,none⟩) (Kd.R_types HO836.out BK837.out (by decide)) (fun _ hk => hk.2) (.int .i64 t827)) (fun _ hk => hk.2) (.slice Ao27 t828.length co27)) (fun _ hk => hk.2) (.slice Ao28 t831.length co28)) (fun _ hk => hk.2) (.slice Ao29 t834.length co29)) (fun _ h_ => h_.1))) hb);replace BK814:=Aside0.mk (blk_below (g:=gb814) (o:=.cells #[.int .i64 a0_0,.slice A0_1 l0_1.length c0_1,.slice A0_2 l0_2.length c0_2,.slice A0_3 l0_3.length c0_3] 25 (0,0)) (bf1_ BK814.out NB814_837.out) hb);replace BK837:=Aside0.mk (blk_below (g:=gb837) (o:=.cells #[.int .i64 t827,.slice Ao27 t828.length co27,.slice Ao28 t831.length co28,.slice Ao29 t834.length co29] 33 (0,0)) (by refine pe_ ?_;refine blk_put (cs:=#[.int .i64 t827,.slice Ao27 t828.length co27,.slice Ao28 t831.length co28,.slice none 0 0]) ?_ 3 _ rfl;refine pe_ ?_;refine blk_put (cs:=#[.int .i64 t827,.slice Ao27 t828.length co27,.slice none 0 0,.slice none 0 0]) ?_ 2 _ rfl;refine pe_ ?_;refine blk_put (cs:=#[.int .i64 t827,.slice none 0 0,.slice none 0 0,.slice none 0 0]) ?_ 1 _ rfl;refine pe_ ?_;refine blk_put (cs:=#[.int .i64 0,.slice none 0 0,.slice none 0 0,.slice none 0 0]) ?_ 0 _ rfl;refine pe_ ?_;exact BK837.out) hb);replace HB:=Aside0.mk (below_step (be2_ HB.out GE814.out GE837.out) hb);(try clear hb);(try clear hb2);(try clear hk);(try clear hi)))
     (try simp only [Act.put,List.setIfInBounds_toArray,List.set_cons_zero,List.set_cons_succ])
     go_cut [] (fun wc => ∃ (kq : Nat),Aside0 (laws_FnExactGradeOf.j2 kq a0_0 l0_1 l0_2 l0_3 t827 t828 t831 t834 = some r) ∧ Aside0 (kq ≤ kj6) ∧ Aside0 (Kd.R (Kd.int .i64) 3 wc w.heap.size (fun k_ => some k_ ≠ ((.slice Ao28 t831.length co28) : Value).ownBlock) (.slice Ao27 t828.length co27) t828) ∧ Aside0 (Kd.R (Kd.int .i64) 3 wc w.heap.size (fun k_ => some k_ ≠ ((.slice Ao27 t828.length co27) : Value).ownBlock) (.slice Ao28 t831.length co28) t831) ∧ Aside0 (Kd.R k92 92 wc w.heap.size (fun _ => True) (.slice Ao29 t834.length co29) t834) ∧ Aside0 (wc.heap[gb814]? = some (.cells #[.int .i64 a0_0,(.slice A0_1 l0_1.length c0_1),(.slice A0_2 l0_2.length c0_2),(.slice A0_3 l0_3.length c0_3)] 25 (0,0))) ∧ Aside0 (wc.heap[gb837]? = some (.cells #[.int .i64 t827,(.slice Ao27 t828.length co27),(.slice Ao28 t831.length co28),(.slice Ao29 t834.length co29)] 33 (0,0))) ∧ Aside0 (Below w.heap.size w wc))
     case first =>
      have H:=HC15.out
      clear HC15
      by_cases c31 : t838 = t826
      ·rw [if_pos c31] at H
       have c31b0 : (t838 == t826) = true:=beq_iff_eq.mpr c31
       have c31b1 : (t838 != t826) = false:=bne_eq_false_iff_eq.mpr c31
       clear c31
       (first|rw [c31b0]|(simp only [i64_w,i32_w];rw [c31b0])|skip)
       have H':=Aside0.mk H
       clear H
       go_wp2
       go_meet
       case rel => exact ⟨_,H',⟨by have:=HJ2.out;have:=HJ6.out;first|omega|exact Nat.le_refl _⟩,⟨by refine pr_ ?_;exact Kd.R_mono HO830.out (fun _ hk => (by first|exact hk.1.1|trivial))⟩,⟨by refine pr_ ?_;exact Kd.R_mono HO833.out (fun _ hk => (by first|exact hk.1.1|trivial))⟩,⟨by refine pr_ ?_;exact Kd.R_mono HO836.out (fun _ hk => trivial)⟩,⟨pe_ BK814.out⟩,⟨pe_ BK837.out⟩,⟨be2_ HB.out GE814.out GE837.out⟩⟩
      ·rw [if_neg c31] at H
       have c31b0 : (t838 == t826) = false:=beq_eq_false_iff_ne.mpr c31
       have c31b1 : (t838 != t826) = true:=bne_iff_ne.mpr c31
       (first|rw [c31b0]|(simp only [i64_w,i32_w];rw [c31b0])|skip)
       obtain rfl:=Option.some.inj H
       go_wp2
       go_ret
       exact ⟨er_,be2_ HB.out GE814.out GE837.out⟩
     case rest =>
      clear HC15
      try clear c1
      try clear c2
      try clear p2
      try clear c3
      try clear c5
      try clear c5b0
      try clear c5b1
      try clear c6
      try clear c10
      try clear c10b0
      try clear c14
      try clear c17
      try clear c25
      try clear c31
      try clear c31b0
      try clear c31b1
      try clear p2
      obtain ⟨kq,HA,HJ14,HO_838001,HO_838002,HO_838003,BK814,BK837,HB⟩:=hcut
      cases kq with
      | zero => exact absurd HA.out (by simp [laws_FnExactGradeOf.j2])
      | succ kj14 =>
       have H:=HA.out
       clear HA
       simp only [laws_FnExactGradeOf.j2] at H
       replace H:=Option.bind_eq_some_iff.mp H
       obtain ⟨⟨t839,t840,t843,t846⟩,A320,H⟩:=H
       replace H : ((laws_eqAutomaton.f kj14 t827 t828 t831 t834 t839 t840 t843 t846).bind fun t849 => (if t849 = true then (some true) else (some false))) = some r:=H
       have A32:=Aside0.mk A320
       clear A320
       replace H:=Option.bind_eq_some_iff.mp H
       obtain ⟨t849,A330,H⟩:=H
       replace H : (if t849 = true then (some true) else (some false)) = some r:=H
       have A33:=Aside0.mk A330
       clear A330
       by_cases c34 : t849 = true
       ·subst c34
        have H1 : (some true) = some r:=by rw [if_pos rfl] at H;exact H
        clear H
        have H:=H1
        clear H1
        obtain rfl:=Option.some.inj H
        try go_wp2
        replace HO_838001:=Aside0.mk (Kd.R_drew HO_838001.out)
        replace HO_838002:=Aside0.mk (Kd.R_drew HO_838002.out)
        replace HO_838003:=Aside0.mk (Kd.R_drew HO_838003.out)
        replace BK814:=Aside0.mk (blk_drew BK814.out)
        replace BK837:=Aside0.mk (blk_drew BK837.out)
        replace HB:=Aside0.mk (below_drew1 HB.out)
        refine start_ (n:=5) (S:=fun w' => w'.cell? ⟨gb837,0,none⟩ = some (.int .i64 t827) ∧ w'.cell? ⟨gb837,1,none⟩ = some (.slice Ao27 t828.length co27) ∧ w'.cell? ⟨gb837,2,none⟩ = some (.slice Ao28 t831.length co28) ∧ w'.cell? ⟨gb837,3,none⟩ = some (.slice Ao29 t834.length co29) ∧ w'.cell? ⟨gb814,0,none⟩ = some (.int .i64 a0_0) ∧ w'.cell? ⟨gb814,1,none⟩ = some (.slice A0_1 l0_1.length c0_1) ∧ w'.cell? ⟨gb814,2,none⟩ = some (.slice A0_2 l0_2.length c0_2) ∧ w'.cell? ⟨gb814,3,none⟩ = some (.slice A0_3 l0_3.length c0_3)) (ds:=[]) #[false,false,false,false,false] (by kernel_rfl) rfl rfl ⟨bc_ BK837 0,bc_ BK837 1,bc_ BK837 2,bc_ BK837 3,bc_ BK814 0,bc_ BK814 1,bc_ BK814 2,bc_ BK814 3⟩ (fun hHeld => ?_)
        generalize wc.drew = w35 at HO_838001 HO_838002 HO_838003 BK814 BK837 HB hHeld ⊢
        refine take_ (i:=0) (N:=some 29) (v:=?_) (a':=?_) #[true,false,false,false,false] rfl rfl (by kernel_rfl) (fun _ _ _ h => h) (Or.inl ⟨by rfl,?_⟩) hHeld ?_ ?_
        rotate_left
        ·rintro w' ⟨s0,s1,s2,s3,s4,s5,s6,s7⟩
         go_simp
         with_reducible rfl
        rotate_left
        ·simp only [Act.put,List.setIfInBounds_toArray,List.set_cons_zero,List.set_cons_succ,i64_w,i32_w]
         rfl
        refine take_ (i:=1) (N:=some 30) (v:=?_) (a':=?_) #[true,true,false,false,false] rfl rfl (by kernel_rfl) (fun _ _ _ h => h) (Or.inl ⟨by rfl,?_⟩) hHeld ?_ ?_
        rotate_left
        ·rintro w' ⟨s0,s1,s2,s3,s4,s5,s6,s7⟩
         go_simp
         with_reducible rfl
        rotate_left
        ·simp only [Act.put,List.setIfInBounds_toArray,List.set_cons_zero,List.set_cons_succ,i64_w,i32_w]
         rfl
        refine one_ (i:=2) (N:=some 31) #[true,true,true,false,false] rfl rfl (by kernel_rfl) (by decide) (fun K hK => ?_)
        refine goes_ Try.func17 (by kernel_rfl) rfl #[.agg #[.int .i64 a0_0,.slice A0_1 l0_1.length c0_1,.slice A0_2 l0_2.length c0_2,.slice A0_3 l0_3.length c0_3]] (by rfl) rfl rfl lp_ ?_
        with_reducible refine (laws_toAutomaton.calls kj14 a0_0 _ _ l0_1 _ _ l0_2 _ _ l0_3 t839 t840 t843 t846 _ ?side1 ?side2 ?side3 ?side4 ?side5 ?side6 A32.out).mono ?_
        (case side1 => exact cr_ (Kd.C_below HR0_1.out HB.out))
        (case side2 => exact HC0_1.out)
        (case side3 => exact cr_ (Kd.C_below HR0_2.out HB.out))
        (case side4 => exact HC0_2.out)
        (case side5 => exact cr_ (Kd.C_below HR0_3.out HB.out))
        (case side6 => exact HC0_3.out)
        rintro e w36 ⟨v841,v844,v847,rfl,ho0,ho1,ho2,hb⟩
        refine ⟨_,rfl,?_⟩
        have HO842:=Aside0.mk (Kd.R_lower (Kd.R_new' (Kd.R_new' ho0 (Kd.R_lt (pr_ HO_838001.out))) (Kd.R_lt (pr_ HO_838002.out))) (below_size (be2_ HB.out GE814.out GE837.out)))
        have HO845:=Aside0.mk (Kd.R_lower (Kd.R_new' (Kd.R_new' ho1 (Kd.R_lt (pr_ HO_838001.out))) (Kd.R_lt (pr_ HO_838002.out))) (below_size (be2_ HB.out GE814.out GE837.out)))
        replace HO_838001:=Aside0.mk (Kd.R_mono (Kd.R_told (Kd.R_told (Kd.R_old (pr_ HO_838001.out) hb) (Kd.R_base ho0)) (Kd.R_base ho1)) (fun _ h_ => h_.1))
        replace HO_838002:=Aside0.mk (Kd.R_mono (Kd.R_told (Kd.R_told (Kd.R_old (pr_ HO_838002.out) hb) (Kd.R_base ho0)) (Kd.R_base ho1)) (fun _ h_ => h_.1))
        have HO848:=Aside0.mk (Kd.R_lower (Kd.R_new' ho2 (Kd.R_lt (pr_ HO_838003.out))) (below_size (be2_ HB.out GE814.out GE837.out)))
        replace HO_838003:=Aside0.mk (Kd.R_elder' (pr_ HO_838003.out) (Kd.R_base ho2) hb)
        replace BK814:=kc_ BK814 hb
        replace BK837:=kc_ BK837 hb
        replace HB:=Aside0.mk (below_step (be2_ HB.out GE814.out GE837.out) hb)
        (try clear hb)
        (try clear hb2)
        (try clear hk)
        (try clear hi)
        (try clear ho0)
        (try clear ho1)
        (try clear ho2)
        obtain ⟨Ao37,co37,eo37⟩:=Kd.R_slice HO842.out
        (first|subst eo37|(injection eo37 with f1_ f2_ f3_;have f4_:=f1_.symm;have f5_:=f3_.symm;clear f1_ f2_ f3_;subst f4_;subst f5_))
        obtain ⟨Ao38,co38,eo38⟩:=Kd.R_slice HO845.out
        (first|subst eo38|(injection eo38 with f1_ f2_ f3_;have f4_:=f1_.symm;have f5_:=f3_.symm;clear f1_ f2_ f3_;subst f4_;subst f5_))
        obtain ⟨Ao39,co39,eo39⟩:=Kd.R_slice HO848.out
        (first|subst eo39|(injection eo39 with f1_ f2_ f3_;have f4_:=f1_.symm;have f5_:=f3_.symm;clear f1_ f2_ f3_;subst f4_;subst f5_))
        refine hK.out _ _ ⟨bc_ BK837 0,bc_ BK837 1,bc_ BK837 2,bc_ BK837 3,bc_ BK814 0,bc_ BK814 1,bc_ BK814 2,bc_ BK814 3⟩ (fun hHeld => ?_)
        clear hK K
        refine norm_ (a':=?_) ?_ ?_
        rotate_left
        ·show Act.put _ (some 31) _ = _
         simp only [Act.put,List.setIfInBounds_toArray,List.set_cons_zero,List.set_cons_succ,i64_w,i32_w]
         rfl
        refine one_ (i:=3) (N:=some 32) #[true,true,true,true,false] rfl rfl (by kernel_rfl) (by decide) (fun K hK => ?_)
        refine goes_ Try.func20 (by kernel_rfl) rfl #[.agg #[.int .i64 t827,.slice Ao27 t828.length co27,.slice Ao28 t831.length co28,.slice Ao29 t834.length co29],.agg #[.int .i64 t839,.slice Ao37 t840.length co37,.slice Ao38 t843.length co38,.slice Ao39 t846.length co39]] (by rfl) rfl rfl lp_ ?_
        with_reducible refine (laws_eqAutomaton.calls kj14 t827 _ _ t828 _ _ t831 _ _ t834 t839 _ _ t840 _ _ t843 _ _ t846 true _ ?side1 ?side2 ?side3 ?side4 ?side5 ?side6 ?side7 ?side8 ?side9 ?side10 ?side11 ?side12 A33.out).mono ?_
        (case side1 => exact cr_ (Kd.R_reads' HO_838001.out).2.2)
        (case side2 => exact (Kd.R_reads' HO_838001.out).2.1)
        (case side3 => exact cr_ (Kd.R_reads' HO_838002.out).2.2)
        (case side4 => exact (Kd.R_reads' HO_838002.out).2.1)
        (case side5 => exact cr_ (Kd.R_reads' HO_838003.out).2.2)
        (case side6 => exact (Kd.R_reads' HO_838003.out).2.1)
        (case side7 => exact cr_ (Kd.R_reads' HO842.out).2.2)
        (case side8 => exact (Kd.R_reads' HO842.out).2.1)
        (case side9 => exact cr_ (Kd.R_reads' HO845.out).2.2)
        (case side10 => exact (Kd.R_reads' HO845.out).2.1)
        (case side11 => exact cr_ (Kd.R_reads' HO848.out).2.2)
        (case side12 => exact (Kd.R_reads' HO848.out).2.1)
        rintro e w40 ⟨rfl,hb⟩
        refine ⟨_,rfl,?_⟩
        replace HO_838001:=Aside0.mk (Kd.R_below (pr_ HO_838001.out) hb)
        replace HO_838002:=Aside0.mk (Kd.R_below (pr_ HO_838002.out) hb)
        replace HO_838003:=Aside0.mk (Kd.R_below (pr_ HO_838003.out) hb)
        replace HO842:=Aside0.mk (Kd.R_below (pr_ HO842.out) hb)
        replace HO845:=Aside0.mk (Kd.R_below (pr_ HO845.out) hb)
        replace HO848:=Aside0.mk (Kd.R_below (pr_ HO848.out) hb)
        replace BK814:=kc_ BK814 hb
        replace BK837:=kc_ BK837 hb
        replace HB:=Aside0.mk (below_step (be2_ HB.out GE814.out GE837.out) hb)
        (try clear hb)
        (try clear hb2)
        (try clear hk)
        (try clear hi)
        refine hK.out _ _ ⟨bc_ BK837 0,bc_ BK837 1,bc_ BK837 2,bc_ BK837 3,bc_ BK814 0,bc_ BK814 1,bc_ BK814 2,bc_ BK814 3⟩ (fun hHeld => ?_)
        clear hK K
        refine norm_ (a':=?_) ?_ ?_
        rotate_left
        ·show Act.put _ (some 32) _ = _
         simp only [Act.put,List.setIfInBounds_toArray,List.set_cons_zero,List.set_cons_succ,i64_w,i32_w]
         rfl
        refine pure_ (i:=4) (N:=some 33) (v:=?_) (a':=?_) #[true,true,true,true,true] rfl rfl (by kernel_rfl) (fun _ _ _ h => h) (Or.inl ⟨by rfl,?_⟩) ?_ ?_
        rotate_left
        ·intro w'
         go_simp
         with_reducible rfl
        rotate_left
        ·simp only [Act.put,List.setIfInBounds_toArray,List.set_cons_zero,List.set_cons_succ,i64_w,i32_w]
         rfl
        refine done_ (by kernel_rfl) ?_
        try go_wp2
        go_ret
        exact ⟨er_,be2_ HB.out GE814.out GE837.out⟩
       ·replace c34:=Bool.eq_false_iff.mpr c34
        subst c34
        have H1 : (some false) = some r:=by rw [if_neg (show ¬ (false = true) by decide)] at H;exact H
        clear H
        have H:=H1
        clear H1
        obtain rfl:=Option.some.inj H
        try go_wp2
        replace HO_838001:=Aside0.mk (Kd.R_drew HO_838001.out)
        replace HO_838002:=Aside0.mk (Kd.R_drew HO_838002.out)
        replace HO_838003:=Aside0.mk (Kd.R_drew HO_838003.out)
        replace BK814:=Aside0.mk (blk_drew BK814.out)
        replace BK837:=Aside0.mk (blk_drew BK837.out)
        replace HB:=Aside0.mk (below_drew1 HB.out)
        refine start_ (n:=5) (S:=fun w' => w'.cell? ⟨gb837,0,none⟩ = some (.int .i64 t827) ∧ w'.cell? ⟨gb837,1,none⟩ = some (.slice Ao27 t828.length co27) ∧ w'.cell? ⟨gb837,2,none⟩ = some (.slice Ao28 t831.length co28) ∧ w'.cell? ⟨gb837,3,none⟩ = some (.slice Ao29 t834.length co29) ∧ w'.cell? ⟨gb814,0,none⟩ = some (.int .i64 a0_0) ∧ w'.cell? ⟨gb814,1,none⟩ = some (.slice A0_1 l0_1.length c0_1) ∧ w'.cell? ⟨gb814,2,none⟩ = some (.slice A0_2 l0_2.length c0_2) ∧ w'.cell? ⟨gb814,3,none⟩ = some (.slice A0_3 l0_3.length c0_3)) (ds:=[]) #[false,false,false,false,false] (by kernel_rfl) rfl rfl ⟨bc_ BK837 0,bc_ BK837 1,bc_ BK837 2,bc_ BK837 3,bc_ BK814 0,bc_ BK814 1,bc_ BK814 2,bc_ BK814 3⟩ (fun hHeld => ?_)
        generalize wc.drew = w41 at HO_838001 HO_838002 HO_838003 BK814 BK837 HB hHeld ⊢
        refine take_ (i:=0) (N:=some 29) (v:=?_) (a':=?_) #[true,false,false,false,false] rfl rfl (by kernel_rfl) (fun _ _ _ h => h) (Or.inl ⟨by rfl,?_⟩) hHeld ?_ ?_
        rotate_left
        ·rintro w' ⟨s0,s1,s2,s3,s4,s5,s6,s7⟩
         go_simp
         with_reducible rfl
        rotate_left
        ·simp only [Act.put,List.setIfInBounds_toArray,List.set_cons_zero,List.set_cons_succ,i64_w,i32_w]
         rfl
        refine take_ (i:=1) (N:=some 30) (v:=?_) (a':=?_) #[true,true,false,false,false] rfl rfl (by kernel_rfl) (fun _ _ _ h => h) (Or.inl ⟨by rfl,?_⟩) hHeld ?_ ?_
        rotate_left
        ·rintro w' ⟨s0,s1,s2,s3,s4,s5,s6,s7⟩
         go_simp
         with_reducible rfl
        rotate_left
        ·simp only [Act.put,List.setIfInBounds_toArray,List.set_cons_zero,List.set_cons_succ,i64_w,i32_w]
         rfl
        refine one_ (i:=2) (N:=some 31) #[true,true,true,false,false] rfl rfl (by kernel_rfl) (by decide) (fun K hK => ?_)
        refine goes_ Try.func17 (by kernel_rfl) rfl #[.agg #[.int .i64 a0_0,.slice A0_1 l0_1.length c0_1,.slice A0_2 l0_2.length c0_2,.slice A0_3 l0_3.length c0_3]] (by rfl) rfl rfl lp_ ?_
        with_reducible refine (laws_toAutomaton.calls kj14 a0_0 _ _ l0_1 _ _ l0_2 _ _ l0_3 t839 t840 t843 t846 _ ?side1 ?side2 ?side3 ?side4 ?side5 ?side6 A32.out).mono ?_
        (case side1 => exact cr_ (Kd.C_below HR0_1.out HB.out))
        (case side2 => exact HC0_1.out)
        (case side3 => exact cr_ (Kd.C_below HR0_2.out HB.out))
        (case side4 => exact HC0_2.out)
        (case side5 => exact cr_ (Kd.C_below HR0_3.out HB.out))
        (case side6 => exact HC0_3.out)
        rintro e w42 ⟨v841,v844,v847,rfl,ho0,ho1,ho2,hb⟩
        refine ⟨_,rfl,?_⟩
        have HO842:=Aside0.mk (Kd.R_lower (Kd.R_new' (Kd.R_new' ho0 (Kd.R_lt (pr_ HO_838001.out))) (Kd.R_lt (pr_ HO_838002.out))) (below_size (be2_ HB.out GE814.out GE837.out)))
        have HO845:=Aside0.mk (Kd.R_lower (Kd.R_new' (Kd.R_new' ho1 (Kd.R_lt (pr_ HO_838001.out))) (Kd.R_lt (pr_ HO_838002.out))) (below_size (be2_ HB.out GE814.out GE837.out)))
        replace HO_838001:=Aside0.mk (Kd.R_mono (Kd.R_told (Kd.R_told (Kd.R_old (pr_ HO_838001.out) hb) (Kd.R_base ho0)) (Kd.R_base ho1)) (fun _ h_ => h_.1))
        replace HO_838002:=Aside0.mk (Kd.R_mono (Kd.R_told (Kd.R_told (Kd.R_old (pr_ HO_838002.out) hb) (Kd.R_base ho0)) (Kd.R_base ho1)) (fun _ h_ => h_.1))
        have HO848:=Aside0.mk (Kd.R_lower (Kd.R_new' ho2 (Kd.R_lt (pr_ HO_838003.out))) (below_size (be2_ HB.out GE814.out GE837.out)))
        replace HO_838003:=Aside0.mk (Kd.R_elder' (pr_ HO_838003.out) (Kd.R_base ho2) hb)
        replace BK814:=kc_ BK814 hb
        replace BK837:=kc_ BK837 hb
        replace HB:=Aside0.mk (below_step (be2_ HB.out GE814.out GE837.out) hb)
        (try clear hb)
        (try clear hb2)
        (try clear hk)
        (try clear hi)
        (try clear ho0)
        (try clear ho1)
        (try clear ho2)
        obtain ⟨Ao43,co43,eo43⟩:=Kd.R_slice HO842.out
        (first|subst eo43|(injection eo43 with f1_ f2_ f3_;have f4_:=f1_.symm;have f5_:=f3_.symm;clear f1_ f2_ f3_;subst f4_;subst f5_))
        obtain ⟨Ao44,co44,eo44⟩:=Kd.R_slice HO845.out
        (first|subst eo44|(injection eo44 with f1_ f2_ f3_;have f4_:=f1_.symm;have f5_:=f3_.symm;clear f1_ f2_ f3_;subst f4_;subst f5_))
        obtain ⟨Ao45,co45,eo45⟩:=Kd.R_slice HO848.out
        (first|subst eo45|(injection eo45 with f1_ f2_ f3_;have f4_:=f1_.symm;have f5_:=f3_.symm;clear f1_ f2_ f3_;subst f4_;subst f5_))
        refine hK.out _ _ ⟨bc_ BK837 0,bc_ BK837 1,bc_ BK837 2,bc_ BK837 3,bc_ BK814 0,bc_ BK814 1,bc_ BK814 2,bc_ BK814 3⟩ (fun hHeld => ?_)
        clear hK K
        refine norm_ (a':=?_) ?_ ?_
        rotate_left
        ·show Act.put _ (some 31) _ = _
         simp only [Act.put,List.setIfInBounds_toArray,List.set_cons_zero,List.set_cons_succ,i64_w,i32_w]
         rfl
        refine one_ (i:=3) (N:=some 32) #[true,true,true,true,false] rfl rfl (by kernel_rfl) (by decide) (fun K hK => ?_)
        refine goes_ Try.func20 (by kernel_rfl) rfl #[.agg #[.int .i64 t827,.slice Ao27 t828.length co27,.slice Ao28 t831.length co28,.slice Ao29 t834.length co29],.agg #[.int .i64 t839,.slice Ao43 t840.length co43,.slice Ao44 t843.length co44,.slice Ao45 t846.length co45]] (by rfl) rfl rfl lp_ ?_
        with_reducible refine (laws_eqAutomaton.calls kj14 t827 _ _ t828 _ _ t831 _ _ t834 t839 _ _ t840 _ _ t843 _ _ t846 false _ ?side1 ?side2 ?side3 ?side4 ?side5 ?side6 ?side7 ?side8 ?side9 ?side10 ?side11 ?side12 A33.out).mono ?_
        (case side1 => exact cr_ (Kd.R_reads' HO_838001.out).2.2)
        (case side2 => exact (Kd.R_reads' HO_838001.out).2.1)
        (case side3 => exact cr_ (Kd.R_reads' HO_838002.out).2.2)
        (case side4 => exact (Kd.R_reads' HO_838002.out).2.1)
        (case side5 => exact cr_ (Kd.R_reads' HO_838003.out).2.2)
        (case side6 => exact (Kd.R_reads' HO_838003.out).2.1)
        (case side7 => exact cr_ (Kd.R_reads' HO842.out).2.2)
        (case side8 => exact (Kd.R_reads' HO842.out).2.1)
        (case side9 => exact cr_ (Kd.R_reads' HO845.out).2.2)
        (case side10 => exact (Kd.R_reads' HO845.out).2.1)
        (case side11 => exact cr_ (Kd.R_reads' HO848.out).2.2)
        (case side12 => exact (Kd.R_reads' HO848.out).2.1)
        rintro e w46 ⟨rfl,hb⟩
        refine ⟨_,rfl,?_⟩
        replace HO_838001:=Aside0.mk (Kd.R_below (pr_ HO_838001.out) hb)
        replace HO_838002:=Aside0.mk (Kd.R_below (pr_ HO_838002.out) hb)
        replace HO_838003:=Aside0.mk (Kd.R_below (pr_ HO_838003.out) hb)
        replace HO842:=Aside0.mk (Kd.R_below (pr_ HO842.out) hb)
        replace HO845:=Aside0.mk (Kd.R_below (pr_ HO845.out) hb)
        replace HO848:=Aside0.mk (Kd.R_below (pr_ HO848.out) hb)
        replace BK814:=kc_ BK814 hb
        replace BK837:=kc_ BK837 hb
        replace HB:=Aside0.mk (below_step (be2_ HB.out GE814.out GE837.out) hb)
        (try clear hb)
        (try clear hb2)
        (try clear hk)
        (try clear hi)
        refine hK.out _ _ ⟨bc_ BK837 0,bc_ BK837 1,bc_ BK837 2,bc_ BK837 3,bc_ BK814 0,bc_ BK814 1,bc_ BK814 2,bc_ BK814 3⟩ (fun hHeld => ?_)
        clear hK K
        refine norm_ (a':=?_) ?_ ?_
        rotate_left
        ·show Act.put _ (some 32) _ = _
         simp only [Act.put,List.setIfInBounds_toArray,List.set_cons_zero,List.set_cons_succ,i64_w,i32_w]
         rfl
        refine pure_ (i:=4) (N:=some 33) (v:=?_) (a':=?_) #[true,true,true,true,true] rfl rfl (by kernel_rfl) (fun _ _ _ h => h) (Or.inl ⟨by rfl,?_⟩) ?_ ?_
        rotate_left
        ·intro w'
         go_simp
         with_reducible rfl
        rotate_left
        ·simp only [Act.put,List.setIfInBounds_toArray,List.set_cons_zero,List.set_cons_succ,i64_w,i32_w]
         rfl
        refine done_ (by kernel_rfl) ?_
        try go_wp2
        go_ret
        exact ⟨er_,be2_ HB.out GE814.out GE837.out⟩
def laws_FnExactGradeOf.Pure : Prop := ∀ (a0_0 : Int) (l0_1 : List Int) (l0_2 : List Int) (l0_3 : List (S118)) (a1 : ByteArray),(Lit.int .i64 a0_0).wf = true → l0_1.length ≤ maxLen → (∀ x_ ∈ l0_1,(Lit.int .i64 x_).wf = true) → l0_2.length ≤ maxLen → (∀ x_ ∈ l0_2,(Lit.int .i64 x_).wf = true) → l0_3.length ≤ maxLen → (∀ x_ ∈ l0_3,(Lit.int .i64 x_.f0).wf = true ∧ x_.f1.size ≤ maxLen ∧ (Lit.int .i64 x_.f2).wf = true ∧ (Lit.int .i64 x_.f3).wf = true) → a1.size ≤ 140737488351232 → ∃ k,laws_FnExactGradeOf.f k a0_0 l0_1 l0_2 l0_3 a1 = some true
end Go.Proofs.Ytfmbpoojpnoafaa.X
end
section
namespace Go.Proofs.Ytfmbpoojpnoafaa.X
open Go.RowKit Go.Proofs.Ytfmbpoojpnoafaa.X Go.Proofs.YtfmbpoojpnoafaaW.PrintWords Go.Proofs.YtfmbpoojpnoafaaW.PrintLast Go.Proofs.YtfmbpoojpnoafaaW.PrintMore
set_option linter.unusedVariables false
set_option linter.unusedSimpArgs false
open Go.ChangeShapes Go.WideShapes Go.Deep
theorem field_ints {H : Type} {enc : TypeId × Value → H} {P : Program} {w : World} {base : Nat} {spare : Nat → Bool} {held : Bool} {t e : TypeId} {k : IntKind} {fuel : Nat} {v : Value} {x : DataW H × List MemPlace}
  (ht : P.underlying t = some (.slice e)) (he : P.underlying e = some (.int k)) (hc : P.cellsOf e = 1) (h : DataW.trod enc P w base spare held fuel t [v] = some x) :
  ∃ (A : Option Addr) (c : Nat) (l : List Int),v = .slice A l.length c ∧ Kd.C (Kd.int k) w A l.length l ∧ l.length ≤ c ∧ l.length ≤ maxLen ∧ ∀ n ∈ l,(Lit.int k n).wf = true:=by
 rcases open_ints ht he hc h with ⟨hcs,_⟩ | ⟨a,len,cap,zs,hcs,_,hl,hm,hz,_,hcell,hwf⟩
 ·simp at hcs
  obtain ⟨l,h1,h2,h3,h4,h5⟩:=ReadsInt.ofRowC (k:=k) (w:=w) (a:=none) (len:=0) (cap:=0) (zs:=[]) (.inl ⟨rfl,rfl,rfl,rfl⟩)
  exact ⟨none,0,l,by rw [hcs,← h1],Kd.C_of_reads (d:=(0 : Int)) (h1:=fun _ => rfl) h2,h5,h3,h4⟩
 ·simp at hcs
  have hr : ∃ l : List Int,len = l.length ∧ ReadsInt w k (some a) l.length l ∧ l.length ≤ maxLen ∧ (∀ x ∈ l,(Lit.int k x).wf = true):=by
   refine ⟨zs.take len,?_,?_,?_,fun x hx => hwf x (List.mem_of_mem_take hx)⟩
   ·rw [List.length_take,hz];split <;> omega
   ·have hlen : (zs.take len).length = len:=by rw [List.length_take,hz];split <;> omega
    refine ⟨rfl,by rw [hlen];exact Nat.le_trans hl hm,fun hn => ⟨a,rfl,fun j hj => ?_⟩⟩
    rw [hlen] at hj
    have hj2 : j < zs.length:=by rw [hz];split <;> omega
    rw [hcell j hj2]
    simp [List.getD_eq_getElem?_getD,List.getElem?_take,hj]
   ·rw [List.length_take];exact Nat.le_trans (Nat.min_le_left _ _) (Nat.le_trans hl hm)
  obtain ⟨l,h1,h2,h3,h4⟩:=hr
  exact ⟨some a,cap,l,by rw [hcs,← h1],Kd.C_of_reads (d:=(0 : Int)) (h1:=fun _ => rfl) h2,by omega,h3,h4⟩
theorem field_int {H : Type} {enc : TypeId × Value → H} {P : Program} {w : World} {base : Nat} {spare : Nat → Bool} {held : Bool} {t : TypeId} {k : IntKind} {fuel : Nat} {v : Value} {x : DataW H × List MemPlace}
  (ht : P.underlying t = some (.int k)) (h : DataW.trod enc P w base spare held fuel t [v] = some x) : ∃ n : Int,v = .int k n ∧ (Lit.int k n).wf = true:=by
 obtain ⟨n,h1,_,h2⟩:=DataW.trod_int ht h
 simp at h1
 exact ⟨n,h1,h2⟩
theorem field_str {H : Type} {enc : TypeId × Value → H} {P : Program} {w : World} {base : Nat} {spare : Nat → Bool} {held : Bool} {t : TypeId} {fuel : Nat} {v : Value} {x : DataW H × List MemPlace}
  (ht : P.underlying t = some .string) (h : DataW.trod enc P w base spare held fuel t [v] = some x) : ∃ s : ByteArray,v = .string s ∧ s.size ≤ maxLen:=by
 obtain ⟨s,h1,_,h2⟩:=DataW.trod_string ht h
 simp at h1
 exact ⟨s,h1,h2⟩
set_option maxRecDepth 100000 in
theorem row_matrix {H : Type} {enc : TypeId × Value → H} {w : World} {base b0 : Nat} {r : Reach} {spare : Nat → Bool} {held : Bool} {v : Value} {d : DataW H} {p : List MemPlace}
  (hv : Value.okWide Try.prog w r b0 27 v) (h : DataW.Trod enc Try.prog w base spare held 27 v d p) :
  ∃ (n : Int) (A : Option Addr) (c : Nat) (l : List Int),v = .agg #[.int .i64 n,.slice A l.length c] ∧ Kd.C (Kd.int .i64) w A l.length l ∧ l.length ≤ c ∧ (Lit.int .i64 n).wf = true ∧ l.length ≤ maxLen ∧ ∀ x ∈ l,(Lit.int .i64 x).wf = true:=by
 obtain ⟨v0,v1,y0,y1,n,rfl,_,_,h0,h1⟩:=Go.Joins.open_agg2 Try.underlying27 (by kernel_rfl) (by kernel_rfl) hv h
 obtain ⟨z,rfl,hz⟩:=field_int Try.underlying3 h0
 obtain ⟨A,c,l,rfl,hC,hc,hm,hw⟩:=field_ints Try.underlying22 Try.underlying3 (by kernel_rfl) h1
 exact ⟨z,A,c,l,rfl,hC,hc,hz,hm,hw⟩
end Go.Proofs.Ytfmbpoojpnoafaa.X
end
section
namespace Go.Proofs.Ytfmbpoojpnoafaa.X
open Go.RowKit Go.Proofs.Ytfmbpoojpnoafaa.X Go.Proofs.YtfmbpoojpnoafaaW.PrintWords Go.Proofs.YtfmbpoojpnoafaaW.PrintLast Go.Proofs.YtfmbpoojpnoafaaW.PrintMore
set_option linter.unusedVariables false
set_option linter.unusedSimpArgs false
open Go.ChangeShapes Go.WideShapes Go.Deep
set_option maxRecDepth 100000 in
theorem field_steps {H : Type} {enc : TypeId × Value → H} {w : World} {base : Nat} {spare : Nat → Bool} {held : Bool} {fuel : Nat} {v : Value} {x : DataW H × List MemPlace}
  (h : DataW.trod enc Try.prog w base spare held fuel 23 [v] = some x) :
  ∃ (A : Option Addr) (c : Nat) (l : List S118),v = .slice A l.length c ∧ Kd.C k118 w A l.length l ∧ l.length ≤ c ∧ l.length ≤ maxLen ∧ ∀ s ∈ l,(Lit.int .i64 s.f0).wf = true ∧ s.f1.size ≤ maxLen ∧ (Lit.int .i64 s.f2).wf = true ∧ (Lit.int .i64 s.f3).wf = true:=by
 rcases open_slice Try.underlying23 h with ⟨hcs,_⟩ | ⟨a,len,cap,m,n,D,Pl,hcs,_,hl,hm,hmm,_,hi⟩
 ·simp at hcs
  exact ⟨none,0,[],hcs,Kd.C_nil _ _,Nat.le_refl _,by simp,fun s hs => by cases hs⟩
 ·simp at hcs
  have hlm : len ≤ m:=by rw [hmm];split <;> omega
  have one : ∀ i,i < len → ∃ s : S118,(∀ u : Nat,∀ y,[Value.int .i64 s.f0,.string s.f1,.int .i64 s.f2,.int .i64 s.f3][u]? = some y → w.cell? (a.add (i * 4 + u)) = some y) ∧ (Lit.int .i64 s.f0).wf = true ∧ s.f1.size ≤ maxLen ∧ (Lit.int .i64 s.f2).wf = true ∧ (Lit.int .i64 s.f3).wf = true:=by
   intro i hil
   obtain ⟨cs',hc,ht'⟩:=hi i (by omega)
   rw [show Try.prog.cellsOf 118 = 4 by kernel_rfl] at hc
   obtain ⟨_,hcl,hat⟩:=World.cells?_some hc
   match cs',hcl with
   | [q0,q1,q2,q3],_ =>
   obtain ⟨y0,y1,y2,y3,n',_,_,t0,t1,t2,t3⟩:=Go.Joins.trod_struct4 Try.underlying118 ht'
   have ei : Try.prog.cellsOf 3 = 1:=by kernel_rfl
   have es : Try.prog.cellsOf 9 = 1:=by kernel_rfl
   have t0 : DataW.trod enc Try.prog w base spare held n' 3 [q0] = some y0:=by simpa [ei,es] using t0
   have t1 : DataW.trod enc Try.prog w base spare held n' 9 [q1] = some y1:=by simpa [ei,es] using t1
   have t2 : DataW.trod enc Try.prog w base spare held n' 3 [q2] = some y2:=by simpa [ei,es] using t2
   have t3 : DataW.trod enc Try.prog w base spare held n' 3 [q3] = some y3:=by simpa [ei,es] using t3
   have hat' : ∀ u,u < 4 → w.cell? (a.add (i * 4 + u)) = [q0,q1,q2,q3][u]?:=fun u hu => by rw [← Go.Deep.add_add];exact hat u hu
   have c0:=hat' 0 (by omega)
   have c1:=hat' 1 (by omega)
   have c2:=hat' 2 (by omega)
   have c3:=hat' 3 (by omega)
   clear hat hat' hc ht'
   obtain ⟨z0,rfl,w0⟩:=field_int Try.underlying3 t0
   obtain ⟨z1,rfl,w1⟩:=field_str Try.underlying9 t1
   obtain ⟨z2,rfl,w2⟩:=field_int Try.underlying3 t2
   obtain ⟨z3,rfl,w3⟩:=field_int Try.underlying3 t3
   refine ⟨⟨z0,z1,z2,z3⟩,?_,w0,w1,w2,w3⟩
   intro u y hu
   match u,hu with
   | 0,hu => obtain rfl:=Option.some.inj hu;exact c0
   | 1,hu => obtain rfl:=Option.some.inj hu;exact c1
   | 2,hu => obtain rfl:=Option.some.inj hu;exact c2
   | 3,hu => obtain rfl:=Option.some.inj hu;exact c3
   | u + 4,hu => simp at hu
  obtain ⟨l,hll,hlp⟩ : ∃ l : List S118,l.length = len ∧ ∀ i s,l[i]? = some s → (∀ u : Nat,∀ y,[Value.int .i64 s.f0,.string s.f1,.int .i64 s.f2,.int .i64 s.f3][u]? = some y → w.cell? (a.add (i * 4 + u)) = some y) ∧ (Lit.int .i64 s.f0).wf = true ∧ s.f1.size ≤ maxLen ∧ (Lit.int .i64 s.f2).wf = true ∧ (Lit.int .i64 s.f3).wf = true:=by
   have : ∀ q,q ≤ len → ∃ l : List S118,l.length = q ∧ ∀ i s,l[i]? = some s → (∀ u : Nat,∀ y,[Value.int .i64 s.f0,.string s.f1,.int .i64 s.f2,.int .i64 s.f3][u]? = some y → w.cell? (a.add (i * 4 + u)) = some y) ∧ (Lit.int .i64 s.f0).wf = true ∧ s.f1.size ≤ maxLen ∧ (Lit.int .i64 s.f2).wf = true ∧ (Lit.int .i64 s.f3).wf = true:=by
    intro q
    induction q with
    | zero => intro _;exact ⟨[],rfl,fun i s h => by simp at h⟩
    | succ q ih =>
     intro hq
     obtain ⟨l,h1,h2⟩:=ih (by omega)
     obtain ⟨s,hs⟩:=one q (by omega)
     refine ⟨l ++ [s],by simp [h1],fun i s' h => ?_⟩
     by_cases e : i < l.length
     ·rw [List.getElem?_append_left e] at h;exact h2 i s' h
     ·rw [List.getElem?_append_right (by omega)] at h
      have : i = q:=by
       have:=(List.getElem?_eq_some_iff.mp h).1
       simp at this;omega
      subst this
      rw [h1,Nat.sub_self] at h
      obtain rfl:=Option.some.inj h
      exact hs
   exact this len (Nat.le_refl _)
  refine ⟨some a,cap,l,by rw [hcs,hll],?_,by omega,by omega,fun s hs => ?_⟩
  ·refine ⟨rfl,(by have e : maxLen = 9223372036854775807:=rfl;omega),fun _ => ⟨a,rfl,fun j p hj => ?_⟩⟩
   exact ⟨_,rfl,k118_mk w p,(hlp j p hj).1⟩
  ·obtain ⟨i,hi',rfl⟩:=List.mem_iff_getElem.mp hs
   exact (hlp i _ (List.getElem?_eq_getElem hi')).2
set_option maxRecDepth 100000 in
theorem row_automaton {H : Type} {enc : TypeId × Value → H} {w : World} {base b0 : Nat} {r : Reach} {spare : Nat → Bool} {held : Bool} {v : Value} {d : DataW H} {p : List MemPlace}
  (hv : Value.okWide Try.prog w r b0 25 v) (h : DataW.Trod enc Try.prog w base spare held 25 v d p) :
  ∃ (n : Int) (A1 : Option Addr) (c1 : Nat) (l1 : List Int) (A2 : Option Addr) (c2 : Nat) (l2 : List Int) (A3 : Option Addr) (c3 : Nat) (l3 : List S118),v = .agg #[.int .i64 n,.slice A1 l1.length c1,.slice A2 l2.length c2,.slice A3 l3.length c3] ∧
   Kd.C (Kd.int .i64) w A1 l1.length l1 ∧ l1.length ≤ c1 ∧ Kd.C (Kd.int .i64) w A2 l2.length l2 ∧ l2.length ≤ c2 ∧ Kd.C k118 w A3 l3.length l3 ∧ l3.length ≤ c3 ∧ (Lit.int .i64 n).wf = true ∧
   l1.length ≤ maxLen ∧ (∀ x ∈ l1,(Lit.int .i64 x).wf = true) ∧ l2.length ≤ maxLen ∧ (∀ x ∈ l2,(Lit.int .i64 x).wf = true) ∧ l3.length ≤ maxLen ∧ (∀ s ∈ l3,(Lit.int .i64 s.f0).wf = true ∧ s.f1.size ≤ maxLen ∧ (Lit.int .i64 s.f2).wf = true ∧ (Lit.int .i64 s.f3).wf = true):=by
 obtain ⟨v0,v1,v2,v3,y0,y1,y2,y3,n,rfl,_,_,h0,h1,h2,h3⟩:=Go.Joins.open_agg4 Try.underlying25 (by kernel_rfl) (by kernel_rfl) hv h
 obtain ⟨z,rfl,hz⟩:=field_int Try.underlying3 h0
 obtain ⟨A1,c1,l1,rfl,hC1,hc1,hm1,hw1⟩:=field_ints Try.underlying22 Try.underlying3 (by kernel_rfl) h1
 obtain ⟨A2,c2,l2,rfl,hC2,hc2,hm2,hw2⟩:=field_ints Try.underlying22 Try.underlying3 (by kernel_rfl) h2
 obtain ⟨A3,c3,l3,rfl,hC3,hc3,hm3,hw3⟩:=field_steps h3
 exact ⟨z,A1,c1,l1,A2,c2,l2,A3,c3,l3,rfl,hC1,hc1,hC2,hc2,hC3,hc3,hz,hm1,hw1,hm2,hw2,hm3,hw3⟩
end Go.Proofs.Ytfmbpoojpnoafaa.X
end
section
namespace Go.Proofs.Ytfmbpoojpnoafaa.Y
open Go.RowKit Go.Proofs.Ytfmbpoojpnoafaa.X Go.Proofs.YtfmbpoojpnoafaaW.PrintWords Go.Proofs.YtfmbpoojpnoafaaW.PrintLast Go.Proofs.YtfmbpoojpnoafaaW.PrintMore
set_option linter.unusedVariables false
set_option linter.unusedSimpArgs false
def L (s : ByteArray) : List UInt8:=s.data.toList
theorem L_size (s : ByteArray) : s.size = (L s).length:=by simp [L]
theorem L_mk (l : List UInt8) : L ⟨l.toArray⟩ = l:=by simp [L]
theorem L_inj {s t : ByteArray} (h : L s = L t) : s = t:=by
 cases s;cases t;simp [L] at h;subst h;rfl
theorem toList_L (s : ByteArray) : s.toList = L s:=ByteArray.toList_eq s
theorem L_extract (s : ByteArray) (a b : Nat) : L (s.extract a b) = ((L s).take b).drop a:=by
 simp [L,ByteArray.data_extract,Array.toList_extract,List.extract,List.drop_take]
theorem L_append (s t : ByteArray) : L (s ++ t) = L s ++ L t:=by simp [L,ByteArray.data_append]
theorem L_nil {s : ByteArray} : s.toList = ([] : List UInt8) ↔ L s = []:=by rw [toList_L]
theorem bt_L (s : ByteArray) (i : Int) : bt s i = (((L s).getD i.toNat 0).toNat : Int):=by
 unfold bt L
 split
 ·next h =>
  have h' : i.toNat < s.data.toList.length:=by simpa using h
  rw [List.getD_eq_getElem?_getD,List.getElem?_eq_getElem h']
  simp;rfl
 ·next h =>
  have h' : s.data.toList.length ≤ i.toNat:=by simpa using h
  rw [List.getD_eq_getElem?_getD,List.getElem?_eq_none h'];rfl
theorem w64 {x : Int} (h0 : -9223372036854775808 ≤ x) (h1 : x ≤ 9223372036854775807) : wrap64 x = x:=by unfold wrap64;omega
theorem _root_.Go.Proofs.YtfmbpoojpnoafaaW.PrintWords.Ev.is {α : Type} {g : Nat → Option α} {r r' : α} (h : Ev g r) (e : r = r') : Ev g r':=e ▸ h
theorem bt_suffix {s : ByteArray} {u : List UInt8} {c : UInt8} {e : List UInt8} (h : L s = u ++ c :: e) : bt s u.length = (c.toNat : Int):=by
 rw [bt_L,h];simp [List.getD_eq_getElem?_getD]
theorem size_suffix {s : ByteArray} {u e : List UInt8} (h : L s = u ++ e) : s.size = u.length + e.length:=by rw [L_size,h];simp
theorem u8_ne {c d : UInt8} (h : c ≠ d) : ¬ ((c.toNat : Int) = (d.toNat : Int)):=by
 intro e;exact h (UInt8.toNat.inj (by exact_mod_cast e))
end Go.Proofs.Ytfmbpoojpnoafaa.Y
end
section
namespace Go.Proofs.Ytfmbpoojpnoafaa.X
open Go.RowKit Go.Proofs.YtfmbpoojpnoafaaW.PrintWords Go.Proofs.YtfmbpoojpnoafaaW.PrintLast Go.Proofs.YtfmbpoojpnoafaaW.PrintMore
attribute [local go_sem] max2_int min2_int max_two min_two max_three min_three max_four min_four
set_option linter.unusedVariables false
set_option linter.unusedSimpArgs false
def laws_eqMatrix.f (k : Nat) (a0_0 : Int) (l0_1 : List Int) (a1_0 : Int) (l1_1 : List Int) : Option (Bool):=if a0_0 = a1_0 then ((laws_eqIntS.f k l0_1 l1_1).bind fun t238 => (if t238 = true then (some true) else (some false))) else (some false)
theorem laws_eqMatrix.mono : ∀ a0 a1 a2 a3 k,LeO (laws_eqMatrix.f k a0 a1 a2 a3) (laws_eqMatrix.f (k + 1) a0 a1 a2 a3):=by
 intro a0 a1 a2 a3 k
 unfold laws_eqMatrix.f
 repeat' first
   | (with_reducible exact laws_eqIntS.mono _ _ _)
   | (with_reducible first|exact LeO.refl _|exact LeO.none _|refine LeO.ite ?_ ?_|refine LeO.bind ?_ (fun _ => ?_))
   | exact laws_eqIntS.mono _ _ _
   | exact LeO.none _
   | refine LeO.ite ?_ ?_
   | refine LeO.bind ?_ (fun _ => ?_)
set_option maxHeartbeats 8000000 in
set_option maxRecDepth 100000 in
theorem laws_eqMatrix.calls (k : Nat) (a0_0 : Int) (A0_1 : Option Addr) (c0_1 : Nat) (l0_1 : List Int) (a1_0 : Int) (A1_1 : Option Addr) (c1_1 : Nat) (l1_1 : List Int) (r : Bool) (w : World) (hr0_1 : Kd.C (Kd.int .i64) w A0_1 l0_1.length l0_1) (hc0_1 : l0_1.length ≤ c0_1) (hr1_1 : Kd.C (Kd.int .i64) w A1_1 l1_1.length l1_1) (hc1_1 : l1_1.length ≤ c1_1) (h : laws_eqMatrix.f k a0_0 l0_1 a1_0 l1_1 = some r) :
  Calls Try.prog 21 #[.agg #[.int .i64 a0_0,.slice A0_1 l0_1.length c0_1],.agg #[.int .i64 a1_0,.slice A1_1 l1_1.length c1_1]] w fun e w' => e = .returned (.bool r) ∧ Below w.heap.size w w':=by
 have hu35:=Try.underlying35
 have HR0_1:=Aside0.mk hr0_1
 have HC0_1:=Aside0.mk hc0_1
 clear hr0_1 hc0_1
 have HR1_1:=Aside0.mk hr1_1
 have HC1_1:=Aside0.mk hc1_1
 clear hr1_1 hc1_1
 have HB:=Aside0.mk (Below.refl w.heap.size w)
 have H : (if a0_0 = a1_0 then ((laws_eqIntS.f k l0_1 l1_1).bind fun t238 => (if t238 = true then (some true) else (some false))) else (some false)) = some r:=h
 clear h
 by_cases c3 : a0_0 = a1_0
 ·rw [if_pos c3] at H
  have c3b0 : (a0_0 == a1_0) = true:=beq_iff_eq.mpr c3
  have c3b1 : (a0_0 != a1_0) = false:=bne_eq_false_iff_eq.mpr c3
  clear c3
  replace H:=Option.bind_eq_some_iff.mp H
  obtain ⟨t238,A40,H⟩:=H
  replace H : (if t238 = true then (some true) else (some false)) = some r:=H
  have A4:=Aside0.mk A40
  clear A40
  by_cases c5 : t238 = true
  ·subst c5
   have H1 : (some true) = some r:=by rw [if_pos rfl] at H;exact H
   clear H
   have H:=H1
   clear H1
   obtain rfl:=Option.some.inj H
   go_enter Try.func21,Try.ntmps21
   go_wp2_with (first|((with_reducible refine bev_ (N:=2) rfl rfl (cs:=#[.int .i64 a0_0,.slice A0_1 l0_1.length c0_1]) (t:=35) ?hr ?_);(case hr => first|(go_simp;done)|(go_simp;rfl));intro gb236 hg w6 hbox hb;have BK236:=Aside0.mk (hbox);have GW236:=Aside0.mk (szg_ hg (below_size (be0_ HB.out)));have GE236:=GW236;replace HB:=Aside0.mk (below_step (be0_ HB.out) hb);clear hb hbox hg)|((with_reducible refine bev_ (N:=3) rfl rfl (cs:=#[.int .i64 a1_0,.slice A1_1 l1_1.length c1_1]) (t:=35) ?hr ?_);(case hr => first|(go_simp;done)|(go_simp;rfl));intro gb237 hg w7 hbox hb;have BK237:=Aside0.mk (hbox);have GW237:=Aside0.mk (szg_ hg (below_size (be1_ HB.out GE236.out)));have GE237:=GW237;replace HB:=Aside0.mk (below_step (be1_ HB.out GE236.out) hb);have NB236_237:=nm_ hg BK236;have NB237_236:=nn_ hg BK236;replace BK236:=kc_ BK236 hb;clear hb hbox hg;have hnb8:=NB236_237.out;have hnc8:=NB237_236.out;obtain ⟨hcz9_0,hcz9_1,hfz9_0,hfz9_1⟩:=cf2_ BK236.out;obtain ⟨hcz10_0,hcz10_1,hfz10_0,hfz10_1⟩:=cf2_ BK237.out)|((with_reducible refine gate_callee (f:=29) rfl ?_);refine goesL_ (some 14) rfl rfl Try.func29 (by kernel_rfl) rfl #[.slice A0_1 l0_1.length c0_1,.slice A1_1 l1_1.length c1_1] rfl lp_ ?_;(with_reducible refine (laws_eqIntS.calls k _ _ l0_1 _ _ l1_1 true _ ?side1 ?side2 ?side3 ?side4 A4.out).mono ?_);(case side1 => exact cr_ (Kd.C_below HR0_1.out HB.out));(case side2 => exact HC0_1.out);(case side3 => exact cr_ (Kd.C_below HR1_1.out HB.out));(case side4 => exact HC1_1.out);rintro e w' ⟨rfl,⟨nd,rfl⟩⟩;refine ⟨_,rfl,?_⟩))
   go_ret
   exact ⟨er_,be2_ HB.out GE236.out GE237.out⟩
  ·replace c5:=Bool.eq_false_iff.mpr c5
   subst c5
   have H1 : (some false) = some r:=by rw [if_neg (show ¬ (false = true) by decide)] at H;exact H
   clear H
   have H:=H1
   clear H1
   obtain rfl:=Option.some.inj H
   go_enter Try.func21,Try.ntmps21
   go_wp2_with (first|((with_reducible refine bev_ (N:=2) rfl rfl (cs:=#[.int .i64 a0_0,.slice A0_1 l0_1.length c0_1]) (t:=35) ?hr ?_);(case hr => first|(go_simp;done)|(go_simp;rfl));intro gb236 hg w11 hbox hb;have BK236:=Aside0.mk (hbox);have GW236:=Aside0.mk (szg_ hg (below_size (be0_ HB.out)));have GE236:=GW236;replace HB:=Aside0.mk (below_step (be0_ HB.out) hb);clear hb hbox hg)|((with_reducible refine bev_ (N:=3) rfl rfl (cs:=#[.int .i64 a1_0,.slice A1_1 l1_1.length c1_1]) (t:=35) ?hr ?_);(case hr => first|(go_simp;done)|(go_simp;rfl));intro gb237 hg w12 hbox hb;have BK237:=Aside0.mk (hbox);have GW237:=Aside0.mk (szg_ hg (below_size (be1_ HB.out GE236.out)));have GE237:=GW237;replace HB:=Aside0.mk (below_step (be1_ HB.out GE236.out) hb);have NB236_237:=nm_ hg BK236;have NB237_236:=nn_ hg BK236;replace BK236:=kc_ BK236 hb;clear hb hbox hg;have hnb13:=NB236_237.out;have hnc13:=NB237_236.out;obtain ⟨hcz14_0,hcz14_1,hfz14_0,hfz14_1⟩:=cf2_ BK236.out;obtain ⟨hcz15_0,hcz15_1,hfz15_0,hfz15_1⟩:=cf2_ BK237.out)|((with_reducible refine gate_callee (f:=29) rfl ?_);refine goesL_ (some 14) rfl rfl Try.func29 (by kernel_rfl) rfl #[.slice A0_1 l0_1.length c0_1,.slice A1_1 l1_1.length c1_1] rfl lp_ ?_;(with_reducible refine (laws_eqIntS.calls k _ _ l0_1 _ _ l1_1 false _ ?side1 ?side2 ?side3 ?side4 A4.out).mono ?_);(case side1 => exact cr_ (Kd.C_below HR0_1.out HB.out));(case side2 => exact HC0_1.out);(case side3 => exact cr_ (Kd.C_below HR1_1.out HB.out));(case side4 => exact HC1_1.out);rintro e w' ⟨rfl,⟨nd,rfl⟩⟩;refine ⟨_,rfl,?_⟩))
   go_ret
   exact ⟨er_,be2_ HB.out GE236.out GE237.out⟩
 ·rw [if_neg c3] at H
  have c3b0 : (a0_0 == a1_0) = false:=beq_eq_false_iff_ne.mpr c3
  have c3b1 : (a0_0 != a1_0) = true:=bne_iff_ne.mpr c3
  obtain rfl:=Option.some.inj H
  go_enter Try.func21,Try.ntmps21
  go_wp2_with (first|((with_reducible refine bev_ (N:=2) rfl rfl (cs:=#[.int .i64 a0_0,.slice A0_1 l0_1.length c0_1]) (t:=35) ?hr ?_);(case hr => first|(go_simp;done)|(go_simp;rfl));intro gb236 hg w16 hbox hb;have BK236:=Aside0.mk (hbox);have GW236:=Aside0.mk (szg_ hg (below_size (be0_ HB.out)));have GE236:=GW236;replace HB:=Aside0.mk (below_step (be0_ HB.out) hb);clear hb hbox hg)|((with_reducible refine bev_ (N:=3) rfl rfl (cs:=#[.int .i64 a1_0,.slice A1_1 l1_1.length c1_1]) (t:=35) ?hr ?_);(case hr => first|(go_simp;done)|(go_simp;rfl));intro gb237 hg w17 hbox hb;have BK237:=Aside0.mk (hbox);have GW237:=Aside0.mk (szg_ hg (below_size (be1_ HB.out GE236.out)));have GE237:=GW237;replace HB:=Aside0.mk (below_step (be1_ HB.out GE236.out) hb);have NB236_237:=nm_ hg BK236;have NB237_236:=nn_ hg BK236;replace BK236:=kc_ BK236 hb;clear hb hbox hg;have hnb18:=NB236_237.out;have hnc18:=NB237_236.out;obtain ⟨hcz19_0,hcz19_1,hfz19_0,hfz19_1⟩:=cf2_ BK236.out;obtain ⟨hcz20_0,hcz20_1,hfz20_0,hfz20_1⟩:=cf2_ BK237.out))
  go_ret
  exact ⟨er_,be2_ HB.out GE236.out GE237.out⟩
def laws_szMatrix.f (a0_0 : Int) (l0_1 : List Int) (a1 : Int) : Option (Int):=(laws_szIntS.f l0_1 a1).bind fun t109 => (if t109 < 0 then (some (-1)) else (some t109))
set_option maxHeartbeats 8000000 in
set_option maxRecDepth 100000 in
theorem laws_szMatrix.calls (a0_0 : Int) (A0_1 : Option Addr) (c0_1 : Nat) (l0_1 : List Int) (a1 : Int) (r : Int) (w : World) (hr0_1 : Kd.C (Kd.int .i64) w A0_1 l0_1.length l0_1) (hc0_1 : l0_1.length ≤ c0_1) (h : laws_szMatrix.f a0_0 l0_1 a1 = some r) :
  Calls Try.prog 15 #[.agg #[.int .i64 a0_0,.slice A0_1 l0_1.length c0_1],.int .i64 a1] w fun e w' => e = .returned (.int .i64 r) ∧ Below w.heap.size w w':=by
 have hu27:=Try.underlying27
 have HR0_1:=Aside0.mk hr0_1
 have HC0_1:=Aside0.mk hc0_1
 clear hr0_1 hc0_1
 have HB:=Aside0.mk (Below.refl w.heap.size w)
 have H : ((laws_szIntS.f l0_1 a1).bind fun t109 => (if t109 < 0 then (some (-1)) else (some t109))) = some r:=h
 clear h
 replace H:=Option.bind_eq_some_iff.mp H
 obtain ⟨t109,A30,H⟩:=H
 replace H : (if t109 < 0 then (some (-1)) else (some t109)) = some r:=H
 have A3:=Aside0.mk A30
 clear A30
 by_cases c4 : t109 < 0
 ·rw [if_pos c4] at H
  have c4b0 : decide (t109 < 0) = true:=decide_eq_true c4
  clear c4
  obtain rfl:=Option.some.inj H
  go_enter Try.func15,Try.ntmps15
  go_wp2_with (first|((with_reducible refine bev_ (N:=2) rfl rfl (cs:=#[.int .i64 a0_0,.slice A0_1 l0_1.length c0_1]) (t:=27) ?hr ?_);(case hr => first|(go_simp;done)|(go_simp;rfl));intro gb108 hg w5 hbox hb;have BK108:=Aside0.mk (hbox);have GW108:=Aside0.mk (szg_ hg (below_size (be0_ HB.out)));have GE108:=GW108;replace HB:=Aside0.mk (below_step (be0_ HB.out) hb);clear hb hbox hg;obtain ⟨hcz6_0,hcz6_1,hfz6_0,hfz6_1⟩:=cf2_ BK108.out)|((with_reducible refine gate_callee (f:=65) rfl ?_);refine goesL_ (some 8) rfl rfl Try.func65 (by kernel_rfl) rfl #[.slice A0_1 l0_1.length c0_1,.int .i64 a1] rfl lp_ ?_;(with_reducible refine (laws_szIntS.calls _ _ l0_1 a1 t109 _ ?side1 ?side2 A3.out).mono ?_);(case side1 => exact cr_ (Kd.C_below HR0_1.out HB.out));(case side2 => exact HC0_1.out);rintro e w' ⟨rfl,⟨nd,rfl⟩⟩;refine ⟨_,rfl,?_⟩))
  go_ret
  exact ⟨er_,be1_ HB.out GE108.out⟩
 ·rw [if_neg c4] at H
  have c4b0 : decide (t109 < 0) = false:=decide_eq_false c4
  clear c4
  obtain rfl:=Option.some.inj H
  go_enter Try.func15,Try.ntmps15
  go_wp2_with (first|((with_reducible refine bev_ (N:=2) rfl rfl (cs:=#[.int .i64 a0_0,.slice A0_1 l0_1.length c0_1]) (t:=27) ?hr ?_);(case hr => first|(go_simp;done)|(go_simp;rfl));intro gb108 hg w7 hbox hb;have BK108:=Aside0.mk (hbox);have GW108:=Aside0.mk (szg_ hg (below_size (be0_ HB.out)));have GE108:=GW108;replace HB:=Aside0.mk (below_step (be0_ HB.out) hb);clear hb hbox hg;obtain ⟨hcz8_0,hcz8_1,hfz8_0,hfz8_1⟩:=cf2_ BK108.out)|((with_reducible refine gate_callee (f:=65) rfl ?_);refine goesL_ (some 8) rfl rfl Try.func65 (by kernel_rfl) rfl #[.slice A0_1 l0_1.length c0_1,.int .i64 a1] rfl lp_ ?_;(with_reducible refine (laws_szIntS.calls _ _ l0_1 a1 t109 _ ?side1 ?side2 A3.out).mono ?_);(case side1 => exact cr_ (Kd.C_below HR0_1.out HB.out));(case side2 => exact HC0_1.out);rintro e w' ⟨rfl,⟨nd,rfl⟩⟩;refine ⟨_,rfl,?_⟩))
  go_ret
  exact ⟨er_,be1_ HB.out GE108.out⟩
def laws_toMatrix.f (k : Nat) (a0_0 : Int) (l0_1 : List Int) : Option (Int × List Int):=(laws_toIntS.f k l0_1).bind fun t180 => (some (a0_0,t180))
theorem laws_toMatrix.mono : ∀ a0 a1 k,LeO (laws_toMatrix.f k a0 a1) (laws_toMatrix.f (k + 1) a0 a1):=by
 intro a0 a1 k
 unfold laws_toMatrix.f
 repeat' first
   | (with_reducible exact laws_toIntS.mono _ _)
   | (with_reducible first|exact LeO.refl _|exact LeO.none _|refine LeO.ite ?_ ?_|refine LeO.bind ?_ (fun _ => ?_))
   | exact laws_toIntS.mono _ _
   | exact LeO.none _
   | refine LeO.ite ?_ ?_
   | refine LeO.bind ?_ (fun _ => ?_)
set_option maxHeartbeats 8000000 in
set_option maxRecDepth 100000 in
theorem laws_toMatrix.calls (k : Nat) (a0_0 : Int) (A0_1 : Option Addr) (c0_1 : Nat) (l0_1 : List Int) (r1 : Int) (r2 : List Int) (w : World) (hr0_1 : Kd.C (Kd.int .i64) w A0_1 l0_1.length l0_1) (hc0_1 : l0_1.length ≤ c0_1) (h : laws_toMatrix.f k a0_0 l0_1 = some (r1,r2)) :
  Calls Try.prog 18 #[.agg #[.int .i64 a0_0,.slice A0_1 l0_1.length c0_1]] w fun e w' => ∃ v1_ : Value,e = .returned (.agg #[.int .i64 r1,v1_]) ∧ Kd.R (Kd.int .i64) 3 w' w.heap.size (fun _ => True) v1_ r2 ∧ Below w.heap.size w w':=by
 have hu27:=Try.underlying27
 have hu35:=Try.underlying35
 have HR0_1:=Aside0.mk hr0_1
 have HC0_1:=Aside0.mk hc0_1
 clear hr0_1 hc0_1
 have HB:=Aside0.mk (Below.refl w.heap.size w)
 have H : ((laws_toIntS.f k l0_1).bind fun t180 => (some (a0_0,t180))) = some (r1,r2):=h
 clear h
 replace H:=Option.bind_eq_some_iff.mp H
 obtain ⟨t180,A20,H⟩:=H
 replace H : (some (a0_0,t180)) = some (r1,r2):=H
 have A2:=Aside0.mk A20
 clear A20
 simp only [Option.some.injEq,Prod.mk.injEq] at H
 obtain ⟨rfl,rfl⟩:=H
 go_enter Try.func18,Try.ntmps18
 go_wp2_with (first|((with_reducible refine bev_ (N:=1) rfl rfl (cs:=#[.int .i64 a0_0,.slice A0_1 l0_1.length c0_1]) (t:=27) ?hr ?_);(case hr => first|(go_simp;done)|(go_simp;rfl));intro gb177 hg w3 hbox hb;have BK177:=Aside0.mk (hbox);have GW177:=Aside0.mk (szg_ hg (below_size (be0_ HB.out)));have GE177:=GW177;replace HB:=Aside0.mk (below_step (be0_ HB.out) hb);clear hb hbox hg)|((with_reducible refine bev_ (N:=2) rfl rfl (cs:=#[.int .i64 0,.slice none 0 0]) (t:=35) ?hr ?_);(case hr => first|(go_simp;done)|(go_simp;rfl));intro gb178 hg w4 hbox hb;have BK178:=Aside0.mk (hbox);have GW178:=Aside0.mk (szg_ hg (below_size (be1_ HB.out GE177.out)));have GE178:=GW178;replace HB:=Aside0.mk (below_step (be1_ HB.out GE177.out) hb);have NB177_178:=nm_ hg BK177;have NB178_177:=nn_ hg BK177;replace BK177:=kc_ BK177 hb;clear hb hbox hg)|((with_reducible refine bev_ (N:=3) rfl rfl (cs:=#[.int .i64 0,.slice none 0 0]) (t:=35) ?hr ?_);(case hr => first|(go_simp;done)|(go_simp;rfl));intro gb179 hg w5 hbox hb;have BK179:=Aside0.mk (hbox);have GW179:=Aside0.mk (szg_ hg (below_size (be2_ HB.out GE177.out GE178.out)));have GE179:=GW179;replace HB:=Aside0.mk (below_step (be2_ HB.out GE177.out GE178.out) hb);have NB177_179:=nm_ hg BK177;have NB179_177:=nn_ hg BK177;replace BK177:=kc_ BK177 hb;have NB178_179:=nm_ hg BK178;have NB179_178:=nn_ hg BK178;replace BK178:=kc_ BK178 hb;clear hb hbox hg;have hnb6:=NB177_178.out;have hnc6:=NB178_177.out;have hnb7:=NB177_179.out;have hnc7:=NB179_177.out;obtain ⟨hcz8_0,hcz8_1,hfz8_0,hfz8_1⟩:=cf2_ BK177.out;have hnb9:=NB179_178.out;have hnc9:=NB178_179.out;obtain ⟨hcz10_0,hcz10_1,hfz10_0,hfz10_1⟩:=cf2_ BK179.out)|((with_reducible refine gate_callee (f:=70) rfl ?_);refine goesL_ (some 9) rfl rfl Try.func70 (by kernel_rfl) rfl #[.slice A0_1 l0_1.length c0_1] rfl lp_ ?_;(with_reducible refine (laws_toIntS.calls k _ _ l0_1 t180 _ ?side1 ?side2 A2.out).mono ?_);(case side1 => exact Kd.C_below HR0_1.out (be3_ HB.out GE177.out GE178.out GE179.out));(case side2 => exact HC0_1.out);rintro e w11 ⟨v181,rfl,ho0,hb⟩;refine ⟨_,rfl,?_⟩;have HO182:=Aside0.mk (Kd.R_lower ho0 (below_size (be3_ HB.out GE177.out GE178.out GE179.out)));replace BK177:=Aside0.mk (blk_below (g:=gb177) (o:=.cells #[.int .i64 a0_0,.slice A0_1 l0_1.length c0_1] 27 (0,0)) (bf1_ BK177.out NB177_179.out) hb);replace BK178:=Aside0.mk (blk_below (g:=gb178) (o:=.cells #[.int .i64 0,.slice none 0 0] 35 (0,0)) (bf1_ BK178.out NB178_179.out) hb);replace BK179:=Aside0.mk (blk_below (g:=gb179) (o:=.cells #[.int .i64 a0_0,.slice none 0 0] 35 (0,0)) (by refine pe_ ?_;refine blk_put (cs:=#[.int .i64 0,.slice none 0 0]) ?_ 0 _ rfl;refine pe_ ?_;exact BK179.out) hb);replace HB:=Aside0.mk (below_step (be3_ HB.out GE177.out GE178.out GE179.out) hb);(try clear hb);(try clear hb2);(try clear hk);(try clear hi);(try clear ho0);obtain ⟨Ao12,co12,eo12⟩:=Kd.R_slice HO182.out;subst eo12;obtain ⟨hcz13_0,hcz13_1,hfz13_0,hfz13_1⟩:=cf2_ BK179.out;obtain ⟨hcz14_0,hcz14_1,hfz14_0,hfz14_1⟩:=cf2_ BK178.out))
 refine bodyPost_ret (results_cell_row rfl _ _ gb178 35 #[.int .i64 a0_0,.slice Ao12 t180.length co12] (0,0) _ rfl (by refine pe_ ?_;refine blk_put (cs:=#[.int .i64 a0_0,.slice none 0 0]) ?_ 1 _ rfl;refine pe_ ?_;refine blk_put (cs:=#[.int .i64 0,.slice none 0 0]) ?_ 0 _ rfl;refine pe_ ?_;refine blk_far ?_ NB178_179.out _;refine pe_ ?_;exact BK178.out) Try.underlying35 rfl (by kernel_rfl)) rfl ?_
 exact ⟨_,er_,by refine pr_ ?_;exact Kd.R_mono (Kd.R_far (p:=⟨gb178,1,none⟩) (Kd.R_far (p:=⟨gb178,0,none⟩) (Kd.R_far (p:=⟨gb179,1,none⟩) (Kd.R_types (Kd.R_types HO182.out BK179.out (by decide)) BK178.out (by decide)) (fun _ hk => hk.1.2) (.slice Ao12 t180.length co12)) (fun _ hk => hk.2) (.int .i64 a0_0)) (fun _ hk => hk.2) (.slice Ao12 t180.length co12)) (fun _ hk => trivial),be3_ HB.out GE177.out GE178.out GE179.out⟩
end Go.Proofs.Ytfmbpoojpnoafaa.X
end
section
namespace Go.Proofs.Ytfmbpoojpnoafaa.Y
open Go.RowKit Go.Proofs.Ytfmbpoojpnoafaa.X Go.Proofs.YtfmbpoojpnoafaaW.PrintWords Go.Proofs.YtfmbpoojpnoafaaW.PrintLast Go.Proofs.YtfmbpoojpnoafaaW.PrintMore
set_option linter.unusedVariables false
set_option linter.unusedSimpArgs false
theorem rd_mid (pre : List Int) (x : Int) (t : List Int) : rd (pre ++ x :: t) (pre.length : Int) = x:=by simp [rd,List.getD_eq_getElem?_getD]
theorem rd_nat (l : List Int) (i : Nat) : rd l (i : Int) = l.getD i 0:=by simp [rd]
theorem snoc_len (pre : List Int) (x : Int) : (((pre ++ [x]).length : Nat) : Int) = (pre.length : Int) + 1:=by simp
theorem wf_in {n : Int} (h : (Lit.int .i64 n).wf = true) : -9223372036854775808 ≤ n ∧ n ≤ 9223372036854775807:=by
 have hmin : IntKind.i64.min = -9223372036854775808:=rfl
 have hmax : IntKind.i64.max = 9223372036854775807:=rfl
 simp only [Lit.wf,Bool.and_eq_true,decide_eq_true_eq] at h
 omega
theorem maxLen_eq : maxLen = 9223372036854775807:=rfl
theorem ev_all {α : Type} {f : Nat → Nat → Option α} {g : Nat → α} (n : Nat) (h : ∀ i,i < n → Ev (f i) (g i)) : ∃ K0,∀ K,K0 ≤ K → ∀ i,i < n → f i K = some (g i):=by
 induction n with
 | zero => exact ⟨0,fun _ _ i hi => by omega⟩
 | succ n ih =>
  obtain ⟨K0,h0⟩:=ih (fun i hi => h i (by omega))
  obtain ⟨K1,h1⟩:=h n (by omega)
  refine ⟨max K0 K1,fun K hK i hi => ?_⟩
  by_cases e : i = n
  ·subst e;exact h1 K (by omega)
  ·exact h0 K (by omega) i (by omega)
theorem ev_up {α : Type} {f : Nat → Option α} {p : Nat → Nat → Option α} {r : α} (h : Ev f r) (hp : ∃ K0,∀ K,K0 ≤ K → ∀ j,LeO (f j) (p K (j + 1))) (hm : ∀ K j,LeO (p K j) (p K (j + 1))) : Ev (fun K => p K K) r:=by
 obtain ⟨K1,h1⟩:=h
 obtain ⟨K0,h0⟩:=hp
 refine ⟨max K0 (K1 + 1),fun K hK => ?_⟩
 have a:=h0 K (by omega) K1 r (h1 K1 (Nat.le_refl _))
 exact at_rounds (g:=p K) (hm K) (show K1 + 1 ≤ K by omega) a
theorem ev_some {α : Type} {f : Nat → Option α} {r : α} (h : ∀ k,f k = some r) : Ev f r:=⟨0,fun k _ => h k⟩
theorem up_loop {β : Type} (n : Nat) (L : Nat → Nat → Option β) (r : β) (step : ∀ i,i < n → Ev (L (i + 1)) r → Ev (L i) r) (h : Ev (L n) r) : Ev (L 0) r:=by
 have go : ∀ d,d ≤ n → Ev (L (n - d)) r:=by
  intro d
  induction d with
  | zero => intro _;exact h
  | succ d ih =>
   intro hd
   have e : n - (d + 1) + 1 = n - d:=by omega
   exact step (n - (d + 1)) (by omega) (by rw [e];exact ih (by omega))
 have:=go n (Nat.le_refl _)
 rwa [Nat.sub_self] at this
def tab (N : Nat) (F : Nat → Int) : List Int:=(List.range N).map F
theorem tab_length (N : Nat) (F : Nat → Int) : (tab N F).length = N:=by simp [tab]
theorem tab_snoc (N : Nat) (F : Nat → Int) : tab N F ++ [F N] = tab (N + 1) F:=by simp [tab,List.range_succ]
theorem tab_get (N : Nat) (F : Nat → Int) (j : Nat) (h : j < N) : (tab N F).getD j 0 = F j:=by
 simp [tab,List.getD_eq_getElem?_getD,List.getElem?_map,List.getElem?_range h]
theorem tab_congr (N : Nat) (F G : Nat → Int) (h : ∀ j,j < N → F j = G j) : tab N F = tab N G:=by
 unfold tab
 exact List.map_congr_left (fun j hj => h j (List.mem_range.mp hj))
theorem mem_tab {N : Nat} {F : Nat → Int} {x : Int} : x ∈ tab N F ↔ ∃ j,j < N ∧ F j = x:=by simp [tab]
theorem eq_tab (l : List Int) (N : Nat) (h : l.length = N) : l = tab N (fun j => l.getD j 0):=by
 apply List.ext_getElem
 ·simp [tab,h]
 ·intro i h1 h2
  simp [tab,List.getD_eq_getElem?_getD,List.getElem?_eq_getElem h1]
theorem fold_snoc {β : Type} (n : Nat) (f : β → Nat → β) (b : β) : (List.range (n + 1)).foldl f b = f ((List.range n).foldl f b) n:=by simp [List.range_succ]
theorem toIntS_ev (l : List Int) (h : l.length ≤ 1048576) : Ev (fun k => laws_toIntS.f k l) l:=by
 have go : ∀ (t pre : List Int),l = pre ++ t → Ev (fun k => laws_toIntS.l0 k l (pre ++ List.replicate t.length 0) (pre.length : Int)) l:=by
  intro t
  induction t with
  | nil =>
   intro pre hl
   refine Ev.step (f:=fun _ => some l) (fun k => ?_) (Ev.now _)
   simp only [laws_toIntS.l0]
   rw [if_neg (by rw [hl];simp)]
   simp [hl]
  | cons x t ih =>
   intro pre hl
   have hlen : l.length = pre.length + (t.length + 1):=by rw [hl];simp
   refine Ev.step (fun k => ?_) (ih (pre ++ [x]) (by simp [hl]))
   simp only [laws_toIntS.l0]
   rw [if_pos (by omega),if_pos (by omega),if_pos (by simp;omega),w64 (by omega) (by omega),hl,rd_mid,snoc_len,← hl]
   congr 1
   simp [List.replicate_succ,List.set_append]
 refine Ev.congr (fun k => ?_) (go l [] rfl)
 unfold laws_toIntS.f
 rw [if_pos (by omega),if_pos (by omega)]
 simp
theorem eqIntS_ev (a b : List Int) (h : a.length ≤ 1000000000) : Ev (fun k => laws_eqIntS.f k a b) (decide (a = b)):=by
 by_cases hl : a.length = b.length
 ·have go : ∀ (t u pre : List Int),a = pre ++ t → b = pre ++ u → Ev (fun k => laws_eqIntS.l0 k a b (pre.length : Int)) (decide (a = b)):=by
   intro t
   induction t with
   | nil =>
    intro u pre ha hb
    have hu : u = []:=by
     have h1:=congrArg List.length ha
     have h2:=congrArg List.length hb
     simp at h1 h2
     exact List.length_eq_zero_iff.mp (by omega)
    subst hu
    have hab : a = b:=by rw [ha,hb]
    refine Ev.step (f:=fun _ => some true) (fun k => ?_) ((Ev.now _).is (by rw [decide_eq_true hab]))
    simp only [laws_eqIntS.l0]
    rw [if_neg (by rw [ha];simp)]
   | cons x t ih =>
    intro u pre ha hb
    have hla : a.length = pre.length + (t.length + 1):=by rw [ha];simp
    cases u with
    | nil => have h2:=congrArg List.length hb;simp at h2;omega
    | cons y u =>
     by_cases hxy : x = y
     ·subst hxy
      refine Ev.step (fun k => ?_) (ih u (pre ++ [x]) (by simp [ha]) (by simp [hb]))
      simp only [laws_eqIntS.l0]
      rw [if_pos (by omega),if_pos (by omega),if_pos (by omega),w64 (by omega) (by omega),snoc_len,if_pos (by rw [ha,hb,rd_mid,rd_mid])]
     ·have hab : ¬ a = b:=by
       intro e
       rw [ha,hb] at e
       have:=List.append_cancel_left e
       simp at this
       exact hxy this.1
      refine Ev.step (f:=fun _ => some false) (fun k => ?_) ((Ev.now _).is (by rw [decide_eq_false hab]))
      simp only [laws_eqIntS.l0]
      rw [if_pos (by omega),if_pos (by omega),if_pos (by omega),if_neg (by rw [ha,hb,rd_mid,rd_mid];exact hxy)]
  refine Ev.congr (fun k => ?_) (go a b [] rfl rfl)
  unfold laws_eqIntS.f
  rw [if_pos (by omega)];rfl
 ·have hab : ¬ a = b:=fun e => hl (by rw [e])
  refine Ev.congr (f:=fun _ => some false) (fun k => ?_) ((Ev.now _).is (by rw [decide_eq_false hab]))
  unfold laws_eqIntS.f
  rw [if_neg (by omega)]
theorem toMatrix_ev (n : Int) (l : List Int) (h : l.length ≤ 1048576) : Ev (fun k => laws_toMatrix.f k n l) (n,l):=by
 refine Ev.congr (f:=?f1) (fun k => ?h1) ?k1
 case h1 => unfold laws_toMatrix.f;exact rfl
 exact Ev.bind (toIntS_ev l h) (Ev.now _)
theorem eqMatrix_ev (n : Int) (l : List Int) (h : l.length ≤ 1000000000) : Ev (fun k => laws_eqMatrix.f k n l n l) true:=by
 refine Ev.congr (f:=?f2) (fun k => ?h2) ?k2
 case h2 => unfold laws_eqMatrix.f;rw [if_pos rfl] <;> exact rfl
 exact Ev.bind (eqIntS_ev l l h) (Ev.congr (f:=fun _ => some true) (fun k => by simp) (Ev.now _))
theorem szMatrix_eq (n : Int) (l : List Int) (z : Int) (h : l.length ≤ maxLen) (h0 : 0 ≤ z) (h1 : z ≤ 1048576) : laws_szMatrix.f n l z = some (if (l.length : Int) ≤ z then z - l.length else -1):=by
 rw [maxLen_eq] at h
 unfold laws_szMatrix.f laws_szIntS.f
 rw [w64 (by omega) (by omega)]
 by_cases hl : (l.length : Int) ≤ z
 ·rw [if_neg (by omega),if_pos hl,Option.bind_some,if_neg (by omega)]
 ·rw [if_pos (by omega),if_neg hl];rfl
theorem Ev_t {α : Type} {f g : Nat → Option α} {r : α} {c : Prop} [Decidable c] (h : c) (k : Ev f r) : Ev (fun n => if c then f n else g n) r:=Ev.congr (fun n => if_pos h) k
theorem Ev_f {α : Type} {f g : Nat → Option α} {r : α} {c : Prop} [Decidable c] (h : ¬ c) (k : Ev g r) : Ev (fun n => if c then f n else g n) r:=Ev.congr (fun n => if_neg h) k
theorem Ev_sz {α : Type} {o : Option Int} {z : Int} {g : Nat → Int → Option α} {r : α} (h : o = some z) (k : Ev (fun n => g n z) r) : Ev (fun n => o.bind (g n)) r:=Ev.congr (fun n => by rw [h];rfl) k
end Go.Proofs.Ytfmbpoojpnoafaa.Y
end
section
namespace Go.Proofs.Ytfmbpoojpnoafaa.X
open Go.RowKit Go.Proofs.YtfmbpoojpnoafaaW.PrintWords Go.Proofs.YtfmbpoojpnoafaaW.PrintLast Go.Proofs.YtfmbpoojpnoafaaW.PrintMore
attribute [local go_sem] max2_int min2_int max_two min_two max_three min_three max_four min_four
set_option linter.unusedVariables false
set_option linter.unusedSimpArgs false
def spec_CostValid.f (a0 : Int) : Option (Bool):=(spec_l1In.f a0 0 1000000).bind fun t128 => (some t128)
set_option maxHeartbeats 8000000 in
set_option maxRecDepth 100000 in
theorem spec_CostValid.calls (a0 : Int) (r : Bool) (w : World) (h : spec_CostValid.f a0 = some r) :
  Calls Try.prog 178 #[.int .i64 a0] w fun e w' => e = .returned (.bool r) ∧ Drawn0 w w':=by
 have H : ((spec_l1In.f a0 0 1000000).bind fun t128 => (some t128)) = some r:=h
 clear h
 replace H:=Option.bind_eq_some_iff.mp H
 obtain ⟨t128,A20,H⟩:=H
 replace H : (some t128) = some r:=H
 have A2:=Aside0.mk A20
 clear A20
 obtain rfl:=Option.some.inj H
 go_enter Try.func178,Try.ntmps178
 go_wp2_with (first|((with_reducible refine gate_callee (f:=90) rfl ?_);refine goesL_ (some 4) rfl rfl Try.func90 (by kernel_rfl) rfl #[.int .i64 a0,.int .i64 0,.int .i64 1000000] rfl lp_ ?_;(with_reducible refine (spec_l1In.calls a0 0 1000000 t128 _ A2.out).mono ?_);rintro e w' ⟨rfl,⟨nd,rfl⟩⟩;refine ⟨_,rfl,?_⟩))
 go_ret
 exact ⟨by first|rfl|(simp;done)|(simp [*];done),by repeat (first|exact Drawn0.refl _|apply Drawn0.step)⟩
def spec_l1All.l0 : Nat → List Int → Int → Int → Option (Bool)
 | 0,_,_,_ => none
 | k + 1,x5,x6,x7 => if x7 < x6 then (if 0 ≤ x7 then (if x7 < (x5.length : Int) then ((spec_CostValid.f (rd x5 x7)).bind fun t130 => (if t130 = true then (spec_l1All.l0 k x5 x6 (wrap64 (x7 + 1))) else (some false))) else (none)) else (none)) else (some true)
def spec_l1All.f (k : Nat) (l0 : List Int) : Option (Bool):=spec_l1All.l0 k l0 (l0.length : Int) 0
theorem spec_l1All.mono_l : ∀ k,(∀ y0 y1 y2,LeO (spec_l1All.l0 k y0 y1 y2) (spec_l1All.l0 (k + 1) y0 y1 y2))
 | 0 => fun _ _ _ r h => by simp [spec_l1All.l0] at h
 | k + 1 => by
  have ih0:=spec_l1All.mono_l k
  ·intro y0 y1 y2
   unfold spec_l1All.l0
   repeat' first
   | (with_reducible exact ih0 _ _ _)
   | (with_reducible first|exact LeO.refl _|exact LeO.none _|refine LeO.ite ?_ ?_|refine LeO.bind ?_ (fun _ => ?_))
   | exact ih0 _ _ _
   | exact LeO.none _
   | refine LeO.ite ?_ ?_
   | refine LeO.bind ?_ (fun _ => ?_)
theorem spec_l1All.mono : ∀ a0 k,LeO (spec_l1All.f k a0) (spec_l1All.f (k + 1) a0):=by
 intro a0 k
 have ih0:=spec_l1All.mono_l k
 unfold spec_l1All.f
 repeat' first
   | (with_reducible exact ih0 _ _ _)
   | (with_reducible first|exact LeO.refl _|exact LeO.none _|refine LeO.ite ?_ ?_|refine LeO.bind ?_ (fun _ => ?_))
   | exact ih0 _ _ _
   | exact LeO.none _
   | refine LeO.ite ?_ ?_
   | refine LeO.bind ?_ (fun _ => ?_)
set_option maxHeartbeats 8000000 in
set_option maxRecDepth 100000 in
theorem spec_l1All.calls (k : Nat) (A0 : Option Addr) (c0 : Nat) (l0 : List Int) (r : Bool) (w : World) (hr0 : Kd.C (Kd.int .i64) w A0 l0.length l0) (hc0 : l0.length ≤ c0) (h : spec_l1All.f k l0 = some r) :
  Calls Try.prog 159 #[.slice A0 l0.length c0] w fun e w' => e = .returned (.bool r) ∧ Drawn0 w w':=by
 have HR0:=Aside0.mk hr0
 have HC0:=Aside0.mk hc0
 clear hr0 hc0
 have H : (spec_l1All.l0 k l0 (l0.length : Int) 0) = some r:=h
 clear h
 have H':=Aside0.mk H
 clear H
 go_enter Try.func159,Try.ntmps159
 go_wp2
 go_loopg [7] k (fun kq v7 w' => ∃ (x7_1 : Int),v7 = .int .i64 x7_1 ∧ Aside0 (spec_l1All.l0 kq l0 (l0.length : Int) x7_1 = some r) ∧ Aside0 (kq ≤ k) ∧ Drawn0 w w')
 case atStart => exact ⟨(0),rs_,H',⟨Nat.le_refl _⟩,by repeat (first|exact Drawn0.refl _|apply Drawn0.step)⟩
 case round =>
  clear H'
  try clear c1
  obtain ⟨x7_1,rfl,HA,HK1,⟨m1,rfl⟩⟩:=hrel
  cases gk with
  | zero => exact absurd HA.out (by simp [spec_l1All.l0])
  | succ k1 =>
   have H:=HA.out
   clear HA
   simp only [spec_l1All.l0] at H
   by_cases c2 : x7_1 < (l0.length : Int)
   ·rw [if_pos c2] at H
    have c2b0 : decide (x7_1 < (l0.length : Int)) = true:=decide_eq_true c2
    clear c2
    by_cases c3 : 0 ≤ x7_1
    ·rw [if_pos c3] at H
     have c3b0 : decide (0 ≤ x7_1) = true:=decide_eq_true c3
     clear c3
     by_cases c4 : x7_1 < (l0.length : Int)
     ·rw [if_pos c4] at H
      have c4b0 : decide (x7_1 < (l0.length : Int)) = true:=decide_eq_true c4
      clear c4
      replace H:=Option.bind_eq_some_iff.mp H
      obtain ⟨t130,A50,H⟩:=H
      replace H : (if t130 = true then (spec_l1All.l0 k1 l0 (l0.length : Int) (wrap64 (x7_1 + 1))) else (some false)) = some r:=H
      have A5:=Aside0.mk A50
      clear A50
      by_cases c6 : t130 = true
      ·subst c6
       have H1 : (spec_l1All.l0 k1 l0 (l0.length : Int) (wrap64 (x7_1 + 1))) = some r:=by rw [if_pos rfl] at H;exact H
       clear H
       have H:=H1
       clear H1
       have H':=Aside0.mk H
       clear H
       have p129 : 0 ≤ (x7_1 : Int):=od_
       have q129 : x7_1 < (l0.length : Int):=od_
       obtain ⟨ad129,e129,hx129_0⟩:=Kd.at_int HR0.out x7_1 p129 q129
       cases e129
       replace p129:=eq_true p129
       replace q129:=eq_true q129
       go_wp2_with (first|((with_reducible refine gate_callee (f:=178) rfl ?_);refine goesL_ (some 12) rfl rfl Try.func178 (by kernel_rfl) rfl #[.int .i64 (rd l0 x7_1)] rfl lp_ ?_;(with_reducible refine (spec_CostValid.calls (rd l0 x7_1) true _ A5.out).mono ?_);rintro e w' ⟨rfl,⟨nd,rfl⟩⟩;refine ⟨_,rfl,?_⟩))
       go_roundg k1
       case measure => have:=HK1.out;omega
       case rel => exact ⟨(wrap64 (x7_1 + 1)),rs_,H',⟨by have:=HK1.out;omega⟩,by repeat (first|exact Drawn0.refl _|apply Drawn0.step)⟩
      ·replace c6:=Bool.eq_false_iff.mpr c6
       subst c6
       have H1 : (some false) = some r:=by rw [if_neg (show ¬ (false = true) by decide)] at H;exact H
       clear H
       have H:=H1
       clear H1
       obtain rfl:=Option.some.inj H
       have p129 : 0 ≤ (x7_1 : Int):=od_
       have q129 : x7_1 < (l0.length : Int):=od_
       obtain ⟨ad129,e129,hx129_0⟩:=Kd.at_int HR0.out x7_1 p129 q129
       cases e129
       replace p129:=eq_true p129
       replace q129:=eq_true q129
       go_wp2_with (first|((with_reducible refine gate_callee (f:=178) rfl ?_);refine goesL_ (some 12) rfl rfl Try.func178 (by kernel_rfl) rfl #[.int .i64 (rd l0 x7_1)] rfl lp_ ?_;(with_reducible refine (spec_CostValid.calls (rd l0 x7_1) false _ A5.out).mono ?_);rintro e w' ⟨rfl,⟨nd,rfl⟩⟩;refine ⟨_,rfl,?_⟩))
       go_ret
       exact ⟨by first|rfl|(simp;done)|(simp [*];done),by repeat (first|exact Drawn0.refl _|apply Drawn0.step)⟩
     ·rw [if_neg c4] at H
      exact absurd H (by simp)
    ·rw [if_neg c3] at H
     exact absurd H (by simp)
   ·rw [if_neg c2] at H
    have c2b0 : decide (x7_1 < (l0.length : Int)) = false:=decide_eq_false c2
    clear c2
    obtain rfl:=Option.some.inj H
    go_wp2
    go_ret
    exact ⟨by first|rfl|(simp;done)|(simp [*];done),by repeat (first|exact Drawn0.refl _|apply Drawn0.step)⟩
def spec_MatrixValid.f (k : Nat) (a0_0 : Int) (l0_1 : List Int) : Option (Bool):=(spec_l1In.f a0_0 1 4).bind fun t132 => (if t132 = true then (if (l0_1.length : Int) = (wrap64 (a0_0 * a0_0)) then ((spec_l1All.f k l0_1).bind fun t133 => (some t133)) else (some false)) else (some false))
theorem spec_MatrixValid.mono : ∀ a0 a1 k,LeO (spec_MatrixValid.f k a0 a1) (spec_MatrixValid.f (k + 1) a0 a1):=by
 intro a0 a1 k
 unfold spec_MatrixValid.f
 repeat' first
   | (with_reducible exact spec_l1All.mono _ _)
   | (with_reducible first|exact LeO.refl _|exact LeO.none _|refine LeO.ite ?_ ?_|refine LeO.bind ?_ (fun _ => ?_))
   | exact spec_l1All.mono _ _
   | exact LeO.none _
   | refine LeO.ite ?_ ?_
   | refine LeO.bind ?_ (fun _ => ?_)
set_option maxHeartbeats 8000000 in
set_option maxRecDepth 100000 in
theorem spec_MatrixValid.calls (k : Nat) (a0_0 : Int) (A0_1 : Option Addr) (c0_1 : Nat) (l0_1 : List Int) (r : Bool) (w : World) (hr0_1 : Kd.C (Kd.int .i64) w A0_1 l0_1.length l0_1) (hc0_1 : l0_1.length ≤ c0_1) (h : spec_MatrixValid.f k a0_0 l0_1 = some r) :
  Calls Try.prog 122 #[.agg #[.int .i64 a0_0,.slice A0_1 l0_1.length c0_1]] w fun e w' => e = .returned (.bool r) ∧ Below w.heap.size w w':=by
 have hu35:=Try.underlying35
 have HR0_1:=Aside0.mk hr0_1
 have HC0_1:=Aside0.mk hc0_1
 clear hr0_1 hc0_1
 have HB:=Aside0.mk (Below.refl w.heap.size w)
 have H : ((spec_l1In.f a0_0 1 4).bind fun t132 => (if t132 = true then (if (l0_1.length : Int) = (wrap64 (a0_0 * a0_0)) then ((spec_l1All.f k l0_1).bind fun t133 => (some t133)) else (some false)) else (some false))) = some r:=h
 clear h
 replace H:=Option.bind_eq_some_iff.mp H
 obtain ⟨t132,A20,H⟩:=H
 replace H : (if t132 = true then (if (l0_1.length : Int) = (wrap64 (a0_0 * a0_0)) then ((spec_l1All.f k l0_1).bind fun t133 => (some t133)) else (some false)) else (some false)) = some r:=H
 have A2:=Aside0.mk A20
 clear A20
 by_cases c3 : t132 = true
 ·subst c3
  have H1 : (if (l0_1.length : Int) = (wrap64 (a0_0 * a0_0)) then ((spec_l1All.f k l0_1).bind fun t133 => (some t133)) else (some false)) = some r:=by rw [if_pos rfl] at H;exact H
  clear H
  have H:=H1
  clear H1
  by_cases c4 : (l0_1.length : Int) = (wrap64 (a0_0 * a0_0))
  ·rw [if_pos c4] at H
   have c4b0 : ((l0_1.length : Int) == (wrap64 (a0_0 * a0_0))) = true:=beq_iff_eq.mpr c4
   have c4b1 : ((l0_1.length : Int) != (wrap64 (a0_0 * a0_0))) = false:=bne_eq_false_iff_eq.mpr c4
   clear c4
   replace H:=Option.bind_eq_some_iff.mp H
   obtain ⟨t133,A50,H⟩:=H
   replace H : (some t133) = some r:=H
   have A5:=Aside0.mk A50
   clear A50
   obtain rfl:=Option.some.inj H
   go_enter Try.func122,Try.ntmps122
   go_wp2_with (first|((with_reducible refine gate_dst (N:=1) rfl ?_);(try (refine gate_guard (by rfl) ?_;dsimp only));refine box_event ?hg (N:=1) ?hd (cs:=#[.int .i64 a0_0,.slice A0_1 l0_1.length c0_1]) (t:=35) ?hr ?_;(case hd => rfl);(case hg => rfl);(case hr => first|(go_simp;done)|(go_simp;rfl));intro gb131 hg w6 hbox hb;have BK131:=Aside0.mk (hbox);have GW131:=Aside0.mk (szg_ hg (below_size (be0_ HB.out)));have GE131:=GW131;replace HB:=Aside0.mk (below_step (be0_ HB.out) hb);clear hb hbox hg;obtain ⟨hcz7_0,hcz7_1,hfz7_0,hfz7_1⟩:=cf2_ BK131.out)|((with_reducible refine gate_callee (f:=90) rfl ?_);refine goesL_ (some 5) rfl rfl Try.func90 (by kernel_rfl) rfl #[.int .i64 a0_0,.int .i64 1,.int .i64 4] rfl lp_ ?_;(with_reducible refine (spec_l1In.calls a0_0 1 4 true _ A2.out).mono ?_);rintro e w' ⟨rfl,⟨nd,rfl⟩⟩;refine ⟨_,rfl,?_⟩)|(go_at_call 159;(with_reducible refine (spec_l1All.calls k _ _ l0_1 t133 _ ?side1 ?side2 A5.out).mono ?_);(case side1 => exact cr_ (Kd.C_below HR0_1.out (be1_ HB.out GE131.out)));(case side2 => exact HC0_1.out);rintro e w' ⟨rfl,⟨nd,rfl⟩⟩))
   go_ret
   exact ⟨er_,be1_ HB.out GE131.out⟩
  ·rw [if_neg c4] at H
   have c4b0 : ((l0_1.length : Int) == (wrap64 (a0_0 * a0_0))) = false:=beq_eq_false_iff_ne.mpr c4
   have c4b1 : ((l0_1.length : Int) != (wrap64 (a0_0 * a0_0))) = true:=bne_iff_ne.mpr c4
   obtain rfl:=Option.some.inj H
   go_enter Try.func122,Try.ntmps122
   go_wp2_with (first|((with_reducible refine gate_dst (N:=1) rfl ?_);(try (refine gate_guard (by rfl) ?_;dsimp only));refine box_event ?hg (N:=1) ?hd (cs:=#[.int .i64 a0_0,.slice A0_1 l0_1.length c0_1]) (t:=35) ?hr ?_;(case hd => rfl);(case hg => rfl);(case hr => first|(go_simp;done)|(go_simp;rfl));intro gb131 hg w8 hbox hb;have BK131:=Aside0.mk (hbox);have GW131:=Aside0.mk (szg_ hg (below_size (be0_ HB.out)));have GE131:=GW131;replace HB:=Aside0.mk (below_step (be0_ HB.out) hb);clear hb hbox hg;obtain ⟨hcz9_0,hcz9_1,hfz9_0,hfz9_1⟩:=cf2_ BK131.out)|((with_reducible refine gate_callee (f:=90) rfl ?_);refine goesL_ (some 5) rfl rfl Try.func90 (by kernel_rfl) rfl #[.int .i64 a0_0,.int .i64 1,.int .i64 4] rfl lp_ ?_;(with_reducible refine (spec_l1In.calls a0_0 1 4 true _ A2.out).mono ?_);rintro e w' ⟨rfl,⟨nd,rfl⟩⟩;refine ⟨_,rfl,?_⟩))
   go_ret
   exact ⟨er_,be1_ HB.out GE131.out⟩
 ·replace c3:=Bool.eq_false_iff.mpr c3
  subst c3
  have H1 : (some false) = some r:=by rw [if_neg (show ¬ (false = true) by decide)] at H;exact H
  clear H
  have H:=H1
  clear H1
  obtain rfl:=Option.some.inj H
  go_enter Try.func122,Try.ntmps122
  go_wp2_with (first|((with_reducible refine gate_dst (N:=1) rfl ?_);(try (refine gate_guard (by rfl) ?_;dsimp only));refine box_event ?hg (N:=1) ?hd (cs:=#[.int .i64 a0_0,.slice A0_1 l0_1.length c0_1]) (t:=35) ?hr ?_;(case hd => rfl);(case hg => rfl);(case hr => first|(go_simp;done)|(go_simp;rfl));intro gb131 hg w10 hbox hb;have BK131:=Aside0.mk (hbox);have GW131:=Aside0.mk (szg_ hg (below_size (be0_ HB.out)));have GE131:=GW131;replace HB:=Aside0.mk (below_step (be0_ HB.out) hb);clear hb hbox hg;obtain ⟨hcz11_0,hcz11_1,hfz11_0,hfz11_1⟩:=cf2_ BK131.out)|((with_reducible refine gate_callee (f:=90) rfl ?_);refine goesL_ (some 5) rfl rfl Try.func90 (by kernel_rfl) rfl #[.int .i64 a0_0,.int .i64 1,.int .i64 4] rfl lp_ ?_;(with_reducible refine (spec_l1In.calls a0_0 1 4 false _ A2.out).mono ?_);rintro e w' ⟨rfl,⟨nd,rfl⟩⟩;refine ⟨_,rfl,?_⟩))
  go_ret
  exact ⟨er_,be1_ HB.out GE131.out⟩
def spec_GradesValid.l0 : Nat → List Int → Int → Int → Int → List Int → Option (Bool)
 | 0,_,_,_,_,_ => none
 | k + 1,x6,x7,x8,x135000,x135001 => if x8 < x7 then (if 0 ≤ x8 then (if x8 < (x6.length : Int) then ((spec_l1In.f (rd x6 x8) 0 3).bind fun t136 => (if t136 = true then (spec_GradesValid.l0 k x6 x7 (wrap64 (x8 + 1)) x135000 x135001) else (some false))) else (none)) else (none)) else ((spec_MatrixValid.f k x135000 x135001).bind fun t137 => (some t137))
def spec_GradesValid.f (k : Nat) (a0_0 : Int) (l0_1 : List Int) : Option (Bool):=spec_GradesValid.l0 k l0_1 (l0_1.length : Int) 0 a0_0 l0_1
theorem spec_GradesValid.mono_l : ∀ k,(∀ y0 y1 y2 y3 y4,LeO (spec_GradesValid.l0 k y0 y1 y2 y3 y4) (spec_GradesValid.l0 (k + 1) y0 y1 y2 y3 y4))
 | 0 => fun _ _ _ _ _ r h => by simp [spec_GradesValid.l0] at h
 | k + 1 => by
  have ih0:=spec_GradesValid.mono_l k
  ·intro y0 y1 y2 y3 y4
   unfold spec_GradesValid.l0
   repeat' first
   | (with_reducible exact ih0 _ _ _ _ _)
   | (with_reducible exact spec_MatrixValid.mono _ _ _)
   | (with_reducible first|exact LeO.refl _|exact LeO.none _|refine LeO.ite ?_ ?_|refine LeO.bind ?_ (fun _ => ?_))
   | exact ih0 _ _ _ _ _
   | exact spec_MatrixValid.mono _ _ _
   | exact LeO.none _
   | refine LeO.ite ?_ ?_
   | refine LeO.bind ?_ (fun _ => ?_)
theorem spec_GradesValid.mono : ∀ a0 a1 k,LeO (spec_GradesValid.f k a0 a1) (spec_GradesValid.f (k + 1) a0 a1):=by
 intro a0 a1 k
 have ih0:=spec_GradesValid.mono_l k
 unfold spec_GradesValid.f
 repeat' first
   | (with_reducible exact ih0 _ _ _ _ _)
   | (with_reducible exact spec_MatrixValid.mono _ _ _)
   | (with_reducible first|exact LeO.refl _|exact LeO.none _|refine LeO.ite ?_ ?_|refine LeO.bind ?_ (fun _ => ?_))
   | exact ih0 _ _ _ _ _
   | exact spec_MatrixValid.mono _ _ _
   | exact LeO.none _
   | refine LeO.ite ?_ ?_
   | refine LeO.bind ?_ (fun _ => ?_)
set_option maxHeartbeats 8000000 in
set_option maxRecDepth 100000 in
theorem spec_GradesValid.calls (k : Nat) (a0_0 : Int) (A0_1 : Option Addr) (c0_1 : Nat) (l0_1 : List Int) (r : Bool) (w : World) (hr0_1 : Kd.C (Kd.int .i64) w A0_1 l0_1.length l0_1) (hc0_1 : l0_1.length ≤ c0_1) (h : spec_GradesValid.f k a0_0 l0_1 = some r) :
  Calls Try.prog 68 #[.agg #[.int .i64 a0_0,.slice A0_1 l0_1.length c0_1]] w fun e w' => e = .returned (.bool r) ∧ Below w.heap.size w w':=by
 have hu35:=Try.underlying35
 have HR0_1:=Aside0.mk hr0_1
 have HC0_1:=Aside0.mk hc0_1
 clear hr0_1 hc0_1
 have HB:=Aside0.mk (Below.refl w.heap.size w)
 have H : (spec_GradesValid.l0 k l0_1 (l0_1.length : Int) 0 a0_0 l0_1) = some r:=h
 clear h
 have H':=Aside0.mk H
 clear H
 go_enter Try.func68,Try.ntmps68
 go_wp2_with (first|((with_reducible refine bev_ (N:=1) rfl rfl (cs:=#[.int .i64 a0_0,.slice A0_1 l0_1.length c0_1]) (t:=35) ?hr ?_);(case hr => first|(go_simp;done)|(go_simp;rfl));intro gb134 hg w2 hbox hb;have BK134:=Aside0.mk (hbox);have GW134:=Aside0.mk (szg_ hg (below_size (be0_ HB.out)));have GE134:=GW134;replace HB:=Aside0.mk (below_step (be0_ HB.out) hb);clear hb hbox hg;obtain ⟨hcz3_0,hcz3_1,hfz3_0,hfz3_1⟩:=cf2_ BK134.out))
 go_loopg [8] k (fun kq v8 w' => ∃ (x8_1 : Int),v8 = .int .i64 x8_1 ∧ Aside0 (spec_GradesValid.l0 kq l0_1 (l0_1.length : Int) x8_1 a0_0 l0_1 = some r) ∧ Aside0 (kq ≤ k) ∧ Aside0 (w'.heap[gb134]? = some (.cells #[.int .i64 a0_0,(.slice A0_1 l0_1.length c0_1)] 35 (0,0))) ∧ Aside0 (Below w.heap.size w w'))
 case atStart => exact ⟨(0),rs_,H',⟨Nat.le_refl _⟩,⟨pe_ BK134.out⟩,⟨be1_ HB.out GE134.out⟩⟩
 case round =>
  clear H'
  try clear p2
  obtain ⟨x8_1,rfl,HA,HK1,BK134,HB⟩:=hrel
  cases gk with
  | zero => exact absurd HA.out (by simp [spec_GradesValid.l0])
  | succ k1 =>
   have H:=HA.out
   clear HA
   simp only [spec_GradesValid.l0] at H
   by_cases c4 : x8_1 < (l0_1.length : Int)
   ·rw [if_pos c4] at H
    have c4b0 : decide (x8_1 < (l0_1.length : Int)) = true:=decide_eq_true c4
    clear c4
    by_cases c5 : 0 ≤ x8_1
    ·rw [if_pos c5] at H
     have c5b0 : decide (0 ≤ x8_1) = true:=decide_eq_true c5
     clear c5
     by_cases c6 : x8_1 < (l0_1.length : Int)
     ·rw [if_pos c6] at H
      have c6b0 : decide (x8_1 < (l0_1.length : Int)) = true:=decide_eq_true c6
      clear c6
      replace H:=Option.bind_eq_some_iff.mp H
      obtain ⟨t136,A70,H⟩:=H
      replace H : (if t136 = true then (spec_GradesValid.l0 k1 l0_1 (l0_1.length : Int) (wrap64 (x8_1 + 1)) a0_0 l0_1) else (some false)) = some r:=H
      have A7:=Aside0.mk A70
      clear A70
      by_cases c8 : t136 = true
      ·subst c8
       have H1 : (spec_GradesValid.l0 k1 l0_1 (l0_1.length : Int) (wrap64 (x8_1 + 1)) a0_0 l0_1) = some r:=by rw [if_pos rfl] at H;exact H
       clear H
       have H:=H1
       clear H1
       have H':=Aside0.mk H
       clear H
       have p135 : 0 ≤ (x8_1 : Int):=od_
       have q135 : x8_1 < (l0_1.length : Int):=od_
       obtain ⟨ad135,e135,hx135_0⟩:=Kd.at_int HR0_1.out x8_1 p135 q135
       cases e135
       replace hx135_0:=hbc_ HB.out hx135_0
       replace p135:=eq_true p135
       replace q135:=eq_true q135
       go_wp2_with (first|((with_reducible refine gate_callee (f:=90) rfl ?_);refine goesL_ (some 13) rfl rfl Try.func90 (by kernel_rfl) rfl #[.int .i64 (rd l0_1 x8_1),.int .i64 0,.int .i64 3] rfl lp_ ?_;(with_reducible refine (spec_l1In.calls (rd l0_1 x8_1) 0 3 true _ A7.out).mono ?_);rintro e w' ⟨rfl,⟨nd,rfl⟩⟩;refine ⟨_,rfl,?_⟩))
       go_roundg k1
       case measure => have:=HK1.out;omega
       case rel => exact ⟨(wrap64 (x8_1 + 1)),rs_,H',⟨by have:=HK1.out;omega⟩,⟨pe_ BK134.out⟩,⟨be1_ HB.out GE134.out⟩⟩
      ·replace c8:=Bool.eq_false_iff.mpr c8
       subst c8
       have H1 : (some false) = some r:=by rw [if_neg (show ¬ (false = true) by decide)] at H;exact H
       clear H
       have H:=H1
       clear H1
       obtain rfl:=Option.some.inj H
       have p135 : 0 ≤ (x8_1 : Int):=od_
       have q135 : x8_1 < (l0_1.length : Int):=od_
       obtain ⟨ad135,e135,hx135_0⟩:=Kd.at_int HR0_1.out x8_1 p135 q135
       cases e135
       replace hx135_0:=hbc_ HB.out hx135_0
       replace p135:=eq_true p135
       replace q135:=eq_true q135
       go_wp2_with (first|((with_reducible refine gate_callee (f:=90) rfl ?_);refine goesL_ (some 13) rfl rfl Try.func90 (by kernel_rfl) rfl #[.int .i64 (rd l0_1 x8_1),.int .i64 0,.int .i64 3] rfl lp_ ?_;(with_reducible refine (spec_l1In.calls (rd l0_1 x8_1) 0 3 false _ A7.out).mono ?_);rintro e w' ⟨rfl,⟨nd,rfl⟩⟩;refine ⟨_,rfl,?_⟩))
       go_ret
       exact ⟨er_,be1_ HB.out GE134.out⟩
     ·rw [if_neg c6] at H
      exact absurd H (by simp)
    ·rw [if_neg c5] at H
     exact absurd H (by simp)
   ·rw [if_neg c4] at H
    have c4b0 : decide (x8_1 < (l0_1.length : Int)) = false:=decide_eq_false c4
    clear c4
    replace H:=Option.bind_eq_some_iff.mp H
    obtain ⟨t137,A90,H⟩:=H
    replace H : (some t137) = some r:=H
    have A9:=Aside0.mk A90
    clear A90
    obtain rfl:=Option.some.inj H
    obtain ⟨hcz10_0,hcz10_1,hfz10_0,hfz10_1⟩:=cf2_ BK134.out
    go_wp2_with (first|((with_reducible refine gate_callee (f:=122) rfl ?_);refine goesL_ (some 17) rfl rfl Try.func122 (by kernel_rfl) rfl #[.agg #[.int .i64 a0_0,.slice A0_1 l0_1.length c0_1]] rfl lp_ ?_;(with_reducible refine (spec_MatrixValid.calls k1 a0_0 _ _ l0_1 t137 _ ?side1 ?side2 A9.out).mono ?_);(case side1 => exact cr_ (Kd.C_below HR0_1.out HB.out));(case side2 => exact HC0_1.out);rintro e w11 ⟨rfl,hb⟩;refine ⟨_,rfl,?_⟩;replace BK134:=kc_ BK134 hb;replace HB:=Aside0.mk (below_step (be1_ HB.out GE134.out) hb);(try clear hb);(try clear hb2);(try clear hk);(try clear hi)))
    go_ret
    exact ⟨er_,be1_ HB.out GE134.out⟩
end Go.Proofs.Ytfmbpoojpnoafaa.X
end
section
namespace Go.Proofs.Ytfmbpoojpnoafaa.Y
open Go.RowKit Go.Proofs.Ytfmbpoojpnoafaa.X Go.Proofs.YtfmbpoojpnoafaaW.PrintWords Go.Proofs.YtfmbpoojpnoafaaW.PrintLast Go.Proofs.YtfmbpoojpnoafaaW.PrintMore
set_option linter.unusedVariables false
set_option linter.unusedSimpArgs false
def okCost (x : Int) : Bool:=decide (0 ≤ x ∧ x ≤ 1000000)
def MV (n : Int) (l : List Int) : Prop:=1 ≤ n ∧ n ≤ 4 ∧ (l.length : Int) = n * n ∧ ∀ x ∈ l,0 ≤ x ∧ x ≤ 1000000
def GV (n : Int) (l : List Int) : Prop:=MV n l ∧ ∀ x ∈ l,x ≤ 3
instance (n : Int) (l : List Int) : Decidable (MV n l):=by unfold MV;infer_instance
instance (n : Int) (l : List Int) : Decidable (GV n l):=by unfold GV;infer_instance
theorem icost (a : Int) : impl_CostValid.f a = some (okCost a):=by
 unfold impl_CostValid.f okCost
 by_cases h : a ≥ 0
 ·rw [if_pos h];by_cases h2 : a ≤ 1000000 <;> simp [h2] <;> omega
 ·rw [if_neg h];simp;omega
theorem scost (a : Int) : spec_CostValid.f a = some (okCost a):=by
 unfold spec_CostValid.f spec_l1In.f okCost
 by_cases h : a ≥ 0
 ·rw [if_pos h];by_cases h2 : a ≤ 1000000 <;> simp [h2] <;> omega
 ·rw [if_neg h];simp;omega
theorem sIn (a lo hi : Int) : spec_l1In.f a lo hi = some (decide (lo ≤ a ∧ a ≤ hi)):=by
 unfold spec_l1In.f
 by_cases h : a ≥ lo
 ·rw [if_pos h];by_cases h2 : a ≤ hi <;> simp [h2] <;> omega
 ·rw [if_neg h];simp;omega
theorem index_ev (q : Int → Bool) (p : Int → Option Bool) (hp : ∀ x,p x = some (q x)) (l : List Int) (h : l.length ≤ maxLen) :
  Ev (fun k => slices_ContainsFunc_int_int.f p k l) (l.any q):=by
 rw [maxLen_eq] at h
 have go : ∀ (t pre : List Int),l = pre ++ t → ∃ z : Int,Ev (fun k => slices_IndexFunc_int_int.l0 p k l (l.length : Int) (pre.length : Int)) z ∧ decide (z ≥ 0) = t.any q:=by
  intro t
  induction t with
  | nil =>
   intro pre hl
   refine ⟨-1,?_,rfl⟩
   refine Ev.step (f:=fun _ => some (-1)) (fun k => ?_) (Ev.now _)
   simp only [slices_IndexFunc_int_int.l0]
   rw [if_neg (by rw [hl];simp)]
  | cons x t ih =>
   intro pre hl
   have hlen : l.length = pre.length + (t.length + 1):=by rw [hl];simp
   have hx : rd l (pre.length : Int) = x:=by rw [hl,rd_mid]
   cases hq : q x with
   | true =>
    refine ⟨pre.length,?_,by simp [hq]⟩
    refine Ev.step (f:=fun _ => some (pre.length : Int)) (fun k => ?_) (Ev.now _)
    simp only [slices_IndexFunc_int_int.l0]
    rw [if_pos (by omega),if_pos (by omega),if_pos (by omega),hx,hp,hq,Option.bind_some,if_pos rfl]
   | false =>
    obtain ⟨z,hz,hd⟩:=ih (pre ++ [x]) (by simp [hl])
    refine ⟨z,?_,by simp [hq,hd]⟩
    refine Ev.step (fun k => ?_) hz
    simp only [slices_IndexFunc_int_int.l0]
    rw [if_pos (by omega),if_pos (by omega),if_pos (by omega),hx,hp,hq,Option.bind_some,if_neg (by simp),w64 (by omega) (by omega),snoc_len]
 obtain ⟨z,hz,hd⟩:=go l [] rfl
 refine Ev.congr (f:=?f1) (fun k => ?h1) ?k1
 case h1 => unfold slices_ContainsFunc_int_int.f slices_IndexFunc_int_int.f;exact rfl
 exact Ev.bind hz (Ev.congr (f:=fun _ => some (l.any q)) (fun k => by rw [hd]) (Ev.now _))
theorem iMV (n : Int) (l : List Int) (hl : l.length ≤ maxLen) : Ev (fun k => impl_MatrixValid.f k n l) (decide (MV n l)):=by
 have no : ∀ f : Nat → Option Bool,(∀ k,f k = some false) → ¬ MV n l → Ev f (decide (MV n l)):=fun f h h2 => (ev_some h).is (by rw [decide_eq_false h2])
 by_cases h1 : n < 1
 ·exact no _ (fun k => by unfold impl_MatrixValid.f;rw [if_pos h1]) (fun h => by unfold MV at h;omega)
 by_cases h2 : n > 4
 ·exact no _ (fun k => by unfold impl_MatrixValid.f;rw [if_neg h1,if_pos h2]) (fun h => by unfold MV at h;omega)
 have hnn : 0 ≤ n * n ∧ n * n ≤ 16:=by
  have : n = 1 ∨ n = 2 ∨ n = 3 ∨ n = 4:=by omega
  rcases this with rfl|rfl|rfl|rfl <;> omega
 by_cases h3 : (l.length : Int) = wrap64 (n * n)
 ·rw [w64 (by omega) (by omega)] at h3
  refine Ev.congr (f:=?f2) (fun k => ?h2) ?k2
  case h2 => unfold impl_MatrixValid.f;rw [if_neg h1,if_neg h2,w64 (x:=n * n) (by omega) (by omega),if_pos h3] <;> exact rfl
  have hq : ∀ x,impl_MatrixValid_1.f x = some (!(okCost x)):=fun x => by unfold impl_MatrixValid_1.f;rw [icost];rfl
  refine Ev.bind (index_ev (fun x => !(okCost x)) _ hq l hl) ?_
  refine (ev_some (fun k => rfl)).is ?_
  rw [Bool.eq_iff_iff]
  simp only [Bool.not_eq_true',List.any_eq_false,Bool.not_eq_true',Bool.not_eq_false,decide_eq_true_eq]
  constructor
  ·intro h;exact ⟨by omega,by omega,h3,fun x hx => by simpa [okCost] using h x hx⟩
  ·intro h x hx;simpa [okCost] using h.2.2.2 x hx
 ·refine no _ (fun k => by unfold impl_MatrixValid.f;rw [if_neg h1,if_neg h2,if_neg h3]) (fun h => ?_)
  rw [w64 (by omega) (by omega)] at h3
  exact h3 h.2.2.1
theorem iGV (n : Int) (l : List Int) (hl : l.length ≤ maxLen) : Ev (fun k => impl_GradesValid.f k n l) (decide (GV n l)):=by
 refine Ev.congr (f:=?f3) (fun k => ?h3) ?k3
 case h3 => unfold impl_GradesValid.f;exact rfl
 refine Ev.bind (iMV n l hl) ?_
 by_cases h : MV n l
 ·refine Ev.congr (f:=?f4) (fun k => ?h4) ?k4
  case h4 => rw [decide_eq_true h,if_pos rfl] <;> exact rfl
  refine Ev.bind (index_ev (fun x => decide (x > 3)) _ (fun x => rfl) l hl) ?_
  refine (ev_some (fun k => rfl)).is ?_
  rw [Bool.eq_iff_iff]
  simp only [Bool.not_eq_true',List.any_eq_false,decide_eq_true_eq]
  exact ⟨fun g => ⟨h,fun x hx => by have:=g x hx;omega⟩,fun g x hx => by have:=g.2 x hx;omega⟩
 ·refine (ev_some (fun k => ?_)).is (by rw [decide_eq_false (fun g : GV n l => h g.1)])
  rw [decide_eq_false h];rfl
theorem sAll_ev (l : List Int) (h : l.length ≤ maxLen) : Ev (fun k => spec_l1All.f k l) (l.all okCost):=by
 rw [maxLen_eq] at h
 have go : ∀ (t pre : List Int),l = pre ++ t → Ev (fun k => spec_l1All.l0 k l (l.length : Int) (pre.length : Int)) (t.all okCost):=by
  intro t
  induction t with
  | nil =>
   intro pre hl
   refine Ev.step (f:=fun _ => some true) (fun k => ?_) (Ev.now _)
   simp only [spec_l1All.l0];rw [if_neg (by rw [hl];simp)]
  | cons x t ih =>
   intro pre hl
   have hlen : l.length = pre.length + (t.length + 1):=by rw [hl];simp
   have hx : rd l (pre.length : Int) = x:=by rw [hl,rd_mid]
   cases hq : okCost x with
   | true =>
    refine Ev.step (fun k => ?_) ((ih (pre ++ [x]) (by simp [hl])).is (by simp [hq]))
    simp only [spec_l1All.l0]
    rw [if_pos (by omega),if_pos (by omega),if_pos (by omega),hx,scost,hq,Option.bind_some,if_pos rfl,w64 (by omega) (by omega),snoc_len]
   | false =>
    refine Ev.step (f:=fun _ => some false) (fun k => ?_) ((Ev.now _).is (by simp [hq]))
    simp only [spec_l1All.l0]
    rw [if_pos (by omega),if_pos (by omega),if_pos (by omega),hx,scost,hq,Option.bind_some,if_neg (by simp)]
 exact go l [] rfl
theorem sMV (n : Int) (l : List Int) (hl : l.length ≤ maxLen) : Ev (fun k => spec_MatrixValid.f k n l) (decide (MV n l)):=by
 have no : ∀ f : Nat → Option Bool,(∀ k,f k = some false) → ¬ MV n l → Ev f (decide (MV n l)):=fun f h h2 => (ev_some h).is (by rw [decide_eq_false h2])
 by_cases h1 : 1 ≤ n ∧ n ≤ 4
 ·have hnn : 0 ≤ n * n ∧ n * n ≤ 16:=by
   have : n = 1 ∨ n = 2 ∨ n = 3 ∨ n = 4:=by omega
   rcases this with rfl|rfl|rfl|rfl <;> omega
  by_cases h3 : (l.length : Int) = n * n
  ·refine Ev.congr (f:=?f5) (fun k => ?h5) ?k5
   case h5 => unfold spec_MatrixValid.f;rw [sIn,decide_eq_true h1,Option.bind_some,if_pos rfl,w64 (x:=n * n) (by omega) (by omega),if_pos h3] <;> exact rfl
   refine Ev.bind (sAll_ev l hl) ((ev_some (fun k => rfl)).is ?_)
   rw [Bool.eq_iff_iff]
   simp only [List.all_eq_true,decide_eq_true_eq]
   exact ⟨fun g => ⟨h1.1,h1.2,h3,fun x hx => by simpa [okCost] using g x hx⟩,fun g x hx => by simpa [okCost] using g.2.2.2 x hx⟩
  ·exact no _ (fun k => by unfold spec_MatrixValid.f;rw [sIn,decide_eq_true h1,Option.bind_some,if_pos rfl,w64 (x:=n * n) (by omega) (by omega),if_neg h3]) (fun h => h3 h.2.2.1)
 ·exact no _ (fun k => by unfold spec_MatrixValid.f;rw [sIn,decide_eq_false h1];rfl) (fun h => h1 ⟨h.1,h.2.1⟩)
theorem sGV (n : Int) (l : List Int) (hl : l.length ≤ maxLen) : Ev (fun k => spec_GradesValid.f k n l) (decide (GV n l)):=by
 have hm:=hl
 rw [maxLen_eq] at hm
 have go : ∀ (t pre : List Int),l = pre ++ t → Ev (fun k => spec_GradesValid.l0 k l (l.length : Int) (pre.length : Int) n l) (decide ((∀ x ∈ t,0 ≤ x ∧ x ≤ 3) ∧ MV n l)):=by
  intro t
  induction t with
  | nil =>
   intro pre hp
   refine Ev.step (f:=?f6) (fun k => ?h6) ?k6
   case h6 => simp only [spec_GradesValid.l0];rw [if_neg (by rw [hp];simp)] <;> exact rfl
   exact Ev.bind (sMV n l hl) ((ev_some (fun k => rfl)).is (by simp))
  | cons x t ih =>
   intro pre hp
   have hlen : l.length = pre.length + (t.length + 1):=by rw [hp];simp
   have hx : rd l (pre.length : Int) = x:=by rw [hp,rd_mid]
   by_cases hq : 0 ≤ x ∧ x ≤ 3
   ·refine Ev.step (fun k => ?_) ((ih (pre ++ [x]) (by simp [hp])).is ?_)
    ·simp only [spec_GradesValid.l0]
     rw [if_pos (by omega),if_pos (by omega),if_pos (by omega),hx,sIn,decide_eq_true hq,Option.bind_some,if_pos rfl,w64 (by omega) (by omega),snoc_len]
    ·simp [hq.1,hq.2]
   ·refine Ev.step (f:=fun _ => some false) (fun k => ?_) ((Ev.now _).is ?_)
    ·simp only [spec_GradesValid.l0]
     rw [if_pos (by omega),if_pos (by omega),if_pos (by omega),hx,sIn,decide_eq_false hq,Option.bind_some,if_neg (by simp)]
    ·symm;rw [decide_eq_false_iff_not];intro h;exact hq (h.1 x (by simp))
 refine (go l [] rfl).is ?_
 rw [Bool.eq_iff_iff]
 simp only [decide_eq_true_eq]
 exact ⟨fun h => ⟨h.2,fun x hx => (h.1 x hx).2⟩,fun h => ⟨fun x hx => ⟨(h.1.2.2.2 x hx).1,h.2 x hx⟩,h.1⟩⟩
theorem rdS_mid (pre : List S92) (x : S92) (t : List S92) : rd_T92 (pre ++ x :: t) (pre.length : Int) = x:=by simp [rd_T92,List.getD_eq_getElem?_getD]
theorem snocA {α : Type} (pre : List α) (x : α) : (((pre ++ [x]).length : Nat) : Int) = (pre.length : Int) + 1:=by simp
def mrk (n : Int) : Option Int → List Int → Bool
 | _,[] => true
 | p,x :: t => decide (0 ≤ x ∧ x < n) && (match p with|none => true|some y => decide (y < x)) && mrk n (some x) t
def stepOk (n : Int) (s : S92) : Bool:=decide (0 ≤ s.f0 ∧ s.f0 < n ∧ 0 ≤ s.f2 ∧ s.f2 < n ∧ 0 ≤ s.f3 ∧ s.f3 ≤ 3 ∧ (s.f1.toList = ([97] : List UInt8) ∨ s.f1.toList = ([98] : List UInt8)))
def bef (s t : S92) : Bool:=if s.f0 = t.f0 then (if s.f1.toList = t.f1.toList then decide (s.f2 < t.f2) else Op.bytesLess s.f1.toList t.f1.toList) else decide (s.f0 < t.f0)
def stp (n : Int) : Option S92 → List S92 → Bool
 | _,[] => true
 | p,x :: t => stepOk n x && (match p with|none => true|some y => bef y x) && stp n (some x) t
def AV (n : Int) (s f : List Int) (t : List S92) : Bool:=decide (1 ≤ n ∧ n ≤ 4 ∧ t.length ≤ 24) && mrk n none s && mrk n none f && stp n none t
theorem iMarks (n : Int) (l : List Int) (h : l.length ≤ 1000000000) : Ev (fun k => impl_statesOk.f k l n) (mrk n none l):=by
 have go : ∀ (t pre : List Int),l = pre ++ t → Ev (fun k => impl_statesOk.l0 k l n l (l.length : Int) (pre.length : Int)) (mrk n pre.getLast? t):=by
  intro t
  induction t with
  | nil =>
   intro pre hl
   refine Ev.step (f:=fun _ => some true) (fun k => ?_) (Ev.now _)
   simp only [impl_statesOk.l0];rw [if_neg (by rw [hl];simp)]
  | cons x t ih =>
   intro pre hl
   have hlen : l.length = pre.length + (t.length + 1):=by rw [hl];simp
   have hx : rd l (pre.length : Int) = x:=by rw [hl,rd_mid]
   have i1:=ih (pre ++ [x]) (by simp [hl])
   rw [List.getLast?_concat,snoc_len] at i1
   by_cases h0 : x < 0
   ·refine Ev.step (f:=fun _ => some false) (fun k => ?_) ((Ev.now _).is ?_)
    ·simp only [impl_statesOk.l0];rw [if_pos (by omega),if_pos (by omega),if_pos (by omega),hx,if_pos h0]
    ·simp only [mrk];rw [decide_eq_false (by omega)];rfl
   by_cases h1 : x ≥ n
   ·refine Ev.step (f:=fun _ => some false) (fun k => ?_) ((Ev.now _).is ?_)
    ·simp only [impl_statesOk.l0];rw [if_pos (by omega),if_pos (by omega),if_pos (by omega),hx,if_neg h0,if_pos h1]
    ·simp only [mrk];rw [decide_eq_false (by omega)];rfl
   rcases List.eq_nil_or_concat pre with rfl | ⟨q,y,rfl⟩
   ·refine Ev.step (fun k => ?_) (i1.is ?_)
    ·simp only [impl_statesOk.l0];rw [if_pos (by omega),if_pos (by omega),if_pos (by omega),hx,if_neg h0,if_neg h1,if_neg (by simp),w64 (by omega) (by omega)]
    ·simp only [mrk,List.getLast?_nil];rw [decide_eq_true (by omega)];rfl
   ·rw [List.concat_eq_append] at *
    have e : wrap64 (((q ++ [y]).length : Int) - 1) = (q.length : Int):=by rw [snoc_len,w64 (by omega) (by rw [List.length_append] at hlen;omega)];omega
    have hy : rd l (q.length : Int) = y:=by rw [hl,List.append_assoc];exact rd_mid q y (x :: t)
    have hq:=hlen
    rw [List.length_append,List.length_singleton] at hq
    by_cases h2 : y ≥ x
    ·refine Ev.step (f:=fun _ => some false) (fun k => ?_) ((Ev.now _).is ?_)
     ·simp only [impl_statesOk.l0];rw [if_pos (by omega),if_pos (by omega),if_pos (by omega),hx,if_neg h0,if_neg h1,if_pos (by rw [snoc_len];omega),e,if_pos (by omega),if_pos (by omega),hy,if_pos h2]
     ·simp only [mrk,List.getLast?_concat];rw [decide_eq_false (p:=y < x) (by omega)];simp
    ·refine Ev.step (fun k => ?_) (i1.is ?_)
     ·simp only [impl_statesOk.l0];rw [if_pos (by omega),if_pos (by omega),if_pos (by omega),hx,if_neg h0,if_neg h1,if_pos (by rw [snoc_len];omega),e,if_pos (by omega),if_pos (by omega),hy,if_neg h2,w64 (by omega) (by omega)]
     ·simp only [mrk,List.getLast?_concat];rw [decide_eq_true (p:=y < x) (by omega),decide_eq_true (by omega)];rfl
 exact go l [] rfl
theorem sMarks (n : Int) (hn : 1 ≤ n ∧ n ≤ 4) (l : List Int) (h : l.length ≤ 1000000000) : Ev (fun k => spec_l3Marks.f k n l) (mrk n none l):=by
 have go : ∀ (t pre : List Int),l = pre ++ t → Ev (fun k => spec_l3Marks.l0 k n l l (l.length : Int) (pre.length : Int)) (mrk n pre.getLast? t):=by
  intro t
  induction t with
  | nil =>
   intro pre hl
   refine Ev.step (f:=fun _ => some true) (fun k => ?_) (Ev.now _)
   simp only [spec_l3Marks.l0];rw [if_neg (by rw [hl];simp)]
  | cons x t ih =>
   intro pre hl
   have hlen : l.length = pre.length + (t.length + 1):=by rw [hl];simp
   have hx : rd l (pre.length : Int) = x:=by rw [hl,rd_mid]
   have i1:=ih (pre ++ [x]) (by simp [hl])
   rw [List.getLast?_concat,snoc_len] at i1
   have hw : wrap64 (n - 1) = n - 1:=w64 (by omega) (by omega)
   by_cases h0 : 0 ≤ x ∧ x < n
   case neg =>
    refine Ev.step (f:=fun _ => some false) (fun k => ?_) ((Ev.now _).is ?_)
    ·simp only [spec_l3Marks.l0];rw [if_pos (by omega),if_pos (by omega),if_pos (by omega),hx,sIn,hw,decide_eq_false (by omega),Option.bind_some,if_neg (by simp)]
    ·simp only [mrk];rw [decide_eq_false h0];rfl
   have hd : decide (0 ≤ x ∧ x ≤ n - 1) = true:=decide_eq_true (by omega)
   rcases List.eq_nil_or_concat pre with rfl | ⟨q,y,rfl⟩
   ·refine Ev.step (fun k => ?_) (i1.is ?_)
    ·simp only [spec_l3Marks.l0];rw [if_pos (by omega),if_pos (by omega),if_pos (by omega),hx,sIn,hw,hd,Option.bind_some,if_pos rfl,if_neg (by simp),w64 (by omega) (by omega)]
    ·simp only [mrk,List.getLast?_nil];rw [decide_eq_true h0];rfl
   ·rw [List.concat_eq_append] at *
    have e : wrap64 (((q ++ [y]).length : Int) - 1) = (q.length : Int):=by rw [snoc_len,w64 (by omega) (by rw [List.length_append] at hlen;omega)];omega
    have hy : rd l (q.length : Int) = y:=by rw [hl,List.append_assoc];exact rd_mid q y (x :: t)
    have hq:=hlen
    rw [List.length_append,List.length_singleton] at hq
    by_cases h2 : y ≥ x
    ·refine Ev.step (f:=fun _ => some false) (fun k => ?_) ((Ev.now _).is ?_)
     ·simp only [spec_l3Marks.l0];rw [if_pos (by omega),if_pos (by omega),if_pos (by omega),hx,sIn,hw,hd,Option.bind_some,if_pos rfl,if_pos (by rw [snoc_len];omega),e,if_pos (by omega),if_pos (by omega),hy,if_pos h2]
     ·simp only [mrk,List.getLast?_concat];rw [decide_eq_false (p:=y < x) (by omega)];simp
    ·refine Ev.step (fun k => ?_) (i1.is ?_)
     ·simp only [spec_l3Marks.l0];rw [if_pos (by omega),if_pos (by omega),if_pos (by omega),hx,sIn,hw,hd,Option.bind_some,if_pos rfl,if_pos (by rw [snoc_len];omega),e,if_pos (by omega),if_pos (by omega),hy,if_neg h2,w64 (by omega) (by omega)]
     ·simp only [mrk,List.getLast?_concat];rw [decide_eq_true (p:=y < x) (by omega),decide_eq_true h0];rfl
 exact go l [] rfl
def cmp0 (a b : Int) : Int:=if a < b then -1 else if a > b then 1 else 0
def ordL (s t : S92) : Int:=if cmp0 s.f0 t.f0 = 0 then (if Lib.compareBytes s.f1.data.toList t.f1.data.toList = 0 then cmp0 s.f2 t.f2 else Lib.compareBytes s.f1.data.toList t.f1.data.toList) else cmp0 s.f0 t.f0
theorem cmp_eq (a b : Int) : cmp_Compare_int.f a b = some (cmp0 a b):=by
 unfold cmp_Compare_int.f cmp_isNaN_int.f cmp0
 simp only [bne_self_eq_false,Option.bind_some,Bool.false_eq_true,if_false]
 by_cases h : a < b
 ·rw [if_pos h,if_pos h]
 ·rw [if_neg h,if_neg h];by_cases h2 : a > b
  ·rw [if_pos h2,if_pos h2]
  ·rw [if_neg h2,if_neg h2]
theorem cmpOr_ev (l : List Int) (h : l.length ≤ 1000000000) : Ev (fun k => cmp_Or_int.f k l) ((l.find? (· != 0)).getD 0):=by
 have go : ∀ (t pre : List Int),l = pre ++ t → Ev (fun k => cmp_Or_int.l0 k 0 l (l.length : Int) (pre.length : Int)) ((t.find? (· != 0)).getD 0):=by
  intro t
  induction t with
  | nil =>
   intro pre hl
   refine Ev.step (f:=fun _ => some 0) (fun k => ?_) (Ev.now _)
   simp only [cmp_Or_int.l0];rw [if_neg (by rw [hl];simp)]
  | cons x t ih =>
   intro pre hl
   have hlen : l.length = pre.length + (t.length + 1):=by rw [hl];simp
   have hx : rd l (pre.length : Int) = x:=by rw [hl,rd_mid]
   have i1:=ih (pre ++ [x]) (by simp [hl])
   rw [snoc_len] at i1
   by_cases h0 : x = 0
   ·refine Ev.step (fun k => ?_) (i1.is ?_)
    ·simp only [cmp_Or_int.l0];rw [if_pos (by omega),if_pos (by omega),if_pos (by omega),hx,if_pos h0,w64 (by omega) (by omega)]
    ·simp [List.find?_cons,h0]
   ·refine Ev.step (f:=fun _ => some x) (fun k => ?_) ((Ev.now _).is ?_)
    ·simp only [cmp_Or_int.l0];rw [if_pos (by omega),if_pos (by omega),if_pos (by omega),hx,if_neg h0]
    ·simp [List.find?_cons,h0]
 exact go l [] rfl
theorem iOrder (s t : S92) : Ev (fun k => impl_stepOrder.f k s.f0 s.f1 s.f2 s.f3 t.f0 t.f1 t.f2 t.f3) (ordL s t):=by
 refine Ev.congr (f:=?f1) (fun k => ?h1) ?k1
 case h1 => unfold impl_stepOrder.f strings_Compare.f bytealg_CompareString.f;rw [cmp_eq,cmp_eq,Option.bind_some,Option.bind_some,Option.bind_some,Option.bind_some] <;> exact rfl
 refine (Ev.bind (cmpOr_ev _ (by simp)) (Ev.now _)).is ?_
 unfold ordL
 by_cases h : cmp0 s.f0 t.f0 = 0
 ·by_cases h2 : Lib.compareBytes s.f1.data.toList t.f1.data.toList = 0
  ·by_cases h3 : cmp0 s.f2 t.f2 = 0 <;> simp [List.find?_cons,h,h2,h3]
  ·simp [List.find?_cons,h,h2]
 ·simp [List.find?_cons,h]
theorem sBefore (s t : S92) : spec_l3Before.f s.f0 s.f1 s.f2 s.f3 t.f0 t.f1 t.f2 t.f3 = some (bef s t):=by
 unfold spec_l3Before.f bef
 by_cases h : s.f0 = t.f0
 ·rw [if_pos h,if_pos h];by_cases h2 : s.f1.toList = t.f1.toList
  ·rw [if_pos h2,if_pos h2]
  ·rw [if_neg h2,if_neg h2]
 ·rw [if_neg h,if_neg h]
theorem cmp0_lt {a b : Int} : cmp0 a b < 0 ↔ a < b:=by
 unfold cmp0
 by_cases h : a < b
 ·simp [h]
 ·by_cases h2 : a > b <;> simp [h,h2]
theorem cmp0_eq {a b : Int} : cmp0 a b = 0 ↔ a = b:=by
 unfold cmp0
 by_cases h : a < b
 ·rw [if_pos h];omega
 ·by_cases h2 : a > b
  ·rw [if_neg h,if_pos h2];omega
  ·rw [if_neg h,if_neg h2];omega
theorem ord_bef {n : Int} {s t : S92} (hs : stepOk n s = true) (ht : stepOk n t = true) : ordL s t < 0 ↔ bef s t = true:=by
 unfold stepOk at hs ht
 have hs:=of_decide_eq_true hs
 have ht:=of_decide_eq_true ht
 unfold ordL bef
 have e1:=toList_L s.f1
 have e2:=toList_L t.f1
 unfold L at e1 e2
 rw [← e1,← e2]
 by_cases h : s.f0 = t.f0
 ·rw [if_pos (cmp0_eq.mpr h),if_pos h]
  rcases hs.2.2.2.2.2.2 with a|a <;> rcases ht.2.2.2.2.2.2 with b|b <;> rw [a,b]
  ·rw [if_pos rfl,show Lib.compareBytes ([97] : List UInt8) [97] = 0 by decide,if_pos rfl,cmp0_lt,decide_eq_true_eq]
  ·rw [if_neg (show ¬ Lib.compareBytes ([97] : List UInt8) [98] = 0 by decide),if_neg (by decide)];decide
  ·rw [if_neg (show ¬ Lib.compareBytes ([98] : List UInt8) [97] = 0 by decide),if_neg (by decide)];decide
  ·rw [if_pos rfl,show Lib.compareBytes ([98] : List UInt8) [98] = 0 by decide,if_pos rfl,cmp0_lt,decide_eq_true_eq]
 ·rw [if_neg (fun g => h (cmp0_eq.mp g)),if_neg h,cmp0_lt,decide_eq_true_eq]
theorem iSteps (n : Int) (s f : List Int) (t : List S92) (h : t.length ≤ 1000000000) : Ev (fun k => impl_AutomatonValid.l0 k t (t.length : Int) 0 n s f t) (stp n none t):=by
 have go : ∀ (u pre : List S92),t = pre ++ u → (∀ y,pre.getLast? = some y → stepOk n y = true) → Ev (fun k => impl_AutomatonValid.l0 k t (t.length : Int) (pre.length : Int) n s f t) (stp n pre.getLast? u):=by
  intro u
  induction u with
  | nil =>
   intro pre hl _
   refine Ev.step (f:=fun _ => some true) (fun k => ?_) (Ev.now _)
   simp only [impl_AutomatonValid.l0];rw [if_neg (by rw [hl];simp)]
  | cons x u ih =>
   intro pre hl hp
   have hlen : t.length = pre.length + (u.length + 1):=by rw [hl];simp
   have hx : rd_T92 t (pre.length : Int) = x:=by rw [hl,rdS_mid]
   have tail : stepOk n x = true → Ev (fun k => if (pre.length : Int) > 0 then (if 0 ≤ (wrap64 ((pre.length : Int) - 1)) then (if (wrap64 ((pre.length : Int) - 1)) < (t.length : Int) then ((impl_stepOrder.f k ((rd_T92 t (wrap64 ((pre.length : Int) - 1))).f0) ((rd_T92 t (wrap64 ((pre.length : Int) - 1))).f1) ((rd_T92 t (wrap64 ((pre.length : Int) - 1))).f2) ((rd_T92 t (wrap64 ((pre.length : Int) - 1))).f3) x.f0 x.f1 x.f2 x.f3).bind fun z => (if z ≥ 0 then (some false) else (impl_AutomatonValid.l0 k t (t.length : Int) (wrap64 ((pre.length : Int) + 1)) n s f t))) else none) else none) else (impl_AutomatonValid.l0 k t (t.length : Int) (wrap64 ((pre.length : Int) + 1)) n s f t)) (stp n pre.getLast? (x :: u)):=by
    intro hok
    have i1:=ih (pre ++ [x]) (by simp [hl]) (fun y hy => by rw [List.getLast?_concat] at hy;obtain rfl:=Option.some.inj hy;exact hok)
    rw [List.getLast?_concat,snocA] at i1
    have ew : wrap64 ((pre.length : Int) + 1) = (pre.length : Int) + 1:=w64 (by omega) (by omega)
    rw [ew]
    rcases List.eq_nil_or_concat pre with rfl | ⟨q,y,rfl⟩
    ·refine Ev.congr (fun k => by rw [if_neg (by simp)] <;> exact rfl) (i1.is ?_)
     simp only [stp,List.getLast?_nil,hok,Bool.true_and]
    ·rw [List.concat_eq_append] at *
     have hq:=hlen
     rw [List.length_append,List.length_singleton] at hq
     have e : wrap64 (((q ++ [y]).length : Int) - 1) = (q.length : Int):=by rw [snocA,w64 (by omega) (by omega)];omega
     have hy : rd_T92 t (q.length : Int) = y:=by rw [hl,List.append_assoc];exact rdS_mid q y (x :: u)
     have hoy : stepOk n y = true:=hp y (by rw [List.getLast?_concat])
     refine Ev.congr (f:=?f2) (fun k => ?h2) ?k2
     case h2 => rw [e,if_pos (by rw [snocA];omega),if_pos (by omega),if_pos (by omega),hy] <;> exact rfl
     refine Ev.bind (iOrder y x) ?_
     by_cases hb : bef y x = true
     ·refine Ev.congr (fun k => if_neg (by have:=(ord_bef hoy hok).mpr hb;omega)) (i1.is ?_)
      simp only [stp,List.getLast?_concat,hok,hb,Bool.true_and]
     ·refine Ev.congr (f:=fun _ => some false) (fun k => if_pos (Int.not_lt.mp fun h => hb ((ord_bef hoy hok).mp h))) ((Ev.now _).is ?_)
      simp only [stp,List.getLast?_concat,hok,Bool.true_and]
      rw [Bool.not_eq_true] at hb
      rw [hb];rfl
   by_cases hok : stepOk n x = true
   ·have ho:=of_decide_eq_true (show decide _ = true from hok)
    refine Ev.step (fun k => ?_) (tail hok)
    simp only [impl_AutomatonValid.l0]
    rw [if_pos (by omega),if_pos (by omega),if_pos (by omega),hx,if_neg (by omega),if_neg (by omega),if_neg (by omega),if_neg (by omega)]
    rcases ho.2.2.2.2.2.2 with a|a
    ·rw [if_pos a,if_neg (by omega),if_neg (by omega)]
    ·rw [if_neg (by rw [a];decide),if_pos a,if_neg (by omega),if_neg (by omega)]
   ·refine Ev.step (f:=fun _ => some false) (fun k => ?_) ((Ev.now _).is ?_)
    ·simp only [impl_AutomatonValid.l0]
     rw [if_pos (by omega),if_pos (by omega),if_pos (by omega),hx]
     by_cases a1 : x.f0 < 0
     ·rw [if_pos a1]
     by_cases a2 : x.f0 ≥ n
     ·rw [if_neg a1,if_pos a2]
     by_cases a3 : x.f2 < 0
     ·rw [if_neg a1,if_neg a2,if_pos a3]
     by_cases a4 : x.f2 ≥ n
     ·rw [if_neg a1,if_neg a2,if_neg a3,if_pos a4]
     rw [if_neg a1,if_neg a2,if_neg a3,if_neg a4]
     by_cases b1 : x.f1.toList = ([97] : List UInt8)
     ·rw [if_pos b1]
      by_cases a5 : x.f3 < 0
      ·rw [if_pos a5]
      by_cases a6 : x.f3 > 3
      ·rw [if_neg a5,if_pos a6]
      exact absurd (show stepOk n x = true from decide_eq_true ⟨by omega,by omega,by omega,by omega,by omega,by omega,.inl b1⟩) hok
     ·rw [if_neg b1]
      by_cases b2 : x.f1.toList = ([98] : List UInt8)
      ·rw [if_pos b2]
       by_cases a5 : x.f3 < 0
       ·rw [if_pos a5]
       by_cases a6 : x.f3 > 3
       ·rw [if_neg a5,if_pos a6]
       exact absurd (show stepOk n x = true from decide_eq_true ⟨by omega,by omega,by omega,by omega,by omega,by omega,.inr b2⟩) hok
      ·rw [if_neg b2]
    ·rw [Bool.not_eq_true] at hok
     simp only [stp,hok,Bool.false_and]
 exact go t [] rfl (fun y hy => by simp at hy)
theorem sStepOk (n : Int) (hn : 1 ≤ n ∧ n ≤ 4) (x : S92) : spec_l3Step.f n x.f0 x.f1 x.f2 x.f3 = some (stepOk n x):=by
 unfold spec_l3Step.f stepOk
 rw [sIn,sIn,sIn,w64 (x:=n - 1) (by omega) (by omega),Option.bind_some]
 by_cases a1 : 0 ≤ x.f0 ∧ x.f0 ≤ n - 1
 ·rw [decide_eq_true a1,if_pos rfl,Option.bind_some]
  by_cases a2 : 0 ≤ x.f2 ∧ x.f2 ≤ n - 1
  ·rw [decide_eq_true a2,if_pos rfl,Option.bind_some]
   by_cases a3 : 0 ≤ x.f3 ∧ x.f3 ≤ 3
   ·rw [decide_eq_true a3,if_pos rfl]
    by_cases b : x.f1.toList = ([97] : List UInt8)
    ·rw [if_pos b,decide_eq_true (by refine ⟨?_,?_,?_,?_,?_,?_,.inl b⟩ <;> omega)]
    ·rw [if_neg b]
     by_cases b2 : x.f1.toList = ([98] : List UInt8)
     ·rw [b2,decide_eq_true (by refine ⟨?_,?_,?_,?_,?_,?_,.inr rfl⟩ <;> omega)];rfl
     ·rw [decide_eq_false (by intro g;rcases g.2.2.2.2.2.2 with c|c;exact b c;exact b2 c),beq_eq_false_iff_ne.mpr b2]
   ·rw [decide_eq_false a3,if_neg (by simp),decide_eq_false (by omega)]
  ·rw [decide_eq_false a2,if_neg (by simp),decide_eq_false (by omega)]
 ·rw [decide_eq_false a1,if_neg (by simp),decide_eq_false (by omega)]
theorem sSteps (n : Int) (hn : 1 ≤ n ∧ n ≤ 4) (s f : List Int) (t : List S92) (h : t.length ≤ 1000000000) : Ev (fun k => spec_AutomatonValid.l0 k t (t.length : Int) 0 n s f t) (stp n none t):=by
 have go : ∀ (u pre : List S92),t = pre ++ u → Ev (fun k => spec_AutomatonValid.l0 k t (t.length : Int) (pre.length : Int) n s f t) (stp n pre.getLast? u):=by
  intro u
  induction u with
  | nil =>
   intro pre hl
   refine Ev.step (f:=fun _ => some true) (fun k => ?_) (Ev.now _)
   simp only [spec_AutomatonValid.l0];rw [if_neg (by rw [hl];simp)]
  | cons x u ih =>
   intro pre hl
   have hlen : t.length = pre.length + (u.length + 1):=by rw [hl];simp
   have hx : rd_T92 t (pre.length : Int) = x:=by rw [hl,rdS_mid]
   have i1:=ih (pre ++ [x]) (by simp [hl])
   rw [List.getLast?_concat,snocA] at i1
   by_cases hok : stepOk n x = true
   ·rcases List.eq_nil_or_concat pre with rfl | ⟨q,y,rfl⟩
    ·refine Ev.step (fun k => ?_) (i1.is ?_)
     ·simp only [spec_AutomatonValid.l0];rw [if_pos (by omega),if_pos (by omega),if_pos (by omega),hx,sStepOk n hn,hok,Option.bind_some,if_pos rfl,if_neg (by simp),w64 (by omega) (by omega)]
     ·simp only [stp,List.getLast?_nil,hok,Bool.true_and]
    ·rw [List.concat_eq_append] at *
     have hq:=hlen
     rw [List.length_append,List.length_singleton] at hq
     have e : wrap64 (((q ++ [y]).length : Int) - 1) = (q.length : Int):=by rw [snocA,w64 (by omega) (by omega)];omega
     have hy : rd_T92 t (q.length : Int) = y:=by rw [hl,List.append_assoc];exact rdS_mid q y (x :: u)
     by_cases hb : bef y x = true
     ·refine Ev.step (fun k => ?_) (i1.is ?_)
      ·simp only [spec_AutomatonValid.l0];rw [if_pos (by omega),if_pos (by omega),if_pos (by omega),hx,sStepOk n hn,hok,Option.bind_some,if_pos rfl,if_pos (by rw [snocA];omega),e,if_pos (by omega),if_pos (by omega),hy,sBefore,hb,Option.bind_some,if_pos rfl,w64 (by omega) (by omega)]
      ·simp only [stp,List.getLast?_concat,hok,hb,Bool.true_and]
     ·rw [Bool.not_eq_true] at hb
      refine Ev.step (f:=fun _ => some false) (fun k => ?_) ((Ev.now _).is ?_)
      ·simp only [spec_AutomatonValid.l0];rw [if_pos (by omega),if_pos (by omega),if_pos (by omega),hx,sStepOk n hn,hok,Option.bind_some,if_pos rfl,if_pos (by rw [snocA];omega),e,if_pos (by omega),if_pos (by omega),hy,sBefore,hb,Option.bind_some,if_neg (by simp)]
      ·simp only [stp,List.getLast?_concat,hok,hb,Bool.true_and];rfl
   ·rw [Bool.not_eq_true] at hok
    refine Ev.step (f:=fun _ => some false) (fun k => ?_) ((Ev.now _).is ?_)
    ·simp only [spec_AutomatonValid.l0];rw [if_pos (by omega),if_pos (by omega),if_pos (by omega),hx,sStepOk n hn,hok,Option.bind_some,if_neg (by simp)]
    ·simp only [stp,hok,Bool.false_and]
 exact go t [] rfl
theorem iAV (n : Int) (s f : List Int) (t : List S92) (hs : s.length ≤ 1000000000) (hf : f.length ≤ 1000000000) (ht : t.length ≤ 1000000000) : Ev (fun k => impl_AutomatonValid.f k n s f t) (AV n s f t):=by
 have bad : ∀ g : Nat → Option Bool,(∀ k,g k = impl_AutomatonValid.j0 k true n s f t) → AV n s f t = false → Ev g (AV n s f t):=fun g hg he => Ev.congr hg ((Ev.step (f:=fun _ => some false) (fun k => by simp only [impl_AutomatonValid.j0];rw [if_pos trivial]) (Ev.now _)).is he.symm)
 by_cases h1 : n < 1
 ·exact bad _ (fun k => by unfold impl_AutomatonValid.f;rw [if_pos h1]) (by unfold AV;rw [decide_eq_false (by omega)];rfl)
 by_cases h2 : n > 4
 ·exact bad _ (fun k => by unfold impl_AutomatonValid.f;rw [if_neg h1,if_pos h2]) (by unfold AV;rw [decide_eq_false (by omega)];rfl)
 by_cases h3 : (t.length : Int) > 24
 ·exact bad _ (fun k => by unfold impl_AutomatonValid.f;rw [if_neg h1,if_neg h2,if_pos h3]) (by unfold AV;rw [decide_eq_false (by omega)];rfl)
 have hd : decide (1 ≤ n ∧ n ≤ 4 ∧ t.length ≤ 24) = true:=decide_eq_true (by omega)
 refine Ev.congr (f:=?f3) (fun k => ?h3) ?k3
 case h3 => unfold impl_AutomatonValid.f;rw [if_neg h1,if_neg h2,if_neg h3] <;> exact rfl
 refine Ev.bind (iMarks n s hs) ?_
 by_cases g1 : mrk n none s = true
 case neg =>
  exact bad _ (fun k => by rw [if_neg g1]) (by unfold AV;rw [Bool.not_eq_true] at g1;rw [g1];simp)
 refine Ev_t g1 ?_
 refine Ev.bind (iMarks n f hf) ?_
 by_cases g2 : mrk n none f = true
 case neg =>
  rw [Bool.not_eq_true] at g2
  exact bad _ (fun k => by rw [g2];rfl) (by unfold AV;rw [g2];simp)
 refine Ev.step (fun k => by rw [g2];simp only [impl_AutomatonValid.j0];rw [if_neg (by simp)]) ((iSteps n s f t ht).is ?_)
 unfold AV;rw [hd,g1,g2];rfl
theorem sAV (n : Int) (s f : List Int) (t : List S92) (hs : s.length ≤ 1000000000) (hf : f.length ≤ 1000000000) (ht : t.length ≤ 1000000000) : Ev (fun k => spec_AutomatonValid.f k n s f t) (AV n s f t):=by
 have bad : ∀ g : Nat → Option Bool,(∀ k,g k = spec_AutomatonValid.j0 k true n s f t) → AV n s f t = false → Ev g (AV n s f t):=fun g hg he => Ev.congr hg ((Ev.step (f:=fun _ => some false) (fun k => by simp only [spec_AutomatonValid.j0];rw [if_pos trivial]) (Ev.now _)).is he.symm)
 by_cases h1 : 1 ≤ n ∧ n ≤ 4
 case neg => exact bad _ (fun k => by unfold spec_AutomatonValid.f;rw [sIn,decide_eq_false h1,Option.bind_some,if_neg (by simp)]) (by unfold AV;rw [decide_eq_false (by omega)];rfl)
 refine Ev.congr (f:=?f4) (fun k => ?h4) ?k4
 case h4 => unfold spec_AutomatonValid.f;rw [sIn,decide_eq_true h1,Option.bind_some,if_pos rfl] <;> exact rfl
 refine Ev.bind (sMarks n h1 s hs) ?_
 by_cases g1 : mrk n none s = true
 case neg =>
  exact bad _ (fun k => by rw [if_neg g1]) (by unfold AV;rw [Bool.not_eq_true] at g1;rw [g1];simp)
 refine Ev_t g1 ?_
 refine Ev.bind (sMarks n h1 f hf) ?_
 by_cases g2 : mrk n none f = true
 case neg =>
  exact bad _ (fun k => by rw [if_neg g2]) (by unfold AV;rw [Bool.not_eq_true] at g2;rw [g2];simp)
 refine Ev_t g2 ?_
 by_cases h3 : (t.length : Int) > 24
 ·exact bad _ (fun k => by rw [decide_eq_true h3]) (by unfold AV;rw [decide_eq_false (by omega)];rfl)
 refine Ev.step (fun k => by rw [decide_eq_false h3];simp only [spec_AutomatonValid.j0];rw [if_neg (by simp)]) ((sSteps n h1 s f t ht).is ?_)
 unfold AV;rw [decide_eq_true (by omega),g1,g2];rfl
theorem mrk_mem {n : Int} : ∀ {l : List Int} {p : Option Int},mrk n p l = true → ∀ x ∈ l,0 ≤ x ∧ x < n
 | [],_,_,x,hx => by cases hx
 | y :: t,p,h,x,hx => by
  simp only [mrk,Bool.and_eq_true,decide_eq_true_eq] at h
  rcases List.mem_cons.mp hx with rfl|hx
  ·exact h.1.1
  ·exact mrk_mem h.2 x hx
theorem cellZ {n i k : Int} (hn : 1 ≤ n ∧ n ≤ 4) (hi : 0 ≤ i ∧ i < n) (hk : 0 ≤ k ∧ k < n) : 0 ≤ i * n + k ∧ i * n + k < n * n ∧ i * n + k ≤ 16 ∧ 0 ≤ i * n ∧ i * n ≤ 16:=by
 have h1 : n = 1 ∨ n = 2 ∨ n = 3 ∨ n = 4:=by omega
 rcases h1 with rfl|rfl|rfl|rfl <;> omega
theorem cellW {n i k : Int} (hn : 1 ≤ n ∧ n ≤ 4) (hi : 0 ≤ i ∧ i < n) (hk : 0 ≤ k ∧ k < n) : wrap64 (wrap64 (i * n) + k) = i * n + k:=by
 have c:=cellZ hn hi hk
 rw [w64 (x:=i * n) (by omega) (by omega),w64 (by omega) (by omega)]
theorem AV_parts {n : Int} {s f : List Int} {t : List S92} (h : AV n s f t = true) : (1 ≤ n ∧ n ≤ 4) ∧ t.length ≤ 24 ∧ mrk n none s = true ∧ mrk n none f = true ∧ stp n none t = true:=by
 simp only [AV,Bool.and_eq_true,decide_eq_true_eq] at h
 exact ⟨⟨h.1.1.1.1,h.1.1.1.2.1⟩,h.1.1.1.2.2,h.1.1.2,h.1.2,h.2⟩
def cvS (x : S118) : S92:=⟨x.f0,x.f1,x.f2,x.f3⟩
theorem rdL_mid (pre : List S118) (x : S118) (t : List S118) : rd_T118 (pre ++ x :: t) (pre.length : Int) = x:=by simp [rd_T118,List.getD_eq_getElem?_getD]
theorem toStepS_ev (l : List S118) (h : l.length ≤ 1048576) : Ev (fun k => laws_toStepS.f k l) (l.map cvS):=by
 have go : ∀ (t pre : List S118),l = pre ++ t → Ev (fun k => laws_toStepS.l0 k l (pre.map cvS ++ List.replicate t.length z92) (pre.length : Int)) (l.map cvS):=by
  intro t
  induction t with
  | nil =>
   intro pre hl
   refine Ev.step (f:=fun _ => some (l.map cvS)) (fun k => ?_) (Ev.now _)
   simp only [laws_toStepS.l0]
   rw [if_neg (by rw [hl];simp)]
   simp [hl]
  | cons x t ih =>
   intro pre hl
   have hlen : l.length = pre.length + (t.length + 1):=by rw [hl];simp
   have hx : rd_T118 l (pre.length : Int) = x:=by rw [hl,rdL_mid]
   refine Ev.step (fun k => ?_) (ih (pre ++ [x]) (by simp [hl]))
   simp only [laws_toStepS.l0,laws_toStep.f]
   rw [if_pos (by omega),if_pos (by omega),hx,Option.bind_some,if_pos (by simp;omega),w64 (by omega) (by omega),snocA]
   congr 1
   simp [List.replicate_succ,List.set_append,cvS]
 refine Ev.congr (fun k => ?_) (go l [] rfl)
 unfold laws_toStepS.f
 rw [if_pos (by omega),if_pos (by omega)]
 simp
theorem eqStepS_ev (a : List S92) (h : a.length ≤ 1000000000) : Ev (fun k => laws_eqStepS.f k a a) true:=by
 have go : ∀ (t pre : List S92),a = pre ++ t → Ev (fun k => laws_eqStepS.l0 k a a (pre.length : Int)) true:=by
  intro t
  induction t with
  | nil =>
   intro pre hl
   refine Ev.step (f:=fun _ => some true) (fun k => ?_) (Ev.now _)
   simp only [laws_eqStepS.l0]
   rw [if_neg (by rw [hl];simp)]
  | cons x t ih =>
   intro pre hl
   have hlen : a.length = pre.length + (t.length + 1):=by rw [hl];simp
   have hx : rd_T92 a (pre.length : Int) = x:=by rw [hl,rdS_mid]
   refine Ev.step (fun k => ?_) (ih (pre ++ [x]) (by simp [hl]))
   simp only [laws_eqStepS.l0,laws_eqStep.f]
   rw [if_pos (by omega),if_pos (by omega),if_pos (by omega)]
   simp only [if_true,Option.bind_some]
   rw [w64 (by omega) (by omega),snocA]
 refine Ev.congr (fun k => ?_) (go a [] rfl)
 unfold laws_eqStepS.f
 rw [if_pos rfl];rfl
theorem toAutomaton_ev (n : Int) (s f : List Int) (t : List S118) (hs : s.length ≤ 1048576) (hf : f.length ≤ 1048576) (ht : t.length ≤ 1048576) : Ev (fun k => laws_toAutomaton.f k n s f t) (n,s,f,t.map cvS):=by
 refine Ev.congr (f:=?f1) (fun k => ?h1) ?k1
 case h1 => unfold laws_toAutomaton.f;exact rfl
 exact Ev.bind (toIntS_ev s hs) (Ev.bind (toIntS_ev f hf) (Ev.bind (toStepS_ev t ht) (Ev.now _)))
theorem eqAutomaton_ev (n : Int) (s f : List Int) (t : List S92) (hs : s.length ≤ 1000000000) (hf : f.length ≤ 1000000000) (ht : t.length ≤ 1000000000) : Ev (fun k => laws_eqAutomaton.f k n s f t n s f t) true:=by
 refine Ev.congr (f:=?f2) (fun k => ?h2) ?k2
 case h2 => unfold laws_eqAutomaton.f;rw [if_pos rfl] <;> exact rfl
 refine Ev.bind (eqIntS_ev s s hs) (Ev_t (by simp) (Ev.bind (eqIntS_ev f f hf) (Ev_t (by simp) (Ev.bind (eqStepS_ev t ht) (Ev_t rfl (Ev.now _))))))
theorem szIntS_eq (l : List Int) (z : Int) (h : l.length ≤ maxLen) (h0 : 0 ≤ z) (h1 : z ≤ 1048576) : laws_szIntS.f l z = some (if (l.length : Int) ≤ z then z - l.length else -1):=by
 rw [maxLen_eq] at h
 unfold laws_szIntS.f
 rw [w64 (by omega) (by omega)]
 by_cases hl : (l.length : Int) ≤ z
 ·rw [if_neg (by omega),if_pos hl]
 ·rw [if_pos (by omega),if_neg hl]
theorem szStepS_ev (l : List S118) (h : l.length ≤ maxLen) (hx : ∀ x ∈ l,x.f1.size ≤ maxLen) (z : Int) (h0 : 0 ≤ z) (h1 : z ≤ 1048576) : ∃ r : Int,Ev (fun k => laws_szStepS.f k l z) r ∧ (r < 0 ∨ (0 ≤ r ∧ r ≤ z ∧ l.length ≤ z)):=by
 rw [maxLen_eq] at h
 by_cases hl : (l.length : Int) ≤ z
 ·have go : ∀ (t pre : List S118) (y : Int),l = pre ++ t → 0 ≤ y → y ≤ z → ∃ r : Int,Ev (fun k => laws_szStepS.l0 k l y (pre.length : Int)) r ∧ (r < 0 ∨ (0 ≤ r ∧ r ≤ z)):=by
   intro t
   induction t with
   | nil =>
    intro pre y hp hy hz
    refine ⟨y,Ev.step (f:=fun _ => some y) (fun k => ?_) (Ev.now _),.inr ⟨hy,hz⟩⟩
    simp only [laws_szStepS.l0]
    rw [if_neg (by rw [hp];simp)]
   | cons x t ih =>
    intro pre y hp hy hz
    have hlen : l.length = pre.length + (t.length + 1):=by rw [hp];simp
    have hr : rd_T118 l (pre.length : Int) = x:=by rw [hp,rdL_mid]
    have hm:=hx x (by rw [hp];simp)
    rw [maxLen_eq] at hm
    have hw : wrap64 (y - (x.f1.size : Int)) = y - x.f1.size:=w64 (by omega) (by omega)
    by_cases hq : y - x.f1.size < 0
    ·refine ⟨-1,Ev.step (f:=fun _ => some (-1)) (fun k => ?_) (Ev.now _),.inl (by omega)⟩
     simp only [laws_szStepS.l0,laws_szStep.f]
     rw [if_pos (by omega),if_pos (by omega),hr,hw,if_pos hq,Option.bind_some,if_pos (by omega)]
    ·obtain ⟨r,e,c⟩:=ih (pre ++ [x]) (y - x.f1.size) (by simp [hp]) (by omega) (by omega)
     refine ⟨r,Ev.step (fun k => ?_) e,c⟩
     simp only [laws_szStepS.l0,laws_szStep.f]
     rw [if_pos (by omega),if_pos (by omega),hr,hw,if_neg hq,Option.bind_some,if_neg hq,w64 (by omega) (by omega),snocA]
  obtain ⟨r,e,c⟩:=go l [] (z - l.length) rfl (by omega) (by omega)
  refine ⟨r,Ev.congr (fun k => ?_) e,c.imp id (fun c => ⟨c.1,c.2,by omega⟩)⟩
  unfold laws_szStepS.f
  rw [w64 (by omega) (by omega),if_neg (by omega)];rfl
 ·refine ⟨-1,Ev.congr (f:=fun _ => some (-1)) (fun k => ?_) (Ev.now _),.inl (by omega)⟩
  unfold laws_szStepS.f
  rw [w64 (by omega) (by omega),if_pos (by omega)]
theorem szAutomaton_ev (n : Int) (s f : List Int) (t : List S118) (hs : s.length ≤ maxLen) (hf : f.length ≤ maxLen) (ht : t.length ≤ maxLen) (hx : ∀ x ∈ t,x.f1.size ≤ maxLen) (z : Int) (h0 : 0 ≤ z) (h1 : z ≤ 1048576) :
  ∃ r : Int,Ev (fun k => laws_szAutomaton.f k n s f t z) r ∧ (r < 0 ∨ (0 ≤ r ∧ r ≤ z ∧ s.length ≤ 1048576 ∧ f.length ≤ 1048576 ∧ t.length ≤ 1048576)):=by
 by_cases a1 : (s.length : Int) ≤ z
 case neg => exact ⟨-1,Ev.congr (f:=fun _ => some (-1)) (fun k => by unfold laws_szAutomaton.f;rw [szIntS_eq s z hs h0 h1,if_neg a1,Option.bind_some,if_pos (by omega)]) (Ev.now _),.inl (by omega)⟩
 by_cases a2 : (f.length : Int) ≤ z - s.length
 case neg => exact ⟨-1,Ev.congr (f:=fun _ => some (-1)) (fun k => by unfold laws_szAutomaton.f;rw [szIntS_eq s z hs h0 h1,if_pos a1,Option.bind_some,if_neg (by omega),szIntS_eq f _ hf (by omega) (by omega),if_neg a2,Option.bind_some,if_pos (by omega)]) (Ev.now _),.inl (by omega)⟩
 obtain ⟨r,e,c⟩:=szStepS_ev t ht hx (z - s.length - f.length) (by omega) (by omega)
 by_cases hr : r < 0
 ·refine ⟨-1,Ev.congr (f:=?f3) (fun k => ?h3) ?k3,.inl (by omega)⟩
  case h3 => unfold laws_szAutomaton.f;rw [szIntS_eq s z hs h0 h1,if_pos a1,Option.bind_some,if_neg (by omega),szIntS_eq f _ hf (by omega) (by omega),if_pos a2,Option.bind_some,if_neg (by omega)] <;> exact rfl
  exact Ev.bind e (Ev_t hr (Ev.now _))
 ·have c:=c.resolve_left hr
  refine ⟨r,Ev.congr (f:=?f4) (fun k => ?h4) ?k4,.inr ⟨c.1,by omega,by omega,by omega,by omega⟩⟩
  case h4 => unfold laws_szAutomaton.f;rw [szIntS_eq s z hs h0 h1,if_pos a1,Option.bind_some,if_neg (by omega),szIntS_eq f _ hf (by omega) (by omega),if_pos a2,Option.bind_some,if_neg (by omega)] <;> exact rfl
  exact Ev.bind e (Ev_f hr (Ev.now _))
end Go.Proofs.Ytfmbpoojpnoafaa.Y
end
