import Derived.Test.YtfmbpoojpnoafaaKFnExactValueOf1
import Derived.Test.YtfmbpoojpnoafaaKFnExactValueOf4
import Derived.Test.YtfmbpoojpnoafaaKFnExactValueOf2
import Derived.Test.YtfmbpoojpnoafaaKFnExactValueOf3
import Derived.Deep.Slices
import Derived.Deep.Fields
import Derived.ChangeSame
import Derived.Lib.SmallJoins
import Derived.ChangeSlices
section
namespace Go.Proofs.Ytfmbpoojpnoafaa.X
open Go.RowKit Go.Proofs.YtfmbpoojpnoafaaW.PrintWords Go.Proofs.YtfmbpoojpnoafaaW.PrintLast Go.Proofs.YtfmbpoojpnoafaaW.PrintMore
attribute [local go_sem] max2_int min2_int max_two min_two max_three min_three max_four min_four
set_option linter.unusedVariables false
set_option linter.unusedSimpArgs false
mutual
def spec_l7Value.l0 : Nat → ByteArray → Int → List Int → List Int → List (S92) → Int → List Int → Option (Int × List Int × Bool)
 | 0,_,_,_,_,_,_,_ => none
 | k + 1,x1,x641000,x641001,x641002,x641003,x651000,x651001 => if x1.toList = ([] : List UInt8) then (some (x651000,x651001,true)) else ((spec_l7Next.f k x1).bind fun bt651 => (if bt651.2.1 = true then ((spec_l7Value.f k x641000 x641001 x641002 x641003 bt651.1).bind fun bt655 => (if bt655.2.2 = true then ((spec_l6Idempotent.f k bt655.1 bt655.2.1).bind fun t661 => (spec_l7Value.j1 k bt651.2.2 (!t661) x641000 x641001 x641002 x641003 x651000 x651001 bt655.1 bt655.2.1)) else (spec_l7Value.j1 k bt651.2.2 true x641000 x641001 x641002 x641003 x651000 x651001 bt655.1 bt655.2.1))) else ((spec_l3Matrix.f k x641000 x641001 x641002 x641003 bt651.1).bind fun bt670 => ((spec_l6Grades.f k bt670.1 bt670.2).bind fun bt674 => ((spec_l6Mul.f k x651000 x651001 bt674.1 bt674.2).bind fun bt678 => (spec_l7Value.l0 k bt651.2.2 x641000 x641001 x641002 x641003 bt678.1 bt678.2))))))
def spec_l7Value.j1 : Nat → ByteArray → Bool → Int → List Int → List Int → List (S92) → Int → List Int → Int → List Int → Option (Int × List Int × Bool)
 | 0,_,_,_,_,_,_,_,_,_,_ => none
 | k + 1,x9,x39,x641000,x641001,x641002,x641003,x651000,x651001,x661000,x661001 => if x39 = true then (some (0,([] : List Int),false)) else ((spec_l6Stable.f k x661000 x661001).bind fun bt662 => ((spec_l6Mul.f k x651000 x651001 bt662.1 bt662.2).bind fun bt666 => (spec_l7Value.l0 k x9 x641000 x641001 x641002 x641003 bt666.1 bt666.2)))
def spec_l7Value.f : Nat → Int → List Int → List Int → List (S92) → ByteArray → Option (Int × List Int × Bool)
 | 0,_,_,_,_,_ => none
 | k + 1,a0_0,l0_1,l0_2,l0_3,a1 => (spec_l2Unit.f k a0_0).bind fun bt642 => ((spec_l6Grades.f k bt642.1 bt642.2).bind fun bt646 => (spec_l7Value.l0 k a1 a0_0 l0_1 l0_2 l0_3 bt646.1 bt646.2))
end
theorem spec_l7Value.mono_l : ∀ k,(∀ y0 y1 y2 y3 y4,LeO (spec_l7Value.f k y0 y1 y2 y3 y4) (spec_l7Value.f (k + 1) y0 y1 y2 y3 y4)) ∧ (∀ y0 y1 y2 y3 y4 y5 y6,LeO (spec_l7Value.l0 k y0 y1 y2 y3 y4 y5 y6) (spec_l7Value.l0 (k + 1) y0 y1 y2 y3 y4 y5 y6)) ∧ (∀ y0 y1 y2 y3 y4 y5 y6 y7 y8 y9,LeO (spec_l7Value.j1 k y0 y1 y2 y3 y4 y5 y6 y7 y8 y9) (spec_l7Value.j1 (k + 1) y0 y1 y2 y3 y4 y5 y6 y7 y8 y9))
 | 0 => ⟨fun _ _ _ _ _ r h => by simp [spec_l7Value.f] at h,fun _ _ _ _ _ _ _ r h => by simp [spec_l7Value.l0] at h,fun _ _ _ _ _ _ _ _ _ _ r h => by simp [spec_l7Value.j1] at h⟩
 | k + 1 => by
  obtain ⟨ih0,ih1,ih2⟩:=spec_l7Value.mono_l k
  refine ⟨?_,?_,?_⟩
  ·intro y0 y1 y2 y3 y4
   unfold spec_l7Value.f
   repeat' first
   | (with_reducible exact ih0 _ _ _ _ _)
   | (with_reducible exact ih1 _ _ _ _ _ _ _)
   | (with_reducible exact ih2 _ _ _ _ _ _ _ _ _ _)
   | (with_reducible exact spec_l2Unit.mono _ _)
   | (with_reducible exact spec_l3Matrix.mono _ _ _ _ _ _)
   | (with_reducible exact spec_l6Grades.mono _ _ _)
   | (with_reducible exact spec_l6Idempotent.mono _ _ _)
   | (with_reducible exact spec_l6Mul.mono _ _ _ _ _)
   | (with_reducible exact spec_l6Stable.mono _ _ _)
   | (with_reducible exact spec_l7Next.mono _ _)
   | (with_reducible first|exact LeO.refl _|exact LeO.none _|refine LeO.ite ?_ ?_|refine LeO.bind ?_ (fun _ => ?_))
   | exact ih0 _ _ _ _ _
   | exact ih1 _ _ _ _ _ _ _
   | exact ih2 _ _ _ _ _ _ _ _ _ _
   | exact spec_l2Unit.mono _ _
   | exact spec_l3Matrix.mono _ _ _ _ _ _
   | exact spec_l6Grades.mono _ _ _
   | exact spec_l6Idempotent.mono _ _ _
   | exact spec_l6Mul.mono _ _ _ _ _
   | exact spec_l6Stable.mono _ _ _
   | exact spec_l7Next.mono _ _
   | exact LeO.none _
   | refine LeO.ite ?_ ?_
   | refine LeO.bind ?_ (fun _ => ?_)
  ·intro y0 y1 y2 y3 y4 y5 y6
   unfold spec_l7Value.l0
   repeat' first
   | (with_reducible exact ih0 _ _ _ _ _)
   | (with_reducible exact ih1 _ _ _ _ _ _ _)
   | (with_reducible exact ih2 _ _ _ _ _ _ _ _ _ _)
   | (with_reducible exact spec_l2Unit.mono _ _)
   | (with_reducible exact spec_l3Matrix.mono _ _ _ _ _ _)
   | (with_reducible exact spec_l6Grades.mono _ _ _)
   | (with_reducible exact spec_l6Idempotent.mono _ _ _)
   | (with_reducible exact spec_l6Mul.mono _ _ _ _ _)
   | (with_reducible exact spec_l6Stable.mono _ _ _)
   | (with_reducible exact spec_l7Next.mono _ _)
   | (with_reducible first|exact LeO.refl _|exact LeO.none _|refine LeO.ite ?_ ?_|refine LeO.bind ?_ (fun _ => ?_))
   | exact ih0 _ _ _ _ _
   | exact ih1 _ _ _ _ _ _ _
   | exact ih2 _ _ _ _ _ _ _ _ _ _
   | exact spec_l2Unit.mono _ _
   | exact spec_l3Matrix.mono _ _ _ _ _ _
   | exact spec_l6Grades.mono _ _ _
   | exact spec_l6Idempotent.mono _ _ _
   | exact spec_l6Mul.mono _ _ _ _ _
   | exact spec_l6Stable.mono _ _ _
   | exact spec_l7Next.mono _ _
   | exact LeO.none _
   | refine LeO.ite ?_ ?_
   | refine LeO.bind ?_ (fun _ => ?_)
  ·intro y0 y1 y2 y3 y4 y5 y6 y7 y8 y9
   unfold spec_l7Value.j1
   repeat' first
   | (with_reducible exact ih0 _ _ _ _ _)
   | (with_reducible exact ih1 _ _ _ _ _ _ _)
   | (with_reducible exact ih2 _ _ _ _ _ _ _ _ _ _)
   | (with_reducible exact spec_l2Unit.mono _ _)
   | (with_reducible exact spec_l3Matrix.mono _ _ _ _ _ _)
   | (with_reducible exact spec_l6Grades.mono _ _ _)
   | (with_reducible exact spec_l6Idempotent.mono _ _ _)
   | (with_reducible exact spec_l6Mul.mono _ _ _ _ _)
   | (with_reducible exact spec_l6Stable.mono _ _ _)
   | (with_reducible exact spec_l7Next.mono _ _)
   | (with_reducible first|exact LeO.refl _|exact LeO.none _|refine LeO.ite ?_ ?_|refine LeO.bind ?_ (fun _ => ?_))
   | exact ih0 _ _ _ _ _
   | exact ih1 _ _ _ _ _ _ _
   | exact ih2 _ _ _ _ _ _ _ _ _ _
   | exact spec_l2Unit.mono _ _
   | exact spec_l3Matrix.mono _ _ _ _ _ _
   | exact spec_l6Grades.mono _ _ _
   | exact spec_l6Idempotent.mono _ _ _
   | exact spec_l6Mul.mono _ _ _ _ _
   | exact spec_l6Stable.mono _ _ _
   | exact spec_l7Next.mono _ _
   | exact LeO.none _
   | refine LeO.ite ?_ ?_
   | refine LeO.bind ?_ (fun _ => ?_)
theorem spec_l7Value.mono : ∀ a0 a1 a2 a3 a4 k,LeO (spec_l7Value.f k a0 a1 a2 a3 a4) (spec_l7Value.f (k + 1) a0 a1 a2 a3 a4):=by
 intro a0 a1 a2 a3 a4 k
 obtain ⟨ih0,ih1,ih2⟩:=spec_l7Value.mono_l k
 exact ih0 a0 a1 a2 a3 a4
set_option maxHeartbeats 8000000 in
set_option maxRecDepth 100000 in
theorem spec_l7Value.calls (k : Nat) : ∀ (a0_0 : Int) (A0_1 : Option Addr) (c0_1 : Nat) (l0_1 : List Int) (A0_2 : Option Addr) (c0_2 : Nat) (l0_2 : List Int) (A0_3 : Option Addr) (c0_3 : Nat) (l0_3 : List (S92)) (a1 : ByteArray) (r1 : Int) (r2 : List Int) (r3 : Bool) (w : World) (hr0_1 : Kd.C (Kd.int .i64) w A0_1 l0_1.length l0_1) (hc0_1 : l0_1.length ≤ c0_1) (hr0_2 : Kd.C (Kd.int .i64) w A0_2 l0_2.length l0_2) (hc0_2 : l0_2.length ≤ c0_2) (hr0_3 : Kd.C k92 w A0_3 l0_3.length l0_3) (hc0_3 : l0_3.length ≤ c0_3) (h : spec_l7Value.f k a0_0 l0_1 l0_2 l0_3 a1 = some (r1,r2,r3)),
  Calls Try.prog 87 #[.agg #[.int .i64 a0_0,.slice A0_1 l0_1.length c0_1,.slice A0_2 l0_2.length c0_2,.slice A0_3 l0_3.length c0_3],.string a1] w fun e w' => ∃ v1_ : Value,e = .returned (.tuple #[.agg #[.int .i64 r1,v1_],.bool r3]) ∧ Kd.R (Kd.int .i64) 3 w' w.heap.size (fun _ => True) v1_ r2 ∧ Below w.heap.size w w':=by
 induction k using Nat.strongRecOn with
 | _ k ih =>
 intro a0_0 A0_1 c0_1 l0_1 A0_2 c0_2 l0_2 A0_3 c0_3 l0_3 a1 r1 r2 r3 w hr0_1 hc0_1 hr0_2 hc0_2 hr0_3 hc0_3 h
 cases k with
 | zero => exact absurd h (by simp [spec_l7Value.f])
 | succ k =>
 simp only [spec_l7Value.f] at h
 have hu33:=Try.underlying33
 have hu35:=Try.underlying35
 have HR0_1:=Aside0.mk hr0_1
 have HC0_1:=Aside0.mk hc0_1
 clear hr0_1 hc0_1
 have HR0_2:=Aside0.mk hr0_2
 have HC0_2:=Aside0.mk hc0_2
 clear hr0_2 hc0_2
 have HR0_3:=Aside0.mk hr0_3
 have HC0_3:=Aside0.mk hc0_3
 clear hr0_3 hc0_3
 have HB:=Aside0.mk (Below.refl w.heap.size w)
 have H : ((spec_l2Unit.f k a0_0).bind fun bt642 => ((spec_l6Grades.f k bt642.1 bt642.2).bind fun bt646 => (spec_l7Value.l0 k a1 a0_0 l0_1 l0_2 l0_3 bt646.1 bt646.2))) = some (r1,r2,r3):=h
 clear h
 replace H:=Option.bind_eq_some_iff.mp H
 obtain ⟨⟨t642,t643⟩,A30,H⟩:=H
 replace H : ((spec_l6Grades.f k t642 t643).bind fun bt646 => (spec_l7Value.l0 k a1 a0_0 l0_1 l0_2 l0_3 bt646.1 bt646.2)) = some (r1,r2,r3):=H
 have A3:=Aside0.mk A30
 clear A30
 replace H:=Option.bind_eq_some_iff.mp H
 obtain ⟨⟨t646,t647⟩,A40,H⟩:=H
 replace H : (spec_l7Value.l0 k a1 a0_0 l0_1 l0_2 l0_3 t646 t647) = some (r1,r2,r3):=H
 have A4:=Aside0.mk A40
 clear A40
 have H':=Aside0.mk H
 clear H
 go_enter Try.func87,Try.ntmps87
 go_wp2_with (first|((with_reducible refine bev_ (N:=2) rfl rfl (cs:=#[.int .i64 a0_0,.slice A0_1 l0_1.length c0_1,.slice A0_2 l0_2.length c0_2,.slice A0_3 l0_3.length c0_3]) (t:=33) ?hr ?_);(case hr => first|(go_simp;done)|(go_simp;rfl));intro gb640 hg w5 hbox hb;have BK640:=Aside0.mk (hbox);have GW640:=gw0_ hg HB;have GE640:=GW640;replace HB:=hs0_ HB hb;clear hb hbox hg)|((with_reducible refine bev_ (N:=4) rfl rfl (cs:=#[.int .i64 0,.slice none 0 0]) (t:=35) ?hr ?_);(case hr => first|(go_simp;done)|(go_simp;rfl));intro gb641 hg w6 hbox hb;have BK641:=Aside0.mk (hbox);have GW641:=gw1_ hg HB GE640;have GE641:=GW641;replace HB:=hs1_ HB GE640 hb;have NB640_641:=nm_ hg BK640;have NB641_640:=nn_ hg BK640;replace BK640:=kc_ BK640 hb;clear hb hbox hg;have hnb7:=NB640_641.out;have hnc7:=NB641_640.out;obtain ⟨hcz8_0,hcz8_1,hcz8_2,hcz8_3,hfz8_0,hfz8_1,hfz8_2,hfz8_3⟩:=cf4_ BK640.out)|((with_reducible refine gate_callee (f:=131) rfl ?_);refine goesL_ (some 15) rfl rfl Try.func131 (by kernel_rfl) rfl #[.int .i64 a0_0] rfl lp_ ?_;(with_reducible refine (spec_l2Unit.calls k a0_0 t642 t643 _ A3.out).mono ?_);rintro e w9 ⟨v644,rfl,ho0,hb⟩;refine ⟨_,rfl,?_⟩;have HO645:=Aside0.mk (Kd.R_lower ho0 (below_size (be2_ HB.out GE640.out GE641.out)));replace BK640:=kc_ BK640 hb;replace BK641:=kc_ BK641 hb;replace HB:=hs2_ HB GE640 GE641 hb;(try clear hb);(try clear hb2);(try clear hk);(try clear hi);(try clear ho0);obtain ⟨Ao10,co10,eo10⟩:=Kd.R_slice HO645.out;subst eo10)|((with_reducible refine gate_callee (f:=142) rfl ?_);refine goesL_ (some 16) rfl rfl Try.func142 (by kernel_rfl) rfl #[.agg #[.int .i64 t642,.slice Ao10 t643.length co10]] rfl lp_ ?_;(with_reducible refine (spec_l6Grades.calls k t642 _ _ t643 t646 t647 _ ?side1 ?side2 A4.out).mono ?_);(case side1 => exact cr_ (Kd.R_reads' HO645.out).2.2);(case side2 => exact (Kd.R_reads' HO645.out).2.1);rintro e w11 ⟨v648,rfl,ho0,hb⟩;refine ⟨_,rfl,?_⟩;have HO649:=Aside0.mk (Kd.R_lower (Kd.R_new' ho0 (Kd.R_lt (pr_ HO645.out))) (below_size (be2_ HB.out GE640.out GE641.out)));replace HO645:=Aside0.mk (Kd.R_elder' (pr_ HO645.out) (Kd.R_base ho0) hb);replace BK640:=kc_ BK640 hb;replace BK641:=kc_ BK641 hb;replace HB:=hs2_ HB GE640 GE641 hb;(try clear hb);(try clear hb2);(try clear hk);(try clear hi);(try clear ho0))|((with_reducible refine bev_ (N:=6) rfl rfl (cs:=#[.int .i64 0,.slice none 0 0]) (t:=35) ?hr ?_);(case hr => first|(go_simp;done)|(go_simp;rfl));intro gb650 hg w12 hbox hb;replace HO645:=Aside0.mk (Kd.R_below (pr_ HO645.out) hb);replace HO649:=Aside0.mk (Kd.R_below (pr_ HO649.out) hb);have BK650:=Aside0.mk (hbox);have GW650:=gw2_ hg HB GE640 GE641;have GE650:=GW650;replace HB:=hs2_ HB GE640 GE641 hb;have NB640_650:=nm_ hg BK640;have NB650_640:=nn_ hg BK640;replace BK640:=kc_ BK640 hb;have NB641_650:=nm_ hg BK641;have NB650_641:=nn_ hg BK641;replace BK641:=kc_ BK641 hb;clear hb hbox hg;have hnb13:=NB650_640.out;have hnc13:=NB640_650.out;have hnb14:=NB650_641.out;have hnc14:=NB641_650.out;obtain ⟨hcz15_0,hcz15_1,hfz15_0,hfz15_1⟩:=cf2_ BK650.out;obtain ⟨Ao16,co16,eo16⟩:=Kd.R_slice HO649.out;subst eo16))
 go_loopg [1] k (fun kq v1 w' => ∃ (x1_1 : ByteArray) (x642000_1 : Int) (x651000_1 : Int) (x651001_1 : List Int) (u651001 : Value),v1 = .string x1_1 ∧ Aside0 (spec_l7Value.l0 kq x1_1 a0_0 l0_1 l0_2 l0_3 x651000_1 x651001_1 = some (r1,r2,r3)) ∧ Aside0 (kq ≤ k) ∧ Aside0 (Kd.R (Kd.int .i64) 3 w' w.heap.size (fun _ => True) u651001 x651001_1) ∧ Aside0 (w'.heap[gb640]? = some (.cells #[.int .i64 a0_0,(.slice A0_1 l0_1.length c0_1),(.slice A0_2 l0_2.length c0_2),(.slice A0_3 l0_3.length c0_3)] 33 (0,0))) ∧ Aside0 (w'.heap[gb641]? = some (.cells #[.int .i64 x642000_1,(.slice none 0 0)] 35 (0,0))) ∧ Aside0 (w'.heap[gb650]? = some (.cells #[.int .i64 x651000_1,u651001] 35 (0,0))) ∧ Aside0 (Below w.heap.size w w'))
 case atStart => exact ⟨(a1),(0),(t646),(t647),(.slice Ao16 t647.length co16),rs_,H',⟨Nat.le_refl _⟩,⟨by refine pr_ ?_;exact Kd.R_mono (Kd.R_far (p:=⟨gb650,1,none⟩) (Kd.R_far (p:=⟨gb650,0,none⟩) (Kd.R_types HO649.out BK650.out (by decide)) (fun _ hk => hk.2) (.int .i64 t646)) (fun _ hk => hk.2) (.slice Ao16 t647.length co16)) (fun _ hk => trivial)⟩,⟨bf1_ BK640.out NB640_650.out⟩,⟨bf1_ BK641.out NB641_650.out⟩,⟨by refine pe_ ?_;refine blk_put (cs:=#[.int .i64 t646,.slice none 0 0]) ?_ 1 _ rfl;refine pe_ ?_;refine blk_put (cs:=#[.int .i64 0,.slice none 0 0]) ?_ 0 _ rfl;refine pe_ ?_;exact BK650.out⟩,⟨be3_ HB.out GE640.out GE641.out GE650.out⟩⟩
 case round =>
  clear H'
  obtain ⟨x1_1,x642000_1,x651000_1,x651001_1,u651001,rfl,HA,HK1,HO_651001,BK640,BK641,BK650,HB⟩:=hrel
  cases gk with
  | zero => exact absurd HA.out (by simp [spec_l7Value.l0])
  | succ k1 =>
   have H:=HA.out
   clear HA
   simp only [spec_l7Value.l0] at H
   by_cases c17 : x1_1.toList = ([] : List UInt8)
   ·rw [if_pos c17] at H
    have c17b0 : (x1_1.toList == ([] : List UInt8)) = true:=beq_iff_eq.mpr c17
    have c17b1 : (x1_1.toList != ([] : List UInt8)) = false:=bne_eq_false_iff_eq.mpr c17
    clear c17
    simp only [Option.some.injEq,Prod.mk.injEq] at H
    obtain ⟨rfl,rfl,rfl⟩:=H
    have hnb18:=NB650_640.out
    have hnc18:=NB640_650.out
    have hnb19:=NB650_641.out
    have hnc19:=NB641_650.out
    obtain ⟨hcz20_0,hcz20_1,hfz20_0,hfz20_1⟩:=cf2_ BK650.out
    have hnb21:=NB641_640.out
    have hnc21:=NB640_641.out
    obtain ⟨hcz22_0,hcz22_1,hfz22_0,hfz22_1⟩:=cf2_ BK641.out
    obtain ⟨Ao23,co23,eo23⟩:=Kd.R_slice HO_651001.out
    subst eo23
    go_wp2
    refine bodyPost_ret (results_ct rfl _ _ gb641 35 #[.int .i64 x651000_1,.slice Ao23 x651001_1.length co23] (0,0) _ rfl (by refine pe_ ?_;refine blk_put (cs:=#[.int .i64 x651000_1,.slice none 0 0]) ?_ 1 _ rfl;refine pe_ ?_;refine blk_put (cs:=#[.int .i64 x642000_1,.slice none 0 0]) ?_ 0 _ rfl;refine pe_ ?_;exact BK641.out) Try.underlying35 rfl (by kernel_rfl)) rfl ?_
    exact ⟨_,er_,by refine pr_ ?_;exact Kd.R_mono (Kd.R_far (p:=⟨gb641,1,none⟩) (Kd.R_far (p:=⟨gb641,0,none⟩) (Kd.R_types HO_651001.out BK641.out (by decide)) (fun _ hk => hk.2) (.int .i64 x651000_1)) (fun _ hk => hk.2) (.slice Ao23 x651001_1.length co23)) (fun _ hk => trivial),be3_ HB.out GE640.out GE641.out GE650.out⟩
   ·rw [if_neg c17] at H
    have c17b0 : (x1_1.toList == ([] : List UInt8)) = false:=beq_eq_false_iff_ne.mpr c17
    have c17b1 : (x1_1.toList != ([] : List UInt8)) = true:=bne_iff_ne.mpr c17
    replace H:=Option.bind_eq_some_iff.mp H
    obtain ⟨⟨t651,t652,t653⟩,A240,H⟩:=H
    replace H : (if t652 = true then ((spec_l7Value.f k1 a0_0 l0_1 l0_2 l0_3 t651).bind fun bt655 => (if bt655.2.2 = true then ((spec_l6Idempotent.f k1 bt655.1 bt655.2.1).bind fun t661 => (spec_l7Value.j1 k1 t653 (!t661) a0_0 l0_1 l0_2 l0_3 x651000_1 x651001_1 bt655.1 bt655.2.1)) else (spec_l7Value.j1 k1 t653 true a0_0 l0_1 l0_2 l0_3 x651000_1 x651001_1 bt655.1 bt655.2.1))) else ((spec_l3Matrix.f k1 a0_0 l0_1 l0_2 l0_3 t651).bind fun bt670 => ((spec_l6Grades.f k1 bt670.1 bt670.2).bind fun bt674 => ((spec_l6Mul.f k1 x651000_1 x651001_1 bt674.1 bt674.2).bind fun bt678 => (spec_l7Value.l0 k1 t653 a0_0 l0_1 l0_2 l0_3 bt678.1 bt678.2))))) = some (r1,r2,r3):=H
    have A24:=Aside0.mk A240
    clear A240
    by_cases c25 : t652 = true
    ·subst c25
     have H1 : ((spec_l7Value.f k1 a0_0 l0_1 l0_2 l0_3 t651).bind fun bt655 => (if bt655.2.2 = true then ((spec_l6Idempotent.f k1 bt655.1 bt655.2.1).bind fun t661 => (spec_l7Value.j1 k1 t653 (!t661) a0_0 l0_1 l0_2 l0_3 x651000_1 x651001_1 bt655.1 bt655.2.1)) else (spec_l7Value.j1 k1 t653 true a0_0 l0_1 l0_2 l0_3 x651000_1 x651001_1 bt655.1 bt655.2.1))) = some (r1,r2,r3):=by rw [if_pos rfl] at H;exact H
     clear H
     have H:=H1
     clear H1
     replace H:=Option.bind_eq_some_iff.mp H
     obtain ⟨⟨t655,t656,t659⟩,A260,H⟩:=H
     replace H : (if t659 = true then ((spec_l6Idempotent.f k1 t655 t656).bind fun t661 => (spec_l7Value.j1 k1 t653 (!t661) a0_0 l0_1 l0_2 l0_3 x651000_1 x651001_1 t655 t656)) else (spec_l7Value.j1 k1 t653 true a0_0 l0_1 l0_2 l0_3 x651000_1 x651001_1 t655 t656)) = some (r1,r2,r3):=H
     have A26:=Aside0.mk A260
     clear A260
     have HC27:=Aside0.mk H
     clear H
     go_upto_region 7 with (first|((with_reducible refine gate_callee (f:=143) rfl ?_);refine goesL_ (some 21) rfl rfl Try.func143 (by kernel_rfl) rfl #[.string x1_1] rfl lp_ ?_;(with_reducible refine (spec_l7Next.calls k1 x1_1 t651 true t653 _ A24.out).mono ?_);rintro e w' ⟨rfl,⟨nd,rfl⟩⟩;refine ⟨_,rfl,?_⟩;(try (rw [drewN_self wr];generalize hq_ : World.drewN wr _ = wr;have n0_ : Aside0 (Kd.R (Kd.int .i64) 3 wr w.heap.size (fun _ => True) u651001 x651001_1):=⟨by rw [← hq_];exact (pr_ HO_651001.out)⟩;have n1_ : Aside0 (wr.heap[gb640]? = some (.cells #[.int .i64 a0_0,.slice A0_1 l0_1.length c0_1,.slice A0_2 l0_2.length c0_2,.slice A0_3 l0_3.length c0_3] 33 (0,0))):=⟨by rw [← hq_];exact (pe_ BK640.out)⟩;have n2_ : Aside0 (wr.heap[gb641]? = some (.cells #[.int .i64 x642000_1,.slice none 0 0] 35 (0,0))):=⟨by rw [← hq_];exact (pe_ BK641.out)⟩;have n3_ : Aside0 (wr.heap[gb650]? = some (.cells #[.int .i64 x651000_1,u651001] 35 (0,0))):=⟨by rw [← hq_];exact (pe_ BK650.out)⟩;have n4_ : Aside0 (Below w.heap.size w wr):=⟨by rw [← hq_];exact (be3_ HB.out GE640.out GE641.out GE650.out)⟩;clear HO_651001 BK640 BK641 BK650 HB hq_;have HO_651001:=n0_;have BK640:=n1_;have BK641:=n2_;have BK650:=n3_;have HB:=n4_;clear n0_ n1_ n2_ n3_ n4_)))|((with_reducible refine bev_ (N:=10) rfl rfl (cs:=#[.int .i64 0,.slice none 0 0]) (t:=35) ?hr ?_);(case hr => first|(go_simp;done)|(go_simp;rfl));intro gb654 hg w28 hbox hb;replace HO_651001:=Aside0.mk (Kd.R_below (pr_ HO_651001.out) hb);have BK654:=Aside0.mk (hbox);have GW654:=gw3_ hg HB GE640 GE641 GE650;have GE654:=GW654;replace HB:=hs3_ HB GE640 GE641 GE650 hb;have NB640_654:=nm_ hg BK640;have NB654_640:=nn_ hg BK640;replace BK640:=kc_ BK640 hb;have NB641_654:=nm_ hg BK641;have NB654_641:=nn_ hg BK641;replace BK641:=kc_ BK641 hb;have NB650_654:=nm_ hg BK650;have NB654_650:=nn_ hg BK650;replace BK650:=kc_ BK650 hb;clear hb hbox hg;have hnb29:=NB654_640.out;have hnc29:=NB640_654.out;have hnb30:=NB654_641.out;have hnc30:=NB641_654.out;have hnb31:=NB654_650.out;have hnc31:=NB650_654.out;obtain ⟨hcz32_0,hcz32_1,hfz32_0,hfz32_1⟩:=cf2_ BK654.out;have hnb33:=NB640_641.out;have hnc33:=NB641_640.out;have hnb34:=NB640_650.out;have hnc34:=NB650_640.out;obtain ⟨hcz35_0,hcz35_1,hcz35_2,hcz35_3,hfz35_0,hfz35_1,hfz35_2,hfz35_3⟩:=cf4_ BK640.out)|((with_reducible refine gate_callee (f:=87) rfl ?_);refine goesL_ (some 30) rfl rfl Try.func87 (by kernel_rfl) rfl #[.agg #[.int .i64 a0_0,.slice A0_1 l0_1.length c0_1,.slice A0_2 l0_2.length c0_2,.slice A0_3 l0_3.length c0_3],.string t651] rfl lp_ ?_;(with_reducible refine (ih k1 (by have:=HK1.out;omega) a0_0 _ _ l0_1 _ _ l0_2 _ _ l0_3 t651 t655 t656 t659 _ ?side1 ?side2 ?side3 ?side4 ?side5 ?side6 A26.out).mono ?_);(case side1 => exact Kd.C_below HR0_1.out (be4_ HB.out GE640.out GE641.out GE650.out GE654.out));(case side2 => exact HC0_1.out);(case side3 => exact Kd.C_below HR0_2.out (be4_ HB.out GE640.out GE641.out GE650.out GE654.out));(case side4 => exact HC0_2.out);(case side5 => exact Kd.C_below HR0_3.out (be4_ HB.out GE640.out GE641.out GE650.out GE654.out));(case side6 => exact HC0_3.out);rintro e w36 ⟨v657,rfl,ho0,hb⟩;refine ⟨_,rfl,?_⟩;have HO658:=Aside0.mk (Kd.R_lower (Kd.R_new' ho0 (Kd.R_lt (by refine pr_ ?_;exact (Kd.R_mono (Kd.R_far (p:=⟨gb654,1,none⟩) (Kd.R_far (p:=⟨gb654,0,none⟩) (Kd.R_types HO_651001.out BK654.out (by decide)) (fun _ hk => hk.2) (.int .i64 0)) (fun _ hk => hk.2) (.slice none 0 0)) (fun _ h_ => h_.1))))) (below_size (be4_ HB.out GE640.out GE641.out GE650.out GE654.out)));replace HO_651001:=Aside0.mk (Kd.R_elder' (by refine pr_ ?_;exact (Kd.R_mono (Kd.R_far (p:=⟨gb654,1,none⟩) (Kd.R_far (p:=⟨gb654,0,none⟩) (Kd.R_types HO_651001.out BK654.out (by decide)) (fun _ hk => hk.2) (.int .i64 0)) (fun _ hk => hk.2) (.slice none 0 0)) (fun _ h_ => h_.1))) (Kd.R_base ho0) hb);replace BK640:=Aside0.mk (blk_below (g:=gb640) (o:=.cells #[.int .i64 a0_0,.slice A0_1 l0_1.length c0_1,.slice A0_2 l0_2.length c0_2,.slice A0_3 l0_3.length c0_3] 33 (0,0)) (bf1_ BK640.out NB640_654.out) hb);replace BK641:=Aside0.mk (blk_below (g:=gb641) (o:=.cells #[.int .i64 x642000_1,.slice none 0 0] 35 (0,0)) (bf1_ BK641.out NB641_654.out) hb);replace BK650:=Aside0.mk (blk_below (g:=gb650) (o:=.cells #[.int .i64 x651000_1,u651001] 35 (0,0)) (bf1_ BK650.out NB650_654.out) hb);replace BK654:=Aside0.mk (blk_below (g:=gb654) (o:=.cells #[.int .i64 0,.slice none 0 0] 35 (0,0)) (by refine pe_ ?_;refine blk_put (cs:=#[.int .i64 0,.slice none 0 0]) ?_ 1 _ rfl;refine pe_ ?_;refine blk_put (cs:=#[.int .i64 0,.slice none 0 0]) ?_ 0 _ rfl;refine pe_ ?_;exact BK654.out) hb);replace HB:=hs4_ HB GE640 GE641 GE650 GE654 hb;(try clear hb);(try clear hb2);(try clear hk);(try clear hi);(try clear ho0))|((with_reducible refine bev_ (N:=11) rfl rfl (cs:=#[.int .i64 0,.slice none 0 0]) (t:=35) ?hr ?_);(case hr => first|(go_simp;done)|(go_simp;rfl));intro gb660 hg w37 hbox hb;replace HO_651001:=Aside0.mk (Kd.R_below (pr_ HO_651001.out) hb);replace HO658:=Aside0.mk (Kd.R_below (pr_ HO658.out) hb);have BK660:=Aside0.mk (hbox);have GW660:=gw4_ hg HB GE640 GE641 GE650 GE654;have GE660:=GW660;replace HB:=hs4_ HB GE640 GE641 GE650 GE654 hb;have NB640_660:=nm_ hg BK640;have NB660_640:=nn_ hg BK640;replace BK640:=kc_ BK640 hb;have NB641_660:=nm_ hg BK641;have NB660_641:=nn_ hg BK641;replace BK641:=kc_ BK641 hb;have NB650_660:=nm_ hg BK650;have NB660_650:=nn_ hg BK650;replace BK650:=kc_ BK650 hb;have NB654_660:=nm_ hg BK654;have NB660_654:=nn_ hg BK654;replace BK654:=kc_ BK654 hb;clear hb hbox hg;have hnb38:=NB660_640.out;have hnc38:=NB640_660.out;have hnb39:=NB660_641.out;have hnc39:=NB641_660.out;have hnb40:=NB660_650.out;have hnc40:=NB650_660.out;have hnb41:=NB660_654.out;have hnc41:=NB654_660.out;obtain ⟨hcz42_0,hcz42_1,hfz42_0,hfz42_1⟩:=cf2_ BK660.out;obtain ⟨Ao43,co43,eo43⟩:=Kd.R_slice HO658.out;subst eo43))
     (try simp only [Act.put,List.setIfInBounds_toArray,List.set_cons_zero,List.set_cons_succ])
     go_cut [39] (fun v39 wc => ∃ (kq : Nat) (x39_26 : Bool),v39 = .bool x39_26 ∧ Aside0 (spec_l7Value.j1 kq t653 x39_26 a0_0 l0_1 l0_2 l0_3 x651000_1 x651001_1 t655 t656 = some (r1,r2,r3)) ∧ Aside0 (kq ≤ k1) ∧ Aside0 (Kd.R (Kd.int .i64) 3 wc w.heap.size (fun k_ => some k_ ≠ ((.slice Ao43 t656.length co43) : Value).ownBlock) u651001 x651001_1) ∧ Aside0 (Kd.R (Kd.int .i64) 3 wc w.heap.size (fun k_ => some k_ ≠ (u651001 : Value).ownBlock) (.slice Ao43 t656.length co43) t656) ∧ Aside0 (wc.heap[gb640]? = some (.cells #[.int .i64 a0_0,(.slice A0_1 l0_1.length c0_1),(.slice A0_2 l0_2.length c0_2),(.slice A0_3 l0_3.length c0_3)] 33 (0,0))) ∧ Aside0 (wc.heap[gb641]? = some (.cells #[.int .i64 x642000_1,(.slice none 0 0)] 35 (0,0))) ∧ Aside0 (wc.heap[gb650]? = some (.cells #[.int .i64 x651000_1,u651001] 35 (0,0))) ∧ Aside0 (wc.heap[gb654]? = some (.cells #[.int .i64 0,(.slice none 0 0)] 35 (0,0))) ∧ Aside0 (wc.heap[gb660]? = some (.cells #[.int .i64 t655,(.slice Ao43 t656.length co43)] 35 (0,0))) ∧ Aside0 (Below w.heap.size w wc))
     case first =>
      have H:=HC27.out
      clear HC27
      by_cases c44 : t659 = true
      ·subst c44
       have H1 : ((spec_l6Idempotent.f k1 t655 t656).bind fun t661 => (spec_l7Value.j1 k1 t653 (!t661) a0_0 l0_1 l0_2 l0_3 x651000_1 x651001_1 t655 t656)) = some (r1,r2,r3):=by rw [if_pos rfl] at H;exact H
       clear H
       have H:=H1
       clear H1
       replace H:=Option.bind_eq_some_iff.mp H
       obtain ⟨t661,A450,H⟩:=H
       replace H : (spec_l7Value.j1 k1 t653 (!t661) a0_0 l0_1 l0_2 l0_3 x651000_1 x651001_1 t655 t656) = some (r1,r2,r3):=H
       have A45:=Aside0.mk A450
       clear A450
       have H':=Aside0.mk H
       clear H
       have hnb46:=NB660_640.out
       have hnc46:=NB640_660.out
       have hnb47:=NB660_641.out
       have hnc47:=NB641_660.out
       have hnb48:=NB660_650.out
       have hnc48:=NB650_660.out
       have hnb49:=NB660_654.out
       have hnc49:=NB654_660.out
       obtain ⟨hcz50_0,hcz50_1,hfz50_0,hfz50_1⟩:=cf2_ BK660.out
       go_wp2_with (first|(go_at_call 96;(with_reducible refine (spec_l6Idempotent.calls k1 t655 _ _ t656 t661 _ ?side1 ?side2 A45.out).mono ?_);(case side1 => refine (Kd.R_reads' (e:=3) (base:=w.heap.size) (ok:=fun k_ => (True ∧ some k_ ≠ (u651001 : Value).ownBlock)) (n:=t656.length) (c:=co43) ?_).2.2;exact (by refine pr_ ?_;exact (Kd.R_mono (Kd.R_far (p:=⟨gb660,1,none⟩) (Kd.R_far (p:=⟨gb660,0,none⟩) (Kd.R_types HO658.out BK660.out (by decide)) (fun _ hk => hk.2) (.int .i64 t655)) (fun _ hk => hk.2) (.slice Ao43 t656.length co43)) (fun _ h_ => h_.1))));(case side2 => exact (Kd.R_reads' HO658.out).2.1);rintro e w51 ⟨rfl,hb⟩;replace HO_651001:=Aside0.mk (Kd.R_below (by refine pr_ ?_;exact (Kd.R_mono (Kd.R_far (p:=⟨gb660,1,none⟩) (Kd.R_far (p:=⟨gb660,0,none⟩) (Kd.R_types HO_651001.out BK660.out (by decide)) (fun _ hk => hk.2) (.int .i64 t655)) (fun _ hk => hk.2) (.slice Ao43 t656.length co43)) (fun _ h_ => h_.1))) hb);replace HO658:=Aside0.mk (Kd.R_below (by refine pr_ ?_;exact (Kd.R_mono (Kd.R_far (p:=⟨gb660,1,none⟩) (Kd.R_far (p:=⟨gb660,0,none⟩) (Kd.R_types HO658.out BK660.out (by decide)) (fun _ hk => hk.2) (.int .i64 t655)) (fun _ hk => hk.2) (.slice Ao43 t656.length co43)) (fun _ h_ => h_.1))) hb);replace BK640:=Aside0.mk (blk_below (g:=gb640) (o:=.cells #[.int .i64 a0_0,.slice A0_1 l0_1.length c0_1,.slice A0_2 l0_2.length c0_2,.slice A0_3 l0_3.length c0_3] 33 (0,0)) (bf1_ BK640.out NB640_660.out) hb);replace BK641:=Aside0.mk (blk_below (g:=gb641) (o:=.cells #[.int .i64 x642000_1,.slice none 0 0] 35 (0,0)) (bf1_ BK641.out NB641_660.out) hb);replace BK650:=Aside0.mk (blk_below (g:=gb650) (o:=.cells #[.int .i64 x651000_1,u651001] 35 (0,0)) (bf1_ BK650.out NB650_660.out) hb);replace BK654:=Aside0.mk (blk_below (g:=gb654) (o:=.cells #[.int .i64 0,.slice none 0 0] 35 (0,0)) (bf1_ BK654.out NB654_660.out) hb);replace BK660:=Aside0.mk (blk_below (g:=gb660) (o:=.cells #[.int .i64 t655,.slice Ao43 t656.length co43] 35 (0,0)) (by refine pe_ ?_;refine blk_put (cs:=#[.int .i64 t655,.slice none 0 0]) ?_ 1 _ rfl;refine pe_ ?_;refine blk_put (cs:=#[.int .i64 0,.slice none 0 0]) ?_ 0 _ rfl;refine pe_ ?_;exact BK660.out) hb);replace HB:=hs5_ HB GE640 GE641 GE650 GE654 GE660 hb;(try clear hb);(try clear hb2);(try clear hk);(try clear hi)))
       go_meet
       case rel => exact ⟨_,(!t661),rs_,H',⟨by have:=HK1.out;first|omega|exact Nat.le_refl _⟩,⟨by refine pr_ ?_;exact Kd.R_mono HO_651001.out (fun _ hk => (by first|exact hk.2|trivial))⟩,⟨by refine pr_ ?_;exact Kd.R_mono HO658.out (fun _ hk => (by first|exact hk.2|trivial))⟩,⟨pe_ BK640.out⟩,⟨pe_ BK641.out⟩,⟨pe_ BK650.out⟩,⟨pe_ BK654.out⟩,⟨pe_ BK660.out⟩,⟨be5_ HB.out GE640.out GE641.out GE650.out GE654.out GE660.out⟩⟩
      ·replace c44:=Bool.eq_false_iff.mpr c44
       subst c44
       have H1 : (spec_l7Value.j1 k1 t653 true a0_0 l0_1 l0_2 l0_3 x651000_1 x651001_1 t655 t656) = some (r1,r2,r3):=by rw [if_neg (show ¬ (false = true) by decide)] at H;exact H
       clear H
       have H:=H1
       clear H1
       have H':=Aside0.mk H
       clear H
       go_wp2
       go_meet
       case rel => exact ⟨_,(true),rs_,H',⟨by have:=HK1.out;first|omega|exact Nat.le_refl _⟩,⟨by refine pr_ ?_;exact Kd.R_mono (Kd.R_far (p:=⟨gb660,1,none⟩) (Kd.R_far (p:=⟨gb660,0,none⟩) (Kd.R_types HO_651001.out BK660.out (by decide)) (fun _ hk => hk.2) (.int .i64 t655)) (fun _ hk => hk.2) (.slice Ao43 t656.length co43)) (fun _ hk => (by first|exact hk.1.2|trivial))⟩,⟨by refine pr_ ?_;exact Kd.R_mono (Kd.R_far (p:=⟨gb660,1,none⟩) (Kd.R_far (p:=⟨gb660,0,none⟩) (Kd.R_types HO658.out BK660.out (by decide)) (fun _ hk => hk.2) (.int .i64 t655)) (fun _ hk => hk.2) (.slice Ao43 t656.length co43)) (fun _ hk => (by first|exact hk.1.2|trivial))⟩,⟨bf1_ BK640.out NB640_660.out⟩,⟨bf1_ BK641.out NB641_660.out⟩,⟨bf1_ BK650.out NB650_660.out⟩,⟨bf1_ BK654.out NB654_660.out⟩,⟨by refine pe_ ?_;refine blk_put (cs:=#[.int .i64 t655,.slice none 0 0]) ?_ 1 _ rfl;refine pe_ ?_;refine blk_put (cs:=#[.int .i64 0,.slice none 0 0]) ?_ 0 _ rfl;refine pe_ ?_;exact BK660.out⟩,⟨be5_ HB.out GE640.out GE641.out GE650.out GE654.out GE660.out⟩⟩
     case rest =>
      clear HC27
      obtain ⟨kq,x39_26,rfl,HA,HJ26,HO_651001,HO_661001,BK640,BK641,BK650,BK654,BK660,HB⟩:=hcut
      cases kq with
      | zero => exact absurd HA.out (by simp [spec_l7Value.j1])
      | succ kj26 =>
       have H:=HA.out
       clear HA
       simp only [spec_l7Value.j1] at H
       by_cases c52 : x39_26 = true
       ·subst c52
        have H1 : (some (0,([] : List Int),false)) = some (r1,r2,r3):=by rw [if_pos rfl] at H;exact H
        clear H
        have H:=H1
        clear H1
        simp only [Option.some.injEq,Prod.mk.injEq] at H
        obtain ⟨rfl,rfl,rfl⟩:=H
        have hnb53:=NB641_640.out
        have hnc53:=NB640_641.out
        have hnb54:=NB641_650.out
        have hnc54:=NB650_641.out
        have hnb55:=NB641_654.out
        have hnc55:=NB654_641.out
        have hnb56:=NB641_660.out
        have hnc56:=NB660_641.out
        obtain ⟨hcz57_0,hcz57_1,hfz57_0,hfz57_1⟩:=cf2_ BK641.out
        go_wp2
        refine bodyPost_ret (results_ct rfl _ _ gb641 35 #[.int .i64 0,.slice none 0 0] (0,0) _ rfl (by refine pe_ ?_;refine blk_put (cs:=#[.int .i64 0,.slice none 0 0]) ?_ 1 _ rfl;refine pe_ ?_;refine blk_put (cs:=#[.int .i64 x642000_1,.slice none 0 0]) ?_ 0 _ rfl;refine pe_ ?_;exact BK641.out) Try.underlying35 rfl (by kernel_rfl)) rfl ?_
        exact ⟨_,er_,by first|exact Kd.R_nil _ _ _ _ _|exact Kd.N_nil _ _ _ _ _|exact Kd.V_nil _ _ _ _ _|exact Kd.Q_nil _ _ _ _ _|exact Kd.S_nil _ _ _ _ _,be5_ HB.out GE640.out GE641.out GE650.out GE654.out GE660.out⟩
       ·replace c52:=Bool.eq_false_iff.mpr c52
        subst c52
        have H1 : ((spec_l6Stable.f kj26 t655 t656).bind fun bt662 => ((spec_l6Mul.f kj26 x651000_1 x651001_1 bt662.1 bt662.2).bind fun bt666 => (spec_l7Value.l0 kj26 t653 a0_0 l0_1 l0_2 l0_3 bt666.1 bt666.2))) = some (r1,r2,r3):=by rw [if_neg (show ¬ (false = true) by decide)] at H;exact H
        clear H
        have H:=H1
        clear H1
        replace H:=Option.bind_eq_some_iff.mp H
        obtain ⟨⟨t662,t663⟩,A580,H⟩:=H
        replace H : ((spec_l6Mul.f kj26 x651000_1 x651001_1 t662 t663).bind fun bt666 => (spec_l7Value.l0 kj26 t653 a0_0 l0_1 l0_2 l0_3 bt666.1 bt666.2)) = some (r1,r2,r3):=H
        have A58:=Aside0.mk A580
        clear A580
        replace H:=Option.bind_eq_some_iff.mp H
        obtain ⟨⟨t666,t667⟩,A590,H⟩:=H
        replace H : (spec_l7Value.l0 kj26 t653 a0_0 l0_1 l0_2 l0_3 t666 t667) = some (r1,r2,r3):=H
        have A59:=Aside0.mk A590
        clear A590
        have H':=Aside0.mk H
        clear H
        have hnb60:=NB660_640.out
        have hnc60:=NB640_660.out
        have hnb61:=NB660_641.out
        have hnc61:=NB641_660.out
        have hnb62:=NB660_650.out
        have hnc62:=NB650_660.out
        have hnb63:=NB660_654.out
        have hnc63:=NB654_660.out
        obtain ⟨hcz64_0,hcz64_1,hfz64_0,hfz64_1⟩:=cf2_ BK660.out
        go_wp2_with (first|((with_reducible refine gate_callee (f:=98) rfl ?_);refine goesL_ (some 42) rfl rfl Try.func98 (by kernel_rfl) rfl #[.agg #[.int .i64 t655,.slice Ao43 t656.length co43]] rfl lp_ ?_;(with_reducible refine (spec_l6Stable.calls kj26 t655 _ _ t656 t662 t663 _ ?side1 ?side2 A58.out).mono ?_);(case side1 => exact cr_ (Kd.R_reads' HO_661001.out).2.2);(case side2 => exact (Kd.R_reads' HO_661001.out).2.1);rintro e w65 ⟨v664,rfl,ho0,hb⟩;refine ⟨_,rfl,?_⟩;have HO665:=Aside0.mk (Kd.R_lower (Kd.R_new' (Kd.R_new' ho0 (Kd.R_lt (pr_ HO_651001.out))) (Kd.R_lt (pr_ HO_661001.out))) (below_size (be5_ HB.out GE640.out GE641.out GE650.out GE654.out GE660.out)));replace HO_651001:=Aside0.mk (Kd.R_elder' (pr_ HO_651001.out) (Kd.R_base ho0) hb);replace HO_661001:=Aside0.mk (Kd.R_elder' (pr_ HO_661001.out) (Kd.R_base ho0) hb);replace BK640:=kc_ BK640 hb;replace BK641:=kc_ BK641 hb;replace BK650:=kc_ BK650 hb;replace BK654:=kc_ BK654 hb;replace BK660:=kc_ BK660 hb;replace HB:=hs5_ HB GE640 GE641 GE650 GE654 GE660 hb;(try clear hb);(try clear hb2);(try clear hk);(try clear hi);(try clear ho0);have hnb66:=NB654_640.out;have hnc66:=NB640_654.out;have hnb67:=NB654_641.out;have hnc67:=NB641_654.out;have hnb68:=NB654_650.out;have hnc68:=NB650_654.out;obtain ⟨hcz69_0,hcz69_1,hfz69_0,hfz69_1⟩:=cf2_ BK654.out;obtain ⟨Ao70,co70,eo70⟩:=Kd.R_slice HO665.out;subst eo70;have hnb71:=NB650_640.out;have hnc71:=NB640_650.out;have hnb72:=NB650_641.out;have hnc72:=NB641_650.out;obtain ⟨hcz73_0,hcz73_1,hfz73_0,hfz73_1⟩:=cf2_ BK650.out;obtain ⟨Ao74,co74,eo74⟩:=Kd.R_slice HO_651001.out;subst eo74)|((with_reducible refine gate_callee (f:=144) rfl ?_);refine goesL_ (some 49) rfl rfl Try.func144 (by kernel_rfl) rfl #[.agg #[.int .i64 x651000_1,.slice Ao74 x651001_1.length co74],.agg #[.int .i64 t662,.slice Ao70 t663.length co70]] rfl lp_ ?_;(with_reducible refine (spec_l6Mul.calls kj26 x651000_1 _ _ x651001_1 t662 _ _ t663 t666 t667 _ ?side1 ?side2 ?side3 ?side4 A59.out).mono ?_);(case side1 => refine (Kd.R_reads' (e:=3) (base:=w.heap.size) (ok:=fun k_ => (some k_ ≠ (.slice Ao43 t656.length co43 : Value).ownBlock ∧ some k_ ≠ (.slice Ao70 t663.length co70 : Value).ownBlock)) (n:=x651001_1.length) (c:=co74) ?_).2.2;exact (by refine pr_ ?_;exact (Kd.R_mono (Kd.R_far (p:=⟨gb654,1,none⟩) (Kd.R_far (p:=⟨gb654,0,none⟩) (Kd.R_types HO_651001.out BK654.out (by decide)) (fun _ hk => hk.2) (.int .i64 t662)) (fun _ hk => hk.2) (.slice Ao70 t663.length co70)) (fun _ h_ => h_.1))));(case side2 => exact (Kd.R_reads' HO_651001.out).2.1);(case side3 => refine (Kd.R_reads' (e:=3) (base:=w.heap.size) (ok:=fun k_ => ((True ∧ some k_ ≠ (.slice Ao74 x651001_1.length co74 : Value).ownBlock) ∧ some k_ ≠ (.slice Ao43 t656.length co43 : Value).ownBlock)) (n:=t663.length) (c:=co70) ?_).2.2;exact (by refine pr_ ?_;exact (Kd.R_mono (Kd.R_far (p:=⟨gb654,1,none⟩) (Kd.R_far (p:=⟨gb654,0,none⟩) (Kd.R_types HO665.out BK654.out (by decide)) (fun _ hk => hk.2) (.int .i64 t662)) (fun _ hk => hk.2) (.slice Ao70 t663.length co70)) (fun _ h_ => h_.1))));(case side4 => exact (Kd.R_reads' HO665.out).2.1);rintro e w75 ⟨v668,rfl,ho0,hb⟩;refine ⟨_,rfl,?_⟩;have HO669:=Aside0.mk (Kd.R_lower (Kd.R_new' (Kd.R_new' (Kd.R_new' ho0 (Kd.R_lt (by refine pr_ ?_;exact (Kd.R_mono (Kd.R_far (p:=⟨gb654,1,none⟩) (Kd.R_far (p:=⟨gb654,0,none⟩) (Kd.R_types HO_651001.out BK654.out (by decide)) (fun _ hk => hk.2) (.int .i64 t662)) (fun _ hk => hk.2) (.slice Ao70 t663.length co70)) (fun _ h_ => h_.1))))) (Kd.R_lt (by refine pr_ ?_;exact (Kd.R_mono (Kd.R_far (p:=⟨gb654,1,none⟩) (Kd.R_far (p:=⟨gb654,0,none⟩) (Kd.R_types HO_661001.out BK654.out (by decide)) (fun _ hk => hk.2) (.int .i64 t662)) (fun _ hk => hk.2) (.slice Ao70 t663.length co70)) (fun _ h_ => h_.1))))) (Kd.R_lt (by refine pr_ ?_;exact (Kd.R_mono (Kd.R_far (p:=⟨gb654,1,none⟩) (Kd.R_far (p:=⟨gb654,0,none⟩) (Kd.R_types HO665.out BK654.out (by decide)) (fun _ hk => hk.2) (.int .i64 t662)) (fun _ hk => hk.2) (.slice Ao70 t663.length co70)) (fun _ h_ => h_.1))))) (below_size (be5_ HB.out GE640.out GE641.out GE650.out GE654.out GE660.out)));replace HO_651001:=Aside0.mk (Kd.R_elder' (by refine pr_ ?_;exact (Kd.R_mono (Kd.R_far (p:=⟨gb654,1,none⟩) (Kd.R_far (p:=⟨gb654,0,none⟩) (Kd.R_types HO_651001.out BK654.out (by decide)) (fun _ hk => hk.2) (.int .i64 t662)) (fun _ hk => hk.2) (.slice Ao70 t663.length co70)) (fun _ h_ => h_.1))) (Kd.R_base ho0) hb);replace HO_661001:=Aside0.mk (Kd.R_elder' (by refine pr_ ?_;exact (Kd.R_mono (Kd.R_far (p:=⟨gb654,1,none⟩) (Kd.R_far (p:=⟨gb654,0,none⟩) (Kd.R_types HO_661001.out BK654.out (by decide)) (fun _ hk => hk.2) (.int .i64 t662)) (fun _ hk => hk.2) (.slice Ao70 t663.length co70)) (fun _ h_ => h_.1))) (Kd.R_base ho0) hb);replace HO665:=Aside0.mk (Kd.R_elder' (by refine pr_ ?_;exact (Kd.R_mono (Kd.R_far (p:=⟨gb654,1,none⟩) (Kd.R_far (p:=⟨gb654,0,none⟩) (Kd.R_types HO665.out BK654.out (by decide)) (fun _ hk => hk.2) (.int .i64 t662)) (fun _ hk => hk.2) (.slice Ao70 t663.length co70)) (fun _ h_ => h_.1))) (Kd.R_base ho0) hb);replace BK640:=Aside0.mk (blk_below (g:=gb640) (o:=.cells #[.int .i64 a0_0,.slice A0_1 l0_1.length c0_1,.slice A0_2 l0_2.length c0_2,.slice A0_3 l0_3.length c0_3] 33 (0,0)) (bf1_ BK640.out NB640_654.out) hb);replace BK641:=Aside0.mk (blk_below (g:=gb641) (o:=.cells #[.int .i64 x642000_1,.slice none 0 0] 35 (0,0)) (bf1_ BK641.out NB641_654.out) hb);replace BK650:=Aside0.mk (blk_below (g:=gb650) (o:=.cells #[.int .i64 x651000_1,.slice Ao74 x651001_1.length co74] 35 (0,0)) (bf1_ BK650.out NB650_654.out) hb);replace BK654:=Aside0.mk (blk_below (g:=gb654) (o:=.cells #[.int .i64 t662,.slice Ao70 t663.length co70] 35 (0,0)) (by refine pe_ ?_;refine blk_put (cs:=#[.int .i64 t662,.slice none 0 0]) ?_ 1 _ rfl;refine pe_ ?_;refine blk_put (cs:=#[.int .i64 0,.slice none 0 0]) ?_ 0 _ rfl;refine pe_ ?_;exact BK654.out) hb);replace BK660:=Aside0.mk (blk_below (g:=gb660) (o:=.cells #[.int .i64 t655,.slice Ao43 t656.length co43] 35 (0,0)) (bf1_ BK660.out NB660_654.out) hb);replace HB:=hs5_ HB GE640 GE641 GE650 GE654 GE660 hb;(try clear hb);(try clear hb2);(try clear hk);(try clear hi);(try clear ho0);obtain ⟨hcz76_0,hcz76_1,hfz76_0,hfz76_1⟩:=cf2_ BK650.out;obtain ⟨Ao77,co77,eo77⟩:=Kd.R_slice HO669.out;subst eo77))
        go_roundg kj26
        case measure => have:=HK1.out;have:=HJ26.out;omega
        case rel => exact ⟨(t653),(x642000_1),(t666),(t667),(.slice Ao77 t667.length co77),rs_,H',⟨by have:=HK1.out;have:=HJ26.out;omega⟩,⟨by refine pr_ ?_;exact Kd.R_mono (Kd.R_far (p:=⟨gb650,1,none⟩) (Kd.R_far (p:=⟨gb650,0,none⟩) (Kd.R_types HO669.out BK650.out (by decide)) (fun _ hk => hk.2) (.int .i64 t666)) (fun _ hk => hk.2) (.slice Ao77 t667.length co77)) (fun _ hk => trivial)⟩,⟨bf1_ BK640.out NB640_650.out⟩,⟨bf1_ BK641.out NB641_650.out⟩,⟨by refine pe_ ?_;refine blk_put (cs:=#[.int .i64 t666,.slice Ao74 x651001_1.length co74]) ?_ 1 _ rfl;refine pe_ ?_;refine blk_put (cs:=#[.int .i64 x651000_1,.slice Ao74 x651001_1.length co74]) ?_ 0 _ rfl;refine pe_ ?_;exact BK650.out⟩,⟨be5_ HB.out GE640.out GE641.out GE650.out GE654.out GE660.out⟩⟩
    ·replace c25:=Bool.eq_false_iff.mpr c25
     subst c25
     have H1 : ((spec_l3Matrix.f k1 a0_0 l0_1 l0_2 l0_3 t651).bind fun bt670 => ((spec_l6Grades.f k1 bt670.1 bt670.2).bind fun bt674 => ((spec_l6Mul.f k1 x651000_1 x651001_1 bt674.1 bt674.2).bind fun bt678 => (spec_l7Value.l0 k1 t653 a0_0 l0_1 l0_2 l0_3 bt678.1 bt678.2)))) = some (r1,r2,r3):=by rw [if_neg (show ¬ (false = true) by decide)] at H;exact H
     clear H
     have H:=H1
     clear H1
     replace H:=Option.bind_eq_some_iff.mp H
     obtain ⟨⟨t670,t671⟩,A780,H⟩:=H
     replace H : ((spec_l6Grades.f k1 t670 t671).bind fun bt674 => ((spec_l6Mul.f k1 x651000_1 x651001_1 bt674.1 bt674.2).bind fun bt678 => (spec_l7Value.l0 k1 t653 a0_0 l0_1 l0_2 l0_3 bt678.1 bt678.2))) = some (r1,r2,r3):=H
     have A78:=Aside0.mk A780
     clear A780
     replace H:=Option.bind_eq_some_iff.mp H
     obtain ⟨⟨t674,t675⟩,A790,H⟩:=H
     replace H : ((spec_l6Mul.f k1 x651000_1 x651001_1 t674 t675).bind fun bt678 => (spec_l7Value.l0 k1 t653 a0_0 l0_1 l0_2 l0_3 bt678.1 bt678.2)) = some (r1,r2,r3):=H
     have A79:=Aside0.mk A790
     clear A790
     replace H:=Option.bind_eq_some_iff.mp H
     obtain ⟨⟨t678,t679⟩,A800,H⟩:=H
     replace H : (spec_l7Value.l0 k1 t653 a0_0 l0_1 l0_2 l0_3 t678 t679) = some (r1,r2,r3):=H
     have A80:=Aside0.mk A800
     clear A800
     have H':=Aside0.mk H
     clear H
     go_wp2_with (first|((with_reducible refine gate_callee (f:=143) rfl ?_);refine goesL_ (some 21) rfl rfl Try.func143 (by kernel_rfl) rfl #[.string x1_1] rfl lp_ ?_;(with_reducible refine (spec_l7Next.calls k1 x1_1 t651 false t653 _ A24.out).mono ?_);rintro e w' ⟨rfl,⟨nd,rfl⟩⟩;refine ⟨_,rfl,?_⟩;(try (rw [drewN_self wr];generalize hq_ : World.drewN wr _ = wr;have n0_ : Aside0 (Kd.R (Kd.int .i64) 3 wr w.heap.size (fun _ => True) u651001 x651001_1):=⟨by rw [← hq_];exact (pr_ HO_651001.out)⟩;have n1_ : Aside0 (wr.heap[gb640]? = some (.cells #[.int .i64 a0_0,.slice A0_1 l0_1.length c0_1,.slice A0_2 l0_2.length c0_2,.slice A0_3 l0_3.length c0_3] 33 (0,0))):=⟨by rw [← hq_];exact (pe_ BK640.out)⟩;have n2_ : Aside0 (wr.heap[gb641]? = some (.cells #[.int .i64 x642000_1,.slice none 0 0] 35 (0,0))):=⟨by rw [← hq_];exact (pe_ BK641.out)⟩;have n3_ : Aside0 (wr.heap[gb650]? = some (.cells #[.int .i64 x651000_1,u651001] 35 (0,0))):=⟨by rw [← hq_];exact (pe_ BK650.out)⟩;have n4_ : Aside0 (Below w.heap.size w wr):=⟨by rw [← hq_];exact (be3_ HB.out GE640.out GE641.out GE650.out)⟩;clear HO_651001 BK640 BK641 BK650 HB hq_;have HO_651001:=n0_;have BK640:=n1_;have BK641:=n2_;have BK650:=n3_;have HB:=n4_;clear n0_ n1_ n2_ n3_ n4_)))|((with_reducible refine bev_ (N:=10) rfl rfl (cs:=#[.int .i64 0,.slice none 0 0]) (t:=35) ?hr ?_);(case hr => first|(go_simp;done)|(go_simp;rfl));intro gb654 hg w81 hbox hb;replace HO_651001:=Aside0.mk (Kd.R_below (pr_ HO_651001.out) hb);have BK654:=Aside0.mk (hbox);have GW654:=gw3_ hg HB GE640 GE641 GE650;have GE654:=GW654;replace HB:=hs3_ HB GE640 GE641 GE650 hb;have NB640_654:=nm_ hg BK640;have NB654_640:=nn_ hg BK640;replace BK640:=kc_ BK640 hb;have NB641_654:=nm_ hg BK641;have NB654_641:=nn_ hg BK641;replace BK641:=kc_ BK641 hb;have NB650_654:=nm_ hg BK650;have NB654_650:=nn_ hg BK650;replace BK650:=kc_ BK650 hb;clear hb hbox hg;have hnb82:=NB654_640.out;have hnc82:=NB640_654.out;have hnb83:=NB654_641.out;have hnc83:=NB641_654.out;have hnb84:=NB654_650.out;have hnc84:=NB650_654.out;obtain ⟨hcz85_0,hcz85_1,hfz85_0,hfz85_1⟩:=cf2_ BK654.out;have hnb86:=NB640_641.out;have hnc86:=NB641_640.out;have hnb87:=NB640_650.out;have hnc87:=NB650_640.out;obtain ⟨hcz88_0,hcz88_1,hcz88_2,hcz88_3,hfz88_0,hfz88_1,hfz88_2,hfz88_3⟩:=cf4_ BK640.out)|((with_reducible refine gate_callee (f:=132) rfl ?_);refine goesL_ (some 45) rfl rfl Try.func132 (by kernel_rfl) rfl #[.agg #[.int .i64 a0_0,.slice A0_1 l0_1.length c0_1,.slice A0_2 l0_2.length c0_2,.slice A0_3 l0_3.length c0_3],.string t651] rfl lp_ ?_;(with_reducible refine (spec_l3Matrix.calls k1 a0_0 _ _ l0_1 _ _ l0_2 _ _ l0_3 t651 t670 t671 _ ?side1 ?side2 ?side3 ?side4 ?side5 ?side6 A78.out).mono ?_);(case side1 => exact Kd.C_below HR0_1.out (be4_ HB.out GE640.out GE641.out GE650.out GE654.out));(case side2 => exact HC0_1.out);(case side3 => exact Kd.C_below HR0_2.out (be4_ HB.out GE640.out GE641.out GE650.out GE654.out));(case side4 => exact HC0_2.out);(case side5 => exact Kd.C_below HR0_3.out (be4_ HB.out GE640.out GE641.out GE650.out GE654.out));(case side6 => exact HC0_3.out);rintro e w89 ⟨v672,rfl,ho0,hb⟩;refine ⟨_,rfl,?_⟩;have HO673:=Aside0.mk (Kd.R_lower (Kd.R_new' ho0 (Kd.R_lt (by refine pr_ ?_;exact (Kd.R_mono (Kd.R_far (p:=⟨gb654,1,none⟩) (Kd.R_far (p:=⟨gb654,0,none⟩) (Kd.R_types HO_651001.out BK654.out (by decide)) (fun _ hk => hk.2) (.int .i64 0)) (fun _ hk => hk.2) (.slice none 0 0)) (fun _ h_ => h_.1))))) (below_size (be4_ HB.out GE640.out GE641.out GE650.out GE654.out)));replace HO_651001:=Aside0.mk (Kd.R_elder' (by refine pr_ ?_;exact (Kd.R_mono (Kd.R_far (p:=⟨gb654,1,none⟩) (Kd.R_far (p:=⟨gb654,0,none⟩) (Kd.R_types HO_651001.out BK654.out (by decide)) (fun _ hk => hk.2) (.int .i64 0)) (fun _ hk => hk.2) (.slice none 0 0)) (fun _ h_ => h_.1))) (Kd.R_base ho0) hb);replace BK640:=Aside0.mk (blk_below (g:=gb640) (o:=.cells #[.int .i64 a0_0,.slice A0_1 l0_1.length c0_1,.slice A0_2 l0_2.length c0_2,.slice A0_3 l0_3.length c0_3] 33 (0,0)) (bf1_ BK640.out NB640_654.out) hb);replace BK641:=Aside0.mk (blk_below (g:=gb641) (o:=.cells #[.int .i64 x642000_1,.slice none 0 0] 35 (0,0)) (bf1_ BK641.out NB641_654.out) hb);replace BK650:=Aside0.mk (blk_below (g:=gb650) (o:=.cells #[.int .i64 x651000_1,u651001] 35 (0,0)) (bf1_ BK650.out NB650_654.out) hb);replace BK654:=Aside0.mk (blk_below (g:=gb654) (o:=.cells #[.int .i64 0,.slice none 0 0] 35 (0,0)) (by refine pe_ ?_;refine blk_put (cs:=#[.int .i64 0,.slice none 0 0]) ?_ 1 _ rfl;refine pe_ ?_;refine blk_put (cs:=#[.int .i64 0,.slice none 0 0]) ?_ 0 _ rfl;refine pe_ ?_;exact BK654.out) hb);replace HB:=hs4_ HB GE640 GE641 GE650 GE654 hb;(try clear hb);(try clear hb2);(try clear hk);(try clear hi);(try clear ho0);obtain ⟨Ao90,co90,eo90⟩:=Kd.R_slice HO673.out;subst eo90)|((with_reducible refine gate_callee (f:=142) rfl ?_);refine goesL_ (some 46) rfl rfl Try.func142 (by kernel_rfl) rfl #[.agg #[.int .i64 t670,.slice Ao90 t671.length co90]] rfl lp_ ?_;(with_reducible refine (spec_l6Grades.calls k1 t670 _ _ t671 t674 t675 _ ?side1 ?side2 A79.out).mono ?_);(case side1 => exact cr_ (Kd.R_reads' HO673.out).2.2);(case side2 => exact (Kd.R_reads' HO673.out).2.1);rintro e w91 ⟨v676,rfl,ho0,hb⟩;refine ⟨_,rfl,?_⟩;have HO677:=Aside0.mk (Kd.R_lower (Kd.R_new' (Kd.R_new' ho0 (Kd.R_lt (pr_ HO_651001.out))) (Kd.R_lt (pr_ HO673.out))) (below_size (be4_ HB.out GE640.out GE641.out GE650.out GE654.out)));replace HO_651001:=Aside0.mk (Kd.R_elder' (pr_ HO_651001.out) (Kd.R_base ho0) hb);replace HO673:=Aside0.mk (Kd.R_elder' (pr_ HO673.out) (Kd.R_base ho0) hb);replace BK640:=kc_ BK640 hb;replace BK641:=kc_ BK641 hb;replace BK650:=kc_ BK650 hb;replace BK654:=kc_ BK654 hb;replace HB:=hs4_ HB GE640 GE641 GE650 GE654 hb;(try clear hb);(try clear hb2);(try clear hk);(try clear hi);(try clear ho0);obtain ⟨hcz92_0,hcz92_1,hfz92_0,hfz92_1⟩:=cf2_ BK654.out;obtain ⟨Ao93,co93,eo93⟩:=Kd.R_slice HO677.out;subst eo93;have hnb94:=NB650_641.out;have hnc94:=NB641_650.out;obtain ⟨hcz95_0,hcz95_1,hfz95_0,hfz95_1⟩:=cf2_ BK650.out;obtain ⟨Ao96,co96,eo96⟩:=Kd.R_slice HO_651001.out;subst eo96)|((with_reducible refine gate_callee (f:=144) rfl ?_);refine goesL_ (some 49) rfl rfl Try.func144 (by kernel_rfl) rfl #[.agg #[.int .i64 x651000_1,.slice Ao96 x651001_1.length co96],.agg #[.int .i64 t674,.slice Ao93 t675.length co93]] rfl lp_ ?_;(with_reducible refine (spec_l6Mul.calls k1 x651000_1 _ _ x651001_1 t674 _ _ t675 t678 t679 _ ?side1 ?side2 ?side3 ?side4 A80.out).mono ?_);(case side1 => refine (Kd.R_reads' (e:=3) (base:=w.heap.size) (ok:=fun k_ => ((True ∧ some k_ ≠ (.slice Ao90 t671.length co90 : Value).ownBlock) ∧ some k_ ≠ (.slice Ao93 t675.length co93 : Value).ownBlock)) (n:=x651001_1.length) (c:=co96) ?_).2.2;exact (by refine pr_ ?_;exact (Kd.R_mono (Kd.R_far (p:=⟨gb654,1,none⟩) (Kd.R_far (p:=⟨gb654,0,none⟩) (Kd.R_types HO_651001.out BK654.out (by decide)) (fun _ hk => hk.2) (.int .i64 t674)) (fun _ hk => hk.2) (.slice Ao93 t675.length co93)) (fun _ h_ => h_.1))));(case side2 => exact (Kd.R_reads' HO_651001.out).2.1);(case side3 => refine (Kd.R_reads' (e:=3) (base:=w.heap.size) (ok:=fun k_ => ((True ∧ some k_ ≠ (.slice Ao96 x651001_1.length co96 : Value).ownBlock) ∧ some k_ ≠ (.slice Ao90 t671.length co90 : Value).ownBlock)) (n:=t675.length) (c:=co93) ?_).2.2;exact (by refine pr_ ?_;exact (Kd.R_mono (Kd.R_far (p:=⟨gb654,1,none⟩) (Kd.R_far (p:=⟨gb654,0,none⟩) (Kd.R_types HO677.out BK654.out (by decide)) (fun _ hk => hk.2) (.int .i64 t674)) (fun _ hk => hk.2) (.slice Ao93 t675.length co93)) (fun _ h_ => h_.1))));(case side4 => exact (Kd.R_reads' HO677.out).2.1);rintro e w97 ⟨v680,rfl,ho0,hb⟩;refine ⟨_,rfl,?_⟩;have HO681:=Aside0.mk (Kd.R_lower (Kd.R_new' (Kd.R_new' (Kd.R_new' ho0 (Kd.R_lt (by refine pr_ ?_;exact (Kd.R_mono (Kd.R_far (p:=⟨gb654,1,none⟩) (Kd.R_far (p:=⟨gb654,0,none⟩) (Kd.R_types HO_651001.out BK654.out (by decide)) (fun _ hk => hk.2) (.int .i64 t674)) (fun _ hk => hk.2) (.slice Ao93 t675.length co93)) (fun _ h_ => h_.1))))) (Kd.R_lt (by refine pr_ ?_;exact (Kd.R_mono (Kd.R_far (p:=⟨gb654,1,none⟩) (Kd.R_far (p:=⟨gb654,0,none⟩) (Kd.R_types HO673.out BK654.out (by decide)) (fun _ hk => hk.2) (.int .i64 t674)) (fun _ hk => hk.2) (.slice Ao93 t675.length co93)) (fun _ h_ => h_.1))))) (Kd.R_lt (by refine pr_ ?_;exact (Kd.R_mono (Kd.R_far (p:=⟨gb654,1,none⟩) (Kd.R_far (p:=⟨gb654,0,none⟩) (Kd.R_types HO677.out BK654.out (by decide)) (fun _ hk => hk.2) (.int .i64 t674)) (fun _ hk => hk.2) (.slice Ao93 t675.length co93)) (fun _ h_ => h_.1))))) (below_size (be4_ HB.out GE640.out GE641.out GE650.out GE654.out)));replace HO_651001:=Aside0.mk (Kd.R_elder' (by refine pr_ ?_;exact (Kd.R_mono (Kd.R_far (p:=⟨gb654,1,none⟩) (Kd.R_far (p:=⟨gb654,0,none⟩) (Kd.R_types HO_651001.out BK654.out (by decide)) (fun _ hk => hk.2) (.int .i64 t674)) (fun _ hk => hk.2) (.slice Ao93 t675.length co93)) (fun _ h_ => h_.1))) (Kd.R_base ho0) hb);replace HO673:=Aside0.mk (Kd.R_elder' (by refine pr_ ?_;exact (Kd.R_mono (Kd.R_far (p:=⟨gb654,1,none⟩) (Kd.R_far (p:=⟨gb654,0,none⟩) (Kd.R_types HO673.out BK654.out (by decide)) (fun _ hk => hk.2) (.int .i64 t674)) (fun _ hk => hk.2) (.slice Ao93 t675.length co93)) (fun _ h_ => h_.1))) (Kd.R_base ho0) hb);replace HO677:=Aside0.mk (Kd.R_elder' (by refine pr_ ?_;exact (Kd.R_mono (Kd.R_far (p:=⟨gb654,1,none⟩) (Kd.R_far (p:=⟨gb654,0,none⟩) (Kd.R_types HO677.out BK654.out (by decide)) (fun _ hk => hk.2) (.int .i64 t674)) (fun _ hk => hk.2) (.slice Ao93 t675.length co93)) (fun _ h_ => h_.1))) (Kd.R_base ho0) hb);replace BK640:=Aside0.mk (blk_below (g:=gb640) (o:=.cells #[.int .i64 a0_0,.slice A0_1 l0_1.length c0_1,.slice A0_2 l0_2.length c0_2,.slice A0_3 l0_3.length c0_3] 33 (0,0)) (bf1_ BK640.out NB640_654.out) hb);replace BK641:=Aside0.mk (blk_below (g:=gb641) (o:=.cells #[.int .i64 x642000_1,.slice none 0 0] 35 (0,0)) (bf1_ BK641.out NB641_654.out) hb);replace BK650:=Aside0.mk (blk_below (g:=gb650) (o:=.cells #[.int .i64 x651000_1,.slice Ao96 x651001_1.length co96] 35 (0,0)) (bf1_ BK650.out NB650_654.out) hb);replace BK654:=Aside0.mk (blk_below (g:=gb654) (o:=.cells #[.int .i64 t674,.slice Ao93 t675.length co93] 35 (0,0)) (by refine pe_ ?_;refine blk_put (cs:=#[.int .i64 t674,.slice none 0 0]) ?_ 1 _ rfl;refine pe_ ?_;refine blk_put (cs:=#[.int .i64 0,.slice none 0 0]) ?_ 0 _ rfl;refine pe_ ?_;exact BK654.out) hb);replace HB:=hs4_ HB GE640 GE641 GE650 GE654 hb;(try clear hb);(try clear hb2);(try clear hk);(try clear hi);(try clear ho0);obtain ⟨hcz98_0,hcz98_1,hfz98_0,hfz98_1⟩:=cf2_ BK650.out;obtain ⟨Ao99,co99,eo99⟩:=Kd.R_slice HO681.out;subst eo99))
     go_roundg k1
     case measure => have:=HK1.out;omega
     case rel => exact ⟨(t653),(x642000_1),(t678),(t679),(.slice Ao99 t679.length co99),rs_,H',⟨by have:=HK1.out;omega⟩,⟨by refine pr_ ?_;exact Kd.R_mono (Kd.R_far (p:=⟨gb650,1,none⟩) (Kd.R_far (p:=⟨gb650,0,none⟩) (Kd.R_types HO681.out BK650.out (by decide)) (fun _ hk => hk.2) (.int .i64 t678)) (fun _ hk => hk.2) (.slice Ao99 t679.length co99)) (fun _ hk => trivial)⟩,⟨bf1_ BK640.out NB640_650.out⟩,⟨bf1_ BK641.out NB641_650.out⟩,⟨by refine pe_ ?_;refine blk_put (cs:=#[.int .i64 t678,.slice Ao96 x651001_1.length co96]) ?_ 1 _ rfl;refine pe_ ?_;refine blk_put (cs:=#[.int .i64 x651000_1,.slice Ao96 x651001_1.length co96]) ?_ 0 _ rfl;refine pe_ ?_;exact BK650.out⟩,⟨be4_ HB.out GE640.out GE641.out GE650.out GE654.out⟩⟩
def spec_ValueOf.f (k : Nat) (a0_0 : Int) (l0_1 : List Int) (l0_2 : List Int) (l0_3 : List (S92)) (a1 : ByteArray) : Option (Int × List Int × Bool):=(spec_AutomatonValid.f k a0_0 l0_1 l0_2 l0_3).bind fun t684 => (if t684 = true then ((spec_ExpressionValid.f k a1).bind fun t685 => (if t685 = true then ((spec_l7Value.f k a0_0 l0_1 l0_2 l0_3 a1).bind fun bt686 => (some (bt686.1,bt686.2.1,bt686.2.2))) else (some (0,([] : List Int),false)))) else (some (0,([] : List Int),false)))
theorem spec_ValueOf.mono : ∀ a0 a1 a2 a3 a4 k,LeO (spec_ValueOf.f k a0 a1 a2 a3 a4) (spec_ValueOf.f (k + 1) a0 a1 a2 a3 a4):=by
 intro a0 a1 a2 a3 a4 k
 unfold spec_ValueOf.f
 repeat' first
   | (with_reducible exact spec_AutomatonValid.mono _ _ _ _ _)
   | (with_reducible exact spec_ExpressionValid.mono _ _)
   | (with_reducible exact spec_l7Value.mono _ _ _ _ _ _)
   | (with_reducible first|exact LeO.refl _|exact LeO.none _|refine LeO.ite ?_ ?_|refine LeO.bind ?_ (fun _ => ?_))
   | exact spec_AutomatonValid.mono _ _ _ _ _
   | exact spec_ExpressionValid.mono _ _
   | exact spec_l7Value.mono _ _ _ _ _ _
   | exact LeO.none _
   | refine LeO.ite ?_ ?_
   | refine LeO.bind ?_ (fun _ => ?_)
set_option maxHeartbeats 8000000 in
set_option maxRecDepth 100000 in
theorem spec_ValueOf.calls (k : Nat) (a0_0 : Int) (A0_1 : Option Addr) (c0_1 : Nat) (l0_1 : List Int) (A0_2 : Option Addr) (c0_2 : Nat) (l0_2 : List Int) (A0_3 : Option Addr) (c0_3 : Nat) (l0_3 : List (S92)) (a1 : ByteArray) (r1 : Int) (r2 : List Int) (r3 : Bool) (w : World) (hr0_1 : Kd.C (Kd.int .i64) w A0_1 l0_1.length l0_1) (hc0_1 : l0_1.length ≤ c0_1) (hr0_2 : Kd.C (Kd.int .i64) w A0_2 l0_2.length l0_2) (hc0_2 : l0_2.length ≤ c0_2) (hr0_3 : Kd.C k92 w A0_3 l0_3.length l0_3) (hc0_3 : l0_3.length ≤ c0_3) (h : spec_ValueOf.f k a0_0 l0_1 l0_2 l0_3 a1 = some (r1,r2,r3)) :
  Calls Try.prog 34 #[.agg #[.int .i64 a0_0,.slice A0_1 l0_1.length c0_1,.slice A0_2 l0_2.length c0_2,.slice A0_3 l0_3.length c0_3],.string a1] w fun e w' => ∃ v1_ : Value,e = .returned (.tuple #[.agg #[.int .i64 r1,v1_],.bool r3]) ∧ Kd.R (Kd.int .i64) 3 w' w.heap.size (fun _ => True) v1_ r2 ∧ Below w.heap.size w w':=by
 have hu33:=Try.underlying33
 have hu35:=Try.underlying35
 have HR0_1:=Aside0.mk hr0_1
 have HC0_1:=Aside0.mk hc0_1
 clear hr0_1 hc0_1
 have HR0_2:=Aside0.mk hr0_2
 have HC0_2:=Aside0.mk hc0_2
 clear hr0_2 hc0_2
 have HR0_3:=Aside0.mk hr0_3
 have HC0_3:=Aside0.mk hc0_3
 clear hr0_3 hc0_3
 have HB:=Aside0.mk (Below.refl w.heap.size w)
 have H : ((spec_AutomatonValid.f k a0_0 l0_1 l0_2 l0_3).bind fun t684 => (if t684 = true then ((spec_ExpressionValid.f k a1).bind fun t685 => (if t685 = true then ((spec_l7Value.f k a0_0 l0_1 l0_2 l0_3 a1).bind fun bt686 => (some (bt686.1,bt686.2.1,bt686.2.2))) else (some (0,([] : List Int),false)))) else (some (0,([] : List Int),false)))) = some (r1,r2,r3):=h
 clear h
 replace H:=Option.bind_eq_some_iff.mp H
 obtain ⟨t684,A30,H⟩:=H
 replace H : (if t684 = true then ((spec_ExpressionValid.f k a1).bind fun t685 => (if t685 = true then ((spec_l7Value.f k a0_0 l0_1 l0_2 l0_3 a1).bind fun bt686 => (some (bt686.1,bt686.2.1,bt686.2.2))) else (some (0,([] : List Int),false)))) else (some (0,([] : List Int),false))) = some (r1,r2,r3):=H
 have A3:=Aside0.mk A30
 clear A30
 by_cases c4 : t684 = true
 ·subst c4
  have H1 : ((spec_ExpressionValid.f k a1).bind fun t685 => (if t685 = true then ((spec_l7Value.f k a0_0 l0_1 l0_2 l0_3 a1).bind fun bt686 => (some (bt686.1,bt686.2.1,bt686.2.2))) else (some (0,([] : List Int),false)))) = some (r1,r2,r3):=by rw [if_pos rfl] at H;exact H
  clear H
  have H:=H1
  clear H1
  replace H:=Option.bind_eq_some_iff.mp H
  obtain ⟨t685,A50,H⟩:=H
  replace H : (if t685 = true then ((spec_l7Value.f k a0_0 l0_1 l0_2 l0_3 a1).bind fun bt686 => (some (bt686.1,bt686.2.1,bt686.2.2))) else (some (0,([] : List Int),false))) = some (r1,r2,r3):=H
  have A5:=Aside0.mk A50
  clear A50
  by_cases c6 : t685 = true
  ·subst c6
   have H1 : ((spec_l7Value.f k a0_0 l0_1 l0_2 l0_3 a1).bind fun bt686 => (some (bt686.1,bt686.2.1,bt686.2.2))) = some (r1,r2,r3):=by rw [if_pos rfl] at H;exact H
   clear H
   have H:=H1
   clear H1
   replace H:=Option.bind_eq_some_iff.mp H
   obtain ⟨⟨t686,t687,t690⟩,A70,H⟩:=H
   replace H : (some (t686,t687,t690)) = some (r1,r2,r3):=H
   have A7:=Aside0.mk A70
   clear A70
   simp only [Option.some.injEq,Prod.mk.injEq] at H
   obtain ⟨rfl,rfl,rfl⟩:=H
   go_enter Try.func34,Try.ntmps34
   go_wp2_with (first|((with_reducible refine bev_ (N:=2) rfl rfl (cs:=#[.int .i64 a0_0,.slice A0_1 l0_1.length c0_1,.slice A0_2 l0_2.length c0_2,.slice A0_3 l0_3.length c0_3]) (t:=33) ?hr ?_);(case hr => first|(go_simp;done)|(go_simp;rfl));intro gb682 hg w8 hbox hb;have BK682:=Aside0.mk (hbox);have GW682:=gw0_ hg HB;have GE682:=GW682;replace HB:=hs0_ HB hb;clear hb hbox hg)|((with_reducible refine bev_ (N:=4) rfl rfl (cs:=#[.int .i64 0,.slice none 0 0]) (t:=35) ?hr ?_);(case hr => first|(go_simp;done)|(go_simp;rfl));intro gb683 hg w9 hbox hb;have BK683:=Aside0.mk (hbox);have GW683:=gw1_ hg HB GE682;have GE683:=GW683;replace HB:=hs1_ HB GE682 hb;have NB682_683:=nm_ hg BK682;have NB683_682:=nn_ hg BK682;replace BK682:=kc_ BK682 hb;clear hb hbox hg;have hnb10:=NB682_683.out;have hnc10:=NB683_682.out;obtain ⟨hcz11_0,hcz11_1,hcz11_2,hcz11_3,hfz11_0,hfz11_1,hfz11_2,hfz11_3⟩:=cf4_ BK682.out)|((with_reducible refine gate_callee (f:=67) rfl ?_);refine goesL_ (some 7) rfl rfl Try.func67 (by kernel_rfl) rfl #[.agg #[.int .i64 a0_0,.slice A0_1 l0_1.length c0_1,.slice A0_2 l0_2.length c0_2,.slice A0_3 l0_3.length c0_3]] rfl lp_ ?_;(with_reducible refine (spec_AutomatonValid.calls k a0_0 _ _ l0_1 _ _ l0_2 _ _ l0_3 true _ ?side1 ?side2 ?side3 ?side4 ?side5 ?side6 A3.out).mono ?_);(case side1 => exact cr_ (Kd.C_below HR0_1.out HB.out));(case side2 => exact HC0_1.out);(case side3 => exact cr_ (Kd.C_below HR0_2.out HB.out));(case side4 => exact HC0_2.out);(case side5 => exact cr_ (Kd.C_below HR0_3.out HB.out));(case side6 => exact HC0_3.out);rintro e w12 ⟨rfl,hb⟩;refine ⟨_,rfl,?_⟩;replace BK682:=kc_ BK682 hb;replace BK683:=kc_ BK683 hb;replace HB:=hs2_ HB GE682 GE683 hb;(try clear hb);(try clear hb2);(try clear hk);(try clear hi))|(go_at_call 86;(with_reducible refine (spec_ExpressionValid.calls k a1 true _ A5.out).mono ?_);rintro e w' ⟨rfl,⟨nd,rfl⟩⟩;(try (rw [drewN_self w12];generalize hq_ : World.drewN w12 _ = w12;have n0_ : Aside0 (w12.heap[gb682]? = some (.cells #[.int .i64 a0_0,.slice A0_1 l0_1.length c0_1,.slice A0_2 l0_2.length c0_2,.slice A0_3 l0_3.length c0_3] 33 (0,0))):=⟨by rw [← hq_];exact (pe_ BK682.out)⟩;have n1_ : Aside0 (w12.heap[gb683]? = some (.cells #[.int .i64 0,.slice none 0 0] 35 (0,0))):=⟨by rw [← hq_];exact (pe_ BK683.out)⟩;have n2_ : Aside0 (Below w.heap.size w w12):=⟨by rw [← hq_];exact (be2_ HB.out GE682.out GE683.out)⟩;clear BK682 BK683 HB hq_;have BK682:=n0_;have BK683:=n1_;have HB:=n2_;clear n0_ n1_ n2_));obtain ⟨hcz13_0,hcz13_1,hcz13_2,hcz13_3,hfz13_0,hfz13_1,hfz13_2,hfz13_3⟩:=cf4_ BK682.out)|((with_reducible refine gate_callee (f:=87) rfl ?_);refine goesL_ (some 17) rfl rfl Try.func87 (by kernel_rfl) rfl #[.agg #[.int .i64 a0_0,.slice A0_1 l0_1.length c0_1,.slice A0_2 l0_2.length c0_2,.slice A0_3 l0_3.length c0_3],.string a1] rfl lp_ ?_;(with_reducible refine (spec_l7Value.calls k a0_0 _ _ l0_1 _ _ l0_2 _ _ l0_3 a1 t686 t687 t690 _ ?side1 ?side2 ?side3 ?side4 ?side5 ?side6 A7.out).mono ?_);(case side1 => exact cr_ (Kd.C_below HR0_1.out HB.out));(case side2 => exact HC0_1.out);(case side3 => exact cr_ (Kd.C_below HR0_2.out HB.out));(case side4 => exact HC0_2.out);(case side5 => exact cr_ (Kd.C_below HR0_3.out HB.out));(case side6 => exact HC0_3.out);rintro e w14 ⟨v688,rfl,ho0,hb⟩;refine ⟨_,rfl,?_⟩;have HO689:=Aside0.mk (Kd.R_lower ho0 (below_size (be2_ HB.out GE682.out GE683.out)));replace BK682:=kc_ BK682 hb;replace BK683:=kc_ BK683 hb;replace HB:=hs2_ HB GE682 GE683 hb;(try clear hb);(try clear hb2);(try clear hk);(try clear hi);(try clear ho0);obtain ⟨hcz15_0,hcz15_1,hfz15_0,hfz15_1⟩:=cf2_ BK683.out;obtain ⟨Ao16,co16,eo16⟩:=Kd.R_slice HO689.out;subst eo16))
   refine bodyPost_ret (results_ct rfl _ _ gb683 35 #[.int .i64 t686,.slice Ao16 t687.length co16] (0,0) _ rfl (by refine pe_ ?_;refine blk_put (cs:=#[.int .i64 t686,.slice none 0 0]) ?_ 1 _ rfl;refine pe_ ?_;refine blk_put (cs:=#[.int .i64 0,.slice none 0 0]) ?_ 0 _ rfl;refine pe_ ?_;exact BK683.out) Try.underlying35 rfl (by kernel_rfl)) rfl ?_
   exact ⟨_,er_,by refine pr_ ?_;exact Kd.R_mono (Kd.R_far (p:=⟨gb683,1,none⟩) (Kd.R_far (p:=⟨gb683,0,none⟩) (Kd.R_types HO689.out BK683.out (by decide)) (fun _ hk => hk.2) (.int .i64 t686)) (fun _ hk => hk.2) (.slice Ao16 t687.length co16)) (fun _ hk => trivial),be2_ HB.out GE682.out GE683.out⟩
  ·replace c6:=Bool.eq_false_iff.mpr c6
   subst c6
   have H1 : (some (0,([] : List Int),false)) = some (r1,r2,r3):=by rw [if_neg (show ¬ (false = true) by decide)] at H;exact H
   clear H
   have H:=H1
   clear H1
   simp only [Option.some.injEq,Prod.mk.injEq] at H
   obtain ⟨rfl,rfl,rfl⟩:=H
   go_enter Try.func34,Try.ntmps34
   go_wp2_with (first|((with_reducible refine bev_ (N:=2) rfl rfl (cs:=#[.int .i64 a0_0,.slice A0_1 l0_1.length c0_1,.slice A0_2 l0_2.length c0_2,.slice A0_3 l0_3.length c0_3]) (t:=33) ?hr ?_);(case hr => first|(go_simp;done)|(go_simp;rfl));intro gb682 hg w17 hbox hb;have BK682:=Aside0.mk (hbox);have GW682:=gw0_ hg HB;have GE682:=GW682;replace HB:=hs0_ HB hb;clear hb hbox hg)|((with_reducible refine bev_ (N:=4) rfl rfl (cs:=#[.int .i64 0,.slice none 0 0]) (t:=35) ?hr ?_);(case hr => first|(go_simp;done)|(go_simp;rfl));intro gb683 hg w18 hbox hb;have BK683:=Aside0.mk (hbox);have GW683:=gw1_ hg HB GE682;have GE683:=GW683;replace HB:=hs1_ HB GE682 hb;have NB682_683:=nm_ hg BK682;have NB683_682:=nn_ hg BK682;replace BK682:=kc_ BK682 hb;clear hb hbox hg;have hnb19:=NB682_683.out;have hnc19:=NB683_682.out;obtain ⟨hcz20_0,hcz20_1,hcz20_2,hcz20_3,hfz20_0,hfz20_1,hfz20_2,hfz20_3⟩:=cf4_ BK682.out)|((with_reducible refine gate_callee (f:=67) rfl ?_);refine goesL_ (some 7) rfl rfl Try.func67 (by kernel_rfl) rfl #[.agg #[.int .i64 a0_0,.slice A0_1 l0_1.length c0_1,.slice A0_2 l0_2.length c0_2,.slice A0_3 l0_3.length c0_3]] rfl lp_ ?_;(with_reducible refine (spec_AutomatonValid.calls k a0_0 _ _ l0_1 _ _ l0_2 _ _ l0_3 true _ ?side1 ?side2 ?side3 ?side4 ?side5 ?side6 A3.out).mono ?_);(case side1 => exact cr_ (Kd.C_below HR0_1.out HB.out));(case side2 => exact HC0_1.out);(case side3 => exact cr_ (Kd.C_below HR0_2.out HB.out));(case side4 => exact HC0_2.out);(case side5 => exact cr_ (Kd.C_below HR0_3.out HB.out));(case side6 => exact HC0_3.out);rintro e w21 ⟨rfl,hb⟩;refine ⟨_,rfl,?_⟩;replace BK682:=kc_ BK682 hb;replace BK683:=kc_ BK683 hb;replace HB:=hs2_ HB GE682 GE683 hb;(try clear hb);(try clear hb2);(try clear hk);(try clear hi))|(go_at_call 86;(with_reducible refine (spec_ExpressionValid.calls k a1 false _ A5.out).mono ?_);rintro e w' ⟨rfl,⟨nd,rfl⟩⟩;(try (rw [drewN_self w21];generalize hq_ : World.drewN w21 _ = w21;have n0_ : Aside0 (w21.heap[gb682]? = some (.cells #[.int .i64 a0_0,.slice A0_1 l0_1.length c0_1,.slice A0_2 l0_2.length c0_2,.slice A0_3 l0_3.length c0_3] 33 (0,0))):=⟨by rw [← hq_];exact (pe_ BK682.out)⟩;have n1_ : Aside0 (w21.heap[gb683]? = some (.cells #[.int .i64 0,.slice none 0 0] 35 (0,0))):=⟨by rw [← hq_];exact (pe_ BK683.out)⟩;have n2_ : Aside0 (Below w.heap.size w w21):=⟨by rw [← hq_];exact (be2_ HB.out GE682.out GE683.out)⟩;clear BK682 BK683 HB hq_;have BK682:=n0_;have BK683:=n1_;have HB:=n2_;clear n0_ n1_ n2_));obtain ⟨hcz22_0,hcz22_1,hfz22_0,hfz22_1⟩:=cf2_ BK683.out))
   refine bodyPost_ret (results_ct rfl _ _ gb683 35 #[.int .i64 0,.slice none 0 0] (0,0) _ rfl (by refine pe_ ?_;refine blk_put (cs:=#[.int .i64 0,.slice none 0 0]) ?_ 1 _ rfl;refine pe_ ?_;refine blk_put (cs:=#[.int .i64 0,.slice none 0 0]) ?_ 0 _ rfl;refine pe_ ?_;exact BK683.out) Try.underlying35 rfl (by kernel_rfl)) rfl ?_
   exact ⟨_,er_,by first|exact Kd.R_nil _ _ _ _ _|exact Kd.N_nil _ _ _ _ _|exact Kd.V_nil _ _ _ _ _|exact Kd.Q_nil _ _ _ _ _|exact Kd.S_nil _ _ _ _ _,be2_ HB.out GE682.out GE683.out⟩
 ·replace c4:=Bool.eq_false_iff.mpr c4
  subst c4
  have H1 : (some (0,([] : List Int),false)) = some (r1,r2,r3):=by rw [if_neg (show ¬ (false = true) by decide)] at H;exact H
  clear H
  have H:=H1
  clear H1
  simp only [Option.some.injEq,Prod.mk.injEq] at H
  obtain ⟨rfl,rfl,rfl⟩:=H
  go_enter Try.func34,Try.ntmps34
  go_wp2_with (first|((with_reducible refine bev_ (N:=2) rfl rfl (cs:=#[.int .i64 a0_0,.slice A0_1 l0_1.length c0_1,.slice A0_2 l0_2.length c0_2,.slice A0_3 l0_3.length c0_3]) (t:=33) ?hr ?_);(case hr => first|(go_simp;done)|(go_simp;rfl));intro gb682 hg w23 hbox hb;have BK682:=Aside0.mk (hbox);have GW682:=gw0_ hg HB;have GE682:=GW682;replace HB:=hs0_ HB hb;clear hb hbox hg)|((with_reducible refine bev_ (N:=4) rfl rfl (cs:=#[.int .i64 0,.slice none 0 0]) (t:=35) ?hr ?_);(case hr => first|(go_simp;done)|(go_simp;rfl));intro gb683 hg w24 hbox hb;have BK683:=Aside0.mk (hbox);have GW683:=gw1_ hg HB GE682;have GE683:=GW683;replace HB:=hs1_ HB GE682 hb;have NB682_683:=nm_ hg BK682;have NB683_682:=nn_ hg BK682;replace BK682:=kc_ BK682 hb;clear hb hbox hg;have hnb25:=NB682_683.out;have hnc25:=NB683_682.out;obtain ⟨hcz26_0,hcz26_1,hcz26_2,hcz26_3,hfz26_0,hfz26_1,hfz26_2,hfz26_3⟩:=cf4_ BK682.out)|((with_reducible refine gate_callee (f:=67) rfl ?_);refine goesL_ (some 7) rfl rfl Try.func67 (by kernel_rfl) rfl #[.agg #[.int .i64 a0_0,.slice A0_1 l0_1.length c0_1,.slice A0_2 l0_2.length c0_2,.slice A0_3 l0_3.length c0_3]] rfl lp_ ?_;(with_reducible refine (spec_AutomatonValid.calls k a0_0 _ _ l0_1 _ _ l0_2 _ _ l0_3 false _ ?side1 ?side2 ?side3 ?side4 ?side5 ?side6 A3.out).mono ?_);(case side1 => exact cr_ (Kd.C_below HR0_1.out HB.out));(case side2 => exact HC0_1.out);(case side3 => exact cr_ (Kd.C_below HR0_2.out HB.out));(case side4 => exact HC0_2.out);(case side5 => exact cr_ (Kd.C_below HR0_3.out HB.out));(case side6 => exact HC0_3.out);rintro e w27 ⟨rfl,hb⟩;refine ⟨_,rfl,?_⟩;replace BK682:=kc_ BK682 hb;replace BK683:=kc_ BK683 hb;replace HB:=hs2_ HB GE682 GE683 hb;(try clear hb);(try clear hb2);(try clear hk);(try clear hi);obtain ⟨hcz28_0,hcz28_1,hfz28_0,hfz28_1⟩:=cf2_ BK683.out))
  refine bodyPost_ret (results_ct rfl _ _ gb683 35 #[.int .i64 0,.slice none 0 0] (0,0) _ rfl (by refine pe_ ?_;refine blk_put (cs:=#[.int .i64 0,.slice none 0 0]) ?_ 1 _ rfl;refine pe_ ?_;refine blk_put (cs:=#[.int .i64 0,.slice none 0 0]) ?_ 0 _ rfl;refine pe_ ?_;exact BK683.out) Try.underlying35 rfl (by kernel_rfl)) rfl ?_
  exact ⟨_,er_,by first|exact Kd.R_nil _ _ _ _ _|exact Kd.N_nil _ _ _ _ _|exact Kd.V_nil _ _ _ _ _|exact Kd.Q_nil _ _ _ _ _|exact Kd.S_nil _ _ _ _ _,be2_ HB.out GE682.out GE683.out⟩
mutual
def laws_FnExactValueOf.j0 : Nat → ByteArray → Bool → Bool → Bool → Int → List Int → List Int → List (S118) → Int → List Int → Int → List Int → List Int → List (S92) → Int → List Int → Option (Bool)
 | 0,_,_,_,_,_,_,_,_,_,_,_,_,_,_,_,_ => none
 | k + 1,x1,x7,x10,x47,x851000,x851001,x851002,x851003,x868000,x868001,x879000,x879001,x879002,x879003,x885000,x885001 => if x47 = true then (some false) else ((laws_toAutomaton.f k x851000 x851001 x851002 x851003).bind fun bt886 => ((laws_eqAutomaton.f k x879000 x879001 x879002 x879003 bt886.1 bt886.2.1 bt886.2.2.1 bt886.2.2.2).bind fun t896 => (if t896 = true then ((laws_markAutomaton.f k x879000 x879001 x879002 x879003 1).bind fun bt897 => (if bt897.1 < 0 then (laws_FnExactValueOf.j1 k x1 x7 true x851000 x851001 x851002 x851003 x868000 x868001 x885000 x885001) else ((laws_eqMatrix.f k x885000 x885001 x868000 x868001).bind fun t901 => (if t901 = true then (laws_FnExactValueOf.j1 k x1 x7 (x10 != x7) x851000 x851001 x851002 x851003 x868000 x868001 x885000 x885001) else (laws_FnExactValueOf.j1 k x1 x7 true x851000 x851001 x851002 x851003 x868000 x868001 x885000 x885001))))) else (some false))))
def laws_FnExactValueOf.j1 : Nat → ByteArray → Bool → Bool → Int → List Int → List Int → List (S118) → Int → List Int → Int → List Int → Option (Bool)
 | 0,_,_,_,_,_,_,_,_,_,_,_ => none
 | k + 1,x1,x7,x68,x851000,x851001,x851002,x851003,x868000,x868001,x885000,x885001 => if x68 = true then (some false) else ((laws_markMatrix.f k x885000 x885001 1).bind fun bt902 => ((laws_heldMatrix.f k x885000 bt902.2 1).bind fun t904 => (if t904 < 0 then (some false) else (if t904 = bt902.1 then ((laws_toAutomaton.f k x851000 x851001 x851002 x851003).bind fun bt905 => ((impl_ValueOf.f k bt905.1 bt905.2.1 bt905.2.2.1 bt905.2.2.2 x1).bind fun bt915 => ((laws_eqMatrix.f k bt915.1 bt915.2.1 x868000 x868001).bind fun t921 => (if t921 = true then (laws_FnExactValueOf.j2 k bt902.1 (bt915.2.2 != x7) x885000 bt902.2) else (laws_FnExactValueOf.j2 k bt902.1 true x885000 bt902.2))))) else (some false)))))
def laws_FnExactValueOf.j2 : Nat → Int → Bool → Int → List Int → Option (Bool)
 | 0,_,_,_,_ => none
 | k + 1,x12,x95,x885000,x885001 => if x95 = true then (some false) else ((laws_heldMatrix.f k x885000 x885001 1).bind fun t922 => (if t922 < 0 then (some false) else (if t922 = x12 then (some true) else (some false))))
end
def laws_FnExactValueOf.f (k : Nat) (a0_0 : Int) (l0_1 : List Int) (l0_2 : List Int) (l0_3 : List (S118)) (a1 : ByteArray) : Option (Bool):=if (a1.size : Int) > 1048576 then (some true) else ((laws_szAutomaton.f k a0_0 l0_1 l0_2 l0_3 1048576).bind fun t851 => (if t851 < 0 then (some true) else ((laws_toAutomaton.f k a0_0 l0_1 l0_2 l0_3).bind fun bt852 => ((spec_ValueOf.f k bt852.1 bt852.2.1 bt852.2.2.1 bt852.2.2.2 a1).bind fun bt862 => ((laws_toAutomaton.f k a0_0 l0_1 l0_2 l0_3).bind fun bt868 => ((impl_ValueOf.f k bt868.1 bt868.2.1 bt868.2.2.1 bt868.2.2.2 a1).bind fun bt879 => ((laws_eqMatrix.f k bt879.1 bt879.2.1 bt862.1 bt862.2.1).bind fun t885 => (if t885 = true then (laws_FnExactValueOf.j0 k a1 bt862.2.2 bt879.2.2 (bt879.2.2 != bt862.2.2) a0_0 l0_1 l0_2 l0_3 bt862.1 bt862.2.1 bt868.1 bt868.2.1 bt868.2.2.1 bt868.2.2.2 bt879.1 bt879.2.1) else (laws_FnExactValueOf.j0 k a1 bt862.2.2 bt879.2.2 true a0_0 l0_1 l0_2 l0_3 bt862.1 bt862.2.1 bt868.1 bt868.2.1 bt868.2.2.1 bt868.2.2.2 bt879.1 bt879.2.1)))))))))
theorem laws_FnExactValueOf.mono_l : ∀ k,(∀ y0 y1 y2 y3 y4 y5 y6 y7 y8 y9 y10 y11 y12 y13 y14 y15,LeO (laws_FnExactValueOf.j0 k y0 y1 y2 y3 y4 y5 y6 y7 y8 y9 y10 y11 y12 y13 y14 y15) (laws_FnExactValueOf.j0 (k + 1) y0 y1 y2 y3 y4 y5 y6 y7 y8 y9 y10 y11 y12 y13 y14 y15)) ∧ (∀ y0 y1 y2 y3 y4 y5 y6 y7 y8 y9 y10,LeO (laws_FnExactValueOf.j1 k y0 y1 y2 y3 y4 y5 y6 y7 y8 y9 y10) (laws_FnExactValueOf.j1 (k + 1) y0 y1 y2 y3 y4 y5 y6 y7 y8 y9 y10)) ∧ (∀ y0 y1 y2 y3,LeO (laws_FnExactValueOf.j2 k y0 y1 y2 y3) (laws_FnExactValueOf.j2 (k + 1) y0 y1 y2 y3))
 | 0 => ⟨fun _ _ _ _ _ _ _ _ _ _ _ _ _ _ _ _ r h => by simp [laws_FnExactValueOf.j0] at h,fun _ _ _ _ _ _ _ _ _ _ _ r h => by simp [laws_FnExactValueOf.j1] at h,fun _ _ _ _ r h => by simp [laws_FnExactValueOf.j2] at h⟩
 | k + 1 => by
  obtain ⟨ih0,ih1,ih2⟩:=laws_FnExactValueOf.mono_l k
  refine ⟨?_,?_,?_⟩
  ·intro y0 y1 y2 y3 y4 y5 y6 y7 y8 y9 y10 y11 y12 y13 y14 y15
   unfold laws_FnExactValueOf.j0
   repeat' first
   | (with_reducible exact ih0 _ _ _ _ _ _ _ _ _ _ _ _ _ _ _ _)
   | (with_reducible exact ih1 _ _ _ _ _ _ _ _ _ _ _)
   | (with_reducible exact ih2 _ _ _ _)
   | (with_reducible exact impl_ValueOf.mono _ _ _ _ _ _)
   | (with_reducible exact laws_eqAutomaton.mono _ _ _ _ _ _ _ _ _)
   | (with_reducible exact laws_eqMatrix.mono _ _ _ _ _)
   | (with_reducible exact laws_heldMatrix.mono _ _ _ _)
   | (with_reducible exact laws_markAutomaton.mono _ _ _ _ _ _)
   | (with_reducible exact laws_markMatrix.mono _ _ _ _)
   | (with_reducible exact laws_szAutomaton.mono _ _ _ _ _ _)
   | (with_reducible exact laws_toAutomaton.mono _ _ _ _ _)
   | (with_reducible exact spec_ValueOf.mono _ _ _ _ _ _)
   | (with_reducible first|exact LeO.refl _|exact LeO.none _|refine LeO.ite ?_ ?_|refine LeO.bind ?_ (fun _ => ?_))
   | exact ih0 _ _ _ _ _ _ _ _ _ _ _ _ _ _ _ _
   | exact ih1 _ _ _ _ _ _ _ _ _ _ _
   | exact ih2 _ _ _ _
   | exact impl_ValueOf.mono _ _ _ _ _ _
   | exact laws_eqAutomaton.mono _ _ _ _ _ _ _ _ _
   | exact laws_eqMatrix.mono _ _ _ _ _
   | exact laws_heldMatrix.mono _ _ _ _
   | exact laws_markAutomaton.mono _ _ _ _ _ _
   | exact laws_markMatrix.mono _ _ _ _
   | exact laws_szAutomaton.mono _ _ _ _ _ _
   | exact laws_toAutomaton.mono _ _ _ _ _
   | exact spec_ValueOf.mono _ _ _ _ _ _
   | exact LeO.none _
   | refine LeO.ite ?_ ?_
   | refine LeO.bind ?_ (fun _ => ?_)
  ·intro y0 y1 y2 y3 y4 y5 y6 y7 y8 y9 y10
   unfold laws_FnExactValueOf.j1
   repeat' first
   | (with_reducible exact ih0 _ _ _ _ _ _ _ _ _ _ _ _ _ _ _ _)
   | (with_reducible exact ih1 _ _ _ _ _ _ _ _ _ _ _)
   | (with_reducible exact ih2 _ _ _ _)
   | (with_reducible exact impl_ValueOf.mono _ _ _ _ _ _)
   | (with_reducible exact laws_eqAutomaton.mono _ _ _ _ _ _ _ _ _)
   | (with_reducible exact laws_eqMatrix.mono _ _ _ _ _)
   | (with_reducible exact laws_heldMatrix.mono _ _ _ _)
   | (with_reducible exact laws_markAutomaton.mono _ _ _ _ _ _)
   | (with_reducible exact laws_markMatrix.mono _ _ _ _)
   | (with_reducible exact laws_szAutomaton.mono _ _ _ _ _ _)
   | (with_reducible exact laws_toAutomaton.mono _ _ _ _ _)
   | (with_reducible exact spec_ValueOf.mono _ _ _ _ _ _)
   | (with_reducible first|exact LeO.refl _|exact LeO.none _|refine LeO.ite ?_ ?_|refine LeO.bind ?_ (fun _ => ?_))
   | exact ih0 _ _ _ _ _ _ _ _ _ _ _ _ _ _ _ _
   | exact ih1 _ _ _ _ _ _ _ _ _ _ _
   | exact ih2 _ _ _ _
   | exact impl_ValueOf.mono _ _ _ _ _ _
   | exact laws_eqAutomaton.mono _ _ _ _ _ _ _ _ _
   | exact laws_eqMatrix.mono _ _ _ _ _
   | exact laws_heldMatrix.mono _ _ _ _
   | exact laws_markAutomaton.mono _ _ _ _ _ _
   | exact laws_markMatrix.mono _ _ _ _
   | exact laws_szAutomaton.mono _ _ _ _ _ _
   | exact laws_toAutomaton.mono _ _ _ _ _
   | exact spec_ValueOf.mono _ _ _ _ _ _
   | exact LeO.none _
   | refine LeO.ite ?_ ?_
   | refine LeO.bind ?_ (fun _ => ?_)
  ·intro y0 y1 y2 y3
   unfold laws_FnExactValueOf.j2
   repeat' first
   | (with_reducible exact ih0 _ _ _ _ _ _ _ _ _ _ _ _ _ _ _ _)
   | (with_reducible exact ih1 _ _ _ _ _ _ _ _ _ _ _)
   | (with_reducible exact ih2 _ _ _ _)
   | (with_reducible exact impl_ValueOf.mono _ _ _ _ _ _)
   | (with_reducible exact laws_eqAutomaton.mono _ _ _ _ _ _ _ _ _)
   | (with_reducible exact laws_eqMatrix.mono _ _ _ _ _)
   | (with_reducible exact laws_heldMatrix.mono _ _ _ _)
   | (with_reducible exact laws_markAutomaton.mono _ _ _ _ _ _)
   | (with_reducible exact laws_markMatrix.mono _ _ _ _)
   | (with_reducible exact laws_szAutomaton.mono _ _ _ _ _ _)
   | (with_reducible exact laws_toAutomaton.mono _ _ _ _ _)
   | (with_reducible exact spec_ValueOf.mono _ _ _ _ _ _)
   | (with_reducible first|exact LeO.refl _|exact LeO.none _|refine LeO.ite ?_ ?_|refine LeO.bind ?_ (fun _ => ?_))
   | exact ih0 _ _ _ _ _ _ _ _ _ _ _ _ _ _ _ _
   | exact ih1 _ _ _ _ _ _ _ _ _ _ _
   | exact ih2 _ _ _ _
   | exact impl_ValueOf.mono _ _ _ _ _ _
   | exact laws_eqAutomaton.mono _ _ _ _ _ _ _ _ _
   | exact laws_eqMatrix.mono _ _ _ _ _
   | exact laws_heldMatrix.mono _ _ _ _
   | exact laws_markAutomaton.mono _ _ _ _ _ _
   | exact laws_markMatrix.mono _ _ _ _
   | exact laws_szAutomaton.mono _ _ _ _ _ _
   | exact laws_toAutomaton.mono _ _ _ _ _
   | exact spec_ValueOf.mono _ _ _ _ _ _
   | exact LeO.none _
   | refine LeO.ite ?_ ?_
   | refine LeO.bind ?_ (fun _ => ?_)
theorem laws_FnExactValueOf.mono : ∀ a0 a1 a2 a3 a4 k,LeO (laws_FnExactValueOf.f k a0 a1 a2 a3 a4) (laws_FnExactValueOf.f (k + 1) a0 a1 a2 a3 a4):=by
 intro a0 a1 a2 a3 a4 k
 obtain ⟨ih0,ih1,ih2⟩:=laws_FnExactValueOf.mono_l k
 unfold laws_FnExactValueOf.f
 repeat' first
   | (with_reducible exact ih0 _ _ _ _ _ _ _ _ _ _ _ _ _ _ _ _)
   | (with_reducible exact ih1 _ _ _ _ _ _ _ _ _ _ _)
   | (with_reducible exact ih2 _ _ _ _)
   | (with_reducible exact impl_ValueOf.mono _ _ _ _ _ _)
   | (with_reducible exact laws_eqAutomaton.mono _ _ _ _ _ _ _ _ _)
   | (with_reducible exact laws_eqMatrix.mono _ _ _ _ _)
   | (with_reducible exact laws_heldMatrix.mono _ _ _ _)
   | (with_reducible exact laws_markAutomaton.mono _ _ _ _ _ _)
   | (with_reducible exact laws_markMatrix.mono _ _ _ _)
   | (with_reducible exact laws_szAutomaton.mono _ _ _ _ _ _)
   | (with_reducible exact laws_toAutomaton.mono _ _ _ _ _)
   | (with_reducible exact spec_ValueOf.mono _ _ _ _ _ _)
   | (with_reducible first|exact LeO.refl _|exact LeO.none _|refine LeO.ite ?_ ?_|refine LeO.bind ?_ (fun _ => ?_))
   | exact ih0 _ _ _ _ _ _ _ _ _ _ _ _ _ _ _ _
   | exact ih1 _ _ _ _ _ _ _ _ _ _ _
   | exact ih2 _ _ _ _
   | exact impl_ValueOf.mono _ _ _ _ _ _
   | exact laws_eqAutomaton.mono _ _ _ _ _ _ _ _ _
   | exact laws_eqMatrix.mono _ _ _ _ _
   | exact laws_heldMatrix.mono _ _ _ _
   | exact laws_markAutomaton.mono _ _ _ _ _ _
   | exact laws_markMatrix.mono _ _ _ _
   | exact laws_szAutomaton.mono _ _ _ _ _ _
   | exact laws_toAutomaton.mono _ _ _ _ _
   | exact spec_ValueOf.mono _ _ _ _ _ _
   | exact LeO.none _
   | refine LeO.ite ?_ ?_
   | refine LeO.bind ?_ (fun _ => ?_)
set_option maxHeartbeats 8000000 in
set_option maxRecDepth 100000 in
theorem laws_FnExactValueOf.calls (k : Nat) (a0_0 : Int) (A0_1 : Option Addr) (c0_1 : Nat) (l0_1 : List Int) (A0_2 : Option Addr) (c0_2 : Nat) (l0_2 : List Int) (A0_3 : Option Addr) (c0_3 : Nat) (l0_3 : List (S118)) (a1 : ByteArray) (r : Bool) (w : World) (hr0_1 : Kd.C (Kd.int .i64) w A0_1 l0_1.length l0_1) (hc0_1 : l0_1.length ≤ c0_1) (hr0_2 : Kd.C (Kd.int .i64) w A0_2 l0_2.length l0_2) (hc0_2 : l0_2.length ≤ c0_2) (hr0_3 : Kd.C k118 w A0_3 l0_3.length l0_3) (hc0_3 : l0_3.length ≤ c0_3) (h : laws_FnExactValueOf.f k a0_0 l0_1 l0_2 l0_3 a1 = some r) :
  Calls Try.prog 7 #[.agg #[.int .i64 a0_0,.slice A0_1 l0_1.length c0_1,.slice A0_2 l0_2.length c0_2,.slice A0_3 l0_3.length c0_3],.string a1] w fun e w' => e = .returned (.bool r) ∧ Below w.heap.size w w':=by
 have hu25:=Try.underlying25
 have hu35:=Try.underlying35
 have hu33:=Try.underlying33
 have HR0_1:=Aside0.mk hr0_1
 have HC0_1:=Aside0.mk hc0_1
 clear hr0_1 hc0_1
 have HR0_2:=Aside0.mk hr0_2
 have HC0_2:=Aside0.mk hc0_2
 clear hr0_2 hc0_2
 have HR0_3:=Aside0.mk hr0_3
 have HC0_3:=Aside0.mk hc0_3
 clear hr0_3 hc0_3
 have HB:=Aside0.mk (Below.refl w.heap.size w)
 have H : (if (a1.size : Int) > 1048576 then (some true) else ((laws_szAutomaton.f k a0_0 l0_1 l0_2 l0_3 1048576).bind fun t851 => (if t851 < 0 then (some true) else ((laws_toAutomaton.f k a0_0 l0_1 l0_2 l0_3).bind fun bt852 => ((spec_ValueOf.f k bt852.1 bt852.2.1 bt852.2.2.1 bt852.2.2.2 a1).bind fun bt862 => ((laws_toAutomaton.f k a0_0 l0_1 l0_2 l0_3).bind fun bt868 => ((impl_ValueOf.f k bt868.1 bt868.2.1 bt868.2.2.1 bt868.2.2.2 a1).bind fun bt879 => ((laws_eqMatrix.f k bt879.1 bt879.2.1 bt862.1 bt862.2.1).bind fun t885 => (if t885 = true then (laws_FnExactValueOf.j0 k a1 bt862.2.2 bt879.2.2 (bt879.2.2 != bt862.2.2) a0_0 l0_1 l0_2 l0_3 bt862.1 bt862.2.1 bt868.1 bt868.2.1 bt868.2.2.1 bt868.2.2.2 bt879.1 bt879.2.1) else (laws_FnExactValueOf.j0 k a1 bt862.2.2 bt879.2.2 true a0_0 l0_1 l0_2 l0_3 bt862.1 bt862.2.1 bt868.1 bt868.2.1 bt868.2.2.1 bt868.2.2.2 bt879.1 bt879.2.1)))))))))) = some r:=h
 clear h
 by_cases c3 : (a1.size : Int) > 1048576
 ·rw [if_pos c3] at H
  have c3b0 : decide (1048576 < (a1.size : Int)) = true:=decide_eq_true c3
  have c3b1 : decide (1048576 < a1.size) = true:=decide_eq_true (by omega)
  clear c3
  obtain rfl:=Option.some.inj H
  go_enter Try.func7,Try.ntmps7
  go_wp2_with (first|((with_reducible refine bev_ (N:=2) rfl rfl (cs:=#[.int .i64 a0_0,.slice A0_1 l0_1.length c0_1,.slice A0_2 l0_2.length c0_2,.slice A0_3 l0_3.length c0_3]) (t:=25) ?hr ?_);(case hr => first|(go_simp;done)|(go_simp;rfl));intro gb850 hg w4 hbox hb;have BK850:=Aside0.mk (hbox);have GW850:=gw0_ hg HB;have GE850:=GW850;replace HB:=hs0_ HB hb;clear hb hbox hg))
  go_ret
  exact ⟨er_,be1_ HB.out GE850.out⟩
 ·rw [if_neg c3] at H
  have c3b0 : decide (1048576 < (a1.size : Int)) = false:=decide_eq_false c3
  have c3b1 : decide (1048576 < a1.size) = false:=decide_eq_false (by omega)
  clear c3
  replace H:=Option.bind_eq_some_iff.mp H
  obtain ⟨t851,A50,H⟩:=H
  replace H : (if t851 < 0 then (some true) else ((laws_toAutomaton.f k a0_0 l0_1 l0_2 l0_3).bind fun bt852 => ((spec_ValueOf.f k bt852.1 bt852.2.1 bt852.2.2.1 bt852.2.2.2 a1).bind fun bt862 => ((laws_toAutomaton.f k a0_0 l0_1 l0_2 l0_3).bind fun bt868 => ((impl_ValueOf.f k bt868.1 bt868.2.1 bt868.2.2.1 bt868.2.2.2 a1).bind fun bt879 => ((laws_eqMatrix.f k bt879.1 bt879.2.1 bt862.1 bt862.2.1).bind fun t885 => (if t885 = true then (laws_FnExactValueOf.j0 k a1 bt862.2.2 bt879.2.2 (bt879.2.2 != bt862.2.2) a0_0 l0_1 l0_2 l0_3 bt862.1 bt862.2.1 bt868.1 bt868.2.1 bt868.2.2.1 bt868.2.2.2 bt879.1 bt879.2.1) else (laws_FnExactValueOf.j0 k a1 bt862.2.2 bt879.2.2 true a0_0 l0_1 l0_2 l0_3 bt862.1 bt862.2.1 bt868.1 bt868.2.1 bt868.2.2.1 bt868.2.2.2 bt879.1 bt879.2.1)))))))) = some r:=H
  have A5:=Aside0.mk A50
  clear A50
  by_cases c6 : t851 < 0
  ·rw [if_pos c6] at H
   have c6b0 : decide (t851 < 0) = true:=decide_eq_true c6
   clear c6
   obtain rfl:=Option.some.inj H
   go_enter Try.func7,Try.ntmps7
   go_wp2_with (first|((with_reducible refine bev_ (N:=2) rfl rfl (cs:=#[.int .i64 a0_0,.slice A0_1 l0_1.length c0_1,.slice A0_2 l0_2.length c0_2,.slice A0_3 l0_3.length c0_3]) (t:=25) ?hr ?_);(case hr => first|(go_simp;done)|(go_simp;rfl));intro gb850 hg w7 hbox hb;have BK850:=Aside0.mk (hbox);have GW850:=gw0_ hg HB;have GE850:=GW850;replace HB:=hs0_ HB hb;clear hb hbox hg;obtain ⟨hcz8_0,hcz8_1,hcz8_2,hcz8_3,hfz8_0,hfz8_1,hfz8_2,hfz8_3⟩:=cf4_ BK850.out)|((with_reducible refine gate_callee (f:=14) rfl ?_);refine goesL_ (some 21) rfl rfl Try.func14 (by kernel_rfl) rfl #[.agg #[.int .i64 a0_0,.slice A0_1 l0_1.length c0_1,.slice A0_2 l0_2.length c0_2,.slice A0_3 l0_3.length c0_3],.int .i64 1048576] rfl lp_ ?_;(with_reducible refine (laws_szAutomaton.calls k a0_0 _ _ l0_1 _ _ l0_2 _ _ l0_3 1048576 t851 _ ?side1 ?side2 ?side3 ?side4 ?side5 ?side6 A5.out).mono ?_);(case side1 => exact cr_ (Kd.C_below HR0_1.out HB.out));(case side2 => exact HC0_1.out);(case side3 => exact cr_ (Kd.C_below HR0_2.out HB.out));(case side4 => exact HC0_2.out);(case side5 => exact cr_ (Kd.C_below HR0_3.out HB.out));(case side6 => exact HC0_3.out);rintro e w9 ⟨rfl,hb⟩;refine ⟨_,rfl,?_⟩;replace BK850:=kc_ BK850 hb;replace HB:=hs1_ HB GE850 hb;(try clear hb);(try clear hb2);(try clear hk);(try clear hi)))
   go_ret
   exact ⟨er_,be1_ HB.out GE850.out⟩
  ·rw [if_neg c6] at H
   have c6b0 : decide (t851 < 0) = false:=decide_eq_false c6
   clear c6
   replace H:=Option.bind_eq_some_iff.mp H
   obtain ⟨⟨t852,t853,t856,t859⟩,A100,H⟩:=H
   replace H : ((spec_ValueOf.f k t852 t853 t856 t859 a1).bind fun bt862 => ((laws_toAutomaton.f k a0_0 l0_1 l0_2 l0_3).bind fun bt868 => ((impl_ValueOf.f k bt868.1 bt868.2.1 bt868.2.2.1 bt868.2.2.2 a1).bind fun bt879 => ((laws_eqMatrix.f k bt879.1 bt879.2.1 bt862.1 bt862.2.1).bind fun t885 => (if t885 = true then (laws_FnExactValueOf.j0 k a1 bt862.2.2 bt879.2.2 (bt879.2.2 != bt862.2.2) a0_0 l0_1 l0_2 l0_3 bt862.1 bt862.2.1 bt868.1 bt868.2.1 bt868.2.2.1 bt868.2.2.2 bt879.1 bt879.2.1) else (laws_FnExactValueOf.j0 k a1 bt862.2.2 bt879.2.2 true a0_0 l0_1 l0_2 l0_3 bt862.1 bt862.2.1 bt868.1 bt868.2.1 bt868.2.2.1 bt868.2.2.2 bt879.1 bt879.2.1)))))) = some r:=H
   have A10:=Aside0.mk A100
   clear A100
   replace H:=Option.bind_eq_some_iff.mp H
   obtain ⟨⟨t862,t863,t866⟩,A110,H⟩:=H
   replace H : ((laws_toAutomaton.f k a0_0 l0_1 l0_2 l0_3).bind fun bt868 => ((impl_ValueOf.f k bt868.1 bt868.2.1 bt868.2.2.1 bt868.2.2.2 a1).bind fun bt879 => ((laws_eqMatrix.f k bt879.1 bt879.2.1 t862 t863).bind fun t885 => (if t885 = true then (laws_FnExactValueOf.j0 k a1 t866 bt879.2.2 (bt879.2.2 != t866) a0_0 l0_1 l0_2 l0_3 t862 t863 bt868.1 bt868.2.1 bt868.2.2.1 bt868.2.2.2 bt879.1 bt879.2.1) else (laws_FnExactValueOf.j0 k a1 t866 bt879.2.2 true a0_0 l0_1 l0_2 l0_3 t862 t863 bt868.1 bt868.2.1 bt868.2.2.1 bt868.2.2.2 bt879.1 bt879.2.1))))) = some r:=H
   have A11:=Aside0.mk A110
   clear A110
   replace H:=Option.bind_eq_some_iff.mp H
   obtain ⟨⟨t868,t869,t872,t875⟩,A120,H⟩:=H
   replace H : ((impl_ValueOf.f k t868 t869 t872 t875 a1).bind fun bt879 => ((laws_eqMatrix.f k bt879.1 bt879.2.1 t862 t863).bind fun t885 => (if t885 = true then (laws_FnExactValueOf.j0 k a1 t866 bt879.2.2 (bt879.2.2 != t866) a0_0 l0_1 l0_2 l0_3 t862 t863 t868 t869 t872 t875 bt879.1 bt879.2.1) else (laws_FnExactValueOf.j0 k a1 t866 bt879.2.2 true a0_0 l0_1 l0_2 l0_3 t862 t863 t868 t869 t872 t875 bt879.1 bt879.2.1)))) = some r:=H
   have A12:=Aside0.mk A120
   clear A120
   replace H:=Option.bind_eq_some_iff.mp H
   obtain ⟨⟨t879,t880,t883⟩,A130,H⟩:=H
   replace H : ((laws_eqMatrix.f k t879 t880 t862 t863).bind fun t885 => (if t885 = true then (laws_FnExactValueOf.j0 k a1 t866 t883 (t883 != t866) a0_0 l0_1 l0_2 l0_3 t862 t863 t868 t869 t872 t875 t879 t880) else (laws_FnExactValueOf.j0 k a1 t866 t883 true a0_0 l0_1 l0_2 l0_3 t862 t863 t868 t869 t872 t875 t879 t880))) = some r:=H
   have A13:=Aside0.mk A130
   clear A130
   have HC14:=Aside0.mk H
   clear H
   go_enter Try.func7,Try.ntmps7
   go_upto_region 10 with (first|((with_reducible refine bev_ (N:=2) rfl rfl (cs:=#[.int .i64 a0_0,.slice A0_1 l0_1.length c0_1,.slice A0_2 l0_2.length c0_2,.slice A0_3 l0_3.length c0_3]) (t:=25) ?hr ?_);(case hr => first|(go_simp;done)|(go_simp;rfl));intro gb850 hg w15 hbox hb;have BK850:=Aside0.mk (hbox);have GW850:=gw0_ hg HB;have GE850:=GW850;replace HB:=hs0_ HB hb;clear hb hbox hg;obtain ⟨hcz16_0,hcz16_1,hcz16_2,hcz16_3,hfz16_0,hfz16_1,hfz16_2,hfz16_3⟩:=cf4_ BK850.out)|((with_reducible refine gate_callee (f:=14) rfl ?_);refine goesL_ (some 21) rfl rfl Try.func14 (by kernel_rfl) rfl #[.agg #[.int .i64 a0_0,.slice A0_1 l0_1.length c0_1,.slice A0_2 l0_2.length c0_2,.slice A0_3 l0_3.length c0_3],.int .i64 1048576] rfl lp_ ?_;(with_reducible refine (laws_szAutomaton.calls k a0_0 _ _ l0_1 _ _ l0_2 _ _ l0_3 1048576 t851 _ ?side1 ?side2 ?side3 ?side4 ?side5 ?side6 A5.out).mono ?_);(case side1 => exact cr_ (Kd.C_below HR0_1.out HB.out));(case side2 => exact HC0_1.out);(case side3 => exact cr_ (Kd.C_below HR0_2.out HB.out));(case side4 => exact HC0_2.out);(case side5 => exact cr_ (Kd.C_below HR0_3.out HB.out));(case side6 => exact HC0_3.out);rintro e w17 ⟨rfl,hb⟩;refine ⟨_,rfl,?_⟩;replace BK850:=kc_ BK850 hb;replace HB:=hs1_ HB GE850 hb;(try clear hb);(try clear hb2);(try clear hk);(try clear hi);obtain ⟨hcz18_0,hcz18_1,hcz18_2,hcz18_3,hfz18_0,hfz18_1,hfz18_2,hfz18_3⟩:=cf4_ BK850.out)|((with_reducible refine gate_callee (f:=17) rfl ?_);refine goesL_ (some 26) rfl rfl Try.func17 (by kernel_rfl) rfl #[.agg #[.int .i64 a0_0,.slice A0_1 l0_1.length c0_1,.slice A0_2 l0_2.length c0_2,.slice A0_3 l0_3.length c0_3]] rfl lp_ ?_;(with_reducible refine (laws_toAutomaton.calls k a0_0 _ _ l0_1 _ _ l0_2 _ _ l0_3 t852 t853 t856 t859 _ ?side1 ?side2 ?side3 ?side4 ?side5 ?side6 A10.out).mono ?_);(case side1 => exact cr_ (Kd.C_below HR0_1.out HB.out));(case side2 => exact HC0_1.out);(case side3 => exact cr_ (Kd.C_below HR0_2.out HB.out));(case side4 => exact HC0_2.out);(case side5 => exact cr_ (Kd.C_below HR0_3.out HB.out));(case side6 => exact HC0_3.out);rintro e w19 ⟨v854,v857,v860,rfl,ho0,ho1,ho2,hb⟩;refine ⟨_,rfl,?_⟩;have HO855:=Aside0.mk (Kd.R_lower ho0 (below_size (be1_ HB.out GE850.out)));have HO858:=Aside0.mk (Kd.R_lower ho1 (below_size (be1_ HB.out GE850.out)));have HO861:=Aside0.mk (Kd.R_lower ho2 (below_size (be1_ HB.out GE850.out)));replace BK850:=kc_ BK850 hb;replace HB:=hs1_ HB GE850 hb;(try clear hb);(try clear hb2);(try clear hk);(try clear hi);(try clear ho0);(try clear ho1);(try clear ho2);obtain ⟨Ao20,co20,eo20⟩:=Kd.R_slice HO855.out;subst eo20;obtain ⟨Ao21,co21,eo21⟩:=Kd.R_slice HO858.out;subst eo21;obtain ⟨Ao22,co22,eo22⟩:=Kd.R_slice HO861.out;subst eo22)|((with_reducible refine gate_callee (f:=34) rfl ?_);refine goesL_ (some 28) rfl rfl Try.func34 (by kernel_rfl) rfl #[.agg #[.int .i64 t852,.slice Ao20 t853.length co20,.slice Ao21 t856.length co21,.slice Ao22 t859.length co22],.string a1] rfl lp_ ?_;(with_reducible refine (spec_ValueOf.calls k t852 _ _ t853 _ _ t856 _ _ t859 a1 t862 t863 t866 _ ?side1 ?side2 ?side3 ?side4 ?side5 ?side6 A11.out).mono ?_);(case side1 => exact cr_ (Kd.R_reads' HO855.out).2.2);(case side2 => exact (Kd.R_reads' HO855.out).2.1);(case side3 => exact cr_ (Kd.R_reads' HO858.out).2.2);(case side4 => exact (Kd.R_reads' HO858.out).2.1);(case side5 => exact cr_ (Kd.R_reads' HO861.out).2.2);(case side6 => exact (Kd.R_reads' HO861.out).2.1);rintro e w23 ⟨v864,rfl,ho0,hb⟩;refine ⟨_,rfl,?_⟩;replace HO861:=Aside0.mk (Kd.R_below (pr_ HO861.out) hb);have HO865:=Aside0.mk (Kd.R_lower (Kd.R_new' (Kd.R_new' ho0 (Kd.R_lt (pr_ HO855.out))) (Kd.R_lt (pr_ HO858.out))) (below_size (be1_ HB.out GE850.out)));replace HO855:=Aside0.mk (Kd.R_elder' (pr_ HO855.out) (Kd.R_base ho0) hb);replace HO858:=Aside0.mk (Kd.R_elder' (pr_ HO858.out) (Kd.R_base ho0) hb);replace BK850:=kc_ BK850 hb;replace HB:=hs1_ HB GE850 hb;(try clear hb);(try clear hb2);(try clear hk);(try clear hi);(try clear ho0))|((with_reducible refine bev_ (N:=6) rfl rfl (cs:=#[.int .i64 0,.slice none 0 0]) (t:=35) ?hr ?_);(case hr => first|(go_simp;done)|(go_simp;rfl));intro gb867 hg w24 hbox hb;replace HO855:=Aside0.mk (Kd.R_below (pr_ HO855.out) hb);replace HO858:=Aside0.mk (Kd.R_below (pr_ HO858.out) hb);replace HO861:=Aside0.mk (Kd.R_below (pr_ HO861.out) hb);replace HO865:=Aside0.mk (Kd.R_below (pr_ HO865.out) hb);have BK867:=Aside0.mk (hbox);have GW867:=gw1_ hg HB GE850;have GE867:=GW867;replace HB:=hs1_ HB GE850 hb;have NB850_867:=nm_ hg BK850;have NB867_850:=nn_ hg BK850;replace BK850:=kc_ BK850 hb;clear hb hbox hg;have hnb25:=NB867_850.out;have hnc25:=NB850_867.out;obtain ⟨hcz26_0,hcz26_1,hfz26_0,hfz26_1⟩:=cf2_ BK867.out;obtain ⟨Ao27,co27,eo27⟩:=Kd.R_slice HO865.out;subst eo27;obtain ⟨hcz28_0,hcz28_1,hcz28_2,hcz28_3,hfz28_0,hfz28_1,hfz28_2,hfz28_3⟩:=cf4_ BK850.out)|((with_reducible refine gate_callee (f:=17) rfl ?_);refine goesL_ (some 32) rfl rfl Try.func17 (by kernel_rfl) rfl #[.agg #[.int .i64 a0_0,.slice A0_1 l0_1.length c0_1,.slice A0_2 l0_2.length c0_2,.slice A0_3 l0_3.length c0_3]] rfl lp_ ?_;(with_reducible refine (laws_toAutomaton.calls k a0_0 _ _ l0_1 _ _ l0_2 _ _ l0_3 t868 t869 t872 t875 _ ?side1 ?side2 ?side3 ?side4 ?side5 ?side6 A12.out).mono ?_);(case side1 => exact Kd.C_below HR0_1.out (be2_ HB.out GE850.out GE867.out));(case side2 => exact HC0_1.out);(case side3 => exact Kd.C_below HR0_2.out (be2_ HB.out GE850.out GE867.out));(case side4 => exact HC0_2.out);(case side5 => exact Kd.C_below HR0_3.out (be2_ HB.out GE850.out GE867.out));(case side6 => exact HC0_3.out);rintro e w29 ⟨v870,v873,v876,rfl,ho0,ho1,ho2,hb⟩;refine ⟨_,rfl,?_⟩;have HO871:=Aside0.mk (Kd.R_lower (Kd.R_new' (Kd.R_new' (Kd.R_new' ho0 (Kd.R_lt (by refine pr_ ?_;exact (Kd.R_mono (Kd.R_far (p:=⟨gb867,1,none⟩) (Kd.R_far (p:=⟨gb867,0,none⟩) (Kd.R_types HO855.out BK867.out (by decide)) (fun _ hk => hk.2) (.int .i64 t862)) (fun _ hk => hk.2) (.slice Ao27 t863.length co27)) (fun _ h_ => h_.1))))) (Kd.R_lt (by refine pr_ ?_;exact (Kd.R_mono (Kd.R_far (p:=⟨gb867,1,none⟩) (Kd.R_far (p:=⟨gb867,0,none⟩) (Kd.R_types HO858.out BK867.out (by decide)) (fun _ hk => hk.2) (.int .i64 t862)) (fun _ hk => hk.2) (.slice Ao27 t863.length co27)) (fun _ h_ => h_.1))))) (Kd.R_lt (by refine pr_ ?_;exact (Kd.R_mono (Kd.R_far (p:=⟨gb867,1,none⟩) (Kd.R_far (p:=⟨gb867,0,none⟩) (Kd.R_types HO865.out BK867.out (by decide)) (fun _ hk => hk.2) (.int .i64 t862)) (fun _ hk => hk.2) (.slice Ao27 t863.length co27)) (fun _ h_ => h_.1))))) (below_size (be2_ HB.out GE850.out GE867.out)));have HO874:=Aside0.mk (Kd.R_lower (Kd.R_new' (Kd.R_new' (Kd.R_new' ho1 (Kd.R_lt (by refine pr_ ?_;exact (Kd.R_mono (Kd.R_far (p:=⟨gb867,1,none⟩) (Kd.R_far (p:=⟨gb867,0,none⟩) (Kd.R_types HO855.out BK867.out (by decide)) (fun _ hk => hk.2) (.int .i64 t862)) (fun _ hk => hk.2) (.slice Ao27 t863.length co27)) (fun _ h_ => h_.1))))) (Kd.R_lt (by refine pr_ ?_;exact (Kd.R_mono (Kd.R_far (p:=⟨gb867,1,none⟩) (Kd.R_far (p:=⟨gb867,0,none⟩) (Kd.R_types HO858.out BK867.out (by decide)) (fun _ hk => hk.2) (.int .i64 t862)) (fun _ hk => hk.2) (.slice Ao27 t863.length co27)) (fun _ h_ => h_.1))))) (Kd.R_lt (by refine pr_ ?_;exact (Kd.R_mono (Kd.R_far (p:=⟨gb867,1,none⟩) (Kd.R_far (p:=⟨gb867,0,none⟩) (Kd.R_types HO865.out BK867.out (by decide)) (fun _ hk => hk.2) (.int .i64 t862)) (fun _ hk => hk.2) (.slice Ao27 t863.length co27)) (fun _ h_ => h_.1))))) (below_size (be2_ HB.out GE850.out GE867.out)));replace HO855:=Aside0.mk (Kd.R_mono (Kd.R_told (Kd.R_told (Kd.R_old (by refine pr_ ?_;exact (Kd.R_mono (Kd.R_far (p:=⟨gb867,1,none⟩) (Kd.R_far (p:=⟨gb867,0,none⟩) (Kd.R_types HO855.out BK867.out (by decide)) (fun _ hk => hk.2) (.int .i64 t862)) (fun _ hk => hk.2) (.slice Ao27 t863.length co27)) (fun _ h_ => h_.1))) hb) (Kd.R_base ho0)) (Kd.R_base ho1)) (fun _ h_ => h_.1));replace HO858:=Aside0.mk (Kd.R_mono (Kd.R_told (Kd.R_told (Kd.R_old (by refine pr_ ?_;exact (Kd.R_mono (Kd.R_far (p:=⟨gb867,1,none⟩) (Kd.R_far (p:=⟨gb867,0,none⟩) (Kd.R_types HO858.out BK867.out (by decide)) (fun _ hk => hk.2) (.int .i64 t862)) (fun _ hk => hk.2) (.slice Ao27 t863.length co27)) (fun _ h_ => h_.1))) hb) (Kd.R_base ho0)) (Kd.R_base ho1)) (fun _ h_ => h_.1));replace HO865:=Aside0.mk (Kd.R_mono (Kd.R_told (Kd.R_told (Kd.R_old (by refine pr_ ?_;exact (Kd.R_mono (Kd.R_far (p:=⟨gb867,1,none⟩) (Kd.R_far (p:=⟨gb867,0,none⟩) (Kd.R_types HO865.out BK867.out (by decide)) (fun _ hk => hk.2) (.int .i64 t862)) (fun _ hk => hk.2) (.slice Ao27 t863.length co27)) (fun _ h_ => h_.1))) hb) (Kd.R_base ho0)) (Kd.R_base ho1)) (fun _ h_ => h_.1));have HO877:=Aside0.mk (Kd.R_lower (Kd.R_new' ho2 (Kd.R_lt (by refine pr_ ?_;exact (Kd.R_mono (Kd.R_far (p:=⟨gb867,1,none⟩) (Kd.R_far (p:=⟨gb867,0,none⟩) (Kd.R_types HO861.out BK867.out (by decide)) (fun _ hk => hk.2) (.int .i64 t862)) (fun _ hk => hk.2) (.slice Ao27 t863.length co27)) (fun _ h_ => h_.1))))) (below_size (be2_ HB.out GE850.out GE867.out)));replace HO861:=Aside0.mk (Kd.R_elder' (by refine pr_ ?_;exact (Kd.R_mono (Kd.R_far (p:=⟨gb867,1,none⟩) (Kd.R_far (p:=⟨gb867,0,none⟩) (Kd.R_types HO861.out BK867.out (by decide)) (fun _ hk => hk.2) (.int .i64 t862)) (fun _ hk => hk.2) (.slice Ao27 t863.length co27)) (fun _ h_ => h_.1))) (Kd.R_base ho2) hb);replace BK850:=Aside0.mk (blk_below (g:=gb850) (o:=.cells #[.int .i64 a0_0,.slice A0_1 l0_1.length c0_1,.slice A0_2 l0_2.length c0_2,.slice A0_3 l0_3.length c0_3] 25 (0,0)) (bf1_ BK850.out NB850_867.out) hb);replace BK867:=Aside0.mk (blk_below (g:=gb867) (o:=.cells #[.int .i64 t862,.slice Ao27 t863.length co27] 35 (0,0)) (by refine pe_ ?_;refine blk_put (cs:=#[.int .i64 t862,.slice none 0 0]) ?_ 1 _ rfl;refine pe_ ?_;refine blk_put (cs:=#[.int .i64 0,.slice none 0 0]) ?_ 0 _ rfl;refine pe_ ?_;exact BK867.out) hb);replace HB:=hs2_ HB GE850 GE867 hb;(try clear hb);(try clear hb2);(try clear hk);(try clear hi);(try clear ho0);(try clear ho1);(try clear ho2))|((with_reducible refine bev_ (N:=8) rfl rfl (cs:=#[.int .i64 0,.slice none 0 0,.slice none 0 0,.slice none 0 0]) (t:=33) ?hr ?_);(case hr => first|(go_simp;done)|(go_simp;rfl));intro gb878 hg w30 hbox hb;replace HO855:=Aside0.mk (Kd.R_below (pr_ HO855.out) hb);replace HO858:=Aside0.mk (Kd.R_below (pr_ HO858.out) hb);replace HO861:=Aside0.mk (Kd.R_below (pr_ HO861.out) hb);replace HO865:=Aside0.mk (Kd.R_below (pr_ HO865.out) hb);replace HO871:=Aside0.mk (Kd.R_below (pr_ HO871.out) hb);replace HO874:=Aside0.mk (Kd.R_below (pr_ HO874.out) hb);replace HO877:=Aside0.mk (Kd.R_below (pr_ HO877.out) hb);have BK878:=Aside0.mk (hbox);have GW878:=gw2_ hg HB GE850 GE867;have GE878:=GW878;replace HB:=hs2_ HB GE850 GE867 hb;have NB850_878:=nm_ hg BK850;have NB878_850:=nn_ hg BK850;replace BK850:=kc_ BK850 hb;have NB867_878:=nm_ hg BK867;have NB878_867:=nn_ hg BK867;replace BK867:=kc_ BK867 hb;clear hb hbox hg;have hnb31:=NB878_850.out;have hnc31:=NB850_878.out;have hnb32:=NB878_867.out;have hnc32:=NB867_878.out;obtain ⟨hcz33_0,hcz33_1,hcz33_2,hcz33_3,hfz33_0,hfz33_1,hfz33_2,hfz33_3⟩:=cf4_ BK878.out;obtain ⟨Ao34,co34,eo34⟩:=Kd.R_slice HO871.out;subst eo34;obtain ⟨Ao35,co35,eo35⟩:=Kd.R_slice HO874.out;subst eo35;obtain ⟨Ao36,co36,eo36⟩:=Kd.R_slice HO877.out;subst eo36)|((with_reducible refine gate_callee (f:=35) rfl ?_);refine goesL_ (some 36) rfl rfl Try.func35 (by kernel_rfl) rfl #[.agg #[.int .i64 t868,.slice Ao34 t869.length co34,.slice Ao35 t872.length co35,.slice Ao36 t875.length co36],.string a1] rfl lp_ ?_;(with_reducible refine (impl_ValueOf.calls k t868 _ _ t869 _ _ t872 _ _ t875 a1 t879 t880 t883 _ ?side1 ?side2 ?side3 ?side4 ?side5 ?side6 A13.out).mono ?_);(case side1 => refine (Kd.R_reads' (e:=3) (base:=w.heap.size) (ok:=fun k_ => (((some k_ ≠ (.slice Ao35 t872.length co35 : Value).ownBlock ∧ some k_ ≠ (.slice Ao20 t853.length co20 : Value).ownBlock) ∧ some k_ ≠ (.slice Ao21 t856.length co21 : Value).ownBlock) ∧ some k_ ≠ (.slice Ao27 t863.length co27 : Value).ownBlock)) (n:=t869.length) (c:=co34) ?_).2.2;exact (by refine pr_ ?_;exact (Kd.R_mono (Kd.R_far (p:=⟨gb878,3,none⟩) (Kd.R_far (p:=⟨gb878,2,none⟩) (Kd.R_far (p:=⟨gb878,1,none⟩) (Kd.R_far (p:=⟨gb878,0,none⟩) (Kd.R_types HO871.out BK878.out (by decide)) (fun _ hk => hk.2) (.int .i64 t868)) (fun _ hk => hk.2) (.slice Ao34 t869.length co34)) (fun _ hk => hk.2) (.slice Ao35 t872.length co35)) (fun _ hk => hk.2) (.slice Ao36 t875.length co36)) (fun _ h_ => h_.1))));(case side2 => exact (Kd.R_reads' HO871.out).2.1);(case side3 => refine (Kd.R_reads' (e:=3) (base:=w.heap.size) (ok:=fun k_ => (((some k_ ≠ (.slice Ao34 t869.length co34 : Value).ownBlock ∧ some k_ ≠ (.slice Ao20 t853.length co20 : Value).ownBlock) ∧ some k_ ≠ (.slice Ao21 t856.length co21 : Value).ownBlock) ∧ some k_ ≠ (.slice Ao27 t863.length co27 : Value).ownBlock)) (n:=t872.length) (c:=co35) ?_).2.2;exact (by refine pr_ ?_;exact (Kd.R_mono (Kd.R_far (p:=⟨gb878,3,none⟩) (Kd.R_far (p:=⟨gb878,2,none⟩) (Kd.R_far (p:=⟨gb878,1,none⟩) (Kd.R_far (p:=⟨gb878,0,none⟩) (Kd.R_types HO874.out BK878.out (by decide)) (fun _ hk => hk.2) (.int .i64 t868)) (fun _ hk => hk.2) (.slice Ao34 t869.length co34)) (fun _ hk => hk.2) (.slice Ao35 t872.length co35)) (fun _ hk => hk.2) (.slice Ao36 t875.length co36)) (fun _ h_ => h_.1))));(case side4 => exact (Kd.R_reads' HO874.out).2.1);(case side5 => refine (Kd.R_reads' (e:=92) (base:=w.heap.size) (ok:=fun k_ => (True ∧ some k_ ≠ (.slice Ao22 t859.length co22 : Value).ownBlock)) (n:=t875.length) (c:=co36) ?_).2.2;exact (by refine pr_ ?_;exact (Kd.R_mono (Kd.R_far (p:=⟨gb878,3,none⟩) (Kd.R_far (p:=⟨gb878,2,none⟩) (Kd.R_far (p:=⟨gb878,1,none⟩) (Kd.R_far (p:=⟨gb878,0,none⟩) (Kd.R_types HO877.out BK878.out (by decide)) (fun _ hk => hk.2) (.int .i64 t868)) (fun _ hk => hk.2) (.slice Ao34 t869.length co34)) (fun _ hk => hk.2) (.slice Ao35 t872.length co35)) (fun _ hk => hk.2) (.slice Ao36 t875.length co36)) (fun _ h_ => h_.1))));(case side6 => exact (Kd.R_reads' HO877.out).2.1);rintro e w37 ⟨v881,rfl,ho0,hb⟩;refine ⟨_,rfl,?_⟩;replace HO861:=Aside0.mk (Kd.R_below (by refine pr_ ?_;exact (Kd.R_mono (Kd.R_far (p:=⟨gb878,3,none⟩) (Kd.R_far (p:=⟨gb878,2,none⟩) (Kd.R_far (p:=⟨gb878,1,none⟩) (Kd.R_far (p:=⟨gb878,0,none⟩) (Kd.R_types HO861.out BK878.out (by decide)) (fun _ hk => hk.2) (.int .i64 t868)) (fun _ hk => hk.2) (.slice Ao34 t869.length co34)) (fun _ hk => hk.2) (.slice Ao35 t872.length co35)) (fun _ hk => hk.2) (.slice Ao36 t875.length co36)) (fun _ h_ => h_.1))) hb);replace HO877:=Aside0.mk (Kd.R_below (by refine pr_ ?_;exact (Kd.R_mono (Kd.R_far (p:=⟨gb878,3,none⟩) (Kd.R_far (p:=⟨gb878,2,none⟩) (Kd.R_far (p:=⟨gb878,1,none⟩) (Kd.R_far (p:=⟨gb878,0,none⟩) (Kd.R_types HO877.out BK878.out (by decide)) (fun _ hk => hk.2) (.int .i64 t868)) (fun _ hk => hk.2) (.slice Ao34 t869.length co34)) (fun _ hk => hk.2) (.slice Ao35 t872.length co35)) (fun _ hk => hk.2) (.slice Ao36 t875.length co36)) (fun _ h_ => h_.1))) hb);have HO882:=Aside0.mk (Kd.R_lower (Kd.R_new' (Kd.R_new' (Kd.R_new' (Kd.R_new' (Kd.R_new' ho0 (Kd.R_lt (by refine pr_ ?_;exact (Kd.R_mono (Kd.R_far (p:=⟨gb878,3,none⟩) (Kd.R_far (p:=⟨gb878,2,none⟩) (Kd.R_far (p:=⟨gb878,1,none⟩) (Kd.R_far (p:=⟨gb878,0,none⟩) (Kd.R_types HO855.out BK878.out (by decide)) (fun _ hk => hk.2) (.int .i64 t868)) (fun _ hk => hk.2) (.slice Ao34 t869.length co34)) (fun _ hk => hk.2) (.slice Ao35 t872.length co35)) (fun _ hk => hk.2) (.slice Ao36 t875.length co36)) (fun _ h_ => h_.1))))) (Kd.R_lt (by refine pr_ ?_;exact (Kd.R_mono (Kd.R_far (p:=⟨gb878,3,none⟩) (Kd.R_far (p:=⟨gb878,2,none⟩) (Kd.R_far (p:=⟨gb878,1,none⟩) (Kd.R_far (p:=⟨gb878,0,none⟩) (Kd.R_types HO858.out BK878.out (by decide)) (fun _ hk => hk.2) (.int .i64 t868)) (fun _ hk => hk.2) (.slice Ao34 t869.length co34)) (fun _ hk => hk.2) (.slice Ao35 t872.length co35)) (fun _ hk => hk.2) (.slice Ao36 t875.length co36)) (fun _ h_ => h_.1))))) (Kd.R_lt (by refine pr_ ?_;exact (Kd.R_mono (Kd.R_far (p:=⟨gb878,3,none⟩) (Kd.R_far (p:=⟨gb878,2,none⟩) (Kd.R_far (p:=⟨gb878,1,none⟩) (Kd.R_far (p:=⟨gb878,0,none⟩) (Kd.R_types HO865.out BK878.out (by decide)) (fun _ hk => hk.2) (.int .i64 t868)) (fun _ hk => hk.2) (.slice Ao34 t869.length co34)) (fun _ hk => hk.2) (.slice Ao35 t872.length co35)) (fun _ hk => hk.2) (.slice Ao36 t875.length co36)) (fun _ h_ => h_.1))))) (Kd.R_lt (by refine pr_ ?_;exact (Kd.R_mono (Kd.R_far (p:=⟨gb878,3,none⟩) (Kd.R_far (p:=⟨gb878,2,none⟩) (Kd.R_far (p:=⟨gb878,1,none⟩) (Kd.R_far (p:=⟨gb878,0,none⟩) (Kd.R_types HO871.out BK878.out (by decide)) (fun _ hk => hk.2) (.int .i64 t868)) (fun _ hk => hk.2) (.slice Ao34 t869.length co34)) (fun _ hk => hk.2) (.slice Ao35 t872.length co35)) (fun _ hk => hk.2) (.slice Ao36 t875.length co36)) (fun _ h_ => h_.1))))) (Kd.R_lt (by refine pr_ ?_;exact (Kd.R_mono (Kd.R_far (p:=⟨gb878,3,none⟩) (Kd.R_far (p:=⟨gb878,2,none⟩) (Kd.R_far (p:=⟨gb878,1,none⟩) (Kd.R_far (p:=⟨gb878,0,none⟩) (Kd.R_types HO874.out BK878.out (by decide)) (fun _ hk => hk.2) (.int .i64 t868)) (fun _ hk => hk.2) (.slice Ao34 t869.length co34)) (fun _ hk => hk.2) (.slice Ao35 t872.length co35)) (fun _ hk => hk.2) (.slice Ao36 t875.length co36)) (fun _ h_ => h_.1))))) (below_size (be3_ HB.out GE850.out GE867.out GE878.out)));replace HO855:=Aside0.mk (Kd.R_elder' (by refine pr_ ?_;exact (Kd.R_mono (Kd.R_far (p:=⟨gb878,3,none⟩) (Kd.R_far (p:=⟨gb878,2,none⟩) (Kd.R_far (p:=⟨gb878,1,none⟩) (Kd.R_far (p:=⟨gb878,0,none⟩) (Kd.R_types HO855.out BK878.out (by decide)) (fun _ hk => hk.2) (.int .i64 t868)) (fun _ hk => hk.2) (.slice Ao34 t869.length co34)) (fun _ hk => hk.2) (.slice Ao35 t872.length co35)) (fun _ hk => hk.2) (.slice Ao36 t875.length co36)) (fun _ h_ => h_.1))) (Kd.R_base ho0) hb);replace HO858:=Aside0.mk (Kd.R_elder' (by refine pr_ ?_;exact (Kd.R_mono (Kd.R_far (p:=⟨gb878,3,none⟩) (Kd.R_far (p:=⟨gb878,2,none⟩) (Kd.R_far (p:=⟨gb878,1,none⟩) (Kd.R_far (p:=⟨gb878,0,none⟩) (Kd.R_types HO858.out BK878.out (by decide)) (fun _ hk => hk.2) (.int .i64 t868)) (fun _ hk => hk.2) (.slice Ao34 t869.length co34)) (fun _ hk => hk.2) (.slice Ao35 t872.length co35)) (fun _ hk => hk.2) (.slice Ao36 t875.length co36)) (fun _ h_ => h_.1))) (Kd.R_base ho0) hb);replace HO865:=Aside0.mk (Kd.R_elder' (by refine pr_ ?_;exact (Kd.R_mono (Kd.R_far (p:=⟨gb878,3,none⟩) (Kd.R_far (p:=⟨gb878,2,none⟩) (Kd.R_far (p:=⟨gb878,1,none⟩) (Kd.R_far (p:=⟨gb878,0,none⟩) (Kd.R_types HO865.out BK878.out (by decide)) (fun _ hk => hk.2) (.int .i64 t868)) (fun _ hk => hk.2) (.slice Ao34 t869.length co34)) (fun _ hk => hk.2) (.slice Ao35 t872.length co35)) (fun _ hk => hk.2) (.slice Ao36 t875.length co36)) (fun _ h_ => h_.1))) (Kd.R_base ho0) hb);replace HO871:=Aside0.mk (Kd.R_elder' (by refine pr_ ?_;exact (Kd.R_mono (Kd.R_far (p:=⟨gb878,3,none⟩) (Kd.R_far (p:=⟨gb878,2,none⟩) (Kd.R_far (p:=⟨gb878,1,none⟩) (Kd.R_far (p:=⟨gb878,0,none⟩) (Kd.R_types HO871.out BK878.out (by decide)) (fun _ hk => hk.2) (.int .i64 t868)) (fun _ hk => hk.2) (.slice Ao34 t869.length co34)) (fun _ hk => hk.2) (.slice Ao35 t872.length co35)) (fun _ hk => hk.2) (.slice Ao36 t875.length co36)) (fun _ h_ => h_.1))) (Kd.R_base ho0) hb);replace HO874:=Aside0.mk (Kd.R_elder' (by refine pr_ ?_;exact (Kd.R_mono (Kd.R_far (p:=⟨gb878,3,none⟩) (Kd.R_far (p:=⟨gb878,2,none⟩) (Kd.R_far (p:=⟨gb878,1,none⟩) (Kd.R_far (p:=⟨gb878,0,none⟩) (Kd.R_types HO874.out BK878.out (by decide)) (fun _ hk => hk.2) (.int .i64 t868)) (fun _ hk => hk.2) (.slice Ao34 t869.length co34)) (fun _ hk => hk.2) (.slice Ao35 t872.length co35)) (fun _ hk => hk.2) (.slice Ao36 t875.length co36)) (fun _ h_ => h_.1))) (Kd.R_base ho0) hb);replace BK850:=Aside0.mk (blk_below (g:=gb850) (o:=.cells #[.int .i64 a0_0,.slice A0_1 l0_1.length c0_1,.slice A0_2 l0_2.length c0_2,.slice A0_3 l0_3.length c0_3] 25 (0,0)) (bf1_ BK850.out NB850_878.out) hb);replace BK867:=Aside0.mk (blk_below (g:=gb867) (o:=.cells #[.int .i64 t862,.slice Ao27 t863.length co27] 35 (0,0)) (bf1_ BK867.out NB867_878.out) hb);replace BK878:=Aside0.mk (blk_below (g:=gb878) (o:=.cells #[.int .i64 t868,.slice Ao34 t869.length co34,.slice Ao35 t872.length co35,.slice Ao36 t875.length co36] 33 (0,0)) (by refine pe_ ?_;refine blk_put (cs:=#[.int .i64 t868,.slice Ao34 t869.length co34,.slice Ao35 t872.length co35,.slice none 0 0]) ?_ 3 _ rfl;refine pe_ ?_;refine blk_put (cs:=#[.int .i64 t868,.slice Ao34 t869.length co34,.slice none 0 0,.slice none 0 0]) ?_ 2 _ rfl;refine pe_ ?_;refine blk_put (cs:=#[.int .i64 t868,.slice none 0 0,.slice none 0 0,.slice none 0 0]) ?_ 1 _ rfl;refine pe_ ?_;refine blk_put (cs:=#[.int .i64 0,.slice none 0 0,.slice none 0 0,.slice none 0 0]) ?_ 0 _ rfl;refine pe_ ?_;exact BK878.out) hb);replace HB:=hs3_ HB GE850 GE867 GE878 hb;(try clear hb);(try clear hb2);(try clear hk);(try clear hi);(try clear ho0))|((with_reducible refine bev_ (N:=9) rfl rfl (cs:=#[.int .i64 0,.slice none 0 0]) (t:=35) ?hr ?_);(case hr => first|(go_simp;done)|(go_simp;rfl));intro gb884 hg w38 hbox hb;replace HO855:=Aside0.mk (Kd.R_below (pr_ HO855.out) hb);replace HO858:=Aside0.mk (Kd.R_below (pr_ HO858.out) hb);replace HO861:=Aside0.mk (Kd.R_below (pr_ HO861.out) hb);replace HO865:=Aside0.mk (Kd.R_below (pr_ HO865.out) hb);replace HO871:=Aside0.mk (Kd.R_below (pr_ HO871.out) hb);replace HO874:=Aside0.mk (Kd.R_below (pr_ HO874.out) hb);replace HO877:=Aside0.mk (Kd.R_below (pr_ HO877.out) hb);replace HO882:=Aside0.mk (Kd.R_below (pr_ HO882.out) hb);have BK884:=Aside0.mk (hbox);have GW884:=gw3_ hg HB GE850 GE867 GE878;have GE884:=GW884;replace HB:=hs3_ HB GE850 GE867 GE878 hb;have NB850_884:=nm_ hg BK850;have NB884_850:=nn_ hg BK850;replace BK850:=kc_ BK850 hb;have NB867_884:=nm_ hg BK867;have NB884_867:=nn_ hg BK867;replace BK867:=kc_ BK867 hb;have NB878_884:=nm_ hg BK878;have NB884_878:=nn_ hg BK878;replace BK878:=kc_ BK878 hb;clear hb hbox hg;have hnb39:=NB884_850.out;have hnc39:=NB850_884.out;have hnb40:=NB884_867.out;have hnc40:=NB867_884.out;have hnb41:=NB884_878.out;have hnc41:=NB878_884.out;obtain ⟨hcz42_0,hcz42_1,hfz42_0,hfz42_1⟩:=cf2_ BK884.out;obtain ⟨Ao43,co43,eo43⟩:=Kd.R_slice HO882.out;subst eo43))
   (try simp only [Act.put,List.setIfInBounds_toArray,List.set_cons_zero,List.set_cons_succ])
   go_cut [47] (fun v47 wc => ∃ (kq : Nat) (x47_13 : Bool),v47 = .bool x47_13 ∧ Aside0 (laws_FnExactValueOf.j0 kq a1 t866 t883 x47_13 a0_0 l0_1 l0_2 l0_3 t862 t863 t868 t869 t872 t875 t879 t880 = some r) ∧ Aside0 (kq ≤ k) ∧ Aside0 (Kd.R (Kd.int .i64) 3 wc w.heap.size (fun k_ => some k_ ≠ ((.slice Ao34 t869.length co34) : Value).ownBlock ∧ some k_ ≠ ((.slice Ao35 t872.length co35) : Value).ownBlock ∧ some k_ ≠ ((.slice Ao43 t880.length co43) : Value).ownBlock) (.slice Ao27 t863.length co27) t863) ∧ Aside0 (Kd.R (Kd.int .i64) 3 wc w.heap.size (fun k_ => some k_ ≠ ((.slice Ao27 t863.length co27) : Value).ownBlock ∧ some k_ ≠ ((.slice Ao35 t872.length co35) : Value).ownBlock ∧ some k_ ≠ ((.slice Ao43 t880.length co43) : Value).ownBlock) (.slice Ao34 t869.length co34) t869) ∧ Aside0 (Kd.R (Kd.int .i64) 3 wc w.heap.size (fun k_ => some k_ ≠ ((.slice Ao27 t863.length co27) : Value).ownBlock ∧ some k_ ≠ ((.slice Ao34 t869.length co34) : Value).ownBlock ∧ some k_ ≠ ((.slice Ao43 t880.length co43) : Value).ownBlock) (.slice Ao35 t872.length co35) t872) ∧ Aside0 (Kd.R k92 92 wc w.heap.size (fun _ => True) (.slice Ao36 t875.length co36) t875) ∧ Aside0 (Kd.R (Kd.int .i64) 3 wc w.heap.size (fun k_ => some k_ ≠ ((.slice Ao27 t863.length co27) : Value).ownBlock ∧ some k_ ≠ ((.slice Ao34 t869.length co34) : Value).ownBlock ∧ some k_ ≠ ((.slice Ao35 t872.length co35) : Value).ownBlock) (.slice Ao43 t880.length co43) t880) ∧ Aside0 (wc.heap[gb850]? = some (.cells #[.int .i64 a0_0,(.slice A0_1 l0_1.length c0_1),(.slice A0_2 l0_2.length c0_2),(.slice A0_3 l0_3.length c0_3)] 25 (0,0))) ∧ Aside0 (wc.heap[gb867]? = some (.cells #[.int .i64 t862,(.slice Ao27 t863.length co27)] 35 (0,0))) ∧ Aside0 (wc.heap[gb878]? = some (.cells #[.int .i64 t868,(.slice Ao34 t869.length co34),(.slice Ao35 t872.length co35),(.slice Ao36 t875.length co36)] 33 (0,0))) ∧ Aside0 (wc.heap[gb884]? = some (.cells #[.int .i64 t879,(.slice Ao43 t880.length co43)] 35 (0,0))) ∧ Aside0 (Below w.heap.size w wc))
   case first =>
    have H:=HC14.out
    clear HC14
    replace H:=Option.bind_eq_some_iff.mp H
    obtain ⟨t885,A440,H⟩:=H
    replace H : (if t885 = true then (laws_FnExactValueOf.j0 k a1 t866 t883 (t883 != t866) a0_0 l0_1 l0_2 l0_3 t862 t863 t868 t869 t872 t875 t879 t880) else (laws_FnExactValueOf.j0 k a1 t866 t883 true a0_0 l0_1 l0_2 l0_3 t862 t863 t868 t869 t872 t875 t879 t880)) = some r:=H
    have A44:=Aside0.mk A440
    clear A440
    by_cases c45 : t885 = true
    ·subst c45
     have H1 : (laws_FnExactValueOf.j0 k a1 t866 t883 (t883 != t866) a0_0 l0_1 l0_2 l0_3 t862 t863 t868 t869 t872 t875 t879 t880) = some r:=by rw [if_pos rfl] at H;exact H
     clear H
     have H:=H1
     clear H1
     have H':=Aside0.mk H
     clear H
     have hnb46:=NB884_850.out
     have hnc46:=NB850_884.out
     have hnb47:=NB884_867.out
     have hnc47:=NB867_884.out
     have hnb48:=NB884_878.out
     have hnc48:=NB878_884.out
     obtain ⟨hcz49_0,hcz49_1,hfz49_0,hfz49_1⟩:=cf2_ BK884.out
     have hnb50:=NB867_850.out
     have hnc50:=NB850_867.out
     have hnb51:=NB867_878.out
     have hnc51:=NB878_867.out
     obtain ⟨hcz52_0,hcz52_1,hfz52_0,hfz52_1⟩:=cf2_ BK867.out
     go_wp2_with (first|((with_reducible refine gate_callee (f:=21) rfl ?_);refine goesL_ (some 41) rfl rfl Try.func21 (by kernel_rfl) rfl #[.agg #[.int .i64 t879,.slice Ao43 t880.length co43],.agg #[.int .i64 t862,.slice Ao27 t863.length co27]] rfl lp_ ?_;(with_reducible refine (laws_eqMatrix.calls k t879 _ _ t880 t862 _ _ t863 true _ ?side1 ?side2 ?side3 ?side4 A44.out).mono ?_);(case side1 => refine (Kd.R_reads' (e:=3) (base:=w.heap.size) (ok:=fun k_ => (((((True ∧ some k_ ≠ (.slice Ao20 t853.length co20 : Value).ownBlock) ∧ some k_ ≠ (.slice Ao21 t856.length co21 : Value).ownBlock) ∧ some k_ ≠ (.slice Ao27 t863.length co27 : Value).ownBlock) ∧ some k_ ≠ (.slice Ao34 t869.length co34 : Value).ownBlock) ∧ some k_ ≠ (.slice Ao35 t872.length co35 : Value).ownBlock)) (n:=t880.length) (c:=co43) ?_).2.2;exact (by refine pr_ ?_;exact (Kd.R_mono (Kd.R_far (p:=⟨gb884,1,none⟩) (Kd.R_far (p:=⟨gb884,0,none⟩) (Kd.R_types HO882.out BK884.out (by decide)) (fun _ hk => hk.2) (.int .i64 t879)) (fun _ hk => hk.2) (.slice Ao43 t880.length co43)) (fun _ h_ => h_.1))));(case side2 => exact (Kd.R_reads' HO882.out).2.1);(case side3 => refine (Kd.R_reads' (e:=3) (base:=w.heap.size) (ok:=fun k_ => (((((True ∧ some k_ ≠ (.slice Ao20 t853.length co20 : Value).ownBlock) ∧ some k_ ≠ (.slice Ao21 t856.length co21 : Value).ownBlock) ∧ some k_ ≠ (.slice Ao34 t869.length co34 : Value).ownBlock) ∧ some k_ ≠ (.slice Ao35 t872.length co35 : Value).ownBlock) ∧ some k_ ≠ (.slice Ao43 t880.length co43 : Value).ownBlock)) (n:=t863.length) (c:=co27) ?_).2.2;exact (by refine pr_ ?_;exact (Kd.R_mono (Kd.R_far (p:=⟨gb884,1,none⟩) (Kd.R_far (p:=⟨gb884,0,none⟩) (Kd.R_types HO865.out BK884.out (by decide)) (fun _ hk => hk.2) (.int .i64 t879)) (fun _ hk => hk.2) (.slice Ao43 t880.length co43)) (fun _ h_ => h_.1))));(case side4 => exact (Kd.R_reads' HO865.out).2.1);rintro e w53 ⟨rfl,hb⟩;refine ⟨_,rfl,?_⟩;replace HO855:=Aside0.mk (Kd.R_below (by refine pr_ ?_;exact (Kd.R_mono (Kd.R_far (p:=⟨gb884,1,none⟩) (Kd.R_far (p:=⟨gb884,0,none⟩) (Kd.R_types HO855.out BK884.out (by decide)) (fun _ hk => hk.2) (.int .i64 t879)) (fun _ hk => hk.2) (.slice Ao43 t880.length co43)) (fun _ h_ => h_.1))) hb);replace HO858:=Aside0.mk (Kd.R_below (by refine pr_ ?_;exact (Kd.R_mono (Kd.R_far (p:=⟨gb884,1,none⟩) (Kd.R_far (p:=⟨gb884,0,none⟩) (Kd.R_types HO858.out BK884.out (by decide)) (fun _ hk => hk.2) (.int .i64 t879)) (fun _ hk => hk.2) (.slice Ao43 t880.length co43)) (fun _ h_ => h_.1))) hb);replace HO861:=Aside0.mk (Kd.R_below (by refine pr_ ?_;exact (Kd.R_mono (Kd.R_far (p:=⟨gb884,1,none⟩) (Kd.R_far (p:=⟨gb884,0,none⟩) (Kd.R_types HO861.out BK884.out (by decide)) (fun _ hk => hk.2) (.int .i64 t879)) (fun _ hk => hk.2) (.slice Ao43 t880.length co43)) (fun _ h_ => h_.1))) hb);replace HO865:=Aside0.mk (Kd.R_below (by refine pr_ ?_;exact (Kd.R_mono (Kd.R_far (p:=⟨gb884,1,none⟩) (Kd.R_far (p:=⟨gb884,0,none⟩) (Kd.R_types HO865.out BK884.out (by decide)) (fun _ hk => hk.2) (.int .i64 t879)) (fun _ hk => hk.2) (.slice Ao43 t880.length co43)) (fun _ h_ => h_.1))) hb);replace HO871:=Aside0.mk (Kd.R_below (by refine pr_ ?_;exact (Kd.R_mono (Kd.R_far (p:=⟨gb884,1,none⟩) (Kd.R_far (p:=⟨gb884,0,none⟩) (Kd.R_types HO871.out BK884.out (by decide)) (fun _ hk => hk.2) (.int .i64 t879)) (fun _ hk => hk.2) (.slice Ao43 t880.length co43)) (fun _ h_ => h_.1))) hb);replace HO874:=Aside0.mk (Kd.R_below (by refine pr_ ?_;exact (Kd.R_mono (Kd.R_far (p:=⟨gb884,1,none⟩) (Kd.R_far (p:=⟨gb884,0,none⟩) (Kd.R_types HO874.out BK884.out (by decide)) (fun _ hk => hk.2) (.int .i64 t879)) (fun _ hk => hk.2) (.slice Ao43 t880.length co43)) (fun _ h_ => h_.1))) hb);replace HO877:=Aside0.mk (Kd.R_below (by refine pr_ ?_;exact (Kd.R_mono (Kd.R_far (p:=⟨gb884,1,none⟩) (Kd.R_far (p:=⟨gb884,0,none⟩) (Kd.R_types HO877.out BK884.out (by decide)) (fun _ hk => hk.2) (.int .i64 t879)) (fun _ hk => hk.2) (.slice Ao43 t880.length co43)) (fun _ h_ => h_.1))) hb);replace HO882:=Aside0.mk (Kd.R_below (by refine pr_ ?_;exact (Kd.R_mono (Kd.R_far (p:=⟨gb884,1,none⟩) (Kd.R_far (p:=⟨gb884,0,none⟩) (Kd.R_types HO882.out BK884.out (by decide)) (fun _ hk => hk.2) (.int .i64 t879)) (fun _ hk => hk.2) (.slice Ao43 t880.length co43)) (fun _ h_ => h_.1))) hb);replace BK850:=Aside0.mk (blk_below (g:=gb850) (o:=.cells #[.int .i64 a0_0,.slice A0_1 l0_1.length c0_1,.slice A0_2 l0_2.length c0_2,.slice A0_3 l0_3.length c0_3] 25 (0,0)) (bf1_ BK850.out NB850_884.out) hb);replace BK867:=Aside0.mk (blk_below (g:=gb867) (o:=.cells #[.int .i64 t862,.slice Ao27 t863.length co27] 35 (0,0)) (bf1_ BK867.out NB867_884.out) hb);replace BK878:=Aside0.mk (blk_below (g:=gb878) (o:=.cells #[.int .i64 t868,.slice Ao34 t869.length co34,.slice Ao35 t872.length co35,.slice Ao36 t875.length co36] 33 (0,0)) (bf1_ BK878.out NB878_884.out) hb);replace BK884:=Aside0.mk (blk_below (g:=gb884) (o:=.cells #[.int .i64 t879,.slice Ao43 t880.length co43] 35 (0,0)) (by refine pe_ ?_;refine blk_put (cs:=#[.int .i64 t879,.slice none 0 0]) ?_ 1 _ rfl;refine pe_ ?_;refine blk_put (cs:=#[.int .i64 0,.slice none 0 0]) ?_ 0 _ rfl;refine pe_ ?_;exact BK884.out) hb);replace HB:=hs4_ HB GE850 GE867 GE878 GE884 hb;(try clear hb);(try clear hb2);(try clear hk);(try clear hi)))
     go_meet
     case rel => exact ⟨_,((t883 != t866)),rs_,H',⟨by first|omega|exact Nat.le_refl _⟩,⟨by refine pr_ ?_;exact Kd.R_mono HO865.out (fun _ hk => ⟨hk.1.1.2,⟨hk.1.2,hk.2⟩⟩)⟩,⟨by refine pr_ ?_;exact Kd.R_mono HO871.out (fun _ hk => ⟨hk.1.2,⟨hk.1.1.1.1,hk.2⟩⟩)⟩,⟨by refine pr_ ?_;exact Kd.R_mono HO874.out (fun _ hk => ⟨hk.1.2,⟨hk.1.1.1.1,hk.2⟩⟩)⟩,⟨by refine pr_ ?_;exact Kd.R_mono HO877.out (fun _ hk => trivial)⟩,⟨by refine pr_ ?_;exact Kd.R_mono HO882.out (fun _ hk => ⟨hk.1.1.2,⟨hk.1.2,hk.2⟩⟩)⟩,⟨pe_ BK850.out⟩,⟨pe_ BK867.out⟩,⟨pe_ BK878.out⟩,⟨pe_ BK884.out⟩,⟨be4_ HB.out GE850.out GE867.out GE878.out GE884.out⟩⟩
    ·replace c45:=Bool.eq_false_iff.mpr c45
     subst c45
     have H1 : (laws_FnExactValueOf.j0 k a1 t866 t883 true a0_0 l0_1 l0_2 l0_3 t862 t863 t868 t869 t872 t875 t879 t880) = some r:=by rw [if_neg (show ¬ (false = true) by decide)] at H;exact H
     clear H
     have H:=H1
     clear H1
     have H':=Aside0.mk H
     clear H
     have hnb54:=NB884_850.out
     have hnc54:=NB850_884.out
     have hnb55:=NB884_867.out
     have hnc55:=NB867_884.out
     have hnb56:=NB884_878.out
     have hnc56:=NB878_884.out
     obtain ⟨hcz57_0,hcz57_1,hfz57_0,hfz57_1⟩:=cf2_ BK884.out
     have hnb58:=NB867_850.out
     have hnc58:=NB850_867.out
     have hnb59:=NB867_878.out
     have hnc59:=NB878_867.out
     obtain ⟨hcz60_0,hcz60_1,hfz60_0,hfz60_1⟩:=cf2_ BK867.out
     go_wp2_with (first|((with_reducible refine gate_callee (f:=21) rfl ?_);refine goesL_ (some 41) rfl rfl Try.func21 (by kernel_rfl) rfl #[.agg #[.int .i64 t879,.slice Ao43 t880.length co43],.agg #[.int .i64 t862,.slice Ao27 t863.length co27]] rfl lp_ ?_;(with_reducible refine (laws_eqMatrix.calls k t879 _ _ t880 t862 _ _ t863 false _ ?side1 ?side2 ?side3 ?side4 A44.out).mono ?_);(case side1 => refine (Kd.R_reads' (e:=3) (base:=w.heap.size) (ok:=fun k_ => (((((True ∧ some k_ ≠ (.slice Ao20 t853.length co20 : Value).ownBlock) ∧ some k_ ≠ (.slice Ao21 t856.length co21 : Value).ownBlock) ∧ some k_ ≠ (.slice Ao27 t863.length co27 : Value).ownBlock) ∧ some k_ ≠ (.slice Ao34 t869.length co34 : Value).ownBlock) ∧ some k_ ≠ (.slice Ao35 t872.length co35 : Value).ownBlock)) (n:=t880.length) (c:=co43) ?_).2.2;exact (by refine pr_ ?_;exact (Kd.R_mono (Kd.R_far (p:=⟨gb884,1,none⟩) (Kd.R_far (p:=⟨gb884,0,none⟩) (Kd.R_types HO882.out BK884.out (by decide)) (fun _ hk => hk.2) (.int .i64 t879)) (fun _ hk => hk.2) (.slice Ao43 t880.length co43)) (fun _ h_ => h_.1))));(case side2 => exact (Kd.R_reads' HO882.out).2.1);(case side3 => refine (Kd.R_reads' (e:=3) (base:=w.heap.size) (ok:=fun k_ => (((((True ∧ some k_ ≠ (.slice Ao20 t853.length co20 : Value).ownBlock) ∧ some k_ ≠ (.slice Ao21 t856.length co21 : Value).ownBlock) ∧ some k_ ≠ (.slice Ao34 t869.length co34 : Value).ownBlock) ∧ some k_ ≠ (.slice Ao35 t872.length co35 : Value).ownBlock) ∧ some k_ ≠ (.slice Ao43 t880.length co43 : Value).ownBlock)) (n:=t863.length) (c:=co27) ?_).2.2;exact (by refine pr_ ?_;exact (Kd.R_mono (Kd.R_far (p:=⟨gb884,1,none⟩) (Kd.R_far (p:=⟨gb884,0,none⟩) (Kd.R_types HO865.out BK884.out (by decide)) (fun _ hk => hk.2) (.int .i64 t879)) (fun _ hk => hk.2) (.slice Ao43 t880.length co43)) (fun _ h_ => h_.1))));(case side4 => exact (Kd.R_reads' HO865.out).2.1);rintro e w61 ⟨rfl,hb⟩;refine ⟨_,rfl,?_⟩;replace HO855:=Aside0.mk (Kd.R_below (by refine pr_ ?_;exact (Kd.R_mono (Kd.R_far (p:=⟨gb884,1,none⟩) (Kd.R_far (p:=⟨gb884,0,none⟩) (Kd.R_types HO855.out BK884.out (by decide)) (fun _ hk => hk.2) (.int .i64 t879)) (fun _ hk => hk.2) (.slice Ao43 t880.length co43)) (fun _ h_ => h_.1))) hb);replace HO858:=Aside0.mk (Kd.R_below (by refine pr_ ?_;exact (Kd.R_mono (Kd.R_far (p:=⟨gb884,1,none⟩) (Kd.R_far (p:=⟨gb884,0,none⟩) (Kd.R_types HO858.out BK884.out (by decide)) (fun _ hk => hk.2) (.int .i64 t879)) (fun _ hk => hk.2) (.slice Ao43 t880.length co43)) (fun _ h_ => h_.1))) hb);replace HO861:=Aside0.mk (Kd.R_below (by refine pr_ ?_;exact (Kd.R_mono (Kd.R_far (p:=⟨gb884,1,none⟩) (Kd.R_far (p:=⟨gb884,0,none⟩) (Kd.R_types HO861.out BK884.out (by decide)) (fun _ hk => hk.2) (.int .i64 t879)) (fun _ hk => hk.2) (.slice Ao43 t880.length co43)) (fun _ h_ => h_.1))) hb);replace HO865:=Aside0.mk (Kd.R_below (by refine pr_ ?_;exact (Kd.R_mono (Kd.R_far (p:=⟨gb884,1,none⟩) (Kd.R_far (p:=⟨gb884,0,none⟩) (Kd.R_types HO865.out BK884.out (by decide)) (fun _ hk => hk.2) (.int .i64 t879)) (fun _ hk => hk.2) (.slice Ao43 t880.length co43)) (fun _ h_ => h_.1))) hb);replace HO871:=Aside0.mk (Kd.R_below (by refine pr_ ?_;exact (Kd.R_mono (Kd.R_far (p:=⟨gb884,1,none⟩) (Kd.R_far (p:=⟨gb884,0,none⟩) (Kd.R_types HO871.out BK884.out (by decide)) (fun _ hk => hk.2) (.int .i64 t879)) (fun _ hk => hk.2) (.slice Ao43 t880.length co43)) (fun _ h_ => h_.1))) hb);replace HO874:=Aside0.mk (Kd.R_below (by refine pr_ ?_;exact (Kd.R_mono (Kd.R_far (p:=⟨gb884,1,none⟩) (Kd.R_far (p:=⟨gb884,0,none⟩) (Kd.R_types HO874.out BK884.out (by decide)) (fun _ hk => hk.2) (.int .i64 t879)) (fun _ hk => hk.2) (.slice Ao43 t880.length co43)) (fun _ h_ => h_.1))) hb);replace HO877:=Aside0.mk (Kd.R_below (by refine pr_ ?_;exact (Kd.R_mono (Kd.R_far (p:=⟨gb884,1,none⟩) (Kd.R_far (p:=⟨gb884,0,none⟩) (Kd.R_types HO877.out BK884.out (by decide)) (fun _ hk => hk.2) (.int .i64 t879)) (fun _ hk => hk.2) (.slice Ao43 t880.length co43)) (fun _ h_ => h_.1))) hb);replace HO882:=Aside0.mk (Kd.R_below (by refine pr_ ?_;exact (Kd.R_mono (Kd.R_far (p:=⟨gb884,1,none⟩) (Kd.R_far (p:=⟨gb884,0,none⟩) (Kd.R_types HO882.out BK884.out (by decide)) (fun _ hk => hk.2) (.int .i64 t879)) (fun _ hk => hk.2) (.slice Ao43 t880.length co43)) (fun _ h_ => h_.1))) hb);replace BK850:=Aside0.mk (blk_below (g:=gb850) (o:=.cells #[.int .i64 a0_0,.slice A0_1 l0_1.length c0_1,.slice A0_2 l0_2.length c0_2,.slice A0_3 l0_3.length c0_3] 25 (0,0)) (bf1_ BK850.out NB850_884.out) hb);replace BK867:=Aside0.mk (blk_below (g:=gb867) (o:=.cells #[.int .i64 t862,.slice Ao27 t863.length co27] 35 (0,0)) (bf1_ BK867.out NB867_884.out) hb);replace BK878:=Aside0.mk (blk_below (g:=gb878) (o:=.cells #[.int .i64 t868,.slice Ao34 t869.length co34,.slice Ao35 t872.length co35,.slice Ao36 t875.length co36] 33 (0,0)) (bf1_ BK878.out NB878_884.out) hb);replace BK884:=Aside0.mk (blk_below (g:=gb884) (o:=.cells #[.int .i64 t879,.slice Ao43 t880.length co43] 35 (0,0)) (by refine pe_ ?_;refine blk_put (cs:=#[.int .i64 t879,.slice none 0 0]) ?_ 1 _ rfl;refine pe_ ?_;refine blk_put (cs:=#[.int .i64 0,.slice none 0 0]) ?_ 0 _ rfl;refine pe_ ?_;exact BK884.out) hb);replace HB:=hs4_ HB GE850 GE867 GE878 GE884 hb;(try clear hb);(try clear hb2);(try clear hk);(try clear hi)))
     go_meet
     case rel => exact ⟨_,(true),rs_,H',⟨by first|omega|exact Nat.le_refl _⟩,⟨by refine pr_ ?_;exact Kd.R_mono HO865.out (fun _ hk => ⟨hk.1.1.2,⟨hk.1.2,hk.2⟩⟩)⟩,⟨by refine pr_ ?_;exact Kd.R_mono HO871.out (fun _ hk => ⟨hk.1.2,⟨hk.1.1.1.1,hk.2⟩⟩)⟩,⟨by refine pr_ ?_;exact Kd.R_mono HO874.out (fun _ hk => ⟨hk.1.2,⟨hk.1.1.1.1,hk.2⟩⟩)⟩,⟨by refine pr_ ?_;exact Kd.R_mono HO877.out (fun _ hk => trivial)⟩,⟨by refine pr_ ?_;exact Kd.R_mono HO882.out (fun _ hk => ⟨hk.1.1.2,⟨hk.1.2,hk.2⟩⟩)⟩,⟨pe_ BK850.out⟩,⟨pe_ BK867.out⟩,⟨pe_ BK878.out⟩,⟨pe_ BK884.out⟩,⟨be4_ HB.out GE850.out GE867.out GE878.out GE884.out⟩⟩
   case rest =>
    clear HC14
    obtain ⟨kq,x47_13,rfl,HA,HJ13,HO_868001,HO_879001,HO_879002,HO_879003,HO_885001,BK850,BK867,BK878,BK884,HB⟩:=hcut
    cases kq with
    | zero => exact absurd HA.out (by simp [laws_FnExactValueOf.j0])
    | succ kj13 =>
     have H:=HA.out
     clear HA
     simp only [laws_FnExactValueOf.j0] at H
     by_cases c62 : x47_13 = true
     ·subst c62
      have H1 : (some false) = some r:=by rw [if_pos rfl] at H;exact H
      clear H
      have H:=H1
      clear H1
      obtain rfl:=Option.some.inj H
      go_wp2
      go_ret
      exact ⟨er_,be4_ HB.out GE850.out GE867.out GE878.out GE884.out⟩
     ·replace c62:=Bool.eq_false_iff.mpr c62
      subst c62
      have H1 : ((laws_toAutomaton.f kj13 a0_0 l0_1 l0_2 l0_3).bind fun bt886 => ((laws_eqAutomaton.f kj13 t868 t869 t872 t875 bt886.1 bt886.2.1 bt886.2.2.1 bt886.2.2.2).bind fun t896 => (if t896 = true then ((laws_markAutomaton.f kj13 t868 t869 t872 t875 1).bind fun bt897 => (if bt897.1 < 0 then (laws_FnExactValueOf.j1 kj13 a1 t866 true a0_0 l0_1 l0_2 l0_3 t862 t863 t879 t880) else ((laws_eqMatrix.f kj13 t879 t880 t862 t863).bind fun t901 => (if t901 = true then (laws_FnExactValueOf.j1 kj13 a1 t866 (t883 != t866) a0_0 l0_1 l0_2 l0_3 t862 t863 t879 t880) else (laws_FnExactValueOf.j1 kj13 a1 t866 true a0_0 l0_1 l0_2 l0_3 t862 t863 t879 t880))))) else (some false)))) = some r:=by rw [if_neg (show ¬ (false = true) by decide)] at H;exact H
      clear H
      have H:=H1
      clear H1
      replace H:=Option.bind_eq_some_iff.mp H
      obtain ⟨⟨t886,t887,t890,t893⟩,A630,H⟩:=H
      replace H : ((laws_eqAutomaton.f kj13 t868 t869 t872 t875 t886 t887 t890 t893).bind fun t896 => (if t896 = true then ((laws_markAutomaton.f kj13 t868 t869 t872 t875 1).bind fun bt897 => (if bt897.1 < 0 then (laws_FnExactValueOf.j1 kj13 a1 t866 true a0_0 l0_1 l0_2 l0_3 t862 t863 t879 t880) else ((laws_eqMatrix.f kj13 t879 t880 t862 t863).bind fun t901 => (if t901 = true then (laws_FnExactValueOf.j1 kj13 a1 t866 (t883 != t866) a0_0 l0_1 l0_2 l0_3 t862 t863 t879 t880) else (laws_FnExactValueOf.j1 kj13 a1 t866 true a0_0 l0_1 l0_2 l0_3 t862 t863 t879 t880))))) else (some false))) = some r:=H
      have A63:=Aside0.mk A630
      clear A630
      replace H:=Option.bind_eq_some_iff.mp H
      obtain ⟨t896,A640,H⟩:=H
      replace H : (if t896 = true then ((laws_markAutomaton.f kj13 t868 t869 t872 t875 1).bind fun bt897 => (if bt897.1 < 0 then (laws_FnExactValueOf.j1 kj13 a1 t866 true a0_0 l0_1 l0_2 l0_3 t862 t863 t879 t880) else ((laws_eqMatrix.f kj13 t879 t880 t862 t863).bind fun t901 => (if t901 = true then (laws_FnExactValueOf.j1 kj13 a1 t866 (t883 != t866) a0_0 l0_1 l0_2 l0_3 t862 t863 t879 t880) else (laws_FnExactValueOf.j1 kj13 a1 t866 true a0_0 l0_1 l0_2 l0_3 t862 t863 t879 t880))))) else (some false)) = some r:=H
      have A64:=Aside0.mk A640
      clear A640
      by_cases c65 : t896 = true
      ·subst c65
       have H1 : ((laws_markAutomaton.f kj13 t868 t869 t872 t875 1).bind fun bt897 => (if bt897.1 < 0 then (laws_FnExactValueOf.j1 kj13 a1 t866 true a0_0 l0_1 l0_2 l0_3 t862 t863 t879 t880) else ((laws_eqMatrix.f kj13 t879 t880 t862 t863).bind fun t901 => (if t901 = true then (laws_FnExactValueOf.j1 kj13 a1 t866 (t883 != t866) a0_0 l0_1 l0_2 l0_3 t862 t863 t879 t880) else (laws_FnExactValueOf.j1 kj13 a1 t866 true a0_0 l0_1 l0_2 l0_3 t862 t863 t879 t880))))) = some r:=by rw [if_pos rfl] at H;exact H
       clear H
       have H:=H1
       clear H1
       replace H:=Option.bind_eq_some_iff.mp H
       obtain ⟨⟨t897,t898,t899,t900⟩,A660,H⟩:=H
       replace H : (if t897 < 0 then (laws_FnExactValueOf.j1 kj13 a1 t866 true a0_0 l0_1 l0_2 l0_3 t862 t863 t879 t880) else ((laws_eqMatrix.f kj13 t879 t880 t862 t863).bind fun t901 => (if t901 = true then (laws_FnExactValueOf.j1 kj13 a1 t866 (t883 != t866) a0_0 l0_1 l0_2 l0_3 t862 t863 t879 t880) else (laws_FnExactValueOf.j1 kj13 a1 t866 true a0_0 l0_1 l0_2 l0_3 t862 t863 t879 t880)))) = some r:=H
       have A66:=Aside0.mk A660
       clear A660
       have HC67:=Aside0.mk H
       clear H
       try go_wp2
       replace HO_868001:=Aside0.mk (Kd.R_drew HO_868001.out)
       replace HO_879001:=Aside0.mk (Kd.R_drew HO_879001.out)
       replace HO_879002:=Aside0.mk (Kd.R_drew HO_879002.out)
       replace HO_879003:=Aside0.mk (Kd.R_drew HO_879003.out)
       replace HO_885001:=Aside0.mk (Kd.R_drew HO_885001.out)
       replace BK850:=Aside0.mk (blk_drew BK850.out)
       replace BK867:=Aside0.mk (blk_drew BK867.out)
       replace BK878:=Aside0.mk (blk_drew BK878.out)
       replace BK884:=Aside0.mk (blk_drew BK884.out)
       replace HB:=Aside0.mk (below_drew1 HB.out)
       refine start_ (n:=5) (S:=fun w' => w'.cell? ⟨gb878,0,none⟩ = some (.int .i64 t868) ∧ w'.cell? ⟨gb878,1,none⟩ = some (.slice Ao34 t869.length co34) ∧ w'.cell? ⟨gb878,2,none⟩ = some (.slice Ao35 t872.length co35) ∧ w'.cell? ⟨gb878,3,none⟩ = some (.slice Ao36 t875.length co36) ∧ w'.cell? ⟨gb850,0,none⟩ = some (.int .i64 a0_0) ∧ w'.cell? ⟨gb850,1,none⟩ = some (.slice A0_1 l0_1.length c0_1) ∧ w'.cell? ⟨gb850,2,none⟩ = some (.slice A0_2 l0_2.length c0_2) ∧ w'.cell? ⟨gb850,3,none⟩ = some (.slice A0_3 l0_3.length c0_3)) (ds:=[]) #[false,false,false,false,false] (by kernel_rfl) rfl rfl ⟨bc_ BK878 0,bc_ BK878 1,bc_ BK878 2,bc_ BK878 3,bc_ BK850 0,bc_ BK850 1,bc_ BK850 2,bc_ BK850 3⟩ (fun hHeld => ?_)
       generalize wc.drew = w68 at HO_868001 HO_879001 HO_879002 HO_879003 HO_885001 BK850 BK867 BK878 BK884 HB hHeld ⊢
       refine take_ (i:=0) (N:=some 48) (v:=?_) (a':=?_) #[true,false,false,false,false] rfl rfl (by kernel_rfl) (fun _ _ _ h => h) (Or.inl ⟨by rfl,?_⟩) hHeld ?_ ?_
       rotate_left
       ·rintro w' ⟨s0,s1,s2,s3,s4,s5,s6,s7⟩
        go_simp
        with_reducible rfl
       rotate_left
       ·simp only [Act.put,List.setIfInBounds_toArray,List.set_cons_zero,List.set_cons_succ,i64_w,i32_w]
        rfl
       refine take_ (i:=1) (N:=some 49) (v:=?_) (a':=?_) #[true,true,false,false,false] rfl rfl (by kernel_rfl) (fun _ _ _ h => h) (Or.inl ⟨by rfl,?_⟩) hHeld ?_ ?_
       rotate_left
       ·rintro w' ⟨s0,s1,s2,s3,s4,s5,s6,s7⟩
        go_simp
        with_reducible rfl
       rotate_left
       ·simp only [Act.put,List.setIfInBounds_toArray,List.set_cons_zero,List.set_cons_succ,i64_w,i32_w]
        rfl
       refine one_ (i:=2) (N:=some 50) #[true,true,true,false,false] rfl rfl (by kernel_rfl) (by decide) (fun K hK => ?_)
       refine goes_ Try.func17 (by kernel_rfl) rfl #[.agg #[.int .i64 a0_0,.slice A0_1 l0_1.length c0_1,.slice A0_2 l0_2.length c0_2,.slice A0_3 l0_3.length c0_3]] (by rfl) rfl rfl lp_ ?_
       with_reducible refine (laws_toAutomaton.calls kj13 a0_0 _ _ l0_1 _ _ l0_2 _ _ l0_3 t886 t887 t890 t893 _ ?side1 ?side2 ?side3 ?side4 ?side5 ?side6 A63.out).mono ?_
       (case side1 => exact cr_ (Kd.C_below HR0_1.out HB.out))
       (case side2 => exact HC0_1.out)
       (case side3 => exact cr_ (Kd.C_below HR0_2.out HB.out))
       (case side4 => exact HC0_2.out)
       (case side5 => exact cr_ (Kd.C_below HR0_3.out HB.out))
       (case side6 => exact HC0_3.out)
       rintro e w69 ⟨v888,v891,v894,rfl,ho0,ho1,ho2,hb⟩
       refine ⟨_,rfl,?_⟩
       have HO889:=Aside0.mk (Kd.R_lower (Kd.R_new' (Kd.R_new' (Kd.R_new' (Kd.R_new' ho0 (Kd.R_lt (pr_ HO_868001.out))) (Kd.R_lt (pr_ HO_879001.out))) (Kd.R_lt (pr_ HO_879002.out))) (Kd.R_lt (pr_ HO_885001.out))) (below_size (be4_ HB.out GE850.out GE867.out GE878.out GE884.out)))
       have HO892:=Aside0.mk (Kd.R_lower (Kd.R_new' (Kd.R_new' (Kd.R_new' (Kd.R_new' ho1 (Kd.R_lt (pr_ HO_868001.out))) (Kd.R_lt (pr_ HO_879001.out))) (Kd.R_lt (pr_ HO_879002.out))) (Kd.R_lt (pr_ HO_885001.out))) (below_size (be4_ HB.out GE850.out GE867.out GE878.out GE884.out)))
       replace HO_868001:=Aside0.mk (Kd.R_mono (Kd.R_told (Kd.R_told (Kd.R_old (pr_ HO_868001.out) hb) (Kd.R_base ho0)) (Kd.R_base ho1)) (fun _ h_ => h_.1))
       replace HO_879001:=Aside0.mk (Kd.R_mono (Kd.R_told (Kd.R_told (Kd.R_old (pr_ HO_879001.out) hb) (Kd.R_base ho0)) (Kd.R_base ho1)) (fun _ h_ => h_.1))
       replace HO_879002:=Aside0.mk (Kd.R_mono (Kd.R_told (Kd.R_told (Kd.R_old (pr_ HO_879002.out) hb) (Kd.R_base ho0)) (Kd.R_base ho1)) (fun _ h_ => h_.1))
       replace HO_885001:=Aside0.mk (Kd.R_mono (Kd.R_told (Kd.R_told (Kd.R_old (pr_ HO_885001.out) hb) (Kd.R_base ho0)) (Kd.R_base ho1)) (fun _ h_ => h_.1))
       have HO895:=Aside0.mk (Kd.R_lower (Kd.R_new' ho2 (Kd.R_lt (pr_ HO_879003.out))) (below_size (be4_ HB.out GE850.out GE867.out GE878.out GE884.out)))
       replace HO_879003:=Aside0.mk (Kd.R_elder' (pr_ HO_879003.out) (Kd.R_base ho2) hb)
       replace BK850:=kc_ BK850 hb
       replace BK867:=kc_ BK867 hb
       replace BK878:=kc_ BK878 hb
       replace BK884:=kc_ BK884 hb
       replace HB:=hs4_ HB GE850 GE867 GE878 GE884 hb
       (try clear hb)
       (try clear hb2)
       (try clear hk)
       (try clear hi)
       (try clear ho0)
       (try clear ho1)
       (try clear ho2)
       obtain ⟨Ao70,co70,eo70⟩:=Kd.R_slice HO889.out
       (first|subst eo70|(injection eo70 with f1_ f2_ f3_;have f4_:=f1_.symm;have f5_:=f3_.symm;clear f1_ f2_ f3_;subst f4_;subst f5_))
       obtain ⟨Ao71,co71,eo71⟩:=Kd.R_slice HO892.out
       (first|subst eo71|(injection eo71 with f1_ f2_ f3_;have f4_:=f1_.symm;have f5_:=f3_.symm;clear f1_ f2_ f3_;subst f4_;subst f5_))
       obtain ⟨Ao72,co72,eo72⟩:=Kd.R_slice HO895.out
       (first|subst eo72|(injection eo72 with f1_ f2_ f3_;have f4_:=f1_.symm;have f5_:=f3_.symm;clear f1_ f2_ f3_;subst f4_;subst f5_))
       refine hK.out _ _ ⟨bc_ BK878 0,bc_ BK878 1,bc_ BK878 2,bc_ BK878 3,bc_ BK850 0,bc_ BK850 1,bc_ BK850 2,bc_ BK850 3⟩ (fun hHeld => ?_)
       clear hK K
       refine norm_ (a':=?_) ?_ ?_
       rotate_left
       ·show Act.put _ (some 50) _ = _
        simp only [Act.put,List.setIfInBounds_toArray,List.set_cons_zero,List.set_cons_succ,i64_w,i32_w]
        rfl
       refine one_ (i:=3) (N:=some 51) #[true,true,true,true,false] rfl rfl (by kernel_rfl) (by decide) (fun K hK => ?_)
       refine goes_ Try.func20 (by kernel_rfl) rfl #[.agg #[.int .i64 t868,.slice Ao34 t869.length co34,.slice Ao35 t872.length co35,.slice Ao36 t875.length co36],.agg #[.int .i64 t886,.slice Ao70 t887.length co70,.slice Ao71 t890.length co71,.slice Ao72 t893.length co72]] (by rfl) rfl rfl lp_ ?_
       with_reducible refine (laws_eqAutomaton.calls kj13 t868 _ _ t869 _ _ t872 _ _ t875 t886 _ _ t887 _ _ t890 _ _ t893 true _ ?side1 ?side2 ?side3 ?side4 ?side5 ?side6 ?side7 ?side8 ?side9 ?side10 ?side11 ?side12 A64.out).mono ?_
       (case side1 => exact cr_ (Kd.R_reads' HO_879001.out).2.2)
       (case side2 => exact (Kd.R_reads' HO_879001.out).2.1)
       (case side3 => exact cr_ (Kd.R_reads' HO_879002.out).2.2)
       (case side4 => exact (Kd.R_reads' HO_879002.out).2.1)
       (case side5 => exact cr_ (Kd.R_reads' HO_879003.out).2.2)
       (case side6 => exact (Kd.R_reads' HO_879003.out).2.1)
       (case side7 => exact cr_ (Kd.R_reads' HO889.out).2.2)
       (case side8 => exact (Kd.R_reads' HO889.out).2.1)
       (case side9 => exact cr_ (Kd.R_reads' HO892.out).2.2)
       (case side10 => exact (Kd.R_reads' HO892.out).2.1)
       (case side11 => exact cr_ (Kd.R_reads' HO895.out).2.2)
       (case side12 => exact (Kd.R_reads' HO895.out).2.1)
       rintro e w73 ⟨rfl,hb⟩
       refine ⟨_,rfl,?_⟩
       replace HO_868001:=Aside0.mk (Kd.R_below (pr_ HO_868001.out) hb)
       replace HO_879001:=Aside0.mk (Kd.R_below (pr_ HO_879001.out) hb)
       replace HO_879002:=Aside0.mk (Kd.R_below (pr_ HO_879002.out) hb)
       replace HO_879003:=Aside0.mk (Kd.R_below (pr_ HO_879003.out) hb)
       replace HO_885001:=Aside0.mk (Kd.R_below (pr_ HO_885001.out) hb)
       replace HO889:=Aside0.mk (Kd.R_below (pr_ HO889.out) hb)
       replace HO892:=Aside0.mk (Kd.R_below (pr_ HO892.out) hb)
       replace HO895:=Aside0.mk (Kd.R_below (pr_ HO895.out) hb)
       replace BK850:=kc_ BK850 hb
       replace BK867:=kc_ BK867 hb
       replace BK878:=kc_ BK878 hb
       replace BK884:=kc_ BK884 hb
       replace HB:=hs4_ HB GE850 GE867 GE878 GE884 hb
       (try clear hb)
       (try clear hb2)
       (try clear hk)
       (try clear hi)
       refine hK.out _ _ ⟨bc_ BK878 0,bc_ BK878 1,bc_ BK878 2,bc_ BK878 3,bc_ BK850 0,bc_ BK850 1,bc_ BK850 2,bc_ BK850 3⟩ (fun hHeld => ?_)
       clear hK K
       refine norm_ (a':=?_) ?_ ?_
       rotate_left
       ·show Act.put _ (some 51) _ = _
        simp only [Act.put,List.setIfInBounds_toArray,List.set_cons_zero,List.set_cons_succ,i64_w,i32_w]
        rfl
       refine pure_ (i:=4) (N:=some 52) (v:=?_) (a':=?_) #[true,true,true,true,true] rfl rfl (by kernel_rfl) (fun _ _ _ h => h) (Or.inl ⟨by rfl,?_⟩) ?_ ?_
       rotate_left
       ·intro w'
        go_simp
        with_reducible rfl
       rotate_left
       ·simp only [Act.put,List.setIfInBounds_toArray,List.set_cons_zero,List.set_cons_succ,i64_w,i32_w]
        rfl
       refine done_ (by kernel_rfl) ?_
       have hnb74:=NB878_850.out
       have hnc74:=NB850_878.out
       have hnb75:=NB878_867.out
       have hnc75:=NB867_878.out
       have hnb76:=NB878_884.out
       have hnc76:=NB884_878.out
       obtain ⟨hcz77_0,hcz77_1,hcz77_2,hcz77_3,hfz77_0,hfz77_1,hfz77_2,hfz77_3⟩:=cf4_ BK878.out
       go_upto_region 16 with (first|((with_reducible refine gate_callee (f:=24) rfl ?_);refine goesL_ (some 55) rfl rfl Try.func24 (by kernel_rfl) rfl #[.agg #[.int .i64 t868,.slice Ao34 t869.length co34,.slice Ao35 t872.length co35,.slice Ao36 t875.length co36],.int .i64 1] rfl lp_ ?_;(with_reducible refine (laws_markAutomaton.calls kj13 t868 (fun k_ => some k_ = (.slice Ao34 t869.length co34 : Value).ownBlock) (.slice Ao34 t869.length co34) t869 (fun k_ => some k_ = (.slice Ao35 t872.length co35 : Value).ownBlock) (.slice Ao35 t872.length co35) t872 (fun k_ => some k_ = (.slice Ao36 t875.length co36 : Value).ownBlock) (.slice Ao36 t875.length co36) t875 1 t897 t898 t899 t900 w _ ?side1 ?side2 ?side3 ?side4 ?side5 ?side6 A66.out).mono ?_);(case side1 => repeat (first|(with_reducible first|exact HB.out|apply below_alloc|apply pw_below_drewN|apply below_drew1|refine below_set ?_ GE850.out|refine below_set ?_ GE867.out|refine below_set ?_ GE878.out|refine below_set ?_ GE884.out)|exact HB.out));(case side2 => exact Kd.R_tight rfl HO_879001.out);(case side3 => exact fun k_ e_ => (HO_879001.out.1 k_ e_.symm).1.1.2.1);(case side4 => exact Kd.R_tight rfl HO_879002.out);(case side5 => exact fun k_ e_ => (HO_879002.out.1 k_ e_.symm).1.1.2.1);(case side6 => exact Kd.R_tight rfl HO_879003.out);rintro e w78 ⟨rfl,hy0,hy1,hy2,hb,hkp⟩;refine ⟨_,rfl,?_⟩;replace HO_868001:=Aside0.mk (Kd.R_mono (ok':=fun k_ => some k_ ≠ (.slice Ao34 t869.length co34 : Value).ownBlock ∧ some k_ ≠ (.slice Ao35 t872.length co35 : Value).ownBlock ∧ some k_ ≠ (.slice Ao43 t880.length co43 : Value).ownBlock ∧ some k_ ≠ (.slice Ao70 t887.length co70 : Value).ownBlock ∧ some k_ ≠ (.slice Ao71 t890.length co71 : Value).ownBlock) (Kd.R_keptB ((Kd.R_apart' HO_868001.out (Kd.R_typed HO_879003.out) (by decide))) hkp (fun k_ hk_ hs_ => Or.elim hs_ (fun e_ => (hk_.1.1.1.1) e_) (fun e_ => Or.elim e_ (fun e_ => (hk_.1.1.1.2.1) e_) (fun e_ => (hk_.2) e_)))) (fun k_ hk_ => ⟨hk_.1.1.1.1.1,hk_.1.1.1.1.2.1,hk_.1.1.1.1.2.2,hk_.1.1.1.2,hk_.1.1.2⟩));replace HO_885001:=Aside0.mk (Kd.R_mono (ok':=fun k_ => some k_ ≠ (.slice Ao27 t863.length co27 : Value).ownBlock ∧ some k_ ≠ (.slice Ao34 t869.length co34 : Value).ownBlock ∧ some k_ ≠ (.slice Ao35 t872.length co35 : Value).ownBlock ∧ some k_ ≠ (.slice Ao70 t887.length co70 : Value).ownBlock ∧ some k_ ≠ (.slice Ao71 t890.length co71 : Value).ownBlock) (Kd.R_keptB ((Kd.R_apart' HO_885001.out (Kd.R_typed HO_879003.out) (by decide))) hkp (fun k_ hk_ hs_ => Or.elim hs_ (fun e_ => (hk_.1.1.1.2.1) e_) (fun e_ => Or.elim e_ (fun e_ => (hk_.1.1.1.2.2) e_) (fun e_ => (hk_.2) e_)))) (fun k_ hk_ => ⟨hk_.1.1.1.1.1,hk_.1.1.1.1.2.1,hk_.1.1.1.1.2.2,hk_.1.1.1.2,hk_.1.1.2⟩));replace BK850:=Aside0.mk (blk_kept (pe_ BK850.out) hkp (fun hs_ => Or.elim hs_ (fun e_ => (fun e_ => (Kd.R_ne HO_879001.out BK850.out (by decide)) e_) e_) (fun e_ => Or.elim e_ (fun e_ => (fun e_ => (Kd.R_ne HO_879002.out BK850.out (by decide)) e_) e_) (fun e_ => (fun e_ => (Kd.R_ne HO_879003.out BK850.out (by decide)) e_) e_))));replace BK867:=Aside0.mk (blk_kept (pe_ BK867.out) hkp (fun hs_ => Or.elim hs_ (fun e_ => (fun e_ => (Kd.R_ne HO_879001.out BK867.out (by decide)) e_) e_) (fun e_ => Or.elim e_ (fun e_ => (fun e_ => (Kd.R_ne HO_879002.out BK867.out (by decide)) e_) e_) (fun e_ => (fun e_ => (Kd.R_ne HO_879003.out BK867.out (by decide)) e_) e_))));replace BK878:=Aside0.mk (blk_kept (pe_ BK878.out) hkp (fun hs_ => Or.elim hs_ (fun e_ => (fun e_ => (Kd.R_ne HO_879001.out BK878.out (by decide)) e_) e_) (fun e_ => Or.elim e_ (fun e_ => (fun e_ => (Kd.R_ne HO_879002.out BK878.out (by decide)) e_) e_) (fun e_ => (fun e_ => (Kd.R_ne HO_879003.out BK878.out (by decide)) e_) e_))));replace BK884:=Aside0.mk (blk_kept (pe_ BK884.out) hkp (fun hs_ => Or.elim hs_ (fun e_ => (fun e_ => (Kd.R_ne HO_879001.out BK884.out (by decide)) e_) e_) (fun e_ => Or.elim e_ (fun e_ => (fun e_ => (Kd.R_ne HO_879002.out BK884.out (by decide)) e_) e_) (fun e_ => (fun e_ => (Kd.R_ne HO_879003.out BK884.out (by decide)) e_) e_))));replace HO889:=Aside0.mk (Kd.R_mono (ok':=fun k_ => some k_ ≠ (.slice Ao27 t863.length co27 : Value).ownBlock ∧ some k_ ≠ (.slice Ao34 t869.length co34 : Value).ownBlock ∧ some k_ ≠ (.slice Ao35 t872.length co35 : Value).ownBlock ∧ some k_ ≠ (.slice Ao43 t880.length co43 : Value).ownBlock ∧ some k_ ≠ (.slice Ao71 t890.length co71 : Value).ownBlock) (Kd.R_keptB ((Kd.R_apart' HO889.out (Kd.R_typed HO_879003.out) (by decide))) hkp (fun k_ hk_ hs_ => Or.elim hs_ (fun e_ => (hk_.1.1.1.2) e_) (fun e_ => Or.elim e_ (fun e_ => (hk_.1.1.2) e_) (fun e_ => (hk_.2) e_)))) (fun k_ hk_ => ⟨hk_.1.1.1.1.1.2,hk_.1.1.1.1.2,hk_.1.1.1.2,hk_.1.1.2,hk_.1.1.1.1.1.1⟩));replace HO892:=Aside0.mk (Kd.R_mono (ok':=fun k_ => some k_ ≠ (.slice Ao27 t863.length co27 : Value).ownBlock ∧ some k_ ≠ (.slice Ao34 t869.length co34 : Value).ownBlock ∧ some k_ ≠ (.slice Ao35 t872.length co35 : Value).ownBlock ∧ some k_ ≠ (.slice Ao43 t880.length co43 : Value).ownBlock ∧ some k_ ≠ (.slice Ao70 t887.length co70 : Value).ownBlock) (Kd.R_keptB ((Kd.R_apart' HO892.out (Kd.R_typed HO_879003.out) (by decide))) hkp (fun k_ hk_ hs_ => Or.elim hs_ (fun e_ => (hk_.1.1.1.2) e_) (fun e_ => Or.elim e_ (fun e_ => (hk_.1.1.2) e_) (fun e_ => (hk_.2) e_)))) (fun k_ hk_ => ⟨hk_.1.1.1.1.1.2,hk_.1.1.1.1.2,hk_.1.1.1.2,hk_.1.1.2,hk_.1.1.1.1.1.1⟩));replace HO_879003:=Aside0.mk (Kd.R_reok rfl hy2 (fun k_ e_ => HO_879003.out.1 k_ e_));replace HO895:=Aside0.mk (Kd.R_mono (ok':=fun k_ => some k_ ≠ (.slice Ao36 t875.length co36 : Value).ownBlock) (Kd.R_keptB ((Kd.R_apart' (Kd.R_apart' HO895.out (Kd.R_typed HO_879001.out) (by decide)) (Kd.R_typed HO_879002.out) (by decide))) hkp (fun k_ hk_ hs_ => Or.elim hs_ (fun e_ => (hk_.1.2) e_) (fun e_ => Or.elim e_ (fun e_ => (hk_.2) e_) (fun e_ => (hk_.1.1.2) e_)))) (fun k_ hk_ => hk_.1.1.1.2));replace HO_879001:=Aside0.mk (Kd.R_reok rfl hy0 (fun k_ e_ => HO_879001.out.1 k_ e_));replace HO_879002:=Aside0.mk (Kd.R_reok rfl hy1 (fun k_ e_ => HO_879002.out.1 k_ e_));replace HB:=Aside0.mk (hb);(try clear hb);(try clear hkp);(try clear hy0);(try clear hy1);(try clear hy2)))
       (try simp only [Act.put,List.setIfInBounds_toArray,List.set_cons_zero,List.set_cons_succ])
       go_cut [68] (fun v68 wc => ∃ (kq : Nat) (x68_66 : Bool),v68 = .bool x68_66 ∧ Aside0 (laws_FnExactValueOf.j1 kq a1 t866 x68_66 a0_0 l0_1 l0_2 l0_3 t862 t863 t879 t880 = some r) ∧ Aside0 (kq ≤ kj13) ∧ Aside0 (Kd.R (Kd.int .i64) 3 wc w.heap.size (fun k_ => some k_ ≠ ((.slice Ao34 t869.length co34) : Value).ownBlock ∧ some k_ ≠ ((.slice Ao35 t872.length co35) : Value).ownBlock ∧ some k_ ≠ ((.slice Ao43 t880.length co43) : Value).ownBlock) (.slice Ao27 t863.length co27) t863) ∧ Aside0 (Kd.R (Kd.int .i64) 3 wc w.heap.size (fun k_ => some k_ ≠ ((.slice Ao27 t863.length co27) : Value).ownBlock ∧ some k_ ≠ ((.slice Ao35 t872.length co35) : Value).ownBlock ∧ some k_ ≠ ((.slice Ao43 t880.length co43) : Value).ownBlock) (.slice Ao34 t869.length co34) t898) ∧ Aside0 (Kd.R (Kd.int .i64) 3 wc w.heap.size (fun k_ => some k_ ≠ ((.slice Ao27 t863.length co27) : Value).ownBlock ∧ some k_ ≠ ((.slice Ao34 t869.length co34) : Value).ownBlock ∧ some k_ ≠ ((.slice Ao43 t880.length co43) : Value).ownBlock) (.slice Ao35 t872.length co35) t899) ∧ Aside0 (Kd.R k92 92 wc w.heap.size (fun _ => True) (.slice Ao36 t875.length co36) t900) ∧ Aside0 (Kd.R (Kd.int .i64) 3 wc w.heap.size (fun k_ => some k_ ≠ ((.slice Ao27 t863.length co27) : Value).ownBlock ∧ some k_ ≠ ((.slice Ao34 t869.length co34) : Value).ownBlock ∧ some k_ ≠ ((.slice Ao35 t872.length co35) : Value).ownBlock) (.slice Ao43 t880.length co43) t880) ∧ Aside0 (wc.heap[gb850]? = some (.cells #[.int .i64 a0_0,(.slice A0_1 l0_1.length c0_1),(.slice A0_2 l0_2.length c0_2),(.slice A0_3 l0_3.length c0_3)] 25 (0,0))) ∧ Aside0 (wc.heap[gb867]? = some (.cells #[.int .i64 t862,(.slice Ao27 t863.length co27)] 35 (0,0))) ∧ Aside0 (wc.heap[gb878]? = some (.cells #[.int .i64 t868,(.slice Ao34 t869.length co34),(.slice Ao35 t872.length co35),(.slice Ao36 t875.length co36)] 33 (0,0))) ∧ Aside0 (wc.heap[gb884]? = some (.cells #[.int .i64 t879,(.slice Ao43 t880.length co43)] 35 (0,0))) ∧ Aside0 (Below w.heap.size w wc))
       case first =>
        have H:=HC67.out
        clear HC67
        by_cases c79 : t897 < 0
        ·rw [if_pos c79] at H
         have c79b0 : decide (t897 < 0) = true:=decide_eq_true c79
         clear c79
         (first|rw [c79b0]|(simp only [i64_w,i32_w];rw [c79b0])|skip)
         have H':=Aside0.mk H
         clear H
         go_wp2
         go_meet
         case rel => exact ⟨_,(true),rs_,H',⟨by have:=HJ13.out;first|omega|exact Nat.le_refl _⟩,⟨by refine pr_ ?_;exact Kd.R_mono HO_868001.out (fun _ hk => ⟨hk.1,⟨hk.2.1,hk.2.2.1⟩⟩)⟩,⟨by refine pr_ ?_;exact Kd.R_mono HO_879001.out (fun _ hk => ⟨hk.1.1.1,⟨hk.1.1.2.1,hk.1.1.2.2⟩⟩)⟩,⟨by refine pr_ ?_;exact Kd.R_mono HO_879002.out (fun _ hk => ⟨hk.1.1.1,⟨hk.1.1.2.1,hk.1.1.2.2⟩⟩)⟩,⟨by refine pr_ ?_;exact Kd.R_mono HO_879003.out (fun _ hk => trivial)⟩,⟨by refine pr_ ?_;exact Kd.R_mono HO_885001.out (fun _ hk => ⟨hk.1,⟨hk.2.1,hk.2.2.1⟩⟩)⟩,⟨pe_ BK850.out⟩,⟨pe_ BK867.out⟩,⟨pe_ BK878.out⟩,⟨pe_ BK884.out⟩,⟨be4_ HB.out GE850.out GE867.out GE878.out GE884.out⟩⟩
        ·rw [if_neg c79] at H
         have c79b0 : decide (t897 < 0) = false:=decide_eq_false c79
         clear c79
         (first|rw [c79b0]|(simp only [i64_w,i32_w];rw [c79b0])|skip)
         replace H:=Option.bind_eq_some_iff.mp H
         obtain ⟨t901,A800,H⟩:=H
         replace H : (if t901 = true then (laws_FnExactValueOf.j1 kj13 a1 t866 (t883 != t866) a0_0 l0_1 l0_2 l0_3 t862 t863 t879 t880) else (laws_FnExactValueOf.j1 kj13 a1 t866 true a0_0 l0_1 l0_2 l0_3 t862 t863 t879 t880)) = some r:=H
         have A80:=Aside0.mk A800
         clear A800
         by_cases c81 : t901 = true
         ·subst c81
          have H1 : (laws_FnExactValueOf.j1 kj13 a1 t866 (t883 != t866) a0_0 l0_1 l0_2 l0_3 t862 t863 t879 t880) = some r:=by rw [if_pos rfl] at H;exact H
          clear H
          have H:=H1
          clear H1
          have H':=Aside0.mk H
          clear H
          have hnb82:=NB884_850.out
          have hnc82:=NB850_884.out
          have hnb83:=NB884_867.out
          have hnc83:=NB867_884.out
          have hnb84:=NB884_878.out
          have hnc84:=NB878_884.out
          obtain ⟨hcz85_0,hcz85_1,hfz85_0,hfz85_1⟩:=cf2_ BK884.out
          have hnb86:=NB867_850.out
          have hnc86:=NB850_867.out
          have hnb87:=NB867_878.out
          have hnc87:=NB878_867.out
          obtain ⟨hcz88_0,hcz88_1,hfz88_0,hfz88_1⟩:=cf2_ BK867.out
          go_wp2_with (first|(go_at_call 21;(with_reducible refine (laws_eqMatrix.calls kj13 t879 _ _ t880 t862 _ _ t863 true _ ?side1 ?side2 ?side3 ?side4 A80.out).mono ?_);(case side1 => exact cr_ (Kd.R_reads' HO_885001.out).2.2);(case side2 => exact (Kd.R_reads' HO_885001.out).2.1);(case side3 => exact cr_ (Kd.R_reads' HO_868001.out).2.2);(case side4 => exact (Kd.R_reads' HO_868001.out).2.1);rintro e w89 ⟨rfl,hb⟩;replace HO_868001:=Aside0.mk (Kd.R_below (pr_ HO_868001.out) hb);replace HO_879001:=Aside0.mk (Kd.R_below (pr_ HO_879001.out) hb);replace HO_879002:=Aside0.mk (Kd.R_below (pr_ HO_879002.out) hb);replace HO_879003:=Aside0.mk (Kd.R_below (pr_ HO_879003.out) hb);replace HO_885001:=Aside0.mk (Kd.R_below (pr_ HO_885001.out) hb);replace HO889:=Aside0.mk (Kd.R_below (pr_ HO889.out) hb);replace HO892:=Aside0.mk (Kd.R_below (pr_ HO892.out) hb);replace HO895:=Aside0.mk (Kd.R_below (pr_ HO895.out) hb);replace BK850:=kc_ BK850 hb;replace BK867:=kc_ BK867 hb;replace BK878:=kc_ BK878 hb;replace BK884:=kc_ BK884 hb;replace HB:=hs4_ HB GE850 GE867 GE878 GE884 hb;(try clear hb);(try clear hb2);(try clear hk);(try clear hi)))
          go_meet
          case rel => exact ⟨_,((t883 != t866)),rs_,H',⟨by have:=HJ13.out;first|omega|exact Nat.le_refl _⟩,⟨by refine pr_ ?_;exact Kd.R_mono HO_868001.out (fun _ hk => ⟨hk.1,⟨hk.2.1,hk.2.2.1⟩⟩)⟩,⟨by refine pr_ ?_;exact Kd.R_mono HO_879001.out (fun _ hk => ⟨hk.1.1.1,⟨hk.1.1.2.1,hk.1.1.2.2⟩⟩)⟩,⟨by refine pr_ ?_;exact Kd.R_mono HO_879002.out (fun _ hk => ⟨hk.1.1.1,⟨hk.1.1.2.1,hk.1.1.2.2⟩⟩)⟩,⟨by refine pr_ ?_;exact Kd.R_mono HO_879003.out (fun _ hk => trivial)⟩,⟨by refine pr_ ?_;exact Kd.R_mono HO_885001.out (fun _ hk => ⟨hk.1,⟨hk.2.1,hk.2.2.1⟩⟩)⟩,⟨pe_ BK850.out⟩,⟨pe_ BK867.out⟩,⟨pe_ BK878.out⟩,⟨pe_ BK884.out⟩,⟨be4_ HB.out GE850.out GE867.out GE878.out GE884.out⟩⟩
         ·replace c81:=Bool.eq_false_iff.mpr c81
          subst c81
          have H1 : (laws_FnExactValueOf.j1 kj13 a1 t866 true a0_0 l0_1 l0_2 l0_3 t862 t863 t879 t880) = some r:=by rw [if_neg (show ¬ (false = true) by decide)] at H;exact H
          clear H
          have H:=H1
          clear H1
          have H':=Aside0.mk H
          clear H
          have hnb90:=NB884_850.out
          have hnc90:=NB850_884.out
          have hnb91:=NB884_867.out
          have hnc91:=NB867_884.out
          have hnb92:=NB884_878.out
          have hnc92:=NB878_884.out
          obtain ⟨hcz93_0,hcz93_1,hfz93_0,hfz93_1⟩:=cf2_ BK884.out
          have hnb94:=NB867_850.out
          have hnc94:=NB850_867.out
          have hnb95:=NB867_878.out
          have hnc95:=NB878_867.out
          obtain ⟨hcz96_0,hcz96_1,hfz96_0,hfz96_1⟩:=cf2_ BK867.out
          go_wp2_with (first|(go_at_call 21;(with_reducible refine (laws_eqMatrix.calls kj13 t879 _ _ t880 t862 _ _ t863 false _ ?side1 ?side2 ?side3 ?side4 A80.out).mono ?_);(case side1 => exact cr_ (Kd.R_reads' HO_885001.out).2.2);(case side2 => exact (Kd.R_reads' HO_885001.out).2.1);(case side3 => exact cr_ (Kd.R_reads' HO_868001.out).2.2);(case side4 => exact (Kd.R_reads' HO_868001.out).2.1);rintro e w97 ⟨rfl,hb⟩;replace HO_868001:=Aside0.mk (Kd.R_below (pr_ HO_868001.out) hb);replace HO_879001:=Aside0.mk (Kd.R_below (pr_ HO_879001.out) hb);replace HO_879002:=Aside0.mk (Kd.R_below (pr_ HO_879002.out) hb);replace HO_879003:=Aside0.mk (Kd.R_below (pr_ HO_879003.out) hb);replace HO_885001:=Aside0.mk (Kd.R_below (pr_ HO_885001.out) hb);replace HO889:=Aside0.mk (Kd.R_below (pr_ HO889.out) hb);replace HO892:=Aside0.mk (Kd.R_below (pr_ HO892.out) hb);replace HO895:=Aside0.mk (Kd.R_below (pr_ HO895.out) hb);replace BK850:=kc_ BK850 hb;replace BK867:=kc_ BK867 hb;replace BK878:=kc_ BK878 hb;replace BK884:=kc_ BK884 hb;replace HB:=hs4_ HB GE850 GE867 GE878 GE884 hb;(try clear hb);(try clear hb2);(try clear hk);(try clear hi)))
          go_meet
          case rel => exact ⟨_,(true),rs_,H',⟨by have:=HJ13.out;first|omega|exact Nat.le_refl _⟩,⟨by refine pr_ ?_;exact Kd.R_mono HO_868001.out (fun _ hk => ⟨hk.1,⟨hk.2.1,hk.2.2.1⟩⟩)⟩,⟨by refine pr_ ?_;exact Kd.R_mono HO_879001.out (fun _ hk => ⟨hk.1.1.1,⟨hk.1.1.2.1,hk.1.1.2.2⟩⟩)⟩,⟨by refine pr_ ?_;exact Kd.R_mono HO_879002.out (fun _ hk => ⟨hk.1.1.1,⟨hk.1.1.2.1,hk.1.1.2.2⟩⟩)⟩,⟨by refine pr_ ?_;exact Kd.R_mono HO_879003.out (fun _ hk => trivial)⟩,⟨by refine pr_ ?_;exact Kd.R_mono HO_885001.out (fun _ hk => ⟨hk.1,⟨hk.2.1,hk.2.2.1⟩⟩)⟩,⟨pe_ BK850.out⟩,⟨pe_ BK867.out⟩,⟨pe_ BK878.out⟩,⟨pe_ BK884.out⟩,⟨be4_ HB.out GE850.out GE867.out GE878.out GE884.out⟩⟩
       case rest =>
        clear HC67
        obtain ⟨kq,x68_66,rfl,HA,HJ66,HO_868001,HO_879001,HO_879002,HO_879003,HO_885001,BK850,BK867,BK878,BK884,HB⟩:=hcut
        have hl879001_66:=(Kd.R_reads' HO_879001.out).1
        rw [hl879001_66] at HO_879001
        (try simp only [hl879001_66])
        (try simp only [hl879001_66] at BK850)
        (try simp only [hl879001_66] at BK867)
        (try simp only [hl879001_66] at BK878)
        (try simp only [hl879001_66] at BK884)
        (try simp only [hl879001_66] at HO_868001)
        (try simp only [hl879001_66] at HO_879002)
        (try simp only [hl879001_66] at HO_879003)
        (try simp only [hl879001_66] at HO_885001)
        have hl879002_66:=(Kd.R_reads' HO_879002.out).1
        rw [hl879002_66] at HO_879002
        (try simp only [hl879002_66])
        (try simp only [hl879002_66] at BK850)
        (try simp only [hl879002_66] at BK867)
        (try simp only [hl879002_66] at BK878)
        (try simp only [hl879002_66] at BK884)
        (try simp only [hl879002_66] at HO_868001)
        (try simp only [hl879002_66] at HO_879001)
        (try simp only [hl879002_66] at HO_879003)
        (try simp only [hl879002_66] at HO_885001)
        have hl879003_66:=(Kd.R_reads' HO_879003.out).1
        rw [hl879003_66] at HO_879003
        (try simp only [hl879003_66])
        (try simp only [hl879003_66] at BK850)
        (try simp only [hl879003_66] at BK867)
        (try simp only [hl879003_66] at BK878)
        (try simp only [hl879003_66] at BK884)
        (try simp only [hl879003_66] at HO_868001)
        (try simp only [hl879003_66] at HO_879001)
        (try simp only [hl879003_66] at HO_879002)
        (try simp only [hl879003_66] at HO_885001)
        cases kq with
        | zero => exact absurd HA.out (by simp [laws_FnExactValueOf.j1])
        | succ kj66 =>
         have H:=HA.out
         clear HA
         simp only [laws_FnExactValueOf.j1] at H
         by_cases c98 : x68_66 = true
         ·subst c98
          have H1 : (some false) = some r:=by rw [if_pos rfl] at H;exact H
          clear H
          have H:=H1
          clear H1
          obtain rfl:=Option.some.inj H
          go_wp2
          go_ret
          exact ⟨er_,be4_ HB.out GE850.out GE867.out GE878.out GE884.out⟩
         ·replace c98:=Bool.eq_false_iff.mpr c98
          subst c98
          have H1 : ((laws_markMatrix.f kj66 t879 t880 1).bind fun bt902 => ((laws_heldMatrix.f kj66 t879 bt902.2 1).bind fun t904 => (if t904 < 0 then (some false) else (if t904 = bt902.1 then ((laws_toAutomaton.f kj66 a0_0 l0_1 l0_2 l0_3).bind fun bt905 => ((impl_ValueOf.f kj66 bt905.1 bt905.2.1 bt905.2.2.1 bt905.2.2.2 a1).bind fun bt915 => ((laws_eqMatrix.f kj66 bt915.1 bt915.2.1 t862 t863).bind fun t921 => (if t921 = true then (laws_FnExactValueOf.j2 kj66 bt902.1 (bt915.2.2 != t866) t879 bt902.2) else (laws_FnExactValueOf.j2 kj66 bt902.1 true t879 bt902.2))))) else (some false))))) = some r:=by rw [if_neg (show ¬ (false = true) by decide)] at H;exact H
          clear H
          have H:=H1
          clear H1
          replace H:=Option.bind_eq_some_iff.mp H
          obtain ⟨⟨t902,t903⟩,A990,H⟩:=H
          replace H : ((laws_heldMatrix.f kj66 t879 t903 1).bind fun t904 => (if t904 < 0 then (some false) else (if t904 = t902 then ((laws_toAutomaton.f kj66 a0_0 l0_1 l0_2 l0_3).bind fun bt905 => ((impl_ValueOf.f kj66 bt905.1 bt905.2.1 bt905.2.2.1 bt905.2.2.2 a1).bind fun bt915 => ((laws_eqMatrix.f kj66 bt915.1 bt915.2.1 t862 t863).bind fun t921 => (if t921 = true then (laws_FnExactValueOf.j2 kj66 t902 (bt915.2.2 != t866) t879 t903) else (laws_FnExactValueOf.j2 kj66 t902 true t879 t903))))) else (some false)))) = some r:=H
          have A99:=Aside0.mk A990
          clear A990
          replace H:=Option.bind_eq_some_iff.mp H
          obtain ⟨t904,A1000,H⟩:=H
          replace H : (if t904 < 0 then (some false) else (if t904 = t902 then ((laws_toAutomaton.f kj66 a0_0 l0_1 l0_2 l0_3).bind fun bt905 => ((impl_ValueOf.f kj66 bt905.1 bt905.2.1 bt905.2.2.1 bt905.2.2.2 a1).bind fun bt915 => ((laws_eqMatrix.f kj66 bt915.1 bt915.2.1 t862 t863).bind fun t921 => (if t921 = true then (laws_FnExactValueOf.j2 kj66 t902 (bt915.2.2 != t866) t879 t903) else (laws_FnExactValueOf.j2 kj66 t902 true t879 t903))))) else (some false))) = some r:=H
          have A100:=Aside0.mk A1000
          clear A1000
          by_cases c101 : t904 < 0
          ·rw [if_pos c101] at H
           have c101b0 : decide (t904 < 0) = true:=decide_eq_true c101
           clear c101
           obtain rfl:=Option.some.inj H
           have hnb102:=NB884_850.out
           have hnc102:=NB850_884.out
           have hnb103:=NB884_867.out
           have hnc103:=NB867_884.out
           have hnb104:=NB884_878.out
           have hnc104:=NB878_884.out
           obtain ⟨hcz105_0,hcz105_1,hfz105_0,hfz105_1⟩:=cf2_ BK884.out
           go_wp2_with (first|((with_reducible refine gate_callee (f:=25) rfl ?_);refine goesL_ (some 71) rfl rfl Try.func25 (by kernel_rfl) rfl #[.agg #[.int .i64 t879,.slice Ao43 t880.length co43],.int .i64 1] rfl lp_ ?_;(with_reducible refine (laws_markMatrix.calls kj66 t879 (fun k_ => some k_ = (.slice Ao43 t880.length co43 : Value).ownBlock) (.slice Ao43 t880.length co43) t880 1 t902 t903 w _ ?side1 ?side2 A99.out).mono ?_);(case side1 => repeat (first|(with_reducible first|exact HB.out|apply below_alloc|apply pw_below_drewN|apply below_drew1|refine below_set ?_ GE850.out|refine below_set ?_ GE867.out|refine below_set ?_ GE878.out|refine below_set ?_ GE884.out)|exact HB.out));(case side2 => exact Kd.R_tight rfl HO_885001.out);rintro e w106 ⟨rfl,hy0,hb,hkp⟩;refine ⟨_,rfl,?_⟩;replace HO_868001:=Aside0.mk (Kd.R_mono (ok':=fun k_ => some k_ ≠ (.slice Ao34 t898.length co34 : Value).ownBlock ∧ some k_ ≠ (.slice Ao35 t899.length co35 : Value).ownBlock ∧ some k_ ≠ (.slice Ao43 t880.length co43 : Value).ownBlock) (Kd.R_keptB (HO_868001.out) hkp (fun k_ hk_ hs_ => (hk_.2.2) hs_)) (fun k_ hk_ => ⟨hk_.1.1,hk_.1.2.1,hk_.1.2.2⟩));replace HO_879001:=Aside0.mk (Kd.R_mono (ok':=fun k_ => some k_ ≠ (.slice Ao27 t863.length co27 : Value).ownBlock ∧ some k_ ≠ (.slice Ao35 t899.length co35 : Value).ownBlock ∧ some k_ ≠ (.slice Ao43 t880.length co43 : Value).ownBlock) (Kd.R_keptB (HO_879001.out) hkp (fun k_ hk_ hs_ => (hk_.2.2) hs_)) (fun k_ hk_ => ⟨hk_.1.1,hk_.1.2.1,hk_.1.2.2⟩));replace HO_879002:=Aside0.mk (Kd.R_mono (ok':=fun k_ => some k_ ≠ (.slice Ao27 t863.length co27 : Value).ownBlock ∧ some k_ ≠ (.slice Ao34 t898.length co34 : Value).ownBlock ∧ some k_ ≠ (.slice Ao43 t880.length co43 : Value).ownBlock) (Kd.R_keptB (HO_879002.out) hkp (fun k_ hk_ hs_ => (hk_.2.2) hs_)) (fun k_ hk_ => ⟨hk_.1.1,hk_.1.2.1,hk_.1.2.2⟩));replace HO_879003:=Aside0.mk (Kd.R_mono (ok':=fun k_ => True) (Kd.R_keptB ((Kd.R_apart' HO_879003.out (Kd.R_typed HO_885001.out) (by decide))) hkp (fun k_ hk_ hs_ => (hk_.2) hs_)) (fun k_ hk_ => trivial));replace BK850:=Aside0.mk (blk_kept (pe_ BK850.out) hkp (fun hs_ => (fun e_ => (Kd.R_ne HO_885001.out BK850.out (by decide)) e_) hs_));replace BK867:=Aside0.mk (blk_kept (pe_ BK867.out) hkp (fun hs_ => (fun e_ => (Kd.R_ne HO_885001.out BK867.out (by decide)) e_) hs_));replace BK878:=Aside0.mk (blk_kept (pe_ BK878.out) hkp (fun hs_ => (fun e_ => (Kd.R_ne HO_885001.out BK878.out (by decide)) e_) hs_));replace BK884:=Aside0.mk (blk_kept (pe_ BK884.out) hkp (fun hs_ => (fun e_ => (Kd.R_ne HO_885001.out BK884.out (by decide)) e_) hs_));replace HO_885001:=Aside0.mk (Kd.R_reok rfl hy0 (fun k_ e_ => HO_885001.out.1 k_ e_));replace HB:=Aside0.mk (hb);(try clear hb);(try clear hkp);(try clear hy0);obtain ⟨hcz107_0,hcz107_1,hfz107_0,hfz107_1⟩:=cf2_ BK884.out)|((with_reducible refine gate_callee (f:=26) rfl ?_);refine goesL_ (some 74) rfl rfl Try.func26 (by kernel_rfl) rfl #[.agg #[.int .i64 t879,.slice Ao43 t903.length co43],.int .i64 1] rfl (by (try simp only [List.map_toArray,List.map_cons,List.map_nil]);first|done|(rw [show t903.length = t880.length from (Kd.R_reads' HO_885001.out).1.symm] <;> rfl)|rfl|(simp only [List.length_drop,List.length_take];rfl)) ?_;(with_reducible refine (laws_heldMatrix.calls kj66 t879 _ _ t903 1 t904 _ ?side1 ?side2 A100.out).mono ?_);(case side1 => exact cr_ (Kd.R_reads' HO_885001.out).2.2);(case side2 => rw [show t903.length = t880.length from (Kd.R_reads' HO_885001.out).1.symm];exact (Kd.R_reads' HO_885001.out).2.1);rintro e w108 ⟨rfl,hb⟩;refine ⟨_,rfl,?_⟩;replace HO_868001:=Aside0.mk (Kd.R_below (pr_ HO_868001.out) hb);replace HO_879001:=Aside0.mk (Kd.R_below (pr_ HO_879001.out) hb);replace HO_879002:=Aside0.mk (Kd.R_below (pr_ HO_879002.out) hb);replace HO_879003:=Aside0.mk (Kd.R_below (pr_ HO_879003.out) hb);replace HO_885001:=Aside0.mk (Kd.R_below (pr_ HO_885001.out) hb);replace BK850:=kc_ BK850 hb;replace BK867:=kc_ BK867 hb;replace BK878:=kc_ BK878 hb;replace BK884:=kc_ BK884 hb;replace HB:=hs4_ HB GE850 GE867 GE878 GE884 hb;(try clear hb);(try clear hb2);(try clear hk);(try clear hi)))
           go_ret
           exact ⟨er_,be4_ HB.out GE850.out GE867.out GE878.out GE884.out⟩
          ·rw [if_neg c101] at H
           have c101b0 : decide (t904 < 0) = false:=decide_eq_false c101
           clear c101
           by_cases c109 : t904 = t902
           ·rw [if_pos c109] at H
            have c109b0 : (t904 == t902) = true:=beq_iff_eq.mpr c109
            have c109b1 : (t904 != t902) = false:=bne_eq_false_iff_eq.mpr c109
            clear c109
            replace H:=Option.bind_eq_some_iff.mp H
            obtain ⟨⟨t905,t906,t909,t912⟩,A1100,H⟩:=H
            replace H : ((impl_ValueOf.f kj66 t905 t906 t909 t912 a1).bind fun bt915 => ((laws_eqMatrix.f kj66 bt915.1 bt915.2.1 t862 t863).bind fun t921 => (if t921 = true then (laws_FnExactValueOf.j2 kj66 t902 (bt915.2.2 != t866) t879 t903) else (laws_FnExactValueOf.j2 kj66 t902 true t879 t903)))) = some r:=H
            have A110:=Aside0.mk A1100
            clear A1100
            replace H:=Option.bind_eq_some_iff.mp H
            obtain ⟨⟨t915,t916,t919⟩,A1110,H⟩:=H
            replace H : ((laws_eqMatrix.f kj66 t915 t916 t862 t863).bind fun t921 => (if t921 = true then (laws_FnExactValueOf.j2 kj66 t902 (t919 != t866) t879 t903) else (laws_FnExactValueOf.j2 kj66 t902 true t879 t903))) = some r:=H
            have A111:=Aside0.mk A1110
            clear A1110
            have HC112:=Aside0.mk H
            clear H
            have hnb113:=NB884_850.out
            have hnc113:=NB850_884.out
            have hnb114:=NB884_867.out
            have hnc114:=NB867_884.out
            have hnb115:=NB884_878.out
            have hnc115:=NB878_884.out
            obtain ⟨hcz116_0,hcz116_1,hfz116_0,hfz116_1⟩:=cf2_ BK884.out
            go_upto_region 27 with (first|((with_reducible refine gate_callee (f:=25) rfl ?_);refine goesL_ (some 71) rfl rfl Try.func25 (by kernel_rfl) rfl #[.agg #[.int .i64 t879,.slice Ao43 t880.length co43],.int .i64 1] rfl lp_ ?_;(with_reducible refine (laws_markMatrix.calls kj66 t879 (fun k_ => some k_ = (.slice Ao43 t880.length co43 : Value).ownBlock) (.slice Ao43 t880.length co43) t880 1 t902 t903 w _ ?side1 ?side2 A99.out).mono ?_);(case side1 => repeat (first|(with_reducible first|exact HB.out|apply below_alloc|apply pw_below_drewN|apply below_drew1|refine below_set ?_ GE850.out|refine below_set ?_ GE867.out|refine below_set ?_ GE878.out|refine below_set ?_ GE884.out)|exact HB.out));(case side2 => exact Kd.R_tight rfl HO_885001.out);rintro e w117 ⟨rfl,hy0,hb,hkp⟩;refine ⟨_,rfl,?_⟩;replace HO_868001:=Aside0.mk (Kd.R_mono (ok':=fun k_ => some k_ ≠ (.slice Ao34 t898.length co34 : Value).ownBlock ∧ some k_ ≠ (.slice Ao35 t899.length co35 : Value).ownBlock ∧ some k_ ≠ (.slice Ao43 t880.length co43 : Value).ownBlock) (Kd.R_keptB (HO_868001.out) hkp (fun k_ hk_ hs_ => (hk_.2.2) hs_)) (fun k_ hk_ => ⟨hk_.1.1,hk_.1.2.1,hk_.1.2.2⟩));replace HO_879001:=Aside0.mk (Kd.R_mono (ok':=fun k_ => some k_ ≠ (.slice Ao27 t863.length co27 : Value).ownBlock ∧ some k_ ≠ (.slice Ao35 t899.length co35 : Value).ownBlock ∧ some k_ ≠ (.slice Ao43 t880.length co43 : Value).ownBlock) (Kd.R_keptB (HO_879001.out) hkp (fun k_ hk_ hs_ => (hk_.2.2) hs_)) (fun k_ hk_ => ⟨hk_.1.1,hk_.1.2.1,hk_.1.2.2⟩));replace HO_879002:=Aside0.mk (Kd.R_mono (ok':=fun k_ => some k_ ≠ (.slice Ao27 t863.length co27 : Value).ownBlock ∧ some k_ ≠ (.slice Ao34 t898.length co34 : Value).ownBlock ∧ some k_ ≠ (.slice Ao43 t880.length co43 : Value).ownBlock) (Kd.R_keptB (HO_879002.out) hkp (fun k_ hk_ hs_ => (hk_.2.2) hs_)) (fun k_ hk_ => ⟨hk_.1.1,hk_.1.2.1,hk_.1.2.2⟩));replace HO_879003:=Aside0.mk (Kd.R_mono (ok':=fun k_ => True) (Kd.R_keptB ((Kd.R_apart' HO_879003.out (Kd.R_typed HO_885001.out) (by decide))) hkp (fun k_ hk_ hs_ => (hk_.2) hs_)) (fun k_ hk_ => trivial));replace BK850:=Aside0.mk (blk_kept (pe_ BK850.out) hkp (fun hs_ => (fun e_ => (Kd.R_ne HO_885001.out BK850.out (by decide)) e_) hs_));replace BK867:=Aside0.mk (blk_kept (pe_ BK867.out) hkp (fun hs_ => (fun e_ => (Kd.R_ne HO_885001.out BK867.out (by decide)) e_) hs_));replace BK878:=Aside0.mk (blk_kept (pe_ BK878.out) hkp (fun hs_ => (fun e_ => (Kd.R_ne HO_885001.out BK878.out (by decide)) e_) hs_));replace BK884:=Aside0.mk (blk_kept (pe_ BK884.out) hkp (fun hs_ => (fun e_ => (Kd.R_ne HO_885001.out BK884.out (by decide)) e_) hs_));replace HO_885001:=Aside0.mk (Kd.R_reok rfl hy0 (fun k_ e_ => HO_885001.out.1 k_ e_));replace HB:=Aside0.mk (hb);(try clear hb);(try clear hkp);(try clear hy0);obtain ⟨hcz118_0,hcz118_1,hfz118_0,hfz118_1⟩:=cf2_ BK884.out)|((with_reducible refine gate_callee (f:=26) rfl ?_);refine goesL_ (some 74) rfl rfl Try.func26 (by kernel_rfl) rfl #[.agg #[.int .i64 t879,.slice Ao43 t903.length co43],.int .i64 1] rfl (by (try simp only [List.map_toArray,List.map_cons,List.map_nil]);first|done|(rw [show t903.length = t880.length from (Kd.R_reads' HO_885001.out).1.symm] <;> rfl)|rfl|(simp only [List.length_drop,List.length_take];rfl)) ?_;(with_reducible refine (laws_heldMatrix.calls kj66 t879 _ _ t903 1 t904 _ ?side1 ?side2 A100.out).mono ?_);(case side1 => exact cr_ (Kd.R_reads' HO_885001.out).2.2);(case side2 => rw [show t903.length = t880.length from (Kd.R_reads' HO_885001.out).1.symm];exact (Kd.R_reads' HO_885001.out).2.1);rintro e w119 ⟨rfl,hb⟩;refine ⟨_,rfl,?_⟩;replace HO_868001:=Aside0.mk (Kd.R_below (pr_ HO_868001.out) hb);replace HO_879001:=Aside0.mk (Kd.R_below (pr_ HO_879001.out) hb);replace HO_879002:=Aside0.mk (Kd.R_below (pr_ HO_879002.out) hb);replace HO_879003:=Aside0.mk (Kd.R_below (pr_ HO_879003.out) hb);replace HO_885001:=Aside0.mk (Kd.R_below (pr_ HO_885001.out) hb);replace BK850:=kc_ BK850 hb;replace BK867:=kc_ BK867 hb;replace BK878:=kc_ BK878 hb;replace BK884:=kc_ BK884 hb;replace HB:=hs4_ HB GE850 GE867 GE878 GE884 hb;(try clear hb);(try clear hb2);(try clear hk);(try clear hi);have hnb120:=NB850_867.out;have hnc120:=NB867_850.out;have hnb121:=NB850_878.out;have hnc121:=NB878_850.out;obtain ⟨hcz122_0,hcz122_1,hcz122_2,hcz122_3,hfz122_0,hfz122_1,hfz122_2,hfz122_3⟩:=cf4_ BK850.out)|((with_reducible refine gate_callee (f:=17) rfl ?_);refine goesL_ (some 82) rfl rfl Try.func17 (by kernel_rfl) rfl #[.agg #[.int .i64 a0_0,.slice A0_1 l0_1.length c0_1,.slice A0_2 l0_2.length c0_2,.slice A0_3 l0_3.length c0_3]] rfl lp_ ?_;(with_reducible refine (laws_toAutomaton.calls kj66 a0_0 _ _ l0_1 _ _ l0_2 _ _ l0_3 t905 t906 t909 t912 _ ?side1 ?side2 ?side3 ?side4 ?side5 ?side6 A110.out).mono ?_);(case side1 => exact cr_ (Kd.C_below HR0_1.out HB.out));(case side2 => exact HC0_1.out);(case side3 => exact cr_ (Kd.C_below HR0_2.out HB.out));(case side4 => exact HC0_2.out);(case side5 => exact cr_ (Kd.C_below HR0_3.out HB.out));(case side6 => exact HC0_3.out);rintro e w123 ⟨v907,v910,v913,rfl,ho0,ho1,ho2,hb⟩;refine ⟨_,rfl,?_⟩;have HO908:=Aside0.mk (Kd.R_lower (Kd.R_new' (Kd.R_new' (Kd.R_new' (Kd.R_new' ho0 (Kd.R_lt (pr_ HO_868001.out))) (Kd.R_lt (pr_ HO_879001.out))) (Kd.R_lt (pr_ HO_879002.out))) (Kd.R_lt (pr_ HO_885001.out))) (below_size (be4_ HB.out GE850.out GE867.out GE878.out GE884.out)));have HO911:=Aside0.mk (Kd.R_lower (Kd.R_new' (Kd.R_new' (Kd.R_new' (Kd.R_new' ho1 (Kd.R_lt (pr_ HO_868001.out))) (Kd.R_lt (pr_ HO_879001.out))) (Kd.R_lt (pr_ HO_879002.out))) (Kd.R_lt (pr_ HO_885001.out))) (below_size (be4_ HB.out GE850.out GE867.out GE878.out GE884.out)));replace HO_868001:=Aside0.mk (Kd.R_mono (Kd.R_told (Kd.R_told (Kd.R_old (pr_ HO_868001.out) hb) (Kd.R_base ho0)) (Kd.R_base ho1)) (fun _ h_ => h_.1));replace HO_879001:=Aside0.mk (Kd.R_mono (Kd.R_told (Kd.R_told (Kd.R_old (pr_ HO_879001.out) hb) (Kd.R_base ho0)) (Kd.R_base ho1)) (fun _ h_ => h_.1));replace HO_879002:=Aside0.mk (Kd.R_mono (Kd.R_told (Kd.R_told (Kd.R_old (pr_ HO_879002.out) hb) (Kd.R_base ho0)) (Kd.R_base ho1)) (fun _ h_ => h_.1));replace HO_885001:=Aside0.mk (Kd.R_mono (Kd.R_told (Kd.R_told (Kd.R_old (pr_ HO_885001.out) hb) (Kd.R_base ho0)) (Kd.R_base ho1)) (fun _ h_ => h_.1));have HO914:=Aside0.mk (Kd.R_lower (Kd.R_new' ho2 (Kd.R_lt (pr_ HO_879003.out))) (below_size (be4_ HB.out GE850.out GE867.out GE878.out GE884.out)));replace HO_879003:=Aside0.mk (Kd.R_elder' (pr_ HO_879003.out) (Kd.R_base ho2) hb);replace BK850:=kc_ BK850 hb;replace BK867:=kc_ BK867 hb;replace BK878:=kc_ BK878 hb;replace BK884:=kc_ BK884 hb;replace HB:=hs4_ HB GE850 GE867 GE878 GE884 hb;(try clear hb);(try clear hb2);(try clear hk);(try clear hi);(try clear ho0);(try clear ho1);(try clear ho2);obtain ⟨Ao124,co124,eo124⟩:=Kd.R_slice HO908.out;subst eo124;obtain ⟨Ao125,co125,eo125⟩:=Kd.R_slice HO911.out;subst eo125;obtain ⟨Ao126,co126,eo126⟩:=Kd.R_slice HO914.out;subst eo126)|((with_reducible refine gate_callee (f:=35) rfl ?_);refine goesL_ (some 84) rfl rfl Try.func35 (by kernel_rfl) rfl #[.agg #[.int .i64 t905,.slice Ao124 t906.length co124,.slice Ao125 t909.length co125,.slice Ao126 t912.length co126],.string a1] rfl lp_ ?_;(with_reducible refine (impl_ValueOf.calls kj66 t905 _ _ t906 _ _ t909 _ _ t912 a1 t915 t916 t919 _ ?side1 ?side2 ?side3 ?side4 ?side5 ?side6 A111.out).mono ?_);(case side1 => exact cr_ (Kd.R_reads' HO908.out).2.2);(case side2 => exact (Kd.R_reads' HO908.out).2.1);(case side3 => exact cr_ (Kd.R_reads' HO911.out).2.2);(case side4 => exact (Kd.R_reads' HO911.out).2.1);(case side5 => exact cr_ (Kd.R_reads' HO914.out).2.2);(case side6 => exact (Kd.R_reads' HO914.out).2.1);rintro e w127 ⟨v917,rfl,ho0,hb⟩;refine ⟨_,rfl,?_⟩;replace HO_879003:=Aside0.mk (Kd.R_below (pr_ HO_879003.out) hb);replace HO914:=Aside0.mk (Kd.R_below (pr_ HO914.out) hb);have HO918:=Aside0.mk (Kd.R_lower (Kd.R_new' (Kd.R_new' (Kd.R_new' (Kd.R_new' (Kd.R_new' (Kd.R_new' ho0 (Kd.R_lt (pr_ HO_868001.out))) (Kd.R_lt (pr_ HO_879001.out))) (Kd.R_lt (pr_ HO_879002.out))) (Kd.R_lt (pr_ HO_885001.out))) (Kd.R_lt (pr_ HO908.out))) (Kd.R_lt (pr_ HO911.out))) (below_size (be4_ HB.out GE850.out GE867.out GE878.out GE884.out)));replace HO_868001:=Aside0.mk (Kd.R_elder' (pr_ HO_868001.out) (Kd.R_base ho0) hb);replace HO_879001:=Aside0.mk (Kd.R_elder' (pr_ HO_879001.out) (Kd.R_base ho0) hb);replace HO_879002:=Aside0.mk (Kd.R_elder' (pr_ HO_879002.out) (Kd.R_base ho0) hb);replace HO_885001:=Aside0.mk (Kd.R_elder' (pr_ HO_885001.out) (Kd.R_base ho0) hb);replace HO908:=Aside0.mk (Kd.R_elder' (pr_ HO908.out) (Kd.R_base ho0) hb);replace HO911:=Aside0.mk (Kd.R_elder' (pr_ HO911.out) (Kd.R_base ho0) hb);replace BK850:=kc_ BK850 hb;replace BK867:=kc_ BK867 hb;replace BK878:=kc_ BK878 hb;replace BK884:=kc_ BK884 hb;replace HB:=hs4_ HB GE850 GE867 GE878 GE884 hb;(try clear hb);(try clear hb2);(try clear hk);(try clear hi);(try clear ho0))|((with_reducible refine bev_ (N:=14) rfl rfl (cs:=#[.int .i64 0,.slice none 0 0]) (t:=35) ?hr ?_);(case hr => first|(go_simp;done)|(go_simp;rfl));intro gb920 hg w128 hbox hb;replace HO_868001:=Aside0.mk (Kd.R_below (pr_ HO_868001.out) hb);replace HO_879001:=Aside0.mk (Kd.R_below (pr_ HO_879001.out) hb);replace HO_879002:=Aside0.mk (Kd.R_below (pr_ HO_879002.out) hb);replace HO_879003:=Aside0.mk (Kd.R_below (pr_ HO_879003.out) hb);replace HO_885001:=Aside0.mk (Kd.R_below (pr_ HO_885001.out) hb);replace HO908:=Aside0.mk (Kd.R_below (pr_ HO908.out) hb);replace HO911:=Aside0.mk (Kd.R_below (pr_ HO911.out) hb);replace HO914:=Aside0.mk (Kd.R_below (pr_ HO914.out) hb);replace HO918:=Aside0.mk (Kd.R_below (pr_ HO918.out) hb);have BK920:=Aside0.mk (hbox);have GW920:=gw4_ hg HB GE850 GE867 GE878 GE884;have GE920:=GW920;replace HB:=hs4_ HB GE850 GE867 GE878 GE884 hb;have NB850_920:=nm_ hg BK850;have NB920_850:=nn_ hg BK850;replace BK850:=kc_ BK850 hb;have NB867_920:=nm_ hg BK867;have NB920_867:=nn_ hg BK867;replace BK867:=kc_ BK867 hb;have NB878_920:=nm_ hg BK878;have NB920_878:=nn_ hg BK878;replace BK878:=kc_ BK878 hb;have NB884_920:=nm_ hg BK884;have NB920_884:=nn_ hg BK884;replace BK884:=kc_ BK884 hb;clear hb hbox hg;have hnb129:=NB920_850.out;have hnc129:=NB850_920.out;have hnb130:=NB920_867.out;have hnc130:=NB867_920.out;have hnb131:=NB920_878.out;have hnc131:=NB878_920.out;have hnb132:=NB920_884.out;have hnc132:=NB884_920.out;obtain ⟨hcz133_0,hcz133_1,hfz133_0,hfz133_1⟩:=cf2_ BK920.out;obtain ⟨Ao134,co134,eo134⟩:=Kd.R_slice HO918.out;subst eo134))
            (try simp only [Act.put,List.setIfInBounds_toArray,List.set_cons_zero,List.set_cons_succ])
            go_cut [95] (fun v95 wc => ∃ (kq : Nat) (x95_111 : Bool),v95 = .bool x95_111 ∧ Aside0 (laws_FnExactValueOf.j2 kq t902 x95_111 t879 t903 = some r) ∧ Aside0 (kq ≤ kj66) ∧ Aside0 (Kd.R (Kd.int .i64) 3 wc w.heap.size (fun k_ => some k_ ≠ ((.slice Ao34 t898.length co34) : Value).ownBlock ∧ some k_ ≠ ((.slice Ao35 t899.length co35) : Value).ownBlock ∧ some k_ ≠ ((.slice Ao43 t880.length co43) : Value).ownBlock ∧ some k_ ≠ ((.slice Ao134 t916.length co134) : Value).ownBlock) (.slice Ao27 t863.length co27) t863) ∧ Aside0 (Kd.R (Kd.int .i64) 3 wc w.heap.size (fun k_ => some k_ ≠ ((.slice Ao27 t863.length co27) : Value).ownBlock ∧ some k_ ≠ ((.slice Ao35 t899.length co35) : Value).ownBlock ∧ some k_ ≠ ((.slice Ao43 t880.length co43) : Value).ownBlock ∧ some k_ ≠ ((.slice Ao134 t916.length co134) : Value).ownBlock) (.slice Ao34 t898.length co34) t898) ∧ Aside0 (Kd.R (Kd.int .i64) 3 wc w.heap.size (fun k_ => some k_ ≠ ((.slice Ao27 t863.length co27) : Value).ownBlock ∧ some k_ ≠ ((.slice Ao34 t898.length co34) : Value).ownBlock ∧ some k_ ≠ ((.slice Ao43 t880.length co43) : Value).ownBlock ∧ some k_ ≠ ((.slice Ao134 t916.length co134) : Value).ownBlock) (.slice Ao35 t899.length co35) t899) ∧ Aside0 (Kd.R k92 92 wc w.heap.size (fun _ => True) (.slice Ao36 t900.length co36) t900) ∧ Aside0 (Kd.R (Kd.int .i64) 3 wc w.heap.size (fun k_ => some k_ ≠ ((.slice Ao27 t863.length co27) : Value).ownBlock ∧ some k_ ≠ ((.slice Ao34 t898.length co34) : Value).ownBlock ∧ some k_ ≠ ((.slice Ao35 t899.length co35) : Value).ownBlock ∧ some k_ ≠ ((.slice Ao134 t916.length co134) : Value).ownBlock) (.slice Ao43 t880.length co43) t903) ∧ Aside0 (Kd.R (Kd.int .i64) 3 wc w.heap.size (fun k_ => some k_ ≠ ((.slice Ao27 t863.length co27) : Value).ownBlock ∧ some k_ ≠ ((.slice Ao34 t898.length co34) : Value).ownBlock ∧ some k_ ≠ ((.slice Ao35 t899.length co35) : Value).ownBlock ∧ some k_ ≠ ((.slice Ao43 t880.length co43) : Value).ownBlock) (.slice Ao134 t916.length co134) t916) ∧ Aside0 (wc.heap[gb850]? = some (.cells #[.int .i64 a0_0,(.slice A0_1 l0_1.length c0_1),(.slice A0_2 l0_2.length c0_2),(.slice A0_3 l0_3.length c0_3)] 25 (0,0))) ∧ Aside0 (wc.heap[gb867]? = some (.cells #[.int .i64 t862,(.slice Ao27 t863.length co27)] 35 (0,0))) ∧ Aside0 (wc.heap[gb878]? = some (.cells #[.int .i64 t868,(.slice Ao34 t898.length co34),(.slice Ao35 t899.length co35),(.slice Ao36 t900.length co36)] 33 (0,0))) ∧ Aside0 (wc.heap[gb884]? = some (.cells #[.int .i64 t879,(.slice Ao43 t880.length co43)] 35 (0,0))) ∧ Aside0 (wc.heap[gb920]? = some (.cells #[.int .i64 t915,(.slice Ao134 t916.length co134)] 35 (0,0))) ∧ Aside0 (Below w.heap.size w wc))
            case first =>
             have H:=HC112.out
             clear HC112
             replace H:=Option.bind_eq_some_iff.mp H
             obtain ⟨t921,A1350,H⟩:=H
             replace H : (if t921 = true then (laws_FnExactValueOf.j2 kj66 t902 (t919 != t866) t879 t903) else (laws_FnExactValueOf.j2 kj66 t902 true t879 t903)) = some r:=H
             have A135:=Aside0.mk A1350
             clear A1350
             by_cases c136 : t921 = true
             ·subst c136
              have H1 : (laws_FnExactValueOf.j2 kj66 t902 (t919 != t866) t879 t903) = some r:=by rw [if_pos rfl] at H;exact H
              clear H
              have H:=H1
              clear H1
              have H':=Aside0.mk H
              clear H
              have hnb137:=NB920_850.out
              have hnc137:=NB850_920.out
              have hnb138:=NB920_867.out
              have hnc138:=NB867_920.out
              have hnb139:=NB920_878.out
              have hnc139:=NB878_920.out
              have hnb140:=NB920_884.out
              have hnc140:=NB884_920.out
              obtain ⟨hcz141_0,hcz141_1,hfz141_0,hfz141_1⟩:=cf2_ BK920.out
              have hnb142:=NB867_850.out
              have hnc142:=NB850_867.out
              have hnb143:=NB867_878.out
              have hnc143:=NB878_867.out
              have hnb144:=NB867_884.out
              have hnc144:=NB884_867.out
              obtain ⟨hcz145_0,hcz145_1,hfz145_0,hfz145_1⟩:=cf2_ BK867.out
              go_wp2_with (first|((with_reducible refine gate_callee (f:=21) rfl ?_);refine goesL_ (some 89) rfl rfl Try.func21 (by kernel_rfl) rfl #[.agg #[.int .i64 t915,.slice Ao134 t916.length co134],.agg #[.int .i64 t862,.slice Ao27 t863.length co27]] rfl lp_ ?_;(with_reducible refine (laws_eqMatrix.calls kj66 t915 _ _ t916 t862 _ _ t863 true _ ?side1 ?side2 ?side3 ?side4 A135.out).mono ?_);(case side1 => refine (Kd.R_reads' (e:=3) (base:=w.heap.size) (ok:=fun k_ => ((((((True ∧ some k_ ≠ (.slice Ao27 t863.length co27 : Value).ownBlock) ∧ some k_ ≠ (.slice Ao34 t898.length co34 : Value).ownBlock) ∧ some k_ ≠ (.slice Ao35 t899.length co35 : Value).ownBlock) ∧ some k_ ≠ (.slice Ao43 t880.length co43 : Value).ownBlock) ∧ some k_ ≠ (.slice Ao124 t906.length co124 : Value).ownBlock) ∧ some k_ ≠ (.slice Ao125 t909.length co125 : Value).ownBlock)) (n:=t916.length) (c:=co134) ?_).2.2;exact (by refine pr_ ?_;exact (Kd.R_mono (Kd.R_far (p:=⟨gb920,1,none⟩) (Kd.R_far (p:=⟨gb920,0,none⟩) (Kd.R_types HO918.out BK920.out (by decide)) (fun _ hk => hk.2) (.int .i64 t915)) (fun _ hk => hk.2) (.slice Ao134 t916.length co134)) (fun _ h_ => h_.1))));(case side2 => exact (Kd.R_reads' HO918.out).2.1);(case side3 => refine (Kd.R_reads' (e:=3) (base:=w.heap.size) (ok:=fun k_ => ((((some k_ ≠ (.slice Ao34 t898.length co34 : Value).ownBlock ∧ (some k_ ≠ (.slice Ao35 t899.length co35 : Value).ownBlock ∧ some k_ ≠ (.slice Ao43 t880.length co43 : Value).ownBlock)) ∧ some k_ ≠ (.slice Ao124 t906.length co124 : Value).ownBlock) ∧ some k_ ≠ (.slice Ao125 t909.length co125 : Value).ownBlock) ∧ some k_ ≠ (.slice Ao134 t916.length co134 : Value).ownBlock)) (n:=t863.length) (c:=co27) ?_).2.2;exact (by refine pr_ ?_;exact (Kd.R_mono (Kd.R_far (p:=⟨gb920,1,none⟩) (Kd.R_far (p:=⟨gb920,0,none⟩) (Kd.R_types HO_868001.out BK920.out (by decide)) (fun _ hk => hk.2) (.int .i64 t915)) (fun _ hk => hk.2) (.slice Ao134 t916.length co134)) (fun _ h_ => h_.1))));(case side4 => exact (Kd.R_reads' HO_868001.out).2.1);rintro e w146 ⟨rfl,hb⟩;refine ⟨_,rfl,?_⟩;replace HO_868001:=Aside0.mk (Kd.R_below (by refine pr_ ?_;exact (Kd.R_mono (Kd.R_far (p:=⟨gb920,1,none⟩) (Kd.R_far (p:=⟨gb920,0,none⟩) (Kd.R_types HO_868001.out BK920.out (by decide)) (fun _ hk => hk.2) (.int .i64 t915)) (fun _ hk => hk.2) (.slice Ao134 t916.length co134)) (fun _ h_ => h_.1))) hb);replace HO_879001:=Aside0.mk (Kd.R_below (by refine pr_ ?_;exact (Kd.R_mono (Kd.R_far (p:=⟨gb920,1,none⟩) (Kd.R_far (p:=⟨gb920,0,none⟩) (Kd.R_types HO_879001.out BK920.out (by decide)) (fun _ hk => hk.2) (.int .i64 t915)) (fun _ hk => hk.2) (.slice Ao134 t916.length co134)) (fun _ h_ => h_.1))) hb);replace HO_879002:=Aside0.mk (Kd.R_below (by refine pr_ ?_;exact (Kd.R_mono (Kd.R_far (p:=⟨gb920,1,none⟩) (Kd.R_far (p:=⟨gb920,0,none⟩) (Kd.R_types HO_879002.out BK920.out (by decide)) (fun _ hk => hk.2) (.int .i64 t915)) (fun _ hk => hk.2) (.slice Ao134 t916.length co134)) (fun _ h_ => h_.1))) hb);replace HO_879003:=Aside0.mk (Kd.R_below (by refine pr_ ?_;exact (Kd.R_mono (Kd.R_far (p:=⟨gb920,1,none⟩) (Kd.R_far (p:=⟨gb920,0,none⟩) (Kd.R_types HO_879003.out BK920.out (by decide)) (fun _ hk => hk.2) (.int .i64 t915)) (fun _ hk => hk.2) (.slice Ao134 t916.length co134)) (fun _ h_ => h_.1))) hb);replace HO_885001:=Aside0.mk (Kd.R_below (by refine pr_ ?_;exact (Kd.R_mono (Kd.R_far (p:=⟨gb920,1,none⟩) (Kd.R_far (p:=⟨gb920,0,none⟩) (Kd.R_types HO_885001.out BK920.out (by decide)) (fun _ hk => hk.2) (.int .i64 t915)) (fun _ hk => hk.2) (.slice Ao134 t916.length co134)) (fun _ h_ => h_.1))) hb);replace HO908:=Aside0.mk (Kd.R_below (by refine pr_ ?_;exact (Kd.R_mono (Kd.R_far (p:=⟨gb920,1,none⟩) (Kd.R_far (p:=⟨gb920,0,none⟩) (Kd.R_types HO908.out BK920.out (by decide)) (fun _ hk => hk.2) (.int .i64 t915)) (fun _ hk => hk.2) (.slice Ao134 t916.length co134)) (fun _ h_ => h_.1))) hb);replace HO911:=Aside0.mk (Kd.R_below (by refine pr_ ?_;exact (Kd.R_mono (Kd.R_far (p:=⟨gb920,1,none⟩) (Kd.R_far (p:=⟨gb920,0,none⟩) (Kd.R_types HO911.out BK920.out (by decide)) (fun _ hk => hk.2) (.int .i64 t915)) (fun _ hk => hk.2) (.slice Ao134 t916.length co134)) (fun _ h_ => h_.1))) hb);replace HO914:=Aside0.mk (Kd.R_below (by refine pr_ ?_;exact (Kd.R_mono (Kd.R_far (p:=⟨gb920,1,none⟩) (Kd.R_far (p:=⟨gb920,0,none⟩) (Kd.R_types HO914.out BK920.out (by decide)) (fun _ hk => hk.2) (.int .i64 t915)) (fun _ hk => hk.2) (.slice Ao134 t916.length co134)) (fun _ h_ => h_.1))) hb);replace HO918:=Aside0.mk (Kd.R_below (by refine pr_ ?_;exact (Kd.R_mono (Kd.R_far (p:=⟨gb920,1,none⟩) (Kd.R_far (p:=⟨gb920,0,none⟩) (Kd.R_types HO918.out BK920.out (by decide)) (fun _ hk => hk.2) (.int .i64 t915)) (fun _ hk => hk.2) (.slice Ao134 t916.length co134)) (fun _ h_ => h_.1))) hb);replace BK850:=Aside0.mk (blk_below (g:=gb850) (o:=.cells #[.int .i64 a0_0,.slice A0_1 l0_1.length c0_1,.slice A0_2 l0_2.length c0_2,.slice A0_3 l0_3.length c0_3] 25 (0,0)) (bf1_ BK850.out NB850_920.out) hb);replace BK867:=Aside0.mk (blk_below (g:=gb867) (o:=.cells #[.int .i64 t862,.slice Ao27 t863.length co27] 35 (0,0)) (bf1_ BK867.out NB867_920.out) hb);replace BK878:=Aside0.mk (blk_below (g:=gb878) (o:=.cells #[.int .i64 t868,.slice Ao34 t898.length co34,.slice Ao35 t899.length co35,.slice Ao36 t900.length co36] 33 (0,0)) (bf1_ BK878.out NB878_920.out) hb);replace BK884:=Aside0.mk (blk_below (g:=gb884) (o:=.cells #[.int .i64 t879,.slice Ao43 t880.length co43] 35 (0,0)) (bf1_ BK884.out NB884_920.out) hb);replace BK920:=Aside0.mk (blk_below (g:=gb920) (o:=.cells #[.int .i64 t915,.slice Ao134 t916.length co134] 35 (0,0)) (by refine pe_ ?_;refine blk_put (cs:=#[.int .i64 t915,.slice none 0 0]) ?_ 1 _ rfl;refine pe_ ?_;refine blk_put (cs:=#[.int .i64 0,.slice none 0 0]) ?_ 0 _ rfl;refine pe_ ?_;exact BK920.out) hb);replace HB:=hs5_ HB GE850 GE867 GE878 GE884 GE920 hb;(try clear hb);(try clear hb2);(try clear hk);(try clear hi)))
              go_meet
              case rel => exact ⟨_,((t919 != t866)),rs_,H',⟨by have:=HJ13.out;have:=HJ66.out;first|omega|exact Nat.le_refl _⟩,⟨by (try simp only [hl879001_66]);(try simp only [hl879002_66]);(try simp only [hl879003_66]);refine pr_ ?_;exact Kd.R_mono HO_868001.out (fun _ hk => ⟨hk.1.1.1.1,⟨hk.1.1.1.2.1,⟨hk.1.1.1.2.2,hk.2⟩⟩⟩)⟩,⟨by (try simp only [hl879001_66]);(try simp only [hl879002_66]);(try simp only [hl879003_66]);refine pr_ ?_;exact Kd.R_mono HO_879001.out (fun _ hk => ⟨hk.1.1.1.1,⟨hk.1.1.1.2.1,⟨hk.1.1.1.2.2,hk.2⟩⟩⟩)⟩,⟨by (try simp only [hl879001_66]);(try simp only [hl879002_66]);(try simp only [hl879003_66]);refine pr_ ?_;exact Kd.R_mono HO_879002.out (fun _ hk => ⟨hk.1.1.1.1,⟨hk.1.1.1.2.1,⟨hk.1.1.1.2.2,hk.2⟩⟩⟩)⟩,⟨by (try simp only [hl879001_66]);(try simp only [hl879002_66]);(try simp only [hl879003_66]);refine pr_ ?_;exact Kd.R_mono HO_879003.out (fun _ hk => trivial)⟩,⟨by (try simp only [hl879001_66]);(try simp only [hl879002_66]);(try simp only [hl879003_66]);refine pr_ ?_;exact Kd.R_mono HO_885001.out (fun _ hk => ⟨hk.1.1.1.1,⟨hk.1.1.1.2.1,⟨hk.1.1.1.2.2,hk.2⟩⟩⟩)⟩,⟨by (try simp only [hl879001_66]);(try simp only [hl879002_66]);(try simp only [hl879003_66]);refine pr_ ?_;exact Kd.R_mono HO918.out (fun _ hk => ⟨hk.1.1.1.1.1.2,⟨hk.1.1.1.1.2,⟨hk.1.1.1.2,hk.1.1.2⟩⟩⟩)⟩,⟨by (try simp only [hl879001_66]);(try simp only [hl879002_66]);(try simp only [hl879003_66]);refine pe_ ?_;exact BK850.out⟩,⟨by (try simp only [hl879001_66]);(try simp only [hl879002_66]);(try simp only [hl879003_66]);refine pe_ ?_;exact BK867.out⟩,⟨by (try simp only [hl879001_66]);(try simp only [hl879002_66]);(try simp only [hl879003_66]);refine pe_ ?_;exact BK878.out⟩,⟨by (try simp only [hl879001_66]);(try simp only [hl879002_66]);(try simp only [hl879003_66]);refine pe_ ?_;exact BK884.out⟩,⟨by (try simp only [hl879001_66]);(try simp only [hl879002_66]);(try simp only [hl879003_66]);refine pe_ ?_;exact BK920.out⟩,⟨be5_ HB.out GE850.out GE867.out GE878.out GE884.out GE920.out⟩⟩
             ·replace c136:=Bool.eq_false_iff.mpr c136
              subst c136
              have H1 : (laws_FnExactValueOf.j2 kj66 t902 true t879 t903) = some r:=by rw [if_neg (show ¬ (false = true) by decide)] at H;exact H
              clear H
              have H:=H1
              clear H1
              have H':=Aside0.mk H
              clear H
              have hnb147:=NB920_850.out
              have hnc147:=NB850_920.out
              have hnb148:=NB920_867.out
              have hnc148:=NB867_920.out
              have hnb149:=NB920_878.out
              have hnc149:=NB878_920.out
              have hnb150:=NB920_884.out
              have hnc150:=NB884_920.out
              obtain ⟨hcz151_0,hcz151_1,hfz151_0,hfz151_1⟩:=cf2_ BK920.out
              have hnb152:=NB867_850.out
              have hnc152:=NB850_867.out
              have hnb153:=NB867_878.out
              have hnc153:=NB878_867.out
              have hnb154:=NB867_884.out
              have hnc154:=NB884_867.out
              obtain ⟨hcz155_0,hcz155_1,hfz155_0,hfz155_1⟩:=cf2_ BK867.out
              go_wp2_with (first|((with_reducible refine gate_callee (f:=21) rfl ?_);refine goesL_ (some 89) rfl rfl Try.func21 (by kernel_rfl) rfl #[.agg #[.int .i64 t915,.slice Ao134 t916.length co134],.agg #[.int .i64 t862,.slice Ao27 t863.length co27]] rfl lp_ ?_;(with_reducible refine (laws_eqMatrix.calls kj66 t915 _ _ t916 t862 _ _ t863 false _ ?side1 ?side2 ?side3 ?side4 A135.out).mono ?_);(case side1 => refine (Kd.R_reads' (e:=3) (base:=w.heap.size) (ok:=fun k_ => ((((((True ∧ some k_ ≠ (.slice Ao27 t863.length co27 : Value).ownBlock) ∧ some k_ ≠ (.slice Ao34 t898.length co34 : Value).ownBlock) ∧ some k_ ≠ (.slice Ao35 t899.length co35 : Value).ownBlock) ∧ some k_ ≠ (.slice Ao43 t880.length co43 : Value).ownBlock) ∧ some k_ ≠ (.slice Ao124 t906.length co124 : Value).ownBlock) ∧ some k_ ≠ (.slice Ao125 t909.length co125 : Value).ownBlock)) (n:=t916.length) (c:=co134) ?_).2.2;exact (by refine pr_ ?_;exact (Kd.R_mono (Kd.R_far (p:=⟨gb920,1,none⟩) (Kd.R_far (p:=⟨gb920,0,none⟩) (Kd.R_types HO918.out BK920.out (by decide)) (fun _ hk => hk.2) (.int .i64 t915)) (fun _ hk => hk.2) (.slice Ao134 t916.length co134)) (fun _ h_ => h_.1))));(case side2 => exact (Kd.R_reads' HO918.out).2.1);(case side3 => refine (Kd.R_reads' (e:=3) (base:=w.heap.size) (ok:=fun k_ => ((((some k_ ≠ (.slice Ao34 t898.length co34 : Value).ownBlock ∧ (some k_ ≠ (.slice Ao35 t899.length co35 : Value).ownBlock ∧ some k_ ≠ (.slice Ao43 t880.length co43 : Value).ownBlock)) ∧ some k_ ≠ (.slice Ao124 t906.length co124 : Value).ownBlock) ∧ some k_ ≠ (.slice Ao125 t909.length co125 : Value).ownBlock) ∧ some k_ ≠ (.slice Ao134 t916.length co134 : Value).ownBlock)) (n:=t863.length) (c:=co27) ?_).2.2;exact (by refine pr_ ?_;exact (Kd.R_mono (Kd.R_far (p:=⟨gb920,1,none⟩) (Kd.R_far (p:=⟨gb920,0,none⟩) (Kd.R_types HO_868001.out BK920.out (by decide)) (fun _ hk => hk.2) (.int .i64 t915)) (fun _ hk => hk.2) (.slice Ao134 t916.length co134)) (fun _ h_ => h_.1))));(case side4 => exact (Kd.R_reads' HO_868001.out).2.1);rintro e w156 ⟨rfl,hb⟩;refine ⟨_,rfl,?_⟩;replace HO_868001:=Aside0.mk (Kd.R_below (by refine pr_ ?_;exact (Kd.R_mono (Kd.R_far (p:=⟨gb920,1,none⟩) (Kd.R_far (p:=⟨gb920,0,none⟩) (Kd.R_types HO_868001.out BK920.out (by decide)) (fun _ hk => hk.2) (.int .i64 t915)) (fun _ hk => hk.2) (.slice Ao134 t916.length co134)) (fun _ h_ => h_.1))) hb);replace HO_879001:=Aside0.mk (Kd.R_below (by refine pr_ ?_;exact (Kd.R_mono (Kd.R_far (p:=⟨gb920,1,none⟩) (Kd.R_far (p:=⟨gb920,0,none⟩) (Kd.R_types HO_879001.out BK920.out (by decide)) (fun _ hk => hk.2) (.int .i64 t915)) (fun _ hk => hk.2) (.slice Ao134 t916.length co134)) (fun _ h_ => h_.1))) hb);replace HO_879002:=Aside0.mk (Kd.R_below (by refine pr_ ?_;exact (Kd.R_mono (Kd.R_far (p:=⟨gb920,1,none⟩) (Kd.R_far (p:=⟨gb920,0,none⟩) (Kd.R_types HO_879002.out BK920.out (by decide)) (fun _ hk => hk.2) (.int .i64 t915)) (fun _ hk => hk.2) (.slice Ao134 t916.length co134)) (fun _ h_ => h_.1))) hb);replace HO_879003:=Aside0.mk (Kd.R_below (by refine pr_ ?_;exact (Kd.R_mono (Kd.R_far (p:=⟨gb920,1,none⟩) (Kd.R_far (p:=⟨gb920,0,none⟩) (Kd.R_types HO_879003.out BK920.out (by decide)) (fun _ hk => hk.2) (.int .i64 t915)) (fun _ hk => hk.2) (.slice Ao134 t916.length co134)) (fun _ h_ => h_.1))) hb);replace HO_885001:=Aside0.mk (Kd.R_below (by refine pr_ ?_;exact (Kd.R_mono (Kd.R_far (p:=⟨gb920,1,none⟩) (Kd.R_far (p:=⟨gb920,0,none⟩) (Kd.R_types HO_885001.out BK920.out (by decide)) (fun _ hk => hk.2) (.int .i64 t915)) (fun _ hk => hk.2) (.slice Ao134 t916.length co134)) (fun _ h_ => h_.1))) hb);replace HO908:=Aside0.mk (Kd.R_below (by refine pr_ ?_;exact (Kd.R_mono (Kd.R_far (p:=⟨gb920,1,none⟩) (Kd.R_far (p:=⟨gb920,0,none⟩) (Kd.R_types HO908.out BK920.out (by decide)) (fun _ hk => hk.2) (.int .i64 t915)) (fun _ hk => hk.2) (.slice Ao134 t916.length co134)) (fun _ h_ => h_.1))) hb);replace HO911:=Aside0.mk (Kd.R_below (by refine pr_ ?_;exact (Kd.R_mono (Kd.R_far (p:=⟨gb920,1,none⟩) (Kd.R_far (p:=⟨gb920,0,none⟩) (Kd.R_types HO911.out BK920.out (by decide)) (fun _ hk => hk.2) (.int .i64 t915)) (fun _ hk => hk.2) (.slice Ao134 t916.length co134)) (fun _ h_ => h_.1))) hb);replace HO914:=Aside0.mk (Kd.R_below (by refine pr_ ?_;exact (Kd.R_mono (Kd.R_far (p:=⟨gb920,1,none⟩) (Kd.R_far (p:=⟨gb920,0,none⟩) (Kd.R_types HO914.out BK920.out (by decide)) (fun _ hk => hk.2) (.int .i64 t915)) (fun _ hk => hk.2) (.slice Ao134 t916.length co134)) (fun _ h_ => h_.1))) hb);replace HO918:=Aside0.mk (Kd.R_below (by refine pr_ ?_;exact (Kd.R_mono (Kd.R_far (p:=⟨gb920,1,none⟩) (Kd.R_far (p:=⟨gb920,0,none⟩) (Kd.R_types HO918.out BK920.out (by decide)) (fun _ hk => hk.2) (.int .i64 t915)) (fun _ hk => hk.2) (.slice Ao134 t916.length co134)) (fun _ h_ => h_.1))) hb);replace BK850:=Aside0.mk (blk_below (g:=gb850) (o:=.cells #[.int .i64 a0_0,.slice A0_1 l0_1.length c0_1,.slice A0_2 l0_2.length c0_2,.slice A0_3 l0_3.length c0_3] 25 (0,0)) (bf1_ BK850.out NB850_920.out) hb);replace BK867:=Aside0.mk (blk_below (g:=gb867) (o:=.cells #[.int .i64 t862,.slice Ao27 t863.length co27] 35 (0,0)) (bf1_ BK867.out NB867_920.out) hb);replace BK878:=Aside0.mk (blk_below (g:=gb878) (o:=.cells #[.int .i64 t868,.slice Ao34 t898.length co34,.slice Ao35 t899.length co35,.slice Ao36 t900.length co36] 33 (0,0)) (bf1_ BK878.out NB878_920.out) hb);replace BK884:=Aside0.mk (blk_below (g:=gb884) (o:=.cells #[.int .i64 t879,.slice Ao43 t880.length co43] 35 (0,0)) (bf1_ BK884.out NB884_920.out) hb);replace BK920:=Aside0.mk (blk_below (g:=gb920) (o:=.cells #[.int .i64 t915,.slice Ao134 t916.length co134] 35 (0,0)) (by refine pe_ ?_;refine blk_put (cs:=#[.int .i64 t915,.slice none 0 0]) ?_ 1 _ rfl;refine pe_ ?_;refine blk_put (cs:=#[.int .i64 0,.slice none 0 0]) ?_ 0 _ rfl;refine pe_ ?_;exact BK920.out) hb);replace HB:=hs5_ HB GE850 GE867 GE878 GE884 GE920 hb;(try clear hb);(try clear hb2);(try clear hk);(try clear hi)))
              go_meet
              case rel => exact ⟨_,(true),rs_,H',⟨by have:=HJ13.out;have:=HJ66.out;first|omega|exact Nat.le_refl _⟩,⟨by (try simp only [hl879001_66]);(try simp only [hl879002_66]);(try simp only [hl879003_66]);refine pr_ ?_;exact Kd.R_mono HO_868001.out (fun _ hk => ⟨hk.1.1.1.1,⟨hk.1.1.1.2.1,⟨hk.1.1.1.2.2,hk.2⟩⟩⟩)⟩,⟨by (try simp only [hl879001_66]);(try simp only [hl879002_66]);(try simp only [hl879003_66]);refine pr_ ?_;exact Kd.R_mono HO_879001.out (fun _ hk => ⟨hk.1.1.1.1,⟨hk.1.1.1.2.1,⟨hk.1.1.1.2.2,hk.2⟩⟩⟩)⟩,⟨by (try simp only [hl879001_66]);(try simp only [hl879002_66]);(try simp only [hl879003_66]);refine pr_ ?_;exact Kd.R_mono HO_879002.out (fun _ hk => ⟨hk.1.1.1.1,⟨hk.1.1.1.2.1,⟨hk.1.1.1.2.2,hk.2⟩⟩⟩)⟩,⟨by (try simp only [hl879001_66]);(try simp only [hl879002_66]);(try simp only [hl879003_66]);refine pr_ ?_;exact Kd.R_mono HO_879003.out (fun _ hk => trivial)⟩,⟨by (try simp only [hl879001_66]);(try simp only [hl879002_66]);(try simp only [hl879003_66]);refine pr_ ?_;exact Kd.R_mono HO_885001.out (fun _ hk => ⟨hk.1.1.1.1,⟨hk.1.1.1.2.1,⟨hk.1.1.1.2.2,hk.2⟩⟩⟩)⟩,⟨by (try simp only [hl879001_66]);(try simp only [hl879002_66]);(try simp only [hl879003_66]);refine pr_ ?_;exact Kd.R_mono HO918.out (fun _ hk => ⟨hk.1.1.1.1.1.2,⟨hk.1.1.1.1.2,⟨hk.1.1.1.2,hk.1.1.2⟩⟩⟩)⟩,⟨by (try simp only [hl879001_66]);(try simp only [hl879002_66]);(try simp only [hl879003_66]);refine pe_ ?_;exact BK850.out⟩,⟨by (try simp only [hl879001_66]);(try simp only [hl879002_66]);(try simp only [hl879003_66]);refine pe_ ?_;exact BK867.out⟩,⟨by (try simp only [hl879001_66]);(try simp only [hl879002_66]);(try simp only [hl879003_66]);refine pe_ ?_;exact BK878.out⟩,⟨by (try simp only [hl879001_66]);(try simp only [hl879002_66]);(try simp only [hl879003_66]);refine pe_ ?_;exact BK884.out⟩,⟨by (try simp only [hl879001_66]);(try simp only [hl879002_66]);(try simp only [hl879003_66]);refine pe_ ?_;exact BK920.out⟩,⟨be5_ HB.out GE850.out GE867.out GE878.out GE884.out GE920.out⟩⟩
            case rest =>
             clear HC112
             obtain ⟨kq,x95_111,rfl,HA,HJ111,HO_868001,HO_879001,HO_879002,HO_879003,HO_885001,HO_921001,BK850,BK867,BK878,BK884,BK920,HB⟩:=hcut
             have hl885001_111:=(Kd.R_reads' HO_885001.out).1
             rw [hl885001_111] at HO_885001
             (try simp only [hl885001_111])
             (try simp only [hl885001_111] at BK850)
             (try simp only [hl885001_111] at BK867)
             (try simp only [hl885001_111] at BK878)
             (try simp only [hl885001_111] at BK884)
             (try simp only [hl885001_111] at BK920)
             (try simp only [hl885001_111] at HO_868001)
             (try simp only [hl885001_111] at HO_879001)
             (try simp only [hl885001_111] at HO_879002)
             (try simp only [hl885001_111] at HO_879003)
             (try simp only [hl885001_111] at HO_921001)
             cases kq with
             | zero => exact absurd HA.out (by simp [laws_FnExactValueOf.j2])
             | succ kj111 =>
              have H:=HA.out
              clear HA
              simp only [laws_FnExactValueOf.j2] at H
              by_cases c157 : x95_111 = true
              ·subst c157
               have H1 : (some false) = some r:=by rw [if_pos rfl] at H;exact H
               clear H
               have H:=H1
               clear H1
               obtain rfl:=Option.some.inj H
               go_wp2
               go_ret
               exact ⟨er_,be5_ HB.out GE850.out GE867.out GE878.out GE884.out GE920.out⟩
              ·replace c157:=Bool.eq_false_iff.mpr c157
               subst c157
               have H1 : ((laws_heldMatrix.f kj111 t879 t903 1).bind fun t922 => (if t922 < 0 then (some false) else (if t922 = t902 then (some true) else (some false)))) = some r:=by rw [if_neg (show ¬ (false = true) by decide)] at H;exact H
               clear H
               have H:=H1
               clear H1
               replace H:=Option.bind_eq_some_iff.mp H
               obtain ⟨t922,A1580,H⟩:=H
               replace H : (if t922 < 0 then (some false) else (if t922 = t902 then (some true) else (some false))) = some r:=H
               have A158:=Aside0.mk A1580
               clear A1580
               by_cases c159 : t922 < 0
               ·rw [if_pos c159] at H
                have c159b0 : decide (t922 < 0) = true:=decide_eq_true c159
                clear c159
                obtain rfl:=Option.some.inj H
                have hnb160:=NB884_850.out
                have hnc160:=NB850_884.out
                have hnb161:=NB884_867.out
                have hnc161:=NB867_884.out
                have hnb162:=NB884_878.out
                have hnc162:=NB878_884.out
                have hnb163:=NB884_920.out
                have hnc163:=NB920_884.out
                obtain ⟨hcz164_0,hcz164_1,hfz164_0,hfz164_1⟩:=cf2_ BK884.out
                go_wp2_with (first|((with_reducible refine gate_callee (f:=26) rfl ?_);refine goesL_ (some 98) rfl rfl Try.func26 (by kernel_rfl) rfl #[.agg #[.int .i64 t879,.slice Ao43 t903.length co43],.int .i64 1] rfl lp_ ?_;(with_reducible refine (laws_heldMatrix.calls kj111 t879 _ _ t903 1 t922 _ ?side1 ?side2 A158.out).mono ?_);(case side1 => exact cr_ (Kd.R_reads' HO_885001.out).2.2);(case side2 => exact (Kd.R_reads' HO_885001.out).2.1);rintro e w165 ⟨rfl,hb⟩;refine ⟨_,rfl,?_⟩;replace HO_868001:=Aside0.mk (Kd.R_below (pr_ HO_868001.out) hb);replace HO_879001:=Aside0.mk (Kd.R_below (pr_ HO_879001.out) hb);replace HO_879002:=Aside0.mk (Kd.R_below (pr_ HO_879002.out) hb);replace HO_879003:=Aside0.mk (Kd.R_below (pr_ HO_879003.out) hb);replace HO_885001:=Aside0.mk (Kd.R_below (pr_ HO_885001.out) hb);replace HO_921001:=Aside0.mk (Kd.R_below (pr_ HO_921001.out) hb);replace BK850:=kc_ BK850 hb;replace BK867:=kc_ BK867 hb;replace BK878:=kc_ BK878 hb;replace BK884:=kc_ BK884 hb;replace BK920:=kc_ BK920 hb;replace HB:=hs5_ HB GE850 GE867 GE878 GE884 GE920 hb;(try clear hb);(try clear hb2);(try clear hk);(try clear hi)))
                go_ret
                exact ⟨er_,be5_ HB.out GE850.out GE867.out GE878.out GE884.out GE920.out⟩
               ·rw [if_neg c159] at H
                have c159b0 : decide (t922 < 0) = false:=decide_eq_false c159
                clear c159
                by_cases c166 : t922 = t902
                ·rw [if_pos c166] at H
                 have c166b0 : (t922 == t902) = true:=beq_iff_eq.mpr c166
                 have c166b1 : (t922 != t902) = false:=bne_eq_false_iff_eq.mpr c166
                 clear c166
                 obtain rfl:=Option.some.inj H
                 have hnb167:=NB884_850.out
                 have hnc167:=NB850_884.out
                 have hnb168:=NB884_867.out
                 have hnc168:=NB867_884.out
                 have hnb169:=NB884_878.out
                 have hnc169:=NB878_884.out
                 have hnb170:=NB884_920.out
                 have hnc170:=NB920_884.out
                 obtain ⟨hcz171_0,hcz171_1,hfz171_0,hfz171_1⟩:=cf2_ BK884.out
                 go_wp2_with (first|((with_reducible refine gate_callee (f:=26) rfl ?_);refine goesL_ (some 98) rfl rfl Try.func26 (by kernel_rfl) rfl #[.agg #[.int .i64 t879,.slice Ao43 t903.length co43],.int .i64 1] rfl lp_ ?_;(with_reducible refine (laws_heldMatrix.calls kj111 t879 _ _ t903 1 t922 _ ?side1 ?side2 A158.out).mono ?_);(case side1 => exact cr_ (Kd.R_reads' HO_885001.out).2.2);(case side2 => exact (Kd.R_reads' HO_885001.out).2.1);rintro e w172 ⟨rfl,hb⟩;refine ⟨_,rfl,?_⟩;replace HO_868001:=Aside0.mk (Kd.R_below (pr_ HO_868001.out) hb);replace HO_879001:=Aside0.mk (Kd.R_below (pr_ HO_879001.out) hb);replace HO_879002:=Aside0.mk (Kd.R_below (pr_ HO_879002.out) hb);replace HO_879003:=Aside0.mk (Kd.R_below (pr_ HO_879003.out) hb);replace HO_885001:=Aside0.mk (Kd.R_below (pr_ HO_885001.out) hb);replace HO_921001:=Aside0.mk (Kd.R_below (pr_ HO_921001.out) hb);replace BK850:=kc_ BK850 hb;replace BK867:=kc_ BK867 hb;replace BK878:=kc_ BK878 hb;replace BK884:=kc_ BK884 hb;replace BK920:=kc_ BK920 hb;replace HB:=hs5_ HB GE850 GE867 GE878 GE884 GE920 hb;(try clear hb);(try clear hb2);(try clear hk);(try clear hi)))
                 go_ret
                 exact ⟨er_,be5_ HB.out GE850.out GE867.out GE878.out GE884.out GE920.out⟩
                ·rw [if_neg c166] at H
                 have c166b0 : (t922 == t902) = false:=beq_eq_false_iff_ne.mpr c166
                 have c166b1 : (t922 != t902) = true:=bne_iff_ne.mpr c166
                 obtain rfl:=Option.some.inj H
                 have hnb173:=NB884_850.out
                 have hnc173:=NB850_884.out
                 have hnb174:=NB884_867.out
                 have hnc174:=NB867_884.out
                 have hnb175:=NB884_878.out
                 have hnc175:=NB878_884.out
                 have hnb176:=NB884_920.out
                 have hnc176:=NB920_884.out
                 obtain ⟨hcz177_0,hcz177_1,hfz177_0,hfz177_1⟩:=cf2_ BK884.out
                 go_wp2_with (first|((with_reducible refine gate_callee (f:=26) rfl ?_);refine goesL_ (some 98) rfl rfl Try.func26 (by kernel_rfl) rfl #[.agg #[.int .i64 t879,.slice Ao43 t903.length co43],.int .i64 1] rfl lp_ ?_;(with_reducible refine (laws_heldMatrix.calls kj111 t879 _ _ t903 1 t922 _ ?side1 ?side2 A158.out).mono ?_);(case side1 => exact cr_ (Kd.R_reads' HO_885001.out).2.2);(case side2 => exact (Kd.R_reads' HO_885001.out).2.1);rintro e w178 ⟨rfl,hb⟩;refine ⟨_,rfl,?_⟩;replace HO_868001:=Aside0.mk (Kd.R_below (pr_ HO_868001.out) hb);replace HO_879001:=Aside0.mk (Kd.R_below (pr_ HO_879001.out) hb);replace HO_879002:=Aside0.mk (Kd.R_below (pr_ HO_879002.out) hb);replace HO_879003:=Aside0.mk (Kd.R_below (pr_ HO_879003.out) hb);replace HO_885001:=Aside0.mk (Kd.R_below (pr_ HO_885001.out) hb);replace HO_921001:=Aside0.mk (Kd.R_below (pr_ HO_921001.out) hb);replace BK850:=kc_ BK850 hb;replace BK867:=kc_ BK867 hb;replace BK878:=kc_ BK878 hb;replace BK884:=kc_ BK884 hb;replace BK920:=kc_ BK920 hb;replace HB:=hs5_ HB GE850 GE867 GE878 GE884 GE920 hb;(try clear hb);(try clear hb2);(try clear hk);(try clear hi)))
                 go_ret
                 exact ⟨er_,be5_ HB.out GE850.out GE867.out GE878.out GE884.out GE920.out⟩
           ·rw [if_neg c109] at H
            have c109b0 : (t904 == t902) = false:=beq_eq_false_iff_ne.mpr c109
            have c109b1 : (t904 != t902) = true:=bne_iff_ne.mpr c109
            obtain rfl:=Option.some.inj H
            have hnb179:=NB884_850.out
            have hnc179:=NB850_884.out
            have hnb180:=NB884_867.out
            have hnc180:=NB867_884.out
            have hnb181:=NB884_878.out
            have hnc181:=NB878_884.out
            obtain ⟨hcz182_0,hcz182_1,hfz182_0,hfz182_1⟩:=cf2_ BK884.out
            go_wp2_with (first|((with_reducible refine gate_callee (f:=25) rfl ?_);refine goesL_ (some 71) rfl rfl Try.func25 (by kernel_rfl) rfl #[.agg #[.int .i64 t879,.slice Ao43 t880.length co43],.int .i64 1] rfl lp_ ?_;(with_reducible refine (laws_markMatrix.calls kj66 t879 (fun k_ => some k_ = (.slice Ao43 t880.length co43 : Value).ownBlock) (.slice Ao43 t880.length co43) t880 1 t902 t903 w _ ?side1 ?side2 A99.out).mono ?_);(case side1 => repeat (first|(with_reducible first|exact HB.out|apply below_alloc|apply pw_below_drewN|apply below_drew1|refine below_set ?_ GE850.out|refine below_set ?_ GE867.out|refine below_set ?_ GE878.out|refine below_set ?_ GE884.out)|exact HB.out));(case side2 => exact Kd.R_tight rfl HO_885001.out);rintro e w183 ⟨rfl,hy0,hb,hkp⟩;refine ⟨_,rfl,?_⟩;replace HO_868001:=Aside0.mk (Kd.R_mono (ok':=fun k_ => some k_ ≠ (.slice Ao34 t898.length co34 : Value).ownBlock ∧ some k_ ≠ (.slice Ao35 t899.length co35 : Value).ownBlock ∧ some k_ ≠ (.slice Ao43 t880.length co43 : Value).ownBlock) (Kd.R_keptB (HO_868001.out) hkp (fun k_ hk_ hs_ => (hk_.2.2) hs_)) (fun k_ hk_ => ⟨hk_.1.1,hk_.1.2.1,hk_.1.2.2⟩));replace HO_879001:=Aside0.mk (Kd.R_mono (ok':=fun k_ => some k_ ≠ (.slice Ao27 t863.length co27 : Value).ownBlock ∧ some k_ ≠ (.slice Ao35 t899.length co35 : Value).ownBlock ∧ some k_ ≠ (.slice Ao43 t880.length co43 : Value).ownBlock) (Kd.R_keptB (HO_879001.out) hkp (fun k_ hk_ hs_ => (hk_.2.2) hs_)) (fun k_ hk_ => ⟨hk_.1.1,hk_.1.2.1,hk_.1.2.2⟩));replace HO_879002:=Aside0.mk (Kd.R_mono (ok':=fun k_ => some k_ ≠ (.slice Ao27 t863.length co27 : Value).ownBlock ∧ some k_ ≠ (.slice Ao34 t898.length co34 : Value).ownBlock ∧ some k_ ≠ (.slice Ao43 t880.length co43 : Value).ownBlock) (Kd.R_keptB (HO_879002.out) hkp (fun k_ hk_ hs_ => (hk_.2.2) hs_)) (fun k_ hk_ => ⟨hk_.1.1,hk_.1.2.1,hk_.1.2.2⟩));replace HO_879003:=Aside0.mk (Kd.R_mono (ok':=fun k_ => True) (Kd.R_keptB ((Kd.R_apart' HO_879003.out (Kd.R_typed HO_885001.out) (by decide))) hkp (fun k_ hk_ hs_ => (hk_.2) hs_)) (fun k_ hk_ => trivial));replace BK850:=Aside0.mk (blk_kept (pe_ BK850.out) hkp (fun hs_ => (fun e_ => (Kd.R_ne HO_885001.out BK850.out (by decide)) e_) hs_));replace BK867:=Aside0.mk (blk_kept (pe_ BK867.out) hkp (fun hs_ => (fun e_ => (Kd.R_ne HO_885001.out BK867.out (by decide)) e_) hs_));replace BK878:=Aside0.mk (blk_kept (pe_ BK878.out) hkp (fun hs_ => (fun e_ => (Kd.R_ne HO_885001.out BK878.out (by decide)) e_) hs_));replace BK884:=Aside0.mk (blk_kept (pe_ BK884.out) hkp (fun hs_ => (fun e_ => (Kd.R_ne HO_885001.out BK884.out (by decide)) e_) hs_));replace HO_885001:=Aside0.mk (Kd.R_reok rfl hy0 (fun k_ e_ => HO_885001.out.1 k_ e_));replace HB:=Aside0.mk (hb);(try clear hb);(try clear hkp);(try clear hy0);obtain ⟨hcz184_0,hcz184_1,hfz184_0,hfz184_1⟩:=cf2_ BK884.out)|((with_reducible refine gate_callee (f:=26) rfl ?_);refine goesL_ (some 74) rfl rfl Try.func26 (by kernel_rfl) rfl #[.agg #[.int .i64 t879,.slice Ao43 t903.length co43],.int .i64 1] rfl (by (try simp only [List.map_toArray,List.map_cons,List.map_nil]);first|done|(rw [show t903.length = t880.length from (Kd.R_reads' HO_885001.out).1.symm] <;> rfl)|rfl|(simp only [List.length_drop,List.length_take];rfl)) ?_;(with_reducible refine (laws_heldMatrix.calls kj66 t879 _ _ t903 1 t904 _ ?side1 ?side2 A100.out).mono ?_);(case side1 => exact cr_ (Kd.R_reads' HO_885001.out).2.2);(case side2 => rw [show t903.length = t880.length from (Kd.R_reads' HO_885001.out).1.symm];exact (Kd.R_reads' HO_885001.out).2.1);rintro e w185 ⟨rfl,hb⟩;refine ⟨_,rfl,?_⟩;replace HO_868001:=Aside0.mk (Kd.R_below (pr_ HO_868001.out) hb);replace HO_879001:=Aside0.mk (Kd.R_below (pr_ HO_879001.out) hb);replace HO_879002:=Aside0.mk (Kd.R_below (pr_ HO_879002.out) hb);replace HO_879003:=Aside0.mk (Kd.R_below (pr_ HO_879003.out) hb);replace HO_885001:=Aside0.mk (Kd.R_below (pr_ HO_885001.out) hb);replace BK850:=kc_ BK850 hb;replace BK867:=kc_ BK867 hb;replace BK878:=kc_ BK878 hb;replace BK884:=kc_ BK884 hb;replace HB:=hs4_ HB GE850 GE867 GE878 GE884 hb;(try clear hb);(try clear hb2);(try clear hk);(try clear hi)))
            go_ret
            exact ⟨er_,be4_ HB.out GE850.out GE867.out GE878.out GE884.out⟩
      ·replace c65:=Bool.eq_false_iff.mpr c65
       subst c65
       have H1 : (some false) = some r:=by rw [if_neg (show ¬ (false = true) by decide)] at H;exact H
       clear H
       have H:=H1
       clear H1
       obtain rfl:=Option.some.inj H
       try go_wp2
       replace HO_868001:=Aside0.mk (Kd.R_drew HO_868001.out)
       replace HO_879001:=Aside0.mk (Kd.R_drew HO_879001.out)
       replace HO_879002:=Aside0.mk (Kd.R_drew HO_879002.out)
       replace HO_879003:=Aside0.mk (Kd.R_drew HO_879003.out)
       replace HO_885001:=Aside0.mk (Kd.R_drew HO_885001.out)
       replace BK850:=Aside0.mk (blk_drew BK850.out)
       replace BK867:=Aside0.mk (blk_drew BK867.out)
       replace BK878:=Aside0.mk (blk_drew BK878.out)
       replace BK884:=Aside0.mk (blk_drew BK884.out)
       replace HB:=Aside0.mk (below_drew1 HB.out)
       refine start_ (n:=5) (S:=fun w' => w'.cell? ⟨gb878,0,none⟩ = some (.int .i64 t868) ∧ w'.cell? ⟨gb878,1,none⟩ = some (.slice Ao34 t869.length co34) ∧ w'.cell? ⟨gb878,2,none⟩ = some (.slice Ao35 t872.length co35) ∧ w'.cell? ⟨gb878,3,none⟩ = some (.slice Ao36 t875.length co36) ∧ w'.cell? ⟨gb850,0,none⟩ = some (.int .i64 a0_0) ∧ w'.cell? ⟨gb850,1,none⟩ = some (.slice A0_1 l0_1.length c0_1) ∧ w'.cell? ⟨gb850,2,none⟩ = some (.slice A0_2 l0_2.length c0_2) ∧ w'.cell? ⟨gb850,3,none⟩ = some (.slice A0_3 l0_3.length c0_3)) (ds:=[]) #[false,false,false,false,false] (by kernel_rfl) rfl rfl ⟨bc_ BK878 0,bc_ BK878 1,bc_ BK878 2,bc_ BK878 3,bc_ BK850 0,bc_ BK850 1,bc_ BK850 2,bc_ BK850 3⟩ (fun hHeld => ?_)
       generalize wc.drew = w186 at HO_868001 HO_879001 HO_879002 HO_879003 HO_885001 BK850 BK867 BK878 BK884 HB hHeld ⊢
       refine take_ (i:=0) (N:=some 48) (v:=?_) (a':=?_) #[true,false,false,false,false] rfl rfl (by kernel_rfl) (fun _ _ _ h => h) (Or.inl ⟨by rfl,?_⟩) hHeld ?_ ?_
       rotate_left
       ·rintro w' ⟨s0,s1,s2,s3,s4,s5,s6,s7⟩
        go_simp
        with_reducible rfl
       rotate_left
       ·simp only [Act.put,List.setIfInBounds_toArray,List.set_cons_zero,List.set_cons_succ,i64_w,i32_w]
        rfl
       refine take_ (i:=1) (N:=some 49) (v:=?_) (a':=?_) #[true,true,false,false,false] rfl rfl (by kernel_rfl) (fun _ _ _ h => h) (Or.inl ⟨by rfl,?_⟩) hHeld ?_ ?_
       rotate_left
       ·rintro w' ⟨s0,s1,s2,s3,s4,s5,s6,s7⟩
        go_simp
        with_reducible rfl
       rotate_left
       ·simp only [Act.put,List.setIfInBounds_toArray,List.set_cons_zero,List.set_cons_succ,i64_w,i32_w]
        rfl
       refine one_ (i:=2) (N:=some 50) #[true,true,true,false,false] rfl rfl (by kernel_rfl) (by decide) (fun K hK => ?_)
       refine goes_ Try.func17 (by kernel_rfl) rfl #[.agg #[.int .i64 a0_0,.slice A0_1 l0_1.length c0_1,.slice A0_2 l0_2.length c0_2,.slice A0_3 l0_3.length c0_3]] (by rfl) rfl rfl lp_ ?_
       with_reducible refine (laws_toAutomaton.calls kj13 a0_0 _ _ l0_1 _ _ l0_2 _ _ l0_3 t886 t887 t890 t893 _ ?side1 ?side2 ?side3 ?side4 ?side5 ?side6 A63.out).mono ?_
       (case side1 => exact cr_ (Kd.C_below HR0_1.out HB.out))
       (case side2 => exact HC0_1.out)
       (case side3 => exact cr_ (Kd.C_below HR0_2.out HB.out))
       (case side4 => exact HC0_2.out)
       (case side5 => exact cr_ (Kd.C_below HR0_3.out HB.out))
       (case side6 => exact HC0_3.out)
       rintro e w187 ⟨v888,v891,v894,rfl,ho0,ho1,ho2,hb⟩
       refine ⟨_,rfl,?_⟩
       have HO889:=Aside0.mk (Kd.R_lower (Kd.R_new' (Kd.R_new' (Kd.R_new' (Kd.R_new' ho0 (Kd.R_lt (pr_ HO_868001.out))) (Kd.R_lt (pr_ HO_879001.out))) (Kd.R_lt (pr_ HO_879002.out))) (Kd.R_lt (pr_ HO_885001.out))) (below_size (be4_ HB.out GE850.out GE867.out GE878.out GE884.out)))
       have HO892:=Aside0.mk (Kd.R_lower (Kd.R_new' (Kd.R_new' (Kd.R_new' (Kd.R_new' ho1 (Kd.R_lt (pr_ HO_868001.out))) (Kd.R_lt (pr_ HO_879001.out))) (Kd.R_lt (pr_ HO_879002.out))) (Kd.R_lt (pr_ HO_885001.out))) (below_size (be4_ HB.out GE850.out GE867.out GE878.out GE884.out)))
       replace HO_868001:=Aside0.mk (Kd.R_mono (Kd.R_told (Kd.R_told (Kd.R_old (pr_ HO_868001.out) hb) (Kd.R_base ho0)) (Kd.R_base ho1)) (fun _ h_ => h_.1))
       replace HO_879001:=Aside0.mk (Kd.R_mono (Kd.R_told (Kd.R_told (Kd.R_old (pr_ HO_879001.out) hb) (Kd.R_base ho0)) (Kd.R_base ho1)) (fun _ h_ => h_.1))
       replace HO_879002:=Aside0.mk (Kd.R_mono (Kd.R_told (Kd.R_told (Kd.R_old (pr_ HO_879002.out) hb) (Kd.R_base ho0)) (Kd.R_base ho1)) (fun _ h_ => h_.1))
       replace HO_885001:=Aside0.mk (Kd.R_mono (Kd.R_told (Kd.R_told (Kd.R_old (pr_ HO_885001.out) hb) (Kd.R_base ho0)) (Kd.R_base ho1)) (fun _ h_ => h_.1))
       have HO895:=Aside0.mk (Kd.R_lower (Kd.R_new' ho2 (Kd.R_lt (pr_ HO_879003.out))) (below_size (be4_ HB.out GE850.out GE867.out GE878.out GE884.out)))
       replace HO_879003:=Aside0.mk (Kd.R_elder' (pr_ HO_879003.out) (Kd.R_base ho2) hb)
       replace BK850:=kc_ BK850 hb
       replace BK867:=kc_ BK867 hb
       replace BK878:=kc_ BK878 hb
       replace BK884:=kc_ BK884 hb
       replace HB:=hs4_ HB GE850 GE867 GE878 GE884 hb
       (try clear hb)
       (try clear hb2)
       (try clear hk)
       (try clear hi)
       (try clear ho0)
       (try clear ho1)
       (try clear ho2)
       obtain ⟨Ao188,co188,eo188⟩:=Kd.R_slice HO889.out
       (first|subst eo188|(injection eo188 with f1_ f2_ f3_;have f4_:=f1_.symm;have f5_:=f3_.symm;clear f1_ f2_ f3_;subst f4_;subst f5_))
       obtain ⟨Ao189,co189,eo189⟩:=Kd.R_slice HO892.out
       (first|subst eo189|(injection eo189 with f1_ f2_ f3_;have f4_:=f1_.symm;have f5_:=f3_.symm;clear f1_ f2_ f3_;subst f4_;subst f5_))
       obtain ⟨Ao190,co190,eo190⟩:=Kd.R_slice HO895.out
       (first|subst eo190|(injection eo190 with f1_ f2_ f3_;have f4_:=f1_.symm;have f5_:=f3_.symm;clear f1_ f2_ f3_;subst f4_;subst f5_))
       refine hK.out _ _ ⟨bc_ BK878 0,bc_ BK878 1,bc_ BK878 2,bc_ BK878 3,bc_ BK850 0,bc_ BK850 1,bc_ BK850 2,bc_ BK850 3⟩ (fun hHeld => ?_)
       clear hK K
       refine norm_ (a':=?_) ?_ ?_
       rotate_left
       ·show Act.put _ (some 50) _ = _
        simp only [Act.put,List.setIfInBounds_toArray,List.set_cons_zero,List.set_cons_succ,i64_w,i32_w]
        rfl
       refine one_ (i:=3) (N:=some 51) #[true,true,true,true,false] rfl rfl (by kernel_rfl) (by decide) (fun K hK => ?_)
       refine goes_ Try.func20 (by kernel_rfl) rfl #[.agg #[.int .i64 t868,.slice Ao34 t869.length co34,.slice Ao35 t872.length co35,.slice Ao36 t875.length co36],.agg #[.int .i64 t886,.slice Ao188 t887.length co188,.slice Ao189 t890.length co189,.slice Ao190 t893.length co190]] (by rfl) rfl rfl lp_ ?_
       with_reducible refine (laws_eqAutomaton.calls kj13 t868 _ _ t869 _ _ t872 _ _ t875 t886 _ _ t887 _ _ t890 _ _ t893 false _ ?side1 ?side2 ?side3 ?side4 ?side5 ?side6 ?side7 ?side8 ?side9 ?side10 ?side11 ?side12 A64.out).mono ?_
       (case side1 => exact cr_ (Kd.R_reads' HO_879001.out).2.2)
       (case side2 => exact (Kd.R_reads' HO_879001.out).2.1)
       (case side3 => exact cr_ (Kd.R_reads' HO_879002.out).2.2)
       (case side4 => exact (Kd.R_reads' HO_879002.out).2.1)
       (case side5 => exact cr_ (Kd.R_reads' HO_879003.out).2.2)
       (case side6 => exact (Kd.R_reads' HO_879003.out).2.1)
       (case side7 => exact cr_ (Kd.R_reads' HO889.out).2.2)
       (case side8 => exact (Kd.R_reads' HO889.out).2.1)
       (case side9 => exact cr_ (Kd.R_reads' HO892.out).2.2)
       (case side10 => exact (Kd.R_reads' HO892.out).2.1)
       (case side11 => exact cr_ (Kd.R_reads' HO895.out).2.2)
       (case side12 => exact (Kd.R_reads' HO895.out).2.1)
       rintro e w191 ⟨rfl,hb⟩
       refine ⟨_,rfl,?_⟩
       replace HO_868001:=Aside0.mk (Kd.R_below (pr_ HO_868001.out) hb)
       replace HO_879001:=Aside0.mk (Kd.R_below (pr_ HO_879001.out) hb)
       replace HO_879002:=Aside0.mk (Kd.R_below (pr_ HO_879002.out) hb)
       replace HO_879003:=Aside0.mk (Kd.R_below (pr_ HO_879003.out) hb)
       replace HO_885001:=Aside0.mk (Kd.R_below (pr_ HO_885001.out) hb)
       replace HO889:=Aside0.mk (Kd.R_below (pr_ HO889.out) hb)
       replace HO892:=Aside0.mk (Kd.R_below (pr_ HO892.out) hb)
       replace HO895:=Aside0.mk (Kd.R_below (pr_ HO895.out) hb)
       replace BK850:=kc_ BK850 hb
       replace BK867:=kc_ BK867 hb
       replace BK878:=kc_ BK878 hb
       replace BK884:=kc_ BK884 hb
       replace HB:=hs4_ HB GE850 GE867 GE878 GE884 hb
       (try clear hb)
       (try clear hb2)
       (try clear hk)
       (try clear hi)
       refine hK.out _ _ ⟨bc_ BK878 0,bc_ BK878 1,bc_ BK878 2,bc_ BK878 3,bc_ BK850 0,bc_ BK850 1,bc_ BK850 2,bc_ BK850 3⟩ (fun hHeld => ?_)
       clear hK K
       refine norm_ (a':=?_) ?_ ?_
       rotate_left
       ·show Act.put _ (some 51) _ = _
        simp only [Act.put,List.setIfInBounds_toArray,List.set_cons_zero,List.set_cons_succ,i64_w,i32_w]
        rfl
       refine pure_ (i:=4) (N:=some 52) (v:=?_) (a':=?_) #[true,true,true,true,true] rfl rfl (by kernel_rfl) (fun _ _ _ h => h) (Or.inl ⟨by rfl,?_⟩) ?_ ?_
       rotate_left
       ·intro w'
        go_simp
        with_reducible rfl
       rotate_left
       ·simp only [Act.put,List.setIfInBounds_toArray,List.set_cons_zero,List.set_cons_succ,i64_w,i32_w]
        rfl
       refine done_ (by kernel_rfl) ?_
       try go_wp2
       go_ret
       exact ⟨er_,be4_ HB.out GE850.out GE867.out GE878.out GE884.out⟩
def laws_FnExactValueOf.Pure : Prop := ∀ (a0_0 : Int) (l0_1 : List Int) (l0_2 : List Int) (l0_3 : List (S118)) (a1 : ByteArray),(Lit.int .i64 a0_0).wf = true → l0_1.length ≤ maxLen → (∀ x_ ∈ l0_1,(Lit.int .i64 x_).wf = true) → l0_2.length ≤ maxLen → (∀ x_ ∈ l0_2,(Lit.int .i64 x_).wf = true) → l0_3.length ≤ maxLen → (∀ x_ ∈ l0_3,(Lit.int .i64 x_.f0).wf = true ∧ x_.f1.size ≤ maxLen ∧ (Lit.int .i64 x_.f2).wf = true ∧ (Lit.int .i64 x_.f3).wf = true) → a1.size ≤ 140737488351232 → ∃ k,laws_FnExactValueOf.f k a0_0 l0_1 l0_2 l0_3 a1 = some true
end Go.Proofs.Ytfmbpoojpnoafaa.X
end
section
namespace Go.Proofs.Ytfmbpoojpnoafaa.X
open Go.RowKit Go.Proofs.Ytfmbpoojpnoafaa.X Go.Proofs.YtfmbpoojpnoafaaW.PrintWords Go.Proofs.YtfmbpoojpnoafaaW.PrintLast Go.Proofs.YtfmbpoojpnoafaaW.PrintMore
set_option linter.unusedVariables false
set_option linter.unusedSimpArgs false
open Go.ChangeShapes Go.WideShapes Go.Deep
theorem field_ints {H : Type} {enc : TypeId × Value → H} {P : Program} {w : World} {base : Nat} {spare : Nat → Bool} {held : Bool} {t e : TypeId} {k : IntKind} {fuel : Nat} {v : Value} {x : DataW H × List MemPlace}
  (ht : P.underlying t = some (.slice e)) (he : P.underlying e = some (.int k)) (hc : P.cellsOf e = 1) (h : DataW.trod enc P w base spare held fuel t [v] = some x) :
  ∃ (A : Option Addr) (c : Nat) (l : List Int),v = .slice A l.length c ∧ Kd.C (Kd.int k) w A l.length l ∧ l.length ≤ c ∧ l.length ≤ maxLen ∧ ∀ n ∈ l,(Lit.int k n).wf = true:=by
 rcases open_ints ht he hc h with ⟨hcs,_⟩ | ⟨a,len,cap,zs,hcs,_,hl,hm,hz,_,hcell,hwf⟩
 ·simp at hcs
  obtain ⟨l,h1,h2,h3,h4,h5⟩:=ReadsInt.ofRowC (k:=k) (w:=w) (a:=none) (len:=0) (cap:=0) (zs:=[]) (.inl ⟨rfl,rfl,rfl,rfl⟩)
  exact ⟨none,0,l,by rw [hcs,← h1],Kd.C_of_reads (d:=(0 : Int)) (h1:=fun _ => rfl) h2,h5,h3,h4⟩
 ·simp at hcs
  have hr : ∃ l : List Int,len = l.length ∧ ReadsInt w k (some a) l.length l ∧ l.length ≤ maxLen ∧ (∀ x ∈ l,(Lit.int k x).wf = true):=by
   refine ⟨zs.take len,?_,?_,?_,fun x hx => hwf x (List.mem_of_mem_take hx)⟩
   ·rw [List.length_take,hz];split <;> omega
   ·have hlen : (zs.take len).length = len:=by rw [List.length_take,hz];split <;> omega
    refine ⟨rfl,by rw [hlen];exact Nat.le_trans hl hm,fun hn => ⟨a,rfl,fun j hj => ?_⟩⟩
    rw [hlen] at hj
    have hj2 : j < zs.length:=by rw [hz];split <;> omega
    rw [hcell j hj2]
    simp [List.getD_eq_getElem?_getD,List.getElem?_take,hj]
   ·rw [List.length_take];exact Nat.le_trans (Nat.min_le_left _ _) (Nat.le_trans hl hm)
  obtain ⟨l,h1,h2,h3,h4⟩:=hr
  exact ⟨some a,cap,l,by rw [hcs,← h1],Kd.C_of_reads (d:=(0 : Int)) (h1:=fun _ => rfl) h2,by omega,h3,h4⟩
theorem field_int {H : Type} {enc : TypeId × Value → H} {P : Program} {w : World} {base : Nat} {spare : Nat → Bool} {held : Bool} {t : TypeId} {k : IntKind} {fuel : Nat} {v : Value} {x : DataW H × List MemPlace}
  (ht : P.underlying t = some (.int k)) (h : DataW.trod enc P w base spare held fuel t [v] = some x) : ∃ n : Int,v = .int k n ∧ (Lit.int k n).wf = true:=by
 obtain ⟨n,h1,_,h2⟩:=DataW.trod_int ht h
 simp at h1
 exact ⟨n,h1,h2⟩
theorem field_str {H : Type} {enc : TypeId × Value → H} {P : Program} {w : World} {base : Nat} {spare : Nat → Bool} {held : Bool} {t : TypeId} {fuel : Nat} {v : Value} {x : DataW H × List MemPlace}
  (ht : P.underlying t = some .string) (h : DataW.trod enc P w base spare held fuel t [v] = some x) : ∃ s : ByteArray,v = .string s ∧ s.size ≤ maxLen:=by
 obtain ⟨s,h1,_,h2⟩:=DataW.trod_string ht h
 simp at h1
 exact ⟨s,h1,h2⟩
set_option maxRecDepth 100000 in
theorem row_matrix {H : Type} {enc : TypeId × Value → H} {w : World} {base b0 : Nat} {r : Reach} {spare : Nat → Bool} {held : Bool} {v : Value} {d : DataW H} {p : List MemPlace}
  (hv : Value.okWide Try.prog w r b0 27 v) (h : DataW.Trod enc Try.prog w base spare held 27 v d p) :
  ∃ (n : Int) (A : Option Addr) (c : Nat) (l : List Int),v = .agg #[.int .i64 n,.slice A l.length c] ∧ Kd.C (Kd.int .i64) w A l.length l ∧ l.length ≤ c ∧ (Lit.int .i64 n).wf = true ∧ l.length ≤ maxLen ∧ ∀ x ∈ l,(Lit.int .i64 x).wf = true:=by
 obtain ⟨v0,v1,y0,y1,n,rfl,_,_,h0,h1⟩:=Go.Joins.open_agg2 Try.underlying27 (by kernel_rfl) (by kernel_rfl) hv h
 obtain ⟨z,rfl,hz⟩:=field_int Try.underlying3 h0
 obtain ⟨A,c,l,rfl,hC,hc,hm,hw⟩:=field_ints Try.underlying22 Try.underlying3 (by kernel_rfl) h1
 exact ⟨z,A,c,l,rfl,hC,hc,hz,hm,hw⟩
end Go.Proofs.Ytfmbpoojpnoafaa.X
end
section
namespace Go.Proofs.Ytfmbpoojpnoafaa.X
open Go.RowKit Go.Proofs.Ytfmbpoojpnoafaa.X Go.Proofs.YtfmbpoojpnoafaaW.PrintWords Go.Proofs.YtfmbpoojpnoafaaW.PrintLast Go.Proofs.YtfmbpoojpnoafaaW.PrintMore
set_option linter.unusedVariables false
set_option linter.unusedSimpArgs false
open Go.ChangeShapes Go.WideShapes Go.Deep
set_option maxRecDepth 100000 in
theorem field_steps {H : Type} {enc : TypeId × Value → H} {w : World} {base : Nat} {spare : Nat → Bool} {held : Bool} {fuel : Nat} {v : Value} {x : DataW H × List MemPlace}
  (h : DataW.trod enc Try.prog w base spare held fuel 23 [v] = some x) :
  ∃ (A : Option Addr) (c : Nat) (l : List S118),v = .slice A l.length c ∧ Kd.C k118 w A l.length l ∧ l.length ≤ c ∧ l.length ≤ maxLen ∧ ∀ s ∈ l,(Lit.int .i64 s.f0).wf = true ∧ s.f1.size ≤ maxLen ∧ (Lit.int .i64 s.f2).wf = true ∧ (Lit.int .i64 s.f3).wf = true:=by
 rcases open_slice Try.underlying23 h with ⟨hcs,_⟩ | ⟨a,len,cap,m,n,D,Pl,hcs,_,hl,hm,hmm,_,hi⟩
 ·simp at hcs
  exact ⟨none,0,[],hcs,Kd.C_nil _ _,Nat.le_refl _,by simp,fun s hs => by cases hs⟩
 ·simp at hcs
  have hlm : len ≤ m:=by rw [hmm];split <;> omega
  have one : ∀ i,i < len → ∃ s : S118,(∀ u : Nat,∀ y,[Value.int .i64 s.f0,.string s.f1,.int .i64 s.f2,.int .i64 s.f3][u]? = some y → w.cell? (a.add (i * 4 + u)) = some y) ∧ (Lit.int .i64 s.f0).wf = true ∧ s.f1.size ≤ maxLen ∧ (Lit.int .i64 s.f2).wf = true ∧ (Lit.int .i64 s.f3).wf = true:=by
   intro i hil
   obtain ⟨cs',hc,ht'⟩:=hi i (by omega)
   rw [show Try.prog.cellsOf 118 = 4 by kernel_rfl] at hc
   obtain ⟨_,hcl,hat⟩:=World.cells?_some hc
   match cs',hcl with
   | [q0,q1,q2,q3],_ =>
   obtain ⟨y0,y1,y2,y3,n',_,_,t0,t1,t2,t3⟩:=Go.Joins.trod_struct4 Try.underlying118 ht'
   have ei : Try.prog.cellsOf 3 = 1:=by kernel_rfl
   have es : Try.prog.cellsOf 9 = 1:=by kernel_rfl
   have t0 : DataW.trod enc Try.prog w base spare held n' 3 [q0] = some y0:=by simpa [ei,es] using t0
   have t1 : DataW.trod enc Try.prog w base spare held n' 9 [q1] = some y1:=by simpa [ei,es] using t1
   have t2 : DataW.trod enc Try.prog w base spare held n' 3 [q2] = some y2:=by simpa [ei,es] using t2
   have t3 : DataW.trod enc Try.prog w base spare held n' 3 [q3] = some y3:=by simpa [ei,es] using t3
   have hat' : ∀ u,u < 4 → w.cell? (a.add (i * 4 + u)) = [q0,q1,q2,q3][u]?:=fun u hu => by rw [← Go.Deep.add_add];exact hat u hu
   have c0:=hat' 0 (by omega)
   have c1:=hat' 1 (by omega)
   have c2:=hat' 2 (by omega)
   have c3:=hat' 3 (by omega)
   clear hat hat' hc ht'
   obtain ⟨z0,rfl,w0⟩:=field_int Try.underlying3 t0
   obtain ⟨z1,rfl,w1⟩:=field_str Try.underlying9 t1
   obtain ⟨z2,rfl,w2⟩:=field_int Try.underlying3 t2
   obtain ⟨z3,rfl,w3⟩:=field_int Try.underlying3 t3
   refine ⟨⟨z0,z1,z2,z3⟩,?_,w0,w1,w2,w3⟩
   intro u y hu
   match u,hu with
   | 0,hu => obtain rfl:=Option.some.inj hu;exact c0
   | 1,hu => obtain rfl:=Option.some.inj hu;exact c1
   | 2,hu => obtain rfl:=Option.some.inj hu;exact c2
   | 3,hu => obtain rfl:=Option.some.inj hu;exact c3
   | u + 4,hu => simp at hu
  obtain ⟨l,hll,hlp⟩ : ∃ l : List S118,l.length = len ∧ ∀ i s,l[i]? = some s → (∀ u : Nat,∀ y,[Value.int .i64 s.f0,.string s.f1,.int .i64 s.f2,.int .i64 s.f3][u]? = some y → w.cell? (a.add (i * 4 + u)) = some y) ∧ (Lit.int .i64 s.f0).wf = true ∧ s.f1.size ≤ maxLen ∧ (Lit.int .i64 s.f2).wf = true ∧ (Lit.int .i64 s.f3).wf = true:=by
   have : ∀ q,q ≤ len → ∃ l : List S118,l.length = q ∧ ∀ i s,l[i]? = some s → (∀ u : Nat,∀ y,[Value.int .i64 s.f0,.string s.f1,.int .i64 s.f2,.int .i64 s.f3][u]? = some y → w.cell? (a.add (i * 4 + u)) = some y) ∧ (Lit.int .i64 s.f0).wf = true ∧ s.f1.size ≤ maxLen ∧ (Lit.int .i64 s.f2).wf = true ∧ (Lit.int .i64 s.f3).wf = true:=by
    intro q
    induction q with
    | zero => intro _;exact ⟨[],rfl,fun i s h => by simp at h⟩
    | succ q ih =>
     intro hq
     obtain ⟨l,h1,h2⟩:=ih (by omega)
     obtain ⟨s,hs⟩:=one q (by omega)
     refine ⟨l ++ [s],by simp [h1],fun i s' h => ?_⟩
     by_cases e : i < l.length
     ·rw [List.getElem?_append_left e] at h;exact h2 i s' h
     ·rw [List.getElem?_append_right (by omega)] at h
      have : i = q:=by
       have:=(List.getElem?_eq_some_iff.mp h).1
       simp at this;omega
      subst this
      rw [h1,Nat.sub_self] at h
      obtain rfl:=Option.some.inj h
      exact hs
   exact this len (Nat.le_refl _)
  refine ⟨some a,cap,l,by rw [hcs,hll],?_,by omega,by omega,fun s hs => ?_⟩
  ·refine ⟨rfl,(by have e : maxLen = 9223372036854775807:=rfl;omega),fun _ => ⟨a,rfl,fun j p hj => ?_⟩⟩
   exact ⟨_,rfl,k118_mk w p,(hlp j p hj).1⟩
  ·obtain ⟨i,hi',rfl⟩:=List.mem_iff_getElem.mp hs
   exact (hlp i _ (List.getElem?_eq_getElem hi')).2
set_option maxRecDepth 100000 in
theorem row_automaton {H : Type} {enc : TypeId × Value → H} {w : World} {base b0 : Nat} {r : Reach} {spare : Nat → Bool} {held : Bool} {v : Value} {d : DataW H} {p : List MemPlace}
  (hv : Value.okWide Try.prog w r b0 25 v) (h : DataW.Trod enc Try.prog w base spare held 25 v d p) :
  ∃ (n : Int) (A1 : Option Addr) (c1 : Nat) (l1 : List Int) (A2 : Option Addr) (c2 : Nat) (l2 : List Int) (A3 : Option Addr) (c3 : Nat) (l3 : List S118),v = .agg #[.int .i64 n,.slice A1 l1.length c1,.slice A2 l2.length c2,.slice A3 l3.length c3] ∧
   Kd.C (Kd.int .i64) w A1 l1.length l1 ∧ l1.length ≤ c1 ∧ Kd.C (Kd.int .i64) w A2 l2.length l2 ∧ l2.length ≤ c2 ∧ Kd.C k118 w A3 l3.length l3 ∧ l3.length ≤ c3 ∧ (Lit.int .i64 n).wf = true ∧
   l1.length ≤ maxLen ∧ (∀ x ∈ l1,(Lit.int .i64 x).wf = true) ∧ l2.length ≤ maxLen ∧ (∀ x ∈ l2,(Lit.int .i64 x).wf = true) ∧ l3.length ≤ maxLen ∧ (∀ s ∈ l3,(Lit.int .i64 s.f0).wf = true ∧ s.f1.size ≤ maxLen ∧ (Lit.int .i64 s.f2).wf = true ∧ (Lit.int .i64 s.f3).wf = true):=by
 obtain ⟨v0,v1,v2,v3,y0,y1,y2,y3,n,rfl,_,_,h0,h1,h2,h3⟩:=Go.Joins.open_agg4 Try.underlying25 (by kernel_rfl) (by kernel_rfl) hv h
 obtain ⟨z,rfl,hz⟩:=field_int Try.underlying3 h0
 obtain ⟨A1,c1,l1,rfl,hC1,hc1,hm1,hw1⟩:=field_ints Try.underlying22 Try.underlying3 (by kernel_rfl) h1
 obtain ⟨A2,c2,l2,rfl,hC2,hc2,hm2,hw2⟩:=field_ints Try.underlying22 Try.underlying3 (by kernel_rfl) h2
 obtain ⟨A3,c3,l3,rfl,hC3,hc3,hm3,hw3⟩:=field_steps h3
 exact ⟨z,A1,c1,l1,A2,c2,l2,A3,c3,l3,rfl,hC1,hc1,hC2,hc2,hC3,hc3,hz,hm1,hw1,hm2,hw2,hm3,hw3⟩
end Go.Proofs.Ytfmbpoojpnoafaa.X
end
section
namespace Go.Proofs.Ytfmbpoojpnoafaa.X
open Go.RowKit Go.Proofs.YtfmbpoojpnoafaaW.PrintWords Go.Proofs.YtfmbpoojpnoafaaW.PrintLast Go.Proofs.YtfmbpoojpnoafaaW.PrintMore
attribute [local go_sem] max2_int min2_int max_two min_two max_three min_three max_four min_four
set_option linter.unusedVariables false
set_option linter.unusedSimpArgs false
def laws_szMatrix.f (a0_0 : Int) (l0_1 : List Int) (a1 : Int) : Option (Int):=(laws_szIntS.f l0_1 a1).bind fun t109 => (if t109 < 0 then (some (-1)) else (some t109))
set_option maxHeartbeats 8000000 in
set_option maxRecDepth 100000 in
theorem laws_szMatrix.calls (a0_0 : Int) (A0_1 : Option Addr) (c0_1 : Nat) (l0_1 : List Int) (a1 : Int) (r : Int) (w : World) (hr0_1 : Kd.C (Kd.int .i64) w A0_1 l0_1.length l0_1) (hc0_1 : l0_1.length ≤ c0_1) (h : laws_szMatrix.f a0_0 l0_1 a1 = some r) :
  Calls Try.prog 15 #[.agg #[.int .i64 a0_0,.slice A0_1 l0_1.length c0_1],.int .i64 a1] w fun e w' => e = .returned (.int .i64 r) ∧ Below w.heap.size w w':=by
 have hu27:=Try.underlying27
 have HR0_1:=Aside0.mk hr0_1
 have HC0_1:=Aside0.mk hc0_1
 clear hr0_1 hc0_1
 have HB:=Aside0.mk (Below.refl w.heap.size w)
 have H : ((laws_szIntS.f l0_1 a1).bind fun t109 => (if t109 < 0 then (some (-1)) else (some t109))) = some r:=h
 clear h
 replace H:=Option.bind_eq_some_iff.mp H
 obtain ⟨t109,A30,H⟩:=H
 replace H : (if t109 < 0 then (some (-1)) else (some t109)) = some r:=H
 have A3:=Aside0.mk A30
 clear A30
 by_cases c4 : t109 < 0
 ·rw [if_pos c4] at H
  have c4b0 : decide (t109 < 0) = true:=decide_eq_true c4
  clear c4
  obtain rfl:=Option.some.inj H
  go_enter Try.func15,Try.ntmps15
  go_wp2_with (first|((with_reducible refine bev_ (N:=2) rfl rfl (cs:=#[.int .i64 a0_0,.slice A0_1 l0_1.length c0_1]) (t:=27) ?hr ?_);(case hr => first|(go_simp;done)|(go_simp;rfl));intro gb108 hg w5 hbox hb;have BK108:=Aside0.mk (hbox);have GW108:=gw0_ hg HB;have GE108:=GW108;replace HB:=hs0_ HB hb;clear hb hbox hg;obtain ⟨hcz6_0,hcz6_1,hfz6_0,hfz6_1⟩:=cf2_ BK108.out)|((with_reducible refine gate_callee (f:=65) rfl ?_);refine goesL_ (some 8) rfl rfl Try.func65 (by kernel_rfl) rfl #[.slice A0_1 l0_1.length c0_1,.int .i64 a1] rfl lp_ ?_;(with_reducible refine (laws_szIntS.calls _ _ l0_1 a1 t109 _ ?side1 ?side2 A3.out).mono ?_);(case side1 => exact cr_ (Kd.C_below HR0_1.out HB.out));(case side2 => exact HC0_1.out);rintro e w' ⟨rfl,⟨nd,rfl⟩⟩;refine ⟨_,rfl,?_⟩))
  go_ret
  exact ⟨er_,be1_ HB.out GE108.out⟩
 ·rw [if_neg c4] at H
  have c4b0 : decide (t109 < 0) = false:=decide_eq_false c4
  clear c4
  obtain rfl:=Option.some.inj H
  go_enter Try.func15,Try.ntmps15
  go_wp2_with (first|((with_reducible refine bev_ (N:=2) rfl rfl (cs:=#[.int .i64 a0_0,.slice A0_1 l0_1.length c0_1]) (t:=27) ?hr ?_);(case hr => first|(go_simp;done)|(go_simp;rfl));intro gb108 hg w7 hbox hb;have BK108:=Aside0.mk (hbox);have GW108:=gw0_ hg HB;have GE108:=GW108;replace HB:=hs0_ HB hb;clear hb hbox hg;obtain ⟨hcz8_0,hcz8_1,hfz8_0,hfz8_1⟩:=cf2_ BK108.out)|((with_reducible refine gate_callee (f:=65) rfl ?_);refine goesL_ (some 8) rfl rfl Try.func65 (by kernel_rfl) rfl #[.slice A0_1 l0_1.length c0_1,.int .i64 a1] rfl lp_ ?_;(with_reducible refine (laws_szIntS.calls _ _ l0_1 a1 t109 _ ?side1 ?side2 A3.out).mono ?_);(case side1 => exact cr_ (Kd.C_below HR0_1.out HB.out));(case side2 => exact HC0_1.out);rintro e w' ⟨rfl,⟨nd,rfl⟩⟩;refine ⟨_,rfl,?_⟩))
  go_ret
  exact ⟨er_,be1_ HB.out GE108.out⟩
def laws_toMatrix.f (k : Nat) (a0_0 : Int) (l0_1 : List Int) : Option (Int × List Int):=(laws_toIntS.f k l0_1).bind fun t180 => (some (a0_0,t180))
theorem laws_toMatrix.mono : ∀ a0 a1 k,LeO (laws_toMatrix.f k a0 a1) (laws_toMatrix.f (k + 1) a0 a1):=by
 intro a0 a1 k
 unfold laws_toMatrix.f
 repeat' first
   | (with_reducible exact laws_toIntS.mono _ _)
   | (with_reducible first|exact LeO.refl _|exact LeO.none _|refine LeO.ite ?_ ?_|refine LeO.bind ?_ (fun _ => ?_))
   | exact laws_toIntS.mono _ _
   | exact LeO.none _
   | refine LeO.ite ?_ ?_
   | refine LeO.bind ?_ (fun _ => ?_)
set_option maxHeartbeats 8000000 in
set_option maxRecDepth 100000 in
theorem laws_toMatrix.calls (k : Nat) (a0_0 : Int) (A0_1 : Option Addr) (c0_1 : Nat) (l0_1 : List Int) (r1 : Int) (r2 : List Int) (w : World) (hr0_1 : Kd.C (Kd.int .i64) w A0_1 l0_1.length l0_1) (hc0_1 : l0_1.length ≤ c0_1) (h : laws_toMatrix.f k a0_0 l0_1 = some (r1,r2)) :
  Calls Try.prog 18 #[.agg #[.int .i64 a0_0,.slice A0_1 l0_1.length c0_1]] w fun e w' => ∃ v1_ : Value,e = .returned (.agg #[.int .i64 r1,v1_]) ∧ Kd.R (Kd.int .i64) 3 w' w.heap.size (fun _ => True) v1_ r2 ∧ Below w.heap.size w w':=by
 have hu27:=Try.underlying27
 have hu35:=Try.underlying35
 have HR0_1:=Aside0.mk hr0_1
 have HC0_1:=Aside0.mk hc0_1
 clear hr0_1 hc0_1
 have HB:=Aside0.mk (Below.refl w.heap.size w)
 have H : ((laws_toIntS.f k l0_1).bind fun t180 => (some (a0_0,t180))) = some (r1,r2):=h
 clear h
 replace H:=Option.bind_eq_some_iff.mp H
 obtain ⟨t180,A20,H⟩:=H
 replace H : (some (a0_0,t180)) = some (r1,r2):=H
 have A2:=Aside0.mk A20
 clear A20
 simp only [Option.some.injEq,Prod.mk.injEq] at H
 obtain ⟨rfl,rfl⟩:=H
 go_enter Try.func18,Try.ntmps18
 go_wp2_with (first|((with_reducible refine bev_ (N:=1) rfl rfl (cs:=#[.int .i64 a0_0,.slice A0_1 l0_1.length c0_1]) (t:=27) ?hr ?_);(case hr => first|(go_simp;done)|(go_simp;rfl));intro gb177 hg w3 hbox hb;have BK177:=Aside0.mk (hbox);have GW177:=gw0_ hg HB;have GE177:=GW177;replace HB:=hs0_ HB hb;clear hb hbox hg)|((with_reducible refine bev_ (N:=2) rfl rfl (cs:=#[.int .i64 0,.slice none 0 0]) (t:=35) ?hr ?_);(case hr => first|(go_simp;done)|(go_simp;rfl));intro gb178 hg w4 hbox hb;have BK178:=Aside0.mk (hbox);have GW178:=gw1_ hg HB GE177;have GE178:=GW178;replace HB:=hs1_ HB GE177 hb;have NB177_178:=nm_ hg BK177;have NB178_177:=nn_ hg BK177;replace BK177:=kc_ BK177 hb;clear hb hbox hg)|((with_reducible refine bev_ (N:=3) rfl rfl (cs:=#[.int .i64 0,.slice none 0 0]) (t:=35) ?hr ?_);(case hr => first|(go_simp;done)|(go_simp;rfl));intro gb179 hg w5 hbox hb;have BK179:=Aside0.mk (hbox);have GW179:=gw2_ hg HB GE177 GE178;have GE179:=GW179;replace HB:=hs2_ HB GE177 GE178 hb;have NB177_179:=nm_ hg BK177;have NB179_177:=nn_ hg BK177;replace BK177:=kc_ BK177 hb;have NB178_179:=nm_ hg BK178;have NB179_178:=nn_ hg BK178;replace BK178:=kc_ BK178 hb;clear hb hbox hg;have hnb6:=NB177_178.out;have hnc6:=NB178_177.out;have hnb7:=NB177_179.out;have hnc7:=NB179_177.out;obtain ⟨hcz8_0,hcz8_1,hfz8_0,hfz8_1⟩:=cf2_ BK177.out;have hnb9:=NB179_178.out;have hnc9:=NB178_179.out;obtain ⟨hcz10_0,hcz10_1,hfz10_0,hfz10_1⟩:=cf2_ BK179.out)|((with_reducible refine gate_callee (f:=70) rfl ?_);refine goesL_ (some 9) rfl rfl Try.func70 (by kernel_rfl) rfl #[.slice A0_1 l0_1.length c0_1] rfl lp_ ?_;(with_reducible refine (laws_toIntS.calls k _ _ l0_1 t180 _ ?side1 ?side2 A2.out).mono ?_);(case side1 => exact Kd.C_below HR0_1.out (be3_ HB.out GE177.out GE178.out GE179.out));(case side2 => exact HC0_1.out);rintro e w11 ⟨v181,rfl,ho0,hb⟩;refine ⟨_,rfl,?_⟩;have HO182:=Aside0.mk (Kd.R_lower ho0 (below_size (be3_ HB.out GE177.out GE178.out GE179.out)));replace BK177:=Aside0.mk (blk_below (g:=gb177) (o:=.cells #[.int .i64 a0_0,.slice A0_1 l0_1.length c0_1] 27 (0,0)) (bf1_ BK177.out NB177_179.out) hb);replace BK178:=Aside0.mk (blk_below (g:=gb178) (o:=.cells #[.int .i64 0,.slice none 0 0] 35 (0,0)) (bf1_ BK178.out NB178_179.out) hb);replace BK179:=Aside0.mk (blk_below (g:=gb179) (o:=.cells #[.int .i64 a0_0,.slice none 0 0] 35 (0,0)) (by refine pe_ ?_;refine blk_put (cs:=#[.int .i64 0,.slice none 0 0]) ?_ 0 _ rfl;refine pe_ ?_;exact BK179.out) hb);replace HB:=hs3_ HB GE177 GE178 GE179 hb;(try clear hb);(try clear hb2);(try clear hk);(try clear hi);(try clear ho0);obtain ⟨Ao12,co12,eo12⟩:=Kd.R_slice HO182.out;subst eo12;obtain ⟨hcz13_0,hcz13_1,hfz13_0,hfz13_1⟩:=cf2_ BK179.out;obtain ⟨hcz14_0,hcz14_1,hfz14_0,hfz14_1⟩:=cf2_ BK178.out))
 refine bodyPost_ret (results_cell_row rfl _ _ gb178 35 #[.int .i64 a0_0,.slice Ao12 t180.length co12] (0,0) _ rfl (by refine pe_ ?_;refine blk_put (cs:=#[.int .i64 a0_0,.slice none 0 0]) ?_ 1 _ rfl;refine pe_ ?_;refine blk_put (cs:=#[.int .i64 0,.slice none 0 0]) ?_ 0 _ rfl;refine pe_ ?_;refine blk_far ?_ NB178_179.out _;refine pe_ ?_;exact BK178.out) Try.underlying35 rfl (by kernel_rfl)) rfl ?_
 exact ⟨_,er_,by refine pr_ ?_;exact Kd.R_mono (Kd.R_far (p:=⟨gb178,1,none⟩) (Kd.R_far (p:=⟨gb178,0,none⟩) (Kd.R_far (p:=⟨gb179,1,none⟩) (Kd.R_types (Kd.R_types HO182.out BK179.out (by decide)) BK178.out (by decide)) (fun _ hk => hk.1.2) (.slice Ao12 t180.length co12)) (fun _ hk => hk.2) (.int .i64 a0_0)) (fun _ hk => hk.2) (.slice Ao12 t180.length co12)) (fun _ hk => trivial),be3_ HB.out GE177.out GE178.out GE179.out⟩
end Go.Proofs.Ytfmbpoojpnoafaa.X
end
