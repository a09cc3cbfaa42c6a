import Derived.Test.YtengegdaiphfeaaKFnExactExpandExpression1
import Derived.Test.YtengegdaiphfeaaKFnExactExpandExpression3
import Derived.Test.YtengegdaiphfeaaKFnExactExpandExpression2
import Derived.Laws.Bits64
import Derived.Lib.Repeat
section
namespace Go.Proofs.Ytengegdaiphfeaa.X
open Go.RowKit Go.Proofs.YtengegdaiphfeaaW.PrintWords Go.Proofs.YtengegdaiphfeaaW.PrintLast Go.Proofs.YtengegdaiphfeaaW.PrintMore
attribute [local go_sem] max2_int min2_int max_two min_two max_three min_three max_four min_four
set_option linter.unusedVariables false
set_option linter.unusedSimpArgs false
def spec_MulGrades.f (k : Nat) (a0_0 : Int) (l0_1 : List Int) (a1_0 : Int) (l1_1 : List Int) : Option (Int × List Int × Bool):=(spec_GradesValid.f k a0_0 l0_1).bind fun t341 => (if t341 = true then ((spec_GradesValid.f k a1_0 l1_1).bind fun t342 => (if t342 = true then (if a0_0 = a1_0 then ((spec_l6Mul.f k a0_0 l0_1 a1_0 l1_1).bind fun bt343 => (some (bt343.1,bt343.2,true))) else (some (0,([] : List Int),false))) else (some (0,([] : List Int),false)))) else (some (0,([] : List Int),false)))
theorem spec_MulGrades.mono : ∀ a0 a1 a2 a3 k,LeO (spec_MulGrades.f k a0 a1 a2 a3) (spec_MulGrades.f (k + 1) a0 a1 a2 a3):=by
 intro a0 a1 a2 a3 k
 unfold spec_MulGrades.f
 repeat' first
   | (with_reducible exact spec_GradesValid.mono _ _ _)
   | (with_reducible exact spec_l6Mul.mono _ _ _ _ _)
   | (with_reducible exact LeO.refl _)
   | (with_reducible exact LeO.none _)
   | (with_reducible refine LeO.ite ?_ ?_)
   | (with_reducible refine LeO.bind ?_ (fun _ => ?_))
   | exact spec_GradesValid.mono _ _ _
   | exact spec_l6Mul.mono _ _ _ _ _
   | exact LeO.none _
   | refine LeO.ite ?_ ?_
   | refine LeO.bind ?_ (fun _ => ?_)
set_option maxHeartbeats 8000000 in
set_option maxRecDepth 100000 in
theorem spec_MulGrades.calls (k : Nat) (a0_0 : Int) (A0_1 : Option Addr) (c0_1 : Nat) (l0_1 : List Int) (a1_0 : Int) (A1_1 : Option Addr) (c1_1 : Nat) (l1_1 : List Int) (r1 : Int) (r2 : List Int) (r3 : Bool) (w : World) (hr0_1 : Kd.C (Kd.int .i64) w A0_1 l0_1.length l0_1) (hc0_1 : l0_1.length ≤ c0_1) (hr1_1 : Kd.C (Kd.int .i64) w A1_1 l1_1.length l1_1) (hc1_1 : l1_1.length ≤ c1_1) (h : spec_MulGrades.f k a0_0 l0_1 a1_0 l1_1 = some (r1,r2,r3)) :
  Calls Try.prog 26 #[.agg #[.int .i64 a0_0,.slice A0_1 l0_1.length c0_1],.agg #[.int .i64 a1_0,.slice A1_1 l1_1.length c1_1]] w fun e w' => ∃ v1_ : Value,e = .returned (.tuple #[.agg #[.int .i64 r1,v1_],.bool r3]) ∧ Kd.R (Kd.int .i64) 3 w' w.heap.size (fun _ => True) v1_ r2 ∧ Below w.heap.size w w':=by
 have hu28:=Try.underlying28
 have HR0_1:=Aside0.mk hr0_1
 have HC0_1:=Aside0.mk hc0_1
 clear hr0_1 hc0_1
 have HR1_1:=Aside0.mk hr1_1
 have HC1_1:=Aside0.mk hc1_1
 clear hr1_1 hc1_1
 have HB:=Aside0.mk (Below.refl w.heap.size w)
 have H : ((spec_GradesValid.f k a0_0 l0_1).bind fun t341 => (if t341 = true then ((spec_GradesValid.f k a1_0 l1_1).bind fun t342 => (if t342 = true then (if a0_0 = a1_0 then ((spec_l6Mul.f k a0_0 l0_1 a1_0 l1_1).bind fun bt343 => (some (bt343.1,bt343.2,true))) else (some (0,([] : List Int),false))) else (some (0,([] : List Int),false)))) else (some (0,([] : List Int),false)))) = some (r1,r2,r3):=h
 clear h
 replace H:=Option.bind_eq_some_iff.mp H
 obtain ⟨t341,A30,H⟩:=H
 replace H : (if t341 = true then ((spec_GradesValid.f k a1_0 l1_1).bind fun t342 => (if t342 = true then (if a0_0 = a1_0 then ((spec_l6Mul.f k a0_0 l0_1 a1_0 l1_1).bind fun bt343 => (some (bt343.1,bt343.2,true))) else (some (0,([] : List Int),false))) else (some (0,([] : List Int),false)))) else (some (0,([] : List Int),false))) = some (r1,r2,r3):=H
 have A3:=Aside0.mk A30
 clear A30
 by_cases c4 : t341 = true
 ·subst c4
  have H1 : ((spec_GradesValid.f k a1_0 l1_1).bind fun t342 => (if t342 = true then (if a0_0 = a1_0 then ((spec_l6Mul.f k a0_0 l0_1 a1_0 l1_1).bind fun bt343 => (some (bt343.1,bt343.2,true))) else (some (0,([] : List Int),false))) else (some (0,([] : List Int),false)))) = some (r1,r2,r3):=by rw [if_pos rfl] at H;exact H
  clear H
  have H:=H1
  clear H1
  replace H:=Option.bind_eq_some_iff.mp H
  obtain ⟨t342,A50,H⟩:=H
  replace H : (if t342 = true then (if a0_0 = a1_0 then ((spec_l6Mul.f k a0_0 l0_1 a1_0 l1_1).bind fun bt343 => (some (bt343.1,bt343.2,true))) else (some (0,([] : List Int),false))) else (some (0,([] : List Int),false))) = some (r1,r2,r3):=H
  have A5:=Aside0.mk A50
  clear A50
  by_cases c6 : t342 = true
  ·subst c6
   have H1 : (if a0_0 = a1_0 then ((spec_l6Mul.f k a0_0 l0_1 a1_0 l1_1).bind fun bt343 => (some (bt343.1,bt343.2,true))) else (some (0,([] : List Int),false))) = some (r1,r2,r3):=by rw [if_pos rfl] at H;exact H
   clear H
   have H:=H1
   clear H1
   by_cases c7 : a0_0 = a1_0
   ·rw [if_pos c7] at H
    have c7b0 : (a0_0 == a1_0) = true:=beq_iff_eq.mpr c7
    have c7b1 : (a0_0 != a1_0) = false:=bne_eq_false_iff_eq.mpr c7
    clear c7
    replace H:=Option.bind_eq_some_iff.mp H
    obtain ⟨⟨t343,t344⟩,A80,H⟩:=H
    replace H : (some (t343,t344,true)) = some (r1,r2,r3):=H
    have A8:=Aside0.mk A80
    clear A80
    simp only [Option.some.injEq,Prod.mk.injEq] at H
    obtain ⟨rfl,rfl,rfl⟩:=H
    go_enter Try.func26,Try.ntmps26
    go_wp2_with (first|((with_reducible refine gate_dst (N:=2) rfl ?_);refine box_event ?hg (N:=2) ?hd (cs:=#[.int .i64 a0_0,.slice A0_1 l0_1.length c0_1]) (t:=28) ?hr ?_;(case hd => rfl);(case hg => rfl);(case hr => first|(go_simp;done)|(go_simp;rfl));intro gb338 hg w9 hbox hb;have n0_:=Aside0.mk (below_step (by repeat (first|(with_reducible first|exact HB.out|apply below_alloc|apply pw_below_drewN|apply below_drew1)|exact HB.out)) hb);have n1_:=Aside0.mk (hbox);have n2_:=Aside0.mk ((by rw [hg];exact (below_size (by repeat (first|(with_reducible first|exact HB.out|apply below_alloc|apply pw_below_drewN|apply below_drew1)|exact HB.out))) : w.heap.size ≤ gb338));have n3_:=Aside0.mk ((by rw [hg];exact (below_size (by repeat (first|(with_reducible first|exact HB.out|apply below_alloc|apply pw_below_drewN|apply below_drew1)|exact HB.out))) : w.heap.size ≤ gb338));clear HB;have HB:=n0_;have BK338:=n1_;have GW338:=n2_;have GE338:=n3_;clear n0_ n1_ n2_ n3_;clear hb hbox hg)|((with_reducible refine gate_dst (N:=3) rfl ?_);refine box_event ?hg (N:=3) ?hd (cs:=#[.int .i64 a1_0,.slice A1_1 l1_1.length c1_1]) (t:=28) ?hr ?_;(case hd => rfl);(case hg => rfl);(case hr => first|(go_simp;done)|(go_simp;rfl));intro gb339 hg w10 hbox hb;have n0_:=Aside0.mk (blk_below (g:=gb338) (o:=.cells #[.int .i64 a0_0,.slice A0_1 l0_1.length c0_1] 28 (0,0)) (by (with_reducible repeat (first|refine blk_drewN ?_ _|refine blk_drew ?_|refine blk_alloc ?_ _));exact BK338.out) hb);have n1_:=Aside0.mk (below_step (by repeat (first|(with_reducible first|exact HB.out|apply below_alloc|apply pw_below_drewN|apply below_drew1|refine below_set ?_ GE338.out)|exact HB.out)) hb);have n2_:=Aside0.mk (hbox);have n3_:=Aside0.mk ((by rw [hg];exact (below_size (by repeat (first|(with_reducible first|exact HB.out|apply below_alloc|apply pw_below_drewN|apply below_drew1|refine below_set ?_ GE338.out)|exact HB.out))) : w.heap.size ≤ gb339));have n4_:=Aside0.mk ((by rw [hg];exact (below_size (by repeat (first|(with_reducible first|exact HB.out|apply below_alloc|apply pw_below_drewN|apply below_drew1|refine below_set ?_ GE338.out)|exact HB.out))) : w.heap.size ≤ gb339));have n5_:=Aside0.mk ((by rw [hg];exact Nat.ne_of_lt (blk_lt (g:=gb338) (o:=.cells #[.int .i64 a0_0,.slice A0_1 l0_1.length c0_1] 28 (0,0)) (by (with_reducible repeat (first|refine blk_drewN ?_ _|refine blk_drew ?_|refine blk_alloc ?_ _));exact BK338.out)) : gb338 ≠ gb339));have n6_:=Aside0.mk ((by rw [hg];exact Nat.ne_of_gt (blk_lt (g:=gb338) (o:=.cells #[.int .i64 a0_0,.slice A0_1 l0_1.length c0_1] 28 (0,0)) (by (with_reducible repeat (first|refine blk_drewN ?_ _|refine blk_drew ?_|refine blk_alloc ?_ _));exact BK338.out)) : gb339 ≠ gb338));clear BK338;clear HB;have BK338:=n0_;have HB:=n1_;have BK339:=n2_;have GW339:=n3_;have GE339:=n4_;have NB338_339:=n5_;have NB339_338:=n6_;clear n0_ n1_ n2_ n3_ n4_ n5_ n6_;clear hb hbox hg)|((with_reducible refine gate_dst (N:=4) rfl ?_);refine box_event ?hg (N:=4) ?hd (cs:=#[.int .i64 0,.slice none 0 0]) (t:=28) ?hr ?_;(case hd => rfl);(case hg => rfl);(case hr => first|(go_simp;done)|(go_simp;rfl));intro gb340 hg w11 hbox hb;have n0_:=Aside0.mk (blk_below (g:=gb338) (o:=.cells #[.int .i64 a0_0,.slice A0_1 l0_1.length c0_1] 28 (0,0)) (by (with_reducible repeat (first|refine blk_drewN ?_ _|refine blk_drew ?_|refine blk_alloc ?_ _));exact BK338.out) hb);have n1_:=Aside0.mk (blk_below (g:=gb339) (o:=.cells #[.int .i64 a1_0,.slice A1_1 l1_1.length c1_1] 28 (0,0)) (by (with_reducible repeat (first|refine blk_drewN ?_ _|refine blk_drew ?_|refine blk_alloc ?_ _));exact BK339.out) hb);have n2_:=Aside0.mk (below_step (by repeat (first|(with_reducible first|exact HB.out|apply below_alloc|apply pw_below_drewN|apply below_drew1|refine below_set ?_ GE338.out|refine below_set ?_ GE339.out)|exact HB.out)) hb);have n3_:=Aside0.mk (hbox);have n4_:=Aside0.mk ((by rw [hg];exact (below_size (by repeat (first|(with_reducible first|exact HB.out|apply below_alloc|apply pw_below_drewN|apply below_drew1|refine below_set ?_ GE338.out|refine below_set ?_ GE339.out)|exact HB.out))) : w.heap.size ≤ gb340));have n5_:=Aside0.mk ((by rw [hg];exact (below_size (by repeat (first|(with_reducible first|exact HB.out|apply below_alloc|apply pw_below_drewN|apply below_drew1|refine below_set ?_ GE338.out|refine below_set ?_ GE339.out)|exact HB.out))) : w.heap.size ≤ gb340));have n6_:=Aside0.mk ((by rw [hg];exact Nat.ne_of_lt (blk_lt (g:=gb338) (o:=.cells #[.int .i64 a0_0,.slice A0_1 l0_1.length c0_1] 28 (0,0)) (by (with_reducible repeat (first|refine blk_drewN ?_ _|refine blk_drew ?_|refine blk_alloc ?_ _));exact BK338.out)) : gb338 ≠ gb340));have n7_:=Aside0.mk ((by rw [hg];exact Nat.ne_of_gt (blk_lt (g:=gb338) (o:=.cells #[.int .i64 a0_0,.slice A0_1 l0_1.length c0_1] 28 (0,0)) (by (with_reducible repeat (first|refine blk_drewN ?_ _|refine blk_drew ?_|refine blk_alloc ?_ _));exact BK338.out)) : gb340 ≠ gb338));have n8_:=Aside0.mk ((by rw [hg];exact Nat.ne_of_lt (blk_lt (g:=gb339) (o:=.cells #[.int .i64 a1_0,.slice A1_1 l1_1.length c1_1] 28 (0,0)) (by (with_reducible repeat (first|refine blk_drewN ?_ _|refine blk_drew ?_|refine blk_alloc ?_ _));exact BK339.out)) : gb339 ≠ gb340));have n9_:=Aside0.mk ((by rw [hg];exact Nat.ne_of_gt (blk_lt (g:=gb339) (o:=.cells #[.int .i64 a1_0,.slice A1_1 l1_1.length c1_1] 28 (0,0)) (by (with_reducible repeat (first|refine blk_drewN ?_ _|refine blk_drew ?_|refine blk_alloc ?_ _));exact BK339.out)) : gb340 ≠ gb339));clear BK338;clear BK339;clear HB;have BK338:=n0_;have BK339:=n1_;have HB:=n2_;have BK340:=n3_;have GW340:=n4_;have GE340:=n5_;have NB338_340:=n6_;have NB340_338:=n7_;have NB339_340:=n8_;have NB340_339:=n9_;clear n0_ n1_ n2_ n3_ n4_ n5_ n6_ n7_ n8_ n9_;clear hb hbox hg;have hnb12:=NB338_339.out;have hnc12:=NB339_338.out;have hnb13:=NB338_340.out;have hnc13:=NB340_338.out;have hcz14_0 : w11.cell? ⟨gb338,0,none⟩ = some (.int .i64 a0_0):=(blk_cell BK338.out 0).trans rfl;have hcz14_1 : w11.cell? ⟨gb338,1,none⟩ = some (.slice A0_1 l0_1.length c0_1):=(blk_cell BK338.out 1).trans rfl;have hfz14_0:=blk_frozen BK338.out 0;have hfz14_1:=blk_frozen BK338.out 1)|((with_reducible refine gate_callee (f:=65) rfl ?_);refine goesL_ (some 7) rfl rfl Try.func65 (by kernel_rfl) rfl #[.agg #[.int .i64 a0_0,.slice A0_1 l0_1.length c0_1]] rfl (by (try simp only [List.map_toArray,List.map_cons,List.map_nil]);first|done|rfl|(simp only [List.length_drop,List.length_take];rfl)) ?_;(with_reducible refine (spec_GradesValid.calls k a0_0 _ _ l0_1 true _ ?side1 ?side2 A3.out).mono ?_);(case side1 => repeat (first|exact (Kd.C_below HR0_1.out HB.out)|(with_reducible refine Kd.C_alloc ?_ _)|(with_reducible refine Kd.C_drewN ?_ _)|(with_reducible refine Kd.C_drew ?_)));(case side2 => exact HC0_1.out);rintro e w15 ⟨rfl,hb⟩;refine ⟨_,rfl,?_⟩;have n0_:=Aside0.mk (blk_below (g:=gb338) (o:=.cells #[.int .i64 a0_0,.slice A0_1 l0_1.length c0_1] 28 (0,0)) (by (with_reducible repeat (first|refine blk_drewN ?_ _|refine blk_drew ?_|refine blk_alloc ?_ _));exact BK338.out) hb);have n1_:=Aside0.mk (blk_below (g:=gb339) (o:=.cells #[.int .i64 a1_0,.slice A1_1 l1_1.length c1_1] 28 (0,0)) (by (with_reducible repeat (first|refine blk_drewN ?_ _|refine blk_drew ?_|refine blk_alloc ?_ _));exact BK339.out) hb);have n2_:=Aside0.mk (blk_below (g:=gb340) (o:=.cells #[.int .i64 0,.slice none 0 0] 28 (0,0)) (by (with_reducible repeat (first|refine blk_drewN ?_ _|refine blk_drew ?_|refine blk_alloc ?_ _));exact BK340.out) hb);have n3_:=Aside0.mk (below_step (by repeat (first|(with_reducible first|exact HB.out|apply below_alloc|apply pw_below_drewN|apply below_drew1|refine below_set ?_ GE338.out|refine below_set ?_ GE339.out|refine below_set ?_ GE340.out)|exact HB.out)) hb);clear BK338;clear BK339;clear BK340;clear HB;have BK338:=n0_;have BK339:=n1_;have BK340:=n2_;have HB:=n3_;clear n0_ n1_ n2_ n3_;(try clear hb);(try clear hb2);(try clear hk);(try clear hi);have hnb16:=NB339_340.out;have hnc16:=NB340_339.out;have hcz17_0 : w15.cell? ⟨gb339,0,none⟩ = some (.int .i64 a1_0):=(blk_cell BK339.out 0).trans rfl;have hcz17_1 : w15.cell? ⟨gb339,1,none⟩ = some (.slice A1_1 l1_1.length c1_1):=(blk_cell BK339.out 1).trans rfl;have hfz17_0:=blk_frozen BK339.out 0;have hfz17_1:=blk_frozen BK339.out 1)|(go_at_call 65;(with_reducible refine (spec_GradesValid.calls k a1_0 _ _ l1_1 true _ ?side1 ?side2 A5.out).mono ?_);(case side1 => repeat (first|exact (Kd.C_below HR1_1.out HB.out)|(with_reducible refine Kd.C_alloc ?_ _)|(with_reducible refine Kd.C_drewN ?_ _)|(with_reducible refine Kd.C_drew ?_)));(case side2 => exact HC1_1.out);rintro e w18 ⟨rfl,hb⟩;have n0_:=Aside0.mk (blk_below (g:=gb338) (o:=.cells #[.int .i64 a0_0,.slice A0_1 l0_1.length c0_1] 28 (0,0)) (by (with_reducible repeat (first|refine blk_drewN ?_ _|refine blk_drew ?_|refine blk_alloc ?_ _));exact BK338.out) hb);have n1_:=Aside0.mk (blk_below (g:=gb339) (o:=.cells #[.int .i64 a1_0,.slice A1_1 l1_1.length c1_1] 28 (0,0)) (by (with_reducible repeat (first|refine blk_drewN ?_ _|refine blk_drew ?_|refine blk_alloc ?_ _));exact BK339.out) hb);have n2_:=Aside0.mk (blk_below (g:=gb340) (o:=.cells #[.int .i64 0,.slice none 0 0] 28 (0,0)) (by (with_reducible repeat (first|refine blk_drewN ?_ _|refine blk_drew ?_|refine blk_alloc ?_ _));exact BK340.out) hb);have n3_:=Aside0.mk (below_step (by repeat (first|(with_reducible first|exact HB.out|apply below_alloc|apply pw_below_drewN|apply below_drew1|refine below_set ?_ GE338.out|refine below_set ?_ GE339.out|refine below_set ?_ GE340.out)|exact HB.out)) hb);clear BK338;clear BK339;clear BK340;clear HB;have BK338:=n0_;have BK339:=n1_;have BK340:=n2_;have HB:=n3_;clear n0_ n1_ n2_ n3_;(try clear hb);(try clear hb2);(try clear hk);(try clear hi);have hcz19_0 : w18.cell? ⟨gb338,0,none⟩ = some (.int .i64 a0_0):=(blk_cell BK338.out 0).trans rfl;have hcz19_1 : w18.cell? ⟨gb338,1,none⟩ = some (.slice A0_1 l0_1.length c0_1):=(blk_cell BK338.out 1).trans rfl;have hfz19_0:=blk_frozen BK338.out 0;have hfz19_1:=blk_frozen BK338.out 1;have hcz20_0 : w18.cell? ⟨gb339,0,none⟩ = some (.int .i64 a1_0):=(blk_cell BK339.out 0).trans rfl;have hcz20_1 : w18.cell? ⟨gb339,1,none⟩ = some (.slice A1_1 l1_1.length c1_1):=(blk_cell BK339.out 1).trans rfl;have hfz20_0:=blk_frozen BK339.out 0;have hfz20_1:=blk_frozen BK339.out 1)|((with_reducible refine gate_callee (f:=68) rfl ?_);refine goesL_ (some 24) rfl rfl Try.func68 (by kernel_rfl) rfl #[.agg #[.int .i64 a0_0,.slice A0_1 l0_1.length c0_1],.agg #[.int .i64 a1_0,.slice A1_1 l1_1.length c1_1]] rfl (by (try simp only [List.map_toArray,List.map_cons,List.map_nil]);first|done|rfl|(simp only [List.length_drop,List.length_take];rfl)) ?_;(with_reducible refine (spec_l6Mul.calls k a0_0 _ _ l0_1 a1_0 _ _ l1_1 t343 t344 _ ?side1 ?side2 ?side3 ?side4 A8.out).mono ?_);(case side1 => repeat (first|exact (Kd.C_below HR0_1.out HB.out)|(with_reducible refine Kd.C_alloc ?_ _)|(with_reducible refine Kd.C_drewN ?_ _)|(with_reducible refine Kd.C_drew ?_)));(case side2 => exact HC0_1.out);(case side3 => repeat (first|exact (Kd.C_below HR1_1.out HB.out)|(with_reducible refine Kd.C_alloc ?_ _)|(with_reducible refine Kd.C_drewN ?_ _)|(with_reducible refine Kd.C_drew ?_)));(case side4 => exact HC1_1.out);rintro e w21 ⟨v345,rfl,ho0,hb⟩;refine ⟨_,rfl,?_⟩;have n0_:=Aside0.mk (Kd.R_lower ho0 (below_size (by repeat (first|(with_reducible first|exact HB.out|apply below_alloc|apply pw_below_drewN|apply below_drew1|refine below_set ?_ GE338.out|refine below_set ?_ GE339.out|refine below_set ?_ GE340.out)|exact HB.out))));have n1_:=Aside0.mk (blk_below (g:=gb338) (o:=.cells #[.int .i64 a0_0,.slice A0_1 l0_1.length c0_1] 28 (0,0)) (by (with_reducible repeat (first|refine blk_drewN ?_ _|refine blk_drew ?_|refine blk_alloc ?_ _));exact BK338.out) hb);have n2_:=Aside0.mk (blk_below (g:=gb339) (o:=.cells #[.int .i64 a1_0,.slice A1_1 l1_1.length c1_1] 28 (0,0)) (by (with_reducible repeat (first|refine blk_drewN ?_ _|refine blk_drew ?_|refine blk_alloc ?_ _));exact BK339.out) hb);have n3_:=Aside0.mk (blk_below (g:=gb340) (o:=.cells #[.int .i64 0,.slice none 0 0] 28 (0,0)) (by (with_reducible repeat (first|refine blk_drewN ?_ _|refine blk_drew ?_|refine blk_alloc ?_ _));exact BK340.out) hb);have n4_:=Aside0.mk (below_step (by repeat (first|(with_reducible first|exact HB.out|apply below_alloc|apply pw_below_drewN|apply below_drew1|refine below_set ?_ GE338.out|refine below_set ?_ GE339.out|refine below_set ?_ GE340.out)|exact HB.out)) hb);clear BK338;clear BK339;clear BK340;clear HB;have HO346:=n0_;have BK338:=n1_;have BK339:=n2_;have BK340:=n3_;have HB:=n4_;clear n0_ n1_ n2_ n3_ n4_;(try clear hb);(try clear hb2);(try clear hk);(try clear hi);(try clear ho0);have hcz22_0 : w21.cell? ⟨gb340,0,none⟩ = some (.int .i64 0):=(blk_cell BK340.out 0).trans rfl;have hcz22_1 : w21.cell? ⟨gb340,1,none⟩ = some (.slice none 0 0):=(blk_cell BK340.out 1).trans rfl;have hfz22_0:=blk_frozen BK340.out 0;have hfz22_1:=blk_frozen BK340.out 1;obtain ⟨Ao23,co23,eo23⟩:=Kd.R_slice HO346.out;subst eo23))
    refine bodyPost_ret (results_ct rfl _ _ gb340 28 #[.int .i64 t343,.slice Ao23 t344.length co23] (0,0) _ rfl (by (with_reducible repeat (first|refine blk_drewN ?_ _|refine blk_drew ?_|refine blk_alloc ?_ _));refine blk_put (cs:=#[.int .i64 t343,.slice none 0 0]) ?_ 1 _ rfl;(with_reducible repeat (first|refine blk_drewN ?_ _|refine blk_drew ?_|refine blk_alloc ?_ _));refine blk_put (cs:=#[.int .i64 0,.slice none 0 0]) ?_ 0 _ rfl;(with_reducible repeat (first|refine blk_drewN ?_ _|refine blk_drew ?_|refine blk_alloc ?_ _));exact BK340.out) Try.underlying28 rfl (by kernel_rfl)) rfl ?_
    exact ⟨_,by first|rfl|(simp [errW_none,errW_some] <;> rfl)|(simp [*,errW_none,errW_some] <;> rfl),by (with_reducible repeat (first|apply Kd.R_alloc|apply Kd.R_drewN|apply Kd.R_drew));exact Kd.R_mono (Kd.R_far (p:=⟨gb340,1,none⟩) (Kd.R_far (p:=⟨gb340,0,none⟩) (Kd.R_types HO346.out BK340.out (by decide)) (fun _ hk => hk.2) (.int .i64 t343)) (fun _ hk => hk.2) (.slice Ao23 t344.length co23)) (fun _ hk => trivial),by repeat (first|(with_reducible first|exact HB.out|apply below_alloc|apply pw_below_drewN|apply below_drew1|refine below_set ?_ GE338.out|refine below_set ?_ GE339.out|refine below_set ?_ GE340.out)|exact HB.out)⟩
   ·rw [if_neg c7] at H
    have c7b0 : (a0_0 == a1_0) = false:=beq_eq_false_iff_ne.mpr c7
    have c7b1 : (a0_0 != a1_0) = true:=bne_iff_ne.mpr c7
    simp only [Option.some.injEq,Prod.mk.injEq] at H
    obtain ⟨rfl,rfl,rfl⟩:=H
    go_enter Try.func26,Try.ntmps26
    go_wp2_with (first|((with_reducible refine gate_dst (N:=2) rfl ?_);refine box_event ?hg (N:=2) ?hd (cs:=#[.int .i64 a0_0,.slice A0_1 l0_1.length c0_1]) (t:=28) ?hr ?_;(case hd => rfl);(case hg => rfl);(case hr => first|(go_simp;done)|(go_simp;rfl));intro gb338 hg w24 hbox hb;have n0_:=Aside0.mk (below_step (by repeat (first|(with_reducible first|exact HB.out|apply below_alloc|apply pw_below_drewN|apply below_drew1)|exact HB.out)) hb);have n1_:=Aside0.mk (hbox);have n2_:=Aside0.mk ((by rw [hg];exact (below_size (by repeat (first|(with_reducible first|exact HB.out|apply below_alloc|apply pw_below_drewN|apply below_drew1)|exact HB.out))) : w.heap.size ≤ gb338));have n3_:=Aside0.mk ((by rw [hg];exact (below_size (by repeat (first|(with_reducible first|exact HB.out|apply below_alloc|apply pw_below_drewN|apply below_drew1)|exact HB.out))) : w.heap.size ≤ gb338));clear HB;have HB:=n0_;have BK338:=n1_;have GW338:=n2_;have GE338:=n3_;clear n0_ n1_ n2_ n3_;clear hb hbox hg)|((with_reducible refine gate_dst (N:=3) rfl ?_);refine box_event ?hg (N:=3) ?hd (cs:=#[.int .i64 a1_0,.slice A1_1 l1_1.length c1_1]) (t:=28) ?hr ?_;(case hd => rfl);(case hg => rfl);(case hr => first|(go_simp;done)|(go_simp;rfl));intro gb339 hg w25 hbox hb;have n0_:=Aside0.mk (blk_below (g:=gb338) (o:=.cells #[.int .i64 a0_0,.slice A0_1 l0_1.length c0_1] 28 (0,0)) (by (with_reducible repeat (first|refine blk_drewN ?_ _|refine blk_drew ?_|refine blk_alloc ?_ _));exact BK338.out) hb);have n1_:=Aside0.mk (below_step (by repeat (first|(with_reducible first|exact HB.out|apply below_alloc|apply pw_below_drewN|apply below_drew1|refine below_set ?_ GE338.out)|exact HB.out)) hb);have n2_:=Aside0.mk (hbox);have n3_:=Aside0.mk ((by rw [hg];exact (below_size (by repeat (first|(with_reducible first|exact HB.out|apply below_alloc|apply pw_below_drewN|apply below_drew1|refine below_set ?_ GE338.out)|exact HB.out))) : w.heap.size ≤ gb339));have n4_:=Aside0.mk ((by rw [hg];exact (below_size (by repeat (first|(with_reducible first|exact HB.out|apply below_alloc|apply pw_below_drewN|apply below_drew1|refine below_set ?_ GE338.out)|exact HB.out))) : w.heap.size ≤ gb339));have n5_:=Aside0.mk ((by rw [hg];exact Nat.ne_of_lt (blk_lt (g:=gb338) (o:=.cells #[.int .i64 a0_0,.slice A0_1 l0_1.length c0_1] 28 (0,0)) (by (with_reducible repeat (first|refine blk_drewN ?_ _|refine blk_drew ?_|refine blk_alloc ?_ _));exact BK338.out)) : gb338 ≠ gb339));have n6_:=Aside0.mk ((by rw [hg];exact Nat.ne_of_gt (blk_lt (g:=gb338) (o:=.cells #[.int .i64 a0_0,.slice A0_1 l0_1.length c0_1] 28 (0,0)) (by (with_reducible repeat (first|refine blk_drewN ?_ _|refine blk_drew ?_|refine blk_alloc ?_ _));exact BK338.out)) : gb339 ≠ gb338));clear BK338;clear HB;have BK338:=n0_;have HB:=n1_;have BK339:=n2_;have GW339:=n3_;have GE339:=n4_;have NB338_339:=n5_;have NB339_338:=n6_;clear n0_ n1_ n2_ n3_ n4_ n5_ n6_;clear hb hbox hg)|((with_reducible refine gate_dst (N:=4) rfl ?_);refine box_event ?hg (N:=4) ?hd (cs:=#[.int .i64 0,.slice none 0 0]) (t:=28) ?hr ?_;(case hd => rfl);(case hg => rfl);(case hr => first|(go_simp;done)|(go_simp;rfl));intro gb340 hg w26 hbox hb;have n0_:=Aside0.mk (blk_below (g:=gb338) (o:=.cells #[.int .i64 a0_0,.slice A0_1 l0_1.length c0_1] 28 (0,0)) (by (with_reducible repeat (first|refine blk_drewN ?_ _|refine blk_drew ?_|refine blk_alloc ?_ _));exact BK338.out) hb);have n1_:=Aside0.mk (blk_below (g:=gb339) (o:=.cells #[.int .i64 a1_0,.slice A1_1 l1_1.length c1_1] 28 (0,0)) (by (with_reducible repeat (first|refine blk_drewN ?_ _|refine blk_drew ?_|refine blk_alloc ?_ _));exact BK339.out) hb);have n2_:=Aside0.mk (below_step (by repeat (first|(with_reducible first|exact HB.out|apply below_alloc|apply pw_below_drewN|apply below_drew1|refine below_set ?_ GE338.out|refine below_set ?_ GE339.out)|exact HB.out)) hb);have n3_:=Aside0.mk (hbox);have n4_:=Aside0.mk ((by rw [hg];exact (below_size (by repeat (first|(with_reducible first|exact HB.out|apply below_alloc|apply pw_below_drewN|apply below_drew1|refine below_set ?_ GE338.out|refine below_set ?_ GE339.out)|exact HB.out))) : w.heap.size ≤ gb340));have n5_:=Aside0.mk ((by rw [hg];exact (below_size (by repeat (first|(with_reducible first|exact HB.out|apply below_alloc|apply pw_below_drewN|apply below_drew1|refine below_set ?_ GE338.out|refine below_set ?_ GE339.out)|exact HB.out))) : w.heap.size ≤ gb340));have n6_:=Aside0.mk ((by rw [hg];exact Nat.ne_of_lt (blk_lt (g:=gb338) (o:=.cells #[.int .i64 a0_0,.slice A0_1 l0_1.length c0_1] 28 (0,0)) (by (with_reducible repeat (first|refine blk_drewN ?_ _|refine blk_drew ?_|refine blk_alloc ?_ _));exact BK338.out)) : gb338 ≠ gb340));have n7_:=Aside0.mk ((by rw [hg];exact Nat.ne_of_gt (blk_lt (g:=gb338) (o:=.cells #[.int .i64 a0_0,.slice A0_1 l0_1.length c0_1] 28 (0,0)) (by (with_reducible repeat (first|refine blk_drewN ?_ _|refine blk_drew ?_|refine blk_alloc ?_ _));exact BK338.out)) : gb340 ≠ gb338));have n8_:=Aside0.mk ((by rw [hg];exact Nat.ne_of_lt (blk_lt (g:=gb339) (o:=.cells #[.int .i64 a1_0,.slice A1_1 l1_1.length c1_1] 28 (0,0)) (by (with_reducible repeat (first|refine blk_drewN ?_ _|refine blk_drew ?_|refine blk_alloc ?_ _));exact BK339.out)) : gb339 ≠ gb340));have n9_:=Aside0.mk ((by rw [hg];exact Nat.ne_of_gt (blk_lt (g:=gb339) (o:=.cells #[.int .i64 a1_0,.slice A1_1 l1_1.length c1_1] 28 (0,0)) (by (with_reducible repeat (first|refine blk_drewN ?_ _|refine blk_drew ?_|refine blk_alloc ?_ _));exact BK339.out)) : gb340 ≠ gb339));clear BK338;clear BK339;clear HB;have BK338:=n0_;have BK339:=n1_;have HB:=n2_;have BK340:=n3_;have GW340:=n4_;have GE340:=n5_;have NB338_340:=n6_;have NB340_338:=n7_;have NB339_340:=n8_;have NB340_339:=n9_;clear n0_ n1_ n2_ n3_ n4_ n5_ n6_ n7_ n8_ n9_;clear hb hbox hg;have hnb27:=NB338_339.out;have hnc27:=NB339_338.out;have hnb28:=NB338_340.out;have hnc28:=NB340_338.out;have hcz29_0 : w26.cell? ⟨gb338,0,none⟩ = some (.int .i64 a0_0):=(blk_cell BK338.out 0).trans rfl;have hcz29_1 : w26.cell? ⟨gb338,1,none⟩ = some (.slice A0_1 l0_1.length c0_1):=(blk_cell BK338.out 1).trans rfl;have hfz29_0:=blk_frozen BK338.out 0;have hfz29_1:=blk_frozen BK338.out 1)|((with_reducible refine gate_callee (f:=65) rfl ?_);refine goesL_ (some 7) rfl rfl Try.func65 (by kernel_rfl) rfl #[.agg #[.int .i64 a0_0,.slice A0_1 l0_1.length c0_1]] rfl (by (try simp only [List.map_toArray,List.map_cons,List.map_nil]);first|done|rfl|(simp only [List.length_drop,List.length_take];rfl)) ?_;(with_reducible refine (spec_GradesValid.calls k a0_0 _ _ l0_1 true _ ?side1 ?side2 A3.out).mono ?_);(case side1 => repeat (first|exact (Kd.C_below HR0_1.out HB.out)|(with_reducible refine Kd.C_alloc ?_ _)|(with_reducible refine Kd.C_drewN ?_ _)|(with_reducible refine Kd.C_drew ?_)));(case side2 => exact HC0_1.out);rintro e w30 ⟨rfl,hb⟩;refine ⟨_,rfl,?_⟩;have n0_:=Aside0.mk (blk_below (g:=gb338) (o:=.cells #[.int .i64 a0_0,.slice A0_1 l0_1.length c0_1] 28 (0,0)) (by (with_reducible repeat (first|refine blk_drewN ?_ _|refine blk_drew ?_|refine blk_alloc ?_ _));exact BK338.out) hb);have n1_:=Aside0.mk (blk_below (g:=gb339) (o:=.cells #[.int .i64 a1_0,.slice A1_1 l1_1.length c1_1] 28 (0,0)) (by (with_reducible repeat (first|refine blk_drewN ?_ _|refine blk_drew ?_|refine blk_alloc ?_ _));exact BK339.out) hb);have n2_:=Aside0.mk (blk_below (g:=gb340) (o:=.cells #[.int .i64 0,.slice none 0 0] 28 (0,0)) (by (with_reducible repeat (first|refine blk_drewN ?_ _|refine blk_drew ?_|refine blk_alloc ?_ _));exact BK340.out) hb);have n3_:=Aside0.mk (below_step (by repeat (first|(with_reducible first|exact HB.out|apply below_alloc|apply pw_below_drewN|apply below_drew1|refine below_set ?_ GE338.out|refine below_set ?_ GE339.out|refine below_set ?_ GE340.out)|exact HB.out)) hb);clear BK338;clear BK339;clear BK340;clear HB;have BK338:=n0_;have BK339:=n1_;have BK340:=n2_;have HB:=n3_;clear n0_ n1_ n2_ n3_;(try clear hb);(try clear hb2);(try clear hk);(try clear hi);have hnb31:=NB339_340.out;have hnc31:=NB340_339.out;have hcz32_0 : w30.cell? ⟨gb339,0,none⟩ = some (.int .i64 a1_0):=(blk_cell BK339.out 0).trans rfl;have hcz32_1 : w30.cell? ⟨gb339,1,none⟩ = some (.slice A1_1 l1_1.length c1_1):=(blk_cell BK339.out 1).trans rfl;have hfz32_0:=blk_frozen BK339.out 0;have hfz32_1:=blk_frozen BK339.out 1)|(go_at_call 65;(with_reducible refine (spec_GradesValid.calls k a1_0 _ _ l1_1 true _ ?side1 ?side2 A5.out).mono ?_);(case side1 => repeat (first|exact (Kd.C_below HR1_1.out HB.out)|(with_reducible refine Kd.C_alloc ?_ _)|(with_reducible refine Kd.C_drewN ?_ _)|(with_reducible refine Kd.C_drew ?_)));(case side2 => exact HC1_1.out);rintro e w33 ⟨rfl,hb⟩;have n0_:=Aside0.mk (blk_below (g:=gb338) (o:=.cells #[.int .i64 a0_0,.slice A0_1 l0_1.length c0_1] 28 (0,0)) (by (with_reducible repeat (first|refine blk_drewN ?_ _|refine blk_drew ?_|refine blk_alloc ?_ _));exact BK338.out) hb);have n1_:=Aside0.mk (blk_below (g:=gb339) (o:=.cells #[.int .i64 a1_0,.slice A1_1 l1_1.length c1_1] 28 (0,0)) (by (with_reducible repeat (first|refine blk_drewN ?_ _|refine blk_drew ?_|refine blk_alloc ?_ _));exact BK339.out) hb);have n2_:=Aside0.mk (blk_below (g:=gb340) (o:=.cells #[.int .i64 0,.slice none 0 0] 28 (0,0)) (by (with_reducible repeat (first|refine blk_drewN ?_ _|refine blk_drew ?_|refine blk_alloc ?_ _));exact BK340.out) hb);have n3_:=Aside0.mk (below_step (by repeat (first|(with_reducible first|exact HB.out|apply below_alloc|apply pw_below_drewN|apply below_drew1|refine below_set ?_ GE338.out|refine below_set ?_ GE339.out|refine below_set ?_ GE340.out)|exact HB.out)) hb);clear BK338;clear BK339;clear BK340;clear HB;have BK338:=n0_;have BK339:=n1_;have BK340:=n2_;have HB:=n3_;clear n0_ n1_ n2_ n3_;(try clear hb);(try clear hb2);(try clear hk);(try clear hi);have hcz34_0 : w33.cell? ⟨gb338,0,none⟩ = some (.int .i64 a0_0):=(blk_cell BK338.out 0).trans rfl;have hcz34_1 : w33.cell? ⟨gb338,1,none⟩ = some (.slice A0_1 l0_1.length c0_1):=(blk_cell BK338.out 1).trans rfl;have hfz34_0:=blk_frozen BK338.out 0;have hfz34_1:=blk_frozen BK338.out 1;have hcz35_0 : w33.cell? ⟨gb339,0,none⟩ = some (.int .i64 a1_0):=(blk_cell BK339.out 0).trans rfl;have hcz35_1 : w33.cell? ⟨gb339,1,none⟩ = some (.slice A1_1 l1_1.length c1_1):=(blk_cell BK339.out 1).trans rfl;have hfz35_0:=blk_frozen BK339.out 0;have hfz35_1:=blk_frozen BK339.out 1;have hcz36_0 : w33.cell? ⟨gb340,0,none⟩ = some (.int .i64 0):=(blk_cell BK340.out 0).trans rfl;have hcz36_1 : w33.cell? ⟨gb340,1,none⟩ = some (.slice none 0 0):=(blk_cell BK340.out 1).trans rfl;have hfz36_0:=blk_frozen BK340.out 0;have hfz36_1:=blk_frozen BK340.out 1))
    refine bodyPost_ret (results_ct rfl _ _ gb340 28 #[.int .i64 0,.slice none 0 0] (0,0) _ rfl (by (with_reducible repeat (first|refine blk_drewN ?_ _|refine blk_drew ?_|refine blk_alloc ?_ _));refine blk_put (cs:=#[.int .i64 0,.slice none 0 0]) ?_ 1 _ rfl;(with_reducible repeat (first|refine blk_drewN ?_ _|refine blk_drew ?_|refine blk_alloc ?_ _));refine blk_put (cs:=#[.int .i64 0,.slice none 0 0]) ?_ 0 _ rfl;(with_reducible repeat (first|refine blk_drewN ?_ _|refine blk_drew ?_|refine blk_alloc ?_ _));exact BK340.out) Try.underlying28 rfl (by kernel_rfl)) rfl ?_
    exact ⟨_,by first|rfl|(simp [errW_none,errW_some] <;> rfl)|(simp [*,errW_none,errW_some] <;> rfl),by first|exact Kd.R_nil _ _ _ _ _|exact Kd.N_nil _ _ _ _ _|exact Kd.V_nil _ _ _ _ _|exact Kd.Q_nil _ _ _ _ _|exact Kd.S_nil _ _ _ _ _,by repeat (first|(with_reducible first|exact HB.out|apply below_alloc|apply pw_below_drewN|apply below_drew1|refine below_set ?_ GE338.out|refine below_set ?_ GE339.out|refine below_set ?_ GE340.out)|exact HB.out)⟩
  ·replace c6:=Bool.eq_false_iff.mpr c6
   subst c6
   have H1 : (some (0,([] : List Int),false)) = some (r1,r2,r3):=by rw [if_neg (show ¬ (false = true) by decide)] at H;exact H
   clear H
   have H:=H1
   clear H1
   simp only [Option.some.injEq,Prod.mk.injEq] at H
   obtain ⟨rfl,rfl,rfl⟩:=H
   go_enter Try.func26,Try.ntmps26
   go_wp2_with (first|((with_reducible refine gate_dst (N:=2) rfl ?_);refine box_event ?hg (N:=2) ?hd (cs:=#[.int .i64 a0_0,.slice A0_1 l0_1.length c0_1]) (t:=28) ?hr ?_;(case hd => rfl);(case hg => rfl);(case hr => first|(go_simp;done)|(go_simp;rfl));intro gb338 hg w37 hbox hb;have n0_:=Aside0.mk (below_step (by repeat (first|(with_reducible first|exact HB.out|apply below_alloc|apply pw_below_drewN|apply below_drew1)|exact HB.out)) hb);have n1_:=Aside0.mk (hbox);have n2_:=Aside0.mk ((by rw [hg];exact (below_size (by repeat (first|(with_reducible first|exact HB.out|apply below_alloc|apply pw_below_drewN|apply below_drew1)|exact HB.out))) : w.heap.size ≤ gb338));have n3_:=Aside0.mk ((by rw [hg];exact (below_size (by repeat (first|(with_reducible first|exact HB.out|apply below_alloc|apply pw_below_drewN|apply below_drew1)|exact HB.out))) : w.heap.size ≤ gb338));clear HB;have HB:=n0_;have BK338:=n1_;have GW338:=n2_;have GE338:=n3_;clear n0_ n1_ n2_ n3_;clear hb hbox hg)|((with_reducible refine gate_dst (N:=3) rfl ?_);refine box_event ?hg (N:=3) ?hd (cs:=#[.int .i64 a1_0,.slice A1_1 l1_1.length c1_1]) (t:=28) ?hr ?_;(case hd => rfl);(case hg => rfl);(case hr => first|(go_simp;done)|(go_simp;rfl));intro gb339 hg w38 hbox hb;have n0_:=Aside0.mk (blk_below (g:=gb338) (o:=.cells #[.int .i64 a0_0,.slice A0_1 l0_1.length c0_1] 28 (0,0)) (by (with_reducible repeat (first|refine blk_drewN ?_ _|refine blk_drew ?_|refine blk_alloc ?_ _));exact BK338.out) hb);have n1_:=Aside0.mk (below_step (by repeat (first|(with_reducible first|exact HB.out|apply below_alloc|apply pw_below_drewN|apply below_drew1|refine below_set ?_ GE338.out)|exact HB.out)) hb);have n2_:=Aside0.mk (hbox);have n3_:=Aside0.mk ((by rw [hg];exact (below_size (by repeat (first|(with_reducible first|exact HB.out|apply below_alloc|apply pw_below_drewN|apply below_drew1|refine below_set ?_ GE338.out)|exact HB.out))) : w.heap.size ≤ gb339));have n4_:=Aside0.mk ((by rw [hg];exact (below_size (by repeat (first|(with_reducible first|exact HB.out|apply below_alloc|apply pw_below_drewN|apply below_drew1|refine below_set ?_ GE338.out)|exact HB.out))) : w.heap.size ≤ gb339));have n5_:=Aside0.mk ((by rw [hg];exact Nat.ne_of_lt (blk_lt (g:=gb338) (o:=.cells #[.int .i64 a0_0,.slice A0_1 l0_1.length c0_1] 28 (0,0)) (by (with_reducible repeat (first|refine blk_drewN ?_ _|refine blk_drew ?_|refine blk_alloc ?_ _));exact BK338.out)) : gb338 ≠ gb339));have n6_:=Aside0.mk ((by rw [hg];exact Nat.ne_of_gt (blk_lt (g:=gb338) (o:=.cells #[.int .i64 a0_0,.slice A0_1 l0_1.length c0_1] 28 (0,0)) (by (with_reducible repeat (first|refine blk_drewN ?_ _|refine blk_drew ?_|refine blk_alloc ?_ _));exact BK338.out)) : gb339 ≠ gb338));clear BK338;clear HB;have BK338:=n0_;have HB:=n1_;have BK339:=n2_;have GW339:=n3_;have GE339:=n4_;have NB338_339:=n5_;have NB339_338:=n6_;clear n0_ n1_ n2_ n3_ n4_ n5_ n6_;clear hb hbox hg)|((with_reducible refine gate_dst (N:=4) rfl ?_);refine box_event ?hg (N:=4) ?hd (cs:=#[.int .i64 0,.slice none 0 0]) (t:=28) ?hr ?_;(case hd => rfl);(case hg => rfl);(case hr => first|(go_simp;done)|(go_simp;rfl));intro gb340 hg w39 hbox hb;have n0_:=Aside0.mk (blk_below (g:=gb338) (o:=.cells #[.int .i64 a0_0,.slice A0_1 l0_1.length c0_1] 28 (0,0)) (by (with_reducible repeat (first|refine blk_drewN ?_ _|refine blk_drew ?_|refine blk_alloc ?_ _));exact BK338.out) hb);have n1_:=Aside0.mk (blk_below (g:=gb339) (o:=.cells #[.int .i64 a1_0,.slice A1_1 l1_1.length c1_1] 28 (0,0)) (by (with_reducible repeat (first|refine blk_drewN ?_ _|refine blk_drew ?_|refine blk_alloc ?_ _));exact BK339.out) hb);have n2_:=Aside0.mk (below_step (by repeat (first|(with_reducible first|exact HB.out|apply below_alloc|apply pw_below_drewN|apply below_drew1|refine below_set ?_ GE338.out|refine below_set ?_ GE339.out)|exact HB.out)) hb);have n3_:=Aside0.mk (hbox);have n4_:=Aside0.mk ((by rw [hg];exact (below_size (by repeat (first|(with_reducible first|exact HB.out|apply below_alloc|apply pw_below_drewN|apply below_drew1|refine below_set ?_ GE338.out|refine below_set ?_ GE339.out)|exact HB.out))) : w.heap.size ≤ gb340));have n5_:=Aside0.mk ((by rw [hg];exact (below_size (by repeat (first|(with_reducible first|exact HB.out|apply below_alloc|apply pw_below_drewN|apply below_drew1|refine below_set ?_ GE338.out|refine below_set ?_ GE339.out)|exact HB.out))) : w.heap.size ≤ gb340));have n6_:=Aside0.mk ((by rw [hg];exact Nat.ne_of_lt (blk_lt (g:=gb338) (o:=.cells #[.int .i64 a0_0,.slice A0_1 l0_1.length c0_1] 28 (0,0)) (by (with_reducible repeat (first|refine blk_drewN ?_ _|refine blk_drew ?_|refine blk_alloc ?_ _));exact BK338.out)) : gb338 ≠ gb340));have n7_:=Aside0.mk ((by rw [hg];exact Nat.ne_of_gt (blk_lt (g:=gb338) (o:=.cells #[.int .i64 a0_0,.slice A0_1 l0_1.length c0_1] 28 (0,0)) (by (with_reducible repeat (first|refine blk_drewN ?_ _|refine blk_drew ?_|refine blk_alloc ?_ _));exact BK338.out)) : gb340 ≠ gb338));have n8_:=Aside0.mk ((by rw [hg];exact Nat.ne_of_lt (blk_lt (g:=gb339) (o:=.cells #[.int .i64 a1_0,.slice A1_1 l1_1.length c1_1] 28 (0,0)) (by (with_reducible repeat (first|refine blk_drewN ?_ _|refine blk_drew ?_|refine blk_alloc ?_ _));exact BK339.out)) : gb339 ≠ gb340));have n9_:=Aside0.mk ((by rw [hg];exact Nat.ne_of_gt (blk_lt (g:=gb339) (o:=.cells #[.int .i64 a1_0,.slice A1_1 l1_1.length c1_1] 28 (0,0)) (by (with_reducible repeat (first|refine blk_drewN ?_ _|refine blk_drew ?_|refine blk_alloc ?_ _));exact BK339.out)) : gb340 ≠ gb339));clear BK338;clear BK339;clear HB;have BK338:=n0_;have BK339:=n1_;have HB:=n2_;have BK340:=n3_;have GW340:=n4_;have GE340:=n5_;have NB338_340:=n6_;have NB340_338:=n7_;have NB339_340:=n8_;have NB340_339:=n9_;clear n0_ n1_ n2_ n3_ n4_ n5_ n6_ n7_ n8_ n9_;clear hb hbox hg;have hnb40:=NB338_339.out;have hnc40:=NB339_338.out;have hnb41:=NB338_340.out;have hnc41:=NB340_338.out;have hcz42_0 : w39.cell? ⟨gb338,0,none⟩ = some (.int .i64 a0_0):=(blk_cell BK338.out 0).trans rfl;have hcz42_1 : w39.cell? ⟨gb338,1,none⟩ = some (.slice A0_1 l0_1.length c0_1):=(blk_cell BK338.out 1).trans rfl;have hfz42_0:=blk_frozen BK338.out 0;have hfz42_1:=blk_frozen BK338.out 1)|((with_reducible refine gate_callee (f:=65) rfl ?_);refine goesL_ (some 7) rfl rfl Try.func65 (by kernel_rfl) rfl #[.agg #[.int .i64 a0_0,.slice A0_1 l0_1.length c0_1]] rfl (by (try simp only [List.map_toArray,List.map_cons,List.map_nil]);first|done|rfl|(simp only [List.length_drop,List.length_take];rfl)) ?_;(with_reducible refine (spec_GradesValid.calls k a0_0 _ _ l0_1 true _ ?side1 ?side2 A3.out).mono ?_);(case side1 => repeat (first|exact (Kd.C_below HR0_1.out HB.out)|(with_reducible refine Kd.C_alloc ?_ _)|(with_reducible refine Kd.C_drewN ?_ _)|(with_reducible refine Kd.C_drew ?_)));(case side2 => exact HC0_1.out);rintro e w43 ⟨rfl,hb⟩;refine ⟨_,rfl,?_⟩;have n0_:=Aside0.mk (blk_below (g:=gb338) (o:=.cells #[.int .i64 a0_0,.slice A0_1 l0_1.length c0_1] 28 (0,0)) (by (with_reducible repeat (first|refine blk_drewN ?_ _|refine blk_drew ?_|refine blk_alloc ?_ _));exact BK338.out) hb);have n1_:=Aside0.mk (blk_below (g:=gb339) (o:=.cells #[.int .i64 a1_0,.slice A1_1 l1_1.length c1_1] 28 (0,0)) (by (with_reducible repeat (first|refine blk_drewN ?_ _|refine blk_drew ?_|refine blk_alloc ?_ _));exact BK339.out) hb);have n2_:=Aside0.mk (blk_below (g:=gb340) (o:=.cells #[.int .i64 0,.slice none 0 0] 28 (0,0)) (by (with_reducible repeat (first|refine blk_drewN ?_ _|refine blk_drew ?_|refine blk_alloc ?_ _));exact BK340.out) hb);have n3_:=Aside0.mk (below_step (by repeat (first|(with_reducible first|exact HB.out|apply below_alloc|apply pw_below_drewN|apply below_drew1|refine below_set ?_ GE338.out|refine below_set ?_ GE339.out|refine below_set ?_ GE340.out)|exact HB.out)) hb);clear BK338;clear BK339;clear BK340;clear HB;have BK338:=n0_;have BK339:=n1_;have BK340:=n2_;have HB:=n3_;clear n0_ n1_ n2_ n3_;(try clear hb);(try clear hb2);(try clear hk);(try clear hi);have hnb44:=NB339_340.out;have hnc44:=NB340_339.out;have hcz45_0 : w43.cell? ⟨gb339,0,none⟩ = some (.int .i64 a1_0):=(blk_cell BK339.out 0).trans rfl;have hcz45_1 : w43.cell? ⟨gb339,1,none⟩ = some (.slice A1_1 l1_1.length c1_1):=(blk_cell BK339.out 1).trans rfl;have hfz45_0:=blk_frozen BK339.out 0;have hfz45_1:=blk_frozen BK339.out 1)|(go_at_call 65;(with_reducible refine (spec_GradesValid.calls k a1_0 _ _ l1_1 false _ ?side1 ?side2 A5.out).mono ?_);(case side1 => repeat (first|exact (Kd.C_below HR1_1.out HB.out)|(with_reducible refine Kd.C_alloc ?_ _)|(with_reducible refine Kd.C_drewN ?_ _)|(with_reducible refine Kd.C_drew ?_)));(case side2 => exact HC1_1.out);rintro e w46 ⟨rfl,hb⟩;have n0_:=Aside0.mk (blk_below (g:=gb338) (o:=.cells #[.int .i64 a0_0,.slice A0_1 l0_1.length c0_1] 28 (0,0)) (by (with_reducible repeat (first|refine blk_drewN ?_ _|refine blk_drew ?_|refine blk_alloc ?_ _));exact BK338.out) hb);have n1_:=Aside0.mk (blk_below (g:=gb339) (o:=.cells #[.int .i64 a1_0,.slice A1_1 l1_1.length c1_1] 28 (0,0)) (by (with_reducible repeat (first|refine blk_drewN ?_ _|refine blk_drew ?_|refine blk_alloc ?_ _));exact BK339.out) hb);have n2_:=Aside0.mk (blk_below (g:=gb340) (o:=.cells #[.int .i64 0,.slice none 0 0] 28 (0,0)) (by (with_reducible repeat (first|refine blk_drewN ?_ _|refine blk_drew ?_|refine blk_alloc ?_ _));exact BK340.out) hb);have n3_:=Aside0.mk (below_step (by repeat (first|(with_reducible first|exact HB.out|apply below_alloc|apply pw_below_drewN|apply below_drew1|refine below_set ?_ GE338.out|refine below_set ?_ GE339.out|refine below_set ?_ GE340.out)|exact HB.out)) hb);clear BK338;clear BK339;clear BK340;clear HB;have BK338:=n0_;have BK339:=n1_;have BK340:=n2_;have HB:=n3_;clear n0_ n1_ n2_ n3_;(try clear hb);(try clear hb2);(try clear hk);(try clear hi);have hcz47_0 : w46.cell? ⟨gb340,0,none⟩ = some (.int .i64 0):=(blk_cell BK340.out 0).trans rfl;have hcz47_1 : w46.cell? ⟨gb340,1,none⟩ = some (.slice none 0 0):=(blk_cell BK340.out 1).trans rfl;have hfz47_0:=blk_frozen BK340.out 0;have hfz47_1:=blk_frozen BK340.out 1))
   refine bodyPost_ret (results_ct rfl _ _ gb340 28 #[.int .i64 0,.slice none 0 0] (0,0) _ rfl (by (with_reducible repeat (first|refine blk_drewN ?_ _|refine blk_drew ?_|refine blk_alloc ?_ _));refine blk_put (cs:=#[.int .i64 0,.slice none 0 0]) ?_ 1 _ rfl;(with_reducible repeat (first|refine blk_drewN ?_ _|refine blk_drew ?_|refine blk_alloc ?_ _));refine blk_put (cs:=#[.int .i64 0,.slice none 0 0]) ?_ 0 _ rfl;(with_reducible repeat (first|refine blk_drewN ?_ _|refine blk_drew ?_|refine blk_alloc ?_ _));exact BK340.out) Try.underlying28 rfl (by kernel_rfl)) rfl ?_
   exact ⟨_,by first|rfl|(simp [errW_none,errW_some] <;> rfl)|(simp [*,errW_none,errW_some] <;> rfl),by first|exact Kd.R_nil _ _ _ _ _|exact Kd.N_nil _ _ _ _ _|exact Kd.V_nil _ _ _ _ _|exact Kd.Q_nil _ _ _ _ _|exact Kd.S_nil _ _ _ _ _,by repeat (first|(with_reducible first|exact HB.out|apply below_alloc|apply pw_below_drewN|apply below_drew1|refine below_set ?_ GE338.out|refine below_set ?_ GE339.out|refine below_set ?_ GE340.out)|exact HB.out)⟩
 ·replace c4:=Bool.eq_false_iff.mpr c4
  subst c4
  have H1 : (some (0,([] : List Int),false)) = some (r1,r2,r3):=by rw [if_neg (show ¬ (false = true) by decide)] at H;exact H
  clear H
  have H:=H1
  clear H1
  simp only [Option.some.injEq,Prod.mk.injEq] at H
  obtain ⟨rfl,rfl,rfl⟩:=H
  go_enter Try.func26,Try.ntmps26
  go_wp2_with (first|((with_reducible refine gate_dst (N:=2) rfl ?_);refine box_event ?hg (N:=2) ?hd (cs:=#[.int .i64 a0_0,.slice A0_1 l0_1.length c0_1]) (t:=28) ?hr ?_;(case hd => rfl);(case hg => rfl);(case hr => first|(go_simp;done)|(go_simp;rfl));intro gb338 hg w48 hbox hb;have n0_:=Aside0.mk (below_step (by repeat (first|(with_reducible first|exact HB.out|apply below_alloc|apply pw_below_drewN|apply below_drew1)|exact HB.out)) hb);have n1_:=Aside0.mk (hbox);have n2_:=Aside0.mk ((by rw [hg];exact (below_size (by repeat (first|(with_reducible first|exact HB.out|apply below_alloc|apply pw_below_drewN|apply below_drew1)|exact HB.out))) : w.heap.size ≤ gb338));have n3_:=Aside0.mk ((by rw [hg];exact (below_size (by repeat (first|(with_reducible first|exact HB.out|apply below_alloc|apply pw_below_drewN|apply below_drew1)|exact HB.out))) : w.heap.size ≤ gb338));clear HB;have HB:=n0_;have BK338:=n1_;have GW338:=n2_;have GE338:=n3_;clear n0_ n1_ n2_ n3_;clear hb hbox hg)|((with_reducible refine gate_dst (N:=3) rfl ?_);refine box_event ?hg (N:=3) ?hd (cs:=#[.int .i64 a1_0,.slice A1_1 l1_1.length c1_1]) (t:=28) ?hr ?_;(case hd => rfl);(case hg => rfl);(case hr => first|(go_simp;done)|(go_simp;rfl));intro gb339 hg w49 hbox hb;have n0_:=Aside0.mk (blk_below (g:=gb338) (o:=.cells #[.int .i64 a0_0,.slice A0_1 l0_1.length c0_1] 28 (0,0)) (by (with_reducible repeat (first|refine blk_drewN ?_ _|refine blk_drew ?_|refine blk_alloc ?_ _));exact BK338.out) hb);have n1_:=Aside0.mk (below_step (by repeat (first|(with_reducible first|exact HB.out|apply below_alloc|apply pw_below_drewN|apply below_drew1|refine below_set ?_ GE338.out)|exact HB.out)) hb);have n2_:=Aside0.mk (hbox);have n3_:=Aside0.mk ((by rw [hg];exact (below_size (by repeat (first|(with_reducible first|exact HB.out|apply below_alloc|apply pw_below_drewN|apply below_drew1|refine below_set ?_ GE338.out)|exact HB.out))) : w.heap.size ≤ gb339));have n4_:=Aside0.mk ((by rw [hg];exact (below_size (by repeat (first|(with_reducible first|exact HB.out|apply below_alloc|apply pw_below_drewN|apply below_drew1|refine below_set ?_ GE338.out)|exact HB.out))) : w.heap.size ≤ gb339));have n5_:=Aside0.mk ((by rw [hg];exact Nat.ne_of_lt (blk_lt (g:=gb338) (o:=.cells #[.int .i64 a0_0,.slice A0_1 l0_1.length c0_1] 28 (0,0)) (by (with_reducible repeat (first|refine blk_drewN ?_ _|refine blk_drew ?_|refine blk_alloc ?_ _));exact BK338.out)) : gb338 ≠ gb339));have n6_:=Aside0.mk ((by rw [hg];exact Nat.ne_of_gt (blk_lt (g:=gb338) (o:=.cells #[.int .i64 a0_0,.slice A0_1 l0_1.length c0_1] 28 (0,0)) (by (with_reducible repeat (first|refine blk_drewN ?_ _|refine blk_drew ?_|refine blk_alloc ?_ _));exact BK338.out)) : gb339 ≠ gb338));clear BK338;clear HB;have BK338:=n0_;have HB:=n1_;have BK339:=n2_;have GW339:=n3_;have GE339:=n4_;have NB338_339:=n5_;have NB339_338:=n6_;clear n0_ n1_ n2_ n3_ n4_ n5_ n6_;clear hb hbox hg)|((with_reducible refine gate_dst (N:=4) rfl ?_);refine box_event ?hg (N:=4) ?hd (cs:=#[.int .i64 0,.slice none 0 0]) (t:=28) ?hr ?_;(case hd => rfl);(case hg => rfl);(case hr => first|(go_simp;done)|(go_simp;rfl));intro gb340 hg w50 hbox hb;have n0_:=Aside0.mk (blk_below (g:=gb338) (o:=.cells #[.int .i64 a0_0,.slice A0_1 l0_1.length c0_1] 28 (0,0)) (by (with_reducible repeat (first|refine blk_drewN ?_ _|refine blk_drew ?_|refine blk_alloc ?_ _));exact BK338.out) hb);have n1_:=Aside0.mk (blk_below (g:=gb339) (o:=.cells #[.int .i64 a1_0,.slice A1_1 l1_1.length c1_1] 28 (0,0)) (by (with_reducible repeat (first|refine blk_drewN ?_ _|refine blk_drew ?_|refine blk_alloc ?_ _));exact BK339.out) hb);have n2_:=Aside0.mk (below_step (by repeat (first|(with_reducible first|exact HB.out|apply below_alloc|apply pw_below_drewN|apply below_drew1|refine below_set ?_ GE338.out|refine below_set ?_ GE339.out)|exact HB.out)) hb);have n3_:=Aside0.mk (hbox);have n4_:=Aside0.mk ((by rw [hg];exact (below_size (by repeat (first|(with_reducible first|exact HB.out|apply below_alloc|apply pw_below_drewN|apply below_drew1|refine below_set ?_ GE338.out|refine below_set ?_ GE339.out)|exact HB.out))) : w.heap.size ≤ gb340));have n5_:=Aside0.mk ((by rw [hg];exact (below_size (by repeat (first|(with_reducible first|exact HB.out|apply below_alloc|apply pw_below_drewN|apply below_drew1|refine below_set ?_ GE338.out|refine below_set ?_ GE339.out)|exact HB.out))) : w.heap.size ≤ gb340));have n6_:=Aside0.mk ((by rw [hg];exact Nat.ne_of_lt (blk_lt (g:=gb338) (o:=.cells #[.int .i64 a0_0,.slice A0_1 l0_1.length c0_1] 28 (0,0)) (by (with_reducible repeat (first|refine blk_drewN ?_ _|refine blk_drew ?_|refine blk_alloc ?_ _));exact BK338.out)) : gb338 ≠ gb340));have n7_:=Aside0.mk ((by rw [hg];exact Nat.ne_of_gt (blk_lt (g:=gb338) (o:=.cells #[.int .i64 a0_0,.slice A0_1 l0_1.length c0_1] 28 (0,0)) (by (with_reducible repeat (first|refine blk_drewN ?_ _|refine blk_drew ?_|refine blk_alloc ?_ _));exact BK338.out)) : gb340 ≠ gb338));have n8_:=Aside0.mk ((by rw [hg];exact Nat.ne_of_lt (blk_lt (g:=gb339) (o:=.cells #[.int .i64 a1_0,.slice A1_1 l1_1.length c1_1] 28 (0,0)) (by (with_reducible repeat (first|refine blk_drewN ?_ _|refine blk_drew ?_|refine blk_alloc ?_ _));exact BK339.out)) : gb339 ≠ gb340));have n9_:=Aside0.mk ((by rw [hg];exact Nat.ne_of_gt (blk_lt (g:=gb339) (o:=.cells #[.int .i64 a1_0,.slice A1_1 l1_1.length c1_1] 28 (0,0)) (by (with_reducible repeat (first|refine blk_drewN ?_ _|refine blk_drew ?_|refine blk_alloc ?_ _));exact BK339.out)) : gb340 ≠ gb339));clear BK338;clear BK339;clear HB;have BK338:=n0_;have BK339:=n1_;have HB:=n2_;have BK340:=n3_;have GW340:=n4_;have GE340:=n5_;have NB338_340:=n6_;have NB340_338:=n7_;have NB339_340:=n8_;have NB340_339:=n9_;clear n0_ n1_ n2_ n3_ n4_ n5_ n6_ n7_ n8_ n9_;clear hb hbox hg;have hnb51:=NB338_339.out;have hnc51:=NB339_338.out;have hnb52:=NB338_340.out;have hnc52:=NB340_338.out;have hcz53_0 : w50.cell? ⟨gb338,0,none⟩ = some (.int .i64 a0_0):=(blk_cell BK338.out 0).trans rfl;have hcz53_1 : w50.cell? ⟨gb338,1,none⟩ = some (.slice A0_1 l0_1.length c0_1):=(blk_cell BK338.out 1).trans rfl;have hfz53_0:=blk_frozen BK338.out 0;have hfz53_1:=blk_frozen BK338.out 1)|((with_reducible refine gate_callee (f:=65) rfl ?_);refine goesL_ (some 7) rfl rfl Try.func65 (by kernel_rfl) rfl #[.agg #[.int .i64 a0_0,.slice A0_1 l0_1.length c0_1]] rfl (by (try simp only [List.map_toArray,List.map_cons,List.map_nil]);first|done|rfl|(simp only [List.length_drop,List.length_take];rfl)) ?_;(with_reducible refine (spec_GradesValid.calls k a0_0 _ _ l0_1 false _ ?side1 ?side2 A3.out).mono ?_);(case side1 => repeat (first|exact (Kd.C_below HR0_1.out HB.out)|(with_reducible refine Kd.C_alloc ?_ _)|(with_reducible refine Kd.C_drewN ?_ _)|(with_reducible refine Kd.C_drew ?_)));(case side2 => exact HC0_1.out);rintro e w54 ⟨rfl,hb⟩;refine ⟨_,rfl,?_⟩;have n0_:=Aside0.mk (blk_below (g:=gb338) (o:=.cells #[.int .i64 a0_0,.slice A0_1 l0_1.length c0_1] 28 (0,0)) (by (with_reducible repeat (first|refine blk_drewN ?_ _|refine blk_drew ?_|refine blk_alloc ?_ _));exact BK338.out) hb);have n1_:=Aside0.mk (blk_below (g:=gb339) (o:=.cells #[.int .i64 a1_0,.slice A1_1 l1_1.length c1_1] 28 (0,0)) (by (with_reducible repeat (first|refine blk_drewN ?_ _|refine blk_drew ?_|refine blk_alloc ?_ _));exact BK339.out) hb);have n2_:=Aside0.mk (blk_below (g:=gb340) (o:=.cells #[.int .i64 0,.slice none 0 0] 28 (0,0)) (by (with_reducible repeat (first|refine blk_drewN ?_ _|refine blk_drew ?_|refine blk_alloc ?_ _));exact BK340.out) hb);have n3_:=Aside0.mk (below_step (by repeat (first|(with_reducible first|exact HB.out|apply below_alloc|apply pw_below_drewN|apply below_drew1|refine below_set ?_ GE338.out|refine below_set ?_ GE339.out|refine below_set ?_ GE340.out)|exact HB.out)) hb);clear BK338;clear BK339;clear BK340;clear HB;have BK338:=n0_;have BK339:=n1_;have BK340:=n2_;have HB:=n3_;clear n0_ n1_ n2_ n3_;(try clear hb);(try clear hb2);(try clear hk);(try clear hi);have hnb55:=NB340_339.out;have hnc55:=NB339_340.out;have hcz56_0 : w54.cell? ⟨gb340,0,none⟩ = some (.int .i64 0):=(blk_cell BK340.out 0).trans rfl;have hcz56_1 : w54.cell? ⟨gb340,1,none⟩ = some (.slice none 0 0):=(blk_cell BK340.out 1).trans rfl;have hfz56_0:=blk_frozen BK340.out 0;have hfz56_1:=blk_frozen BK340.out 1))
  refine bodyPost_ret (results_ct rfl _ _ gb340 28 #[.int .i64 0,.slice none 0 0] (0,0) _ rfl (by (with_reducible repeat (first|refine blk_drewN ?_ _|refine blk_drew ?_|refine blk_alloc ?_ _));refine blk_put (cs:=#[.int .i64 0,.slice none 0 0]) ?_ 1 _ rfl;(with_reducible repeat (first|refine blk_drewN ?_ _|refine blk_drew ?_|refine blk_alloc ?_ _));refine blk_put (cs:=#[.int .i64 0,.slice none 0 0]) ?_ 0 _ rfl;(with_reducible repeat (first|refine blk_drewN ?_ _|refine blk_drew ?_|refine blk_alloc ?_ _));exact BK340.out) Try.underlying28 rfl (by kernel_rfl)) rfl ?_
  exact ⟨_,by first|rfl|(simp [errW_none,errW_some] <;> rfl)|(simp [*,errW_none,errW_some] <;> rfl),by first|exact Kd.R_nil _ _ _ _ _|exact Kd.N_nil _ _ _ _ _|exact Kd.V_nil _ _ _ _ _|exact Kd.Q_nil _ _ _ _ _|exact Kd.S_nil _ _ _ _ _,by repeat (first|(with_reducible first|exact HB.out|apply below_alloc|apply pw_below_drewN|apply below_drew1|refine below_set ?_ GE338.out|refine below_set ?_ GE339.out|refine below_set ?_ GE340.out)|exact HB.out)⟩
end Go.Proofs.Ytengegdaiphfeaa.X
end
section
namespace Go.Proofs.Ytengegdaiphfeaa.Y
open Go.RowKit Go.Proofs.Ytengegdaiphfeaa.X Go.Proofs.YtengegdaiphfeaaW.PrintWords Go.Proofs.YtengegdaiphfeaaW.PrintLast Go.Proofs.YtengegdaiphfeaaW.PrintMore
set_option linter.unusedVariables false
set_option linter.unusedSimpArgs false
def okCost (x : Int) : Bool:=decide (0 ≤ x ∧ x ≤ 1000000)
def MV (n : Int) (l : List Int) : Prop:=1 ≤ n ∧ n ≤ 4 ∧ (l.length : Int) = n * n ∧ ∀ x ∈ l,0 ≤ x ∧ x ≤ 1000000
def GV (n : Int) (l : List Int) : Prop:=MV n l ∧ ∀ x ∈ l,x ≤ 3
instance (n : Int) (l : List Int) : Decidable (MV n l):=by unfold MV;infer_instance
instance (n : Int) (l : List Int) : Decidable (GV n l):=by unfold GV;infer_instance
theorem icost (a : Int) : impl_CostValid.f a = some (okCost a):=by
 unfold impl_CostValid.f okCost
 by_cases h : a ≥ 0
 ·rw [if_pos h];by_cases h2 : a ≤ 1000000 <;> simp [h2] <;> omega
 ·rw [if_neg h];simp;omega
theorem scost (a : Int) : spec_CostValid.f a = some (okCost a):=by
 unfold spec_CostValid.f spec_l1In.f okCost
 by_cases h : a ≥ 0
 ·rw [if_pos h];by_cases h2 : a ≤ 1000000 <;> simp [h2] <;> omega
 ·rw [if_neg h];simp;omega
theorem sIn (a lo hi : Int) : spec_l1In.f a lo hi = some (decide (lo ≤ a ∧ a ≤ hi)):=by
 unfold spec_l1In.f
 by_cases h : a ≥ lo
 ·rw [if_pos h];by_cases h2 : a ≤ hi <;> simp [h2] <;> omega
 ·rw [if_neg h];simp;omega
theorem index_ev (q : Int → Bool) (p : Int → Option Bool) (hp : ∀ x,p x = some (q x)) (l : List Int) (h : l.length ≤ maxLen) :
  Ev (fun k => slices_ContainsFunc_int_int.f p k l) (l.any q):=by
 rw [maxLen_eq] at h
 have go : ∀ (t pre : List Int),l = pre ++ t → ∃ z : Int,Ev (fun k => slices_IndexFunc_int_int.l0 p k l (l.length : Int) (pre.length : Int)) z ∧ decide (z ≥ 0) = t.any q:=by
  intro t
  induction t with
  | nil =>
   intro pre hl
   refine ⟨-1,?_,rfl⟩
   refine Ev.step (f:=fun _ => some (-1)) (fun k => ?_) (Ev.now _)
   simp only [slices_IndexFunc_int_int.l0]
   rw [if_neg (by rw [hl];simp)]
  | cons x t ih =>
   intro pre hl
   have hlen : l.length = pre.length + (t.length + 1):=by rw [hl];simp
   have hx : rd l (pre.length : Int) = x:=by rw [hl,rd_mid]
   cases hq : q x with
   | true =>
    refine ⟨pre.length,?_,by simp [hq]⟩
    refine Ev.step (f:=fun _ => some (pre.length : Int)) (fun k => ?_) (Ev.now _)
    simp only [slices_IndexFunc_int_int.l0]
    rw [if_pos (by omega),if_pos (by omega),if_pos (by omega),hx,hp,hq,Option.bind_some,if_pos rfl]
   | false =>
    obtain ⟨z,hz,hd⟩:=ih (pre ++ [x]) (by simp [hl])
    refine ⟨z,?_,by simp [hq,hd]⟩
    refine Ev.step (fun k => ?_) hz
    simp only [slices_IndexFunc_int_int.l0]
    rw [if_pos (by omega),if_pos (by omega),if_pos (by omega),hx,hp,hq,Option.bind_some,if_neg (by simp),w64 (by omega) (by omega),snoc_len]
 obtain ⟨z,hz,hd⟩:=go l [] rfl
 refine Ev.congr (f:=?f1) (fun k => ?h1) ?k1
 case h1 => unfold slices_ContainsFunc_int_int.f slices_IndexFunc_int_int.f;exact rfl
 exact Ev.bind hz (Ev.congr (f:=fun _ => some (l.any q)) (fun k => by rw [hd]) (Ev.now _))
theorem iMV (n : Int) (l : List Int) (hl : l.length ≤ maxLen) : Ev (fun k => impl_MatrixValid.f k n l) (decide (MV n l)):=by
 have no : ∀ f : Nat → Option Bool,(∀ k,f k = some false) → ¬ MV n l → Ev f (decide (MV n l)):=fun f h h2 => (ev_some h).is (by rw [decide_eq_false h2])
 by_cases h1 : n < 1
 ·exact no _ (fun k => by unfold impl_MatrixValid.f;rw [if_pos h1]) (fun h => by unfold MV at h;omega)
 by_cases h2 : n > 4
 ·exact no _ (fun k => by unfold impl_MatrixValid.f;rw [if_neg h1,if_pos h2]) (fun h => by unfold MV at h;omega)
 have hnn : 0 ≤ n * n ∧ n * n ≤ 16:=by
  have : n = 1 ∨ n = 2 ∨ n = 3 ∨ n = 4:=by omega
  rcases this with rfl|rfl|rfl|rfl <;> omega
 by_cases h3 : (l.length : Int) = wrap64 (n * n)
 ·rw [w64 (by omega) (by omega)] at h3
  refine Ev.congr (f:=?f2) (fun k => ?h2) ?k2
  case h2 => unfold impl_MatrixValid.f;rw [if_neg h1,if_neg h2,w64 (x:=n * n) (by omega) (by omega),if_pos h3] <;> exact rfl
  have hq : ∀ x,impl_MatrixValid_1.f x = some (!(okCost x)):=fun x => by unfold impl_MatrixValid_1.f;rw [icost];rfl
  refine Ev.bind (index_ev (fun x => !(okCost x)) _ hq l hl) ?_
  refine (ev_some (fun k => rfl)).is ?_
  rw [Bool.eq_iff_iff]
  simp only [Bool.not_eq_true',List.any_eq_false,Bool.not_eq_true',Bool.not_eq_false,decide_eq_true_eq]
  constructor
  ·intro h;exact ⟨by omega,by omega,h3,fun x hx => by simpa [okCost] using h x hx⟩
  ·intro h x hx;simpa [okCost] using h.2.2.2 x hx
 ·refine no _ (fun k => by unfold impl_MatrixValid.f;rw [if_neg h1,if_neg h2,if_neg h3]) (fun h => ?_)
  rw [w64 (by omega) (by omega)] at h3
  exact h3 h.2.2.1
theorem iGV (n : Int) (l : List Int) (hl : l.length ≤ maxLen) : Ev (fun k => impl_GradesValid.f k n l) (decide (GV n l)):=by
 refine Ev.congr (f:=?f3) (fun k => ?h3) ?k3
 case h3 => unfold impl_GradesValid.f;exact rfl
 refine Ev.bind (iMV n l hl) ?_
 by_cases h : MV n l
 ·refine Ev.congr (f:=?f4) (fun k => ?h4) ?k4
  case h4 => rw [decide_eq_true h,if_pos rfl] <;> exact rfl
  refine Ev.bind (index_ev (fun x => decide (x > 3)) _ (fun x => rfl) l hl) ?_
  refine (ev_some (fun k => rfl)).is ?_
  rw [Bool.eq_iff_iff]
  simp only [Bool.not_eq_true',List.any_eq_false,decide_eq_true_eq]
  exact ⟨fun g => ⟨h,fun x hx => by have:=g x hx;omega⟩,fun g x hx => by have:=g.2 x hx;omega⟩
 ·refine (ev_some (fun k => ?_)).is (by rw [decide_eq_false (fun g : GV n l => h g.1)])
  rw [decide_eq_false h];rfl
theorem sAll_ev (l : List Int) (h : l.length ≤ maxLen) : Ev (fun k => spec_l1All.f k l) (l.all okCost):=by
 rw [maxLen_eq] at h
 have go : ∀ (t pre : List Int),l = pre ++ t → Ev (fun k => spec_l1All.l0 k l (l.length : Int) (pre.length : Int)) (t.all okCost):=by
  intro t
  induction t with
  | nil =>
   intro pre hl
   refine Ev.step (f:=fun _ => some true) (fun k => ?_) (Ev.now _)
   simp only [spec_l1All.l0];rw [if_neg (by rw [hl];simp)]
  | cons x t ih =>
   intro pre hl
   have hlen : l.length = pre.length + (t.length + 1):=by rw [hl];simp
   have hx : rd l (pre.length : Int) = x:=by rw [hl,rd_mid]
   cases hq : okCost x with
   | true =>
    refine Ev.step (fun k => ?_) ((ih (pre ++ [x]) (by simp [hl])).is (by simp [hq]))
    simp only [spec_l1All.l0]
    rw [if_pos (by omega),if_pos (by omega),if_pos (by omega),hx,scost,hq,Option.bind_some,if_pos rfl,w64 (by omega) (by omega),snoc_len]
   | false =>
    refine Ev.step (f:=fun _ => some false) (fun k => ?_) ((Ev.now _).is (by simp [hq]))
    simp only [spec_l1All.l0]
    rw [if_pos (by omega),if_pos (by omega),if_pos (by omega),hx,scost,hq,Option.bind_some,if_neg (by simp)]
 exact go l [] rfl
theorem sMV (n : Int) (l : List Int) (hl : l.length ≤ maxLen) : Ev (fun k => spec_MatrixValid.f k n l) (decide (MV n l)):=by
 have no : ∀ f : Nat → Option Bool,(∀ k,f k = some false) → ¬ MV n l → Ev f (decide (MV n l)):=fun f h h2 => (ev_some h).is (by rw [decide_eq_false h2])
 by_cases h1 : 1 ≤ n ∧ n ≤ 4
 ·have hnn : 0 ≤ n * n ∧ n * n ≤ 16:=by
   have : n = 1 ∨ n = 2 ∨ n = 3 ∨ n = 4:=by omega
   rcases this with rfl|rfl|rfl|rfl <;> omega
  by_cases h3 : (l.length : Int) = n * n
  ·refine Ev.congr (f:=?f5) (fun k => ?h5) ?k5
   case h5 => unfold spec_MatrixValid.f;rw [sIn,decide_eq_true h1,Option.bind_some,if_pos rfl,w64 (x:=n * n) (by omega) (by omega),if_pos h3] <;> exact rfl
   refine Ev.bind (sAll_ev l hl) ((ev_some (fun k => rfl)).is ?_)
   rw [Bool.eq_iff_iff]
   simp only [List.all_eq_true,decide_eq_true_eq]
   exact ⟨fun g => ⟨h1.1,h1.2,h3,fun x hx => by simpa [okCost] using g x hx⟩,fun g x hx => by simpa [okCost] using g.2.2.2 x hx⟩
  ·exact no _ (fun k => by unfold spec_MatrixValid.f;rw [sIn,decide_eq_true h1,Option.bind_some,if_pos rfl,w64 (x:=n * n) (by omega) (by omega),if_neg h3]) (fun h => h3 h.2.2.1)
 ·exact no _ (fun k => by unfold spec_MatrixValid.f;rw [sIn,decide_eq_false h1];rfl) (fun h => h1 ⟨h.1,h.2.1⟩)
theorem sGV (n : Int) (l : List Int) (hl : l.length ≤ maxLen) : Ev (fun k => spec_GradesValid.f k n l) (decide (GV n l)):=by
 have hm:=hl
 rw [maxLen_eq] at hm
 have go : ∀ (t pre : List Int),l = pre ++ t → Ev (fun k => spec_GradesValid.l0 k l (l.length : Int) (pre.length : Int) n l) (decide ((∀ x ∈ t,0 ≤ x ∧ x ≤ 3) ∧ MV n l)):=by
  intro t
  induction t with
  | nil =>
   intro pre hp
   refine Ev.step (f:=?f6) (fun k => ?h6) ?k6
   case h6 => simp only [spec_GradesValid.l0];rw [if_neg (by rw [hp];simp)] <;> exact rfl
   exact Ev.bind (sMV n l hl) ((ev_some (fun k => rfl)).is (by simp))
  | cons x t ih =>
   intro pre hp
   have hlen : l.length = pre.length + (t.length + 1):=by rw [hp];simp
   have hx : rd l (pre.length : Int) = x:=by rw [hp,rd_mid]
   by_cases hq : 0 ≤ x ∧ x ≤ 3
   ·refine Ev.step (fun k => ?_) ((ih (pre ++ [x]) (by simp [hp])).is ?_)
    ·simp only [spec_GradesValid.l0]
     rw [if_pos (by omega),if_pos (by omega),if_pos (by omega),hx,sIn,decide_eq_true hq,Option.bind_some,if_pos rfl,w64 (by omega) (by omega),snoc_len]
    ·simp [hq.1,hq.2]
   ·refine Ev.step (f:=fun _ => some false) (fun k => ?_) ((Ev.now _).is ?_)
    ·simp only [spec_GradesValid.l0]
     rw [if_pos (by omega),if_pos (by omega),if_pos (by omega),hx,sIn,decide_eq_false hq,Option.bind_some,if_neg (by simp)]
    ·symm;rw [decide_eq_false_iff_not];intro h;exact hq (h.1 x (by simp))
 refine (go l [] rfl).is ?_
 rw [Bool.eq_iff_iff]
 simp only [decide_eq_true_eq]
 exact ⟨fun h => ⟨h.2,fun x hx => (h.1 x hx).2⟩,fun h => ⟨fun x hx => ⟨(h.1.2.2.2 x hx).1,h.2 x hx⟩,h.1⟩⟩
end Go.Proofs.Ytengegdaiphfeaa.Y
end
section
namespace Go.Proofs.Ytengegdaiphfeaa.Y
open Go.RowKit Go.Proofs.Ytengegdaiphfeaa.X Go.Proofs.YtengegdaiphfeaaW.PrintWords Go.Proofs.YtengegdaiphfeaaW.PrintLast Go.Proofs.YtengegdaiphfeaaW.PrintMore
set_option linter.unusedVariables false
set_option linter.unusedSimpArgs false
theorem div_mod_at (n i k : Nat) (hk : k < n) : (i * n + k) / n = i ∧ (i * n + k) % n = k:=by
 have hn : 0 < n:=by omega
 constructor
 ·rw [Nat.mul_comm,Nat.mul_add_div hn,Nat.div_eq_of_lt hk,Nat.add_zero]
 ·rw [Nat.mul_comm,Nat.mul_add_mod,Nat.mod_eq_of_lt hk]
theorem cell_lt (n i k : Nat) (hi : i < n) (hk : k < n) : i * n + k < n * n:=by
 have : (i + 1) * n ≤ n * n:=Nat.mul_le_mul_right n hi
 rw [Nat.succ_mul] at this
 omega
theorem sq_le (n : Nat) (h : n ≤ 4) : n * n ≤ 16:=by
 have:=Nat.mul_le_mul h h
 omega
theorem row_le (n i : Nat) (hn : n ≤ 4) (hi : i ≤ n) : i * n ≤ 16:=by
 have:=Nat.mul_le_mul (Nat.le_trans hi hn) hn
 omega
def cutF (n : Nat) (g : Nat → Nat → Int) : Int → Int → Option Int:=fun i k => if 0 ≤ i ∧ i < n ∧ 0 ≤ k ∧ k < n then some (g i.toNat k.toNat) else none
theorem cutF_at (n : Nat) (g : Nat → Nat → Int) (i k : Nat) (hi : i < n) (hk : k < n) : cutF n g (i : Int) (k : Int) = some (g i k):=by
 unfold cutF;rw [if_pos (by omega)];simp
def sqL (n : Nat) (g : Nat → Nat → Int) : List Int:=tab (n * n) (fun m => g (m / n) (m % n))
theorem sqL_get (n : Nat) (g : Nat → Nat → Int) (i k : Nat) (hi : i < n) (hk : k < n) : (sqL n g).getD (i * n + k) 0 = g i k:=by
 unfold sqL
 rw [tab_get _ _ _ (cell_lt n i k hi hk)]
 obtain ⟨h1,h2⟩:=div_mod_at n i k hk
 rw [h1,h2]
theorem sqL_congr (n : Nat) (g h : Nat → Nat → Int) (e : ∀ i k,i < n → k < n → g i k = h i k) : sqL n g = sqL n h:=by
 refine tab_congr _ _ _ (fun j hj => e _ _ (Nat.div_lt_of_lt_mul hj) (Nat.mod_lt _ ?_))
 rcases n with _|n
 ·simp at hj
 ·omega
theorem eq_sqL (n : Nat) (l : List Int) (h : l.length = n * n) : l = sqL n (fun i k => l.getD (i * n + k) 0):=by
 refine (eq_tab l _ h).trans (tab_congr _ _ _ (fun j _ => ?_))
 show l.getD j 0 = l.getD (j / n * n + j % n) 0
 rw [Nat.mul_comm,Nat.div_add_mod]
theorem filled_cut (n : Nat) (hn : n ≤ 4) (g : Nat → Nat → Int) : Ev (fun j => impl_filled.f (cutF n g) j (n : Int)) ((n : Int),sqL n g):=by
 have inner : ∀ (i : Nat) (r : Int × List Int),i < n → Ev (fun j => impl_filled.l0 (cutF n g) j n n ((i + 1 : Nat) : Int) n (tab ((i + 1) * n) (fun m => g (m / n) (m % n)))) r →
   Ev (fun j => impl_filled.l0 (cutF n g) j n n (i : Int) n (tab (i * n) (fun m => g (m / n) (m % n)))) r:=by
  intro i r hi h
  refine Ev.step (f:=fun j => impl_filled.l1 (cutF n g) j n i n i n ((0 : Nat) : Int) n (tab (i * n + 0) (fun m => g (m / n) (m % n)))) (fun k => ?_) ?_
  ·simp only [impl_filled.l0];rw [if_pos (by omega)];rfl
  refine up_loop n (fun k j => impl_filled.l1 (cutF n g) j n i n i n (k : Int) n (tab (i * n + k) (fun m => g (m / n) (m % n)))) r (fun k hk hs => ?_) ?_
  ·refine Ev.step (fun j => ?_) hs
   simp only [impl_filled.l1]
   have hr:=row_le n i hn (by omega)
   obtain ⟨h1,h2⟩:=div_mod_at n i k hk
   rw [if_pos (by omega),cutF_at n g i k hi hk,Option.bind_some,tab_length,if_pos (by omega),w64 (by omega) (by omega)]
   have e : tab (i * n + k) (fun m => g (m / n) (m % n)) ++ [g i k] = tab (i * n + (k + 1)) (fun m => g (m / n) (m % n)):=by
    rw [← Nat.add_assoc,← tab_snoc,h1,h2]
   rw [e];rfl
  ·refine Ev.step (fun j => ?_) h
   simp only [impl_filled.l1]
   rw [if_neg (by omega),w64 (by omega) (by omega),Nat.succ_mul];rfl
 refine Ev.congr (f:=fun j => impl_filled.l0 (cutF n g) j n n ((0 : Nat) : Int) n (tab (0 * n) (fun m => g (m / n) (m % n)))) (fun k => ?_) ?_
 ·unfold impl_filled.f;simp [tab]
 refine up_loop n (fun i j => impl_filled.l0 (cutF n g) j n n (i : Int) n (tab (i * n) (fun m => g (m / n) (m % n)))) _ (fun i hi hs => inner i _ hi hs) ?_
 refine Ev.step (f:=fun _ => some ((n : Int),sqL n g)) (fun j => ?_) (Ev.now _)
 simp only [impl_filled.l0]
 rw [if_neg (by omega)];rfl
theorem filled_ev (n : Nat) (hn : n ≤ 4) (g : Nat → Nat → Int) (p : Nat → Int → Int → Option Int) (h : ∀ i,i < n → ∀ k,k < n → Ev (fun K => p K (i : Int) (k : Int)) (g i k)) :
  Ev (fun K => impl_filled.f (p K) K (n : Int)) ((n : Int),sqL n g):=by
 have h2 : ∀ i,i < n → ∃ K0,∀ K,K0 ≤ K → ∀ k,k < n → p K (i : Int) (k : Int) = some (g i k):=fun i hi => ev_all n (fun k hk => h i hi k hk)
 have h3 : ∃ K0,∀ K,K0 ≤ K → ∀ i,i < n → ∀ k,k < n → p K (i : Int) (k : Int) = some (g i k):=by
  have : ∀ m,m ≤ n → ∃ K0,∀ K,K0 ≤ K → ∀ i,i < m → ∀ k,k < n → p K (i : Int) (k : Int) = some (g i k):=by
   intro m
   induction m with
   | zero => intro _;exact ⟨0,fun _ _ i hi => by omega⟩
   | succ m ih =>
    intro hm
    obtain ⟨a,ha⟩:=ih (by omega)
    obtain ⟨b,hb⟩:=h2 m (by omega)
    refine ⟨max a b,fun K hK i hi k hk => ?_⟩
    by_cases e : i = m
    ·subst e;exact hb K (by omega) k hk
    ·exact ha K (by omega) i (by omega) k hk
  exact this n (Nat.le_refl _)
 obtain ⟨K0,hK0⟩:=h3
 refine ev_up (f:=fun j => impl_filled.f (cutF n g) j (n : Int)) (p:=fun K j => impl_filled.f (p K) j (n : Int)) (filled_cut n hn g) ⟨K0,fun K hK j => ?_⟩ (fun K j => impl_filled.mono (p K) _ j)
 refine impl_filled.monoP (fun y0 y1 r hr => ?_) _ j
 unfold cutF at hr
 by_cases hc : 0 ≤ y0 ∧ y0 < n ∧ 0 ≤ y1 ∧ y1 < n
 ·rw [if_pos hc] at hr
  have e0 : ((y0.toNat : Nat) : Int) = y0:=by omega
  have e1 : ((y1.toNat : Nat) : Int) = y1:=by omega
  have:=hK0 K hK y0.toNat (by omega) y1.toNat (by omega)
  rw [e0,e1] at this
  rw [this];exact hr
 ·rw [if_neg hc] at hr;cases hr
theorem at_eq (n : Nat) (hn : n ≤ 4) (l : List Int) (hl : l.length = n * n) (i k : Nat) (hi : i < n) (hk : k < n) : impl_Matrix_at.f (n : Int) l (i : Int) (k : Int) = some (l.getD (i * n + k) 0):=by
 have hc:=cell_lt n i k hi hk
 have hr:=row_le n i hn (by omega)
 have e : wrap64 (wrap64 ((i : Int) * (n : Int)) + k) = ((i * n + k : Nat) : Int):=by
  have : (i : Int) * (n : Int) = ((i * n : Nat) : Int):=by simp
  rw [this,w64 (x:=((i * n : Nat) : Int)) (by omega) (by omega),w64 (by omega) (by omega)];simp
 unfold impl_Matrix_at.f
 rw [e,if_pos (by omega),if_pos (by omega),rd_nat]
def mulE (n : Nat) (a b : List Int) (i k : Nat) : Int:=(List.range n).foldl (fun acc l => mn acc (mx (a.getD (i * n + l) 0) (b.getD (l * n + k) 0))) 3
def mulL (n : Nat) (a b : List Int) : List Int:=sqL n (mulE n a b)
theorem mulL_length (n : Nat) (a b : List Int) : (mulL n a b).length = n * n:=by simp [mulL,sqL,tab_length]
theorem iMulCell (n : Nat) (hn : n ≤ 4) (a b : List Int) (ha : a.length = n * n) (hb : b.length = n * n) (i k : Nat) (hi : i < n) (hk : k < n) :
  Ev (fun K => impl_MulGrades_1.f K (i : Int) (k : Int) (n : Int) a (n : Int) b) (mulE n a b i k):=by
 refine up_loop n (fun l K => impl_MulGrades_1.l0 K i k ((List.range l).foldl (fun acc l => mn acc (mx (a.getD (i * n + l) 0) (b.getD (l * n + k) 0))) 3) n (l : Int) n a n b) _ (fun l hl hs => ?_) ?_
 ·refine Ev.step (fun j => ?_) hs
  simp only [impl_MulGrades_1.l0]
  rw [if_pos (by omega),at_eq n hn a ha i l hi hl,Option.bind_some,at_eq n hn b hb l k hl hk,Option.bind_some,w64 (by omega) (by omega),fold_snoc];rfl
 ·refine Ev.step (f:=fun _ => some (mulE n a b i k)) (fun j => ?_) (Ev.now _)
  simp only [impl_MulGrades_1.l0]
  rw [if_neg (by omega)];rfl
theorem GV_len {n : Nat} {l : List Int} (h : GV (n : Int) l) : l.length = n * n:=by
 have:=h.1.2.2.1
 exact_mod_cast this
theorem GV_le {n : Nat} {l : List Int} (h : GV (n : Int) l) : n ≤ 4 ∧ 1 ≤ n:=by
 have h1:=h.1.1
 have h2:=h.1.2.1
 omega
theorem GV_nat {n : Int} {l : List Int} (h : GV n l) : ∃ m : Nat,n = (m : Int):=⟨n.toNat,by have:=h.1.1;omega⟩
theorem iMul (n : Nat) (a b : List Int) (ha : GV n a) (hb : GV n b) : Ev (fun k => impl_MulGrades.f k n a n b) ((n : Int),mulL n a b,true):=by
 have hn:=(GV_le ha).1
 have hla:=GV_len ha
 have hlb:=GV_len hb
 have hs:=sq_le n hn
 have hm : ∀ l : List Int,l.length = n * n → l.length ≤ maxLen:=fun l h => by rw [maxLen_eq];omega
 refine Ev.congr (f:=?f1) (fun k => ?h1) ?k1
 case h1 => unfold impl_MulGrades.f;exact rfl
 refine Ev.bind (iGV n a (hm a hla)) ?_
 refine Ev.congr (f:=?f2) (fun k => ?h2) ?k2
 case h2 => rw [decide_eq_true ha,if_pos rfl] <;> exact rfl
 refine Ev.bind (iGV n b (hm b hlb)) ?_
 refine Ev.congr (f:=?f3) (fun k => ?h3) ?k3
 case h3 => rw [decide_eq_true hb,if_pos rfl,if_pos rfl] <;> exact rfl
 refine Ev.bind (a:=((n : Int),mulL n a b)) ?_ (Ev.now _)
 exact filled_ev n hn (mulE n a b) (fun K y0 y1 => impl_MulGrades_1.f K y0 y1 n a n b) (fun i hi k hk => iMulCell n hn a b hla hlb i k hi hk)
def mulR (n : Int) (a : List Int) (m : Int) (b : List Int) : Int × List Int × Bool:=if GV n a ∧ GV m b ∧ n = m then (n,mulL n.toNat a b,true) else (0,[],false)
theorem iMul_any (n : Int) (a : List Int) (m : Int) (b : List Int) (ha : a.length ≤ maxLen) (hb : b.length ≤ maxLen) : Ev (fun k => impl_MulGrades.f k n a m b) (mulR n a m b):=by
 by_cases h : GV n a ∧ GV m b ∧ n = m
 ·obtain ⟨h1,h2,rfl⟩:=h
  obtain ⟨z,rfl⟩:=GV_nat h1
  refine (iMul z a b h1 h2).is ?_
  unfold mulR;rw [if_pos ⟨h1,h2,rfl⟩];rfl
 ·have hr : mulR n a m b = (0,[],false):=by unfold mulR;rw [if_neg h]
  rw [hr]
  refine Ev.congr (f:=?f4) (fun k => ?h4) ?k4
  case h4 => unfold impl_MulGrades.f;exact rfl
  refine Ev.bind (iGV n a ha) ?_
  by_cases h1 : GV n a
  ·refine Ev.congr (f:=?f5) (fun k => ?h5) ?k5
   case h5 => rw [decide_eq_true h1,if_pos rfl] <;> exact rfl
   refine Ev.bind (iGV m b hb) ?_
   by_cases h2 : GV m b
   ·exact ev_some (fun k => by rw [decide_eq_true h2,if_pos rfl,if_neg (fun e => h ⟨h1,h2,e⟩)])
   ·exact ev_some (fun k => by rw [decide_eq_false h2];rfl)
  ·exact ev_some (fun k => by rw [decide_eq_false h1];rfl)
theorem tdiv_nat (m n : Nat) : Int.tdiv (m : Int) (n : Int) = ((m / n : Nat) : Int):=by rw [Int.tdiv_eq_ediv_of_nonneg (by omega)];simp
theorem tmod_nat (m n : Nat) : Int.tmod (m : Int) (n : Int) = ((m % n : Nat) : Int):=by rw [Int.tmod_eq_emod_of_nonneg (by omega)];simp
theorem idx1 (n m l : Nat) (hn : n ≤ 4) (hi : m / n < n) (hl : l < n) : wrap64 (wrap64 (wrap64 (Int.tdiv (m : Int) (n : Int)) * (n : Int)) + l) = ((m / n * n + l : Nat) : Int):=by
 have r1:=row_le n (m / n) hn (by omega)
 rw [tdiv_nat]
 obtain ⟨q,hq⟩ : ∃ q : Nat,m / n = q:=⟨_,rfl⟩
 rw [hq] at hi r1 ⊢
 have h1 : ((q : Nat) : Int) * (n : Int) = ((q * n : Nat) : Int):=by simp
 obtain ⟨s,hs⟩ : ∃ s : Nat,q * n = s:=⟨_,rfl⟩
 rw [w64 (x:=((q : Nat) : Int)) (by omega) (by omega),h1]
 rw [hs] at r1 ⊢
 clear h1 hs hq
 rw [w64 (x:=((s : Nat) : Int)) (by omega) (by omega),w64 (by omega) (by omega)];simp
theorem idx2 (n m l : Nat) (hn : n ≤ 4) (hk : m % n < n) (hl : l < n) : wrap64 (wrap64 ((l : Int) * (n : Int)) + Int.tmod (m : Int) (n : Int)) = ((l * n + m % n : Nat) : Int):=by
 have r2:=row_le n l hn (by omega)
 rw [tmod_nat]
 obtain ⟨q,hq⟩ : ∃ q : Nat,m % n = q:=⟨_,rfl⟩
 rw [hq] at hk ⊢
 have h1 : (l : Int) * (n : Int) = ((l * n : Nat) : Int):=by simp
 obtain ⟨s,hs⟩ : ∃ s : Nat,l * n = s:=⟨_,rfl⟩
 rw [h1]
 rw [hs] at r2 ⊢
 clear h1 hs hq
 rw [w64 (x:=((s : Nat) : Int)) (by omega) (by omega),w64 (by omega) (by omega)];simp
theorem sMul (n : Nat) (hn : n ≤ 4) (h0 : 1 ≤ n) (a b : List Int) (hla : a.length = n * n) (hlb : b.length = n * n) : Ev (fun k => spec_l6Mul.f k n a n b) ((n : Int),mulL n a b):=by
 have hs:=sq_le n hn
 have e0 : wrap64 ((n : Int) * (n : Int)) = ((n * n : Nat) : Int):=by
  have : (n : Int) * (n : Int) = ((n * n : Nat) : Int):=by simp
  rw [this,w64 (by omega) (by omega)]
 refine Ev.congr (f:=fun k => spec_l6Mul.l0 k ((n * n : Nat) : Int) ((0 : Nat) : Int) n a n b n (tab 0 (fun m => mulE n a b (m / n) (m % n)))) (fun k => ?_) ?_
 ·unfold spec_l6Mul.f;rw [e0];simp [tab]
 refine up_loop (n * n) (fun m k => spec_l6Mul.l0 k ((n * n : Nat) : Int) (m : Int) n a n b n (tab m (fun m => mulE n a b (m / n) (m % n)))) _ (fun m hm hnext => ?_) ?_
 ·have hi : m / n < n:=Nat.div_lt_of_lt_mul hm
  have hk : m % n < n:=Nat.mod_lt _ (by omega)
  refine Ev.step (f:=fun k => spec_l6Mul.l1 k m ((List.range 0).foldl (fun acc l => mn acc (mx (a.getD (m / n * n + l) 0) (b.getD (l * n + m % n) 0))) 3) ((n * n : Nat) : Int) m n ((0 : Nat) : Int) n a n b n (tab m (fun m => mulE n a b (m / n) (m % n)))) (fun k => ?_) ?_
  ·simp only [spec_l6Mul.l0];rw [if_pos (by omega)];rfl
  refine up_loop n (fun l k => spec_l6Mul.l1 k m ((List.range l).foldl (fun acc l => mn acc (mx (a.getD (m / n * n + l) 0) (b.getD (l * n + m % n) 0))) 3) ((n * n : Nat) : Int) m n (l : Int) n a n b n (tab m (fun m => mulE n a b (m / n) (m % n)))) _ (fun l hl hs2 => ?_) ?_
  ·refine Ev.step (fun j => ?_) hs2
   have c1:=cell_lt n (m / n) l hi hl
   have c2:=cell_lt n l (m % n) hl hk
   have r1:=row_le n (m / n) hn (by omega)
   have r2:=row_le n l hn (by omega)
   have hA : (l : Int) < (n : Int):=by omega
   have hB : ¬ (n : Int) = 0:=by omega
   have hC : (((m / n * n + l : Nat)) : Int) < (a.length : Int):=by rw [hla];exact_mod_cast c1
   have hD : (((l * n + m % n : Nat)) : Int) < (b.length : Int):=by rw [hlb];exact_mod_cast c2
   have hE : wrap64 ((l : Int) + 1) = ((l + 1 : Nat) : Int):=by rw [w64 (by omega) (by omega)];rfl
   have e1:=idx1 n m l hn hi hl
   have e2:=idx2 n m l hn hk hl
   simp only [spec_l6Mul.l1]
   rw [if_pos hA,if_neg hB,e1,e2,if_pos (Int.natCast_nonneg _),if_pos hC,if_pos (Int.natCast_nonneg _),if_pos hD,rd_nat,rd_nat,hE,fold_snoc]
  ·refine Ev.step (fun j => ?_) hnext
   simp only [spec_l6Mul.l1]
   rw [if_neg (by omega),tab_length,if_pos (by omega),w64 (by omega) (by omega)]
   have e : tab m (fun m => mulE n a b (m / n) (m % n)) ++ [mulE n a b (m / n) (m % n)] = tab (m + 1) (fun m => mulE n a b (m / n) (m % n)):=tab_snoc m (fun m => mulE n a b (m / n) (m % n))
   show spec_l6Mul.l0 j _ _ _ _ _ _ _ (tab m (fun m => mulE n a b (m / n) (m % n)) ++ [mulE n a b (m / n) (m % n)]) = _
   rw [e];rfl
 ·refine Ev.step (f:=fun _ => some ((n : Int),mulL n a b)) (fun j => ?_) (Ev.now _)
  simp only [spec_l6Mul.l0]
  rw [if_neg (by omega)];rfl
theorem sMul_any (n : Int) (a : List Int) (m : Int) (b : List Int) (ha : a.length ≤ maxLen) (hb : b.length ≤ maxLen) : Ev (fun k => spec_MulGrades.f k n a m b) (mulR n a m b):=by
 refine Ev.congr (f:=?f6) (fun k => ?h6) ?k6
 case h6 => unfold spec_MulGrades.f;exact rfl
 refine Ev.bind (sGV n a ha) ?_
 by_cases h1 : GV n a
 ·refine Ev.congr (f:=?f7) (fun k => ?h7) ?k7
  case h7 => rw [decide_eq_true h1,if_pos rfl] <;> exact rfl
  refine Ev.bind (sGV m b hb) ?_
  by_cases h2 : GV m b
  ·by_cases e : n = m
   ·subst e
    obtain ⟨z,rfl⟩:=GV_nat h1
    refine Ev.congr (f:=?f8) (fun k => ?h8) ?k8
    case h8 => rw [decide_eq_true h2,if_pos rfl,if_pos rfl] <;> exact rfl
    refine Ev.bind (sMul z (GV_le h1).1 (GV_le h1).2 a b (GV_len h1) (GV_len h2)) ((Ev.now _).is ?_)
    unfold mulR;rw [if_pos ⟨h1,h2,rfl⟩];rfl
   ·refine ev_some (fun k => ?_)
    rw [decide_eq_true h2,if_pos rfl,if_neg e];unfold mulR;rw [if_neg (fun h => e h.2.2)]
  ·refine ev_some (fun k => ?_)
   rw [decide_eq_false h2,if_neg (by simp)];unfold mulR;rw [if_neg (fun h => h2 h.2.1)]
 ·refine ev_some (fun k => ?_)
  rw [decide_eq_false h1,if_neg (by simp)];unfold mulR;rw [if_neg (fun h => h1 h.1)]
end Go.Proofs.Ytengegdaiphfeaa.Y
end
section
namespace Go.Proofs.Ytengegdaiphfeaa.Y
open Go.RowKit Go.Proofs.Ytengegdaiphfeaa.X Go.Proofs.YtengegdaiphfeaaW.PrintWords Go.Proofs.YtengegdaiphfeaaW.PrintLast Go.Proofs.YtengegdaiphfeaaW.PrintMore
set_option linter.unusedVariables false
set_option linter.unusedSimpArgs false
theorem mn_le (x y t : Int) : mn x y ≤ t ↔ x ≤ t ∨ y ≤ t:=by unfold mn;by_cases h : y < x <;> simp only [h,if_true,if_false] <;> omega
theorem mx_le (x y t : Int) : mx x y ≤ t ↔ x ≤ t ∧ y ≤ t:=by unfold mx;by_cases h : x < y <;> simp only [h,if_true,if_false] <;> omega
theorem fold_le (n : Nat) (F : Nat → Int) (c t : Int) : (List.range n).foldl (fun acc l => mn acc (F l)) c ≤ t ↔ c ≤ t ∨ ∃ l,l < n ∧ F l ≤ t:=by
 induction n with
 | zero => simp
 | succ n ih =>
  rw [fold_snoc,mn_le,ih]
  constructor
  ·rintro ((h | ⟨l,h1,h2⟩)|h)
   ·exact Or.inl h
   ·exact Or.inr ⟨l,by omega,h2⟩
   ·exact Or.inr ⟨n,by omega,h⟩
  ·rintro (h | ⟨l,h1,h2⟩)
   ·exact Or.inl (Or.inl h)
   ·by_cases e : l = n
    ·subst e;exact Or.inr h2
    ·exact Or.inl (Or.inr ⟨l,by omega,h2⟩)
theorem mulE_le (n : Nat) (a b : List Int) (i k : Nat) (t : Int) : mulE n a b i k ≤ t ↔ 3 ≤ t ∨ ∃ l,l < n ∧ a.getD (i * n + l) 0 ≤ t ∧ b.getD (l * n + k) 0 ≤ t:=by
 unfold mulE
 rw [fold_le n (fun l => mx (a.getD (i * n + l) 0) (b.getD (l * n + k) 0)) 3 t]
 constructor
 ·rintro (h | ⟨l,h1,h2⟩)
  ·exact Or.inl h
  ·rw [mx_le] at h2;exact Or.inr ⟨l,h1,h2.1,h2.2⟩
 ·rintro (h | ⟨l,h1,h2,h3⟩)
  ·exact Or.inl h
  ·exact Or.inr ⟨l,h1,by rw [mx_le];exact ⟨h2,h3⟩⟩
theorem mulL_get (n : Nat) (a b : List Int) (i k : Nat) (hi : i < n) (hk : k < n) : (mulL n a b).getD (i * n + k) 0 = mulE n a b i k:=sqL_get n _ i k hi hk
theorem eq_of_le (x y : Int) (h : ∀ t,x ≤ t ↔ y ≤ t) : x = y:=by
 have h1:=(h y).mpr (Int.le_refl _)
 have h2:=(h x).mp (Int.le_refl _)
 omega
theorem mul_assoc' (n : Nat) (a b c : List Int) : mulL n (mulL n a b) c = mulL n a (mulL n b c):=by
 unfold mulL
 refine sqL_congr n _ _ (fun i k hi hk => eq_of_le _ _ (fun t => ?_))
 show mulE n (mulL n a b) c i k ≤ t ↔ mulE n a (mulL n b c) i k ≤ t
 rw [mulE_le,mulE_le]
 constructor
 ·rintro (h | ⟨l,hl,h1,h2⟩)
  ·exact Or.inl h
  ·rw [mulL_get n a b i l hi hl,mulE_le] at h1
   rcases h1 with h1 | ⟨m,hm,h3,h4⟩
   ·exact Or.inl h1
   ·refine Or.inr ⟨m,hm,h3,?_⟩
    rw [mulL_get n b c m k hm hk,mulE_le]
    exact Or.inr ⟨l,hl,h4,h2⟩
 ·rintro (h | ⟨m,hm,h1,h2⟩)
  ·exact Or.inl h
  ·rw [mulL_get n b c m k hm hk,mulE_le] at h2
   rcases h2 with h2 | ⟨l,hl,h3,h4⟩
   ·exact Or.inl h2
   ·refine Or.inr ⟨l,hl,?_,h4⟩
    rw [mulL_get n a b i l hi hl,mulE_le]
    exact Or.inr ⟨m,hm,h1,h3⟩
def pw (n : Nat) (l : List Int) : Nat → List Int
 | 0 => l
 | m + 1 => mulL n (pw n l m) l
theorem pw_add (n : Nat) (l : List Int) (a b : Nat) : mulL n (pw n l a) (pw n l b) = pw n l (a + b + 1):=by
 induction b with
 | zero => rfl
 | succ b ih => show mulL n (pw n l a) (mulL n (pw n l b) l) = mulL n (pw n l (a + (b + 1))) l;rw [← mul_assoc',ih];rfl
def Gr (l : List Int) : Prop := ∀ x ∈ l,0 ≤ x ∧ x ≤ 3
theorem gr_getD {l : List Int} (h : Gr l) (j : Nat) : 0 ≤ l.getD j 0 ∧ l.getD j 0 ≤ 3:=by
 rw [List.getD_eq_getElem?_getD]
 by_cases hj : j < l.length
 ·rw [List.getElem?_eq_getElem hj];exact h _ (List.getElem_mem hj)
 ·rw [List.getElem?_eq_none (by omega)];simp
theorem mulE_in (n : Nat) (a b : List Int) (ha : Gr a) (hb : Gr b) (i k : Nat) : 0 ≤ mulE n a b i k ∧ mulE n a b i k ≤ 3:=by
 constructor
 ·have h:=mulE_le n a b i k (-1)
  have : ¬ mulE n a b i k ≤ -1:=by
   rw [h]
   rintro (h | ⟨l,_,h1,_⟩)
   ·omega
   ·have:=(gr_getD ha (i * n + l)).1;omega
  omega
 ·rw [mulE_le];exact Or.inl (Int.le_refl _)
theorem mul_gr (n : Nat) (a b : List Int) (ha : Gr a) (hb : Gr b) : Gr (mulL n a b):=by
 intro x hx
 obtain ⟨j,hj,rfl⟩:=mem_tab.mp hx
 exact mulE_in n a b ha hb _ _
theorem pw_gr (n : Nat) (l : List Int) (h : Gr l) (m : Nat) : Gr (pw n l m):=by
 induction m with
 | zero => exact h
 | succ m ih => exact mul_gr n _ _ ih h
theorem pw_len (n : Nat) (l : List Int) (h : l.length = n * n) (m : Nat) : (pw n l m).length = n * n:=by
 cases m with
 | zero => exact h
 | succ m => exact mulL_length n _ _
theorem pigeon (N : Nat) : ∀ f : Nat → Nat,(∀ i,i ≤ N → f i < N) → ∃ i j,i < j ∧ j ≤ N ∧ f i = f j:=by
 induction N with
 | zero => intro f h;exact absurd (h 0 (Nat.le_refl _)) (by omega)
 | succ N ih =>
  intro f h
  by_cases e : ∃ i,i ≤ N ∧ f i = f (N + 1)
  ·obtain ⟨i,h1,h2⟩:=e
   exact ⟨i,N + 1,by omega,Nat.le_refl _,h2⟩
  ·have ne : ∀ i,i ≤ N → f i ≠ f (N + 1):=fun i hi he => e ⟨i,hi,he⟩
   obtain ⟨i,j,h1,h2,h3⟩:=ih (fun i => if f i > f (N + 1) then f i - 1 else f i) (fun i hi => by
    have a:=h i (by omega)
    have b:=h (N + 1) (Nat.le_refl _)
    have c:=ne i hi
    show (if f i > f (N + 1) then f i - 1 else f i) < N
    by_cases d : f i > f (N + 1)
    ·rw [if_pos d];omega
    ·rw [if_neg d];omega)
   refine ⟨i,j,h1,by omega,?_⟩
   have c1:=ne i (by omega)
   have c2:=ne j h2
   have h3' : (if f i > f (N + 1) then f i - 1 else f i) = (if f j > f (N + 1) then f j - 1 else f j):=h3
   by_cases d1 : f i > f (N + 1) <;> by_cases d2 : f j > f (N + 1)
   ·rw [if_pos d1,if_pos d2] at h3';omega
   ·rw [if_pos d1,if_neg d2] at h3';omega
   ·rw [if_neg d1,if_pos d2] at h3';omega
   ·rw [if_neg d1,if_neg d2] at h3';omega
def code : List Int → Nat
 | [] => 0
 | x :: t => x.toNat + 4 * code t
theorem code_lt (l : List Int) (h : Gr l) : code l < 4 ^ l.length:=by
 induction l with
 | nil => simp [code]
 | cons x t ih =>
  have h1:=h x (by simp)
  have h2:=ih (fun y hy => h y (by simp [hy]))
  rw [List.length_cons,Nat.pow_succ]
  simp only [code]
  omega
theorem code_inj (l : List Int) : ∀ m : List Int,Gr l → Gr m → l.length = m.length → code l = code m → l = m:=by
 induction l with
 | nil => intro m _ _ h _;cases m with
  | nil => rfl
  | cons => simp at h
 | cons x t ih =>
  intro m hl hm h e
  cases m with
  | nil => simp at h
  | cons y u =>
   have h1:=hl x (by simp)
   have h2:=hm y (by simp)
   simp only [code] at e
   have e1 : x = y:=by omega
   have e2 : code t = code u:=by omega
   rw [e1,ih u (fun z hz => hl z (by simp [hz])) (fun z hz => hm z (by simp [hz])) (by simpa using h) e2]
theorem pw_again (n : Nat) (l : List Int) (i d : Nat) (h : pw n l i = pw n l (i + d)) : ∀ m,i ≤ m → ∀ q,pw n l m = pw n l (m + q * d):=by
 have one : ∀ m,i ≤ m → pw n l m = pw n l (m + d):=by
  intro m hm
  obtain ⟨x,rfl⟩:=Nat.le.dest hm
  cases x with
  | zero => exact h
  | succ x =>
   have a:=pw_add n l i x
   have b:=pw_add n l (i + d) x
   rw [← h] at b
   have e : i + d + x + 1 = i + (x + 1) + d:=by omega
   rw [← e,← b,a];rfl
 intro m hm q
 induction q with
 | zero => simp
 | succ q ih =>
  rw [ih,one (m + q * d) (by omega)]
  congr 1
  rw [Nat.succ_mul];omega
theorem some_idem (n : Nat) (l : List Int) (hl : l.length = n * n) (hg : Gr l) : ∃ m,mulL n (pw n l m) (pw n l m) = pw n l m:=by
 obtain ⟨i,j,hij,_,he⟩:=pigeon (4 ^ (n * n)) (fun m => code (pw n l m)) (fun m _ => by
  have:=code_lt (pw n l m) (pw_gr n l hg m)
  rwa [pw_len n l hl m] at this)
 have he2 : pw n l i = pw n l j:=code_inj _ _ (pw_gr n l hg i) (pw_gr n l hg j) (by rw [pw_len n l hl,pw_len n l hl]) he
 obtain ⟨d,rfl⟩ : ∃ d,j = i + (d + 1):=⟨j - i - 1,by omega⟩
 have per:=pw_again n l i (d + 1) he2
 have hM : i ≤ (i + 1) * (d + 1) - 1:=by
  have : i + 1 ≤ (i + 1) * (d + 1):=Nat.le_mul_of_pos_right _ (by omega)
  omega
 have hp : 1 ≤ (i + 1) * (d + 1):=Nat.mul_pos (by omega) (by omega)
 refine ⟨(i + 1) * (d + 1) - 1,?_⟩
 rw [pw_add,per _ hM (i + 1)]
 congr 1
theorem least (P : Nat → Prop) (h : ∃ m,P m) : ∃ m,P m ∧ ∀ j,j < m → ¬ P j:=by
 obtain ⟨m,hm⟩:=h
 induction m using Nat.strongRecOn with
 | _ m ih =>
  by_cases e : ∃ j,j < m ∧ P j
  ·obtain ⟨j,h1,h2⟩:=e
   exact ih j h1 h2
  ·exact ⟨m,hm,fun j h1 h2 => e ⟨j,h1,h2⟩⟩
end Go.Proofs.Ytengegdaiphfeaa.Y
end
section
namespace Go.Proofs.Ytengegdaiphfeaa.Y
open Go.RowKit Go.Proofs.Ytengegdaiphfeaa.X Go.Proofs.YtengegdaiphfeaaW.PrintWords Go.Proofs.YtengegdaiphfeaaW.PrintLast Go.Proofs.YtengegdaiphfeaaW.PrintMore
set_option linter.unusedVariables false
set_option linter.unusedSimpArgs false
theorem Ev_eq {α γ : Type} {o : Option γ} {z : γ} {g : Nat → γ → Option α} {r : α} (h : o = some z) (k : Ev (fun n => g n z) r) : Ev (fun n => o.bind (g n)) r:=Ev.congr (fun n => by rw [h];rfl) k
theorem xor_nat (a b : Nat) (ha : a < 4611686018427387904) (hb : b < 4611686018427387904) : bits .xor .i64 (a : Int) (b : Int) = ((a ^^^ b : Nat) : Int):=by
 have hx : a ^^^ b < 2 ^ 62:=Nat.xor_lt_two_pow (by omega) (by omega)
 have h1 : (BitVec.ofInt 64 (a : Int)).toNat = a:=by
  rw [BitVec.ofInt_natCast,BitVec.toNat_ofNat];exact Nat.mod_eq_of_lt (by omega)
 have h2 : (BitVec.ofInt 64 (b : Int)).toNat = b:=by
  rw [BitVec.ofInt_natCast,BitVec.toNat_ofNat];exact Nat.mod_eq_of_lt (by omega)
 show IntKind.i64.wrap ((BitVec.ofInt 64 (a : Int) ^^^ BitVec.ofInt 64 (b : Int)).toNat : Int) = _
 rw [BitVec.toNat_xor,h1,h2]
 simp [IntKind.wrap,IntKind.bits,IntKind.signed]
 omega
def Bytes (l : List Int) : Prop := ∀ x ∈ l,0 ≤ x ∧ x ≤ 255
theorem bytes_of {l : List Int} (h : ∀ x ∈ l,(Lit.int .u8 x).wf = true) : Bytes l:=by
 intro x hx
 have:=h x hx
 have hmin : IntKind.u8.min = 0:=rfl
 have hmax : IntKind.u8.max = 255:=rfl
 simp only [Lit.wf,Bool.and_eq_true,decide_eq_true_eq] at this
 omega
theorem rd_byte {l : List Int} (h : Bytes l) (i : Int) : ∃ b : Nat,rd l i = (b : Int) ∧ b ≤ 255:=by
 have : 0 ≤ rd l i ∧ rd l i ≤ 255:=by
  unfold rd
  rw [List.getD_eq_getElem?_getD]
  by_cases hj : i.toNat < l.length
  ·rw [List.getElem?_eq_getElem hj];exact h _ (List.getElem_mem hj)
  ·rw [List.getElem?_eq_none (by omega)];simp
 exact ⟨(rd l i).toNat,by omega,by omega⟩
theorem mixed (b c s q : Nat) (hb : b ≤ 255) (hc : c ≤ 255) (hs : s ≤ 1000000) (hq : q ≤ 1000000) :
  wrap64 ((wrap64 ((wrap64 ((wrap64 ((wrap64 (b : Int)) * 131)) + (wrap64 ((wrap64 (c : Int)) * 1117)))) + (wrap64 ((s : Int) * 29)))) + (wrap64 ((wrap64 (q : Int)) * 53))) = ((b * 131 + c * 1117 + s * 29 + q * 53 : Nat) : Int):=by
 rw [w64 (x:=(b : Int)) (by omega) (by omega),w64 (x:=(c : Int)) (by omega) (by omega),w64 (x:=(q : Int)) (by omega) (by omega),w64 (x:=(b : Int) * 131) (by omega) (by omega),w64 (x:=(c : Int) * 1117) (by omega) (by omega),w64 (x:=(s : Int) * 29) (by omega) (by omega),w64 (x:=(q : Int) * 53) (by omega) (by omega),
  w64 (x:=(b : Int) * 131 + (c : Int) * 1117) (by omega) (by omega),w64 (x:=(b : Int) * 131 + (c : Int) * 1117 + (s : Int) * 29) (by omega) (by omega),w64 (x:=(b : Int) * 131 + (c : Int) * 1117 + (s : Int) * 29 + (q : Int) * 53) (by omega) (by omega)]
 omega
theorem second (s : Nat) (hs : s ≤ 1000000) : wrap64 ((wrap64 ((s : Int) * 7)) + 3) = ((s * 7 + 3 : Nat) : Int):=by
 rw [w64 (x:=(s : Int) * 7) (by omega) (by omega),w64 (x:=(s : Int) * 7 + 3) (by omega) (by omega)];omega
theorem at_up (s : Nat) (hs : s ≤ 1000000) : wrap64 ((s : Int) + 1) = ((s + 1 : Nat) : Int):=by rw [w64 (x:=(s : Int) + 1) (by omega) (by omega)];omega
theorem at_down (s : Nat) (hs : s ≤ 1000000) : wrap64 (((s + 1 : Nat) : Int) - 1) = (s : Int):=by rw [w64 (x:=((s + 1 : Nat) : Int) - 1) (by omega) (by omega)];omega
theorem at_64 (m : Nat) (hm : m ≤ 100000000) : wrap64 (Int.tdiv (m : Int) 64) = ((m / 64 : Nat) : Int):=by
 have hmq : m / 64 ≤ 100000000:=Nat.le_trans (Nat.div_le_self _ _) hm
 have : (64 : Int) = ((64 : Nat) : Int):=rfl
 rw [this,tdiv_nat,w64 (x:=((m / 64 : Nat) : Int)) (by omega) (by omega)]
theorem pick_ev (l : List Int) (hl : l.length ≤ 2000) (hb : Bytes l) (s n : Nat) (hs : s ≤ 1000000) (h1 : 1 ≤ n) (hn : n ≤ 1000000) :
  ∃ v : Nat,v < n ∧ Ev (fun k => spec_l13Rd_pick.f k l (s : Int) (n : Int)) ((v : Int),((s + 1 : Nat) : Int)):=by
 have hn0 : ¬ (n : Int) < 1:=by omega
 have hnz : ¬ (n : Int) = 0:=by omega
 cases l with
 | nil =>
  refine ⟨0,by omega,?_⟩
  refine Ev.congr (f:=fun k => spec_l13Rd_pick.j0 k (n : Int) true [] ((s + 1 : Nat) : Int)) (fun k => ?_) ?_
  ·unfold spec_l13Rd_pick.f;rw [if_neg hn0,at_up s hs];rfl
  ·refine Ev.step (f:=fun _ => some ((0 : Int),((s + 1 : Nat) : Int))) (fun k => ?_) (Ev.now _)
   simp only [spec_l13Rd_pick.j0];rw [if_pos trivial]
 | cons x t =>
  obtain ⟨L,hL⟩ : ∃ L,(x :: t).length = L:=⟨_,rfl⟩
  have hL1 : 1 ≤ L:=by rw [← hL];simp
  have hz : (((x :: t).length : Int) == 0) = false:=by rw [hL];simp;omega
  generalize hgl : x :: t = l at hL hl hb hz ⊢
  have start : ∀ r,Ev (fun k => spec_l13Rd_pick.j0 k (n : Int) false l ((s + 1 : Nat) : Int)) r → Ev (fun k => spec_l13Rd_pick.f k l (s : Int) (n : Int)) r:=fun r h => by
   refine Ev.congr (fun k => ?_) h
   unfold spec_l13Rd_pick.f;rw [if_neg hn0,at_up s hs,hz]
  by_cases hlt : s < L
  ·obtain ⟨b,hb1,hb2⟩:=rd_byte hb (s : Int)
   refine ⟨b % n,Nat.mod_lt _ (by omega),start _ ?_⟩
   refine Ev.step (f:=fun _ => some (((b % n : Nat) : Int),((s + 1 : Nat) : Int))) (fun k => ?_) (Ev.now _)
   simp only [spec_l13Rd_pick.j0]
   rw [if_neg (by simp),at_down s hs,hL,if_pos (by omega),if_pos (by omega),if_neg hnz,hb1,w64 (x:=(b : Int)) (by omega) (by omega),tmod_nat]
  ·obtain ⟨b,hb1,hb2⟩:=rd_byte hb ((s % L : Nat) : Int)
   obtain ⟨c,hc1,hc2⟩:=rd_byte hb (((s * 7 + 3) % L : Nat) : Int)
   have hq : s / L ≤ 1000000:=Nat.le_trans (Nat.div_le_self _ _) hs
   obtain ⟨q,hqe⟩ : ∃ q,s / L = q:=⟨_,rfl⟩
   rw [hqe] at hq
   obtain ⟨m,hm⟩ : ∃ m : Nat,b * 131 + c * 1117 + s * 29 + q * 53 = m:=⟨_,rfl⟩
   have hmb : m ≤ 100000000:=by omega
   have hmq : m / 64 ≤ 100000000:=Nat.le_trans (Nat.div_le_self _ _) hmb
   have hL0 : ¬ (L : Int) = 0:=by omega
   have m1 : s % L < L:=Nat.mod_lt _ (by omega)
   have m2 : (s * 7 + 3) % L < L:=Nat.mod_lt _ (by omega)
   have x1 : m < 4611686018427387904:=by omega
   have x2 : m / 64 < 4611686018427387904:=by omega
   have y1 : ¬ (s : Int) < (L : Int):=by omega
   have y2 : ((s % L : Nat) : Int) < (L : Int):=by omega
   have y3 : (((s * 7 + 3) % L : Nat) : Int) < (L : Int):=by omega
   refine ⟨(m ^^^ (m / 64)) % n,Nat.mod_lt _ (by omega),start _ ?_⟩
   refine Ev.step (f:=fun _ => some ((((m ^^^ (m / 64)) % n : Nat) : Int),((s + 1 : Nat) : Int))) (fun k => ?_) (Ev.now _)
   simp only [spec_l13Rd_pick.j0]
   rw [if_neg (by simp),at_down s hs,hL,if_neg y1,if_neg hL0,tmod_nat,if_pos (Int.natCast_nonneg _),if_pos y2,second s hs,tmod_nat,if_pos (Int.natCast_nonneg _),if_pos y3,if_neg hnz,hb1,hc1,tdiv_nat,hqe,mixed b c s q hb2 hc2 hs hq,hm,at_64 m hmb,xor_nat m (m / 64) x1 x2,tmod_nat]
theorem num_ev (l : List Int) (hl : l.length ≤ 2000) (hb : Bytes l) (s : Nat) (hs : s ≤ 1000000) (z : List Int) (h1 : 1 ≤ z.length) (hn : z.length ≤ 1000000) :
  ∃ x ∈ z,Ev (fun k => spec_l13Rd_num.f k l (s : Int) z) (x,((s + 1 : Nat) : Int)):=by
 obtain ⟨v,hv,h⟩:=pick_ev l hl hb s z.length hs h1 hn
 refine ⟨z[v],List.getElem_mem hv,?_⟩
 unfold spec_l13Rd_num.f
 refine Ev.bind h ?_
 refine ev_some (fun k => ?_)
 show (if (0 : Int) ≤ (v : Int) then (if (v : Int) < (z.length : Int) then some (rd z (v : Int),((s + 1 : Nat) : Int)) else none) else none) = _
 rw [if_pos (by omega),if_pos (by omega),rd_nat,List.getD_eq_getElem?_getD,List.getElem?_eq_getElem hv];rfl
theorem drawG_ev (l : List Int) (hl : l.length ≤ 2000) (hb : Bytes l) (n : Nat) (h1 : 1 ≤ n) (h4 : n ≤ 4) (s : Nat) (hs : s ≤ 900000) :
  ∃ t : List Int,t.length = n * n ∧ Gr t ∧ Ev (fun k => spec_l6Draw.f k l (s : Int) (n : Int)) ((n : Int),t,((s + n * n : Nat) : Int)):=by
 have hsq:=sq_le n h4
 have go : ∀ d (pre : List Int) (s : Nat),pre.length + d = n * n → s ≤ 900000 + pre.length → ∃ t : List Int,t.length = d ∧ Gr t ∧ Ev (fun k => spec_l6Draw.l0 k ((n * n : Nat) : Int) (pre.length : Int) l (s : Int) n pre) ((n : Int),pre ++ t,((s + d : Nat) : Int)):=by
  intro d
  induction d with
  | zero =>
   intro pre s hp hs
   refine ⟨[],rfl,fun x hx => by simp at hx,?_⟩
   refine Ev.step (f:=fun _ => some ((n : Int),pre,(s : Int))) (fun k => ?_) ((Ev.now _).is (by simp))
   simp only [spec_l6Draw.l0];rw [if_neg (by omega)]
  | succ d ih =>
   intro pre s hp hs
   obtain ⟨x,hx,hxe⟩:=num_ev l hl hb s (by omega) [3,0,1,3,2,1,0] (by simp) (by simp)
   obtain ⟨t,ht1,ht2,ht3⟩:=ih (pre ++ [x]) (s + 1) (by simp;omega) (by simp;omega)
   refine ⟨x :: t,by simp [ht1],?_,?_⟩
   ·intro y hy
    simp only [List.mem_cons] at hy
    rcases hy with rfl|hy
    ·simp at hx;omega
    ·exact ht2 y hy
   ·refine Ev.step (f:=?f1) (fun k => ?h1) ?k1
    case h1 => simp only [spec_l6Draw.l0];rw [if_pos (by omega)] <;> exact rfl
    refine Ev.bind hxe ?_
    refine Ev_t (by omega) ?_
    have e : wrap64 ((pre.length : Int) + 1) = ((pre ++ [x]).length : Int):=by rw [w64 (x:=(pre.length : Int) + 1) (by omega) (by omega)];simp
    rw [e]
    refine ht3.is ?_
    simp;omega
 have e0 : wrap64 ((n : Int) * (n : Int)) = ((n * n : Nat) : Int):=by
  have : (n : Int) * (n : Int) = ((n * n : Nat) : Int):=by simp
  rw [this,w64 (x:=((n * n : Nat) : Int)) (by omega) (by omega)]
 obtain ⟨t,h1,h2,h3⟩:=go (n * n) [] s (by simp) (by omega)
 refine ⟨t,h1,h2,Ev.congr (fun k => ?_) h3⟩
 unfold spec_l6Draw.f;rw [e0];rfl
theorem bad_ev (l : List Int) (hl : l.length ≤ 2000) (hb : Bytes l) (s : Nat) (hs : s ≤ 900000) (n : Int) (c : List Int) (hc1 : 1 ≤ c.length) (hc : c.length ≤ 16) :
  ∃ (n' : Int) (c' : List Int) (s' : Nat),c'.length ≤ 16 ∧ 1 ≤ c'.length ∧ s' ≤ s + 2 ∧ Ev (fun k => spec_l6Bad.f k l (s : Int) n c) (n',c',(s' : Int)):=by
 obtain ⟨v,hv,h⟩:=pick_ev l hl hb s 24 (by omega) (by omega) (by omega)
 by_cases e0 : v = 0
 ·subst e0
  obtain ⟨x,hx,hxe⟩:=num_ev l hl hb (s + 1) (by omega) [4,(-1),1000000] (by simp) (by simp)
  refine ⟨n,[x] ++ c.drop 1,s + 1 + 1,by simp;omega,by simp,by omega,?_⟩
  unfold spec_l6Bad.f
  refine Ev.bind h (Ev_t rfl (Ev.bind hxe ?_))
  refine ev_some (fun k => ?_)
  rw [Option.bind_some,if_pos (by omega),Option.bind_some,if_pos (by simp;omega)]
 ·by_cases e1 : v = 1
  ·subst e1
   obtain ⟨x,hx,hxe⟩:=num_ev l hl hb (s + 1) (by omega) [0,5,1] (by simp) (by simp)
   refine ⟨x,c,s + 1 + 1,hc,hc1,by omega,?_⟩
   unfold spec_l6Bad.f
   refine Ev.bind h (Ev_f (by simp) (Ev_t rfl (Ev.bind hxe (Ev.now _))))
  ·refine ⟨n,c,s + 1,hc,hc1,by omega,?_⟩
   unfold spec_l6Bad.f
   refine Ev.bind h (Ev_f ?_ (Ev_f ?_ (Ev.now _)))
   ·show ¬ (v : Int) = 0;omega
   ·show ¬ (v : Int) = 1;omega
theorem some_ev (l : List Int) (hl : l.length ≤ 2000) (hb : Bytes l) (s : Nat) (hs : s ≤ 800000) :
  ∃ (n' : Int) (c' : List Int) (s' : Nat),c'.length ≤ 16 ∧ s' ≤ s + 20 ∧ Ev (fun k => spec_l6Some.f k l (s : Int)) (n',c',(s' : Int)):=by
 obtain ⟨v,hv,h⟩:=pick_ev l hl hb s 4 (by omega) (by omega) (by omega)
 have e : wrap64 (1 + (v : Int)) = ((v + 1 : Nat) : Int):=by rw [w64 (x:=1 + (v : Int)) (by omega) (by omega)];omega
 have hq:=sq_le (v + 1) (by omega)
 have hq1 : 1 ≤ (v + 1) * (v + 1):=Nat.mul_pos (by omega) (by omega)
 obtain ⟨t,ht1,ht2,ht3⟩:=drawG_ev l hl hb (v + 1) (by omega) (by omega) (s + 1) (by omega)
 obtain ⟨n',c',s',g1,g2,g3,g4⟩:=bad_ev l hl hb (s + 1 + (v + 1) * (v + 1)) (by omega) ((v + 1 : Nat) : Int) t (by omega) (by omega)
 refine ⟨n',c',s',g1,by omega,?_⟩
 unfold spec_l6Some.f
 refine Ev.bind h ?_
 show Ev (fun k => (spec_l6Draw.f k l ((s + 1 : Nat) : Int) (wrap64 (1 + (v : Int)))).bind _) _
 rw [e]
 exact Ev.bind ht3 (Ev.bind g4 (Ev.now _))
theorem open_eq (l : List Int) : ∃ l',spec_l13Open.f l = some (l',0) ∧ l'.length ≤ 2000 ∧ (Bytes l → Bytes l'):=by
 unfold spec_l13Open.f
 by_cases h : (l.length : Int) > 2000
 ·refine ⟨l.take 2000,by rw [if_pos h,if_pos (by omega)],by simp;omega,fun hb x hx => hb x (List.mem_of_mem_take hx)⟩
 ·exact ⟨l,by rw [if_neg h],by omega,id⟩
theorem drawIdempotentOf_ev (l : List Int) (hb : Bytes l) : ∃ (n : Int) (c : List Int),c.length ≤ 16 ∧ Ev (fun k => spec_DrawIdempotentOf.f k l) (n,c):=by
 obtain ⟨l',e,h1,h2⟩:=open_eq l
 obtain ⟨n,c,s,g1,_,g2⟩:=some_ev l' h1 (h2 hb) 0 (by omega)
 refine ⟨n,c,g1,?_⟩
 unfold spec_DrawIdempotentOf.f
 exact Ev_eq e (Ev.bind g2 (Ev.now _))
end Go.Proofs.Ytengegdaiphfeaa.Y
end
section
namespace Go.Proofs.Ytengegdaiphfeaa.Y
open Go.RowKit Go.Proofs.Ytengegdaiphfeaa.X Go.Proofs.YtengegdaiphfeaaW.PrintWords Go.Proofs.YtengegdaiphfeaaW.PrintLast Go.Proofs.YtengegdaiphfeaaW.PrintMore
set_option linter.unusedVariables false
set_option linter.unusedSimpArgs false
inductive Reads : List UInt8 → List S86 → List UInt8 → Prop
 | done : Reads [] [] []
 | letter (c : UInt8) (e : List UInt8) (ps : List S86) (r : List UInt8) : (c = 97 ∨ c = 98) → Reads e ps r → Reads (c :: e) ((⟨⟨#[c]⟩,[]⟩ : S86) :: ps) r
 | again (e : List UInt8) (w : List S86) (e2 : List UInt8) (ps : List S86) (r : List UInt8) : Reads e w (41 :: 35 :: e2) → w ≠ [] → Reads e2 ps r → Reads (40 :: e) ((⟨⟨#[]⟩,w⟩ : S86) :: ps) r
 | other (c : UInt8) (e : List UInt8) : c ≠ 97 → c ≠ 98 → c ≠ 40 → Reads (c :: e) [] (c :: e)
 | bad (e : List UInt8) (w : List S86) (r1 : List UInt8) : Reads e w r1 → (w = [] ∨ ∀ e2,r1 ≠ 41 :: 35 :: e2) → Reads (40 :: e) [] (40 :: e)
theorem Reads.suffix {e ps r} (h : Reads e ps r) : ∃ v,e = v ++ r:=by
 induction h with
 | done => exact ⟨[],rfl⟩
 | letter c e ps r _ _ ih => obtain ⟨v,rfl⟩:=ih;exact ⟨c :: v,rfl⟩
 | again e w e2 ps r _ _ _ ih1 ih2 =>
  obtain ⟨v1,rfl⟩:=ih1;obtain ⟨v2,rfl⟩:=ih2
  exact ⟨40 :: (v1 ++ 41 :: 35 :: v2),by simp⟩
 | other c e => exact ⟨[],rfl⟩
 | bad e w r1 => exact ⟨[],rfl⟩
theorem Reads.none {e r} (h : Reads e [] r) : r = e:=by cases h <;> rfl
theorem Reads.some {e ps r} (h : Reads e ps r) (hp : ps ≠ []) : r.length < e.length:=by
 cases h with
 | done => exact absurd rfl hp
 | letter c e ps r _ h => obtain ⟨v,rfl⟩:=h.suffix;simp;omega
 | again e w e2 ps r h1 _ h2 => obtain ⟨v1,rfl⟩:=h1.suffix;obtain ⟨v2,rfl⟩:=h2.suffix;simp;omega
 | other c e => exact absurd rfl hp
 | bad e w r1 => exact absurd rfl hp
theorem Reads.le {e ps r} (h : Reads e ps r) : r.length ≤ e.length:=by obtain ⟨v,rfl⟩:=h.suffix;simp
theorem Reads.parts {e ps r} (h : Reads e ps r) : ps.length + r.length ≤ e.length:=by
 induction h with
 | done => simp
 | letter c e ps r _ _ ih => simp;omega
 | again e w e2 ps r h1 _ _ ih1 ih2 => have:=h1.le;simp at *;omega
 | other c e => simp
 | bad e w r1 => simp
theorem reads_all (n : Nat) : ∀ e : List UInt8,e.length ≤ n → ∃ ps r,Reads e ps r:=by
 induction n with
 | zero => intro e h;cases e with
  | nil => exact ⟨[],[],.done⟩
  | cons c e => simp at h
 | succ n ih =>
  intro e h
  cases e with
  | nil => exact ⟨[],[],.done⟩
  | cons c e =>
   simp at h
   by_cases h1 : c = 97 ∨ c = 98
   ·obtain ⟨ps,r,hr⟩:=ih e h;exact ⟨_,_,.letter c e ps r h1 hr⟩
   ·by_cases h2 : c = 40
    ·subst h2
     obtain ⟨w,r1,hw⟩:=ih e h
     by_cases h3 : w = [] ∨ ∀ e2,r1 ≠ 41 :: 35 :: e2
     ·exact ⟨_,_,.bad e w r1 hw h3⟩
     ·obtain ⟨h4,h5⟩:=not_or.mp h3
      obtain ⟨e2,h6⟩:=Classical.not_forall.mp h5
      have h6:=Classical.not_not.mp h6
      subst h6
      have:=hw.le
      obtain ⟨ps,r,hr⟩:=ih e2 (by simp at this;omega)
      exact ⟨_,_,.again e w e2 ps r hw h4 hr⟩
    ·exact ⟨_,_,.other c e (fun h => h1 (.inl h)) (fun h => h1 (.inr h)) h2⟩
theorem bt_suffix {s : ByteArray} {u : List UInt8} {c : UInt8} {e : List UInt8} (h : L s = u ++ c :: e) : bt s u.length = (c.toNat : Int):=by
 rw [bt_L,h];simp [List.getD_eq_getElem?_getD]
theorem size_suffix {s : ByteArray} {u e : List UInt8} (h : L s = u ++ e) : s.size = u.length + e.length:=by rw [L_size,h];simp
theorem u8_ne {c d : UInt8} (h : c ≠ d) : ¬ ((c.toNat : Int) = (d.toNat : Int)):=by
 intro e;exact h (UInt8.toNat.inj (by exact_mod_cast e))
def endv (s : ByteArray) (r : List UInt8) (b : Int) : Int :=
 if r = [] ∨ r.head? = some 41 then (if (s.size : Int) - r.length = b then -1 else (s.size : Int) - r.length) else -1
theorem end_stop (s : ByteArray) (u : List UInt8) (b : Int) (x : Bool) (j : Int) (hj : j = u.length) (hx : x = false) :
  Ev (fun k => spec_l7End.j1 k s j b x) (if j = b then -1 else j):=by
 subst hx
 refine Ev.step (f:=fun _ => some (if j = b then -1 else j)) (fun k => ?_) (Ev.now _)
 simp only [spec_l7End.j1]
 rw [if_neg (by simp)]
 split <;> rfl
set_option maxHeartbeats 1000000 in
theorem end_reads {e ps r} (h : Reads e ps r) : ∀ (s : ByteArray) (u : List UInt8) (b : Int),L s = u ++ e → s.size ≤ 1000000 → 0 ≤ b → b ≤ u.length →
  Ev (fun k => spec_l7End.l0 k s u.length b) (endv s r b):=by
 induction h with
 | done =>
  intro s u b hs hn hb0 hb
  have hz:=size_suffix hs
  refine Ev.step (f:=fun k => spec_l7End.j1 k s u.length b false) (fun k => ?_) ?_
  ·simp only [spec_l7End.l0];rw [if_neg (by simp at hz;omega)]
  ·refine (end_stop s u b false _ rfl rfl).is ?_
   simp [endv];simp at hz;rw [hz]
 | letter c e ps r hc h ih =>
  intro s u b hs hn hb0 hb
  have hz:=size_suffix hs
  have hbt:=bt_suffix hs
  simp at hz
  have h41 : ((bt s u.length) != 41) = true:=by rw [hbt];rcases hc with rfl|rfl <;> decide
  refine Ev.step (f:=fun k => spec_l7End.j1 k s u.length b true) (fun k => ?_) ?_
  ·simp only [spec_l7End.l0];rw [if_pos (by omega),if_pos (by omega),h41]
  refine Ev.step (f:=fun k => spec_l7End.j2 k s u.length b true) (fun k => ?_) ?_
  ·simp only [spec_l7End.j1,if_true];rw [if_pos (by omega),if_pos (by omega)]
   rcases hc with rfl|rfl
   ·rw [if_pos (by rw [hbt];rfl)]
   ·rw [if_neg (by rw [hbt];decide),show ((bt s u.length) == 98) = true by rw [hbt];rfl]
  refine Ev.step (f:=fun k => spec_l7End.l0 k s (u ++ [c]).length b) (fun k => ?_) ?_
  ·simp only [spec_l7End.j2,if_true];rw [w64 (by omega) (by omega)];simp
  ·exact ih s (u ++ [c]) b (by simp [hs]) hn hb0 (by simp;omega)
 | again e w e2 ps r h1 hw h2 ih1 ih2 =>
  intro s u b hs hn hb0 hb
  have hz:=size_suffix hs
  have hbt:=bt_suffix hs
  simp at hz
  obtain ⟨v,hv⟩:=h1.suffix
  have hlt:=h1.some hw
  have hs1 : L s = (u ++ [40]) ++ e:=by simp [hs]
  have hs2 : L s = (u ++ 40 :: v) ++ 41 :: (35 :: e2):=by rw [hs,hv];simp
  have hs3 : L s = (u ++ 40 :: v ++ [41]) ++ 35 :: e2:=by rw [hs,hv];simp
  have hs4 : L s = (u ++ 40 :: v ++ [41,35]) ++ e2:=by rw [hs,hv];simp
  have b2:=bt_suffix hs2
  have b3:=bt_suffix hs3
  have z2:=size_suffix hs2
  simp at z2 hlt
  have i1:=ih1 s (u ++ [40]) ((u ++ [40]).length) hs1 hn (by omega) (by omega)
  have he : endv s (41 :: 35 :: e2) ((u ++ [40]).length) = ((u ++ 40 :: v).length : Int):=by
   have hvl : 0 < v.length:=by rw [hv] at hlt;simp at hlt;omega
   unfold endv;rw [if_pos (by simp),if_neg (by simp;omega)];simp;omega
  rw [he] at i1
  have h41 : ((bt s u.length) != 41) = true:=by rw [hbt];rfl
  refine Ev.step (f:=fun k => spec_l7End.j1 k s u.length b true) (fun k => ?_) ?_
  ·simp only [spec_l7End.l0];rw [if_pos (by omega),if_pos (by omega),h41]
  refine Ev.step (f:=fun k => spec_l7End.j2 k s u.length b false) (fun k => ?_) ?_
  ·simp only [spec_l7End.j1,if_true];rw [if_pos (by omega),if_pos (by omega),if_neg (by rw [hbt];decide),show ((bt s u.length) == 98) = false by rw [hbt];rfl]
  have hw1 : wrap64 ((u.length : Int) + 1) = ((u ++ [40]).length : Int):=by rw [w64 (by omega) (by omega)];simp
  refine Ev.step (f:=?f1) (fun k => ?h1) ?k1
  case h1 =>
   simp only [spec_l7End.j2]
   rw [if_neg (by simp),if_pos (by omega),if_pos (by omega),if_pos (by rw [hbt];rfl),hw1] <;> exact rfl
  refine Ev.bind (a:=((u ++ 40 :: v).length : Int)) (Ev.step (fun k => by simp only [spec_l7End.f]) i1) ?_
  simp only [List.length_append,List.length_cons]
  have i2:=ih2 s (u ++ 40 :: v ++ [41,35]) b hs4 hn hb0 (by simp;omega)
  refine Ev.congr (fun k => ?_) i2
  have e1 : wrap64 (((u.length + (v.length + 1) : Nat) : Int) + 1) = (((u ++ 40 :: v ++ [41]).length : Nat) : Int):=by rw [w64 (by omega) (by omega)];simp;omega
  have e2 : wrap64 (((u.length + (v.length + 1) : Nat) : Int) + 2) = (((u ++ 40 :: v ++ [41,35]).length : Nat) : Int):=by rw [w64 (by omega) (by omega)];simp;omega
  rw [e1,e2]
  simp only [List.length_append,List.length_cons,List.length_nil] at b2 b3 ⊢
  rw [if_neg (by omega),if_neg (by omega),if_pos (by omega),if_pos (by omega),if_pos (by rw [b2] <;> rfl),if_pos (by omega),if_pos (by omega),if_pos (by rw [b3] <;> rfl)]
 | other c e c1 c2 c3 =>
  intro s u b hs hn hb0 hb
  have hz:=size_suffix hs
  have hbt:=bt_suffix hs
  simp at hz
  by_cases h41 : c = 41
  ·subst h41
   refine Ev.step (f:=fun k => spec_l7End.j1 k s u.length b false) (fun k => ?_) ?_
   ·simp only [spec_l7End.l0];rw [if_pos (by omega),if_pos (by omega),show ((bt s u.length) != 41) = false by rw [hbt];rfl]
   ·refine (end_stop s u b false _ rfl rfl).is ?_
    have h2 : (s.size : Int) - ((41 :: e : List UInt8).length : Int) = u.length:=by simp only [List.length_cons];omega
    unfold endv;rw [if_pos (c:=(41 :: e : List UInt8) = [] ∨ (41 :: e : List UInt8).head? = some 41) (.inr rfl),h2]
  ·refine Ev.step (f:=fun k => spec_l7End.j1 k s u.length b true) (fun k => ?_) ?_
   ·simp only [spec_l7End.l0];rw [if_pos (by omega),if_pos (by omega),show ((bt s u.length) != 41) = true by rw [hbt];simpa using u8_ne h41]
   refine Ev.step (f:=fun k => spec_l7End.j2 k s u.length b false) (fun k => ?_) ?_
   ·simp only [spec_l7End.j1,if_true];rw [if_pos (by omega),if_pos (by omega),if_neg (by rw [hbt];exact u8_ne c1),show ((bt s u.length) == 98) = false by rw [hbt];simpa using u8_ne c2]
   refine Ev.step (f:=fun _ => some (-1)) (fun k => ?_) ((Ev.now _).is ?_)
   ·simp only [spec_l7End.j2];rw [if_neg (by simp),if_pos (by omega),if_pos (by omega),if_neg (by rw [hbt];exact u8_ne c3)]
   ·unfold endv;rw [if_neg (by simp [h41])]
 | bad e w r1 h1 hw ih =>
  intro s u b hs hn hb0 hb
  have hz:=size_suffix hs
  have hbt:=bt_suffix hs
  simp at hz
  obtain ⟨v,hv⟩:=h1.suffix
  have hs1 : L s = (u ++ [40]) ++ e:=by simp [hs]
  have hs2 : L s = (u ++ 40 :: v) ++ r1:=by rw [hs,hv];simp
  have z2:=size_suffix hs2
  simp at z2
  have i1:=ih s (u ++ [40]) ((u ++ [40]).length) hs1 hn (by omega) (by omega)
  have h41 : ((bt s u.length) != 41) = true:=by rw [hbt];rfl
  refine Ev.step (f:=fun k => spec_l7End.j1 k s u.length b true) (fun k => ?_) ?_
  ·simp only [spec_l7End.l0];rw [if_pos (by omega),if_pos (by omega),h41]
  refine Ev.step (f:=fun k => spec_l7End.j2 k s u.length b false) (fun k => ?_) ?_
  ·simp only [spec_l7End.j1,if_true];rw [if_pos (by omega),if_pos (by omega),if_neg (by rw [hbt];decide),show ((bt s u.length) == 98) = false by rw [hbt];rfl]
  have hw1 : wrap64 ((u.length : Int) + 1) = ((u ++ [40]).length : Int):=by rw [w64 (by omega) (by omega)];simp
  have hend : endv s (40 :: e) b = -1:=by unfold endv;rw [if_neg (by simp)]
  rw [hend]
  refine Ev.step (f:=?f2) (fun k => ?h2) ?k2
  case h2 =>
   simp only [spec_l7End.j2]
   rw [if_neg (by simp),if_pos (by omega),if_pos (by omega),if_pos (by rw [hbt];rfl),hw1] <;> exact rfl
  refine Ev.bind (a:=endv s r1 ((u ++ [40]).length)) (Ev.step (fun k => by simp only [spec_l7End.f]) i1) ?_
  refine Ev.congr (f:=fun _ => some (-1)) (fun k => ?_) (Ev.now _)
  unfold endv
  by_cases hr : r1 = [] ∨ r1.head? = some 41
  ·rw [if_pos hr]
   by_cases hb1 : (s.size : Int) - r1.length = ((u ++ [40]).length : Int)
   ·rw [if_pos hb1,if_pos (by omega)]
   ·rw [if_neg hb1,if_neg (by omega)]
    have e1 : wrap64 ((s.size : Int) - r1.length + 1) = (s.size : Int) - r1.length + 1:=w64 (by omega) (by omega)
    rw [e1]
    rcases hr with rfl|hr
    ·rw [if_pos (by simp;omega)]
    ·cases r1 with
     | nil => simp at hr
     | cons c r2 =>
      simp at hr;subst hr
      cases r2 with
      | nil => rw [if_pos (by simp)]
      | cons c2 r3 =>
       have hs3 : L s = (u ++ 40 :: v ++ [41]) ++ c2 :: r3:=by rw [hs2];simp
       have b2:=bt_suffix hs2
       have b3:=bt_suffix hs3
       simp at z2 b2 b3
       have hj : (s.size : Int) - ((41 :: c2 :: r3 : List UInt8).length : Int) = (u.length : Int) + (v.length + 1):=by simp;omega
       have hwn : w ≠ []:=by
        rintro rfl
        have:=h1.none
        apply hb1
        have hl : e.length = r3.length + 2:=by rw [← this];simp
        simp;omega
       have hc : c2 ≠ 35:=by
        rintro rfl
        rcases hw with h|h
        ·exact hwn h
        ·exact h r3 rfl
       rw [hj,if_neg (by omega),if_pos (by omega),if_pos (by omega),if_pos (by rw [b2] <;> rfl),if_pos (by omega),if_pos (by omega),if_neg (by rw [show (u.length : Int) + (v.length + 1) + 1 = u.length + (v.length + 1 + 1) by omega,b3];exact u8_ne hc)]
  ·rw [if_neg hr,if_pos (by omega)]
end Go.Proofs.Ytengegdaiphfeaa.Y
end
section
namespace Go.Proofs.Ytengegdaiphfeaa.Y
open Go.RowKit Go.Proofs.Ytengegdaiphfeaa.X Go.Proofs.YtengegdaiphfeaaW.PrintWords Go.Proofs.YtengegdaiphfeaaW.PrintLast Go.Proofs.YtengegdaiphfeaaW.PrintMore
set_option linter.unusedVariables false
set_option linter.unusedSimpArgs false
theorem rd_at (pre : List S86) (p : S86) (ps : List S86) : rd_T86 (pre ++ p :: ps) (pre.length : Int) = p:=by
 simp [rd_T86,List.getD_eq_getElem?_getD]
theorem next_letter (x : ByteArray) (c : UInt8) (e : List UInt8) (hx : L x = c :: e) (hc : c = 97 ∨ c = 98) : Ev (fun k => spec_l7Next.f k x) (⟨#[c]⟩,false,⟨e.toArray⟩):=by
 have hz : x.size = e.length + 1:=by rw [L_size,hx];simp
 have hbt : bt x 0 = (c.toNat : Int):=by rw [bt_L,hx];simp
 have h0 : x.extract 0 1 = ⟨#[c]⟩:=L_inj (by rw [L_extract,hx];simp [L])
 have h1 : x.extract 1 x.size = ⟨e.toArray⟩:=L_inj (by rw [L_extract,hx,L_mk,L_size,hx];simp)
 refine Ev.congr (f:=fun _ => some (⟨#[c]⟩,false,⟨e.toArray⟩)) (fun k => ?_) (Ev.now _)
 unfold spec_l7Next.f
 rw [if_pos (by omega),if_neg (by rw [hbt];rcases hc with rfl|rfl <;> decide),if_pos (by omega),if_pos (by omega),h0,h1]
theorem next_again (x : ByteArray) (e v e2 : List UInt8) (w : List S86) (hx : L x = 40 :: e) (hv : e = v ++ 41 :: 35 :: e2) (h : Reads e w (41 :: 35 :: e2)) (hw : w ≠ []) (hn : x.size ≤ 1000000) :
  Ev (fun k => spec_l7Next.f k x) (⟨v.toArray⟩,true,⟨e2.toArray⟩):=by
 have hz : x.size = e.length + 1:=by rw [L_size,hx];simp
 have hel : e.length = v.length + 2 + e2.length:=by rw [hv];simp;omega
 have hbt : bt x 0 = 40:=by rw [bt_L,hx];rfl
 have hlt:=h.some hw
 simp only [List.length_cons] at hlt
 have h1:=end_reads h x [40] 1 (by simp [hx]) hn (by omega) (by simp)
 have he : endv x (41 :: 35 :: e2) 1 = ((v.length + 1 : Nat) : Int):=by
  unfold endv;rw [if_pos (.inr rfl),if_neg (by simp only [List.length_cons];omega)];simp only [List.length_cons];omega
 rw [he] at h1
 refine Ev.congr (f:=?f1) (fun k => ?h1) ?k1
 case h1 => unfold spec_l7Next.f;rw [if_pos (by omega),if_pos hbt] <;> exact rfl
 refine Ev.bind (Ev.step (fun k => by simp only [spec_l7End.f];rfl) h1) ?_
 have e1 : x.extract 1 (v.length + 1) = ⟨v.toArray⟩:=L_inj (by rw [L_extract,hx,L_mk,hv];simp)
 have e2' : x.extract (v.length + 3) x.size = ⟨e2.toArray⟩:=L_inj (by rw [L_extract,hx,L_mk e2,List.take_of_length_le (by rw [List.length_cons,hz];exact Nat.le_refl _),hv,show (40 :: (v ++ 41 :: 35 :: e2) : List UInt8) = (40 :: v ++ [41,35]) ++ e2 by simp,List.drop_left' (by simp)])
 refine Ev.congr (f:=fun _ => some (⟨v.toArray⟩,true,⟨e2.toArray⟩)) (fun k => ?_) (Ev.now _)
 rw [w64 (by omega) (by omega),if_pos (by omega),if_pos (by omega),if_pos (by omega),if_pos (by omega)]
 rw [show (((v.length + 1 : Nat) : Int) + 2).toNat = v.length + 3 by omega,Int.toNat_natCast,e1,e2']
theorem reads_cut {e w r} (h : Reads e w r) : (r = [] ∨ r.head? = some 41) → ∀ v,e = v ++ r → ∀ r',(r' = [] ∨ r'.head? = some 41) → Reads (v ++ r') w r':=by
 have stop : ∀ r' : List UInt8,(r' = [] ∨ r'.head? = some 41) → Reads r' [] r':=by
  intro r' h
  rcases h with rfl|h
  ·exact .done
  ·cases r' with
   | nil => simp at h
   | cons c t => simp at h;subst h;exact .other 41 t (by decide) (by decide) (by decide)
 have self : ∀ (e v : List UInt8),e = v ++ e → v = []:=by
  intro e v h
  have h3:=congrArg List.length h
  simp at h3
  exact h3
 induction h with
 | done => intro _ v hv r' hr';rw [self _ _ hv];exact stop r' hr'
 | other c e => intro _ v hv r' hr';rw [self _ _ hv];exact stop r' hr'
 | bad e w r1 => intro hr v hv r' hr';simp at hr
 | letter c e ps r hc h ih =>
  intro hr v hv r' hr'
  cases v with
  | nil =>
   have h3:=congrArg List.length hv
   have:=h.le
   simp at h3
   omega
  | cons d v =>
   simp at hv
   obtain ⟨rfl,hv⟩:=hv
   exact .letter c (v ++ r') ps r' hc (ih hr v hv r' hr')
 | again e w e2 ps r h1 hw h2 ih1 ih2 =>
  intro hr v hv r' hr'
  obtain ⟨t1,ht1⟩:=h1.suffix
  obtain ⟨t2,ht2⟩:=h2.suffix
  have hvv : v = 40 :: (t1 ++ 41 :: 35 :: t2):=by
   have : 40 :: (t1 ++ 41 :: 35 :: t2) ++ r = v ++ r:=by rw [← hv,ht1,ht2];simp
   exact (List.append_cancel_right this).symm
  subst hvv
  have a:=ih1 (.inr rfl) t1 ht1 (41 :: 35 :: (t2 ++ r')) (.inr rfl)
  have b:=ih2 hr t2 ht2 r' hr'
  simpa using Reads.again (t1 ++ 41 :: 35 :: (t2 ++ r')) w (t2 ++ r') ps r' a hw b
theorem reads_inner {e t1 e2 : List UInt8} {w} (h : Reads e w (41 :: 35 :: e2)) (hv : e = t1 ++ 41 :: 35 :: e2) : Reads t1 w []:=by
 simpa using reads_cut h (.inr rfl) t1 hv [] (.inl rfl)
end Go.Proofs.Ytengegdaiphfeaa.Y
end
section
namespace Go.Proofs.Ytengegdaiphfeaa.Y
open Go.RowKit Go.Proofs.Ytengegdaiphfeaa.X Go.Proofs.YtengegdaiphfeaaW.PrintWords Go.Proofs.YtengegdaiphfeaaW.PrintLast Go.Proofs.YtengegdaiphfeaaW.PrintMore
set_option linter.unusedVariables false
set_option linter.unusedSimpArgs false
theorem prefix_eval (y : ByteArray) : strings_HasPrefix.f y ⟨#[41,35]⟩ = some ((L y).take 2 == [41,35]):=by
 have h2 : (⟨#[41,35]⟩ : ByteArray).size = 2:=rfl
 have hl : (⟨#[41,35]⟩ : ByteArray).toList = [41,35]:=by rw [toList_L];rfl
 unfold strings_HasPrefix.f stringslite_HasPrefix.f
 rw [h2,hl,toList_L,L_extract,L_size]
 cases h : L y with
 | nil => simp
 | cons a t =>
  cases t with
  | nil => simp
  | cons b t =>
   simp
   rw [if_pos (by omega),if_pos (by omega)]
theorem prefix_no {l : List UInt8} (h : ∀ e2,l ≠ 41 :: 35 :: e2) : (l.take 2 == [41,35]) = false:=by
 cases l with
 | nil => rfl
 | cons a t =>
  cases t with
  | nil => simp
  | cons b t =>
   simp
   rintro rfl rfl
   exact h t rfl
theorem parts_reads {e ps r} (h : Reads e ps r) : ∀ (x : ByteArray) (out : List S86),L x = e → out.length + x.size ≤ 1000000 →
  Ev (fun k => impl_readParts.l0 k x out) (out ++ ps,⟨r.toArray⟩):=by
 induction h with
 | done =>
  intro x out hx hn
  refine Ev.step (f:=fun _ => some (out,x)) (fun k => ?_) ((Ev.now _).is ?_)
  ·simp only [impl_readParts.l0];rw [if_pos (by rw [toList_L,hx])]
  ·simp;exact L_inj (by rw [hx];rfl)
 | letter c e ps r hc h ih =>
  intro x out hx hn
  have hz : x.size = e.length + 1:=by rw [L_size,hx];simp
  have hbt : bt x 0 = (c.toNat : Int):=by rw [bt_L,hx];simp
  have h1 : L (x.extract 1 x.size) = e:=by rw [L_extract,hx,L_size,hx];simp
  have h0 : x.extract 0 1 = ⟨#[c]⟩:=L_inj (by rw [L_extract,hx];simp [L])
  refine Ev.step (f:=fun k => impl_readParts.j1 k x out (bt x 0) true) (fun k => ?_) ?_
  ·simp only [impl_readParts.l0];rw [if_neg (by rw [toList_L,hx];simp),if_pos (by omega)]
   rcases hc with rfl|rfl
   ·rw [if_pos (by rw [hbt];rfl),show ((bt x 0) == 97) = true by rw [hbt];rfl]
   ·rw [if_neg (by rw [hbt];decide),show ((bt x 0) == 98) = true by rw [hbt];rfl]
  refine Ev.step (f:=fun k => impl_readParts.l0 k (x.extract 1 x.size) (out ++ [(⟨⟨#[c]⟩,[]⟩ : S86)])) (fun k => ?_) ?_
  ·simp only [impl_readParts.j1,if_true];rw [if_pos (by omega),if_pos (by omega),if_pos (by omega),h0]
  ·exact (ih (x.extract 1 x.size) _ h1 (by simp only [List.length_append,List.length_cons,List.length_nil];rw [L_size,h1];omega)).is (by simp)
 | again e w e2 ps r h1 hw h2 ih1 ih2 =>
  intro x out hx hn
  have hz : x.size = e.length + 1:=by rw [L_size,hx];simp
  have hbt : bt x 0 = 40:=by rw [bt_L,hx];rfl
  have he : L (x.extract 1 x.size) = e:=by rw [L_extract,hx,L_size,hx];simp
  have hle:=h1.le
  simp at hle
  refine Ev.step (f:=fun k => impl_readParts.j1 k x out 40 false) (fun k => ?_) ?_
  ·simp only [impl_readParts.l0];rw [if_neg (by rw [toList_L,hx];simp),if_pos (by omega),if_neg (by rw [hbt];decide),hbt];rfl
  refine Ev.step (f:=?f1) (fun k => ?h1) ?k1
  case h1 => simp only [impl_readParts.j1];rw [if_neg (by simp),if_pos trivial,if_pos (by omega)] <;> exact rfl
  have i1:=ih1 (x.extract 1 x.size) [] he (by simp only [List.length_nil];rw [L_size,he];omega)
  have hy : L (⟨(41 :: 35 :: e2 : List UInt8).toArray⟩ : ByteArray) = 41 :: 35 :: e2:=L_mk _
  have hyz : (⟨(41 :: 35 :: e2 : List UInt8).toArray⟩ : ByteArray).size = e2.length + 2:=by rw [L_size,hy];simp
  refine Ev.bind (a:=([] ++ w,⟨(41 :: 35 :: e2 : List UInt8).toArray⟩)) (Ev.step (fun k => by simp only [impl_readParts.f]) i1) ?_
  have hwl : 0 < w.length:=by cases w with
   | nil => exact absurd rfl hw
   | cons a b => simp
  have h2' : L ((⟨(41 :: 35 :: e2 : List UInt8).toArray⟩ : ByteArray).extract 2 (⟨(41 :: 35 :: e2 : List UInt8).toArray⟩ : ByteArray).size) = e2:=by rw [L_extract,hyz,hy];simp
  have i2:=ih2 _ (out ++ [(⟨⟨#[]⟩,w⟩ : S86)]) h2' (by rw [L_size _,h2'];simp only [List.length_append,List.length_cons,List.length_nil];omega)
  refine Ev.congr (fun k => ?_) (i2.is (by simp))
  dsimp only
  rw [List.nil_append,if_pos (by omega),prefix_eval,hy,show (List.take 2 (41 :: 35 :: e2) == [41,35]) = true from rfl,Option.bind_some,if_pos rfl,if_pos (by omega),if_pos (by omega)]
 | other c e c1 c2 c3 =>
  intro x out hx hn
  have hz : x.size = e.length + 1:=by rw [L_size,hx];simp
  have hbt : bt x 0 = (c.toNat : Int):=by rw [bt_L,hx];simp
  have hxe : x = ⟨(c :: e).toArray⟩:=L_inj (by rw [hx,L_mk])
  refine Ev.step (f:=fun k => impl_readParts.j1 k x out (bt x 0) false) (fun k => ?_) ?_
  ·simp only [impl_readParts.l0];rw [if_neg (by rw [toList_L,hx];simp),if_pos (by omega),if_neg (by rw [hbt];exact u8_ne c1),show ((bt x 0) == 98) = false by rw [hbt];simpa using u8_ne c2]
  refine Ev.step (f:=fun _ => some (out,x)) (fun k => ?_) ((Ev.now _).is (by rw [List.append_nil,← hxe]))
  ·simp only [impl_readParts.j1];rw [if_neg (by simp),if_neg (by rw [hbt];exact u8_ne c3)]
 | bad e w r1 h1 hw ih =>
  intro x out hx hn
  have hz : x.size = e.length + 1:=by rw [L_size,hx];simp
  have hbt : bt x 0 = 40:=by rw [bt_L,hx];rfl
  have he : L (x.extract 1 x.size) = e:=by rw [L_extract,hx,L_size,hx];simp
  have hxe : x = ⟨(40 :: e).toArray⟩:=L_inj (by rw [hx,L_mk])
  refine Ev.step (f:=fun k => impl_readParts.j1 k x out 40 false) (fun k => ?_) ?_
  ·simp only [impl_readParts.l0];rw [if_neg (by rw [toList_L,hx];simp),if_pos (by omega),if_neg (by rw [hbt];decide),hbt];rfl
  refine Ev.step (f:=?f2) (fun k => ?h2) ?k2
  case h2 => simp only [impl_readParts.j1];rw [if_neg (by simp),if_pos trivial,if_pos (by omega)] <;> exact rfl
  have i1:=ih (x.extract 1 x.size) [] he (by simp only [List.length_nil];rw [L_size,he];omega)
  refine Ev.bind (a:=([] ++ w,⟨r1.toArray⟩)) (Ev.step (fun k => by simp only [impl_readParts.f]) i1) ?_
  refine Ev.congr (f:=fun _ => some (out,x)) (fun k => ?_) ((Ev.now _).is (by rw [List.append_nil,← hxe]))
  dsimp only
  by_cases hwl : w = []
  ·subst hwl;rw [if_neg (by simp)]
  ·have hwl' : 0 < w.length:=by cases w with
    | nil => exact absurd rfl hwl
    | cons a b => simp
   have hn : ∀ e2,r1 ≠ 41 :: 35 :: e2:=by
    rcases hw with h'|h'
    ·exact absurd h' hwl
    ·exact h'
   rw [List.nil_append,if_pos (by omega),prefix_eval,L_mk,prefix_no hn,Option.bind_some,if_neg (by simp)]
theorem parts_eval (s : ByteArray) (hs : s.size ≤ 120) : ∃ ps r,Reads (L s) ps r ∧ Ev (fun k => impl_parts.f k s) (ps,decide (ps ≠ [] ∧ r = [])):=by
 obtain ⟨ps,r,h⟩:=reads_all (L s).length (L s) (Nat.le_refl _)
 refine ⟨ps,r,h,?_⟩
 have h1:=parts_reads h s [] rfl (by simp;omega)
 refine Ev.congr (f:=?f3) (fun k => ?h3) ?k3
 case h3 => unfold impl_parts.f;rw [if_neg (by omega)] <;> exact rfl
 refine Ev.bind (Ev.step (fun k => by simp only [impl_readParts.f]) h1) ?_
 refine Ev.congr (f:=fun _ => some (ps,decide (ps ≠ [] ∧ r = []))) (fun k => ?_) (Ev.now _)
 dsimp only
 rw [List.nil_append,toList_L,L_mk]
 cases ps with
 | nil => simp
 | cons p ps => simp;cases r <;> simp
theorem parts_long (s : ByteArray) (hs : 120 < s.size) : Ev (fun k => impl_parts.f k s) ([],false):=by
 refine Ev.congr (f:=fun _ => some ([],false)) (fun k => ?_) (Ev.now _)
 unfold impl_parts.f;rw [if_pos (by omega)]
theorem valid_eval (s : ByteArray) (hs : s.size ≤ 120) {ps r} (h : Reads (L s) ps r) : Ev (fun k => spec_ExpressionValid.f k s) (decide (ps ≠ [] ∧ r = [])):=by
 have h1:=end_reads h s [] 0 (by simp) (by omega) (by omega) (by simp)
 have hz : s.size = (L s).length:=L_size s
 refine Ev.congr (f:=?f4) (fun k => ?h4) ?k4
 case h4 => unfold spec_ExpressionValid.f;rw [if_pos (by omega)] <;> exact rfl
 refine Ev.bind (a:=endv s r 0) (Ev.step (fun k => by simp only [spec_l7End.f];rfl) h1) ?_
 refine Ev.congr (f:=fun _ => some (decide (ps ≠ [] ∧ r = []))) (fun k => ?_) (Ev.now _)
 by_cases hr : r = []
 ·subst hr
  by_cases hp : ps = []
  ·subst hp
   have:=h.none
   have h0 : s.size = 0:=by rw [hz,← this];rfl
   have e : endv s [] 0 = -1:=by unfold endv;rw [if_pos (.inl rfl),if_pos (by rw [h0];rfl)]
   rw [e,if_neg (by omega)];simp
  ·have:=h.some hp
   simp only [List.length_nil] at this
   have e : endv s [] 0 = s.size:=by unfold endv;rw [if_pos (.inl rfl),if_neg (by simp only [List.length_nil];omega)];simp
   rw [e,if_pos rfl]
   have hp2 : ps ≠ [] ∧ ([] : List UInt8) = []:=⟨hp,rfl⟩
   rw [decide_eq_true hp2,decide_eq_true (show (s.size : Int) > 0 by omega)]
 ·have hl : 0 < r.length:=by cases r with
   | nil => exact absurd rfl hr
   | cons a b => simp
  rw [if_neg (by unfold endv;split <;> (try split) <;> omega)];simp [hr]
theorem valid_long (s : ByteArray) (hs : 120 < s.size) : Ev (fun k => spec_ExpressionValid.f k s) false:=by
 refine Ev.congr (f:=fun _ => some false) (fun k => ?_) (Ev.now _)
 unfold spec_ExpressionValid.f;rw [if_neg (by omega)]
theorem valid_both (s : ByteArray) : ∃ b ps,Ev (fun k => spec_ExpressionValid.f k s) b ∧ Ev (fun k => impl_parts.f k s) (ps,b):=by
 by_cases h : s.size ≤ 120
 ·obtain ⟨ps,r,hr,hp⟩:=parts_eval s h
  exact ⟨_,ps,valid_eval s h hr,hp⟩
 ·exact ⟨false,[],valid_long s (by omega),parts_long s (by omega)⟩
end Go.Proofs.Ytengegdaiphfeaa.Y
end
section
namespace Go.Proofs.Ytengegdaiphfeaa.Y
open Go.RowKit Go.Proofs.Ytengegdaiphfeaa.X Go.Proofs.YtengegdaiphfeaaW.PrintWords Go.Proofs.YtengegdaiphfeaaW.PrintLast Go.Proofs.YtengegdaiphfeaaW.PrintMore
set_option linter.unusedVariables false
set_option linter.unusedSimpArgs false
theorem rep_pos (w : List UInt8) (i t : Nat) (h : i < t) : Lib.repeatL w (t - i) = w ++ Lib.repeatL w (t - (i + 1)):=by
 obtain ⟨d,rfl⟩ : ∃ d,t = i + (d + 1):=⟨t - i - 1,by omega⟩
 rw [show i + (d + 1) - i = d + 1 by omega,show i + (d + 1) - (i + 1) = d by omega];rfl
theorem sTimes (n : Int) (rest w : List UInt8) (t : Nat) (ht : (t : Int) ≤ 9223372036854775807) (hw : 1 ≤ w.length) (hw2 : w.length ≤ 1000000000) : ∀ (m i : Nat) (acc : List UInt8),i ≤ t → 1001 - acc.length ≤ m → acc.length ≤ 10000000000 →
  ∃ acc2 : List UInt8,(acc.length + (Lib.repeatL w (t - i)).length ≤ 1000 → acc2 = acc ++ Lib.repeatL w (t - i)) ∧ (1000 < acc.length + (Lib.repeatL w (t - i)).length → 1000 < acc2.length) ∧ acc2.length ≤ max acc.length (1000 + w.length)
   ∧ ∀ r,Ev (fun k => spec_l7Expand.l0 k (B rest) n (B acc2)) r → Ev (fun k => spec_l7Expand.l1 k n (B acc) (B rest) (B w) (t : Int) (i : Int)) r:=by
 intro m
 induction m with
 | zero =>
  intro i acc hi hm ha
  refine ⟨acc,fun h => by omega,fun _ => by omega,by omega,fun r hr => ?_⟩
  refine Ev.step (fun k => ?_) hr
  simp only [spec_l7Expand.l1]
  by_cases h : (i : Int) < (t : Int)
  ·rw [if_pos h,B_size,if_neg (by omega)]
  ·rw [if_neg h]
 | succ m ih =>
  intro i acc hi hm ha
  by_cases h : i < t
  ·by_cases hs : acc.length ≤ 1000
   ·have e:=rep_pos w i t h
    obtain ⟨acc2,h1,h2,h3,h4⟩:=ih (i + 1) (acc ++ w) h (by simp;omega) (by simp;omega)
    rw [List.length_append] at h1 h2 h3
    refine ⟨acc2,?_,?_,by omega,fun r hr => ?_⟩
    ·rw [e,List.length_append];intro hl;rw [h1 (by omega),List.append_assoc]
    ·rw [e,List.length_append];intro hl;exact h2 (by omega)
    ·refine Ev.step (fun k => ?_) (h4 r hr)
     simp only [spec_l7Expand.l1]
     rw [if_pos (by omega),B_size,B_size,if_pos (by omega),if_pos (by omega),B_add,w64 (x:=(i : Int) + 1) (by omega) (by omega)]
     rfl
   ·refine ⟨acc,fun hl => by omega,fun _ => by omega,by omega,fun r hr => ?_⟩
    refine Ev.step (fun k => ?_) hr
    simp only [spec_l7Expand.l1]
    rw [if_pos (by omega),B_size,if_neg (by omega)]
  ·have e : t - i = 0:=by omega
   rw [e]
   refine ⟨acc,fun _ => by simp [Lib.repeatL],fun hl => by simpa [Lib.repeatL] using hl,by omega,fun r hr => ?_⟩
   refine Ev.step (fun k => ?_) hr
   simp only [spec_l7Expand.l1]
   rw [if_neg (by omega)]
theorem times_fit (a m : Nat) (n : Nat) (hm : 1 ≤ m) (ha : a ≤ 1000) : ((n : Int) > wrap64 (Int.tdiv (wrap64 (1000 - (a : Int))) (m : Int))) ↔ 1000 < a + n * m:=by
 have e1 : wrap64 (1000 - (a : Int)) = ((1000 - a : Nat) : Int):=by rw [w64 (x:=1000 - (a : Int)) (by omega) (by omega)];omega
 have hq : (1000 - a) / m ≤ 1000 - a:=Nat.div_le_self _ _
 have e2 : wrap64 (Int.tdiv ((1000 - a : Nat) : Int) (m : Int)) = (((1000 - a) / m : Nat) : Int):=by
  rw [tdiv_nat]
  obtain ⟨q,hq2⟩ : ∃ q,(1000 - a) / m = q:=⟨_,rfl⟩
  rw [hq2] at hq ⊢
  clear e1 hq2
  rw [w64 (x:=(q : Int)) (by omega) (by omega)]
 rw [e1,e2]
 clear e1 e2
 have h:=Nat.div_lt_iff_lt_mul (x:=1000 - a) (y:=n) hm
 constructor
 ·intro g
  have : (1000 - a) / m < n:=by omega
  have:=h.mp this
  omega
 ·intro g
  have : (1000 - a) / m < n:=h.mpr (by omega)
  omega
theorem iTimes (w : List UInt8) (t : Nat) (a : Nat) (ha : a ≤ 1000) (hw : 1 ≤ w.length) (h : ¬ 1000 < a + t * w.length) : strings_Repeat.f (B w) (t : Int) = some (B (Lib.repeatL w t)):=by
 have ht : t ≤ t * w.length:=Nat.le_mul_of_pos_right _ hw
 unfold strings_Repeat.f
 rw [if_pos ⟨Int.natCast_nonneg _,by omega,by rw [B_size,Int.toNat_natCast,Nat.mul_comm];omega⟩,B_toList,Int.toNat_natCast]
 rfl
def exR (acc X : List UInt8) : ByteArray × Bool:=if acc.length + X.length ≤ 1000 then (B (acc ++ X),true) else (B [],false)
theorem exR_nil (acc : List UInt8) (h : acc.length ≤ 1000) : exR acc [] = (B acc,true):=by unfold exR;rw [if_pos (by simpa using h)];simp
theorem exR_app (acc X Y : List UInt8) : exR (acc ++ X) Y = exR acc (X ++ Y):=by unfold exR;rw [List.length_append,List.length_append,List.append_assoc,Nat.add_assoc]
theorem expand_reads (t : Nat) (ht0 : 1 ≤ t) (ht : (t : Int) ≤ 9223372036854775807) (n : Nat) : ∀ (e : List UInt8) (ps : List S86),e.length ≤ n → n ≤ 1000 → Reads e ps [] → ∃ X : List UInt8,(ps ≠ [] → 1 ≤ X.length) ∧
  (∀ acc : List UInt8,acc.length ≤ 10000000 → ∃ v : List UInt8,Ev (fun k => spec_l7Expand.l0 k (B e) (t : Int) (B acc)) (B v) ∧ v.length ≤ max acc.length (1000 * (n + 1) + 1) ∧ (acc.length + X.length ≤ 1000 → v = acc ++ X) ∧ (1000 < acc.length + X.length → 1000 < v.length)) ∧
  (∀ (pre : List S86) (acc : List UInt8),pre.length + ps.length ≤ 1000000 → acc.length ≤ 1000 → Ev (fun k => impl_expand.l0 k (t : Int) (B acc) (pre ++ ps) ((pre ++ ps).length) pre.length) (exR acc X)):=by
 have stop : ∀ acc : List UInt8,Ev (fun k => spec_l7Expand.l0 k (B []) (t : Int) (B acc)) (B acc):=by
  intro acc
  refine Ev.step (f:=fun k => spec_l7Expand.j1 k (B []) (t : Int) (B acc) false) (fun k => ?_) ?_
  ·simp only [spec_l7Expand.l0];rw [if_pos (by rw [toList_L];unfold B;rw [L_mk])]
  ·refine Ev.step (f:=fun _ => some (B acc)) (fun k => ?_) (Ev.now _)
   simp only [spec_l7Expand.j1];rw [if_neg (by simp)]
 have full : ∀ (e acc : List UInt8),e ≠ [] → 1000 < acc.length → Ev (fun k => spec_l7Expand.l0 k (B e) (t : Int) (B acc)) (B acc):=by
  intro e acc he ha
  refine Ev.step (f:=fun k => spec_l7Expand.j1 k (B e) (t : Int) (B acc) false) (fun k => ?_) ?_
  ·simp only [spec_l7Expand.l0];rw [if_neg (by rw [toList_L];unfold B;rw [L_mk];exact he)]
   have : decide (((B acc).size : Int) ≤ 1000) = false:=by rw [B_size];exact decide_eq_false (by omega)
   rw [this]
  ·refine Ev.step (f:=fun _ => some (B acc)) (fun k => ?_) (Ev.now _)
   simp only [spec_l7Expand.j1];rw [if_neg (by simp)]
 have enter : ∀ (e acc : List UInt8) (r : ByteArray),e ≠ [] → acc.length ≤ 1000 → Ev (fun k => spec_l7Expand.j1 k (B e) (t : Int) (B acc) true) r → Ev (fun k => spec_l7Expand.l0 k (B e) (t : Int) (B acc)) r:=by
  intro e acc r he ha h
  refine Ev.step (fun k => ?_) h
  simp only [spec_l7Expand.l0];rw [if_neg (by rw [toList_L];unfold B;rw [L_mk];exact he)]
  have : decide (((B acc).size : Int) ≤ 1000) = true:=by rw [B_size];exact decide_eq_true (by omega)
  rw [this]
 have iend : ∀ (pre : List S86) (acc : List UInt8),acc.length ≤ 1000 → Ev (fun k => impl_expand.l0 k (t : Int) (B acc) (pre ++ []) ((pre ++ []).length) pre.length) (exR acc []):=by
  intro pre acc ha
  rw [exR_nil acc ha]
  refine Ev.step (f:=fun _ => some (B acc,true)) (fun k => ?_) (Ev.now _)
  simp only [impl_expand.l0];rw [if_neg (by simp)]
 induction n with
 | zero =>
  intro e ps hn hm h
  have he : e = []:=List.length_eq_zero_iff.mp (by omega)
  subst he
  cases h
  exact ⟨[],fun h => absurd rfl h,fun acc ha => ⟨acc,stop acc,by omega,fun _ => by simp,fun h => by simpa using h⟩,fun pre acc _ ha => iend pre acc ha⟩
 | succ n ih =>
  intro e ps hn hm h
  cases h with
  | done => exact ⟨[],fun h => absurd rfl h,fun acc ha => ⟨acc,stop acc,by omega,fun _ => by simp,fun h => by simpa using h⟩,fun pre acc _ ha => iend pre acc ha⟩
  | letter c e ps _ hc h =>
   simp only [List.length_cons] at hn
   obtain ⟨X,_,i1,i2⟩:=ih e ps (by omega) (by omega) h
   refine ⟨[c] ++ X,fun _ => by simp,?_,?_⟩
   ·intro acc ha
    by_cases hs : acc.length ≤ 1000
    ·obtain ⟨acc2,g1,g2,g3,g4⟩:=sTimes (t : Int) e [c] 1 (by omega) (by simp) (by simp) 1001 0 acc (by omega) (by omega) (by omega)
     have er : Lib.repeatL [c] (1 - 0) = [c]:=Lib.repeatL_one _
     rw [er] at g1 g2
     simp only [List.length_cons,List.length_nil] at g1 g2 g3
     obtain ⟨v,v1,v2,v3,v4⟩:=i1 acc2 (by omega)
     refine ⟨v,?_,by omega,?_,?_⟩
     ·refine enter _ acc _ (by simp) hs ?_
      refine Ev.step (f:=?f1) (fun k => ?h1) ?k1
      case h1 => simp only [spec_l7Expand.j1];rw [if_pos trivial] <;> exact rfl
      refine Ev.bind (next_letter (B (c :: e)) c e (by unfold B;rw [L_mk]) hc) (Ev_f (by simp) ?_)
      refine Ev.step (fun k => ?_) (g4 _ v1)
      simp only [spec_l7Expand.j2];rfl
     ·intro hl
      simp only [List.length_append,List.length_cons,List.length_nil] at hl
      have q:=g1 (by omega)
      rw [v3 (by rw [q];simp;omega),q];simp
     ·intro hl
      simp only [List.length_append,List.length_cons,List.length_nil] at hl
      apply v4
      by_cases q : acc.length + (0 + 1) ≤ 1000
      ·rw [g1 q];simp;omega
      ·have:=g2 (by omega);omega
    ·exact ⟨acc,full _ acc (by simp) (by omega),by omega,fun hl => by omega,fun _ => by omega⟩
   ·intro pre acc hp ha
    simp only [List.length_cons] at hp
    have i2':=i2 (pre ++ [(⟨⟨#[c]⟩,[]⟩ : S86)]) (acc ++ [c]) (by simp;omega)
    have tf:=times_fit acc.length 1 1 (by omega) ha
    refine Ev.step (f:=?f2) (fun k => ?h2) ?k2
    case h2 =>
     simp only [impl_expand.l0]
     rw [if_pos (by simp;omega),if_pos (by omega),if_pos (by simp;omega),rd_at,if_neg (by rw [toList_L];simp [L]),if_neg (show ¬ (((⟨#[c]⟩ : ByteArray).size : Nat) : Int) = 0 from by show ¬ ((1 : Nat) : Int) = 0;omega),w64 (x:=(pre.length : Int) + 1) (by omega) (by omega)] <;> exact rfl
    by_cases q : 1000 < acc.length + 1 * 1
    ·refine Ev_t (by rw [B_size];exact tf.mpr q) ((Ev.now _).is ?_)
     unfold exR;rw [if_neg (by simp only [List.length_append,List.length_cons,List.length_nil];omega)];rfl
    ·refine Ev_f (by rw [B_size];exact fun z => q (tf.mp z)) ?_
     have it:=iTimes [c] 1 acc.length ha (by simp) (by simpa using q)
     rw [Lib.repeatL_one] at it
     refine Ev_eq it ?_
     refine Ev_t (by rw [B_size,B_size];simp;omega) ?_
     rw [← exR_app]
     have:=i2' (by simp;omega)
     refine Ev.congr (fun k => ?_) this
     rw [B_add];simp
  | again e w e2 ps _ h hw h2 =>
   simp only [List.length_cons] at hn
   obtain ⟨v0,hv⟩:=h.suffix
   have hel:=congrArg List.length hv
   simp only [List.length_append,List.length_cons] at hel
   obtain ⟨Y,y0,j1,j2⟩:=ih v0 w (by omega) (by omega) (reads_inner h hv)
   obtain ⟨X,_,i1,i2⟩:=ih e2 ps (by omega) (by omega) h2
   have hY:=y0 hw
   have hrl:=Lib.repeatL_length Y t
   have htY : t * 1 ≤ t * Y.length:=Nat.mul_le_mul_left t hY
   refine ⟨Lib.repeatL Y t ++ X,fun _ => by rw [List.length_append,hrl];omega,?_,?_⟩
   ·intro acc ha
    by_cases hs : acc.length ≤ 1000
    ·obtain ⟨u,u1,u2,u3,u4⟩:=j1 [] (by simp)
     simp only [List.length_nil,Nat.zero_add,List.nil_append] at u2 u3 u4
     have hu1 : 1 ≤ u.length:=by
      by_cases q : Y.length ≤ 1000
      ·rw [u3 q];exact hY
      ·have:=u4 (by omega);omega
     obtain ⟨acc2,g1,g2,g3,g4⟩:=sTimes (t : Int) e2 u t ht hu1 (by omega) 1001 0 acc (by omega) (by omega) (by omega)
     have hru:=Lib.repeatL_length u t
     have htu : t * 1 ≤ t * u.length:=Nat.mul_le_mul_left t hu1
     have htu2 : 1 * u.length ≤ t * u.length:=Nat.mul_le_mul_right _ ht0
     have htY2 : 1 * Y.length ≤ t * Y.length:=Nat.mul_le_mul_right _ ht0
     rw [Nat.sub_zero,hru] at g1 g2
     obtain ⟨v,v1,v2,v3,v4⟩:=i1 acc2 (by omega)
     refine ⟨v,?_,by omega,?_,?_⟩
     ·refine enter _ acc _ (by simp) hs ?_
      refine Ev.step (f:=?f3) (fun k => ?h3) ?k3
      case h3 => simp only [spec_l7Expand.j1];rw [if_pos trivial] <;> exact rfl
      refine Ev.bind (next_again (B (40 :: e)) e v0 e2 w (by unfold B;rw [L_mk]) hv h hw (by rw [B_size];simp;omega)) (Ev_t rfl ?_)
      refine Ev.bind (a:=B u) ?_ ?_
      ·refine Ev.step (fun k => ?_) u1
       simp only [spec_l7Expand.f];rfl
      ·refine Ev.step (fun k => ?_) (g4 _ v1)
       simp only [spec_l7Expand.j2];rfl
     ·intro hl
      rw [List.length_append,hrl] at hl
      have q:=u3 (by omega)
      subst q
      have q2:=g1 (by omega)
      rw [v3 (by rw [q2,List.length_append,hru];omega),q2,List.append_assoc]
     ·intro hl
      rw [List.length_append,hrl] at hl
      apply v4
      by_cases q : Y.length ≤ 1000
      ·have q2:=u3 q
       subst q2
       by_cases q3 : acc.length + t * u.length ≤ 1000
       ·rw [g1 q3,List.length_append,hru];omega
       ·have:=g2 (by omega);omega
      ·have:=u4 (by omega)
       have:=g2 (by omega)
       omega
    ·exact ⟨acc,full _ acc (by simp) (by omega),by omega,fun hl => by omega,fun _ => by omega⟩
   ·intro pre acc hp ha
    simp only [List.length_cons] at hp
    have htY2 : 1 * Y.length ≤ t * Y.length:=Nat.mul_le_mul_right _ ht0
    have hwl:=(reads_inner h hv).parts
    have i2':=i2 (pre ++ [(⟨⟨#[]⟩,w⟩ : S86)]) (acc ++ Lib.repeatL Y t) (by simp;omega)
    have j2':=j2 [] [] (by simp;simp at hwl;omega) (by simp)
    refine Ev.step (f:=?f4) (fun k => ?h4) ?k4
    case h4 =>
     simp only [impl_expand.l0]
     rw [if_pos (by simp;omega),if_pos (by omega),if_pos (by simp;omega),rd_at,if_pos (by rw [toList_L];simp [L]),w64 (x:=(pre.length : Int) + 1) (by omega) (by omega)] <;> exact rfl
    refine Ev.bind (a:=exR [] Y) (Ev.step (fun k => by simp only [impl_expand.f];rfl) j2') ?_
    by_cases hy : Y.length ≤ 1000
    ·have eR : exR [] Y = (B Y,true):=by unfold exR;rw [if_pos (by simpa using hy)];rfl
     rw [eR]
     refine Ev_t rfl (Ev_f (by show ¬ ((B Y).size : Int) = 0;rw [B_size];omega) ?_)
     have tf:=times_fit acc.length Y.length t hY ha
     by_cases q : 1000 < acc.length + t * Y.length
     ·refine Ev_t (by show (t : Int) > wrap64 (Int.tdiv (wrap64 (1000 - ((B acc).size : Int))) ((B Y).size : Int));rw [B_size,B_size];exact tf.mpr q) ((Ev.now _).is ?_)
      unfold exR;rw [if_neg (by rw [List.length_append,hrl];omega)];rfl
     ·refine Ev_f (by show ¬ (t : Int) > wrap64 (Int.tdiv (wrap64 (1000 - ((B acc).size : Int))) ((B Y).size : Int));rw [B_size,B_size];exact fun z => q (tf.mp z)) ?_
      refine Ev_eq (iTimes Y t acc.length ha hY q) ?_
      refine Ev_t (by rw [B_size,B_size,hrl];omega) ?_
      rw [← exR_app]
      have:=i2' (by rw [List.length_append,hrl];omega)
      refine Ev.congr (fun k => ?_) this
      rw [B_add];simp
    ·have eR : exR [] Y = (B [],false):=by unfold exR;rw [if_neg (by simpa using hy)]
     rw [eR]
     refine Ev_f (by simp) ((Ev.now _).is ?_)
     unfold exR;rw [if_neg (by rw [List.length_append,hrl];omega)];rfl
theorem expand_both (s : ByteArray) (n : Int) (hn : n ≤ 9223372036854775807) : ∃ v : ByteArray × Bool,Ev (fun k => spec_ExpandExpression.f k s n) v ∧ Ev (fun k => impl_ExpandExpression.f k s n) v:=by
 have off : ∀ (b : Bool),b = true → Ev (fun k => spec_ExpandExpression.j0 k s n b) (B [],false):=by
  intro b hb
  refine Ev.step (f:=fun _ => some (B [],false)) (fun k => ?_) (Ev.now _)
  simp only [spec_ExpandExpression.j0];rw [if_pos hb];rfl
 have no : ∀ ps,Ev (fun k => spec_ExpressionValid.f k s) false → Ev (fun k => impl_parts.f k s) (ps,false) → ∃ v : ByteArray × Bool,Ev (fun k => spec_ExpandExpression.f k s n) v ∧ Ev (fun k => impl_ExpandExpression.f k s n) v:=by
  intro ps hv hp
  refine ⟨(B [],false),?_,?_⟩
  ·unfold spec_ExpandExpression.f
   exact Ev.bind hv (Ev_f (by simp) (off true rfl))
  ·unfold impl_ExpandExpression.f
   exact Ev.bind hp (Ev_f (by simp) (Ev.now _))
 by_cases h : s.size ≤ 120
 ·obtain ⟨ps,r,hr,hp⟩:=parts_eval s h
  have hv:=valid_eval s h hr
  have hle:=hr.parts
  rw [← L_size] at hle
  by_cases hb : ps ≠ [] ∧ r = []
  ·rw [decide_eq_true hb] at hv hp
   obtain ⟨hb1,rfl⟩:=hb
   by_cases h1 : n < 1
   ·refine ⟨(B [],false),?_,?_⟩
    ·unfold spec_ExpandExpression.f
     exact Ev.bind hv (Ev_t rfl (off _ (decide_eq_true h1)))
    ·unfold impl_ExpandExpression.f
     exact Ev.bind hp (Ev_t rfl (Ev_t h1 (Ev.now _)))
   ·obtain ⟨t,rfl⟩ : ∃ t : Nat,n = (t : Int):=⟨n.toNat,by omega⟩
    obtain ⟨X,_,i1,i2⟩:=expand_reads t (by omega) hn (L s).length (L s) ps (Nat.le_refl _) (by rw [← L_size];omega) hr
    obtain ⟨v,v1,v2,v3,v4⟩:=i1 [] (by simp)
    simp only [List.length_nil,Nat.zero_add,List.nil_append] at v2 v3 v4
    rw [B_L] at v1
    refine ⟨exR [] X,?_,?_⟩
    ·unfold spec_ExpandExpression.f
     refine Ev.bind hv (Ev_t rfl ?_)
     refine Ev.step (f:=?f5) (fun k => ?h5) ?k5
     case h5 => simp only [spec_ExpandExpression.j0];rw [decide_eq_false h1,if_neg (by simp)] <;> exact rfl
     refine Ev.bind (a:=B v) (Ev.step (fun k => by simp only [spec_l7Expand.f];rfl) v1) ?_
     by_cases hX : X.length ≤ 1000
     ·rw [v3 hX]
      refine Ev_f (by rw [B_size];omega) ((Ev.now _).is ?_)
      unfold exR;rw [if_pos (by simpa using hX)];rfl
     ·refine Ev_t (by rw [B_size];have:=v4 (by omega);omega) ((Ev.now _).is ?_)
      unfold exR;rw [if_neg (by simpa using hX)];rfl
    ·unfold impl_ExpandExpression.f
     refine Ev.bind hp (Ev_t rfl (Ev_f h1 ?_))
     exact Ev.bind (Ev.step (fun k => by simp only [impl_expand.f];rfl) (i2 [] [] (by simp;omega) (by simp))) (Ev.now _)
  ·rw [decide_eq_false hb] at hv hp
   exact no ps hv hp
 ·exact no [] (valid_long s (by omega)) (parts_long s (by omega))
end Go.Proofs.Ytengegdaiphfeaa.Y
end
