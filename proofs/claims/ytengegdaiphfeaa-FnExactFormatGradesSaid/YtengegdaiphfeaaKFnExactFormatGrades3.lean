import Derived.Test.YtengegdaiphfeaaKFnExactFormatGrades1
import Derived.Test.YtengegdaiphfeaaKFnExactFormatGrades2
import Derived.Lib.Join
section
namespace Go.Proofs.Ytengegdaiphfeaa.X
open Go.RowKit Go.Proofs.YtengegdaiphfeaaW.PrintWords Go.Proofs.YtengegdaiphfeaaW.PrintLast Go.Proofs.YtengegdaiphfeaaW.PrintMore
attribute [local go_sem] max2_int min2_int max_two min_two max_three min_three max_four min_four
set_option linter.unusedVariables false
set_option linter.unusedSimpArgs false
mutual
def spec_l6Mul.l0 : Nat → Int → Int → Int → List Int → Int → List Int → Int → List Int → Option (Int × List Int)
 | 0,_,_,_,_,_,_,_,_ => none
 | k + 1,x16,x17,x274000,x274001,x275000,x275001,x277000,x277001 => if x17 < x16 then (spec_l6Mul.l1 k x17 3 x16 x17 x274000 0 x274000 x274001 x275000 x275001 x277000 x277001) else (some (x277000,x277001))
def spec_l6Mul.l1 : Nat → Int → Int → Int → Int → Int → Int → Int → List Int → Int → List Int → Int → List Int → Option (Int × List Int)
 | 0,_,_,_,_,_,_,_,_,_,_,_,_ => none
 | k + 1,x6,x7,x16,x17,x21,x22,x274000,x274001,x275000,x275001,x277000,x277001 => if x22 < x21 then (if x274000 = 0 then (none) else (if 0 ≤ (wrap64 ((wrap64 ((wrap64 (Int.tdiv x6 x274000)) * x274000)) + x22)) then (if (wrap64 ((wrap64 ((wrap64 (Int.tdiv x6 x274000)) * x274000)) + x22)) < (x274001.length : Int) then (if 0 ≤ (wrap64 ((wrap64 (x22 * x274000)) + (Int.tmod x6 x274000))) then (if (wrap64 ((wrap64 (x22 * x274000)) + (Int.tmod x6 x274000))) < (x275001.length : Int) then (spec_l6Mul.l1 k x6 (mn x7 (mx (rd x274001 (wrap64 ((wrap64 ((wrap64 (Int.tdiv x6 x274000)) * x274000)) + x22))) (rd x275001 (wrap64 ((wrap64 (x22 * x274000)) + (Int.tmod x6 x274000)))))) x16 x17 x21 (wrap64 (x22 + 1)) x274000 x274001 x275000 x275001 x277000 x277001) else (none)) else (none)) else (none)) else (none))) else (if x277001.length < 17592186044416 then (spec_l6Mul.l0 k x16 (wrap64 (x17 + 1)) x274000 x274001 x275000 x275001 x277000 (x277001 ++ [x7])) else (none))
end
def spec_l6Mul.f (k : Nat) (a0_0 : Int) (l0_1 : List Int) (a1_0 : Int) (l1_1 : List Int) : Option (Int × List Int):=spec_l6Mul.l0 k (wrap64 (a0_0 * a0_0)) 0 a0_0 l0_1 a1_0 l1_1 a0_0 ([] : List Int)
theorem spec_l6Mul.mono_l : ∀ k,(∀ y0 y1 y2 y3 y4 y5 y6 y7,LeO (spec_l6Mul.l0 k y0 y1 y2 y3 y4 y5 y6 y7) (spec_l6Mul.l0 (k + 1) y0 y1 y2 y3 y4 y5 y6 y7)) ∧ (∀ y0 y1 y2 y3 y4 y5 y6 y7 y8 y9 y10 y11,LeO (spec_l6Mul.l1 k y0 y1 y2 y3 y4 y5 y6 y7 y8 y9 y10 y11) (spec_l6Mul.l1 (k + 1) y0 y1 y2 y3 y4 y5 y6 y7 y8 y9 y10 y11))
 | 0 => ⟨fun _ _ _ _ _ _ _ _ r h => by simp [spec_l6Mul.l0] at h,fun _ _ _ _ _ _ _ _ _ _ _ _ r h => by simp [spec_l6Mul.l1] at h⟩
 | k + 1 => by
  obtain ⟨ih0,ih1⟩:=spec_l6Mul.mono_l k
  refine ⟨?_,?_⟩
  ·intro y0 y1 y2 y3 y4 y5 y6 y7
   unfold spec_l6Mul.l0
   repeat' first
   | (with_reducible exact ih0 _ _ _ _ _ _ _ _)
   | (with_reducible exact ih1 _ _ _ _ _ _ _ _ _ _ _ _)
   | (with_reducible exact LeO.refl _)
   | (with_reducible exact LeO.none _)
   | (with_reducible refine LeO.ite ?_ ?_)
   | (with_reducible refine LeO.bind ?_ (fun _ => ?_))
   | exact ih0 _ _ _ _ _ _ _ _
   | exact ih1 _ _ _ _ _ _ _ _ _ _ _ _
   | exact LeO.none _
   | refine LeO.ite ?_ ?_
   | refine LeO.bind ?_ (fun _ => ?_)
  ·intro y0 y1 y2 y3 y4 y5 y6 y7 y8 y9 y10 y11
   unfold spec_l6Mul.l1
   repeat' first
   | (with_reducible exact ih0 _ _ _ _ _ _ _ _)
   | (with_reducible exact ih1 _ _ _ _ _ _ _ _ _ _ _ _)
   | (with_reducible exact LeO.refl _)
   | (with_reducible exact LeO.none _)
   | (with_reducible refine LeO.ite ?_ ?_)
   | (with_reducible refine LeO.bind ?_ (fun _ => ?_))
   | exact ih0 _ _ _ _ _ _ _ _
   | exact ih1 _ _ _ _ _ _ _ _ _ _ _ _
   | exact LeO.none _
   | refine LeO.ite ?_ ?_
   | refine LeO.bind ?_ (fun _ => ?_)
theorem spec_l6Mul.mono : ∀ a0 a1 a2 a3 k,LeO (spec_l6Mul.f k a0 a1 a2 a3) (spec_l6Mul.f (k + 1) a0 a1 a2 a3):=by
 intro a0 a1 a2 a3 k
 obtain ⟨ih0,ih1⟩:=spec_l6Mul.mono_l k
 unfold spec_l6Mul.f
 repeat' first
   | (with_reducible exact ih0 _ _ _ _ _ _ _ _)
   | (with_reducible exact ih1 _ _ _ _ _ _ _ _ _ _ _ _)
   | (with_reducible exact LeO.refl _)
   | (with_reducible exact LeO.none _)
   | (with_reducible refine LeO.ite ?_ ?_)
   | (with_reducible refine LeO.bind ?_ (fun _ => ?_))
   | exact ih0 _ _ _ _ _ _ _ _
   | exact ih1 _ _ _ _ _ _ _ _ _ _ _ _
   | exact LeO.none _
   | refine LeO.ite ?_ ?_
   | refine LeO.bind ?_ (fun _ => ?_)
set_option maxHeartbeats 8000000 in
set_option maxRecDepth 100000 in
theorem spec_l6Mul.calls (k : Nat) (a0_0 : Int) (A0_1 : Option Addr) (c0_1 : Nat) (l0_1 : List Int) (a1_0 : Int) (A1_1 : Option Addr) (c1_1 : Nat) (l1_1 : List Int) (r1 : Int) (r2 : List Int) (w : World) (hr0_1 : Kd.C (Kd.int .i64) w A0_1 l0_1.length l0_1) (hc0_1 : l0_1.length ≤ c0_1) (hr1_1 : Kd.C (Kd.int .i64) w A1_1 l1_1.length l1_1) (hc1_1 : l1_1.length ≤ c1_1) (h : spec_l6Mul.f k a0_0 l0_1 a1_0 l1_1 = some (r1,r2)) :
  Calls Try.prog 68 #[.agg #[.int .i64 a0_0,.slice A0_1 l0_1.length c0_1],.agg #[.int .i64 a1_0,.slice A1_1 l1_1.length c1_1]] w fun e w' => ∃ v1_ : Value,e = .returned (.agg #[.int .i64 r1,v1_]) ∧ Kd.R (Kd.int .i64) 3 w' w.heap.size (fun _ => True) v1_ r2 ∧ Below w.heap.size w w':=by
 have hu28:=Try.underlying28
 have HR0_1:=Aside0.mk hr0_1
 have HC0_1:=Aside0.mk hc0_1
 clear hr0_1 hc0_1
 have HR1_1:=Aside0.mk hr1_1
 have HC1_1:=Aside0.mk hc1_1
 clear hr1_1 hc1_1
 have HB:=Aside0.mk (Below.refl w.heap.size w)
 have H : (spec_l6Mul.l0 k (wrap64 (a0_0 * a0_0)) 0 a0_0 l0_1 a1_0 l1_1 a0_0 ([] : List Int)) = some (r1,r2):=h
 clear h
 have H':=Aside0.mk H
 clear H
 go_enter Try.func68,Try.ntmps68
 go_wp2_with (first|((with_reducible refine gate_dst (N:=2) rfl ?_);refine box_event ?hg (N:=2) ?hd (cs:=#[.int .i64 a0_0,.slice A0_1 l0_1.length c0_1]) (t:=28) ?hr ?_;(case hd => rfl);(case hg => rfl);(case hr => first|(go_simp;done)|(go_simp;rfl));intro gb273 hg w3 hbox hb;have n0_:=Aside0.mk (below_step (by repeat (first|(with_reducible first|exact HB.out|apply below_alloc|apply pw_below_drewN|apply below_drew1)|exact HB.out)) hb);have n1_:=Aside0.mk (hbox);have n2_:=Aside0.mk ((by rw [hg];exact (below_size (by repeat (first|(with_reducible first|exact HB.out|apply below_alloc|apply pw_below_drewN|apply below_drew1)|exact HB.out))) : w.heap.size ≤ gb273));have n3_:=Aside0.mk ((by rw [hg];exact (below_size (by repeat (first|(with_reducible first|exact HB.out|apply below_alloc|apply pw_below_drewN|apply below_drew1)|exact HB.out))) : w.heap.size ≤ gb273));clear HB;have HB:=n0_;have BK273:=n1_;have GW273:=n2_;have GE273:=n3_;clear n0_ n1_ n2_ n3_;clear hb hbox hg)|((with_reducible refine gate_dst (N:=3) rfl ?_);refine box_event ?hg (N:=3) ?hd (cs:=#[.int .i64 a1_0,.slice A1_1 l1_1.length c1_1]) (t:=28) ?hr ?_;(case hd => rfl);(case hg => rfl);(case hr => first|(go_simp;done)|(go_simp;rfl));intro gb274 hg w4 hbox hb;have n0_:=Aside0.mk (blk_below (g:=gb273) (o:=.cells #[.int .i64 a0_0,.slice A0_1 l0_1.length c0_1] 28 (0,0)) (by (with_reducible repeat (first|refine blk_drewN ?_ _|refine blk_drew ?_|refine blk_alloc ?_ _));exact BK273.out) hb);have n1_:=Aside0.mk (below_step (by repeat (first|(with_reducible first|exact HB.out|apply below_alloc|apply pw_below_drewN|apply below_drew1|refine below_set ?_ GE273.out)|exact HB.out)) hb);have n2_:=Aside0.mk (hbox);have n3_:=Aside0.mk ((by rw [hg];exact (below_size (by repeat (first|(with_reducible first|exact HB.out|apply below_alloc|apply pw_below_drewN|apply below_drew1|refine below_set ?_ GE273.out)|exact HB.out))) : w.heap.size ≤ gb274));have n4_:=Aside0.mk ((by rw [hg];exact (below_size (by repeat (first|(with_reducible first|exact HB.out|apply below_alloc|apply pw_below_drewN|apply below_drew1|refine below_set ?_ GE273.out)|exact HB.out))) : w.heap.size ≤ gb274));have n5_:=Aside0.mk ((by rw [hg];exact Nat.ne_of_lt (blk_lt (g:=gb273) (o:=.cells #[.int .i64 a0_0,.slice A0_1 l0_1.length c0_1] 28 (0,0)) (by (with_reducible repeat (first|refine blk_drewN ?_ _|refine blk_drew ?_|refine blk_alloc ?_ _));exact BK273.out)) : gb273 ≠ gb274));have n6_:=Aside0.mk ((by rw [hg];exact Nat.ne_of_gt (blk_lt (g:=gb273) (o:=.cells #[.int .i64 a0_0,.slice A0_1 l0_1.length c0_1] 28 (0,0)) (by (with_reducible repeat (first|refine blk_drewN ?_ _|refine blk_drew ?_|refine blk_alloc ?_ _));exact BK273.out)) : gb274 ≠ gb273));clear BK273;clear HB;have BK273:=n0_;have HB:=n1_;have BK274:=n2_;have GW274:=n3_;have GE274:=n4_;have NB273_274:=n5_;have NB274_273:=n6_;clear n0_ n1_ n2_ n3_ n4_ n5_ n6_;clear hb hbox hg)|((with_reducible refine gate_dst (N:=4) rfl ?_);refine box_event ?hg (N:=4) ?hd (cs:=#[.int .i64 0,.slice none 0 0]) (t:=28) ?hr ?_;(case hd => rfl);(case hg => rfl);(case hr => first|(go_simp;done)|(go_simp;rfl));intro gb275 hg w5 hbox hb;have n0_:=Aside0.mk (blk_below (g:=gb273) (o:=.cells #[.int .i64 a0_0,.slice A0_1 l0_1.length c0_1] 28 (0,0)) (by (with_reducible repeat (first|refine blk_drewN ?_ _|refine blk_drew ?_|refine blk_alloc ?_ _));exact BK273.out) hb);have n1_:=Aside0.mk (blk_below (g:=gb274) (o:=.cells #[.int .i64 a1_0,.slice A1_1 l1_1.length c1_1] 28 (0,0)) (by (with_reducible repeat (first|refine blk_drewN ?_ _|refine blk_drew ?_|refine blk_alloc ?_ _));exact BK274.out) hb);have n2_:=Aside0.mk (below_step (by repeat (first|(with_reducible first|exact HB.out|apply below_alloc|apply pw_below_drewN|apply below_drew1|refine below_set ?_ GE273.out|refine below_set ?_ GE274.out)|exact HB.out)) hb);have n3_:=Aside0.mk (hbox);have n4_:=Aside0.mk ((by rw [hg];exact (below_size (by repeat (first|(with_reducible first|exact HB.out|apply below_alloc|apply pw_below_drewN|apply below_drew1|refine below_set ?_ GE273.out|refine below_set ?_ GE274.out)|exact HB.out))) : w.heap.size ≤ gb275));have n5_:=Aside0.mk ((by rw [hg];exact (below_size (by repeat (first|(with_reducible first|exact HB.out|apply below_alloc|apply pw_below_drewN|apply below_drew1|refine below_set ?_ GE273.out|refine below_set ?_ GE274.out)|exact HB.out))) : w.heap.size ≤ gb275));have n6_:=Aside0.mk ((by rw [hg];exact Nat.ne_of_lt (blk_lt (g:=gb273) (o:=.cells #[.int .i64 a0_0,.slice A0_1 l0_1.length c0_1] 28 (0,0)) (by (with_reducible repeat (first|refine blk_drewN ?_ _|refine blk_drew ?_|refine blk_alloc ?_ _));exact BK273.out)) : gb273 ≠ gb275));have n7_:=Aside0.mk ((by rw [hg];exact Nat.ne_of_gt (blk_lt (g:=gb273) (o:=.cells #[.int .i64 a0_0,.slice A0_1 l0_1.length c0_1] 28 (0,0)) (by (with_reducible repeat (first|refine blk_drewN ?_ _|refine blk_drew ?_|refine blk_alloc ?_ _));exact BK273.out)) : gb275 ≠ gb273));have n8_:=Aside0.mk ((by rw [hg];exact Nat.ne_of_lt (blk_lt (g:=gb274) (o:=.cells #[.int .i64 a1_0,.slice A1_1 l1_1.length c1_1] 28 (0,0)) (by (with_reducible repeat (first|refine blk_drewN ?_ _|refine blk_drew ?_|refine blk_alloc ?_ _));exact BK274.out)) : gb274 ≠ gb275));have n9_:=Aside0.mk ((by rw [hg];exact Nat.ne_of_gt (blk_lt (g:=gb274) (o:=.cells #[.int .i64 a1_0,.slice A1_1 l1_1.length c1_1] 28 (0,0)) (by (with_reducible repeat (first|refine blk_drewN ?_ _|refine blk_drew ?_|refine blk_alloc ?_ _));exact BK274.out)) : gb275 ≠ gb274));clear BK273;clear BK274;clear HB;have BK273:=n0_;have BK274:=n1_;have HB:=n2_;have BK275:=n3_;have GW275:=n4_;have GE275:=n5_;have NB273_275:=n6_;have NB275_273:=n7_;have NB274_275:=n8_;have NB275_274:=n9_;clear n0_ n1_ n2_ n3_ n4_ n5_ n6_ n7_ n8_ n9_;clear hb hbox hg;have hnb6:=NB273_274.out;have hnc6:=NB274_273.out;have hnb7:=NB273_275.out;have hnc7:=NB275_273.out;have hcz8_0 : w5.cell? ⟨gb273,0,none⟩ = some (.int .i64 a0_0):=(blk_cell BK273.out 0).trans rfl;have hcz8_1 : w5.cell? ⟨gb273,1,none⟩ = some (.slice A0_1 l0_1.length c0_1):=(blk_cell BK273.out 1).trans rfl;have hfz8_0:=blk_frozen BK273.out 0;have hfz8_1:=blk_frozen BK273.out 1)|((with_reducible refine gate_dst (N:=5) rfl ?_);refine box_event ?hg (N:=5) ?hd (cs:=#[.int .i64 0,.slice none 0 0]) (t:=28) ?hr ?_;(case hd => rfl);(case hg => rfl);(case hr => first|(go_simp;done)|(go_simp;rfl));intro gb276 hg w9 hbox hb;have n0_:=Aside0.mk (blk_below (g:=gb273) (o:=.cells #[.int .i64 a0_0,.slice A0_1 l0_1.length c0_1] 28 (0,0)) (by (with_reducible repeat (first|refine blk_drewN ?_ _|refine blk_drew ?_|refine blk_alloc ?_ _));exact BK273.out) hb);have n1_:=Aside0.mk (blk_below (g:=gb274) (o:=.cells #[.int .i64 a1_0,.slice A1_1 l1_1.length c1_1] 28 (0,0)) (by (with_reducible repeat (first|refine blk_drewN ?_ _|refine blk_drew ?_|refine blk_alloc ?_ _));exact BK274.out) hb);have n2_:=Aside0.mk (blk_below (g:=gb275) (o:=.cells #[.int .i64 0,.slice none 0 0] 28 (0,0)) (by (with_reducible repeat (first|refine blk_drewN ?_ _|refine blk_drew ?_|refine blk_alloc ?_ _));exact BK275.out) hb);have n3_:=Aside0.mk (below_step (by repeat (first|(with_reducible first|exact HB.out|apply below_alloc|apply pw_below_drewN|apply below_drew1|refine below_set ?_ GE273.out|refine below_set ?_ GE274.out|refine below_set ?_ GE275.out)|exact HB.out)) hb);have n4_:=Aside0.mk (hbox);have n5_:=Aside0.mk ((by rw [hg];exact (below_size (by repeat (first|(with_reducible first|exact HB.out|apply below_alloc|apply pw_below_drewN|apply below_drew1|refine below_set ?_ GE273.out|refine below_set ?_ GE274.out|refine below_set ?_ GE275.out)|exact HB.out))) : w.heap.size ≤ gb276));have n6_:=Aside0.mk ((by rw [hg];exact (below_size (by repeat (first|(with_reducible first|exact HB.out|apply below_alloc|apply pw_below_drewN|apply below_drew1|refine below_set ?_ GE273.out|refine below_set ?_ GE274.out|refine below_set ?_ GE275.out)|exact HB.out))) : w.heap.size ≤ gb276));have n7_:=Aside0.mk ((by rw [hg];exact Nat.ne_of_lt (blk_lt (g:=gb273) (o:=.cells #[.int .i64 a0_0,.slice A0_1 l0_1.length c0_1] 28 (0,0)) (by (with_reducible repeat (first|refine blk_drewN ?_ _|refine blk_drew ?_|refine blk_alloc ?_ _));exact BK273.out)) : gb273 ≠ gb276));have n8_:=Aside0.mk ((by rw [hg];exact Nat.ne_of_gt (blk_lt (g:=gb273) (o:=.cells #[.int .i64 a0_0,.slice A0_1 l0_1.length c0_1] 28 (0,0)) (by (with_reducible repeat (first|refine blk_drewN ?_ _|refine blk_drew ?_|refine blk_alloc ?_ _));exact BK273.out)) : gb276 ≠ gb273));have n9_:=Aside0.mk ((by rw [hg];exact Nat.ne_of_lt (blk_lt (g:=gb274) (o:=.cells #[.int .i64 a1_0,.slice A1_1 l1_1.length c1_1] 28 (0,0)) (by (with_reducible repeat (first|refine blk_drewN ?_ _|refine blk_drew ?_|refine blk_alloc ?_ _));exact BK274.out)) : gb274 ≠ gb276));have n10_:=Aside0.mk ((by rw [hg];exact Nat.ne_of_gt (blk_lt (g:=gb274) (o:=.cells #[.int .i64 a1_0,.slice A1_1 l1_1.length c1_1] 28 (0,0)) (by (with_reducible repeat (first|refine blk_drewN ?_ _|refine blk_drew ?_|refine blk_alloc ?_ _));exact BK274.out)) : gb276 ≠ gb274));have n11_:=Aside0.mk ((by rw [hg];exact Nat.ne_of_lt (blk_lt (g:=gb275) (o:=.cells #[.int .i64 0,.slice none 0 0] 28 (0,0)) (by (with_reducible repeat (first|refine blk_drewN ?_ _|refine blk_drew ?_|refine blk_alloc ?_ _));exact BK275.out)) : gb275 ≠ gb276));have n12_:=Aside0.mk ((by rw [hg];exact Nat.ne_of_gt (blk_lt (g:=gb275) (o:=.cells #[.int .i64 0,.slice none 0 0] 28 (0,0)) (by (with_reducible repeat (first|refine blk_drewN ?_ _|refine blk_drew ?_|refine blk_alloc ?_ _));exact BK275.out)) : gb276 ≠ gb275));clear BK273;clear BK274;clear BK275;clear HB;have BK273:=n0_;have BK274:=n1_;have BK275:=n2_;have HB:=n3_;have BK276:=n4_;have GW276:=n5_;have GE276:=n6_;have NB273_276:=n7_;have NB276_273:=n8_;have NB274_276:=n9_;have NB276_274:=n10_;have NB275_276:=n11_;have NB276_275:=n12_;clear n0_ n1_ n2_ n3_ n4_ n5_ n6_ n7_ n8_ n9_ n10_ n11_ n12_;clear hb hbox hg;have hnb10:=NB276_273.out;have hnc10:=NB273_276.out;have hnb11:=NB276_274.out;have hnc11:=NB274_276.out;have hnb12:=NB276_275.out;have hnc12:=NB275_276.out;have hcz13_0 : w9.cell? ⟨gb276,0,none⟩ = some (.int .i64 0):=(blk_cell BK276.out 0).trans rfl;have hcz13_1 : w9.cell? ⟨gb276,1,none⟩ = some (.slice none 0 0):=(blk_cell BK276.out 1).trans rfl;have hfz13_0:=blk_frozen BK276.out 0;have hfz13_1:=blk_frozen BK276.out 1;have hcz14_0 : w9.cell? ⟨gb273,0,none⟩ = some (.int .i64 a0_0):=(blk_cell BK273.out 0).trans rfl;have hcz14_1 : w9.cell? ⟨gb273,1,none⟩ = some (.slice A0_1 l0_1.length c0_1):=(blk_cell BK273.out 1).trans rfl;have hfz14_0:=blk_frozen BK273.out 0;have hfz14_1:=blk_frozen BK273.out 1))
 repeat (go_quiet (first|((with_reducible refine gate_dst (N:=2) rfl ?_);refine box_event ?hg (N:=2) ?hd (cs:=#[.int .i64 a0_0,.slice A0_1 l0_1.length c0_1]) (t:=28) ?hr ?_;(case hd => rfl);(case hg => rfl);(case hr => first|(go_simp;done)|(go_simp;rfl));intro gb273 hg w3 hbox hb;have n0_:=Aside0.mk (below_step (by repeat (first|(with_reducible first|exact HB.out|apply below_alloc|apply pw_below_drewN|apply below_drew1)|exact HB.out)) hb);have n1_:=Aside0.mk (hbox);have n2_:=Aside0.mk ((by rw [hg];exact (below_size (by repeat (first|(with_reducible first|exact HB.out|apply below_alloc|apply pw_below_drewN|apply below_drew1)|exact HB.out))) : w.heap.size ≤ gb273));have n3_:=Aside0.mk ((by rw [hg];exact (below_size (by repeat (first|(with_reducible first|exact HB.out|apply below_alloc|apply pw_below_drewN|apply below_drew1)|exact HB.out))) : w.heap.size ≤ gb273));clear HB;have HB:=n0_;have BK273:=n1_;have GW273:=n2_;have GE273:=n3_;clear n0_ n1_ n2_ n3_;clear hb hbox hg)|((with_reducible refine gate_dst (N:=3) rfl ?_);refine box_event ?hg (N:=3) ?hd (cs:=#[.int .i64 a1_0,.slice A1_1 l1_1.length c1_1]) (t:=28) ?hr ?_;(case hd => rfl);(case hg => rfl);(case hr => first|(go_simp;done)|(go_simp;rfl));intro gb274 hg w4 hbox hb;have n0_:=Aside0.mk (blk_below (g:=gb273) (o:=.cells #[.int .i64 a0_0,.slice A0_1 l0_1.length c0_1] 28 (0,0)) (by (with_reducible repeat (first|refine blk_drewN ?_ _|refine blk_drew ?_|refine blk_alloc ?_ _));exact BK273.out) hb);have n1_:=Aside0.mk (below_step (by repeat (first|(with_reducible first|exact HB.out|apply below_alloc|apply pw_below_drewN|apply below_drew1|refine below_set ?_ GE273.out)|exact HB.out)) hb);have n2_:=Aside0.mk (hbox);have n3_:=Aside0.mk ((by rw [hg];exact (below_size (by repeat (first|(with_reducible first|exact HB.out|apply below_alloc|apply pw_below_drewN|apply below_drew1|refine below_set ?_ GE273.out)|exact HB.out))) : w.heap.size ≤ gb274));have n4_:=Aside0.mk ((by rw [hg];exact (below_size (by repeat (first|(with_reducible first|exact HB.out|apply below_alloc|apply pw_below_drewN|apply below_drew1|refine below_set ?_ GE273.out)|exact HB.out))) : w.heap.size ≤ gb274));have n5_:=Aside0.mk ((by rw [hg];exact Nat.ne_of_lt (blk_lt (g:=gb273) (o:=.cells #[.int .i64 a0_0,.slice A0_1 l0_1.length c0_1] 28 (0,0)) (by (with_reducible repeat (first|refine blk_drewN ?_ _|refine blk_drew ?_|refine blk_alloc ?_ _));exact BK273.out)) : gb273 ≠ gb274));have n6_:=Aside0.mk ((by rw [hg];exact Nat.ne_of_gt (blk_lt (g:=gb273) (o:=.cells #[.int .i64 a0_0,.slice A0_1 l0_1.length c0_1] 28 (0,0)) (by (with_reducible repeat (first|refine blk_drewN ?_ _|refine blk_drew ?_|refine blk_alloc ?_ _));exact BK273.out)) : gb274 ≠ gb273));clear BK273;clear HB;have BK273:=n0_;have HB:=n1_;have BK274:=n2_;have GW274:=n3_;have GE274:=n4_;have NB273_274:=n5_;have NB274_273:=n6_;clear n0_ n1_ n2_ n3_ n4_ n5_ n6_;clear hb hbox hg)|((with_reducible refine gate_dst (N:=4) rfl ?_);refine box_event ?hg (N:=4) ?hd (cs:=#[.int .i64 0,.slice none 0 0]) (t:=28) ?hr ?_;(case hd => rfl);(case hg => rfl);(case hr => first|(go_simp;done)|(go_simp;rfl));intro gb275 hg w5 hbox hb;have n0_:=Aside0.mk (blk_below (g:=gb273) (o:=.cells #[.int .i64 a0_0,.slice A0_1 l0_1.length c0_1] 28 (0,0)) (by (with_reducible repeat (first|refine blk_drewN ?_ _|refine blk_drew ?_|refine blk_alloc ?_ _));exact BK273.out) hb);have n1_:=Aside0.mk (blk_below (g:=gb274) (o:=.cells #[.int .i64 a1_0,.slice A1_1 l1_1.length c1_1] 28 (0,0)) (by (with_reducible repeat (first|refine blk_drewN ?_ _|refine blk_drew ?_|refine blk_alloc ?_ _));exact BK274.out) hb);have n2_:=Aside0.mk (below_step (by repeat (first|(with_reducible first|exact HB.out|apply below_alloc|apply pw_below_drewN|apply below_drew1|refine below_set ?_ GE273.out|refine below_set ?_ GE274.out)|exact HB.out)) hb);have n3_:=Aside0.mk (hbox);have n4_:=Aside0.mk ((by rw [hg];exact (below_size (by repeat (first|(with_reducible first|exact HB.out|apply below_alloc|apply pw_below_drewN|apply below_drew1|refine below_set ?_ GE273.out|refine below_set ?_ GE274.out)|exact HB.out))) : w.heap.size ≤ gb275));have n5_:=Aside0.mk ((by rw [hg];exact (below_size (by repeat (first|(with_reducible first|exact HB.out|apply below_alloc|apply pw_below_drewN|apply below_drew1|refine below_set ?_ GE273.out|refine below_set ?_ GE274.out)|exact HB.out))) : w.heap.size ≤ gb275));have n6_:=Aside0.mk ((by rw [hg];exact Nat.ne_of_lt (blk_lt (g:=gb273) (o:=.cells #[.int .i64 a0_0,.slice A0_1 l0_1.length c0_1] 28 (0,0)) (by (with_reducible repeat (first|refine blk_drewN ?_ _|refine blk_drew ?_|refine blk_alloc ?_ _));exact BK273.out)) : gb273 ≠ gb275));have n7_:=Aside0.mk ((by rw [hg];exact Nat.ne_of_gt (blk_lt (g:=gb273) (o:=.cells #[.int .i64 a0_0,.slice A0_1 l0_1.length c0_1] 28 (0,0)) (by (with_reducible repeat (first|refine blk_drewN ?_ _|refine blk_drew ?_|refine blk_alloc ?_ _));exact BK273.out)) : gb275 ≠ gb273));have n8_:=Aside0.mk ((by rw [hg];exact Nat.ne_of_lt (blk_lt (g:=gb274) (o:=.cells #[.int .i64 a1_0,.slice A1_1 l1_1.length c1_1] 28 (0,0)) (by (with_reducible repeat (first|refine blk_drewN ?_ _|refine blk_drew ?_|refine blk_alloc ?_ _));exact BK274.out)) : gb274 ≠ gb275));have n9_:=Aside0.mk ((by rw [hg];exact Nat.ne_of_gt (blk_lt (g:=gb274) (o:=.cells #[.int .i64 a1_0,.slice A1_1 l1_1.length c1_1] 28 (0,0)) (by (with_reducible repeat (first|refine blk_drewN ?_ _|refine blk_drew ?_|refine blk_alloc ?_ _));exact BK274.out)) : gb275 ≠ gb274));clear BK273;clear BK274;clear HB;have BK273:=n0_;have BK274:=n1_;have HB:=n2_;have BK275:=n3_;have GW275:=n4_;have GE275:=n5_;have NB273_275:=n6_;have NB275_273:=n7_;have NB274_275:=n8_;have NB275_274:=n9_;clear n0_ n1_ n2_ n3_ n4_ n5_ n6_ n7_ n8_ n9_;clear hb hbox hg;have hnb6:=NB273_274.out;have hnc6:=NB274_273.out;have hnb7:=NB273_275.out;have hnc7:=NB275_273.out;have hcz8_0 : w5.cell? ⟨gb273,0,none⟩ = some (.int .i64 a0_0):=(blk_cell BK273.out 0).trans rfl;have hcz8_1 : w5.cell? ⟨gb273,1,none⟩ = some (.slice A0_1 l0_1.length c0_1):=(blk_cell BK273.out 1).trans rfl;have hfz8_0:=blk_frozen BK273.out 0;have hfz8_1:=blk_frozen BK273.out 1)|((with_reducible refine gate_dst (N:=5) rfl ?_);refine box_event ?hg (N:=5) ?hd (cs:=#[.int .i64 0,.slice none 0 0]) (t:=28) ?hr ?_;(case hd => rfl);(case hg => rfl);(case hr => first|(go_simp;done)|(go_simp;rfl));intro gb276 hg w9 hbox hb;have n0_:=Aside0.mk (blk_below (g:=gb273) (o:=.cells #[.int .i64 a0_0,.slice A0_1 l0_1.length c0_1] 28 (0,0)) (by (with_reducible repeat (first|refine blk_drewN ?_ _|refine blk_drew ?_|refine blk_alloc ?_ _));exact BK273.out) hb);have n1_:=Aside0.mk (blk_below (g:=gb274) (o:=.cells #[.int .i64 a1_0,.slice A1_1 l1_1.length c1_1] 28 (0,0)) (by (with_reducible repeat (first|refine blk_drewN ?_ _|refine blk_drew ?_|refine blk_alloc ?_ _));exact BK274.out) hb);have n2_:=Aside0.mk (blk_below (g:=gb275) (o:=.cells #[.int .i64 0,.slice none 0 0] 28 (0,0)) (by (with_reducible repeat (first|refine blk_drewN ?_ _|refine blk_drew ?_|refine blk_alloc ?_ _));exact BK275.out) hb);have n3_:=Aside0.mk (below_step (by repeat (first|(with_reducible first|exact HB.out|apply below_alloc|apply pw_below_drewN|apply below_drew1|refine below_set ?_ GE273.out|refine below_set ?_ GE274.out|refine below_set ?_ GE275.out)|exact HB.out)) hb);have n4_:=Aside0.mk (hbox);have n5_:=Aside0.mk ((by rw [hg];exact (below_size (by repeat (first|(with_reducible first|exact HB.out|apply below_alloc|apply pw_below_drewN|apply below_drew1|refine below_set ?_ GE273.out|refine below_set ?_ GE274.out|refine below_set ?_ GE275.out)|exact HB.out))) : w.heap.size ≤ gb276));have n6_:=Aside0.mk ((by rw [hg];exact (below_size (by repeat (first|(with_reducible first|exact HB.out|apply below_alloc|apply pw_below_drewN|apply below_drew1|refine below_set ?_ GE273.out|refine below_set ?_ GE274.out|refine below_set ?_ GE275.out)|exact HB.out))) : w.heap.size ≤ gb276));have n7_:=Aside0.mk ((by rw [hg];exact Nat.ne_of_lt (blk_lt (g:=gb273) (o:=.cells #[.int .i64 a0_0,.slice A0_1 l0_1.length c0_1] 28 (0,0)) (by (with_reducible repeat (first|refine blk_drewN ?_ _|refine blk_drew ?_|refine blk_alloc ?_ _));exact BK273.out)) : gb273 ≠ gb276));have n8_:=Aside0.mk ((by rw [hg];exact Nat.ne_of_gt (blk_lt (g:=gb273) (o:=.cells #[.int .i64 a0_0,.slice A0_1 l0_1.length c0_1] 28 (0,0)) (by (with_reducible repeat (first|refine blk_drewN ?_ _|refine blk_drew ?_|refine blk_alloc ?_ _));exact BK273.out)) : gb276 ≠ gb273));have n9_:=Aside0.mk ((by rw [hg];exact Nat.ne_of_lt (blk_lt (g:=gb274) (o:=.cells #[.int .i64 a1_0,.slice A1_1 l1_1.length c1_1] 28 (0,0)) (by (with_reducible repeat (first|refine blk_drewN ?_ _|refine blk_drew ?_|refine blk_alloc ?_ _));exact BK274.out)) : gb274 ≠ gb276));have n10_:=Aside0.mk ((by rw [hg];exact Nat.ne_of_gt (blk_lt (g:=gb274) (o:=.cells #[.int .i64 a1_0,.slice A1_1 l1_1.length c1_1] 28 (0,0)) (by (with_reducible repeat (first|refine blk_drewN ?_ _|refine blk_drew ?_|refine blk_alloc ?_ _));exact BK274.out)) : gb276 ≠ gb274));have n11_:=Aside0.mk ((by rw [hg];exact Nat.ne_of_lt (blk_lt (g:=gb275) (o:=.cells #[.int .i64 0,.slice none 0 0] 28 (0,0)) (by (with_reducible repeat (first|refine blk_drewN ?_ _|refine blk_drew ?_|refine blk_alloc ?_ _));exact BK275.out)) : gb275 ≠ gb276));have n12_:=Aside0.mk ((by rw [hg];exact Nat.ne_of_gt (blk_lt (g:=gb275) (o:=.cells #[.int .i64 0,.slice none 0 0] 28 (0,0)) (by (with_reducible repeat (first|refine blk_drewN ?_ _|refine blk_drew ?_|refine blk_alloc ?_ _));exact BK275.out)) : gb276 ≠ gb275));clear BK273;clear BK274;clear BK275;clear HB;have BK273:=n0_;have BK274:=n1_;have BK275:=n2_;have HB:=n3_;have BK276:=n4_;have GW276:=n5_;have GE276:=n6_;have NB273_276:=n7_;have NB276_273:=n8_;have NB274_276:=n9_;have NB276_274:=n10_;have NB275_276:=n11_;have NB276_275:=n12_;clear n0_ n1_ n2_ n3_ n4_ n5_ n6_ n7_ n8_ n9_ n10_ n11_ n12_;clear hb hbox hg;have hnb10:=NB276_273.out;have hnc10:=NB273_276.out;have hnb11:=NB276_274.out;have hnc11:=NB274_276.out;have hnb12:=NB276_275.out;have hnc12:=NB275_276.out;have hcz13_0 : w9.cell? ⟨gb276,0,none⟩ = some (.int .i64 0):=(blk_cell BK276.out 0).trans rfl;have hcz13_1 : w9.cell? ⟨gb276,1,none⟩ = some (.slice none 0 0):=(blk_cell BK276.out 1).trans rfl;have hfz13_0:=blk_frozen BK276.out 0;have hfz13_1:=blk_frozen BK276.out 1;have hcz14_0 : w9.cell? ⟨gb273,0,none⟩ = some (.int .i64 a0_0):=(blk_cell BK273.out 0).trans rfl;have hcz14_1 : w9.cell? ⟨gb273,1,none⟩ = some (.slice A0_1 l0_1.length c0_1):=(blk_cell BK273.out 1).trans rfl;have hfz14_0:=blk_frozen BK273.out 0;have hfz14_1:=blk_frozen BK273.out 1));try go_wp2_with (first|((with_reducible refine gate_dst (N:=2) rfl ?_);refine box_event ?hg (N:=2) ?hd (cs:=#[.int .i64 a0_0,.slice A0_1 l0_1.length c0_1]) (t:=28) ?hr ?_;(case hd => rfl);(case hg => rfl);(case hr => first|(go_simp;done)|(go_simp;rfl));intro gb273 hg w3 hbox hb;have n0_:=Aside0.mk (below_step (by repeat (first|(with_reducible first|exact HB.out|apply below_alloc|apply pw_below_drewN|apply below_drew1)|exact HB.out)) hb);have n1_:=Aside0.mk (hbox);have n2_:=Aside0.mk ((by rw [hg];exact (below_size (by repeat (first|(with_reducible first|exact HB.out|apply below_alloc|apply pw_below_drewN|apply below_drew1)|exact HB.out))) : w.heap.size ≤ gb273));have n3_:=Aside0.mk ((by rw [hg];exact (below_size (by repeat (first|(with_reducible first|exact HB.out|apply below_alloc|apply pw_below_drewN|apply below_drew1)|exact HB.out))) : w.heap.size ≤ gb273));clear HB;have HB:=n0_;have BK273:=n1_;have GW273:=n2_;have GE273:=n3_;clear n0_ n1_ n2_ n3_;clear hb hbox hg)|((with_reducible refine gate_dst (N:=3) rfl ?_);refine box_event ?hg (N:=3) ?hd (cs:=#[.int .i64 a1_0,.slice A1_1 l1_1.length c1_1]) (t:=28) ?hr ?_;(case hd => rfl);(case hg => rfl);(case hr => first|(go_simp;done)|(go_simp;rfl));intro gb274 hg w4 hbox hb;have n0_:=Aside0.mk (blk_below (g:=gb273) (o:=.cells #[.int .i64 a0_0,.slice A0_1 l0_1.length c0_1] 28 (0,0)) (by (with_reducible repeat (first|refine blk_drewN ?_ _|refine blk_drew ?_|refine blk_alloc ?_ _));exact BK273.out) hb);have n1_:=Aside0.mk (below_step (by repeat (first|(with_reducible first|exact HB.out|apply below_alloc|apply pw_below_drewN|apply below_drew1|refine below_set ?_ GE273.out)|exact HB.out)) hb);have n2_:=Aside0.mk (hbox);have n3_:=Aside0.mk ((by rw [hg];exact (below_size (by repeat (first|(with_reducible first|exact HB.out|apply below_alloc|apply pw_below_drewN|apply below_drew1|refine below_set ?_ GE273.out)|exact HB.out))) : w.heap.size ≤ gb274));have n4_:=Aside0.mk ((by rw [hg];exact (below_size (by repeat (first|(with_reducible first|exact HB.out|apply below_alloc|apply pw_below_drewN|apply below_drew1|refine below_set ?_ GE273.out)|exact HB.out))) : w.heap.size ≤ gb274));have n5_:=Aside0.mk ((by rw [hg];exact Nat.ne_of_lt (blk_lt (g:=gb273) (o:=.cells #[.int .i64 a0_0,.slice A0_1 l0_1.length c0_1] 28 (0,0)) (by (with_reducible repeat (first|refine blk_drewN ?_ _|refine blk_drew ?_|refine blk_alloc ?_ _));exact BK273.out)) : gb273 ≠ gb274));have n6_:=Aside0.mk ((by rw [hg];exact Nat.ne_of_gt (blk_lt (g:=gb273) (o:=.cells #[.int .i64 a0_0,.slice A0_1 l0_1.length c0_1] 28 (0,0)) (by (with_reducible repeat (first|refine blk_drewN ?_ _|refine blk_drew ?_|refine blk_alloc ?_ _));exact BK273.out)) : gb274 ≠ gb273));clear BK273;clear HB;have BK273:=n0_;have HB:=n1_;have BK274:=n2_;have GW274:=n3_;have GE274:=n4_;have NB273_274:=n5_;have NB274_273:=n6_;clear n0_ n1_ n2_ n3_ n4_ n5_ n6_;clear hb hbox hg)|((with_reducible refine gate_dst (N:=4) rfl ?_);refine box_event ?hg (N:=4) ?hd (cs:=#[.int .i64 0,.slice none 0 0]) (t:=28) ?hr ?_;(case hd => rfl);(case hg => rfl);(case hr => first|(go_simp;done)|(go_simp;rfl));intro gb275 hg w5 hbox hb;have n0_:=Aside0.mk (blk_below (g:=gb273) (o:=.cells #[.int .i64 a0_0,.slice A0_1 l0_1.length c0_1] 28 (0,0)) (by (with_reducible repeat (first|refine blk_drewN ?_ _|refine blk_drew ?_|refine blk_alloc ?_ _));exact BK273.out) hb);have n1_:=Aside0.mk (blk_below (g:=gb274) (o:=.cells #[.int .i64 a1_0,.slice A1_1 l1_1.length c1_1] 28 (0,0)) (by (with_reducible repeat (first|refine blk_drewN ?_ _|refine blk_drew ?_|refine blk_alloc ?_ _));exact BK274.out) hb);have n2_:=Aside0.mk (below_step (by repeat (first|(with_reducible first|exact HB.out|apply below_alloc|apply pw_below_drewN|apply below_drew1|refine below_set ?_ GE273.out|refine below_set ?_ GE274.out)|exact HB.out)) hb);have n3_:=Aside0.mk (hbox);have n4_:=Aside0.mk ((by rw [hg];exact (below_size (by repeat (first|(with_reducible first|exact HB.out|apply below_alloc|apply pw_below_drewN|apply below_drew1|refine below_set ?_ GE273.out|refine below_set ?_ GE274.out)|exact HB.out))) : w.heap.size ≤ gb275));have n5_:=Aside0.mk ((by rw [hg];exact (below_size (by repeat (first|(with_reducible first|exact HB.out|apply below_alloc|apply pw_below_drewN|apply below_drew1|refine below_set ?_ GE273.out|refine below_set ?_ GE274.out)|exact HB.out))) : w.heap.size ≤ gb275));have n6_:=Aside0.mk ((by rw [hg];exact Nat.ne_of_lt (blk_lt (g:=gb273) (o:=.cells #[.int .i64 a0_0,.slice A0_1 l0_1.length c0_1] 28 (0,0)) (by (with_reducible repeat (first|refine blk_drewN ?_ _|refine blk_drew ?_|refine blk_alloc ?_ _));exact BK273.out)) : gb273 ≠ gb275));have n7_:=Aside0.mk ((by rw [hg];exact Nat.ne_of_gt (blk_lt (g:=gb273) (o:=.cells #[.int .i64 a0_0,.slice A0_1 l0_1.length c0_1] 28 (0,0)) (by (with_reducible repeat (first|refine blk_drewN ?_ _|refine blk_drew ?_|refine blk_alloc ?_ _));exact BK273.out)) : gb275 ≠ gb273));have n8_:=Aside0.mk ((by rw [hg];exact Nat.ne_of_lt (blk_lt (g:=gb274) (o:=.cells #[.int .i64 a1_0,.slice A1_1 l1_1.length c1_1] 28 (0,0)) (by (with_reducible repeat (first|refine blk_drewN ?_ _|refine blk_drew ?_|refine blk_alloc ?_ _));exact BK274.out)) : gb274 ≠ gb275));have n9_:=Aside0.mk ((by rw [hg];exact Nat.ne_of_gt (blk_lt (g:=gb274) (o:=.cells #[.int .i64 a1_0,.slice A1_1 l1_1.length c1_1] 28 (0,0)) (by (with_reducible repeat (first|refine blk_drewN ?_ _|refine blk_drew ?_|refine blk_alloc ?_ _));exact BK274.out)) : gb275 ≠ gb274));clear BK273;clear BK274;clear HB;have BK273:=n0_;have BK274:=n1_;have HB:=n2_;have BK275:=n3_;have GW275:=n4_;have GE275:=n5_;have NB273_275:=n6_;have NB275_273:=n7_;have NB274_275:=n8_;have NB275_274:=n9_;clear n0_ n1_ n2_ n3_ n4_ n5_ n6_ n7_ n8_ n9_;clear hb hbox hg;have hnb6:=NB273_274.out;have hnc6:=NB274_273.out;have hnb7:=NB273_275.out;have hnc7:=NB275_273.out;have hcz8_0 : w5.cell? ⟨gb273,0,none⟩ = some (.int .i64 a0_0):=(blk_cell BK273.out 0).trans rfl;have hcz8_1 : w5.cell? ⟨gb273,1,none⟩ = some (.slice A0_1 l0_1.length c0_1):=(blk_cell BK273.out 1).trans rfl;have hfz8_0:=blk_frozen BK273.out 0;have hfz8_1:=blk_frozen BK273.out 1)|((with_reducible refine gate_dst (N:=5) rfl ?_);refine box_event ?hg (N:=5) ?hd (cs:=#[.int .i64 0,.slice none 0 0]) (t:=28) ?hr ?_;(case hd => rfl);(case hg => rfl);(case hr => first|(go_simp;done)|(go_simp;rfl));intro gb276 hg w9 hbox hb;have n0_:=Aside0.mk (blk_below (g:=gb273) (o:=.cells #[.int .i64 a0_0,.slice A0_1 l0_1.length c0_1] 28 (0,0)) (by (with_reducible repeat (first|refine blk_drewN ?_ _|refine blk_drew ?_|refine blk_alloc ?_ _));exact BK273.out) hb);have n1_:=Aside0.mk (blk_below (g:=gb274) (o:=.cells #[.int .i64 a1_0,.slice A1_1 l1_1.length c1_1] 28 (0,0)) (by (with_reducible repeat (first|refine blk_drewN ?_ _|refine blk_drew ?_|refine blk_alloc ?_ _));exact BK274.out) hb);have n2_:=Aside0.mk (blk_below (g:=gb275) (o:=.cells #[.int .i64 0,.slice none 0 0] 28 (0,0)) (by (with_reducible repeat (first|refine blk_drewN ?_ _|refine blk_drew ?_|refine blk_alloc ?_ _));exact BK275.out) hb);have n3_:=Aside0.mk (below_step (by repeat (first|(with_reducible first|exact HB.out|apply below_alloc|apply pw_below_drewN|apply below_drew1|refine below_set ?_ GE273.out|refine below_set ?_ GE274.out|refine below_set ?_ GE275.out)|exact HB.out)) hb);have n4_:=Aside0.mk (hbox);have n5_:=Aside0.mk ((by rw [hg];exact (below_size (by repeat (first|(with_reducible first|exact HB.out|apply below_alloc|apply pw_below_drewN|apply below_drew1|refine below_set ?_ GE273.out|refine below_set ?_ GE274.out|refine below_set ?_ GE275.out)|exact HB.out))) : w.heap.size ≤ gb276));have n6_:=Aside0.mk ((by rw [hg];exact (below_size (by repeat (first|(with_reducible first|exact HB.out|apply below_alloc|apply pw_below_drewN|apply below_drew1|refine below_set ?_ GE273.out|refine below_set ?_ GE274.out|refine below_set ?_ GE275.out)|exact HB.out))) : w.heap.size ≤ gb276));have n7_:=Aside0.mk ((by rw [hg];exact Nat.ne_of_lt (blk_lt (g:=gb273) (o:=.cells #[.int .i64 a0_0,.slice A0_1 l0_1.length c0_1] 28 (0,0)) (by (with_reducible repeat (first|refine blk_drewN ?_ _|refine blk_drew ?_|refine blk_alloc ?_ _));exact BK273.out)) : gb273 ≠ gb276));have n8_:=Aside0.mk ((by rw [hg];exact Nat.ne_of_gt (blk_lt (g:=gb273) (o:=.cells #[.int .i64 a0_0,.slice A0_1 l0_1.length c0_1] 28 (0,0)) (by (with_reducible repeat (first|refine blk_drewN ?_ _|refine blk_drew ?_|refine blk_alloc ?_ _));exact BK273.out)) : gb276 ≠ gb273));have n9_:=Aside0.mk ((by rw [hg];exact Nat.ne_of_lt (blk_lt (g:=gb274) (o:=.cells #[.int .i64 a1_0,.slice A1_1 l1_1.length c1_1] 28 (0,0)) (by (with_reducible repeat (first|refine blk_drewN ?_ _|refine blk_drew ?_|refine blk_alloc ?_ _));exact BK274.out)) : gb274 ≠ gb276));have n10_:=Aside0.mk ((by rw [hg];exact Nat.ne_of_gt (blk_lt (g:=gb274) (o:=.cells #[.int .i64 a1_0,.slice A1_1 l1_1.length c1_1] 28 (0,0)) (by (with_reducible repeat (first|refine blk_drewN ?_ _|refine blk_drew ?_|refine blk_alloc ?_ _));exact BK274.out)) : gb276 ≠ gb274));have n11_:=Aside0.mk ((by rw [hg];exact Nat.ne_of_lt (blk_lt (g:=gb275) (o:=.cells #[.int .i64 0,.slice none 0 0] 28 (0,0)) (by (with_reducible repeat (first|refine blk_drewN ?_ _|refine blk_drew ?_|refine blk_alloc ?_ _));exact BK275.out)) : gb275 ≠ gb276));have n12_:=Aside0.mk ((by rw [hg];exact Nat.ne_of_gt (blk_lt (g:=gb275) (o:=.cells #[.int .i64 0,.slice none 0 0] 28 (0,0)) (by (with_reducible repeat (first|refine blk_drewN ?_ _|refine blk_drew ?_|refine blk_alloc ?_ _));exact BK275.out)) : gb276 ≠ gb275));clear BK273;clear BK274;clear BK275;clear HB;have BK273:=n0_;have BK274:=n1_;have BK275:=n2_;have HB:=n3_;have BK276:=n4_;have GW276:=n5_;have GE276:=n6_;have NB273_276:=n7_;have NB276_273:=n8_;have NB274_276:=n9_;have NB276_274:=n10_;have NB275_276:=n11_;have NB276_275:=n12_;clear n0_ n1_ n2_ n3_ n4_ n5_ n6_ n7_ n8_ n9_ n10_ n11_ n12_;clear hb hbox hg;have hnb10:=NB276_273.out;have hnc10:=NB273_276.out;have hnb11:=NB276_274.out;have hnc11:=NB274_276.out;have hnb12:=NB276_275.out;have hnc12:=NB275_276.out;have hcz13_0 : w9.cell? ⟨gb276,0,none⟩ = some (.int .i64 0):=(blk_cell BK276.out 0).trans rfl;have hcz13_1 : w9.cell? ⟨gb276,1,none⟩ = some (.slice none 0 0):=(blk_cell BK276.out 1).trans rfl;have hfz13_0:=blk_frozen BK276.out 0;have hfz13_1:=blk_frozen BK276.out 1;have hcz14_0 : w9.cell? ⟨gb273,0,none⟩ = some (.int .i64 a0_0):=(blk_cell BK273.out 0).trans rfl;have hcz14_1 : w9.cell? ⟨gb273,1,none⟩ = some (.slice A0_1 l0_1.length c0_1):=(blk_cell BK273.out 1).trans rfl;have hfz14_0:=blk_frozen BK273.out 0;have hfz14_1:=blk_frozen BK273.out 1)))
 go_loopg [17] k (fun kq v17 w' => ∃ (x17_1 : Int) (x277001_1 : List Int) (u277001 : Value),v17 = .int .i64 x17_1 ∧ Aside0 (spec_l6Mul.l0 kq (wrap64 (a0_0 * a0_0)) x17_1 a0_0 l0_1 a1_0 l1_1 a0_0 x277001_1 = some (r1,r2)) ∧ Aside0 (kq ≤ k) ∧ Aside0 (Kd.R (Kd.int .i64) 3 w' w.heap.size (fun _ => True) u277001 x277001_1) ∧ Aside0 (w'.heap[gb273]? = some (.cells #[.int .i64 a0_0,(.slice A0_1 l0_1.length c0_1)] 28 (0,0))) ∧ Aside0 (w'.heap[gb274]? = some (.cells #[.int .i64 a1_0,(.slice A1_1 l1_1.length c1_1)] 28 (0,0))) ∧ Aside0 (w'.heap[gb275]? = some (.cells #[.int .i64 0,(.slice none 0 0)] 28 (0,0))) ∧ Aside0 (w'.heap[gb276]? = some (.cells #[.int .i64 a0_0,u277001] 28 (0,0))) ∧ Aside0 (Below w.heap.size w w'))
 case atStart => exact ⟨(0),(([] : List Int)),(.slice none 0 0),(by first|rfl|(simp;done)|(simp [*];done)),H',⟨Nat.le_refl _⟩,⟨by first|exact Kd.R_nil _ _ _ _ _|exact Kd.N_nil _ _ _ _ _|exact Kd.V_nil _ _ _ _ _|exact Kd.Q_nil _ _ _ _ _|exact Kd.S_nil _ _ _ _ _⟩,⟨by (with_reducible repeat (first|refine blk_drewN ?_ _|refine blk_drew ?_|refine blk_alloc ?_ _));refine blk_far ?_ NB273_276.out _;(with_reducible repeat (first|refine blk_drewN ?_ _|refine blk_drew ?_|refine blk_alloc ?_ _));refine blk_far ?_ NB273_276.out _;(with_reducible repeat (first|refine blk_drewN ?_ _|refine blk_drew ?_|refine blk_alloc ?_ _));exact BK273.out⟩,⟨by (with_reducible repeat (first|refine blk_drewN ?_ _|refine blk_drew ?_|refine blk_alloc ?_ _));refine blk_far ?_ NB274_276.out _;(with_reducible repeat (first|refine blk_drewN ?_ _|refine blk_drew ?_|refine blk_alloc ?_ _));refine blk_far ?_ NB274_276.out _;(with_reducible repeat (first|refine blk_drewN ?_ _|refine blk_drew ?_|refine blk_alloc ?_ _));exact BK274.out⟩,⟨by (with_reducible repeat (first|refine blk_drewN ?_ _|refine blk_drew ?_|refine blk_alloc ?_ _));refine blk_far ?_ NB275_276.out _;(with_reducible repeat (first|refine blk_drewN ?_ _|refine blk_drew ?_|refine blk_alloc ?_ _));refine blk_far ?_ NB275_276.out _;(with_reducible repeat (first|refine blk_drewN ?_ _|refine blk_drew ?_|refine blk_alloc ?_ _));exact BK275.out⟩,⟨by (with_reducible repeat (first|refine blk_drewN ?_ _|refine blk_drew ?_|refine blk_alloc ?_ _));refine blk_put (cs:=#[.int .i64 a0_0,.slice none 0 0]) ?_ 1 _ rfl;(with_reducible repeat (first|refine blk_drewN ?_ _|refine blk_drew ?_|refine blk_alloc ?_ _));refine blk_put (cs:=#[.int .i64 0,.slice none 0 0]) ?_ 0 _ rfl;(with_reducible repeat (first|refine blk_drewN ?_ _|refine blk_drew ?_|refine blk_alloc ?_ _));exact BK276.out⟩,⟨by repeat (first|(with_reducible first|exact HB.out|apply below_alloc|apply pw_below_drewN|apply below_drew1|refine below_set ?_ GE273.out|refine below_set ?_ GE274.out|refine below_set ?_ GE275.out|refine below_set ?_ GE276.out)|exact HB.out)⟩⟩
 case round =>
  clear H'
  try clear c1
  try clear p2
  try clear c6
  try clear p6
  try clear c7
  try clear c10
  try clear c11
  try clear c12
  try clear hcz13_0
  try clear hcz13_1
  try clear hcz14_0
  try clear hcz14_1
  try clear hcz8_0
  try clear hcz8_1
  try clear hfz13_0
  try clear hfz13_1
  try clear hfz14_0
  try clear hfz14_1
  try clear hfz8_0
  try clear hfz8_1
  obtain ⟨x17_1,x277001_1,u277001,rfl,HA,HK1,HO_277001,BK273,BK274,BK275,BK276,HB⟩:=hrel
  cases gk with
  | zero => exact absurd HA.out (by simp [spec_l6Mul.l0])
  | succ k1 =>
   have H:=HA.out
   clear HA
   simp only [spec_l6Mul.l0] at H
   by_cases c15 : x17_1 < (wrap64 (a0_0 * a0_0))
   ·rw [if_pos c15] at H
    have c15b0 : decide (x17_1 < (wrap64 (a0_0 * a0_0))) = true:=decide_eq_true c15
    clear c15
    have H':=Aside0.mk H
    clear H
    have hnb16:=NB273_274.out
    have hnc16:=NB274_273.out
    have hnb17:=NB273_275.out
    have hnc17:=NB275_273.out
    have hnb18:=NB273_276.out
    have hnc18:=NB276_273.out
    have hcz19_0 : wr.cell? ⟨gb273,0,none⟩ = some (.int .i64 a0_0):=(blk_cell BK273.out 0).trans rfl
    have hcz19_1 : wr.cell? ⟨gb273,1,none⟩ = some (.slice A0_1 l0_1.length c0_1):=(blk_cell BK273.out 1).trans rfl
    have hfz19_0:=blk_frozen BK273.out 0
    have hfz19_1:=blk_frozen BK273.out 1
    go_wp2
    repeat (go_quiet (fail);try go_wp2)
    go_loopg [7,22] k1 (fun kq v7 v22 w' => ∃ (x7_2 : Int) (x22_2 : Int),v7 = .int .i64 x7_2 ∧ v22 = .int .i64 x22_2 ∧ Aside0 (spec_l6Mul.l1 kq x17_1 x7_2 (wrap64 (a0_0 * a0_0)) x17_1 a0_0 x22_2 a0_0 l0_1 a1_0 l1_1 a0_0 x277001_1 = some (r1,r2)) ∧ Aside0 (kq ≤ k1) ∧ Aside0 (Kd.R (Kd.int .i64) 3 w' w.heap.size (fun _ => True) u277001 x277001_1) ∧ Aside0 (w'.heap[gb273]? = some (.cells #[.int .i64 a0_0,(.slice A0_1 l0_1.length c0_1)] 28 (0,0))) ∧ Aside0 (w'.heap[gb274]? = some (.cells #[.int .i64 a1_0,(.slice A1_1 l1_1.length c1_1)] 28 (0,0))) ∧ Aside0 (w'.heap[gb275]? = some (.cells #[.int .i64 0,(.slice none 0 0)] 28 (0,0))) ∧ Aside0 (w'.heap[gb276]? = some (.cells #[.int .i64 a0_0,u277001] 28 (0,0))) ∧ Aside0 (Below w.heap.size w w'))
    case atStart => exact ⟨(3),(0),(by first|rfl|(simp;done)|(simp [*];done)),(by first|rfl|(simp;done)|(simp [*];done)),H',⟨Nat.le_refl _⟩,⟨by (with_reducible repeat (first|apply Kd.R_alloc|apply Kd.R_drewN|apply Kd.R_drew));exact HO_277001.out⟩,⟨by (with_reducible repeat (first|refine blk_drewN ?_ _|refine blk_drew ?_|refine blk_alloc ?_ _));exact BK273.out⟩,⟨by (with_reducible repeat (first|refine blk_drewN ?_ _|refine blk_drew ?_|refine blk_alloc ?_ _));exact BK274.out⟩,⟨by (with_reducible repeat (first|refine blk_drewN ?_ _|refine blk_drew ?_|refine blk_alloc ?_ _));exact BK275.out⟩,⟨by (with_reducible repeat (first|refine blk_drewN ?_ _|refine blk_drew ?_|refine blk_alloc ?_ _));exact BK276.out⟩,⟨by repeat (first|(with_reducible first|exact HB.out|apply below_alloc|apply pw_below_drewN|apply below_drew1|refine below_set ?_ GE273.out|refine below_set ?_ GE274.out|refine below_set ?_ GE275.out|refine below_set ?_ GE276.out)|exact HB.out)⟩⟩
    case round =>
     clear H'
     try clear c1
     try clear p2
     try clear c6
     try clear p6
     try clear c7
     try clear c10
     try clear c11
     try clear c12
     try clear c15
     try clear c15b0
     try clear c16
     try clear c17
     try clear c18
     try clear hcz13_0
     try clear hcz13_1
     try clear hcz14_0
     try clear hcz14_1
     try clear hcz19_0
     try clear hcz19_1
     try clear hcz8_0
     try clear hcz8_1
     try clear hfz13_0
     try clear hfz13_1
     try clear hfz14_0
     try clear hfz14_1
     try clear hfz19_0
     try clear hfz19_1
     try clear hfz8_0
     try clear hfz8_1
     try clear p2
     try clear p6
     obtain ⟨x7_2,x22_2,rfl,rfl,HA,HK2,HO_277001,BK273,BK274,BK275,BK276,HB⟩:=hrel
     cases gk with
     | zero => exact absurd HA.out (by simp [spec_l6Mul.l1])
     | succ k2 =>
      have H:=HA.out
      clear HA
      simp only [spec_l6Mul.l1] at H
      by_cases c20 : x22_2 < a0_0
      ·rw [if_pos c20] at H
       have c20b0 : decide (x22_2 < a0_0) = true:=decide_eq_true c20
       clear c20
       by_cases c21 : a0_0 = 0
       ·rw [if_pos c21] at H
        exact absurd H (by simp)
       ·rw [if_neg c21] at H
        have c21b0 : (a0_0 == 0) = false:=beq_eq_false_iff_ne.mpr c21
        have c21b1 : (a0_0 != 0) = true:=bne_iff_ne.mpr c21
        obtain ⟨ji22,hji22⟩ : ∃ j_ : Int,(wrap64 ((wrap64 ((wrap64 (Int.tdiv x17_1 a0_0)) * a0_0)) + x22_2)) = j_:=⟨_,rfl⟩
        replace H : (if 0 ≤ (ji22) then (if (ji22) < (l0_1.length : Int) then (if 0 ≤ (wrap64 ((wrap64 (x22_2 * a0_0)) + (Int.tmod x17_1 a0_0))) then (if (wrap64 ((wrap64 (x22_2 * a0_0)) + (Int.tmod x17_1 a0_0))) < (l1_1.length : Int) then (spec_l6Mul.l1 k2 x17_1 (mn x7_2 (mx (rd l0_1 (ji22)) (rd l1_1 (wrap64 ((wrap64 (x22_2 * a0_0)) + (Int.tmod x17_1 a0_0)))))) (wrap64 (a0_0 * a0_0)) x17_1 a0_0 (wrap64 (x22_2 + 1)) a0_0 l0_1 a1_0 l1_1 a0_0 x277001_1) else (none)) else (none)) else (none)) else (none)) = some (r1,r2):=by first|(rw [hji22] at H;exact H)|(simp only [hji22] at H ⊢;exact H)
        have hji22w : (IntKind.i64.wrap ((wrap64 ((wrap64 (Int.tdiv x17_1 a0_0)) * a0_0)) + x22_2)) = ji22:=(i64_w _).trans hji22
        by_cases c23 : 0 ≤ (ji22)
        ·rw [if_pos c23] at H
         have c23b0 : decide (0 ≤ (ji22)) = true:=decide_eq_true c23
         clear c23
         by_cases c24 : (ji22) < (l0_1.length : Int)
         ·rw [if_pos c24] at H
          have c24b0 : decide ((ji22) < (l0_1.length : Int)) = true:=decide_eq_true c24
          clear c24
          obtain ⟨ji25,hji25⟩ : ∃ j_ : Int,(wrap64 ((wrap64 (x22_2 * a0_0)) + (Int.tmod x17_1 a0_0))) = j_:=⟨_,rfl⟩
          replace H : (if 0 ≤ (ji25) then (if (ji25) < (l1_1.length : Int) then (spec_l6Mul.l1 k2 x17_1 (mn x7_2 (mx (rd l0_1 (ji22)) (rd l1_1 (ji25)))) (wrap64 (a0_0 * a0_0)) x17_1 a0_0 (wrap64 (x22_2 + 1)) a0_0 l0_1 a1_0 l1_1 a0_0 x277001_1) else (none)) else (none)) = some (r1,r2):=by first|(rw [hji25] at H;exact H)|(simp only [hji25] at H ⊢;exact H)
          have hji25w : (IntKind.i64.wrap ((wrap64 (x22_2 * a0_0)) + (Int.tmod x17_1 a0_0))) = ji25:=(i64_w _).trans hji25
          by_cases c26 : 0 ≤ (ji25)
          ·rw [if_pos c26] at H
           have c26b0 : decide (0 ≤ (ji25)) = true:=decide_eq_true c26
           clear c26
           by_cases c27 : (ji25) < (l1_1.length : Int)
           ·rw [if_pos c27] at H
            have c27b0 : decide ((ji25) < (l1_1.length : Int)) = true:=decide_eq_true c27
            clear c27
            obtain ⟨ji28,hji28⟩ : ∃ j_ : Int,(mx (rd l0_1 (ji22)) (rd l1_1 (ji25))) = j_:=⟨_,rfl⟩
            replace H : (spec_l6Mul.l1 k2 x17_1 (mn x7_2 (ji28)) (wrap64 (a0_0 * a0_0)) x17_1 a0_0 (wrap64 (x22_2 + 1)) a0_0 l0_1 a1_0 l1_1 a0_0 x277001_1) = some (r1,r2):=by first|(rw [hji28] at H;exact H)|(simp only [hji28] at H ⊢;exact H)
            have hji28_ : (if (rd l0_1 (ji22)) < (rd l1_1 (ji25)) then (rd l1_1 (ji25)) else (rd l0_1 (ji22))) = ji28:=hji28
            obtain ⟨ji29,hji29⟩ : ∃ j_ : Int,(mn x7_2 (ji28)) = j_:=⟨_,rfl⟩
            replace H : (spec_l6Mul.l1 k2 x17_1 ji29 (wrap64 (a0_0 * a0_0)) x17_1 a0_0 (wrap64 (x22_2 + 1)) a0_0 l0_1 a1_0 l1_1 a0_0 x277001_1) = some (r1,r2):=by first|(rw [hji29] at H;exact H)|(simp only [hji29] at H ⊢;exact H)
            have hji29_ : (if (ji28) < x7_2 then (ji28) else x7_2) = ji29:=hji29
            have H':=Aside0.mk H
            clear H
            have hnb30:=NB273_274.out
            have hnc30:=NB274_273.out
            have hnb31:=NB273_275.out
            have hnc31:=NB275_273.out
            have hnb32:=NB273_276.out
            have hnc32:=NB276_273.out
            have hcz33_0 : wr.cell? ⟨gb273,0,none⟩ = some (.int .i64 a0_0):=(blk_cell BK273.out 0).trans rfl
            have hcz33_1 : wr.cell? ⟨gb273,1,none⟩ = some (.slice A0_1 l0_1.length c0_1):=(blk_cell BK273.out 1).trans rfl
            have hfz33_0:=blk_frozen BK273.out 0
            have hfz33_1:=blk_frozen BK273.out 1
            have p277 : 0 ≤ ((ji22) : Int):=of_decide_eq_true (by first|(with_reducible assumption)|assumption)
            have q277 : (ji22) < (l0_1.length : Int):=of_decide_eq_true (by first|(with_reducible assumption)|assumption)
            obtain ⟨ad277,e277,hx277_0⟩:=Kd.at_int HR0_1.out (ji22) p277 q277
            cases e277
            replace hx277_0:=(HB.out.cell (World.block_lt_of_cell? w _ hx277_0)).trans hx277_0
            replace p277:=eq_true p277
            replace q277:=eq_true q277
            have hnb34:=NB274_275.out
            have hnc34:=NB275_274.out
            have hnb35:=NB274_276.out
            have hnc35:=NB276_274.out
            have hcz36_0 : wr.cell? ⟨gb274,0,none⟩ = some (.int .i64 a1_0):=(blk_cell BK274.out 0).trans rfl
            have hcz36_1 : wr.cell? ⟨gb274,1,none⟩ = some (.slice A1_1 l1_1.length c1_1):=(blk_cell BK274.out 1).trans rfl
            have hfz36_0:=blk_frozen BK274.out 0
            have hfz36_1:=blk_frozen BK274.out 1
            have p278 : 0 ≤ ((ji25) : Int):=of_decide_eq_true (by first|(with_reducible assumption)|assumption)
            have q278 : (ji25) < (l1_1.length : Int):=of_decide_eq_true (by first|(with_reducible assumption)|assumption)
            obtain ⟨ad278,e278,hx278_0⟩:=Kd.at_int HR1_1.out (ji25) p278 q278
            cases e278
            replace hx278_0:=(HB.out.cell (World.block_lt_of_cell? w _ hx278_0)).trans hx278_0
            replace p278:=eq_true p278
            replace q278:=eq_true q278
            go_wp2
            repeat (go_quiet (fail);try go_wp2)
            go_roundg k2
            case measure => have:=HK1.out;have:=HK2.out;omega
            case rel => exact ⟨(ji29),(wrap64 (x22_2 + 1)),(by first|rfl|(simp;done)|(simp only [← hji29] <;> (first|rfl|simp))|(simp [*];done)),(by first|rfl|(simp;done)|(simp [*];done)),H',⟨by have:=HK1.out;have:=HK2.out;omega⟩,⟨by (with_reducible repeat (first|apply Kd.R_alloc|apply Kd.R_drewN|apply Kd.R_drew));exact HO_277001.out⟩,⟨by (with_reducible repeat (first|refine blk_drewN ?_ _|refine blk_drew ?_|refine blk_alloc ?_ _));exact BK273.out⟩,⟨by (with_reducible repeat (first|refine blk_drewN ?_ _|refine blk_drew ?_|refine blk_alloc ?_ _));exact BK274.out⟩,⟨by (with_reducible repeat (first|refine blk_drewN ?_ _|refine blk_drew ?_|refine blk_alloc ?_ _));exact BK275.out⟩,⟨by (with_reducible repeat (first|refine blk_drewN ?_ _|refine blk_drew ?_|refine blk_alloc ?_ _));exact BK276.out⟩,⟨by repeat (first|(with_reducible first|exact HB.out|apply below_alloc|apply pw_below_drewN|apply below_drew1|refine below_set ?_ GE273.out|refine below_set ?_ GE274.out|refine below_set ?_ GE275.out|refine below_set ?_ GE276.out)|exact HB.out)⟩⟩
           ·rw [if_neg c27] at H
            exact absurd H (by simp)
          ·rw [if_neg c26] at H
           exact absurd H (by simp)
         ·rw [if_neg c24] at H
          exact absurd H (by simp)
        ·rw [if_neg c23] at H
         exact absurd H (by simp)
      ·rw [if_neg c20] at H
       have c20b0 : decide (x22_2 < a0_0) = false:=decide_eq_false c20
       clear c20
       by_cases c37 : x277001_1.length < 17592186044416
       ·rw [if_pos c37] at H
        have LMc37:=Aside0.mk c37
        clear c37
        obtain ⟨y279,hy279⟩ : ∃ y_ : List Int,y_ = (x277001_1 ++ [x7_2]):=⟨_,rfl⟩
        replace H : (spec_l6Mul.l0 k2 (wrap64 (a0_0 * a0_0)) (wrap64 (x17_1 + 1)) a0_0 l0_1 a1_0 l1_1 a0_0 y279) = some (r1,r2):=by first|(rw [hy279];with_reducible exact H)|(have H2_:=(Option.bind_some _ _).symm.trans H;rw [hy279];with_reducible exact H2_)|(have H2_:=(Option.bind_some _ _).symm.trans H;with_reducible exact H2_)|with_reducible exact H|(rw [hy279];exact H)|exact H
        have Ny279:=Aside0.mk hy279
        clear hy279
        have H':=Aside0.mk H
        clear H
        have hnb38:=NB276_273.out
        have hnc38:=NB273_276.out
        have hnb39:=NB276_274.out
        have hnc39:=NB274_276.out
        have hnb40:=NB276_275.out
        have hnc40:=NB275_276.out
        have hcz41_0 : wr.cell? ⟨gb276,0,none⟩ = some (.int .i64 a0_0):=(blk_cell BK276.out 0).trans rfl
        have hcz41_1 : wr.cell? ⟨gb276,1,none⟩ = some (u277001):=(blk_cell BK276.out 1).trans rfl
        have hfz41_0:=blk_frozen BK276.out 0
        have hfz41_1:=blk_frozen BK276.out 1
        go_wp2_with (first|((with_reducible refine gate_builtin (b:=.append) (xs:=#[.tmp 56,.tmp 58]) rfl ?_);at_builtin;refine Kd.R_append (Kd.int .i64) (w0:=w) w.heap.size rfl (.tmp 56) (.tmp 58) 24 3 (.int .i64 0) 8 rfl Try.underlying24 info3 rfl (by decide) (by omega) u277001 x277001_1 x7_2 [.int .i64 x7_2] (fun _ => True) (fun _ => False) rfl rfl ?aP (fun _ hk => hk.elim) ?aF ?aO ?aB ?aS ?aL ?_;(case aP => exact rfl);(case aB => exact (by repeat (first|(with_reducible first|exact HB.out|apply below_alloc|apply pw_below_drewN|apply below_drew1|refine below_set ?_ GE273.out|refine below_set ?_ GE274.out|refine below_set ?_ GE275.out|refine below_set ?_ GE276.out)|exact HB.out)));(case aF => exact (fun _ _ => trivial));(case aO => exact (by (with_reducible repeat (first|apply Kd.R_alloc|apply Kd.R_drewN|apply Kd.R_drew));exact HO_277001.out));(case aS => exact (below_size (by repeat (first|(with_reducible first|exact HB.out|apply below_alloc|apply pw_below_drewN|apply below_drew1|refine below_set ?_ GE273.out|refine below_set ?_ GE274.out|refine below_set ?_ GE275.out|refine below_set ?_ GE276.out)|exact HB.out))));(case aL => have:=LMc37.out;omega);intro v280 w42 ho hb hg hat;rw [← Ny279.out] at ho;have n0_:=Aside0.mk (blk_grown (g:=gb273) (o:=.cells #[.int .i64 a0_0,.slice A0_1 l0_1.length c0_1] 28 (0,0)) (by (with_reducible repeat (first|refine blk_drewN ?_ _|refine blk_drew ?_|refine blk_alloc ?_ _));exact BK273.out) hg (Kd.R_ne HO_277001.out BK273.out (by decide)));have n1_:=Aside0.mk (blk_grown (g:=gb274) (o:=.cells #[.int .i64 a1_0,.slice A1_1 l1_1.length c1_1] 28 (0,0)) (by (with_reducible repeat (first|refine blk_drewN ?_ _|refine blk_drew ?_|refine blk_alloc ?_ _));exact BK274.out) hg (Kd.R_ne HO_277001.out BK274.out (by decide)));have n2_:=Aside0.mk (blk_grown (g:=gb275) (o:=.cells #[.int .i64 0,.slice none 0 0] 28 (0,0)) (by (with_reducible repeat (first|refine blk_drewN ?_ _|refine blk_drew ?_|refine blk_alloc ?_ _));exact BK275.out) hg (Kd.R_ne HO_277001.out BK275.out (by decide)));have n3_:=Aside0.mk (blk_grown (g:=gb276) (o:=.cells #[.int .i64 a0_0,u277001] 28 (0,0)) (by (with_reducible repeat (first|refine blk_drewN ?_ _|refine blk_drew ?_|refine blk_alloc ?_ _));exact BK276.out) hg (Kd.R_ne HO_277001.out BK276.out (by decide)));have n4_:=Aside0.mk (hb);have n5_:=Aside0.mk (ho);clear BK273;clear BK274;clear BK275;clear BK276;clear HB;clear HO_277001;have BK273:=n0_;have BK274:=n1_;have BK275:=n2_;have BK276:=n3_;have HB:=n4_;have HO281:=n5_;clear n0_ n1_ n2_ n3_ n4_ n5_;clear ho hb hg hat;obtain ⟨Ao43,co43,eo43⟩:=Kd.R_slice HO281.out;subst eo43;have hcz44_0 : w42.cell? ⟨gb276,0,none⟩ = some (.int .i64 a0_0):=(blk_cell BK276.out 0).trans rfl;have hcz44_1 : w42.cell? ⟨gb276,1,none⟩ = some (u277001):=(blk_cell BK276.out 1).trans rfl;have hfz44_0:=blk_frozen BK276.out 0;have hfz44_1:=blk_frozen BK276.out 1))
        repeat (go_quiet (first|((with_reducible refine gate_builtin (b:=.append) (xs:=#[.tmp 56,.tmp 58]) rfl ?_);at_builtin;refine Kd.R_append (Kd.int .i64) (w0:=w) w.heap.size rfl (.tmp 56) (.tmp 58) 24 3 (.int .i64 0) 8 rfl Try.underlying24 info3 rfl (by decide) (by omega) u277001 x277001_1 x7_2 [.int .i64 x7_2] (fun _ => True) (fun _ => False) rfl rfl ?aP (fun _ hk => hk.elim) ?aF ?aO ?aB ?aS ?aL ?_;(case aP => exact rfl);(case aB => exact (by repeat (first|(with_reducible first|exact HB.out|apply below_alloc|apply pw_below_drewN|apply below_drew1|refine below_set ?_ GE273.out|refine below_set ?_ GE274.out|refine below_set ?_ GE275.out|refine below_set ?_ GE276.out)|exact HB.out)));(case aF => exact (fun _ _ => trivial));(case aO => exact (by (with_reducible repeat (first|apply Kd.R_alloc|apply Kd.R_drewN|apply Kd.R_drew));exact HO_277001.out));(case aS => exact (below_size (by repeat (first|(with_reducible first|exact HB.out|apply below_alloc|apply pw_below_drewN|apply below_drew1|refine below_set ?_ GE273.out|refine below_set ?_ GE274.out|refine below_set ?_ GE275.out|refine below_set ?_ GE276.out)|exact HB.out))));(case aL => have:=LMc37.out;omega);intro v280 w42 ho hb hg hat;rw [← Ny279.out] at ho;have n0_:=Aside0.mk (blk_grown (g:=gb273) (o:=.cells #[.int .i64 a0_0,.slice A0_1 l0_1.length c0_1] 28 (0,0)) (by (with_reducible repeat (first|refine blk_drewN ?_ _|refine blk_drew ?_|refine blk_alloc ?_ _));exact BK273.out) hg (Kd.R_ne HO_277001.out BK273.out (by decide)));have n1_:=Aside0.mk (blk_grown (g:=gb274) (o:=.cells #[.int .i64 a1_0,.slice A1_1 l1_1.length c1_1] 28 (0,0)) (by (with_reducible repeat (first|refine blk_drewN ?_ _|refine blk_drew ?_|refine blk_alloc ?_ _));exact BK274.out) hg (Kd.R_ne HO_277001.out BK274.out (by decide)));have n2_:=Aside0.mk (blk_grown (g:=gb275) (o:=.cells #[.int .i64 0,.slice none 0 0] 28 (0,0)) (by (with_reducible repeat (first|refine blk_drewN ?_ _|refine blk_drew ?_|refine blk_alloc ?_ _));exact BK275.out) hg (Kd.R_ne HO_277001.out BK275.out (by decide)));have n3_:=Aside0.mk (blk_grown (g:=gb276) (o:=.cells #[.int .i64 a0_0,u277001] 28 (0,0)) (by (with_reducible repeat (first|refine blk_drewN ?_ _|refine blk_drew ?_|refine blk_alloc ?_ _));exact BK276.out) hg (Kd.R_ne HO_277001.out BK276.out (by decide)));have n4_:=Aside0.mk (hb);have n5_:=Aside0.mk (ho);clear BK273;clear BK274;clear BK275;clear BK276;clear HB;clear HO_277001;have BK273:=n0_;have BK274:=n1_;have BK275:=n2_;have BK276:=n3_;have HB:=n4_;have HO281:=n5_;clear n0_ n1_ n2_ n3_ n4_ n5_;clear ho hb hg hat;obtain ⟨Ao43,co43,eo43⟩:=Kd.R_slice HO281.out;subst eo43;have hcz44_0 : w42.cell? ⟨gb276,0,none⟩ = some (.int .i64 a0_0):=(blk_cell BK276.out 0).trans rfl;have hcz44_1 : w42.cell? ⟨gb276,1,none⟩ = some (u277001):=(blk_cell BK276.out 1).trans rfl;have hfz44_0:=blk_frozen BK276.out 0;have hfz44_1:=blk_frozen BK276.out 1));try go_wp2_with (first|((with_reducible refine gate_builtin (b:=.append) (xs:=#[.tmp 56,.tmp 58]) rfl ?_);at_builtin;refine Kd.R_append (Kd.int .i64) (w0:=w) w.heap.size rfl (.tmp 56) (.tmp 58) 24 3 (.int .i64 0) 8 rfl Try.underlying24 info3 rfl (by decide) (by omega) u277001 x277001_1 x7_2 [.int .i64 x7_2] (fun _ => True) (fun _ => False) rfl rfl ?aP (fun _ hk => hk.elim) ?aF ?aO ?aB ?aS ?aL ?_;(case aP => exact rfl);(case aB => exact (by repeat (first|(with_reducible first|exact HB.out|apply below_alloc|apply pw_below_drewN|apply below_drew1|refine below_set ?_ GE273.out|refine below_set ?_ GE274.out|refine below_set ?_ GE275.out|refine below_set ?_ GE276.out)|exact HB.out)));(case aF => exact (fun _ _ => trivial));(case aO => exact (by (with_reducible repeat (first|apply Kd.R_alloc|apply Kd.R_drewN|apply Kd.R_drew));exact HO_277001.out));(case aS => exact (below_size (by repeat (first|(with_reducible first|exact HB.out|apply below_alloc|apply pw_below_drewN|apply below_drew1|refine below_set ?_ GE273.out|refine below_set ?_ GE274.out|refine below_set ?_ GE275.out|refine below_set ?_ GE276.out)|exact HB.out))));(case aL => have:=LMc37.out;omega);intro v280 w42 ho hb hg hat;rw [← Ny279.out] at ho;have n0_:=Aside0.mk (blk_grown (g:=gb273) (o:=.cells #[.int .i64 a0_0,.slice A0_1 l0_1.length c0_1] 28 (0,0)) (by (with_reducible repeat (first|refine blk_drewN ?_ _|refine blk_drew ?_|refine blk_alloc ?_ _));exact BK273.out) hg (Kd.R_ne HO_277001.out BK273.out (by decide)));have n1_:=Aside0.mk (blk_grown (g:=gb274) (o:=.cells #[.int .i64 a1_0,.slice A1_1 l1_1.length c1_1] 28 (0,0)) (by (with_reducible repeat (first|refine blk_drewN ?_ _|refine blk_drew ?_|refine blk_alloc ?_ _));exact BK274.out) hg (Kd.R_ne HO_277001.out BK274.out (by decide)));have n2_:=Aside0.mk (blk_grown (g:=gb275) (o:=.cells #[.int .i64 0,.slice none 0 0] 28 (0,0)) (by (with_reducible repeat (first|refine blk_drewN ?_ _|refine blk_drew ?_|refine blk_alloc ?_ _));exact BK275.out) hg (Kd.R_ne HO_277001.out BK275.out (by decide)));have n3_:=Aside0.mk (blk_grown (g:=gb276) (o:=.cells #[.int .i64 a0_0,u277001] 28 (0,0)) (by (with_reducible repeat (first|refine blk_drewN ?_ _|refine blk_drew ?_|refine blk_alloc ?_ _));exact BK276.out) hg (Kd.R_ne HO_277001.out BK276.out (by decide)));have n4_:=Aside0.mk (hb);have n5_:=Aside0.mk (ho);clear BK273;clear BK274;clear BK275;clear BK276;clear HB;clear HO_277001;have BK273:=n0_;have BK274:=n1_;have BK275:=n2_;have BK276:=n3_;have HB:=n4_;have HO281:=n5_;clear n0_ n1_ n2_ n3_ n4_ n5_;clear ho hb hg hat;obtain ⟨Ao43,co43,eo43⟩:=Kd.R_slice HO281.out;subst eo43;have hcz44_0 : w42.cell? ⟨gb276,0,none⟩ = some (.int .i64 a0_0):=(blk_cell BK276.out 0).trans rfl;have hcz44_1 : w42.cell? ⟨gb276,1,none⟩ = some (u277001):=(blk_cell BK276.out 1).trans rfl;have hfz44_0:=blk_frozen BK276.out 0;have hfz44_1:=blk_frozen BK276.out 1)))
        go_roundg k2
        case measure => have:=HK1.out;have:=HK2.out;omega
        case rel => exact ⟨(wrap64 (x17_1 + 1)),(y279),(.slice Ao43 y279.length co43),(by first|rfl|(simp;done)|(simp [*];done)),H',⟨by have:=HK1.out;have:=HK2.out;omega⟩,⟨by (with_reducible repeat (first|apply Kd.R_alloc|apply Kd.R_drewN|apply Kd.R_drew));exact Kd.R_mono (Kd.R_far (p:=⟨gb276,1,none⟩) (Kd.R_types HO281.out BK276.out (by decide)) (fun _ hk => hk.2) (.slice Ao43 y279.length co43)) (fun _ hk => trivial)⟩,⟨by (with_reducible repeat (first|refine blk_drewN ?_ _|refine blk_drew ?_|refine blk_alloc ?_ _));refine blk_far ?_ NB273_276.out _;(with_reducible repeat (first|refine blk_drewN ?_ _|refine blk_drew ?_|refine blk_alloc ?_ _));exact BK273.out⟩,⟨by (with_reducible repeat (first|refine blk_drewN ?_ _|refine blk_drew ?_|refine blk_alloc ?_ _));refine blk_far ?_ NB274_276.out _;(with_reducible repeat (first|refine blk_drewN ?_ _|refine blk_drew ?_|refine blk_alloc ?_ _));exact BK274.out⟩,⟨by (with_reducible repeat (first|refine blk_drewN ?_ _|refine blk_drew ?_|refine blk_alloc ?_ _));refine blk_far ?_ NB275_276.out _;(with_reducible repeat (first|refine blk_drewN ?_ _|refine blk_drew ?_|refine blk_alloc ?_ _));exact BK275.out⟩,⟨by (with_reducible repeat (first|refine blk_drewN ?_ _|refine blk_drew ?_|refine blk_alloc ?_ _));refine blk_put (cs:=#[.int .i64 a0_0,u277001]) ?_ 1 _ rfl;(with_reducible repeat (first|refine blk_drewN ?_ _|refine blk_drew ?_|refine blk_alloc ?_ _));exact BK276.out⟩,⟨by repeat (first|(with_reducible first|exact HB.out|apply below_alloc|apply pw_below_drewN|apply below_drew1|refine below_set ?_ GE273.out|refine below_set ?_ GE274.out|refine below_set ?_ GE275.out|refine below_set ?_ GE276.out)|exact HB.out)⟩⟩
       ·rw [if_neg c37] at H
        exact absurd H (by simp)
   ·rw [if_neg c15] at H
    have c15b0 : decide (x17_1 < (wrap64 (a0_0 * a0_0))) = false:=decide_eq_false c15
    clear c15
    simp only [Option.some.injEq,Prod.mk.injEq] at H
    obtain ⟨rfl,rfl⟩:=H
    have hnb45:=NB276_273.out
    have hnc45:=NB273_276.out
    have hnb46:=NB276_274.out
    have hnc46:=NB274_276.out
    have hnb47:=NB276_275.out
    have hnc47:=NB275_276.out
    have hcz48_0 : wr.cell? ⟨gb276,0,none⟩ = some (.int .i64 a0_0):=(blk_cell BK276.out 0).trans rfl
    have hcz48_1 : wr.cell? ⟨gb276,1,none⟩ = some (u277001):=(blk_cell BK276.out 1).trans rfl
    have hfz48_0:=blk_frozen BK276.out 0
    have hfz48_1:=blk_frozen BK276.out 1
    have hnb49:=NB275_273.out
    have hnc49:=NB273_275.out
    have hnb50:=NB275_274.out
    have hnc50:=NB274_275.out
    have hcz51_0 : wr.cell? ⟨gb275,0,none⟩ = some (.int .i64 0):=(blk_cell BK275.out 0).trans rfl
    have hcz51_1 : wr.cell? ⟨gb275,1,none⟩ = some (.slice none 0 0):=(blk_cell BK275.out 1).trans rfl
    have hfz51_0:=blk_frozen BK275.out 0
    have hfz51_1:=blk_frozen BK275.out 1
    obtain ⟨Ao52,co52,eo52⟩:=Kd.R_slice HO_277001.out
    subst eo52
    go_wp2
    repeat (go_quiet (fail);try go_wp2)
    refine bodyPost_ret (results_cell_row rfl _ _ gb275 28 #[.int .i64 a0_0,.slice Ao52 x277001_1.length co52] (0,0) _ rfl (by (with_reducible repeat (first|refine blk_drewN ?_ _|refine blk_drew ?_|refine blk_alloc ?_ _));refine blk_put (cs:=#[.int .i64 a0_0,.slice none 0 0]) ?_ 1 _ rfl;(with_reducible repeat (first|refine blk_drewN ?_ _|refine blk_drew ?_|refine blk_alloc ?_ _));refine blk_put (cs:=#[.int .i64 0,.slice none 0 0]) ?_ 0 _ rfl;(with_reducible repeat (first|refine blk_drewN ?_ _|refine blk_drew ?_|refine blk_alloc ?_ _));exact BK275.out) Try.underlying28 rfl (by kernel_rfl)) rfl ?_
    exact ⟨_,by first|rfl|(simp [errW_none,errW_some] <;> rfl)|(simp [*,errW_none,errW_some] <;> rfl),by (with_reducible repeat (first|apply Kd.R_alloc|apply Kd.R_drewN|apply Kd.R_drew));exact Kd.R_mono (Kd.R_far (p:=⟨gb275,1,none⟩) (Kd.R_far (p:=⟨gb275,0,none⟩) (Kd.R_types HO_277001.out BK275.out (by decide)) (fun _ hk => hk.2) (.int .i64 a0_0)) (fun _ hk => hk.2) (.slice Ao52 x277001_1.length co52)) (fun _ hk => trivial),by repeat (first|(with_reducible first|exact HB.out|apply below_alloc|apply pw_below_drewN|apply below_drew1|refine below_set ?_ GE273.out|refine below_set ?_ GE274.out|refine below_set ?_ GE275.out|refine below_set ?_ GE276.out)|exact HB.out)⟩
end Go.Proofs.Ytengegdaiphfeaa.X
end
section
namespace Go.Proofs.Ytengegdaiphfeaa.X
open Go.RowKit Go.Proofs.YtengegdaiphfeaaW.PrintWords Go.Proofs.YtengegdaiphfeaaW.PrintLast Go.Proofs.YtengegdaiphfeaaW.PrintMore
attribute [local go_sem] max2_int min2_int max_two min_two max_three min_three max_four min_four
set_option linter.unusedVariables false
set_option linter.unusedSimpArgs false
def spec_MulGrades.f (k : Nat) (a0_0 : Int) (l0_1 : List Int) (a1_0 : Int) (l1_1 : List Int) : Option (Int × List Int × Bool):=(spec_GradesValid.f k a0_0 l0_1).bind fun t341 => (if t341 = true then ((spec_GradesValid.f k a1_0 l1_1).bind fun t342 => (if t342 = true then (if a0_0 = a1_0 then ((spec_l6Mul.f k a0_0 l0_1 a1_0 l1_1).bind fun bt343 => (some (bt343.1,bt343.2,true))) else (some (0,([] : List Int),false))) else (some (0,([] : List Int),false)))) else (some (0,([] : List Int),false)))
theorem spec_MulGrades.mono : ∀ a0 a1 a2 a3 k,LeO (spec_MulGrades.f k a0 a1 a2 a3) (spec_MulGrades.f (k + 1) a0 a1 a2 a3):=by
 intro a0 a1 a2 a3 k
 unfold spec_MulGrades.f
 repeat' first
   | (with_reducible exact spec_GradesValid.mono _ _ _)
   | (with_reducible exact spec_l6Mul.mono _ _ _ _ _)
   | (with_reducible exact LeO.refl _)
   | (with_reducible exact LeO.none _)
   | (with_reducible refine LeO.ite ?_ ?_)
   | (with_reducible refine LeO.bind ?_ (fun _ => ?_))
   | exact spec_GradesValid.mono _ _ _
   | exact spec_l6Mul.mono _ _ _ _ _
   | exact LeO.none _
   | refine LeO.ite ?_ ?_
   | refine LeO.bind ?_ (fun _ => ?_)
set_option maxHeartbeats 8000000 in
set_option maxRecDepth 100000 in
theorem spec_MulGrades.calls (k : Nat) (a0_0 : Int) (A0_1 : Option Addr) (c0_1 : Nat) (l0_1 : List Int) (a1_0 : Int) (A1_1 : Option Addr) (c1_1 : Nat) (l1_1 : List Int) (r1 : Int) (r2 : List Int) (r3 : Bool) (w : World) (hr0_1 : Kd.C (Kd.int .i64) w A0_1 l0_1.length l0_1) (hc0_1 : l0_1.length ≤ c0_1) (hr1_1 : Kd.C (Kd.int .i64) w A1_1 l1_1.length l1_1) (hc1_1 : l1_1.length ≤ c1_1) (h : spec_MulGrades.f k a0_0 l0_1 a1_0 l1_1 = some (r1,r2,r3)) :
  Calls Try.prog 26 #[.agg #[.int .i64 a0_0,.slice A0_1 l0_1.length c0_1],.agg #[.int .i64 a1_0,.slice A1_1 l1_1.length c1_1]] w fun e w' => ∃ v1_ : Value,e = .returned (.tuple #[.agg #[.int .i64 r1,v1_],.bool r3]) ∧ Kd.R (Kd.int .i64) 3 w' w.heap.size (fun _ => True) v1_ r2 ∧ Below w.heap.size w w':=by
 have hu28:=Try.underlying28
 have HR0_1:=Aside0.mk hr0_1
 have HC0_1:=Aside0.mk hc0_1
 clear hr0_1 hc0_1
 have HR1_1:=Aside0.mk hr1_1
 have HC1_1:=Aside0.mk hc1_1
 clear hr1_1 hc1_1
 have HB:=Aside0.mk (Below.refl w.heap.size w)
 have H : ((spec_GradesValid.f k a0_0 l0_1).bind fun t341 => (if t341 = true then ((spec_GradesValid.f k a1_0 l1_1).bind fun t342 => (if t342 = true then (if a0_0 = a1_0 then ((spec_l6Mul.f k a0_0 l0_1 a1_0 l1_1).bind fun bt343 => (some (bt343.1,bt343.2,true))) else (some (0,([] : List Int),false))) else (some (0,([] : List Int),false)))) else (some (0,([] : List Int),false)))) = some (r1,r2,r3):=h
 clear h
 replace H:=Option.bind_eq_some_iff.mp H
 obtain ⟨t341,A30,H⟩:=H
 replace H : (if t341 = true then ((spec_GradesValid.f k a1_0 l1_1).bind fun t342 => (if t342 = true then (if a0_0 = a1_0 then ((spec_l6Mul.f k a0_0 l0_1 a1_0 l1_1).bind fun bt343 => (some (bt343.1,bt343.2,true))) else (some (0,([] : List Int),false))) else (some (0,([] : List Int),false)))) else (some (0,([] : List Int),false))) = some (r1,r2,r3):=H
 have A3:=Aside0.mk A30
 clear A30
 by_cases c4 : t341 = true
 ·subst c4
  have H1 : ((spec_GradesValid.f k a1_0 l1_1).bind fun t342 => (if t342 = true then (if a0_0 = a1_0 then ((spec_l6Mul.f k a0_0 l0_1 a1_0 l1_1).bind fun bt343 => (some (bt343.1,bt343.2,true))) else (some (0,([] : List Int),false))) else (some (0,([] : List Int),false)))) = some (r1,r2,r3):=by rw [if_pos rfl] at H;exact H
  clear H
  have H:=H1
  clear H1
  replace H:=Option.bind_eq_some_iff.mp H
  obtain ⟨t342,A50,H⟩:=H
  replace H : (if t342 = true then (if a0_0 = a1_0 then ((spec_l6Mul.f k a0_0 l0_1 a1_0 l1_1).bind fun bt343 => (some (bt343.1,bt343.2,true))) else (some (0,([] : List Int),false))) else (some (0,([] : List Int),false))) = some (r1,r2,r3):=H
  have A5:=Aside0.mk A50
  clear A50
  by_cases c6 : t342 = true
  ·subst c6
   have H1 : (if a0_0 = a1_0 then ((spec_l6Mul.f k a0_0 l0_1 a1_0 l1_1).bind fun bt343 => (some (bt343.1,bt343.2,true))) else (some (0,([] : List Int),false))) = some (r1,r2,r3):=by rw [if_pos rfl] at H;exact H
   clear H
   have H:=H1
   clear H1
   by_cases c7 : a0_0 = a1_0
   ·rw [if_pos c7] at H
    have c7b0 : (a0_0 == a1_0) = true:=beq_iff_eq.mpr c7
    have c7b1 : (a0_0 != a1_0) = false:=bne_eq_false_iff_eq.mpr c7
    clear c7
    replace H:=Option.bind_eq_some_iff.mp H
    obtain ⟨⟨t343,t344⟩,A80,H⟩:=H
    replace H : (some (t343,t344,true)) = some (r1,r2,r3):=H
    have A8:=Aside0.mk A80
    clear A80
    simp only [Option.some.injEq,Prod.mk.injEq] at H
    obtain ⟨rfl,rfl,rfl⟩:=H
    go_enter Try.func26,Try.ntmps26
    go_wp2_with (first|((with_reducible refine gate_dst (N:=2) rfl ?_);refine box_event ?hg (N:=2) ?hd (cs:=#[.int .i64 a0_0,.slice A0_1 l0_1.length c0_1]) (t:=28) ?hr ?_;(case hd => rfl);(case hg => rfl);(case hr => first|(go_simp;done)|(go_simp;rfl));intro gb338 hg w9 hbox hb;have n0_:=Aside0.mk (below_step (by repeat (first|(with_reducible first|exact HB.out|apply below_alloc|apply pw_below_drewN|apply below_drew1)|exact HB.out)) hb);have n1_:=Aside0.mk (hbox);have n2_:=Aside0.mk ((by rw [hg];exact (below_size (by repeat (first|(with_reducible first|exact HB.out|apply below_alloc|apply pw_below_drewN|apply below_drew1)|exact HB.out))) : w.heap.size ≤ gb338));have n3_:=Aside0.mk ((by rw [hg];exact (below_size (by repeat (first|(with_reducible first|exact HB.out|apply below_alloc|apply pw_below_drewN|apply below_drew1)|exact HB.out))) : w.heap.size ≤ gb338));clear HB;have HB:=n0_;have BK338:=n1_;have GW338:=n2_;have GE338:=n3_;clear n0_ n1_ n2_ n3_;clear hb hbox hg)|((with_reducible refine gate_dst (N:=3) rfl ?_);refine box_event ?hg (N:=3) ?hd (cs:=#[.int .i64 a1_0,.slice A1_1 l1_1.length c1_1]) (t:=28) ?hr ?_;(case hd => rfl);(case hg => rfl);(case hr => first|(go_simp;done)|(go_simp;rfl));intro gb339 hg w10 hbox hb;have n0_:=Aside0.mk (blk_below (g:=gb338) (o:=.cells #[.int .i64 a0_0,.slice A0_1 l0_1.length c0_1] 28 (0,0)) (by (with_reducible repeat (first|refine blk_drewN ?_ _|refine blk_drew ?_|refine blk_alloc ?_ _));exact BK338.out) hb);have n1_:=Aside0.mk (below_step (by repeat (first|(with_reducible first|exact HB.out|apply below_alloc|apply pw_below_drewN|apply below_drew1|refine below_set ?_ GE338.out)|exact HB.out)) hb);have n2_:=Aside0.mk (hbox);have n3_:=Aside0.mk ((by rw [hg];exact (below_size (by repeat (first|(with_reducible first|exact HB.out|apply below_alloc|apply pw_below_drewN|apply below_drew1|refine below_set ?_ GE338.out)|exact HB.out))) : w.heap.size ≤ gb339));have n4_:=Aside0.mk ((by rw [hg];exact (below_size (by repeat (first|(with_reducible first|exact HB.out|apply below_alloc|apply pw_below_drewN|apply below_drew1|refine below_set ?_ GE338.out)|exact HB.out))) : w.heap.size ≤ gb339));have n5_:=Aside0.mk ((by rw [hg];exact Nat.ne_of_lt (blk_lt (g:=gb338) (o:=.cells #[.int .i64 a0_0,.slice A0_1 l0_1.length c0_1] 28 (0,0)) (by (with_reducible repeat (first|refine blk_drewN ?_ _|refine blk_drew ?_|refine blk_alloc ?_ _));exact BK338.out)) : gb338 ≠ gb339));have n6_:=Aside0.mk ((by rw [hg];exact Nat.ne_of_gt (blk_lt (g:=gb338) (o:=.cells #[.int .i64 a0_0,.slice A0_1 l0_1.length c0_1] 28 (0,0)) (by (with_reducible repeat (first|refine blk_drewN ?_ _|refine blk_drew ?_|refine blk_alloc ?_ _));exact BK338.out)) : gb339 ≠ gb338));clear BK338;clear HB;have BK338:=n0_;have HB:=n1_;have BK339:=n2_;have GW339:=n3_;have GE339:=n4_;have NB338_339:=n5_;have NB339_338:=n6_;clear n0_ n1_ n2_ n3_ n4_ n5_ n6_;clear hb hbox hg)|((with_reducible refine gate_dst (N:=4) rfl ?_);refine box_event ?hg (N:=4) ?hd (cs:=#[.int .i64 0,.slice none 0 0]) (t:=28) ?hr ?_;(case hd => rfl);(case hg => rfl);(case hr => first|(go_simp;done)|(go_simp;rfl));intro gb340 hg w11 hbox hb;have n0_:=Aside0.mk (blk_below (g:=gb338) (o:=.cells #[.int .i64 a0_0,.slice A0_1 l0_1.length c0_1] 28 (0,0)) (by (with_reducible repeat (first|refine blk_drewN ?_ _|refine blk_drew ?_|refine blk_alloc ?_ _));exact BK338.out) hb);have n1_:=Aside0.mk (blk_below (g:=gb339) (o:=.cells #[.int .i64 a1_0,.slice A1_1 l1_1.length c1_1] 28 (0,0)) (by (with_reducible repeat (first|refine blk_drewN ?_ _|refine blk_drew ?_|refine blk_alloc ?_ _));exact BK339.out) hb);have n2_:=Aside0.mk (below_step (by repeat (first|(with_reducible first|exact HB.out|apply below_alloc|apply pw_below_drewN|apply below_drew1|refine below_set ?_ GE338.out|refine below_set ?_ GE339.out)|exact HB.out)) hb);have n3_:=Aside0.mk (hbox);have n4_:=Aside0.mk ((by rw [hg];exact (below_size (by repeat (first|(with_reducible first|exact HB.out|apply below_alloc|apply pw_below_drewN|apply below_drew1|refine below_set ?_ GE338.out|refine below_set ?_ GE339.out)|exact HB.out))) : w.heap.size ≤ gb340));have n5_:=Aside0.mk ((by rw [hg];exact (below_size (by repeat (first|(with_reducible first|exact HB.out|apply below_alloc|apply pw_below_drewN|apply below_drew1|refine below_set ?_ GE338.out|refine below_set ?_ GE339.out)|exact HB.out))) : w.heap.size ≤ gb340));have n6_:=Aside0.mk ((by rw [hg];exact Nat.ne_of_lt (blk_lt (g:=gb338) (o:=.cells #[.int .i64 a0_0,.slice A0_1 l0_1.length c0_1] 28 (0,0)) (by (with_reducible repeat (first|refine blk_drewN ?_ _|refine blk_drew ?_|refine blk_alloc ?_ _));exact BK338.out)) : gb338 ≠ gb340));have n7_:=Aside0.mk ((by rw [hg];exact Nat.ne_of_gt (blk_lt (g:=gb338) (o:=.cells #[.int .i64 a0_0,.slice A0_1 l0_1.length c0_1] 28 (0,0)) (by (with_reducible repeat (first|refine blk_drewN ?_ _|refine blk_drew ?_|refine blk_alloc ?_ _));exact BK338.out)) : gb340 ≠ gb338));have n8_:=Aside0.mk ((by rw [hg];exact Nat.ne_of_lt (blk_lt (g:=gb339) (o:=.cells #[.int .i64 a1_0,.slice A1_1 l1_1.length c1_1] 28 (0,0)) (by (with_reducible repeat (first|refine blk_drewN ?_ _|refine blk_drew ?_|refine blk_alloc ?_ _));exact BK339.out)) : gb339 ≠ gb340));have n9_:=Aside0.mk ((by rw [hg];exact Nat.ne_of_gt (blk_lt (g:=gb339) (o:=.cells #[.int .i64 a1_0,.slice A1_1 l1_1.length c1_1] 28 (0,0)) (by (with_reducible repeat (first|refine blk_drewN ?_ _|refine blk_drew ?_|refine blk_alloc ?_ _));exact BK339.out)) : gb340 ≠ gb339));clear BK338;clear BK339;clear HB;have BK338:=n0_;have BK339:=n1_;have HB:=n2_;have BK340:=n3_;have GW340:=n4_;have GE340:=n5_;have NB338_340:=n6_;have NB340_338:=n7_;have NB339_340:=n8_;have NB340_339:=n9_;clear n0_ n1_ n2_ n3_ n4_ n5_ n6_ n7_ n8_ n9_;clear hb hbox hg;have hnb12:=NB338_339.out;have hnc12:=NB339_338.out;have hnb13:=NB338_340.out;have hnc13:=NB340_338.out;have hcz14_0 : w11.cell? ⟨gb338,0,none⟩ = some (.int .i64 a0_0):=(blk_cell BK338.out 0).trans rfl;have hcz14_1 : w11.cell? ⟨gb338,1,none⟩ = some (.slice A0_1 l0_1.length c0_1):=(blk_cell BK338.out 1).trans rfl;have hfz14_0:=blk_frozen BK338.out 0;have hfz14_1:=blk_frozen BK338.out 1)|((with_reducible refine gate_callee (f:=65) rfl ?_);refine goesL_ (some 7) rfl rfl Try.func65 (by kernel_rfl) rfl #[.agg #[.int .i64 a0_0,.slice A0_1 l0_1.length c0_1]] rfl (by (try simp only [List.map_toArray,List.map_cons,List.map_nil]);first|done|rfl|(simp only [List.length_drop,List.length_take];rfl)) ?_;(with_reducible refine (spec_GradesValid.calls k a0_0 _ _ l0_1 true _ ?side1 ?side2 A3.out).mono ?_);(case side1 => repeat (first|exact (Kd.C_below HR0_1.out HB.out)|(with_reducible refine Kd.C_alloc ?_ _)|(with_reducible refine Kd.C_drewN ?_ _)|(with_reducible refine Kd.C_drew ?_)));(case side2 => exact HC0_1.out);rintro e w15 ⟨rfl,hb⟩;refine ⟨_,rfl,?_⟩;have n0_:=Aside0.mk (blk_below (g:=gb338) (o:=.cells #[.int .i64 a0_0,.slice A0_1 l0_1.length c0_1] 28 (0,0)) (by (with_reducible repeat (first|refine blk_drewN ?_ _|refine blk_drew ?_|refine blk_alloc ?_ _));exact BK338.out) hb);have n1_:=Aside0.mk (blk_below (g:=gb339) (o:=.cells #[.int .i64 a1_0,.slice A1_1 l1_1.length c1_1] 28 (0,0)) (by (with_reducible repeat (first|refine blk_drewN ?_ _|refine blk_drew ?_|refine blk_alloc ?_ _));exact BK339.out) hb);have n2_:=Aside0.mk (blk_below (g:=gb340) (o:=.cells #[.int .i64 0,.slice none 0 0] 28 (0,0)) (by (with_reducible repeat (first|refine blk_drewN ?_ _|refine blk_drew ?_|refine blk_alloc ?_ _));exact BK340.out) hb);have n3_:=Aside0.mk (below_step (by repeat (first|(with_reducible first|exact HB.out|apply below_alloc|apply pw_below_drewN|apply below_drew1|refine below_set ?_ GE338.out|refine below_set ?_ GE339.out|refine below_set ?_ GE340.out)|exact HB.out)) hb);clear BK338;clear BK339;clear BK340;clear HB;have BK338:=n0_;have BK339:=n1_;have BK340:=n2_;have HB:=n3_;clear n0_ n1_ n2_ n3_;(try clear hb);(try clear hb2);(try clear hk);(try clear hi);have hnb16:=NB339_340.out;have hnc16:=NB340_339.out;have hcz17_0 : w15.cell? ⟨gb339,0,none⟩ = some (.int .i64 a1_0):=(blk_cell BK339.out 0).trans rfl;have hcz17_1 : w15.cell? ⟨gb339,1,none⟩ = some (.slice A1_1 l1_1.length c1_1):=(blk_cell BK339.out 1).trans rfl;have hfz17_0:=blk_frozen BK339.out 0;have hfz17_1:=blk_frozen BK339.out 1)|(go_at_call 65;(with_reducible refine (spec_GradesValid.calls k a1_0 _ _ l1_1 true _ ?side1 ?side2 A5.out).mono ?_);(case side1 => repeat (first|exact (Kd.C_below HR1_1.out HB.out)|(with_reducible refine Kd.C_alloc ?_ _)|(with_reducible refine Kd.C_drewN ?_ _)|(with_reducible refine Kd.C_drew ?_)));(case side2 => exact HC1_1.out);rintro e w18 ⟨rfl,hb⟩;have n0_:=Aside0.mk (blk_below (g:=gb338) (o:=.cells #[.int .i64 a0_0,.slice A0_1 l0_1.length c0_1] 28 (0,0)) (by (with_reducible repeat (first|refine blk_drewN ?_ _|refine blk_drew ?_|refine blk_alloc ?_ _));exact BK338.out) hb);have n1_:=Aside0.mk (blk_below (g:=gb339) (o:=.cells #[.int .i64 a1_0,.slice A1_1 l1_1.length c1_1] 28 (0,0)) (by (with_reducible repeat (first|refine blk_drewN ?_ _|refine blk_drew ?_|refine blk_alloc ?_ _));exact BK339.out) hb);have n2_:=Aside0.mk (blk_below (g:=gb340) (o:=.cells #[.int .i64 0,.slice none 0 0] 28 (0,0)) (by (with_reducible repeat (first|refine blk_drewN ?_ _|refine blk_drew ?_|refine blk_alloc ?_ _));exact BK340.out) hb);have n3_:=Aside0.mk (below_step (by repeat (first|(with_reducible first|exact HB.out|apply below_alloc|apply pw_below_drewN|apply below_drew1|refine below_set ?_ GE338.out|refine below_set ?_ GE339.out|refine below_set ?_ GE340.out)|exact HB.out)) hb);clear BK338;clear BK339;clear BK340;clear HB;have BK338:=n0_;have BK339:=n1_;have BK340:=n2_;have HB:=n3_;clear n0_ n1_ n2_ n3_;(try clear hb);(try clear hb2);(try clear hk);(try clear hi);have hcz19_0 : w18.cell? ⟨gb338,0,none⟩ = some (.int .i64 a0_0):=(blk_cell BK338.out 0).trans rfl;have hcz19_1 : w18.cell? ⟨gb338,1,none⟩ = some (.slice A0_1 l0_1.length c0_1):=(blk_cell BK338.out 1).trans rfl;have hfz19_0:=blk_frozen BK338.out 0;have hfz19_1:=blk_frozen BK338.out 1;have hcz20_0 : w18.cell? ⟨gb339,0,none⟩ = some (.int .i64 a1_0):=(blk_cell BK339.out 0).trans rfl;have hcz20_1 : w18.cell? ⟨gb339,1,none⟩ = some (.slice A1_1 l1_1.length c1_1):=(blk_cell BK339.out 1).trans rfl;have hfz20_0:=blk_frozen BK339.out 0;have hfz20_1:=blk_frozen BK339.out 1)|((with_reducible refine gate_callee (f:=68) rfl ?_);refine goesL_ (some 24) rfl rfl Try.func68 (by kernel_rfl) rfl #[.agg #[.int .i64 a0_0,.slice A0_1 l0_1.length c0_1],.agg #[.int .i64 a1_0,.slice A1_1 l1_1.length c1_1]] rfl (by (try simp only [List.map_toArray,List.map_cons,List.map_nil]);first|done|rfl|(simp only [List.length_drop,List.length_take];rfl)) ?_;(with_reducible refine (spec_l6Mul.calls k a0_0 _ _ l0_1 a1_0 _ _ l1_1 t343 t344 _ ?side1 ?side2 ?side3 ?side4 A8.out).mono ?_);(case side1 => repeat (first|exact (Kd.C_below HR0_1.out HB.out)|(with_reducible refine Kd.C_alloc ?_ _)|(with_reducible refine Kd.C_drewN ?_ _)|(with_reducible refine Kd.C_drew ?_)));(case side2 => exact HC0_1.out);(case side3 => repeat (first|exact (Kd.C_below HR1_1.out HB.out)|(with_reducible refine Kd.C_alloc ?_ _)|(with_reducible refine Kd.C_drewN ?_ _)|(with_reducible refine Kd.C_drew ?_)));(case side4 => exact HC1_1.out);rintro e w21 ⟨v345,rfl,ho0,hb⟩;refine ⟨_,rfl,?_⟩;have n0_:=Aside0.mk (Kd.R_lower ho0 (below_size (by repeat (first|(with_reducible first|exact HB.out|apply below_alloc|apply pw_below_drewN|apply below_drew1|refine below_set ?_ GE338.out|refine below_set ?_ GE339.out|refine below_set ?_ GE340.out)|exact HB.out))));have n1_:=Aside0.mk (blk_below (g:=gb338) (o:=.cells #[.int .i64 a0_0,.slice A0_1 l0_1.length c0_1] 28 (0,0)) (by (with_reducible repeat (first|refine blk_drewN ?_ _|refine blk_drew ?_|refine blk_alloc ?_ _));exact BK338.out) hb);have n2_:=Aside0.mk (blk_below (g:=gb339) (o:=.cells #[.int .i64 a1_0,.slice A1_1 l1_1.length c1_1] 28 (0,0)) (by (with_reducible repeat (first|refine blk_drewN ?_ _|refine blk_drew ?_|refine blk_alloc ?_ _));exact BK339.out) hb);have n3_:=Aside0.mk (blk_below (g:=gb340) (o:=.cells #[.int .i64 0,.slice none 0 0] 28 (0,0)) (by (with_reducible repeat (first|refine blk_drewN ?_ _|refine blk_drew ?_|refine blk_alloc ?_ _));exact BK340.out) hb);have n4_:=Aside0.mk (below_step (by repeat (first|(with_reducible first|exact HB.out|apply below_alloc|apply pw_below_drewN|apply below_drew1|refine below_set ?_ GE338.out|refine below_set ?_ GE339.out|refine below_set ?_ GE340.out)|exact HB.out)) hb);clear BK338;clear BK339;clear BK340;clear HB;have HO346:=n0_;have BK338:=n1_;have BK339:=n2_;have BK340:=n3_;have HB:=n4_;clear n0_ n1_ n2_ n3_ n4_;(try clear hb);(try clear hb2);(try clear hk);(try clear hi);(try clear ho0);have hcz22_0 : w21.cell? ⟨gb340,0,none⟩ = some (.int .i64 0):=(blk_cell BK340.out 0).trans rfl;have hcz22_1 : w21.cell? ⟨gb340,1,none⟩ = some (.slice none 0 0):=(blk_cell BK340.out 1).trans rfl;have hfz22_0:=blk_frozen BK340.out 0;have hfz22_1:=blk_frozen BK340.out 1;obtain ⟨Ao23,co23,eo23⟩:=Kd.R_slice HO346.out;subst eo23))
    refine bodyPost_ret (results_ct rfl _ _ gb340 28 #[.int .i64 t343,.slice Ao23 t344.length co23] (0,0) _ rfl (by (with_reducible repeat (first|refine blk_drewN ?_ _|refine blk_drew ?_|refine blk_alloc ?_ _));refine blk_put (cs:=#[.int .i64 t343,.slice none 0 0]) ?_ 1 _ rfl;(with_reducible repeat (first|refine blk_drewN ?_ _|refine blk_drew ?_|refine blk_alloc ?_ _));refine blk_put (cs:=#[.int .i64 0,.slice none 0 0]) ?_ 0 _ rfl;(with_reducible repeat (first|refine blk_drewN ?_ _|refine blk_drew ?_|refine blk_alloc ?_ _));exact BK340.out) Try.underlying28 rfl (by kernel_rfl)) rfl ?_
    exact ⟨_,by first|rfl|(simp [errW_none,errW_some] <;> rfl)|(simp [*,errW_none,errW_some] <;> rfl),by (with_reducible repeat (first|apply Kd.R_alloc|apply Kd.R_drewN|apply Kd.R_drew));exact Kd.R_mono (Kd.R_far (p:=⟨gb340,1,none⟩) (Kd.R_far (p:=⟨gb340,0,none⟩) (Kd.R_types HO346.out BK340.out (by decide)) (fun _ hk => hk.2) (.int .i64 t343)) (fun _ hk => hk.2) (.slice Ao23 t344.length co23)) (fun _ hk => trivial),by repeat (first|(with_reducible first|exact HB.out|apply below_alloc|apply pw_below_drewN|apply below_drew1|refine below_set ?_ GE338.out|refine below_set ?_ GE339.out|refine below_set ?_ GE340.out)|exact HB.out)⟩
   ·rw [if_neg c7] at H
    have c7b0 : (a0_0 == a1_0) = false:=beq_eq_false_iff_ne.mpr c7
    have c7b1 : (a0_0 != a1_0) = true:=bne_iff_ne.mpr c7
    simp only [Option.some.injEq,Prod.mk.injEq] at H
    obtain ⟨rfl,rfl,rfl⟩:=H
    go_enter Try.func26,Try.ntmps26
    go_wp2_with (first|((with_reducible refine gate_dst (N:=2) rfl ?_);refine box_event ?hg (N:=2) ?hd (cs:=#[.int .i64 a0_0,.slice A0_1 l0_1.length c0_1]) (t:=28) ?hr ?_;(case hd => rfl);(case hg => rfl);(case hr => first|(go_simp;done)|(go_simp;rfl));intro gb338 hg w24 hbox hb;have n0_:=Aside0.mk (below_step (by repeat (first|(with_reducible first|exact HB.out|apply below_alloc|apply pw_below_drewN|apply below_drew1)|exact HB.out)) hb);have n1_:=Aside0.mk (hbox);have n2_:=Aside0.mk ((by rw [hg];exact (below_size (by repeat (first|(with_reducible first|exact HB.out|apply below_alloc|apply pw_below_drewN|apply below_drew1)|exact HB.out))) : w.heap.size ≤ gb338));have n3_:=Aside0.mk ((by rw [hg];exact (below_size (by repeat (first|(with_reducible first|exact HB.out|apply below_alloc|apply pw_below_drewN|apply below_drew1)|exact HB.out))) : w.heap.size ≤ gb338));clear HB;have HB:=n0_;have BK338:=n1_;have GW338:=n2_;have GE338:=n3_;clear n0_ n1_ n2_ n3_;clear hb hbox hg)|((with_reducible refine gate_dst (N:=3) rfl ?_);refine box_event ?hg (N:=3) ?hd (cs:=#[.int .i64 a1_0,.slice A1_1 l1_1.length c1_1]) (t:=28) ?hr ?_;(case hd => rfl);(case hg => rfl);(case hr => first|(go_simp;done)|(go_simp;rfl));intro gb339 hg w25 hbox hb;have n0_:=Aside0.mk (blk_below (g:=gb338) (o:=.cells #[.int .i64 a0_0,.slice A0_1 l0_1.length c0_1] 28 (0,0)) (by (with_reducible repeat (first|refine blk_drewN ?_ _|refine blk_drew ?_|refine blk_alloc ?_ _));exact BK338.out) hb);have n1_:=Aside0.mk (below_step (by repeat (first|(with_reducible first|exact HB.out|apply below_alloc|apply pw_below_drewN|apply below_drew1|refine below_set ?_ GE338.out)|exact HB.out)) hb);have n2_:=Aside0.mk (hbox);have n3_:=Aside0.mk ((by rw [hg];exact (below_size (by repeat (first|(with_reducible first|exact HB.out|apply below_alloc|apply pw_below_drewN|apply below_drew1|refine below_set ?_ GE338.out)|exact HB.out))) : w.heap.size ≤ gb339));have n4_:=Aside0.mk ((by rw [hg];exact (below_size (by repeat (first|(with_reducible first|exact HB.out|apply below_alloc|apply pw_below_drewN|apply below_drew1|refine below_set ?_ GE338.out)|exact HB.out))) : w.heap.size ≤ gb339));have n5_:=Aside0.mk ((by rw [hg];exact Nat.ne_of_lt (blk_lt (g:=gb338) (o:=.cells #[.int .i64 a0_0,.slice A0_1 l0_1.length c0_1] 28 (0,0)) (by (with_reducible repeat (first|refine blk_drewN ?_ _|refine blk_drew ?_|refine blk_alloc ?_ _));exact BK338.out)) : gb338 ≠ gb339));have n6_:=Aside0.mk ((by rw [hg];exact Nat.ne_of_gt (blk_lt (g:=gb338) (o:=.cells #[.int .i64 a0_0,.slice A0_1 l0_1.length c0_1] 28 (0,0)) (by (with_reducible repeat (first|refine blk_drewN ?_ _|refine blk_drew ?_|refine blk_alloc ?_ _));exact BK338.out)) : gb339 ≠ gb338));clear BK338;clear HB;have BK338:=n0_;have HB:=n1_;have BK339:=n2_;have GW339:=n3_;have GE339:=n4_;have NB338_339:=n5_;have NB339_338:=n6_;clear n0_ n1_ n2_ n3_ n4_ n5_ n6_;clear hb hbox hg)|((with_reducible refine gate_dst (N:=4) rfl ?_);refine box_event ?hg (N:=4) ?hd (cs:=#[.int .i64 0,.slice none 0 0]) (t:=28) ?hr ?_;(case hd => rfl);(case hg => rfl);(case hr => first|(go_simp;done)|(go_simp;rfl));intro gb340 hg w26 hbox hb;have n0_:=Aside0.mk (blk_below (g:=gb338) (o:=.cells #[.int .i64 a0_0,.slice A0_1 l0_1.length c0_1] 28 (0,0)) (by (with_reducible repeat (first|refine blk_drewN ?_ _|refine blk_drew ?_|refine blk_alloc ?_ _));exact BK338.out) hb);have n1_:=Aside0.mk (blk_below (g:=gb339) (o:=.cells #[.int .i64 a1_0,.slice A1_1 l1_1.length c1_1] 28 (0,0)) (by (with_reducible repeat (first|refine blk_drewN ?_ _|refine blk_drew ?_|refine blk_alloc ?_ _));exact BK339.out) hb);have n2_:=Aside0.mk (below_step (by repeat (first|(with_reducible first|exact HB.out|apply below_alloc|apply pw_below_drewN|apply below_drew1|refine below_set ?_ GE338.out|refine below_set ?_ GE339.out)|exact HB.out)) hb);have n3_:=Aside0.mk (hbox);have n4_:=Aside0.mk ((by rw [hg];exact (below_size (by repeat (first|(with_reducible first|exact HB.out|apply below_alloc|apply pw_below_drewN|apply below_drew1|refine below_set ?_ GE338.out|refine below_set ?_ GE339.out)|exact HB.out))) : w.heap.size ≤ gb340));have n5_:=Aside0.mk ((by rw [hg];exact (below_size (by repeat (first|(with_reducible first|exact HB.out|apply below_alloc|apply pw_below_drewN|apply below_drew1|refine below_set ?_ GE338.out|refine below_set ?_ GE339.out)|exact HB.out))) : w.heap.size ≤ gb340));have n6_:=Aside0.mk ((by rw [hg];exact Nat.ne_of_lt (blk_lt (g:=gb338) (o:=.cells #[.int .i64 a0_0,.slice A0_1 l0_1.length c0_1] 28 (0,0)) (by (with_reducible repeat (first|refine blk_drewN ?_ _|refine blk_drew ?_|refine blk_alloc ?_ _));exact BK338.out)) : gb338 ≠ gb340));have n7_:=Aside0.mk ((by rw [hg];exact Nat.ne_of_gt (blk_lt (g:=gb338) (o:=.cells #[.int .i64 a0_0,.slice A0_1 l0_1.length c0_1] 28 (0,0)) (by (with_reducible repeat (first|refine blk_drewN ?_ _|refine blk_drew ?_|refine blk_alloc ?_ _));exact BK338.out)) : gb340 ≠ gb338));have n8_:=Aside0.mk ((by rw [hg];exact Nat.ne_of_lt (blk_lt (g:=gb339) (o:=.cells #[.int .i64 a1_0,.slice A1_1 l1_1.length c1_1] 28 (0,0)) (by (with_reducible repeat (first|refine blk_drewN ?_ _|refine blk_drew ?_|refine blk_alloc ?_ _));exact BK339.out)) : gb339 ≠ gb340));have n9_:=Aside0.mk ((by rw [hg];exact Nat.ne_of_gt (blk_lt (g:=gb339) (o:=.cells #[.int .i64 a1_0,.slice A1_1 l1_1.length c1_1] 28 (0,0)) (by (with_reducible repeat (first|refine blk_drewN ?_ _|refine blk_drew ?_|refine blk_alloc ?_ _));exact BK339.out)) : gb340 ≠ gb339));clear BK338;clear BK339;clear HB;have BK338:=n0_;have BK339:=n1_;have HB:=n2_;have BK340:=n3_;have GW340:=n4_;have GE340:=n5_;have NB338_340:=n6_;have NB340_338:=n7_;have NB339_340:=n8_;have NB340_339:=n9_;clear n0_ n1_ n2_ n3_ n4_ n5_ n6_ n7_ n8_ n9_;clear hb hbox hg;have hnb27:=NB338_339.out;have hnc27:=NB339_338.out;have hnb28:=NB338_340.out;have hnc28:=NB340_338.out;have hcz29_0 : w26.cell? ⟨gb338,0,none⟩ = some (.int .i64 a0_0):=(blk_cell BK338.out 0).trans rfl;have hcz29_1 : w26.cell? ⟨gb338,1,none⟩ = some (.slice A0_1 l0_1.length c0_1):=(blk_cell BK338.out 1).trans rfl;have hfz29_0:=blk_frozen BK338.out 0;have hfz29_1:=blk_frozen BK338.out 1)|((with_reducible refine gate_callee (f:=65) rfl ?_);refine goesL_ (some 7) rfl rfl Try.func65 (by kernel_rfl) rfl #[.agg #[.int .i64 a0_0,.slice A0_1 l0_1.length c0_1]] rfl (by (try simp only [List.map_toArray,List.map_cons,List.map_nil]);first|done|rfl|(simp only [List.length_drop,List.length_take];rfl)) ?_;(with_reducible refine (spec_GradesValid.calls k a0_0 _ _ l0_1 true _ ?side1 ?side2 A3.out).mono ?_);(case side1 => repeat (first|exact (Kd.C_below HR0_1.out HB.out)|(with_reducible refine Kd.C_alloc ?_ _)|(with_reducible refine Kd.C_drewN ?_ _)|(with_reducible refine Kd.C_drew ?_)));(case side2 => exact HC0_1.out);rintro e w30 ⟨rfl,hb⟩;refine ⟨_,rfl,?_⟩;have n0_:=Aside0.mk (blk_below (g:=gb338) (o:=.cells #[.int .i64 a0_0,.slice A0_1 l0_1.length c0_1] 28 (0,0)) (by (with_reducible repeat (first|refine blk_drewN ?_ _|refine blk_drew ?_|refine blk_alloc ?_ _));exact BK338.out) hb);have n1_:=Aside0.mk (blk_below (g:=gb339) (o:=.cells #[.int .i64 a1_0,.slice A1_1 l1_1.length c1_1] 28 (0,0)) (by (with_reducible repeat (first|refine blk_drewN ?_ _|refine blk_drew ?_|refine blk_alloc ?_ _));exact BK339.out) hb);have n2_:=Aside0.mk (blk_below (g:=gb340) (o:=.cells #[.int .i64 0,.slice none 0 0] 28 (0,0)) (by (with_reducible repeat (first|refine blk_drewN ?_ _|refine blk_drew ?_|refine blk_alloc ?_ _));exact BK340.out) hb);have n3_:=Aside0.mk (below_step (by repeat (first|(with_reducible first|exact HB.out|apply below_alloc|apply pw_below_drewN|apply below_drew1|refine below_set ?_ GE338.out|refine below_set ?_ GE339.out|refine below_set ?_ GE340.out)|exact HB.out)) hb);clear BK338;clear BK339;clear BK340;clear HB;have BK338:=n0_;have BK339:=n1_;have BK340:=n2_;have HB:=n3_;clear n0_ n1_ n2_ n3_;(try clear hb);(try clear hb2);(try clear hk);(try clear hi);have hnb31:=NB339_340.out;have hnc31:=NB340_339.out;have hcz32_0 : w30.cell? ⟨gb339,0,none⟩ = some (.int .i64 a1_0):=(blk_cell BK339.out 0).trans rfl;have hcz32_1 : w30.cell? ⟨gb339,1,none⟩ = some (.slice A1_1 l1_1.length c1_1):=(blk_cell BK339.out 1).trans rfl;have hfz32_0:=blk_frozen BK339.out 0;have hfz32_1:=blk_frozen BK339.out 1)|(go_at_call 65;(with_reducible refine (spec_GradesValid.calls k a1_0 _ _ l1_1 true _ ?side1 ?side2 A5.out).mono ?_);(case side1 => repeat (first|exact (Kd.C_below HR1_1.out HB.out)|(with_reducible refine Kd.C_alloc ?_ _)|(with_reducible refine Kd.C_drewN ?_ _)|(with_reducible refine Kd.C_drew ?_)));(case side2 => exact HC1_1.out);rintro e w33 ⟨rfl,hb⟩;have n0_:=Aside0.mk (blk_below (g:=gb338) (o:=.cells #[.int .i64 a0_0,.slice A0_1 l0_1.length c0_1] 28 (0,0)) (by (with_reducible repeat (first|refine blk_drewN ?_ _|refine blk_drew ?_|refine blk_alloc ?_ _));exact BK338.out) hb);have n1_:=Aside0.mk (blk_below (g:=gb339) (o:=.cells #[.int .i64 a1_0,.slice A1_1 l1_1.length c1_1] 28 (0,0)) (by (with_reducible repeat (first|refine blk_drewN ?_ _|refine blk_drew ?_|refine blk_alloc ?_ _));exact BK339.out) hb);have n2_:=Aside0.mk (blk_below (g:=gb340) (o:=.cells #[.int .i64 0,.slice none 0 0] 28 (0,0)) (by (with_reducible repeat (first|refine blk_drewN ?_ _|refine blk_drew ?_|refine blk_alloc ?_ _));exact BK340.out) hb);have n3_:=Aside0.mk (below_step (by repeat (first|(with_reducible first|exact HB.out|apply below_alloc|apply pw_below_drewN|apply below_drew1|refine below_set ?_ GE338.out|refine below_set ?_ GE339.out|refine below_set ?_ GE340.out)|exact HB.out)) hb);clear BK338;clear BK339;clear BK340;clear HB;have BK338:=n0_;have BK339:=n1_;have BK340:=n2_;have HB:=n3_;clear n0_ n1_ n2_ n3_;(try clear hb);(try clear hb2);(try clear hk);(try clear hi);have hcz34_0 : w33.cell? ⟨gb338,0,none⟩ = some (.int .i64 a0_0):=(blk_cell BK338.out 0).trans rfl;have hcz34_1 : w33.cell? ⟨gb338,1,none⟩ = some (.slice A0_1 l0_1.length c0_1):=(blk_cell BK338.out 1).trans rfl;have hfz34_0:=blk_frozen BK338.out 0;have hfz34_1:=blk_frozen BK338.out 1;have hcz35_0 : w33.cell? ⟨gb339,0,none⟩ = some (.int .i64 a1_0):=(blk_cell BK339.out 0).trans rfl;have hcz35_1 : w33.cell? ⟨gb339,1,none⟩ = some (.slice A1_1 l1_1.length c1_1):=(blk_cell BK339.out 1).trans rfl;have hfz35_0:=blk_frozen BK339.out 0;have hfz35_1:=blk_frozen BK339.out 1;have hcz36_0 : w33.cell? ⟨gb340,0,none⟩ = some (.int .i64 0):=(blk_cell BK340.out 0).trans rfl;have hcz36_1 : w33.cell? ⟨gb340,1,none⟩ = some (.slice none 0 0):=(blk_cell BK340.out 1).trans rfl;have hfz36_0:=blk_frozen BK340.out 0;have hfz36_1:=blk_frozen BK340.out 1))
    refine bodyPost_ret (results_ct rfl _ _ gb340 28 #[.int .i64 0,.slice none 0 0] (0,0) _ rfl (by (with_reducible repeat (first|refine blk_drewN ?_ _|refine blk_drew ?_|refine blk_alloc ?_ _));refine blk_put (cs:=#[.int .i64 0,.slice none 0 0]) ?_ 1 _ rfl;(with_reducible repeat (first|refine blk_drewN ?_ _|refine blk_drew ?_|refine blk_alloc ?_ _));refine blk_put (cs:=#[.int .i64 0,.slice none 0 0]) ?_ 0 _ rfl;(with_reducible repeat (first|refine blk_drewN ?_ _|refine blk_drew ?_|refine blk_alloc ?_ _));exact BK340.out) Try.underlying28 rfl (by kernel_rfl)) rfl ?_
    exact ⟨_,by first|rfl|(simp [errW_none,errW_some] <;> rfl)|(simp [*,errW_none,errW_some] <;> rfl),by first|exact Kd.R_nil _ _ _ _ _|exact Kd.N_nil _ _ _ _ _|exact Kd.V_nil _ _ _ _ _|exact Kd.Q_nil _ _ _ _ _|exact Kd.S_nil _ _ _ _ _,by repeat (first|(with_reducible first|exact HB.out|apply below_alloc|apply pw_below_drewN|apply below_drew1|refine below_set ?_ GE338.out|refine below_set ?_ GE339.out|refine below_set ?_ GE340.out)|exact HB.out)⟩
  ·replace c6:=Bool.eq_false_iff.mpr c6
   subst c6
   have H1 : (some (0,([] : List Int),false)) = some (r1,r2,r3):=by rw [if_neg (show ¬ (false = true) by decide)] at H;exact H
   clear H
   have H:=H1
   clear H1
   simp only [Option.some.injEq,Prod.mk.injEq] at H
   obtain ⟨rfl,rfl,rfl⟩:=H
   go_enter Try.func26,Try.ntmps26
   go_wp2_with (first|((with_reducible refine gate_dst (N:=2) rfl ?_);refine box_event ?hg (N:=2) ?hd (cs:=#[.int .i64 a0_0,.slice A0_1 l0_1.length c0_1]) (t:=28) ?hr ?_;(case hd => rfl);(case hg => rfl);(case hr => first|(go_simp;done)|(go_simp;rfl));intro gb338 hg w37 hbox hb;have n0_:=Aside0.mk (below_step (by repeat (first|(with_reducible first|exact HB.out|apply below_alloc|apply pw_below_drewN|apply below_drew1)|exact HB.out)) hb);have n1_:=Aside0.mk (hbox);have n2_:=Aside0.mk ((by rw [hg];exact (below_size (by repeat (first|(with_reducible first|exact HB.out|apply below_alloc|apply pw_below_drewN|apply below_drew1)|exact HB.out))) : w.heap.size ≤ gb338));have n3_:=Aside0.mk ((by rw [hg];exact (below_size (by repeat (first|(with_reducible first|exact HB.out|apply below_alloc|apply pw_below_drewN|apply below_drew1)|exact HB.out))) : w.heap.size ≤ gb338));clear HB;have HB:=n0_;have BK338:=n1_;have GW338:=n2_;have GE338:=n3_;clear n0_ n1_ n2_ n3_;clear hb hbox hg)|((with_reducible refine gate_dst (N:=3) rfl ?_);refine box_event ?hg (N:=3) ?hd (cs:=#[.int .i64 a1_0,.slice A1_1 l1_1.length c1_1]) (t:=28) ?hr ?_;(case hd => rfl);(case hg => rfl);(case hr => first|(go_simp;done)|(go_simp;rfl));intro gb339 hg w38 hbox hb;have n0_:=Aside0.mk (blk_below (g:=gb338) (o:=.cells #[.int .i64 a0_0,.slice A0_1 l0_1.length c0_1] 28 (0,0)) (by (with_reducible repeat (first|refine blk_drewN ?_ _|refine blk_drew ?_|refine blk_alloc ?_ _));exact BK338.out) hb);have n1_:=Aside0.mk (below_step (by repeat (first|(with_reducible first|exact HB.out|apply below_alloc|apply pw_below_drewN|apply below_drew1|refine below_set ?_ GE338.out)|exact HB.out)) hb);have n2_:=Aside0.mk (hbox);have n3_:=Aside0.mk ((by rw [hg];exact (below_size (by repeat (first|(with_reducible first|exact HB.out|apply below_alloc|apply pw_below_drewN|apply below_drew1|refine below_set ?_ GE338.out)|exact HB.out))) : w.heap.size ≤ gb339));have n4_:=Aside0.mk ((by rw [hg];exact (below_size (by repeat (first|(with_reducible first|exact HB.out|apply below_alloc|apply pw_below_drewN|apply below_drew1|refine below_set ?_ GE338.out)|exact HB.out))) : w.heap.size ≤ gb339));have n5_:=Aside0.mk ((by rw [hg];exact Nat.ne_of_lt (blk_lt (g:=gb338) (o:=.cells #[.int .i64 a0_0,.slice A0_1 l0_1.length c0_1] 28 (0,0)) (by (with_reducible repeat (first|refine blk_drewN ?_ _|refine blk_drew ?_|refine blk_alloc ?_ _));exact BK338.out)) : gb338 ≠ gb339));have n6_:=Aside0.mk ((by rw [hg];exact Nat.ne_of_gt (blk_lt (g:=gb338) (o:=.cells #[.int .i64 a0_0,.slice A0_1 l0_1.length c0_1] 28 (0,0)) (by (with_reducible repeat (first|refine blk_drewN ?_ _|refine blk_drew ?_|refine blk_alloc ?_ _));exact BK338.out)) : gb339 ≠ gb338));clear BK338;clear HB;have BK338:=n0_;have HB:=n1_;have BK339:=n2_;have GW339:=n3_;have GE339:=n4_;have NB338_339:=n5_;have NB339_338:=n6_;clear n0_ n1_ n2_ n3_ n4_ n5_ n6_;clear hb hbox hg)|((with_reducible refine gate_dst (N:=4) rfl ?_);refine box_event ?hg (N:=4) ?hd (cs:=#[.int .i64 0,.slice none 0 0]) (t:=28) ?hr ?_;(case hd => rfl);(case hg => rfl);(case hr => first|(go_simp;done)|(go_simp;rfl));intro gb340 hg w39 hbox hb;have n0_:=Aside0.mk (blk_below (g:=gb338) (o:=.cells #[.int .i64 a0_0,.slice A0_1 l0_1.length c0_1] 28 (0,0)) (by (with_reducible repeat (first|refine blk_drewN ?_ _|refine blk_drew ?_|refine blk_alloc ?_ _));exact BK338.out) hb);have n1_:=Aside0.mk (blk_below (g:=gb339) (o:=.cells #[.int .i64 a1_0,.slice A1_1 l1_1.length c1_1] 28 (0,0)) (by (with_reducible repeat (first|refine blk_drewN ?_ _|refine blk_drew ?_|refine blk_alloc ?_ _));exact BK339.out) hb);have n2_:=Aside0.mk (below_step (by repeat (first|(with_reducible first|exact HB.out|apply below_alloc|apply pw_below_drewN|apply below_drew1|refine below_set ?_ GE338.out|refine below_set ?_ GE339.out)|exact HB.out)) hb);have n3_:=Aside0.mk (hbox);have n4_:=Aside0.mk ((by rw [hg];exact (below_size (by repeat (first|(with_reducible first|exact HB.out|apply below_alloc|apply pw_below_drewN|apply below_drew1|refine below_set ?_ GE338.out|refine below_set ?_ GE339.out)|exact HB.out))) : w.heap.size ≤ gb340));have n5_:=Aside0.mk ((by rw [hg];exact (below_size (by repeat (first|(with_reducible first|exact HB.out|apply below_alloc|apply pw_below_drewN|apply below_drew1|refine below_set ?_ GE338.out|refine below_set ?_ GE339.out)|exact HB.out))) : w.heap.size ≤ gb340));have n6_:=Aside0.mk ((by rw [hg];exact Nat.ne_of_lt (blk_lt (g:=gb338) (o:=.cells #[.int .i64 a0_0,.slice A0_1 l0_1.length c0_1] 28 (0,0)) (by (with_reducible repeat (first|refine blk_drewN ?_ _|refine blk_drew ?_|refine blk_alloc ?_ _));exact BK338.out)) : gb338 ≠ gb340));have n7_:=Aside0.mk ((by rw [hg];exact Nat.ne_of_gt (blk_lt (g:=gb338) (o:=.cells #[.int .i64 a0_0,.slice A0_1 l0_1.length c0_1] 28 (0,0)) (by (with_reducible repeat (first|refine blk_drewN ?_ _|refine blk_drew ?_|refine blk_alloc ?_ _));exact BK338.out)) : gb340 ≠ gb338));have n8_:=Aside0.mk ((by rw [hg];exact Nat.ne_of_lt (blk_lt (g:=gb339) (o:=.cells #[.int .i64 a1_0,.slice A1_1 l1_1.length c1_1] 28 (0,0)) (by (with_reducible repeat (first|refine blk_drewN ?_ _|refine blk_drew ?_|refine blk_alloc ?_ _));exact BK339.out)) : gb339 ≠ gb340));have n9_:=Aside0.mk ((by rw [hg];exact Nat.ne_of_gt (blk_lt (g:=gb339) (o:=.cells #[.int .i64 a1_0,.slice A1_1 l1_1.length c1_1] 28 (0,0)) (by (with_reducible repeat (first|refine blk_drewN ?_ _|refine blk_drew ?_|refine blk_alloc ?_ _));exact BK339.out)) : gb340 ≠ gb339));clear BK338;clear BK339;clear HB;have BK338:=n0_;have BK339:=n1_;have HB:=n2_;have BK340:=n3_;have GW340:=n4_;have GE340:=n5_;have NB338_340:=n6_;have NB340_338:=n7_;have NB339_340:=n8_;have NB340_339:=n9_;clear n0_ n1_ n2_ n3_ n4_ n5_ n6_ n7_ n8_ n9_;clear hb hbox hg;have hnb40:=NB338_339.out;have hnc40:=NB339_338.out;have hnb41:=NB338_340.out;have hnc41:=NB340_338.out;have hcz42_0 : w39.cell? ⟨gb338,0,none⟩ = some (.int .i64 a0_0):=(blk_cell BK338.out 0).trans rfl;have hcz42_1 : w39.cell? ⟨gb338,1,none⟩ = some (.slice A0_1 l0_1.length c0_1):=(blk_cell BK338.out 1).trans rfl;have hfz42_0:=blk_frozen BK338.out 0;have hfz42_1:=blk_frozen BK338.out 1)|((with_reducible refine gate_callee (f:=65) rfl ?_);refine goesL_ (some 7) rfl rfl Try.func65 (by kernel_rfl) rfl #[.agg #[.int .i64 a0_0,.slice A0_1 l0_1.length c0_1]] rfl (by (try simp only [List.map_toArray,List.map_cons,List.map_nil]);first|done|rfl|(simp only [List.length_drop,List.length_take];rfl)) ?_;(with_reducible refine (spec_GradesValid.calls k a0_0 _ _ l0_1 true _ ?side1 ?side2 A3.out).mono ?_);(case side1 => repeat (first|exact (Kd.C_below HR0_1.out HB.out)|(with_reducible refine Kd.C_alloc ?_ _)|(with_reducible refine Kd.C_drewN ?_ _)|(with_reducible refine Kd.C_drew ?_)));(case side2 => exact HC0_1.out);rintro e w43 ⟨rfl,hb⟩;refine ⟨_,rfl,?_⟩;have n0_:=Aside0.mk (blk_below (g:=gb338) (o:=.cells #[.int .i64 a0_0,.slice A0_1 l0_1.length c0_1] 28 (0,0)) (by (with_reducible repeat (first|refine blk_drewN ?_ _|refine blk_drew ?_|refine blk_alloc ?_ _));exact BK338.out) hb);have n1_:=Aside0.mk (blk_below (g:=gb339) (o:=.cells #[.int .i64 a1_0,.slice A1_1 l1_1.length c1_1] 28 (0,0)) (by (with_reducible repeat (first|refine blk_drewN ?_ _|refine blk_drew ?_|refine blk_alloc ?_ _));exact BK339.out) hb);have n2_:=Aside0.mk (blk_below (g:=gb340) (o:=.cells #[.int .i64 0,.slice none 0 0] 28 (0,0)) (by (with_reducible repeat (first|refine blk_drewN ?_ _|refine blk_drew ?_|refine blk_alloc ?_ _));exact BK340.out) hb);have n3_:=Aside0.mk (below_step (by repeat (first|(with_reducible first|exact HB.out|apply below_alloc|apply pw_below_drewN|apply below_drew1|refine below_set ?_ GE338.out|refine below_set ?_ GE339.out|refine below_set ?_ GE340.out)|exact HB.out)) hb);clear BK338;clear BK339;clear BK340;clear HB;have BK338:=n0_;have BK339:=n1_;have BK340:=n2_;have HB:=n3_;clear n0_ n1_ n2_ n3_;(try clear hb);(try clear hb2);(try clear hk);(try clear hi);have hnb44:=NB339_340.out;have hnc44:=NB340_339.out;have hcz45_0 : w43.cell? ⟨gb339,0,none⟩ = some (.int .i64 a1_0):=(blk_cell BK339.out 0).trans rfl;have hcz45_1 : w43.cell? ⟨gb339,1,none⟩ = some (.slice A1_1 l1_1.length c1_1):=(blk_cell BK339.out 1).trans rfl;have hfz45_0:=blk_frozen BK339.out 0;have hfz45_1:=blk_frozen BK339.out 1)|(go_at_call 65;(with_reducible refine (spec_GradesValid.calls k a1_0 _ _ l1_1 false _ ?side1 ?side2 A5.out).mono ?_);(case side1 => repeat (first|exact (Kd.C_below HR1_1.out HB.out)|(with_reducible refine Kd.C_alloc ?_ _)|(with_reducible refine Kd.C_drewN ?_ _)|(with_reducible refine Kd.C_drew ?_)));(case side2 => exact HC1_1.out);rintro e w46 ⟨rfl,hb⟩;have n0_:=Aside0.mk (blk_below (g:=gb338) (o:=.cells #[.int .i64 a0_0,.slice A0_1 l0_1.length c0_1] 28 (0,0)) (by (with_reducible repeat (first|refine blk_drewN ?_ _|refine blk_drew ?_|refine blk_alloc ?_ _));exact BK338.out) hb);have n1_:=Aside0.mk (blk_below (g:=gb339) (o:=.cells #[.int .i64 a1_0,.slice A1_1 l1_1.length c1_1] 28 (0,0)) (by (with_reducible repeat (first|refine blk_drewN ?_ _|refine blk_drew ?_|refine blk_alloc ?_ _));exact BK339.out) hb);have n2_:=Aside0.mk (blk_below (g:=gb340) (o:=.cells #[.int .i64 0,.slice none 0 0] 28 (0,0)) (by (with_reducible repeat (first|refine blk_drewN ?_ _|refine blk_drew ?_|refine blk_alloc ?_ _));exact BK340.out) hb);have n3_:=Aside0.mk (below_step (by repeat (first|(with_reducible first|exact HB.out|apply below_alloc|apply pw_below_drewN|apply below_drew1|refine below_set ?_ GE338.out|refine below_set ?_ GE339.out|refine below_set ?_ GE340.out)|exact HB.out)) hb);clear BK338;clear BK339;clear BK340;clear HB;have BK338:=n0_;have BK339:=n1_;have BK340:=n2_;have HB:=n3_;clear n0_ n1_ n2_ n3_;(try clear hb);(try clear hb2);(try clear hk);(try clear hi);have hcz47_0 : w46.cell? ⟨gb340,0,none⟩ = some (.int .i64 0):=(blk_cell BK340.out 0).trans rfl;have hcz47_1 : w46.cell? ⟨gb340,1,none⟩ = some (.slice none 0 0):=(blk_cell BK340.out 1).trans rfl;have hfz47_0:=blk_frozen BK340.out 0;have hfz47_1:=blk_frozen BK340.out 1))
   refine bodyPost_ret (results_ct rfl _ _ gb340 28 #[.int .i64 0,.slice none 0 0] (0,0) _ rfl (by (with_reducible repeat (first|refine blk_drewN ?_ _|refine blk_drew ?_|refine blk_alloc ?_ _));refine blk_put (cs:=#[.int .i64 0,.slice none 0 0]) ?_ 1 _ rfl;(with_reducible repeat (first|refine blk_drewN ?_ _|refine blk_drew ?_|refine blk_alloc ?_ _));refine blk_put (cs:=#[.int .i64 0,.slice none 0 0]) ?_ 0 _ rfl;(with_reducible repeat (first|refine blk_drewN ?_ _|refine blk_drew ?_|refine blk_alloc ?_ _));exact BK340.out) Try.underlying28 rfl (by kernel_rfl)) rfl ?_
   exact ⟨_,by first|rfl|(simp [errW_none,errW_some] <;> rfl)|(simp [*,errW_none,errW_some] <;> rfl),by first|exact Kd.R_nil _ _ _ _ _|exact Kd.N_nil _ _ _ _ _|exact Kd.V_nil _ _ _ _ _|exact Kd.Q_nil _ _ _ _ _|exact Kd.S_nil _ _ _ _ _,by repeat (first|(with_reducible first|exact HB.out|apply below_alloc|apply pw_below_drewN|apply below_drew1|refine below_set ?_ GE338.out|refine below_set ?_ GE339.out|refine below_set ?_ GE340.out)|exact HB.out)⟩
 ·replace c4:=Bool.eq_false_iff.mpr c4
  subst c4
  have H1 : (some (0,([] : List Int),false)) = some (r1,r2,r3):=by rw [if_neg (show ¬ (false = true) by decide)] at H;exact H
  clear H
  have H:=H1
  clear H1
  simp only [Option.some.injEq,Prod.mk.injEq] at H
  obtain ⟨rfl,rfl,rfl⟩:=H
  go_enter Try.func26,Try.ntmps26
  go_wp2_with (first|((with_reducible refine gate_dst (N:=2) rfl ?_);refine box_event ?hg (N:=2) ?hd (cs:=#[.int .i64 a0_0,.slice A0_1 l0_1.length c0_1]) (t:=28) ?hr ?_;(case hd => rfl);(case hg => rfl);(case hr => first|(go_simp;done)|(go_simp;rfl));intro gb338 hg w48 hbox hb;have n0_:=Aside0.mk (below_step (by repeat (first|(with_reducible first|exact HB.out|apply below_alloc|apply pw_below_drewN|apply below_drew1)|exact HB.out)) hb);have n1_:=Aside0.mk (hbox);have n2_:=Aside0.mk ((by rw [hg];exact (below_size (by repeat (first|(with_reducible first|exact HB.out|apply below_alloc|apply pw_below_drewN|apply below_drew1)|exact HB.out))) : w.heap.size ≤ gb338));have n3_:=Aside0.mk ((by rw [hg];exact (below_size (by repeat (first|(with_reducible first|exact HB.out|apply below_alloc|apply pw_below_drewN|apply below_drew1)|exact HB.out))) : w.heap.size ≤ gb338));clear HB;have HB:=n0_;have BK338:=n1_;have GW338:=n2_;have GE338:=n3_;clear n0_ n1_ n2_ n3_;clear hb hbox hg)|((with_reducible refine gate_dst (N:=3) rfl ?_);refine box_event ?hg (N:=3) ?hd (cs:=#[.int .i64 a1_0,.slice A1_1 l1_1.length c1_1]) (t:=28) ?hr ?_;(case hd => rfl);(case hg => rfl);(case hr => first|(go_simp;done)|(go_simp;rfl));intro gb339 hg w49 hbox hb;have n0_:=Aside0.mk (blk_below (g:=gb338) (o:=.cells #[.int .i64 a0_0,.slice A0_1 l0_1.length c0_1] 28 (0,0)) (by (with_reducible repeat (first|refine blk_drewN ?_ _|refine blk_drew ?_|refine blk_alloc ?_ _));exact BK338.out) hb);have n1_:=Aside0.mk (below_step (by repeat (first|(with_reducible first|exact HB.out|apply below_alloc|apply pw_below_drewN|apply below_drew1|refine below_set ?_ GE338.out)|exact HB.out)) hb);have n2_:=Aside0.mk (hbox);have n3_:=Aside0.mk ((by rw [hg];exact (below_size (by repeat (first|(with_reducible first|exact HB.out|apply below_alloc|apply pw_below_drewN|apply below_drew1|refine below_set ?_ GE338.out)|exact HB.out))) : w.heap.size ≤ gb339));have n4_:=Aside0.mk ((by rw [hg];exact (below_size (by repeat (first|(with_reducible first|exact HB.out|apply below_alloc|apply pw_below_drewN|apply below_drew1|refine below_set ?_ GE338.out)|exact HB.out))) : w.heap.size ≤ gb339));have n5_:=Aside0.mk ((by rw [hg];exact Nat.ne_of_lt (blk_lt (g:=gb338) (o:=.cells #[.int .i64 a0_0,.slice A0_1 l0_1.length c0_1] 28 (0,0)) (by (with_reducible repeat (first|refine blk_drewN ?_ _|refine blk_drew ?_|refine blk_alloc ?_ _));exact BK338.out)) : gb338 ≠ gb339));have n6_:=Aside0.mk ((by rw [hg];exact Nat.ne_of_gt (blk_lt (g:=gb338) (o:=.cells #[.int .i64 a0_0,.slice A0_1 l0_1.length c0_1] 28 (0,0)) (by (with_reducible repeat (first|refine blk_drewN ?_ _|refine blk_drew ?_|refine blk_alloc ?_ _));exact BK338.out)) : gb339 ≠ gb338));clear BK338;clear HB;have BK338:=n0_;have HB:=n1_;have BK339:=n2_;have GW339:=n3_;have GE339:=n4_;have NB338_339:=n5_;have NB339_338:=n6_;clear n0_ n1_ n2_ n3_ n4_ n5_ n6_;clear hb hbox hg)|((with_reducible refine gate_dst (N:=4) rfl ?_);refine box_event ?hg (N:=4) ?hd (cs:=#[.int .i64 0,.slice none 0 0]) (t:=28) ?hr ?_;(case hd => rfl);(case hg => rfl);(case hr => first|(go_simp;done)|(go_simp;rfl));intro gb340 hg w50 hbox hb;have n0_:=Aside0.mk (blk_below (g:=gb338) (o:=.cells #[.int .i64 a0_0,.slice A0_1 l0_1.length c0_1] 28 (0,0)) (by (with_reducible repeat (first|refine blk_drewN ?_ _|refine blk_drew ?_|refine blk_alloc ?_ _));exact BK338.out) hb);have n1_:=Aside0.mk (blk_below (g:=gb339) (o:=.cells #[.int .i64 a1_0,.slice A1_1 l1_1.length c1_1] 28 (0,0)) (by (with_reducible repeat (first|refine blk_drewN ?_ _|refine blk_drew ?_|refine blk_alloc ?_ _));exact BK339.out) hb);have n2_:=Aside0.mk (below_step (by repeat (first|(with_reducible first|exact HB.out|apply below_alloc|apply pw_below_drewN|apply below_drew1|refine below_set ?_ GE338.out|refine below_set ?_ GE339.out)|exact HB.out)) hb);have n3_:=Aside0.mk (hbox);have n4_:=Aside0.mk ((by rw [hg];exact (below_size (by repeat (first|(with_reducible first|exact HB.out|apply below_alloc|apply pw_below_drewN|apply below_drew1|refine below_set ?_ GE338.out|refine below_set ?_ GE339.out)|exact HB.out))) : w.heap.size ≤ gb340));have n5_:=Aside0.mk ((by rw [hg];exact (below_size (by repeat (first|(with_reducible first|exact HB.out|apply below_alloc|apply pw_below_drewN|apply below_drew1|refine below_set ?_ GE338.out|refine below_set ?_ GE339.out)|exact HB.out))) : w.heap.size ≤ gb340));have n6_:=Aside0.mk ((by rw [hg];exact Nat.ne_of_lt (blk_lt (g:=gb338) (o:=.cells #[.int .i64 a0_0,.slice A0_1 l0_1.length c0_1] 28 (0,0)) (by (with_reducible repeat (first|refine blk_drewN ?_ _|refine blk_drew ?_|refine blk_alloc ?_ _));exact BK338.out)) : gb338 ≠ gb340));have n7_:=Aside0.mk ((by rw [hg];exact Nat.ne_of_gt (blk_lt (g:=gb338) (o:=.cells #[.int .i64 a0_0,.slice A0_1 l0_1.length c0_1] 28 (0,0)) (by (with_reducible repeat (first|refine blk_drewN ?_ _|refine blk_drew ?_|refine blk_alloc ?_ _));exact BK338.out)) : gb340 ≠ gb338));have n8_:=Aside0.mk ((by rw [hg];exact Nat.ne_of_lt (blk_lt (g:=gb339) (o:=.cells #[.int .i64 a1_0,.slice A1_1 l1_1.length c1_1] 28 (0,0)) (by (with_reducible repeat (first|refine blk_drewN ?_ _|refine blk_drew ?_|refine blk_alloc ?_ _));exact BK339.out)) : gb339 ≠ gb340));have n9_:=Aside0.mk ((by rw [hg];exact Nat.ne_of_gt (blk_lt (g:=gb339) (o:=.cells #[.int .i64 a1_0,.slice A1_1 l1_1.length c1_1] 28 (0,0)) (by (with_reducible repeat (first|refine blk_drewN ?_ _|refine blk_drew ?_|refine blk_alloc ?_ _));exact BK339.out)) : gb340 ≠ gb339));clear BK338;clear BK339;clear HB;have BK338:=n0_;have BK339:=n1_;have HB:=n2_;have BK340:=n3_;have GW340:=n4_;have GE340:=n5_;have NB338_340:=n6_;have NB340_338:=n7_;have NB339_340:=n8_;have NB340_339:=n9_;clear n0_ n1_ n2_ n3_ n4_ n5_ n6_ n7_ n8_ n9_;clear hb hbox hg;have hnb51:=NB338_339.out;have hnc51:=NB339_338.out;have hnb52:=NB338_340.out;have hnc52:=NB340_338.out;have hcz53_0 : w50.cell? ⟨gb338,0,none⟩ = some (.int .i64 a0_0):=(blk_cell BK338.out 0).trans rfl;have hcz53_1 : w50.cell? ⟨gb338,1,none⟩ = some (.slice A0_1 l0_1.length c0_1):=(blk_cell BK338.out 1).trans rfl;have hfz53_0:=blk_frozen BK338.out 0;have hfz53_1:=blk_frozen BK338.out 1)|((with_reducible refine gate_callee (f:=65) rfl ?_);refine goesL_ (some 7) rfl rfl Try.func65 (by kernel_rfl) rfl #[.agg #[.int .i64 a0_0,.slice A0_1 l0_1.length c0_1]] rfl (by (try simp only [List.map_toArray,List.map_cons,List.map_nil]);first|done|rfl|(simp only [List.length_drop,List.length_take];rfl)) ?_;(with_reducible refine (spec_GradesValid.calls k a0_0 _ _ l0_1 false _ ?side1 ?side2 A3.out).mono ?_);(case side1 => repeat (first|exact (Kd.C_below HR0_1.out HB.out)|(with_reducible refine Kd.C_alloc ?_ _)|(with_reducible refine Kd.C_drewN ?_ _)|(with_reducible refine Kd.C_drew ?_)));(case side2 => exact HC0_1.out);rintro e w54 ⟨rfl,hb⟩;refine ⟨_,rfl,?_⟩;have n0_:=Aside0.mk (blk_below (g:=gb338) (o:=.cells #[.int .i64 a0_0,.slice A0_1 l0_1.length c0_1] 28 (0,0)) (by (with_reducible repeat (first|refine blk_drewN ?_ _|refine blk_drew ?_|refine blk_alloc ?_ _));exact BK338.out) hb);have n1_:=Aside0.mk (blk_below (g:=gb339) (o:=.cells #[.int .i64 a1_0,.slice A1_1 l1_1.length c1_1] 28 (0,0)) (by (with_reducible repeat (first|refine blk_drewN ?_ _|refine blk_drew ?_|refine blk_alloc ?_ _));exact BK339.out) hb);have n2_:=Aside0.mk (blk_below (g:=gb340) (o:=.cells #[.int .i64 0,.slice none 0 0] 28 (0,0)) (by (with_reducible repeat (first|refine blk_drewN ?_ _|refine blk_drew ?_|refine blk_alloc ?_ _));exact BK340.out) hb);have n3_:=Aside0.mk (below_step (by repeat (first|(with_reducible first|exact HB.out|apply below_alloc|apply pw_below_drewN|apply below_drew1|refine below_set ?_ GE338.out|refine below_set ?_ GE339.out|refine below_set ?_ GE340.out)|exact HB.out)) hb);clear BK338;clear BK339;clear BK340;clear HB;have BK338:=n0_;have BK339:=n1_;have BK340:=n2_;have HB:=n3_;clear n0_ n1_ n2_ n3_;(try clear hb);(try clear hb2);(try clear hk);(try clear hi);have hnb55:=NB340_339.out;have hnc55:=NB339_340.out;have hcz56_0 : w54.cell? ⟨gb340,0,none⟩ = some (.int .i64 0):=(blk_cell BK340.out 0).trans rfl;have hcz56_1 : w54.cell? ⟨gb340,1,none⟩ = some (.slice none 0 0):=(blk_cell BK340.out 1).trans rfl;have hfz56_0:=blk_frozen BK340.out 0;have hfz56_1:=blk_frozen BK340.out 1))
  refine bodyPost_ret (results_ct rfl _ _ gb340 28 #[.int .i64 0,.slice none 0 0] (0,0) _ rfl (by (with_reducible repeat (first|refine blk_drewN ?_ _|refine blk_drew ?_|refine blk_alloc ?_ _));refine blk_put (cs:=#[.int .i64 0,.slice none 0 0]) ?_ 1 _ rfl;(with_reducible repeat (first|refine blk_drewN ?_ _|refine blk_drew ?_|refine blk_alloc ?_ _));refine blk_put (cs:=#[.int .i64 0,.slice none 0 0]) ?_ 0 _ rfl;(with_reducible repeat (first|refine blk_drewN ?_ _|refine blk_drew ?_|refine blk_alloc ?_ _));exact BK340.out) Try.underlying28 rfl (by kernel_rfl)) rfl ?_
  exact ⟨_,by first|rfl|(simp [errW_none,errW_some] <;> rfl)|(simp [*,errW_none,errW_some] <;> rfl),by first|exact Kd.R_nil _ _ _ _ _|exact Kd.N_nil _ _ _ _ _|exact Kd.V_nil _ _ _ _ _|exact Kd.Q_nil _ _ _ _ _|exact Kd.S_nil _ _ _ _ _,by repeat (first|(with_reducible first|exact HB.out|apply below_alloc|apply pw_below_drewN|apply below_drew1|refine below_set ?_ GE338.out|refine below_set ?_ GE339.out|refine below_set ?_ GE340.out)|exact HB.out)⟩
end Go.Proofs.Ytengegdaiphfeaa.X
end
section
namespace Go.Proofs.Ytengegdaiphfeaa.Y
open Go.RowKit Go.Proofs.Ytengegdaiphfeaa.X Go.Proofs.YtengegdaiphfeaaW.PrintWords Go.Proofs.YtengegdaiphfeaaW.PrintLast Go.Proofs.YtengegdaiphfeaaW.PrintMore
set_option linter.unusedVariables false
set_option linter.unusedSimpArgs false
def okCost (x : Int) : Bool:=decide (0 ≤ x ∧ x ≤ 1000000)
def MV (n : Int) (l : List Int) : Prop:=1 ≤ n ∧ n ≤ 4 ∧ (l.length : Int) = n * n ∧ ∀ x ∈ l,0 ≤ x ∧ x ≤ 1000000
def GV (n : Int) (l : List Int) : Prop:=MV n l ∧ ∀ x ∈ l,x ≤ 3
instance (n : Int) (l : List Int) : Decidable (MV n l):=by unfold MV;infer_instance
instance (n : Int) (l : List Int) : Decidable (GV n l):=by unfold GV;infer_instance
theorem icost (a : Int) : impl_CostValid.f a = some (okCost a):=by
 unfold impl_CostValid.f okCost
 by_cases h : a ≥ 0
 ·rw [if_pos h];by_cases h2 : a ≤ 1000000 <;> simp [h2] <;> omega
 ·rw [if_neg h];simp;omega
theorem scost (a : Int) : spec_CostValid.f a = some (okCost a):=by
 unfold spec_CostValid.f spec_l1In.f okCost
 by_cases h : a ≥ 0
 ·rw [if_pos h];by_cases h2 : a ≤ 1000000 <;> simp [h2] <;> omega
 ·rw [if_neg h];simp;omega
theorem sIn (a lo hi : Int) : spec_l1In.f a lo hi = some (decide (lo ≤ a ∧ a ≤ hi)):=by
 unfold spec_l1In.f
 by_cases h : a ≥ lo
 ·rw [if_pos h];by_cases h2 : a ≤ hi <;> simp [h2] <;> omega
 ·rw [if_neg h];simp;omega
theorem index_ev (q : Int → Bool) (p : Int → Option Bool) (hp : ∀ x,p x = some (q x)) (l : List Int) (h : l.length ≤ maxLen) :
  Ev (fun k => slices_ContainsFunc_int_int.f p k l) (l.any q):=by
 rw [maxLen_eq] at h
 have go : ∀ (t pre : List Int),l = pre ++ t → ∃ z : Int,Ev (fun k => slices_IndexFunc_int_int.l0 p k l (l.length : Int) (pre.length : Int)) z ∧ decide (z ≥ 0) = t.any q:=by
  intro t
  induction t with
  | nil =>
   intro pre hl
   refine ⟨-1,?_,rfl⟩
   refine Ev.step (f:=fun _ => some (-1)) (fun k => ?_) (Ev.now _)
   simp only [slices_IndexFunc_int_int.l0]
   rw [if_neg (by rw [hl];simp)]
  | cons x t ih =>
   intro pre hl
   have hlen : l.length = pre.length + (t.length + 1):=by rw [hl];simp
   have hx : rd l (pre.length : Int) = x:=by rw [hl,rd_mid]
   cases hq : q x with
   | true =>
    refine ⟨pre.length,?_,by simp [hq]⟩
    refine Ev.step (f:=fun _ => some (pre.length : Int)) (fun k => ?_) (Ev.now _)
    simp only [slices_IndexFunc_int_int.l0]
    rw [if_pos (by omega),if_pos (by omega),if_pos (by omega),hx,hp,hq,Option.bind_some,if_pos rfl]
   | false =>
    obtain ⟨z,hz,hd⟩:=ih (pre ++ [x]) (by simp [hl])
    refine ⟨z,?_,by simp [hq,hd]⟩
    refine Ev.step (fun k => ?_) hz
    simp only [slices_IndexFunc_int_int.l0]
    rw [if_pos (by omega),if_pos (by omega),if_pos (by omega),hx,hp,hq,Option.bind_some,if_neg (by simp),w64 (by omega) (by omega),snoc_len]
 obtain ⟨z,hz,hd⟩:=go l [] rfl
 refine Ev.congr (f:=?f1) (fun k => ?h1) ?k1
 case h1 => unfold slices_ContainsFunc_int_int.f slices_IndexFunc_int_int.f;exact rfl
 exact Ev.bind hz (Ev.congr (f:=fun _ => some (l.any q)) (fun k => by rw [hd]) (Ev.now _))
theorem iMV (n : Int) (l : List Int) (hl : l.length ≤ maxLen) : Ev (fun k => impl_MatrixValid.f k n l) (decide (MV n l)):=by
 have no : ∀ f : Nat → Option Bool,(∀ k,f k = some false) → ¬ MV n l → Ev f (decide (MV n l)):=fun f h h2 => (ev_some h).is (by rw [decide_eq_false h2])
 by_cases h1 : n < 1
 ·exact no _ (fun k => by unfold impl_MatrixValid.f;rw [if_pos h1]) (fun h => by unfold MV at h;omega)
 by_cases h2 : n > 4
 ·exact no _ (fun k => by unfold impl_MatrixValid.f;rw [if_neg h1,if_pos h2]) (fun h => by unfold MV at h;omega)
 have hnn : 0 ≤ n * n ∧ n * n ≤ 16:=by
  have : n = 1 ∨ n = 2 ∨ n = 3 ∨ n = 4:=by omega
  rcases this with rfl|rfl|rfl|rfl <;> omega
 by_cases h3 : (l.length : Int) = wrap64 (n * n)
 ·rw [w64 (by omega) (by omega)] at h3
  refine Ev.congr (f:=?f2) (fun k => ?h2) ?k2
  case h2 => unfold impl_MatrixValid.f;rw [if_neg h1,if_neg h2,w64 (x:=n * n) (by omega) (by omega),if_pos h3] <;> exact rfl
  have hq : ∀ x,impl_MatrixValid_1.f x = some (!(okCost x)):=fun x => by unfold impl_MatrixValid_1.f;rw [icost];rfl
  refine Ev.bind (index_ev (fun x => !(okCost x)) _ hq l hl) ?_
  refine (ev_some (fun k => rfl)).is ?_
  rw [Bool.eq_iff_iff]
  simp only [Bool.not_eq_true',List.any_eq_false,Bool.not_eq_true',Bool.not_eq_false,decide_eq_true_eq]
  constructor
  ·intro h;exact ⟨by omega,by omega,h3,fun x hx => by simpa [okCost] using h x hx⟩
  ·intro h x hx;simpa [okCost] using h.2.2.2 x hx
 ·refine no _ (fun k => by unfold impl_MatrixValid.f;rw [if_neg h1,if_neg h2,if_neg h3]) (fun h => ?_)
  rw [w64 (by omega) (by omega)] at h3
  exact h3 h.2.2.1
theorem iGV (n : Int) (l : List Int) (hl : l.length ≤ maxLen) : Ev (fun k => impl_GradesValid.f k n l) (decide (GV n l)):=by
 refine Ev.congr (f:=?f3) (fun k => ?h3) ?k3
 case h3 => unfold impl_GradesValid.f;exact rfl
 refine Ev.bind (iMV n l hl) ?_
 by_cases h : MV n l
 ·refine Ev.congr (f:=?f4) (fun k => ?h4) ?k4
  case h4 => rw [decide_eq_true h,if_pos rfl] <;> exact rfl
  refine Ev.bind (index_ev (fun x => decide (x > 3)) _ (fun x => rfl) l hl) ?_
  refine (ev_some (fun k => rfl)).is ?_
  rw [Bool.eq_iff_iff]
  simp only [Bool.not_eq_true',List.any_eq_false,decide_eq_true_eq]
  exact ⟨fun g => ⟨h,fun x hx => by have:=g x hx;omega⟩,fun g x hx => by have:=g.2 x hx;omega⟩
 ·refine (ev_some (fun k => ?_)).is (by rw [decide_eq_false (fun g : GV n l => h g.1)])
  rw [decide_eq_false h];rfl
theorem sAll_ev (l : List Int) (h : l.length ≤ maxLen) : Ev (fun k => spec_l1All.f k l) (l.all okCost):=by
 rw [maxLen_eq] at h
 have go : ∀ (t pre : List Int),l = pre ++ t → Ev (fun k => spec_l1All.l0 k l (l.length : Int) (pre.length : Int)) (t.all okCost):=by
  intro t
  induction t with
  | nil =>
   intro pre hl
   refine Ev.step (f:=fun _ => some true) (fun k => ?_) (Ev.now _)
   simp only [spec_l1All.l0];rw [if_neg (by rw [hl];simp)]
  | cons x t ih =>
   intro pre hl
   have hlen : l.length = pre.length + (t.length + 1):=by rw [hl];simp
   have hx : rd l (pre.length : Int) = x:=by rw [hl,rd_mid]
   cases hq : okCost x with
   | true =>
    refine Ev.step (fun k => ?_) ((ih (pre ++ [x]) (by simp [hl])).is (by simp [hq]))
    simp only [spec_l1All.l0]
    rw [if_pos (by omega),if_pos (by omega),if_pos (by omega),hx,scost,hq,Option.bind_some,if_pos rfl,w64 (by omega) (by omega),snoc_len]
   | false =>
    refine Ev.step (f:=fun _ => some false) (fun k => ?_) ((Ev.now _).is (by simp [hq]))
    simp only [spec_l1All.l0]
    rw [if_pos (by omega),if_pos (by omega),if_pos (by omega),hx,scost,hq,Option.bind_some,if_neg (by simp)]
 exact go l [] rfl
theorem sMV (n : Int) (l : List Int) (hl : l.length ≤ maxLen) : Ev (fun k => spec_MatrixValid.f k n l) (decide (MV n l)):=by
 have no : ∀ f : Nat → Option Bool,(∀ k,f k = some false) → ¬ MV n l → Ev f (decide (MV n l)):=fun f h h2 => (ev_some h).is (by rw [decide_eq_false h2])
 by_cases h1 : 1 ≤ n ∧ n ≤ 4
 ·have hnn : 0 ≤ n * n ∧ n * n ≤ 16:=by
   have : n = 1 ∨ n = 2 ∨ n = 3 ∨ n = 4:=by omega
   rcases this with rfl|rfl|rfl|rfl <;> omega
  by_cases h3 : (l.length : Int) = n * n
  ·refine Ev.congr (f:=?f5) (fun k => ?h5) ?k5
   case h5 => unfold spec_MatrixValid.f;rw [sIn,decide_eq_true h1,Option.bind_some,if_pos rfl,w64 (x:=n * n) (by omega) (by omega),if_pos h3] <;> exact rfl
   refine Ev.bind (sAll_ev l hl) ((ev_some (fun k => rfl)).is ?_)
   rw [Bool.eq_iff_iff]
   simp only [List.all_eq_true,decide_eq_true_eq]
   exact ⟨fun g => ⟨h1.1,h1.2,h3,fun x hx => by simpa [okCost] using g x hx⟩,fun g x hx => by simpa [okCost] using g.2.2.2 x hx⟩
  ·exact no _ (fun k => by unfold spec_MatrixValid.f;rw [sIn,decide_eq_true h1,Option.bind_some,if_pos rfl,w64 (x:=n * n) (by omega) (by omega),if_neg h3]) (fun h => h3 h.2.2.1)
 ·exact no _ (fun k => by unfold spec_MatrixValid.f;rw [sIn,decide_eq_false h1];rfl) (fun h => h1 ⟨h.1,h.2.1⟩)
theorem sGV (n : Int) (l : List Int) (hl : l.length ≤ maxLen) : Ev (fun k => spec_GradesValid.f k n l) (decide (GV n l)):=by
 have hm:=hl
 rw [maxLen_eq] at hm
 have go : ∀ (t pre : List Int),l = pre ++ t → Ev (fun k => spec_GradesValid.l0 k l (l.length : Int) (pre.length : Int) n l) (decide ((∀ x ∈ t,0 ≤ x ∧ x ≤ 3) ∧ MV n l)):=by
  intro t
  induction t with
  | nil =>
   intro pre hp
   refine Ev.step (f:=?f6) (fun k => ?h6) ?k6
   case h6 => simp only [spec_GradesValid.l0];rw [if_neg (by rw [hp];simp)] <;> exact rfl
   exact Ev.bind (sMV n l hl) ((ev_some (fun k => rfl)).is (by simp))
  | cons x t ih =>
   intro pre hp
   have hlen : l.length = pre.length + (t.length + 1):=by rw [hp];simp
   have hx : rd l (pre.length : Int) = x:=by rw [hp,rd_mid]
   by_cases hq : 0 ≤ x ∧ x ≤ 3
   ·refine Ev.step (fun k => ?_) ((ih (pre ++ [x]) (by simp [hp])).is ?_)
    ·simp only [spec_GradesValid.l0]
     rw [if_pos (by omega),if_pos (by omega),if_pos (by omega),hx,sIn,decide_eq_true hq,Option.bind_some,if_pos rfl,w64 (by omega) (by omega),snoc_len]
    ·simp [hq.1,hq.2]
   ·refine Ev.step (f:=fun _ => some false) (fun k => ?_) ((Ev.now _).is ?_)
    ·simp only [spec_GradesValid.l0]
     rw [if_pos (by omega),if_pos (by omega),if_pos (by omega),hx,sIn,decide_eq_false hq,Option.bind_some,if_neg (by simp)]
    ·symm;rw [decide_eq_false_iff_not];intro h;exact hq (h.1 x (by simp))
 refine (go l [] rfl).is ?_
 rw [Bool.eq_iff_iff]
 simp only [decide_eq_true_eq]
 exact ⟨fun h => ⟨h.2,fun x hx => (h.1 x hx).2⟩,fun h => ⟨fun x hx => ⟨(h.1.2.2.2 x hx).1,h.2 x hx⟩,h.1⟩⟩
end Go.Proofs.Ytengegdaiphfeaa.Y
end
section
namespace Go.Proofs.Ytengegdaiphfeaa.Y
open Go.RowKit Go.Proofs.Ytengegdaiphfeaa.X Go.Proofs.YtengegdaiphfeaaW.PrintWords Go.Proofs.YtengegdaiphfeaaW.PrintLast Go.Proofs.YtengegdaiphfeaaW.PrintMore
set_option linter.unusedVariables false
set_option linter.unusedSimpArgs false
theorem div_mod_at (n i k : Nat) (hk : k < n) : (i * n + k) / n = i ∧ (i * n + k) % n = k:=by
 have hn : 0 < n:=by omega
 constructor
 ·rw [Nat.mul_comm,Nat.mul_add_div hn,Nat.div_eq_of_lt hk,Nat.add_zero]
 ·rw [Nat.mul_comm,Nat.mul_add_mod,Nat.mod_eq_of_lt hk]
theorem cell_lt (n i k : Nat) (hi : i < n) (hk : k < n) : i * n + k < n * n:=by
 have : (i + 1) * n ≤ n * n:=Nat.mul_le_mul_right n hi
 rw [Nat.succ_mul] at this
 omega
theorem sq_le (n : Nat) (h : n ≤ 4) : n * n ≤ 16:=by
 have:=Nat.mul_le_mul h h
 omega
theorem row_le (n i : Nat) (hn : n ≤ 4) (hi : i ≤ n) : i * n ≤ 16:=by
 have:=Nat.mul_le_mul (Nat.le_trans hi hn) hn
 omega
def cutF (n : Nat) (g : Nat → Nat → Int) : Int → Int → Option Int:=fun i k => if 0 ≤ i ∧ i < n ∧ 0 ≤ k ∧ k < n then some (g i.toNat k.toNat) else none
theorem cutF_at (n : Nat) (g : Nat → Nat → Int) (i k : Nat) (hi : i < n) (hk : k < n) : cutF n g (i : Int) (k : Int) = some (g i k):=by
 unfold cutF;rw [if_pos (by omega)];simp
def sqL (n : Nat) (g : Nat → Nat → Int) : List Int:=tab (n * n) (fun m => g (m / n) (m % n))
theorem sqL_get (n : Nat) (g : Nat → Nat → Int) (i k : Nat) (hi : i < n) (hk : k < n) : (sqL n g).getD (i * n + k) 0 = g i k:=by
 unfold sqL
 rw [tab_get _ _ _ (cell_lt n i k hi hk)]
 obtain ⟨h1,h2⟩:=div_mod_at n i k hk
 rw [h1,h2]
theorem sqL_congr (n : Nat) (g h : Nat → Nat → Int) (e : ∀ i k,i < n → k < n → g i k = h i k) : sqL n g = sqL n h:=by
 refine tab_congr _ _ _ (fun j hj => e _ _ (Nat.div_lt_of_lt_mul hj) (Nat.mod_lt _ ?_))
 rcases n with _|n
 ·simp at hj
 ·omega
theorem eq_sqL (n : Nat) (l : List Int) (h : l.length = n * n) : l = sqL n (fun i k => l.getD (i * n + k) 0):=by
 refine (eq_tab l _ h).trans (tab_congr _ _ _ (fun j _ => ?_))
 show l.getD j 0 = l.getD (j / n * n + j % n) 0
 rw [Nat.mul_comm,Nat.div_add_mod]
theorem filled_cut (n : Nat) (hn : n ≤ 4) (g : Nat → Nat → Int) : Ev (fun j => impl_filled.f (cutF n g) j (n : Int)) ((n : Int),sqL n g):=by
 have inner : ∀ (i : Nat) (r : Int × List Int),i < n → Ev (fun j => impl_filled.l0 (cutF n g) j n n ((i + 1 : Nat) : Int) n (tab ((i + 1) * n) (fun m => g (m / n) (m % n)))) r →
   Ev (fun j => impl_filled.l0 (cutF n g) j n n (i : Int) n (tab (i * n) (fun m => g (m / n) (m % n)))) r:=by
  intro i r hi h
  refine Ev.step (f:=fun j => impl_filled.l1 (cutF n g) j n i n i n ((0 : Nat) : Int) n (tab (i * n + 0) (fun m => g (m / n) (m % n)))) (fun k => ?_) ?_
  ·simp only [impl_filled.l0];rw [if_pos (by omega)];rfl
  refine up_loop n (fun k j => impl_filled.l1 (cutF n g) j n i n i n (k : Int) n (tab (i * n + k) (fun m => g (m / n) (m % n)))) r (fun k hk hs => ?_) ?_
  ·refine Ev.step (fun j => ?_) hs
   simp only [impl_filled.l1]
   have hr:=row_le n i hn (by omega)
   obtain ⟨h1,h2⟩:=div_mod_at n i k hk
   rw [if_pos (by omega),cutF_at n g i k hi hk,Option.bind_some,tab_length,if_pos (by omega),w64 (by omega) (by omega)]
   have e : tab (i * n + k) (fun m => g (m / n) (m % n)) ++ [g i k] = tab (i * n + (k + 1)) (fun m => g (m / n) (m % n)):=by
    rw [← Nat.add_assoc,← tab_snoc,h1,h2]
   rw [e];rfl
  ·refine Ev.step (fun j => ?_) h
   simp only [impl_filled.l1]
   rw [if_neg (by omega),w64 (by omega) (by omega),Nat.succ_mul];rfl
 refine Ev.congr (f:=fun j => impl_filled.l0 (cutF n g) j n n ((0 : Nat) : Int) n (tab (0 * n) (fun m => g (m / n) (m % n)))) (fun k => ?_) ?_
 ·unfold impl_filled.f;simp [tab]
 refine up_loop n (fun i j => impl_filled.l0 (cutF n g) j n n (i : Int) n (tab (i * n) (fun m => g (m / n) (m % n)))) _ (fun i hi hs => inner i _ hi hs) ?_
 refine Ev.step (f:=fun _ => some ((n : Int),sqL n g)) (fun j => ?_) (Ev.now _)
 simp only [impl_filled.l0]
 rw [if_neg (by omega)];rfl
theorem filled_ev (n : Nat) (hn : n ≤ 4) (g : Nat → Nat → Int) (p : Nat → Int → Int → Option Int) (h : ∀ i,i < n → ∀ k,k < n → Ev (fun K => p K (i : Int) (k : Int)) (g i k)) :
  Ev (fun K => impl_filled.f (p K) K (n : Int)) ((n : Int),sqL n g):=by
 have h2 : ∀ i,i < n → ∃ K0,∀ K,K0 ≤ K → ∀ k,k < n → p K (i : Int) (k : Int) = some (g i k):=fun i hi => ev_all n (fun k hk => h i hi k hk)
 have h3 : ∃ K0,∀ K,K0 ≤ K → ∀ i,i < n → ∀ k,k < n → p K (i : Int) (k : Int) = some (g i k):=by
  have : ∀ m,m ≤ n → ∃ K0,∀ K,K0 ≤ K → ∀ i,i < m → ∀ k,k < n → p K (i : Int) (k : Int) = some (g i k):=by
   intro m
   induction m with
   | zero => intro _;exact ⟨0,fun _ _ i hi => by omega⟩
   | succ m ih =>
    intro hm
    obtain ⟨a,ha⟩:=ih (by omega)
    obtain ⟨b,hb⟩:=h2 m (by omega)
    refine ⟨max a b,fun K hK i hi k hk => ?_⟩
    by_cases e : i = m
    ·subst e;exact hb K (by omega) k hk
    ·exact ha K (by omega) i (by omega) k hk
  exact this n (Nat.le_refl _)
 obtain ⟨K0,hK0⟩:=h3
 refine ev_up (f:=fun j => impl_filled.f (cutF n g) j (n : Int)) (p:=fun K j => impl_filled.f (p K) j (n : Int)) (filled_cut n hn g) ⟨K0,fun K hK j => ?_⟩ (fun K j => impl_filled.mono (p K) _ j)
 refine impl_filled.monoP (fun y0 y1 r hr => ?_) _ j
 unfold cutF at hr
 by_cases hc : 0 ≤ y0 ∧ y0 < n ∧ 0 ≤ y1 ∧ y1 < n
 ·rw [if_pos hc] at hr
  have e0 : ((y0.toNat : Nat) : Int) = y0:=by omega
  have e1 : ((y1.toNat : Nat) : Int) = y1:=by omega
  have:=hK0 K hK y0.toNat (by omega) y1.toNat (by omega)
  rw [e0,e1] at this
  rw [this];exact hr
 ·rw [if_neg hc] at hr;cases hr
theorem at_eq (n : Nat) (hn : n ≤ 4) (l : List Int) (hl : l.length = n * n) (i k : Nat) (hi : i < n) (hk : k < n) : impl_Matrix_at.f (n : Int) l (i : Int) (k : Int) = some (l.getD (i * n + k) 0):=by
 have hc:=cell_lt n i k hi hk
 have hr:=row_le n i hn (by omega)
 have e : wrap64 (wrap64 ((i : Int) * (n : Int)) + k) = ((i * n + k : Nat) : Int):=by
  have : (i : Int) * (n : Int) = ((i * n : Nat) : Int):=by simp
  rw [this,w64 (x:=((i * n : Nat) : Int)) (by omega) (by omega),w64 (by omega) (by omega)];simp
 unfold impl_Matrix_at.f
 rw [e,if_pos (by omega),if_pos (by omega),rd_nat]
def mulE (n : Nat) (a b : List Int) (i k : Nat) : Int:=(List.range n).foldl (fun acc l => mn acc (mx (a.getD (i * n + l) 0) (b.getD (l * n + k) 0))) 3
def mulL (n : Nat) (a b : List Int) : List Int:=sqL n (mulE n a b)
theorem mulL_length (n : Nat) (a b : List Int) : (mulL n a b).length = n * n:=by simp [mulL,sqL,tab_length]
theorem iMulCell (n : Nat) (hn : n ≤ 4) (a b : List Int) (ha : a.length = n * n) (hb : b.length = n * n) (i k : Nat) (hi : i < n) (hk : k < n) :
  Ev (fun K => impl_MulGrades_1.f K (i : Int) (k : Int) (n : Int) a (n : Int) b) (mulE n a b i k):=by
 refine up_loop n (fun l K => impl_MulGrades_1.l0 K i k ((List.range l).foldl (fun acc l => mn acc (mx (a.getD (i * n + l) 0) (b.getD (l * n + k) 0))) 3) n (l : Int) n a n b) _ (fun l hl hs => ?_) ?_
 ·refine Ev.step (fun j => ?_) hs
  simp only [impl_MulGrades_1.l0]
  rw [if_pos (by omega),at_eq n hn a ha i l hi hl,Option.bind_some,at_eq n hn b hb l k hl hk,Option.bind_some,w64 (by omega) (by omega),fold_snoc];rfl
 ·refine Ev.step (f:=fun _ => some (mulE n a b i k)) (fun j => ?_) (Ev.now _)
  simp only [impl_MulGrades_1.l0]
  rw [if_neg (by omega)];rfl
theorem GV_len {n : Nat} {l : List Int} (h : GV (n : Int) l) : l.length = n * n:=by
 have:=h.1.2.2.1
 exact_mod_cast this
theorem GV_le {n : Nat} {l : List Int} (h : GV (n : Int) l) : n ≤ 4 ∧ 1 ≤ n:=by
 have h1:=h.1.1
 have h2:=h.1.2.1
 omega
theorem GV_nat {n : Int} {l : List Int} (h : GV n l) : ∃ m : Nat,n = (m : Int):=⟨n.toNat,by have:=h.1.1;omega⟩
theorem iMul (n : Nat) (a b : List Int) (ha : GV n a) (hb : GV n b) : Ev (fun k => impl_MulGrades.f k n a n b) ((n : Int),mulL n a b,true):=by
 have hn:=(GV_le ha).1
 have hla:=GV_len ha
 have hlb:=GV_len hb
 have hs:=sq_le n hn
 have hm : ∀ l : List Int,l.length = n * n → l.length ≤ maxLen:=fun l h => by rw [maxLen_eq];omega
 refine Ev.congr (f:=?f1) (fun k => ?h1) ?k1
 case h1 => unfold impl_MulGrades.f;exact rfl
 refine Ev.bind (iGV n a (hm a hla)) ?_
 refine Ev.congr (f:=?f2) (fun k => ?h2) ?k2
 case h2 => rw [decide_eq_true ha,if_pos rfl] <;> exact rfl
 refine Ev.bind (iGV n b (hm b hlb)) ?_
 refine Ev.congr (f:=?f3) (fun k => ?h3) ?k3
 case h3 => rw [decide_eq_true hb,if_pos rfl,if_pos rfl] <;> exact rfl
 refine Ev.bind (a:=((n : Int),mulL n a b)) ?_ (Ev.now _)
 exact filled_ev n hn (mulE n a b) (fun K y0 y1 => impl_MulGrades_1.f K y0 y1 n a n b) (fun i hi k hk => iMulCell n hn a b hla hlb i k hi hk)
def mulR (n : Int) (a : List Int) (m : Int) (b : List Int) : Int × List Int × Bool:=if GV n a ∧ GV m b ∧ n = m then (n,mulL n.toNat a b,true) else (0,[],false)
theorem iMul_any (n : Int) (a : List Int) (m : Int) (b : List Int) (ha : a.length ≤ maxLen) (hb : b.length ≤ maxLen) : Ev (fun k => impl_MulGrades.f k n a m b) (mulR n a m b):=by
 by_cases h : GV n a ∧ GV m b ∧ n = m
 ·obtain ⟨h1,h2,rfl⟩:=h
  obtain ⟨z,rfl⟩:=GV_nat h1
  refine (iMul z a b h1 h2).is ?_
  unfold mulR;rw [if_pos ⟨h1,h2,rfl⟩];rfl
 ·have hr : mulR n a m b = (0,[],false):=by unfold mulR;rw [if_neg h]
  rw [hr]
  refine Ev.congr (f:=?f4) (fun k => ?h4) ?k4
  case h4 => unfold impl_MulGrades.f;exact rfl
  refine Ev.bind (iGV n a ha) ?_
  by_cases h1 : GV n a
  ·refine Ev.congr (f:=?f5) (fun k => ?h5) ?k5
   case h5 => rw [decide_eq_true h1,if_pos rfl] <;> exact rfl
   refine Ev.bind (iGV m b hb) ?_
   by_cases h2 : GV m b
   ·exact ev_some (fun k => by rw [decide_eq_true h2,if_pos rfl,if_neg (fun e => h ⟨h1,h2,e⟩)])
   ·exact ev_some (fun k => by rw [decide_eq_false h2];rfl)
  ·exact ev_some (fun k => by rw [decide_eq_false h1];rfl)
theorem tdiv_nat (m n : Nat) : Int.tdiv (m : Int) (n : Int) = ((m / n : Nat) : Int):=by rw [Int.tdiv_eq_ediv_of_nonneg (by omega)];simp
theorem tmod_nat (m n : Nat) : Int.tmod (m : Int) (n : Int) = ((m % n : Nat) : Int):=by rw [Int.tmod_eq_emod_of_nonneg (by omega)];simp
theorem idx1 (n m l : Nat) (hn : n ≤ 4) (hi : m / n < n) (hl : l < n) : wrap64 (wrap64 (wrap64 (Int.tdiv (m : Int) (n : Int)) * (n : Int)) + l) = ((m / n * n + l : Nat) : Int):=by
 have r1:=row_le n (m / n) hn (by omega)
 rw [tdiv_nat]
 obtain ⟨q,hq⟩ : ∃ q : Nat,m / n = q:=⟨_,rfl⟩
 rw [hq] at hi r1 ⊢
 have h1 : ((q : Nat) : Int) * (n : Int) = ((q * n : Nat) : Int):=by simp
 obtain ⟨s,hs⟩ : ∃ s : Nat,q * n = s:=⟨_,rfl⟩
 rw [w64 (x:=((q : Nat) : Int)) (by omega) (by omega),h1]
 rw [hs] at r1 ⊢
 clear h1 hs hq
 rw [w64 (x:=((s : Nat) : Int)) (by omega) (by omega),w64 (by omega) (by omega)];simp
theorem idx2 (n m l : Nat) (hn : n ≤ 4) (hk : m % n < n) (hl : l < n) : wrap64 (wrap64 ((l : Int) * (n : Int)) + Int.tmod (m : Int) (n : Int)) = ((l * n + m % n : Nat) : Int):=by
 have r2:=row_le n l hn (by omega)
 rw [tmod_nat]
 obtain ⟨q,hq⟩ : ∃ q : Nat,m % n = q:=⟨_,rfl⟩
 rw [hq] at hk ⊢
 have h1 : (l : Int) * (n : Int) = ((l * n : Nat) : Int):=by simp
 obtain ⟨s,hs⟩ : ∃ s : Nat,l * n = s:=⟨_,rfl⟩
 rw [h1]
 rw [hs] at r2 ⊢
 clear h1 hs hq
 rw [w64 (x:=((s : Nat) : Int)) (by omega) (by omega),w64 (by omega) (by omega)];simp
theorem sMul (n : Nat) (hn : n ≤ 4) (h0 : 1 ≤ n) (a b : List Int) (hla : a.length = n * n) (hlb : b.length = n * n) : Ev (fun k => spec_l6Mul.f k n a n b) ((n : Int),mulL n a b):=by
 have hs:=sq_le n hn
 have e0 : wrap64 ((n : Int) * (n : Int)) = ((n * n : Nat) : Int):=by
  have : (n : Int) * (n : Int) = ((n * n : Nat) : Int):=by simp
  rw [this,w64 (by omega) (by omega)]
 refine Ev.congr (f:=fun k => spec_l6Mul.l0 k ((n * n : Nat) : Int) ((0 : Nat) : Int) n a n b n (tab 0 (fun m => mulE n a b (m / n) (m % n)))) (fun k => ?_) ?_
 ·unfold spec_l6Mul.f;rw [e0];simp [tab]
 refine up_loop (n * n) (fun m k => spec_l6Mul.l0 k ((n * n : Nat) : Int) (m : Int) n a n b n (tab m (fun m => mulE n a b (m / n) (m % n)))) _ (fun m hm hnext => ?_) ?_
 ·have hi : m / n < n:=Nat.div_lt_of_lt_mul hm
  have hk : m % n < n:=Nat.mod_lt _ (by omega)
  refine Ev.step (f:=fun k => spec_l6Mul.l1 k m ((List.range 0).foldl (fun acc l => mn acc (mx (a.getD (m / n * n + l) 0) (b.getD (l * n + m % n) 0))) 3) ((n * n : Nat) : Int) m n ((0 : Nat) : Int) n a n b n (tab m (fun m => mulE n a b (m / n) (m % n)))) (fun k => ?_) ?_
  ·simp only [spec_l6Mul.l0];rw [if_pos (by omega)];rfl
  refine up_loop n (fun l k => spec_l6Mul.l1 k m ((List.range l).foldl (fun acc l => mn acc (mx (a.getD (m / n * n + l) 0) (b.getD (l * n + m % n) 0))) 3) ((n * n : Nat) : Int) m n (l : Int) n a n b n (tab m (fun m => mulE n a b (m / n) (m % n)))) _ (fun l hl hs2 => ?_) ?_
  ·refine Ev.step (fun j => ?_) hs2
   have c1:=cell_lt n (m / n) l hi hl
   have c2:=cell_lt n l (m % n) hl hk
   have r1:=row_le n (m / n) hn (by omega)
   have r2:=row_le n l hn (by omega)
   have hA : (l : Int) < (n : Int):=by omega
   have hB : ¬ (n : Int) = 0:=by omega
   have hC : (((m / n * n + l : Nat)) : Int) < (a.length : Int):=by rw [hla];exact_mod_cast c1
   have hD : (((l * n + m % n : Nat)) : Int) < (b.length : Int):=by rw [hlb];exact_mod_cast c2
   have hE : wrap64 ((l : Int) + 1) = ((l + 1 : Nat) : Int):=by rw [w64 (by omega) (by omega)];rfl
   have e1:=idx1 n m l hn hi hl
   have e2:=idx2 n m l hn hk hl
   simp only [spec_l6Mul.l1]
   rw [if_pos hA,if_neg hB,e1,e2,if_pos (Int.natCast_nonneg _),if_pos hC,if_pos (Int.natCast_nonneg _),if_pos hD,rd_nat,rd_nat,hE,fold_snoc]
  ·refine Ev.step (fun j => ?_) hnext
   simp only [spec_l6Mul.l1]
   rw [if_neg (by omega),tab_length,if_pos (by omega),w64 (by omega) (by omega)]
   have e : tab m (fun m => mulE n a b (m / n) (m % n)) ++ [mulE n a b (m / n) (m % n)] = tab (m + 1) (fun m => mulE n a b (m / n) (m % n)):=tab_snoc m (fun m => mulE n a b (m / n) (m % n))
   show spec_l6Mul.l0 j _ _ _ _ _ _ _ (tab m (fun m => mulE n a b (m / n) (m % n)) ++ [mulE n a b (m / n) (m % n)]) = _
   rw [e];rfl
 ·refine Ev.step (f:=fun _ => some ((n : Int),mulL n a b)) (fun j => ?_) (Ev.now _)
  simp only [spec_l6Mul.l0]
  rw [if_neg (by omega)];rfl
theorem sMul_any (n : Int) (a : List Int) (m : Int) (b : List Int) (ha : a.length ≤ maxLen) (hb : b.length ≤ maxLen) : Ev (fun k => spec_MulGrades.f k n a m b) (mulR n a m b):=by
 refine Ev.congr (f:=?f6) (fun k => ?h6) ?k6
 case h6 => unfold spec_MulGrades.f;exact rfl
 refine Ev.bind (sGV n a ha) ?_
 by_cases h1 : GV n a
 ·refine Ev.congr (f:=?f7) (fun k => ?h7) ?k7
  case h7 => rw [decide_eq_true h1,if_pos rfl] <;> exact rfl
  refine Ev.bind (sGV m b hb) ?_
  by_cases h2 : GV m b
  ·by_cases e : n = m
   ·subst e
    obtain ⟨z,rfl⟩:=GV_nat h1
    refine Ev.congr (f:=?f8) (fun k => ?h8) ?k8
    case h8 => rw [decide_eq_true h2,if_pos rfl,if_pos rfl] <;> exact rfl
    refine Ev.bind (sMul z (GV_le h1).1 (GV_le h1).2 a b (GV_len h1) (GV_len h2)) ((Ev.now _).is ?_)
    unfold mulR;rw [if_pos ⟨h1,h2,rfl⟩];rfl
   ·refine ev_some (fun k => ?_)
    rw [decide_eq_true h2,if_pos rfl,if_neg e];unfold mulR;rw [if_neg (fun h => e h.2.2)]
  ·refine ev_some (fun k => ?_)
   rw [decide_eq_false h2,if_neg (by simp)];unfold mulR;rw [if_neg (fun h => h2 h.2.1)]
 ·refine ev_some (fun k => ?_)
  rw [decide_eq_false h1,if_neg (by simp)];unfold mulR;rw [if_neg (fun h => h1 h.1)]
end Go.Proofs.Ytengegdaiphfeaa.Y
end
section
namespace Go.Proofs.Ytengegdaiphfeaa.Y
open Go.RowKit Go.Proofs.Ytengegdaiphfeaa.X Go.Proofs.YtengegdaiphfeaaW.PrintWords Go.Proofs.YtengegdaiphfeaaW.PrintLast Go.Proofs.YtengegdaiphfeaaW.PrintMore
set_option linter.unusedVariables false
set_option linter.unusedSimpArgs false
def ch (g : Int) : UInt8:=if g = 0 then 48 else if g = 1 then 49 else if g = 2 then 119 else 45
def B (l : List UInt8) : ByteArray:=⟨l.toArray⟩
theorem B_add (a b : List UInt8) : B a ++ B b = B (a ++ b):=L_inj (by rw [L_append];unfold B;rw [L_mk,L_mk,L_mk])
theorem B_size (a : List UInt8) : (B a).size = a.length:=by rw [L_size];unfold B;rw [L_mk]
theorem B_toList (a : List UInt8) : (B a).data.toList = a:=by unfold B;simp
theorem ch_at (g : Int) (h0 : 0 ≤ g) (h3 : g ≤ 3) : (⟨#[48,49,119,45]⟩ : ByteArray).extract (g.toNat) ((g + 1).toNat) = B [ch g]:=by
 have : g = 0 ∨ g = 1 ∨ g = 2 ∨ g = 3:=by omega
 rcases this with rfl|rfl|rfl|rfl <;> (apply L_inj;rw [L_extract];unfold B;rw [L_mk];rfl)
def rowk (n : Nat) (l : List Int) (i k : Nat) : List UInt8:=(List.range k).map (fun k => ch (l.getD (i * n + k) 0))
theorem rowk_len (n : Nat) (l : List Int) (i k : Nat) : (rowk n l i k).length = k:=by simp [rowk]
theorem rowk_snoc (n : Nat) (l : List Int) (i k : Nat) : rowk n l i (k + 1) = rowk n l i k ++ [ch (l.getD (i * n + k) 0)]:=by simp [rowk,List.range_succ]
def sepOf (i : Nat) : List UInt8:=if i = 0 then [] else [47]
def TT (n : Nat) (l : List Int) : Nat → List UInt8
 | 0 => []
 | i + 1 => TT n l i ++ (sepOf i ++ rowk n l i n)
theorem sepOf_len (i : Nat) : (sepOf i).length ≤ 1:=by unfold sepOf;by_cases h : i = 0 <;> simp [h]
theorem TT_len (n : Nat) (hn : n ≤ 4) (l : List Int) (i : Nat) : (TT n l i).length ≤ i * 5:=by
 induction i with
 | zero => simp [TT]
 | succ i ih =>
  have:=sepOf_len i
  simp only [TT,List.length_append,rowk_len]
  omega
theorem iRowText (r : List Int) (hr : r.length ≤ 16) (hg : ∀ x ∈ r,0 ≤ x ∧ x ≤ 3) : Ev (fun k => impl_FormatGrades_1.f k r) (B (r.map ch)):=by
 have go : ∀ (t pre : List Int),r = pre ++ t → Ev (fun k => impl_FormatGrades_1.l0 k (B (pre.map ch)) r (r.length : Int) (pre.length : Int)) (B (r.map ch)):=by
  intro t
  induction t with
  | nil =>
   intro pre hp
   refine Ev.step (f:=fun _ => some (B (pre.map ch))) (fun k => ?_) ((Ev.now _).is (by rw [hp];simp))
   simp only [impl_FormatGrades_1.l0];rw [if_neg (by rw [hp];simp)]
  | cons x t ih =>
   intro pre hp
   have hlen : r.length = pre.length + (t.length + 1):=by rw [hp];simp
   have hx : rd r (pre.length : Int) = x:=by rw [hp,rd_mid]
   have hxg:=hg x (by rw [hp];simp)
   have hsz : (B (pre.map ch)).size = pre.length:=by rw [B_size];simp
   have hd : ((x + 1).toNat - x.toNat) = 1:=by omega
   refine Ev.step (fun k => ?_) (ih (pre ++ [x]) (by simp [hp]))
   simp only [impl_FormatGrades_1.l0]
   rw [if_pos (by omega),if_pos (by omega),if_pos (by omega),hx,if_pos hxg.1,w64 (x:=x + 1) (by omega) (by omega),if_pos (by omega),if_pos (by omega),hsz,hd,if_pos (by omega),w64 (x:=(pre.length : Int) + 1) (by omega) (by omega),snoc_len,ch_at x hxg.1 hxg.2,B_add]
   simp
 exact go r [] rfl
theorem rowk_eq (n : Nat) (l : List Int) (hl : l.length = n * n) (i : Nat) (hi : i < n) : (((l.take ((i + 1) * n)).drop (i * n)).map ch) = rowk n l i n:=by
 have h1 : (i + 1) * n ≤ n * n:=Nat.mul_le_mul_right n hi
 have h2 : (i + 1) * n = i * n + n:=Nat.succ_mul i n
 apply List.ext_getElem
 ·simp [rowk];omega
 ·intro j g1 g2
  have hj : j < n:=by simpa [rowk] using g2
  have hc:=cell_lt n i j hi hj
  have hc' : i * n + j < l.length:=by omega
  simp [rowk,List.getD_eq_getElem?_getD,List.getElem?_eq_getElem hc']
theorem join_snoc (xs : List (List UInt8)) (y sep : List UInt8) : Lib.join (xs ++ [y]) sep = if xs = [] then y else Lib.join xs sep ++ (sep ++ y):=by
 cases xs with
 | nil => simp [Lib.join_one]
 | cons x r =>
  rw [if_neg (by simp),List.cons_append,Lib.join_cons,Lib.join_cons]
  simp [Lib.joinTail,List.append_assoc]
def rowsB (n : Nat) (l : List Int) (i : Nat) : List ByteArray:=(List.range i).map (fun i => B (rowk n l i n))
theorem rowsB_snoc (n : Nat) (l : List Int) (i : Nat) : rowsB n l i ++ [B (rowk n l i n)] = rowsB n l (i + 1):=by simp [rowsB,List.range_succ]
theorem rowsB_join (n : Nat) (l : List Int) (i : Nat) : Lib.join ((rowsB n l i).map (·.data.toList)) [47] = TT n l i:=by
 induction i with
 | zero => rfl
 | succ i ih =>
  rw [← rowsB_snoc,List.map_append,List.map_cons,List.map_nil,join_snoc,ih,B_toList]
  simp only [TT,sepOf]
  by_cases h : i = 0
  ·subst h;simp [rowsB,TT]
  ·rw [if_neg (by simp [rowsB,h]),if_neg h]
theorem iFormat (n : Nat) (l : List Int) (g : GV n l) : Ev (fun k => impl_FormatGrades.f k n l) (B (TT n l n)):=by
 have hn:=(GV_le g).1
 have hl:=GV_len g
 have h16 : l.length ≤ 16:=by rw [hl];exact sq_le n hn
 unfold impl_FormatGrades.f
 refine Ev.bind (iGV n l (by rw [maxLen_eq];omega)) (Ev_t (decide_eq_true g) ?_)
 refine Ev.bind ?_ (Ev.now _)
 obtain ⟨K0,hK0⟩:=ev_all (f:=fun i k => impl_FormatGrades_1.f k ((l.take ((i + 1) * n)).drop (i * n))) (g:=fun i => B (((l.take ((i + 1) * n)).drop (i * n)).map ch)) n (fun i hi => iRowText _ (by simp;omega) (fun x hx => by
  have hm:=List.mem_of_mem_take (List.mem_of_mem_drop hx)
  exact ⟨(g.1.2.2.2 x hm).1,g.2 x hm⟩))
 have main : ∀ K,K0 ≤ K → Ev (fun j => impl_rows.l0 (fun y0 => impl_FormatGrades_1.f K y0) j [] n ((0 : Nat) : Int) n l) (B (TT n l n)):=by
  intro K hK
  refine up_loop n (fun i j => impl_rows.l0 (fun y0 => impl_FormatGrades_1.f K y0) j (rowsB n l i) n (i : Int) n l) _ (fun i hi hs => ?_) ?_
  ·have r1:=row_le n i hn (by omega)
   have r2:=row_le n (i + 1) hn (by omega)
   have h1 : (i + 1) * n ≤ n * n:=Nat.mul_le_mul_right n hi
   have h2 : (i + 1) * n = i * n + n:=Nat.succ_mul i n
   have e0 : wrap64 ((i : Int) + 1) = ((i + 1 : Nat) : Int):=by rw [w64 (x:=(i : Int) + 1) (by omega) (by omega)];omega
   have e1 : wrap64 ((i : Int) * (n : Int)) = ((i * n : Nat) : Int):=by
    have : (i : Int) * (n : Int) = ((i * n : Nat) : Int):=by simp
    rw [this,w64 (x:=((i * n : Nat) : Int)) (by omega) (by omega)]
   have e2 : wrap64 (((i + 1 : Nat) : Int) * (n : Int)) = (((i + 1) * n : Nat) : Int):=by
    have : ((i + 1 : Nat) : Int) * (n : Int) = (((i + 1) * n : Nat) : Int):=by simp
    rw [this,w64 (x:=(((i + 1) * n : Nat) : Int)) (by omega) (by omega)]
   have q1 : (i : Int) < (n : Int):=by clear e0 e1 e2;omega
   have q2 : ((i * n : Nat) : Int) ≤ (((i + 1) * n : Nat) : Int):=by clear e0 e1 e2;omega
   have q3 : (((i + 1) * n : Nat) : Int) ≤ (l.length : Int):=by clear e0 e1 e2;omega
   have q4 : (rowsB n l i).length < 8796093022208:=by simp [rowsB];clear e0 e1 e2;omega
   have hrow:=hK0 K hK i hi
   rw [rowk_eq n l hl i hi] at hrow
   refine Ev.step (fun j => ?_) hs
   simp only [impl_rows.l0]
   rw [if_pos q1,e0,e1,e2,if_pos (Int.natCast_nonneg _),if_pos q2,if_pos q3,Int.toNat_natCast,Int.toNat_natCast,hrow,Option.bind_some,if_pos q4,rowsB_snoc]
  ·refine Ev.step (f:=fun _ => some (B (TT n l n))) (fun j => ?_) (Ev.now _)
   simp only [impl_rows.l0]
   have hT:=TT_len n hn l n
   have e : ((⟨#[47]⟩ : ByteArray)).data.toList = [47]:=rfl
   rw [if_neg (by omega)]
   unfold strings_Join.f
   rw [e,rowsB_join,if_pos ⟨by simp [rowsB];omega,by omega⟩]
   rfl
 refine ev_up (f:=fun j => impl_rows.f (fun y0 => impl_FormatGrades_1.f K0 y0) j n l) (p:=fun K j => impl_rows.f (fun y0 => impl_FormatGrades_1.f K y0) j n l) (main K0 (Nat.le_refl _)) ⟨K0,fun K hK j => ?_⟩ (fun K j => impl_rows.mono (fun y0 => impl_FormatGrades_1.f K y0) _ _ j)
 exact impl_rows.monoP (fun y0 r hr => at_rounds (g:=fun k => impl_FormatGrades_1.f k y0) (fun k => impl_FormatGrades_1.mono _ k) hK hr) _ _ j
def WW (n : Nat) (l : List Int) (i k : Nat) : List UInt8:=if k = 0 then TT n l i else TT n l i ++ (sepOf i ++ rowk n l i k)
theorem WW_len (n : Nat) (hn : n ≤ 4) (l : List Int) (i k : Nat) (hi : i ≤ 4) (hk : k ≤ 4) : (WW n l i k).length ≤ 25:=by
 have h1:=TT_len n hn l i
 have h2:=sepOf_len i
 unfold WW
 by_cases h : k = 0
 ·rw [if_pos h];omega
 ·rw [if_neg h];simp only [List.length_append,rowk_len];omega
theorem sFormat (n : Nat) (l : List Int) (g : GV n l) : Ev (fun k => spec_FormatGrades.f k n l) (B (TT n l n)):=by
 have hn:=(GV_le g).1
 have hn1:=(GV_le g).2
 have hl:=GV_len g
 have h16 : l.length ≤ 16:=by rw [hl];exact sq_le n hn
 unfold spec_FormatGrades.f
 refine Ev.bind (sGV n l (by rw [maxLen_eq];omega)) (Ev_t (decide_eq_true g) ?_)
 refine Ev.congr (f:=fun j => spec_FormatGrades.l0 j (B (WW n l 0 0)) l (l.length : Int) ((0 * n + 0 : Nat) : Int) n l) (fun k => by simp [WW,TT,B]) ?_
 refine up_loop n (fun i j => spec_FormatGrades.l0 j (B (WW n l i 0)) l (l.length : Int) ((i * n + 0 : Nat) : Int) n l) _ (fun i hi hs => ?_) ?_
 ·refine up_loop n (fun k j => spec_FormatGrades.l0 j (B (WW n l i k)) l (l.length : Int) ((i * n + k : Nat) : Int) n l) _ (fun k hk hs2 => ?_) ?_
  ·have hc:=cell_lt n i k hi hk
   obtain ⟨d1,d2⟩:=div_mod_at n i k hk
   have hw:=WW_len n hn l i k (by omega) (by omega)
   have hcl : i * n + k < l.length:=by omega
   have hxm : l.getD (i * n + k) 0 ∈ l:=by rw [List.getD_eq_getElem?_getD,List.getElem?_eq_getElem hcl];exact List.getElem_mem hcl
   have hx0 : 0 ≤ l.getD (i * n + k) 0:=(g.1.2.2.2 _ hxm).1
   have hx3 : l.getD (i * n + k) 0 ≤ 3:=g.2 _ hxm
   have hW1 : WW n l i (k + 1) = WW n l i k ++ ((if k = 0 then sepOf i else []) ++ [ch (l.getD (i * n + k) 0)]):=by
    unfold WW
    rw [if_neg (by omega),rowk_snoc]
    by_cases hk0 : k = 0
    ·subst hk0;simp [rowk]
    ·rw [if_neg hk0,if_neg hk0];simp
   have hch:=ch_at _ hx0 hx3
   obtain ⟨x,hxe⟩ : ∃ x,l.getD (i * n + k) 0 = x:=⟨_,rfl⟩
   rw [hxe] at hx0 hx3 hch hW1
   have hd : ((x + 1).toNat - x.toNat) = 1:=by omega
   have hsz : (B (WW n l i k)).size = (WW n l i k).length:=B_size _
   obtain ⟨m,hm⟩ : ∃ m,i * n + k = m:=⟨_,rfl⟩
   have hm16 : m ≤ 16:=by omega
   refine Ev.step (fun j => ?_) hs2
   have up : wrap64 ((m : Int) + 1) = ((i * n + (k + 1) : Nat) : Int):=by rw [w64 (x:=(m : Int) + 1) (by omega) (by omega)];omega
   have ux : wrap64 (x + 1) = x + 1:=w64 (by omega) (by omega)
   have hrd : rd l (m : Int) = x:=by rw [rd_nat,← hm,hxe]
   have a1 : (m : Int) < (l.length : Int):=by clear up ux;omega
   have a2 : x ≤ x + 1:=by clear up ux;omega
   have a3 : x + 1 ≤ 4:=by clear up ux;omega
   have a4 : (WW n l i k).length + 1 ≤ 9223372036854775807:=by clear up ux;omega
   have a5 : (WW n l i k).length + 1 + 1 ≤ 9223372036854775807:=by clear up ux;omega
   have nz : ¬ (n : Int) = 0:=by clear up ux;omega
   have mt : Int.tmod (m : Int) (n : Int) = (k : Int):=by rw [tmod_nat,← hm,d2]
   show spec_FormatGrades.l0 (j + 1) (B (WW n l i k)) l (l.length : Int) ((i * n + k : Nat) : Int) n l = _
   rw [hm]
   simp only [spec_FormatGrades.l0]
   rw [if_pos a1,if_pos (Int.natCast_nonneg _),if_pos a1,hrd,ux,hsz,hd,mt,up,hch]
   by_cases hk0 : k = 0
   ·subst hk0
    by_cases hi0 : i = 0
    ·subst hi0
     have : ¬ (m : Int) > 0:=by clear up ux;omega
     rw [if_neg this,if_pos hx0,if_pos a2,if_pos a3,if_pos a4,B_add,hW1]
     simp [sepOf]
    ·have hp : (m : Int) > 0:=by
      have:=Nat.mul_pos (show 0 < i by omega) (show 0 < n by omega)
      clear up ux;omega
     have eB : (⟨#[47]⟩ : ByteArray) = B [47]:=rfl
     rw [if_pos hp,if_neg nz,if_pos (show ((0 : Nat) : Int) = 0 from rfl),if_pos a4,if_pos hx0,if_pos a2,if_pos a3,if_pos a5,eB,B_add,B_add,hW1]
     simp [sepOf,hi0]
   ·have hp : (m : Int) > 0:=by clear up ux;omega
    have hk1 : ¬ (k : Int) = 0:=by clear up ux;omega
    rw [if_pos hp,if_neg nz,if_neg hk1,if_pos hx0,if_pos a2,if_pos a3,if_pos a4,B_add,hW1]
    simp [hk0]
  ·have e1 : WW n l i n = WW n l (i + 1) 0:=by unfold WW;rw [if_neg (by omega),if_pos rfl];rfl
   have e2 : i * n + n = (i + 1) * n + 0:=by rw [Nat.succ_mul];rfl
   show Ev (fun j => spec_FormatGrades.l0 j (B (WW n l i n)) l (l.length : Int) ((i * n + n : Nat) : Int) n l) _
   rw [e1,e2];exact hs
 ·refine Ev.step (f:=fun _ => some (B (WW n l n 0))) (fun j => ?_) ((Ev.now _).is (by unfold WW;rw [if_pos rfl]))
  simp only [spec_FormatGrades.l0]
  rw [if_neg (by rw [hl];simp)]
end Go.Proofs.Ytengegdaiphfeaa.Y
end
