import Derived.Test.YtengegdaiphfeaaKFnExpand1
import Derived.Test.YtengegdaiphfeaaKFnExpand4
import Derived.Test.YtengegdaiphfeaaKFnExpand3
import Derived.Test.YtengegdaiphfeaaKFnExpand2
import Derived.Laws.Bits64
import Derived.Lib.Repeat
section
namespace Go.Proofs.Ytengegdaiphfeaa.X
open Go.RowKit Go.Proofs.YtengegdaiphfeaaW.PrintWords Go.Proofs.YtengegdaiphfeaaW.PrintLast Go.Proofs.YtengegdaiphfeaaW.PrintMore
attribute [local go_sem] max2_int min2_int max_two min_two max_three min_three max_four min_four
set_option linter.unusedVariables false
set_option linter.unusedSimpArgs false
mutual
def spec_l6Mul.l0 : Nat → Int → Int → Int → List Int → Int → List Int → Int → List Int → Option (Int × List Int)
 | 0,_,_,_,_,_,_,_,_ => none
 | k + 1,x16,x17,x274000,x274001,x275000,x275001,x277000,x277001 => if x17 < x16 then (spec_l6Mul.l1 k x17 3 x16 x17 x274000 0 x274000 x274001 x275000 x275001 x277000 x277001) else (some (x277000,x277001))
def spec_l6Mul.l1 : Nat → Int → Int → Int → Int → Int → Int → Int → List Int → Int → List Int → Int → List Int → Option (Int × List Int)
 | 0,_,_,_,_,_,_,_,_,_,_,_,_ => none
 | k + 1,x6,x7,x16,x17,x21,x22,x274000,x274001,x275000,x275001,x277000,x277001 => if x22 < x21 then (if x274000 = 0 then (none) else (if 0 ≤ (wrap64 ((wrap64 ((wrap64 (Int.tdiv x6 x274000)) * x274000)) + x22)) then (if (wrap64 ((wrap64 ((wrap64 (Int.tdiv x6 x274000)) * x274000)) + x22)) < (x274001.length : Int) then (if 0 ≤ (wrap64 ((wrap64 (x22 * x274000)) + (Int.tmod x6 x274000))) then (if (wrap64 ((wrap64 (x22 * x274000)) + (Int.tmod x6 x274000))) < (x275001.length : Int) then (spec_l6Mul.l1 k x6 (mn x7 (mx (rd x274001 (wrap64 ((wrap64 ((wrap64 (Int.tdiv x6 x274000)) * x274000)) + x22))) (rd x275001 (wrap64 ((wrap64 (x22 * x274000)) + (Int.tmod x6 x274000)))))) x16 x17 x21 (wrap64 (x22 + 1)) x274000 x274001 x275000 x275001 x277000 x277001) else (none)) else (none)) else (none)) else (none))) else (if x277001.length < 17592186044416 then (spec_l6Mul.l0 k x16 (wrap64 (x17 + 1)) x274000 x274001 x275000 x275001 x277000 (x277001 ++ [x7])) else (none))
end
def spec_l6Mul.f (k : Nat) (a0_0 : Int) (l0_1 : List Int) (a1_0 : Int) (l1_1 : List Int) : Option (Int × List Int):=spec_l6Mul.l0 k (wrap64 (a0_0 * a0_0)) 0 a0_0 l0_1 a1_0 l1_1 a0_0 ([] : List Int)
theorem spec_l6Mul.mono_l : ∀ k,(∀ y0 y1 y2 y3 y4 y5 y6 y7,LeO (spec_l6Mul.l0 k y0 y1 y2 y3 y4 y5 y6 y7) (spec_l6Mul.l0 (k + 1) y0 y1 y2 y3 y4 y5 y6 y7)) ∧ (∀ y0 y1 y2 y3 y4 y5 y6 y7 y8 y9 y10 y11,LeO (spec_l6Mul.l1 k y0 y1 y2 y3 y4 y5 y6 y7 y8 y9 y10 y11) (spec_l6Mul.l1 (k + 1) y0 y1 y2 y3 y4 y5 y6 y7 y8 y9 y10 y11))
 | 0 => ⟨fun _ _ _ _ _ _ _ _ r h => by simp [spec_l6Mul.l0] at h,fun _ _ _ _ _ _ _ _ _ _ _ _ r h => by simp [spec_l6Mul.l1] at h⟩
 | k + 1 => by
  obtain ⟨ih0,ih1⟩:=spec_l6Mul.mono_l k
  refine ⟨?_,?_⟩
  ·intro y0 y1 y2 y3 y4 y5 y6 y7
   unfold spec_l6Mul.l0
   repeat' first
   | (with_reducible exact ih0 _ _ _ _ _ _ _ _)
   | (with_reducible exact ih1 _ _ _ _ _ _ _ _ _ _ _ _)
   | (with_reducible exact LeO.refl _)
   | (with_reducible exact LeO.none _)
   | (with_reducible refine LeO.ite ?_ ?_)
   | (with_reducible refine LeO.bind ?_ (fun _ => ?_))
   | exact ih0 _ _ _ _ _ _ _ _
   | exact ih1 _ _ _ _ _ _ _ _ _ _ _ _
   | exact LeO.none _
   | refine LeO.ite ?_ ?_
   | refine LeO.bind ?_ (fun _ => ?_)
  ·intro y0 y1 y2 y3 y4 y5 y6 y7 y8 y9 y10 y11
   unfold spec_l6Mul.l1
   repeat' first
   | (with_reducible exact ih0 _ _ _ _ _ _ _ _)
   | (with_reducible exact ih1 _ _ _ _ _ _ _ _ _ _ _ _)
   | (with_reducible exact LeO.refl _)
   | (with_reducible exact LeO.none _)
   | (with_reducible refine LeO.ite ?_ ?_)
   | (with_reducible refine LeO.bind ?_ (fun _ => ?_))
   | exact ih0 _ _ _ _ _ _ _ _
   | exact ih1 _ _ _ _ _ _ _ _ _ _ _ _
   | exact LeO.none _
   | refine LeO.ite ?_ ?_
   | refine LeO.bind ?_ (fun _ => ?_)
theorem spec_l6Mul.mono : ∀ a0 a1 a2 a3 k,LeO (spec_l6Mul.f k a0 a1 a2 a3) (spec_l6Mul.f (k + 1) a0 a1 a2 a3):=by
 intro a0 a1 a2 a3 k
 obtain ⟨ih0,ih1⟩:=spec_l6Mul.mono_l k
 unfold spec_l6Mul.f
 repeat' first
   | (with_reducible exact ih0 _ _ _ _ _ _ _ _)
   | (with_reducible exact ih1 _ _ _ _ _ _ _ _ _ _ _ _)
   | (with_reducible exact LeO.refl _)
   | (with_reducible exact LeO.none _)
   | (with_reducible refine LeO.ite ?_ ?_)
   | (with_reducible refine LeO.bind ?_ (fun _ => ?_))
   | exact ih0 _ _ _ _ _ _ _ _
   | exact ih1 _ _ _ _ _ _ _ _ _ _ _ _
   | exact LeO.none _
   | refine LeO.ite ?_ ?_
   | refine LeO.bind ?_ (fun _ => ?_)
set_option maxHeartbeats 8000000 in
set_option maxRecDepth 100000 in
theorem spec_l6Mul.calls (k : Nat) (a0_0 : Int) (A0_1 : Option Addr) (c0_1 : Nat) (l0_1 : List Int) (a1_0 : Int) (A1_1 : Option Addr) (c1_1 : Nat) (l1_1 : List Int) (r1 : Int) (r2 : List Int) (w : World) (hr0_1 : Kd.C (Kd.int .i64) w A0_1 l0_1.length l0_1) (hc0_1 : l0_1.length ≤ c0_1) (hr1_1 : Kd.C (Kd.int .i64) w A1_1 l1_1.length l1_1) (hc1_1 : l1_1.length ≤ c1_1) (h : spec_l6Mul.f k a0_0 l0_1 a1_0 l1_1 = some (r1,r2)) :
  Calls Try.prog 68 #[.agg #[.int .i64 a0_0,.slice A0_1 l0_1.length c0_1],.agg #[.int .i64 a1_0,.slice A1_1 l1_1.length c1_1]] w fun e w' => ∃ v1_ : Value,e = .returned (.agg #[.int .i64 r1,v1_]) ∧ Kd.R (Kd.int .i64) 3 w' w.heap.size (fun _ => True) v1_ r2 ∧ Below w.heap.size w w':=by
 have hu28:=Try.underlying28
 have HR0_1:=Aside0.mk hr0_1
 have HC0_1:=Aside0.mk hc0_1
 clear hr0_1 hc0_1
 have HR1_1:=Aside0.mk hr1_1
 have HC1_1:=Aside0.mk hc1_1
 clear hr1_1 hc1_1
 have HB:=Aside0.mk (Below.refl w.heap.size w)
 have H : (spec_l6Mul.l0 k (wrap64 (a0_0 * a0_0)) 0 a0_0 l0_1 a1_0 l1_1 a0_0 ([] : List Int)) = some (r1,r2):=h
 clear h
 have H':=Aside0.mk H
 clear H
 go_enter Try.func68,Try.ntmps68
 go_wp2_with (first|((with_reducible refine gate_dst (N:=2) rfl ?_);refine box_event ?hg (N:=2) ?hd (cs:=#[.int .i64 a0_0,.slice A0_1 l0_1.length c0_1]) (t:=28) ?hr ?_;(case hd => rfl);(case hg => rfl);(case hr => first|(go_simp;done)|(go_simp;rfl));intro gb273 hg w3 hbox hb;have n0_:=Aside0.mk (below_step (be0_ HB.out) hb);have n1_:=Aside0.mk (hbox);have n2_:=Aside0.mk ((by rw [hg];exact (below_size (be0_ HB.out)) : w.heap.size ≤ gb273));have n3_:=Aside0.mk ((by rw [hg];exact (below_size (be0_ HB.out)) : w.heap.size ≤ gb273));clear HB;have HB:=n0_;have BK273:=n1_;have GW273:=n2_;have GE273:=n3_;clear n0_ n1_ n2_ n3_;clear hb hbox hg)|((with_reducible refine gate_dst (N:=3) rfl ?_);refine box_event ?hg (N:=3) ?hd (cs:=#[.int .i64 a1_0,.slice A1_1 l1_1.length c1_1]) (t:=28) ?hr ?_;(case hd => rfl);(case hg => rfl);(case hr => first|(go_simp;done)|(go_simp;rfl));intro gb274 hg w4 hbox hb;have n0_:=Aside0.mk (blk_below (g:=gb273) (o:=.cells #[.int .i64 a0_0,.slice A0_1 l0_1.length c0_1] 28 (0,0)) (pe_ BK273.out) hb);have n1_:=Aside0.mk (below_step (be1_ HB.out GE273.out) hb);have n2_:=Aside0.mk (hbox);have n3_:=Aside0.mk ((by rw [hg];exact (below_size (be1_ HB.out GE273.out)) : w.heap.size ≤ gb274));have n4_:=Aside0.mk ((by rw [hg];exact (below_size (be1_ HB.out GE273.out)) : w.heap.size ≤ gb274));have n5_:=Aside0.mk ((by rw [hg];exact Nat.ne_of_lt (blk_lt (g:=gb273) (o:=.cells #[.int .i64 a0_0,.slice A0_1 l0_1.length c0_1] 28 (0,0)) (pe_ BK273.out)) : gb273 ≠ gb274));have n6_:=Aside0.mk ((by rw [hg];exact Nat.ne_of_gt (blk_lt (g:=gb273) (o:=.cells #[.int .i64 a0_0,.slice A0_1 l0_1.length c0_1] 28 (0,0)) (pe_ BK273.out)) : gb274 ≠ gb273));clear BK273;clear HB;have BK273:=n0_;have HB:=n1_;have BK274:=n2_;have GW274:=n3_;have GE274:=n4_;have NB273_274:=n5_;have NB274_273:=n6_;clear n0_ n1_ n2_ n3_ n4_ n5_ n6_;clear hb hbox hg)|((with_reducible refine gate_dst (N:=4) rfl ?_);refine box_event ?hg (N:=4) ?hd (cs:=#[.int .i64 0,.slice none 0 0]) (t:=28) ?hr ?_;(case hd => rfl);(case hg => rfl);(case hr => first|(go_simp;done)|(go_simp;rfl));intro gb275 hg w5 hbox hb;have n0_:=Aside0.mk (blk_below (g:=gb273) (o:=.cells #[.int .i64 a0_0,.slice A0_1 l0_1.length c0_1] 28 (0,0)) (pe_ BK273.out) hb);have n1_:=Aside0.mk (blk_below (g:=gb274) (o:=.cells #[.int .i64 a1_0,.slice A1_1 l1_1.length c1_1] 28 (0,0)) (pe_ BK274.out) hb);have n2_:=Aside0.mk (below_step (be2_ HB.out GE273.out GE274.out) hb);have n3_:=Aside0.mk (hbox);have n4_:=Aside0.mk ((by rw [hg];exact (below_size (be2_ HB.out GE273.out GE274.out)) : w.heap.size ≤ gb275));have n5_:=Aside0.mk ((by rw [hg];exact (below_size (be2_ HB.out GE273.out GE274.out)) : w.heap.size ≤ gb275));have n6_:=Aside0.mk ((by rw [hg];exact Nat.ne_of_lt (blk_lt (g:=gb273) (o:=.cells #[.int .i64 a0_0,.slice A0_1 l0_1.length c0_1] 28 (0,0)) (pe_ BK273.out)) : gb273 ≠ gb275));have n7_:=Aside0.mk ((by rw [hg];exact Nat.ne_of_gt (blk_lt (g:=gb273) (o:=.cells #[.int .i64 a0_0,.slice A0_1 l0_1.length c0_1] 28 (0,0)) (pe_ BK273.out)) : gb275 ≠ gb273));have n8_:=Aside0.mk ((by rw [hg];exact Nat.ne_of_lt (blk_lt (g:=gb274) (o:=.cells #[.int .i64 a1_0,.slice A1_1 l1_1.length c1_1] 28 (0,0)) (pe_ BK274.out)) : gb274 ≠ gb275));have n9_:=Aside0.mk ((by rw [hg];exact Nat.ne_of_gt (blk_lt (g:=gb274) (o:=.cells #[.int .i64 a1_0,.slice A1_1 l1_1.length c1_1] 28 (0,0)) (pe_ BK274.out)) : gb275 ≠ gb274));clear BK273;clear BK274;clear HB;have BK273:=n0_;have BK274:=n1_;have HB:=n2_;have BK275:=n3_;have GW275:=n4_;have GE275:=n5_;have NB273_275:=n6_;have NB275_273:=n7_;have NB274_275:=n8_;have NB275_274:=n9_;clear n0_ n1_ n2_ n3_ n4_ n5_ n6_ n7_ n8_ n9_;clear hb hbox hg;have hnb6:=NB273_274.out;have hnc6:=NB274_273.out;have hnb7:=NB273_275.out;have hnc7:=NB275_273.out;have hcz8_0 : w5.cell? ⟨gb273,0,none⟩ = some (.int .i64 a0_0):=(blk_cell BK273.out 0).trans rfl;have hcz8_1 : w5.cell? ⟨gb273,1,none⟩ = some (.slice A0_1 l0_1.length c0_1):=(blk_cell BK273.out 1).trans rfl;have hfz8_0:=blk_frozen BK273.out 0;have hfz8_1:=blk_frozen BK273.out 1)|((with_reducible refine gate_dst (N:=5) rfl ?_);refine box_event ?hg (N:=5) ?hd (cs:=#[.int .i64 0,.slice none 0 0]) (t:=28) ?hr ?_;(case hd => rfl);(case hg => rfl);(case hr => first|(go_simp;done)|(go_simp;rfl));intro gb276 hg w9 hbox hb;have n0_:=Aside0.mk (blk_below (g:=gb273) (o:=.cells #[.int .i64 a0_0,.slice A0_1 l0_1.length c0_1] 28 (0,0)) (pe_ BK273.out) hb);have n1_:=Aside0.mk (blk_below (g:=gb274) (o:=.cells #[.int .i64 a1_0,.slice A1_1 l1_1.length c1_1] 28 (0,0)) (pe_ BK274.out) hb);have n2_:=Aside0.mk (blk_below (g:=gb275) (o:=.cells #[.int .i64 0,.slice none 0 0] 28 (0,0)) (pe_ BK275.out) hb);have n3_:=Aside0.mk (below_step (be3_ HB.out GE273.out GE274.out GE275.out) hb);have n4_:=Aside0.mk (hbox);have n5_:=Aside0.mk ((by rw [hg];exact (below_size (be3_ HB.out GE273.out GE274.out GE275.out)) : w.heap.size ≤ gb276));have n6_:=Aside0.mk ((by rw [hg];exact (below_size (be3_ HB.out GE273.out GE274.out GE275.out)) : w.heap.size ≤ gb276));have n7_:=Aside0.mk ((by rw [hg];exact Nat.ne_of_lt (blk_lt (g:=gb273) (o:=.cells #[.int .i64 a0_0,.slice A0_1 l0_1.length c0_1] 28 (0,0)) (pe_ BK273.out)) : gb273 ≠ gb276));have n8_:=Aside0.mk ((by rw [hg];exact Nat.ne_of_gt (blk_lt (g:=gb273) (o:=.cells #[.int .i64 a0_0,.slice A0_1 l0_1.length c0_1] 28 (0,0)) (pe_ BK273.out)) : gb276 ≠ gb273));have n9_:=Aside0.mk ((by rw [hg];exact Nat.ne_of_lt (blk_lt (g:=gb274) (o:=.cells #[.int .i64 a1_0,.slice A1_1 l1_1.length c1_1] 28 (0,0)) (pe_ BK274.out)) : gb274 ≠ gb276));have n10_:=Aside0.mk ((by rw [hg];exact Nat.ne_of_gt (blk_lt (g:=gb274) (o:=.cells #[.int .i64 a1_0,.slice A1_1 l1_1.length c1_1] 28 (0,0)) (pe_ BK274.out)) : gb276 ≠ gb274));have n11_:=Aside0.mk ((by rw [hg];exact Nat.ne_of_lt (blk_lt (g:=gb275) (o:=.cells #[.int .i64 0,.slice none 0 0] 28 (0,0)) (pe_ BK275.out)) : gb275 ≠ gb276));have n12_:=Aside0.mk ((by rw [hg];exact Nat.ne_of_gt (blk_lt (g:=gb275) (o:=.cells #[.int .i64 0,.slice none 0 0] 28 (0,0)) (pe_ BK275.out)) : gb276 ≠ gb275));clear BK273;clear BK274;clear BK275;clear HB;have BK273:=n0_;have BK274:=n1_;have BK275:=n2_;have HB:=n3_;have BK276:=n4_;have GW276:=n5_;have GE276:=n6_;have NB273_276:=n7_;have NB276_273:=n8_;have NB274_276:=n9_;have NB276_274:=n10_;have NB275_276:=n11_;have NB276_275:=n12_;clear n0_ n1_ n2_ n3_ n4_ n5_ n6_ n7_ n8_ n9_ n10_ n11_ n12_;clear hb hbox hg;have hnb10:=NB276_273.out;have hnc10:=NB273_276.out;have hnb11:=NB276_274.out;have hnc11:=NB274_276.out;have hnb12:=NB276_275.out;have hnc12:=NB275_276.out;have hcz13_0 : w9.cell? ⟨gb276,0,none⟩ = some (.int .i64 0):=(blk_cell BK276.out 0).trans rfl;have hcz13_1 : w9.cell? ⟨gb276,1,none⟩ = some (.slice none 0 0):=(blk_cell BK276.out 1).trans rfl;have hfz13_0:=blk_frozen BK276.out 0;have hfz13_1:=blk_frozen BK276.out 1;have hcz14_0 : w9.cell? ⟨gb273,0,none⟩ = some (.int .i64 a0_0):=(blk_cell BK273.out 0).trans rfl;have hcz14_1 : w9.cell? ⟨gb273,1,none⟩ = some (.slice A0_1 l0_1.length c0_1):=(blk_cell BK273.out 1).trans rfl;have hfz14_0:=blk_frozen BK273.out 0;have hfz14_1:=blk_frozen BK273.out 1))
 repeat (go_quiet (first|((with_reducible refine gate_dst (N:=2) rfl ?_);refine box_event ?hg (N:=2) ?hd (cs:=#[.int .i64 a0_0,.slice A0_1 l0_1.length c0_1]) (t:=28) ?hr ?_;(case hd => rfl);(case hg => rfl);(case hr => first|(go_simp;done)|(go_simp;rfl));intro gb273 hg w3 hbox hb;have n0_:=Aside0.mk (below_step (be0_ HB.out) hb);have n1_:=Aside0.mk (hbox);have n2_:=Aside0.mk ((by rw [hg];exact (below_size (be0_ HB.out)) : w.heap.size ≤ gb273));have n3_:=Aside0.mk ((by rw [hg];exact (below_size (be0_ HB.out)) : w.heap.size ≤ gb273));clear HB;have HB:=n0_;have BK273:=n1_;have GW273:=n2_;have GE273:=n3_;clear n0_ n1_ n2_ n3_;clear hb hbox hg)|((with_reducible refine gate_dst (N:=3) rfl ?_);refine box_event ?hg (N:=3) ?hd (cs:=#[.int .i64 a1_0,.slice A1_1 l1_1.length c1_1]) (t:=28) ?hr ?_;(case hd => rfl);(case hg => rfl);(case hr => first|(go_simp;done)|(go_simp;rfl));intro gb274 hg w4 hbox hb;have n0_:=Aside0.mk (blk_below (g:=gb273) (o:=.cells #[.int .i64 a0_0,.slice A0_1 l0_1.length c0_1] 28 (0,0)) (pe_ BK273.out) hb);have n1_:=Aside0.mk (below_step (be1_ HB.out GE273.out) hb);have n2_:=Aside0.mk (hbox);have n3_:=Aside0.mk ((by rw [hg];exact (below_size (be1_ HB.out GE273.out)) : w.heap.size ≤ gb274));have n4_:=Aside0.mk ((by rw [hg];exact (below_size (be1_ HB.out GE273.out)) : w.heap.size ≤ gb274));have n5_:=Aside0.mk ((by rw [hg];exact Nat.ne_of_lt (blk_lt (g:=gb273) (o:=.cells #[.int .i64 a0_0,.slice A0_1 l0_1.length c0_1] 28 (0,0)) (pe_ BK273.out)) : gb273 ≠ gb274));have n6_:=Aside0.mk ((by rw [hg];exact Nat.ne_of_gt (blk_lt (g:=gb273) (o:=.cells #[.int .i64 a0_0,.slice A0_1 l0_1.length c0_1] 28 (0,0)) (pe_ BK273.out)) : gb274 ≠ gb273));clear BK273;clear HB;have BK273:=n0_;have HB:=n1_;have BK274:=n2_;have GW274:=n3_;have GE274:=n4_;have NB273_274:=n5_;have NB274_273:=n6_;clear n0_ n1_ n2_ n3_ n4_ n5_ n6_;clear hb hbox hg)|((with_reducible refine gate_dst (N:=4) rfl ?_);refine box_event ?hg (N:=4) ?hd (cs:=#[.int .i64 0,.slice none 0 0]) (t:=28) ?hr ?_;(case hd => rfl);(case hg => rfl);(case hr => first|(go_simp;done)|(go_simp;rfl));intro gb275 hg w5 hbox hb;have n0_:=Aside0.mk (blk_below (g:=gb273) (o:=.cells #[.int .i64 a0_0,.slice A0_1 l0_1.length c0_1] 28 (0,0)) (pe_ BK273.out) hb);have n1_:=Aside0.mk (blk_below (g:=gb274) (o:=.cells #[.int .i64 a1_0,.slice A1_1 l1_1.length c1_1] 28 (0,0)) (pe_ BK274.out) hb);have n2_:=Aside0.mk (below_step (be2_ HB.out GE273.out GE274.out) hb);have n3_:=Aside0.mk (hbox);have n4_:=Aside0.mk ((by rw [hg];exact (below_size (be2_ HB.out GE273.out GE274.out)) : w.heap.size ≤ gb275));have n5_:=Aside0.mk ((by rw [hg];exact (below_size (be2_ HB.out GE273.out GE274.out)) : w.heap.size ≤ gb275));have n6_:=Aside0.mk ((by rw [hg];exact Nat.ne_of_lt (blk_lt (g:=gb273) (o:=.cells #[.int .i64 a0_0,.slice A0_1 l0_1.length c0_1] 28 (0,0)) (pe_ BK273.out)) : gb273 ≠ gb275));have n7_:=Aside0.mk ((by rw [hg];exact Nat.ne_of_gt (blk_lt (g:=gb273) (o:=.cells #[.int .i64 a0_0,.slice A0_1 l0_1.length c0_1] 28 (0,0)) (pe_ BK273.out)) : gb275 ≠ gb273));have n8_:=Aside0.mk ((by rw [hg];exact Nat.ne_of_lt (blk_lt (g:=gb274) (o:=.cells #[.int .i64 a1_0,.slice A1_1 l1_1.length c1_1] 28 (0,0)) (pe_ BK274.out)) : gb274 ≠ gb275));have n9_:=Aside0.mk ((by rw [hg];exact Nat.ne_of_gt (blk_lt (g:=gb274) (o:=.cells #[.int .i64 a1_0,.slice A1_1 l1_1.length c1_1] 28 (0,0)) (pe_ BK274.out)) : gb275 ≠ gb274));clear BK273;clear BK274;clear HB;have BK273:=n0_;have BK274:=n1_;have HB:=n2_;have BK275:=n3_;have GW275:=n4_;have GE275:=n5_;have NB273_275:=n6_;have NB275_273:=n7_;have NB274_275:=n8_;have NB275_274:=n9_;clear n0_ n1_ n2_ n3_ n4_ n5_ n6_ n7_ n8_ n9_;clear hb hbox hg;have hnb6:=NB273_274.out;have hnc6:=NB274_273.out;have hnb7:=NB273_275.out;have hnc7:=NB275_273.out;have hcz8_0 : w5.cell? ⟨gb273,0,none⟩ = some (.int .i64 a0_0):=(blk_cell BK273.out 0).trans rfl;have hcz8_1 : w5.cell? ⟨gb273,1,none⟩ = some (.slice A0_1 l0_1.length c0_1):=(blk_cell BK273.out 1).trans rfl;have hfz8_0:=blk_frozen BK273.out 0;have hfz8_1:=blk_frozen BK273.out 1)|((with_reducible refine gate_dst (N:=5) rfl ?_);refine box_event ?hg (N:=5) ?hd (cs:=#[.int .i64 0,.slice none 0 0]) (t:=28) ?hr ?_;(case hd => rfl);(case hg => rfl);(case hr => first|(go_simp;done)|(go_simp;rfl));intro gb276 hg w9 hbox hb;have n0_:=Aside0.mk (blk_below (g:=gb273) (o:=.cells #[.int .i64 a0_0,.slice A0_1 l0_1.length c0_1] 28 (0,0)) (pe_ BK273.out) hb);have n1_:=Aside0.mk (blk_below (g:=gb274) (o:=.cells #[.int .i64 a1_0,.slice A1_1 l1_1.length c1_1] 28 (0,0)) (pe_ BK274.out) hb);have n2_:=Aside0.mk (blk_below (g:=gb275) (o:=.cells #[.int .i64 0,.slice none 0 0] 28 (0,0)) (pe_ BK275.out) hb);have n3_:=Aside0.mk (below_step (be3_ HB.out GE273.out GE274.out GE275.out) hb);have n4_:=Aside0.mk (hbox);have n5_:=Aside0.mk ((by rw [hg];exact (below_size (be3_ HB.out GE273.out GE274.out GE275.out)) : w.heap.size ≤ gb276));have n6_:=Aside0.mk ((by rw [hg];exact (below_size (be3_ HB.out GE273.out GE274.out GE275.out)) : w.heap.size ≤ gb276));have n7_:=Aside0.mk ((by rw [hg];exact Nat.ne_of_lt (blk_lt (g:=gb273) (o:=.cells #[.int .i64 a0_0,.slice A0_1 l0_1.length c0_1] 28 (0,0)) (pe_ BK273.out)) : gb273 ≠ gb276));have n8_:=Aside0.mk ((by rw [hg];exact Nat.ne_of_gt (blk_lt (g:=gb273) (o:=.cells #[.int .i64 a0_0,.slice A0_1 l0_1.length c0_1] 28 (0,0)) (pe_ BK273.out)) : gb276 ≠ gb273));have n9_:=Aside0.mk ((by rw [hg];exact Nat.ne_of_lt (blk_lt (g:=gb274) (o:=.cells #[.int .i64 a1_0,.slice A1_1 l1_1.length c1_1] 28 (0,0)) (pe_ BK274.out)) : gb274 ≠ gb276));have n10_:=Aside0.mk ((by rw [hg];exact Nat.ne_of_gt (blk_lt (g:=gb274) (o:=.cells #[.int .i64 a1_0,.slice A1_1 l1_1.length c1_1] 28 (0,0)) (pe_ BK274.out)) : gb276 ≠ gb274));have n11_:=Aside0.mk ((by rw [hg];exact Nat.ne_of_lt (blk_lt (g:=gb275) (o:=.cells #[.int .i64 0,.slice none 0 0] 28 (0,0)) (pe_ BK275.out)) : gb275 ≠ gb276));have n12_:=Aside0.mk ((by rw [hg];exact Nat.ne_of_gt (blk_lt (g:=gb275) (o:=.cells #[.int .i64 0,.slice none 0 0] 28 (0,0)) (pe_ BK275.out)) : gb276 ≠ gb275));clear BK273;clear BK274;clear BK275;clear HB;have BK273:=n0_;have BK274:=n1_;have BK275:=n2_;have HB:=n3_;have BK276:=n4_;have GW276:=n5_;have GE276:=n6_;have NB273_276:=n7_;have NB276_273:=n8_;have NB274_276:=n9_;have NB276_274:=n10_;have NB275_276:=n11_;have NB276_275:=n12_;clear n0_ n1_ n2_ n3_ n4_ n5_ n6_ n7_ n8_ n9_ n10_ n11_ n12_;clear hb hbox hg;have hnb10:=NB276_273.out;have hnc10:=NB273_276.out;have hnb11:=NB276_274.out;have hnc11:=NB274_276.out;have hnb12:=NB276_275.out;have hnc12:=NB275_276.out;have hcz13_0 : w9.cell? ⟨gb276,0,none⟩ = some (.int .i64 0):=(blk_cell BK276.out 0).trans rfl;have hcz13_1 : w9.cell? ⟨gb276,1,none⟩ = some (.slice none 0 0):=(blk_cell BK276.out 1).trans rfl;have hfz13_0:=blk_frozen BK276.out 0;have hfz13_1:=blk_frozen BK276.out 1;have hcz14_0 : w9.cell? ⟨gb273,0,none⟩ = some (.int .i64 a0_0):=(blk_cell BK273.out 0).trans rfl;have hcz14_1 : w9.cell? ⟨gb273,1,none⟩ = some (.slice A0_1 l0_1.length c0_1):=(blk_cell BK273.out 1).trans rfl;have hfz14_0:=blk_frozen BK273.out 0;have hfz14_1:=blk_frozen BK273.out 1));try go_wp2_with (first|((with_reducible refine gate_dst (N:=2) rfl ?_);refine box_event ?hg (N:=2) ?hd (cs:=#[.int .i64 a0_0,.slice A0_1 l0_1.length c0_1]) (t:=28) ?hr ?_;(case hd => rfl);(case hg => rfl);(case hr => first|(go_simp;done)|(go_simp;rfl));intro gb273 hg w3 hbox hb;have n0_:=Aside0.mk (below_step (be0_ HB.out) hb);have n1_:=Aside0.mk (hbox);have n2_:=Aside0.mk ((by rw [hg];exact (below_size (be0_ HB.out)) : w.heap.size ≤ gb273));have n3_:=Aside0.mk ((by rw [hg];exact (below_size (be0_ HB.out)) : w.heap.size ≤ gb273));clear HB;have HB:=n0_;have BK273:=n1_;have GW273:=n2_;have GE273:=n3_;clear n0_ n1_ n2_ n3_;clear hb hbox hg)|((with_reducible refine gate_dst (N:=3) rfl ?_);refine box_event ?hg (N:=3) ?hd (cs:=#[.int .i64 a1_0,.slice A1_1 l1_1.length c1_1]) (t:=28) ?hr ?_;(case hd => rfl);(case hg => rfl);(case hr => first|(go_simp;done)|(go_simp;rfl));intro gb274 hg w4 hbox hb;have n0_:=Aside0.mk (blk_below (g:=gb273) (o:=.cells #[.int .i64 a0_0,.slice A0_1 l0_1.length c0_1] 28 (0,0)) (pe_ BK273.out) hb);have n1_:=Aside0.mk (below_step (be1_ HB.out GE273.out) hb);have n2_:=Aside0.mk (hbox);have n3_:=Aside0.mk ((by rw [hg];exact (below_size (be1_ HB.out GE273.out)) : w.heap.size ≤ gb274));have n4_:=Aside0.mk ((by rw [hg];exact (below_size (be1_ HB.out GE273.out)) : w.heap.size ≤ gb274));have n5_:=Aside0.mk ((by rw [hg];exact Nat.ne_of_lt (blk_lt (g:=gb273) (o:=.cells #[.int .i64 a0_0,.slice A0_1 l0_1.length c0_1] 28 (0,0)) (pe_ BK273.out)) : gb273 ≠ gb274));have n6_:=Aside0.mk ((by rw [hg];exact Nat.ne_of_gt (blk_lt (g:=gb273) (o:=.cells #[.int .i64 a0_0,.slice A0_1 l0_1.length c0_1] 28 (0,0)) (pe_ BK273.out)) : gb274 ≠ gb273));clear BK273;clear HB;have BK273:=n0_;have HB:=n1_;have BK274:=n2_;have GW274:=n3_;have GE274:=n4_;have NB273_274:=n5_;have NB274_273:=n6_;clear n0_ n1_ n2_ n3_ n4_ n5_ n6_;clear hb hbox hg)|((with_reducible refine gate_dst (N:=4) rfl ?_);refine box_event ?hg (N:=4) ?hd (cs:=#[.int .i64 0,.slice none 0 0]) (t:=28) ?hr ?_;(case hd => rfl);(case hg => rfl);(case hr => first|(go_simp;done)|(go_simp;rfl));intro gb275 hg w5 hbox hb;have n0_:=Aside0.mk (blk_below (g:=gb273) (o:=.cells #[.int .i64 a0_0,.slice A0_1 l0_1.length c0_1] 28 (0,0)) (pe_ BK273.out) hb);have n1_:=Aside0.mk (blk_below (g:=gb274) (o:=.cells #[.int .i64 a1_0,.slice A1_1 l1_1.length c1_1] 28 (0,0)) (pe_ BK274.out) hb);have n2_:=Aside0.mk (below_step (be2_ HB.out GE273.out GE274.out) hb);have n3_:=Aside0.mk (hbox);have n4_:=Aside0.mk ((by rw [hg];exact (below_size (be2_ HB.out GE273.out GE274.out)) : w.heap.size ≤ gb275));have n5_:=Aside0.mk ((by rw [hg];exact (below_size (be2_ HB.out GE273.out GE274.out)) : w.heap.size ≤ gb275));have n6_:=Aside0.mk ((by rw [hg];exact Nat.ne_of_lt (blk_lt (g:=gb273) (o:=.cells #[.int .i64 a0_0,.slice A0_1 l0_1.length c0_1] 28 (0,0)) (pe_ BK273.out)) : gb273 ≠ gb275));have n7_:=Aside0.mk ((by rw [hg];exact Nat.ne_of_gt (blk_lt (g:=gb273) (o:=.cells #[.int .i64 a0_0,.slice A0_1 l0_1.length c0_1] 28 (0,0)) (pe_ BK273.out)) : gb275 ≠ gb273));have n8_:=Aside0.mk ((by rw [hg];exact Nat.ne_of_lt (blk_lt (g:=gb274) (o:=.cells #[.int .i64 a1_0,.slice A1_1 l1_1.length c1_1] 28 (0,0)) (pe_ BK274.out)) : gb274 ≠ gb275));have n9_:=Aside0.mk ((by rw [hg];exact Nat.ne_of_gt (blk_lt (g:=gb274) (o:=.cells #[.int .i64 a1_0,.slice A1_1 l1_1.length c1_1] 28 (0,0)) (pe_ BK274.out)) : gb275 ≠ gb274));clear BK273;clear BK274;clear HB;have BK273:=n0_;have BK274:=n1_;have HB:=n2_;have BK275:=n3_;have GW275:=n4_;have GE275:=n5_;have NB273_275:=n6_;have NB275_273:=n7_;have NB274_275:=n8_;have NB275_274:=n9_;clear n0_ n1_ n2_ n3_ n4_ n5_ n6_ n7_ n8_ n9_;clear hb hbox hg;have hnb6:=NB273_274.out;have hnc6:=NB274_273.out;have hnb7:=NB273_275.out;have hnc7:=NB275_273.out;have hcz8_0 : w5.cell? ⟨gb273,0,none⟩ = some (.int .i64 a0_0):=(blk_cell BK273.out 0).trans rfl;have hcz8_1 : w5.cell? ⟨gb273,1,none⟩ = some (.slice A0_1 l0_1.length c0_1):=(blk_cell BK273.out 1).trans rfl;have hfz8_0:=blk_frozen BK273.out 0;have hfz8_1:=blk_frozen BK273.out 1)|((with_reducible refine gate_dst (N:=5) rfl ?_);refine box_event ?hg (N:=5) ?hd (cs:=#[.int .i64 0,.slice none 0 0]) (t:=28) ?hr ?_;(case hd => rfl);(case hg => rfl);(case hr => first|(go_simp;done)|(go_simp;rfl));intro gb276 hg w9 hbox hb;have n0_:=Aside0.mk (blk_below (g:=gb273) (o:=.cells #[.int .i64 a0_0,.slice A0_1 l0_1.length c0_1] 28 (0,0)) (pe_ BK273.out) hb);have n1_:=Aside0.mk (blk_below (g:=gb274) (o:=.cells #[.int .i64 a1_0,.slice A1_1 l1_1.length c1_1] 28 (0,0)) (pe_ BK274.out) hb);have n2_:=Aside0.mk (blk_below (g:=gb275) (o:=.cells #[.int .i64 0,.slice none 0 0] 28 (0,0)) (pe_ BK275.out) hb);have n3_:=Aside0.mk (below_step (be3_ HB.out GE273.out GE274.out GE275.out) hb);have n4_:=Aside0.mk (hbox);have n5_:=Aside0.mk ((by rw [hg];exact (below_size (be3_ HB.out GE273.out GE274.out GE275.out)) : w.heap.size ≤ gb276));have n6_:=Aside0.mk ((by rw [hg];exact (below_size (be3_ HB.out GE273.out GE274.out GE275.out)) : w.heap.size ≤ gb276));have n7_:=Aside0.mk ((by rw [hg];exact Nat.ne_of_lt (blk_lt (g:=gb273) (o:=.cells #[.int .i64 a0_0,.slice A0_1 l0_1.length c0_1] 28 (0,0)) (pe_ BK273.out)) : gb273 ≠ gb276));have n8_:=Aside0.mk ((by rw [hg];exact Nat.ne_of_gt (blk_lt (g:=gb273) (o:=.cells #[.int .i64 a0_0,.slice A0_1 l0_1.length c0_1] 28 (0,0)) (pe_ BK273.out)) : gb276 ≠ gb273));have n9_:=Aside0.mk ((by rw [hg];exact Nat.ne_of_lt (blk_lt (g:=gb274) (o:=.cells #[.int .i64 a1_0,.slice A1_1 l1_1.length c1_1] 28 (0,0)) (pe_ BK274.out)) : gb274 ≠ gb276));have n10_:=Aside0.mk ((by rw [hg];exact Nat.ne_of_gt (blk_lt (g:=gb274) (o:=.cells #[.int .i64 a1_0,.slice A1_1 l1_1.length c1_1] 28 (0,0)) (pe_ BK274.out)) : gb276 ≠ gb274));have n11_:=Aside0.mk ((by rw [hg];exact Nat.ne_of_lt (blk_lt (g:=gb275) (o:=.cells #[.int .i64 0,.slice none 0 0] 28 (0,0)) (pe_ BK275.out)) : gb275 ≠ gb276));have n12_:=Aside0.mk ((by rw [hg];exact Nat.ne_of_gt (blk_lt (g:=gb275) (o:=.cells #[.int .i64 0,.slice none 0 0] 28 (0,0)) (pe_ BK275.out)) : gb276 ≠ gb275));clear BK273;clear BK274;clear BK275;clear HB;have BK273:=n0_;have BK274:=n1_;have BK275:=n2_;have HB:=n3_;have BK276:=n4_;have GW276:=n5_;have GE276:=n6_;have NB273_276:=n7_;have NB276_273:=n8_;have NB274_276:=n9_;have NB276_274:=n10_;have NB275_276:=n11_;have NB276_275:=n12_;clear n0_ n1_ n2_ n3_ n4_ n5_ n6_ n7_ n8_ n9_ n10_ n11_ n12_;clear hb hbox hg;have hnb10:=NB276_273.out;have hnc10:=NB273_276.out;have hnb11:=NB276_274.out;have hnc11:=NB274_276.out;have hnb12:=NB276_275.out;have hnc12:=NB275_276.out;have hcz13_0 : w9.cell? ⟨gb276,0,none⟩ = some (.int .i64 0):=(blk_cell BK276.out 0).trans rfl;have hcz13_1 : w9.cell? ⟨gb276,1,none⟩ = some (.slice none 0 0):=(blk_cell BK276.out 1).trans rfl;have hfz13_0:=blk_frozen BK276.out 0;have hfz13_1:=blk_frozen BK276.out 1;have hcz14_0 : w9.cell? ⟨gb273,0,none⟩ = some (.int .i64 a0_0):=(blk_cell BK273.out 0).trans rfl;have hcz14_1 : w9.cell? ⟨gb273,1,none⟩ = some (.slice A0_1 l0_1.length c0_1):=(blk_cell BK273.out 1).trans rfl;have hfz14_0:=blk_frozen BK273.out 0;have hfz14_1:=blk_frozen BK273.out 1)))
 go_loopg [17] k (fun kq v17 w' => ∃ (x17_1 : Int) (x277001_1 : List Int) (u277001 : Value),v17 = .int .i64 x17_1 ∧ Aside0 (spec_l6Mul.l0 kq (wrap64 (a0_0 * a0_0)) x17_1 a0_0 l0_1 a1_0 l1_1 a0_0 x277001_1 = some (r1,r2)) ∧ Aside0 (kq ≤ k) ∧ Aside0 (Kd.R (Kd.int .i64) 3 w' w.heap.size (fun _ => True) u277001 x277001_1) ∧ Aside0 (w'.heap[gb273]? = some (.cells #[.int .i64 a0_0,(.slice A0_1 l0_1.length c0_1)] 28 (0,0))) ∧ Aside0 (w'.heap[gb274]? = some (.cells #[.int .i64 a1_0,(.slice A1_1 l1_1.length c1_1)] 28 (0,0))) ∧ Aside0 (w'.heap[gb275]? = some (.cells #[.int .i64 0,(.slice none 0 0)] 28 (0,0))) ∧ Aside0 (w'.heap[gb276]? = some (.cells #[.int .i64 a0_0,u277001] 28 (0,0))) ∧ Aside0 (Below w.heap.size w w'))
 case atStart => exact ⟨(0),(([] : List Int)),(.slice none 0 0),(by first|rfl|(simp;done)|(simp [*];done)),H',⟨Nat.le_refl _⟩,⟨by first|exact Kd.R_nil _ _ _ _ _|exact Kd.N_nil _ _ _ _ _|exact Kd.V_nil _ _ _ _ _|exact Kd.Q_nil _ _ _ _ _|exact Kd.S_nil _ _ _ _ _⟩,⟨by refine pe_ ?_;refine blk_far ?_ NB273_276.out _;refine pe_ ?_;refine blk_far ?_ NB273_276.out _;refine pe_ ?_;exact BK273.out⟩,⟨by refine pe_ ?_;refine blk_far ?_ NB274_276.out _;refine pe_ ?_;refine blk_far ?_ NB274_276.out _;refine pe_ ?_;exact BK274.out⟩,⟨by refine pe_ ?_;refine blk_far ?_ NB275_276.out _;refine pe_ ?_;refine blk_far ?_ NB275_276.out _;refine pe_ ?_;exact BK275.out⟩,⟨by refine pe_ ?_;refine blk_put (cs:=#[.int .i64 a0_0,.slice none 0 0]) ?_ 1 _ rfl;refine pe_ ?_;refine blk_put (cs:=#[.int .i64 0,.slice none 0 0]) ?_ 0 _ rfl;refine pe_ ?_;exact BK276.out⟩,⟨be4_ HB.out GE273.out GE274.out GE275.out GE276.out⟩⟩
 case round =>
  clear H'
  try clear c1
  try clear p2
  try clear c6
  try clear p6
  try clear c7
  try clear c10
  try clear c11
  try clear c12
  try clear hcz13_0
  try clear hcz13_1
  try clear hcz14_0
  try clear hcz14_1
  try clear hcz8_0
  try clear hcz8_1
  try clear hfz13_0
  try clear hfz13_1
  try clear hfz14_0
  try clear hfz14_1
  try clear hfz8_0
  try clear hfz8_1
  obtain ⟨x17_1,x277001_1,u277001,rfl,HA,HK1,HO_277001,BK273,BK274,BK275,BK276,HB⟩:=hrel
  cases gk with
  | zero => exact absurd HA.out (by simp [spec_l6Mul.l0])
  | succ k1 =>
   have H:=HA.out
   clear HA
   simp only [spec_l6Mul.l0] at H
   by_cases c15 : x17_1 < (wrap64 (a0_0 * a0_0))
   ·rw [if_pos c15] at H
    have c15b0 : decide (x17_1 < (wrap64 (a0_0 * a0_0))) = true:=decide_eq_true c15
    clear c15
    have H':=Aside0.mk H
    clear H
    have hnb16:=NB273_274.out
    have hnc16:=NB274_273.out
    have hnb17:=NB273_275.out
    have hnc17:=NB275_273.out
    have hnb18:=NB273_276.out
    have hnc18:=NB276_273.out
    have hcz19_0 : wr.cell? ⟨gb273,0,none⟩ = some (.int .i64 a0_0):=(blk_cell BK273.out 0).trans rfl
    have hcz19_1 : wr.cell? ⟨gb273,1,none⟩ = some (.slice A0_1 l0_1.length c0_1):=(blk_cell BK273.out 1).trans rfl
    have hfz19_0:=blk_frozen BK273.out 0
    have hfz19_1:=blk_frozen BK273.out 1
    go_wp2
    repeat (go_quiet (fail);try go_wp2)
    go_loopg [7,22] k1 (fun kq v7 v22 w' => ∃ (x7_2 : Int) (x22_2 : Int),v7 = .int .i64 x7_2 ∧ v22 = .int .i64 x22_2 ∧ Aside0 (spec_l6Mul.l1 kq x17_1 x7_2 (wrap64 (a0_0 * a0_0)) x17_1 a0_0 x22_2 a0_0 l0_1 a1_0 l1_1 a0_0 x277001_1 = some (r1,r2)) ∧ Aside0 (kq ≤ k1) ∧ Aside0 (Kd.R (Kd.int .i64) 3 w' w.heap.size (fun _ => True) u277001 x277001_1) ∧ Aside0 (w'.heap[gb273]? = some (.cells #[.int .i64 a0_0,(.slice A0_1 l0_1.length c0_1)] 28 (0,0))) ∧ Aside0 (w'.heap[gb274]? = some (.cells #[.int .i64 a1_0,(.slice A1_1 l1_1.length c1_1)] 28 (0,0))) ∧ Aside0 (w'.heap[gb275]? = some (.cells #[.int .i64 0,(.slice none 0 0)] 28 (0,0))) ∧ Aside0 (w'.heap[gb276]? = some (.cells #[.int .i64 a0_0,u277001] 28 (0,0))) ∧ Aside0 (Below w.heap.size w w'))
    case atStart => exact ⟨(3),(0),(by first|rfl|(simp;done)|(simp [*];done)),(by first|rfl|(simp;done)|(simp [*];done)),H',⟨Nat.le_refl _⟩,⟨pr_ HO_277001.out⟩,⟨pe_ BK273.out⟩,⟨pe_ BK274.out⟩,⟨pe_ BK275.out⟩,⟨pe_ BK276.out⟩,⟨be4_ HB.out GE273.out GE274.out GE275.out GE276.out⟩⟩
    case round =>
     clear H'
     try clear c1
     try clear p2
     try clear c6
     try clear p6
     try clear c7
     try clear c10
     try clear c11
     try clear c12
     try clear c15
     try clear c15b0
     try clear c16
     try clear c17
     try clear c18
     try clear hcz13_0
     try clear hcz13_1
     try clear hcz14_0
     try clear hcz14_1
     try clear hcz19_0
     try clear hcz19_1
     try clear hcz8_0
     try clear hcz8_1
     try clear hfz13_0
     try clear hfz13_1
     try clear hfz14_0
     try clear hfz14_1
     try clear hfz19_0
     try clear hfz19_1
     try clear hfz8_0
     try clear hfz8_1
     try clear p2
     try clear p6
     obtain ⟨x7_2,x22_2,rfl,rfl,HA,HK2,HO_277001,BK273,BK274,BK275,BK276,HB⟩:=hrel
     cases gk with
     | zero => exact absurd HA.out (by simp [spec_l6Mul.l1])
     | succ k2 =>
      have H:=HA.out
      clear HA
      simp only [spec_l6Mul.l1] at H
      by_cases c20 : x22_2 < a0_0
      ·rw [if_pos c20] at H
       have c20b0 : decide (x22_2 < a0_0) = true:=decide_eq_true c20
       clear c20
       by_cases c21 : a0_0 = 0
       ·rw [if_pos c21] at H
        exact absurd H (by simp)
       ·rw [if_neg c21] at H
        have c21b0 : (a0_0 == 0) = false:=beq_eq_false_iff_ne.mpr c21
        have c21b1 : (a0_0 != 0) = true:=bne_iff_ne.mpr c21
        obtain ⟨ji22,hji22⟩ : ∃ j_ : Int,(wrap64 ((wrap64 ((wrap64 (Int.tdiv x17_1 a0_0)) * a0_0)) + x22_2)) = j_:=⟨_,rfl⟩
        replace H : (if 0 ≤ (ji22) then (if (ji22) < (l0_1.length : Int) then (if 0 ≤ (wrap64 ((wrap64 (x22_2 * a0_0)) + (Int.tmod x17_1 a0_0))) then (if (wrap64 ((wrap64 (x22_2 * a0_0)) + (Int.tmod x17_1 a0_0))) < (l1_1.length : Int) then (spec_l6Mul.l1 k2 x17_1 (mn x7_2 (mx (rd l0_1 (ji22)) (rd l1_1 (wrap64 ((wrap64 (x22_2 * a0_0)) + (Int.tmod x17_1 a0_0)))))) (wrap64 (a0_0 * a0_0)) x17_1 a0_0 (wrap64 (x22_2 + 1)) a0_0 l0_1 a1_0 l1_1 a0_0 x277001_1) else (none)) else (none)) else (none)) else (none)) = some (r1,r2):=by first|(rw [hji22] at H;exact H)|(simp only [hji22] at H ⊢;exact H)
        have hji22w : (IntKind.i64.wrap ((wrap64 ((wrap64 (Int.tdiv x17_1 a0_0)) * a0_0)) + x22_2)) = ji22:=(i64_w _).trans hji22
        by_cases c23 : 0 ≤ (ji22)
        ·rw [if_pos c23] at H
         have c23b0 : decide (0 ≤ (ji22)) = true:=decide_eq_true c23
         clear c23
         by_cases c24 : (ji22) < (l0_1.length : Int)
         ·rw [if_pos c24] at H
          have c24b0 : decide ((ji22) < (l0_1.length : Int)) = true:=decide_eq_true c24
          clear c24
          obtain ⟨ji25,hji25⟩ : ∃ j_ : Int,(wrap64 ((wrap64 (x22_2 * a0_0)) + (Int.tmod x17_1 a0_0))) = j_:=⟨_,rfl⟩
          replace H : (if 0 ≤ (ji25) then (if (ji25) < (l1_1.length : Int) then (spec_l6Mul.l1 k2 x17_1 (mn x7_2 (mx (rd l0_1 (ji22)) (rd l1_1 (ji25)))) (wrap64 (a0_0 * a0_0)) x17_1 a0_0 (wrap64 (x22_2 + 1)) a0_0 l0_1 a1_0 l1_1 a0_0 x277001_1) else (none)) else (none)) = some (r1,r2):=by first|(rw [hji25] at H;exact H)|(simp only [hji25] at H ⊢;exact H)
          have hji25w : (IntKind.i64.wrap ((wrap64 (x22_2 * a0_0)) + (Int.tmod x17_1 a0_0))) = ji25:=(i64_w _).trans hji25
          by_cases c26 : 0 ≤ (ji25)
          ·rw [if_pos c26] at H
           have c26b0 : decide (0 ≤ (ji25)) = true:=decide_eq_true c26
           clear c26
           by_cases c27 : (ji25) < (l1_1.length : Int)
           ·rw [if_pos c27] at H
            have c27b0 : decide ((ji25) < (l1_1.length : Int)) = true:=decide_eq_true c27
            clear c27
            obtain ⟨ji28,hji28⟩ : ∃ j_ : Int,(mx (rd l0_1 (ji22)) (rd l1_1 (ji25))) = j_:=⟨_,rfl⟩
            replace H : (spec_l6Mul.l1 k2 x17_1 (mn x7_2 (ji28)) (wrap64 (a0_0 * a0_0)) x17_1 a0_0 (wrap64 (x22_2 + 1)) a0_0 l0_1 a1_0 l1_1 a0_0 x277001_1) = some (r1,r2):=by first|(rw [hji28] at H;exact H)|(simp only [hji28] at H ⊢;exact H)
            have hji28_ : (if (rd l0_1 (ji22)) < (rd l1_1 (ji25)) then (rd l1_1 (ji25)) else (rd l0_1 (ji22))) = ji28:=hji28
            obtain ⟨ji29,hji29⟩ : ∃ j_ : Int,(mn x7_2 (ji28)) = j_:=⟨_,rfl⟩
            replace H : (spec_l6Mul.l1 k2 x17_1 ji29 (wrap64 (a0_0 * a0_0)) x17_1 a0_0 (wrap64 (x22_2 + 1)) a0_0 l0_1 a1_0 l1_1 a0_0 x277001_1) = some (r1,r2):=by first|(rw [hji29] at H;exact H)|(simp only [hji29] at H ⊢;exact H)
            have hji29_ : (if (ji28) < x7_2 then (ji28) else x7_2) = ji29:=hji29
            have H':=Aside0.mk H
            clear H
            have hnb30:=NB273_274.out
            have hnc30:=NB274_273.out
            have hnb31:=NB273_275.out
            have hnc31:=NB275_273.out
            have hnb32:=NB273_276.out
            have hnc32:=NB276_273.out
            have hcz33_0 : wr.cell? ⟨gb273,0,none⟩ = some (.int .i64 a0_0):=(blk_cell BK273.out 0).trans rfl
            have hcz33_1 : wr.cell? ⟨gb273,1,none⟩ = some (.slice A0_1 l0_1.length c0_1):=(blk_cell BK273.out 1).trans rfl
            have hfz33_0:=blk_frozen BK273.out 0
            have hfz33_1:=blk_frozen BK273.out 1
            have p277 : 0 ≤ ((ji22) : Int):=of_decide_eq_true (by first|(with_reducible assumption)|assumption)
            have q277 : (ji22) < (l0_1.length : Int):=of_decide_eq_true (by first|(with_reducible assumption)|assumption)
            obtain ⟨ad277,e277,hx277_0⟩:=Kd.at_int HR0_1.out (ji22) p277 q277
            cases e277
            replace hx277_0:=(HB.out.cell (World.block_lt_of_cell? w _ hx277_0)).trans hx277_0
            replace p277:=eq_true p277
            replace q277:=eq_true q277
            have hnb34:=NB274_275.out
            have hnc34:=NB275_274.out
            have hnb35:=NB274_276.out
            have hnc35:=NB276_274.out
            have hcz36_0 : wr.cell? ⟨gb274,0,none⟩ = some (.int .i64 a1_0):=(blk_cell BK274.out 0).trans rfl
            have hcz36_1 : wr.cell? ⟨gb274,1,none⟩ = some (.slice A1_1 l1_1.length c1_1):=(blk_cell BK274.out 1).trans rfl
            have hfz36_0:=blk_frozen BK274.out 0
            have hfz36_1:=blk_frozen BK274.out 1
            have p278 : 0 ≤ ((ji25) : Int):=of_decide_eq_true (by first|(with_reducible assumption)|assumption)
            have q278 : (ji25) < (l1_1.length : Int):=of_decide_eq_true (by first|(with_reducible assumption)|assumption)
            obtain ⟨ad278,e278,hx278_0⟩:=Kd.at_int HR1_1.out (ji25) p278 q278
            cases e278
            replace hx278_0:=(HB.out.cell (World.block_lt_of_cell? w _ hx278_0)).trans hx278_0
            replace p278:=eq_true p278
            replace q278:=eq_true q278
            go_wp2
            repeat (go_quiet (fail);try go_wp2)
            go_roundg k2
            case measure => have:=HK1.out;have:=HK2.out;omega
            case rel => exact ⟨(ji29),(wrap64 (x22_2 + 1)),(by first|rfl|(simp;done)|(simp only [← hji29] <;> (first|rfl|simp))|(simp [*];done)),(by first|rfl|(simp;done)|(simp [*];done)),H',⟨by have:=HK1.out;have:=HK2.out;omega⟩,⟨pr_ HO_277001.out⟩,⟨pe_ BK273.out⟩,⟨pe_ BK274.out⟩,⟨pe_ BK275.out⟩,⟨pe_ BK276.out⟩,⟨be4_ HB.out GE273.out GE274.out GE275.out GE276.out⟩⟩
           ·rw [if_neg c27] at H
            exact absurd H (by simp)
          ·rw [if_neg c26] at H
           exact absurd H (by simp)
         ·rw [if_neg c24] at H
          exact absurd H (by simp)
        ·rw [if_neg c23] at H
         exact absurd H (by simp)
      ·rw [if_neg c20] at H
       have c20b0 : decide (x22_2 < a0_0) = false:=decide_eq_false c20
       clear c20
       by_cases c37 : x277001_1.length < 17592186044416
       ·rw [if_pos c37] at H
        have LMc37:=Aside0.mk c37
        clear c37
        obtain ⟨y279,hy279⟩ : ∃ y_ : List Int,y_ = (x277001_1 ++ [x7_2]):=⟨_,rfl⟩
        replace H : (spec_l6Mul.l0 k2 (wrap64 (a0_0 * a0_0)) (wrap64 (x17_1 + 1)) a0_0 l0_1 a1_0 l1_1 a0_0 y279) = some (r1,r2):=by first|(rw [hy279];with_reducible exact H)|(have H2_:=(Option.bind_some _ _).symm.trans H;rw [hy279];with_reducible exact H2_)|(have H2_:=(Option.bind_some _ _).symm.trans H;with_reducible exact H2_)|with_reducible exact H|(rw [hy279];exact H)|exact H
        have Ny279:=Aside0.mk hy279
        clear hy279
        have H':=Aside0.mk H
        clear H
        have hnb38:=NB276_273.out
        have hnc38:=NB273_276.out
        have hnb39:=NB276_274.out
        have hnc39:=NB274_276.out
        have hnb40:=NB276_275.out
        have hnc40:=NB275_276.out
        have hcz41_0 : wr.cell? ⟨gb276,0,none⟩ = some (.int .i64 a0_0):=(blk_cell BK276.out 0).trans rfl
        have hcz41_1 : wr.cell? ⟨gb276,1,none⟩ = some (u277001):=(blk_cell BK276.out 1).trans rfl
        have hfz41_0:=blk_frozen BK276.out 0
        have hfz41_1:=blk_frozen BK276.out 1
        go_wp2_with (first|((with_reducible refine gate_builtin (b:=.append) (xs:=#[.tmp 56,.tmp 58]) rfl ?_);at_builtin;refine Kd.R_append (Kd.int .i64) (w0:=w) w.heap.size rfl (.tmp 56) (.tmp 58) 24 3 (.int .i64 0) 8 rfl Try.underlying24 info3 rfl (by decide) (by omega) u277001 x277001_1 x7_2 [.int .i64 x7_2] (fun _ => True) (fun _ => False) rfl rfl ?aP (fun _ hk => hk.elim) ?aF ?aO ?aB ?aS ?aL ?_;(case aP => exact rfl);(case aB => exact (be4_ HB.out GE273.out GE274.out GE275.out GE276.out));(case aF => exact (fun _ _ => trivial));(case aO => exact (pr_ HO_277001.out));(case aS => exact (below_size (be4_ HB.out GE273.out GE274.out GE275.out GE276.out)));(case aL => have:=LMc37.out;omega);intro v280 w42 ho hb hg hat;rw [← Ny279.out] at ho;have n0_:=Aside0.mk (blk_grown (g:=gb273) (o:=.cells #[.int .i64 a0_0,.slice A0_1 l0_1.length c0_1] 28 (0,0)) (pe_ BK273.out) hg (Kd.R_ne HO_277001.out BK273.out (by decide)));have n1_:=Aside0.mk (blk_grown (g:=gb274) (o:=.cells #[.int .i64 a1_0,.slice A1_1 l1_1.length c1_1] 28 (0,0)) (pe_ BK274.out) hg (Kd.R_ne HO_277001.out BK274.out (by decide)));have n2_:=Aside0.mk (blk_grown (g:=gb275) (o:=.cells #[.int .i64 0,.slice none 0 0] 28 (0,0)) (pe_ BK275.out) hg (Kd.R_ne HO_277001.out BK275.out (by decide)));have n3_:=Aside0.mk (blk_grown (g:=gb276) (o:=.cells #[.int .i64 a0_0,u277001] 28 (0,0)) (pe_ BK276.out) hg (Kd.R_ne HO_277001.out BK276.out (by decide)));have n4_:=Aside0.mk (hb);have n5_:=Aside0.mk (ho);clear BK273;clear BK274;clear BK275;clear BK276;clear HB;clear HO_277001;have BK273:=n0_;have BK274:=n1_;have BK275:=n2_;have BK276:=n3_;have HB:=n4_;have HO281:=n5_;clear n0_ n1_ n2_ n3_ n4_ n5_;clear ho hb hg hat;obtain ⟨Ao43,co43,eo43⟩:=Kd.R_slice HO281.out;subst eo43;have hcz44_0 : w42.cell? ⟨gb276,0,none⟩ = some (.int .i64 a0_0):=(blk_cell BK276.out 0).trans rfl;have hcz44_1 : w42.cell? ⟨gb276,1,none⟩ = some (u277001):=(blk_cell BK276.out 1).trans rfl;have hfz44_0:=blk_frozen BK276.out 0;have hfz44_1:=blk_frozen BK276.out 1))
        repeat (go_quiet (first|((with_reducible refine gate_builtin (b:=.append) (xs:=#[.tmp 56,.tmp 58]) rfl ?_);at_builtin;refine Kd.R_append (Kd.int .i64) (w0:=w) w.heap.size rfl (.tmp 56) (.tmp 58) 24 3 (.int .i64 0) 8 rfl Try.underlying24 info3 rfl (by decide) (by omega) u277001 x277001_1 x7_2 [.int .i64 x7_2] (fun _ => True) (fun _ => False) rfl rfl ?aP (fun _ hk => hk.elim) ?aF ?aO ?aB ?aS ?aL ?_;(case aP => exact rfl);(case aB => exact (be4_ HB.out GE273.out GE274.out GE275.out GE276.out));(case aF => exact (fun _ _ => trivial));(case aO => exact (pr_ HO_277001.out));(case aS => exact (below_size (be4_ HB.out GE273.out GE274.out GE275.out GE276.out)));(case aL => have:=LMc37.out;omega);intro v280 w42 ho hb hg hat;rw [← Ny279.out] at ho;have n0_:=Aside0.mk (blk_grown (g:=gb273) (o:=.cells #[.int .i64 a0_0,.slice A0_1 l0_1.length c0_1] 28 (0,0)) (pe_ BK273.out) hg (Kd.R_ne HO_277001.out BK273.out (by decide)));have n1_:=Aside0.mk (blk_grown (g:=gb274) (o:=.cells #[.int .i64 a1_0,.slice A1_1 l1_1.length c1_1] 28 (0,0)) (pe_ BK274.out) hg (Kd.R_ne HO_277001.out BK274.out (by decide)));have n2_:=Aside0.mk (blk_grown (g:=gb275) (o:=.cells #[.int .i64 0,.slice none 0 0] 28 (0,0)) (pe_ BK275.out) hg (Kd.R_ne HO_277001.out BK275.out (by decide)));have n3_:=Aside0.mk (blk_grown (g:=gb276) (o:=.cells #[.int .i64 a0_0,u277001] 28 (0,0)) (pe_ BK276.out) hg (Kd.R_ne HO_277001.out BK276.out (by decide)));have n4_:=Aside0.mk (hb);have n5_:=Aside0.mk (ho);clear BK273;clear BK274;clear BK275;clear BK276;clear HB;clear HO_277001;have BK273:=n0_;have BK274:=n1_;have BK275:=n2_;have BK276:=n3_;have HB:=n4_;have HO281:=n5_;clear n0_ n1_ n2_ n3_ n4_ n5_;clear ho hb hg hat;obtain ⟨Ao43,co43,eo43⟩:=Kd.R_slice HO281.out;subst eo43;have hcz44_0 : w42.cell? ⟨gb276,0,none⟩ = some (.int .i64 a0_0):=(blk_cell BK276.out 0).trans rfl;have hcz44_1 : w42.cell? ⟨gb276,1,none⟩ = some (u277001):=(blk_cell BK276.out 1).trans rfl;have hfz44_0:=blk_frozen BK276.out 0;have hfz44_1:=blk_frozen BK276.out 1));try go_wp2_with (first|((with_reducible refine gate_builtin (b:=.append) (xs:=#[.tmp 56,.tmp 58]) rfl ?_);at_builtin;refine Kd.R_append (Kd.int .i64) (w0:=w) w.heap.size rfl (.tmp 56) (.tmp 58) 24 3 (.int .i64 0) 8 rfl Try.underlying24 info3 rfl (by decide) (by omega) u277001 x277001_1 x7_2 [.int .i64 x7_2] (fun _ => True) (fun _ => False) rfl rfl ?aP (fun _ hk => hk.elim) ?aF ?aO ?aB ?aS ?aL ?_;(case aP => exact rfl);(case aB => exact (be4_ HB.out GE273.out GE274.out GE275.out GE276.out));(case aF => exact (fun _ _ => trivial));(case aO => exact (pr_ HO_277001.out));(case aS => exact (below_size (be4_ HB.out GE273.out GE274.out GE275.out GE276.out)));(case aL => have:=LMc37.out;omega);intro v280 w42 ho hb hg hat;rw [← Ny279.out] at ho;have n0_:=Aside0.mk (blk_grown (g:=gb273) (o:=.cells #[.int .i64 a0_0,.slice A0_1 l0_1.length c0_1] 28 (0,0)) (pe_ BK273.out) hg (Kd.R_ne HO_277001.out BK273.out (by decide)));have n1_:=Aside0.mk (blk_grown (g:=gb274) (o:=.cells #[.int .i64 a1_0,.slice A1_1 l1_1.length c1_1] 28 (0,0)) (pe_ BK274.out) hg (Kd.R_ne HO_277001.out BK274.out (by decide)));have n2_:=Aside0.mk (blk_grown (g:=gb275) (o:=.cells #[.int .i64 0,.slice none 0 0] 28 (0,0)) (pe_ BK275.out) hg (Kd.R_ne HO_277001.out BK275.out (by decide)));have n3_:=Aside0.mk (blk_grown (g:=gb276) (o:=.cells #[.int .i64 a0_0,u277001] 28 (0,0)) (pe_ BK276.out) hg (Kd.R_ne HO_277001.out BK276.out (by decide)));have n4_:=Aside0.mk (hb);have n5_:=Aside0.mk (ho);clear BK273;clear BK274;clear BK275;clear BK276;clear HB;clear HO_277001;have BK273:=n0_;have BK274:=n1_;have BK275:=n2_;have BK276:=n3_;have HB:=n4_;have HO281:=n5_;clear n0_ n1_ n2_ n3_ n4_ n5_;clear ho hb hg hat;obtain ⟨Ao43,co43,eo43⟩:=Kd.R_slice HO281.out;subst eo43;have hcz44_0 : w42.cell? ⟨gb276,0,none⟩ = some (.int .i64 a0_0):=(blk_cell BK276.out 0).trans rfl;have hcz44_1 : w42.cell? ⟨gb276,1,none⟩ = some (u277001):=(blk_cell BK276.out 1).trans rfl;have hfz44_0:=blk_frozen BK276.out 0;have hfz44_1:=blk_frozen BK276.out 1)))
        go_roundg k2
        case measure => have:=HK1.out;have:=HK2.out;omega
        case rel => exact ⟨(wrap64 (x17_1 + 1)),(y279),(.slice Ao43 y279.length co43),(by first|rfl|(simp;done)|(simp [*];done)),H',⟨by have:=HK1.out;have:=HK2.out;omega⟩,⟨by refine pr_ ?_;exact Kd.R_mono (Kd.R_far (p:=⟨gb276,1,none⟩) (Kd.R_types HO281.out BK276.out (by decide)) (fun _ hk => hk.2) (.slice Ao43 y279.length co43)) (fun _ hk => trivial)⟩,⟨by refine pe_ ?_;refine blk_far ?_ NB273_276.out _;refine pe_ ?_;exact BK273.out⟩,⟨by refine pe_ ?_;refine blk_far ?_ NB274_276.out _;refine pe_ ?_;exact BK274.out⟩,⟨by refine pe_ ?_;refine blk_far ?_ NB275_276.out _;refine pe_ ?_;exact BK275.out⟩,⟨by refine pe_ ?_;refine blk_put (cs:=#[.int .i64 a0_0,u277001]) ?_ 1 _ rfl;refine pe_ ?_;exact BK276.out⟩,⟨be4_ HB.out GE273.out GE274.out GE275.out GE276.out⟩⟩
       ·rw [if_neg c37] at H
        exact absurd H (by simp)
   ·rw [if_neg c15] at H
    have c15b0 : decide (x17_1 < (wrap64 (a0_0 * a0_0))) = false:=decide_eq_false c15
    clear c15
    simp only [Option.some.injEq,Prod.mk.injEq] at H
    obtain ⟨rfl,rfl⟩:=H
    have hnb45:=NB276_273.out
    have hnc45:=NB273_276.out
    have hnb46:=NB276_274.out
    have hnc46:=NB274_276.out
    have hnb47:=NB276_275.out
    have hnc47:=NB275_276.out
    have hcz48_0 : wr.cell? ⟨gb276,0,none⟩ = some (.int .i64 a0_0):=(blk_cell BK276.out 0).trans rfl
    have hcz48_1 : wr.cell? ⟨gb276,1,none⟩ = some (u277001):=(blk_cell BK276.out 1).trans rfl
    have hfz48_0:=blk_frozen BK276.out 0
    have hfz48_1:=blk_frozen BK276.out 1
    have hnb49:=NB275_273.out
    have hnc49:=NB273_275.out
    have hnb50:=NB275_274.out
    have hnc50:=NB274_275.out
    have hcz51_0 : wr.cell? ⟨gb275,0,none⟩ = some (.int .i64 0):=(blk_cell BK275.out 0).trans rfl
    have hcz51_1 : wr.cell? ⟨gb275,1,none⟩ = some (.slice none 0 0):=(blk_cell BK275.out 1).trans rfl
    have hfz51_0:=blk_frozen BK275.out 0
    have hfz51_1:=blk_frozen BK275.out 1
    obtain ⟨Ao52,co52,eo52⟩:=Kd.R_slice HO_277001.out
    subst eo52
    go_wp2
    repeat (go_quiet (fail);try go_wp2)
    refine bodyPost_ret (results_cell_row rfl _ _ gb275 28 #[.int .i64 a0_0,.slice Ao52 x277001_1.length co52] (0,0) _ rfl (by refine pe_ ?_;refine blk_put (cs:=#[.int .i64 a0_0,.slice none 0 0]) ?_ 1 _ rfl;refine pe_ ?_;refine blk_put (cs:=#[.int .i64 0,.slice none 0 0]) ?_ 0 _ rfl;refine pe_ ?_;exact BK275.out) Try.underlying28 rfl (by kernel_rfl)) rfl ?_
    exact ⟨_,by first|rfl|(simp [errW_none,errW_some] <;> rfl)|(simp [*,errW_none,errW_some] <;> rfl),by refine pr_ ?_;exact Kd.R_mono (Kd.R_far (p:=⟨gb275,1,none⟩) (Kd.R_far (p:=⟨gb275,0,none⟩) (Kd.R_types HO_277001.out BK275.out (by decide)) (fun _ hk => hk.2) (.int .i64 a0_0)) (fun _ hk => hk.2) (.slice Ao52 x277001_1.length co52)) (fun _ hk => trivial),be4_ HB.out GE273.out GE274.out GE275.out GE276.out⟩
end Go.Proofs.Ytengegdaiphfeaa.X
end
section
namespace Go.Proofs.Ytengegdaiphfeaa.X
open Go.RowKit Go.Proofs.YtengegdaiphfeaaW.PrintWords Go.Proofs.YtengegdaiphfeaaW.PrintLast Go.Proofs.YtengegdaiphfeaaW.PrintMore
attribute [local go_sem] max2_int min2_int max_two min_two max_three min_three max_four min_four
set_option linter.unusedVariables false
set_option linter.unusedSimpArgs false
def spec_l1In.f (a0 : Int) (a1 : Int) (a2 : Int) : Option (Bool):=if a0 ≥ a1 then (some (decide (a0 ≤ a2))) else (some false)
set_option maxHeartbeats 8000000 in
set_option maxRecDepth 100000 in
theorem spec_l1In.calls (a0 : Int) (a1 : Int) (a2 : Int) (r : Bool) (w : World) (h : spec_l1In.f a0 a1 a2 = some r) :
  Calls Try.prog 97 #[.int .i64 a0,.int .i64 a1,.int .i64 a2] w fun e w' => e = .returned (.bool r) ∧ Drawn0 w w':=by
 have H : (if a0 ≥ a1 then (some (decide (a0 ≤ a2))) else (some false)) = some r:=h
 clear h
 by_cases c4 : a0 ≥ a1
 ·rw [if_pos c4] at H
  have c4b0 : decide (a1 ≤ a0) = true:=decide_eq_true c4
  clear c4
  obtain rfl:=Option.some.inj H
  go_enter Try.func97,Try.ntmps97
  go_wp2
  go_ret
  exact ⟨by first|rfl|(simp;done)|(simp [*];done),by repeat (first|exact Drawn0.refl _|apply Drawn0.step)⟩
 ·rw [if_neg c4] at H
  have c4b0 : decide (a1 ≤ a0) = false:=decide_eq_false c4
  clear c4
  obtain rfl:=Option.some.inj H
  go_enter Try.func97,Try.ntmps97
  go_wp2
  go_ret
  exact ⟨by first|rfl|(simp;done)|(simp [*];done),by repeat (first|exact Drawn0.refl _|apply Drawn0.step)⟩
end Go.Proofs.Ytengegdaiphfeaa.X
end
section
namespace Go.Proofs.Ytengegdaiphfeaa.X
open Go.RowKit Go.Proofs.YtengegdaiphfeaaW.PrintWords Go.Proofs.YtengegdaiphfeaaW.PrintLast Go.Proofs.YtengegdaiphfeaaW.PrintMore
attribute [local go_sem] max2_int min2_int max_two min_two max_three min_three max_four min_four
set_option linter.unusedVariables false
set_option linter.unusedSimpArgs false
def spec_CostValid.f (a0 : Int) : Option (Bool):=(spec_l1In.f a0 0 1000000).bind fun t104 => (some t104)
set_option maxHeartbeats 8000000 in
set_option maxRecDepth 100000 in
theorem spec_CostValid.calls (a0 : Int) (r : Bool) (w : World) (h : spec_CostValid.f a0 = some r) :
  Calls Try.prog 109 #[.int .i64 a0] w fun e w' => e = .returned (.bool r) ∧ Drawn0 w w':=by
 have H : ((spec_l1In.f a0 0 1000000).bind fun t104 => (some t104)) = some r:=h
 clear h
 replace H:=Option.bind_eq_some_iff.mp H
 obtain ⟨t104,A20,H⟩:=H
 replace H : (some t104) = some r:=H
 have A2:=Aside0.mk A20
 clear A20
 obtain rfl:=Option.some.inj H
 go_enter Try.func109,Try.ntmps109
 go_wp2_with (first|((with_reducible refine gate_callee (f:=97) rfl ?_);refine goesL_ (some 4) rfl rfl Try.func97 (by kernel_rfl) rfl #[.int .i64 a0,.int .i64 0,.int .i64 1000000] rfl lp_ ?_;(with_reducible refine (spec_l1In.calls a0 0 1000000 t104 _ A2.out).mono ?_);rintro e w' ⟨rfl,⟨nd,rfl⟩⟩;refine ⟨_,rfl,?_⟩))
 go_ret
 exact ⟨by first|rfl|(simp;done)|(simp [*];done),by repeat (first|exact Drawn0.refl _|apply Drawn0.step)⟩
end Go.Proofs.Ytengegdaiphfeaa.X
end
section
namespace Go.Proofs.Ytengegdaiphfeaa.X
open Go.RowKit Go.Proofs.YtengegdaiphfeaaW.PrintWords Go.Proofs.YtengegdaiphfeaaW.PrintLast Go.Proofs.YtengegdaiphfeaaW.PrintMore
attribute [local go_sem] max2_int min2_int max_two min_two max_three min_three max_four min_four
set_option linter.unusedVariables false
set_option linter.unusedSimpArgs false
def spec_l1All.l0 : Nat → List Int → Int → Int → Option (Bool)
 | 0,_,_,_ => none
 | k + 1,x5,x6,x7 => if x7 < x6 then (if 0 ≤ x7 then (if x7 < (x5.length : Int) then ((spec_CostValid.f (rd x5 x7)).bind fun t154 => (if t154 = true then (spec_l1All.l0 k x5 x6 (wrap64 (x7 + 1))) else (some false))) else (none)) else (none)) else (some true)
def spec_l1All.f (k : Nat) (l0 : List Int) : Option (Bool):=spec_l1All.l0 k l0 (l0.length : Int) 0
theorem spec_l1All.mono_l : ∀ k,(∀ y0 y1 y2,LeO (spec_l1All.l0 k y0 y1 y2) (spec_l1All.l0 (k + 1) y0 y1 y2))
 | 0 => fun _ _ _ r h => by simp [spec_l1All.l0] at h
 | k + 1 => by
  have ih0:=spec_l1All.mono_l k
  ·intro y0 y1 y2
   unfold spec_l1All.l0
   repeat' first
   | (with_reducible exact ih0 _ _ _)
   | (with_reducible exact LeO.refl _)
   | (with_reducible exact LeO.none _)
   | (with_reducible refine LeO.ite ?_ ?_)
   | (with_reducible refine LeO.bind ?_ (fun _ => ?_))
   | exact ih0 _ _ _
   | exact LeO.none _
   | refine LeO.ite ?_ ?_
   | refine LeO.bind ?_ (fun _ => ?_)
theorem spec_l1All.mono : ∀ a0 k,LeO (spec_l1All.f k a0) (spec_l1All.f (k + 1) a0):=by
 intro a0 k
 have ih0:=spec_l1All.mono_l k
 unfold spec_l1All.f
 repeat' first
   | (with_reducible exact ih0 _ _ _)
   | (with_reducible exact LeO.refl _)
   | (with_reducible exact LeO.none _)
   | (with_reducible refine LeO.ite ?_ ?_)
   | (with_reducible refine LeO.bind ?_ (fun _ => ?_))
   | exact ih0 _ _ _
   | exact LeO.none _
   | refine LeO.ite ?_ ?_
   | refine LeO.bind ?_ (fun _ => ?_)
set_option maxHeartbeats 8000000 in
set_option maxRecDepth 100000 in
theorem spec_l1All.calls (k : Nat) (A0 : Option Addr) (c0 : Nat) (l0 : List Int) (r : Bool) (w : World) (hr0 : Kd.C (Kd.int .i64) w A0 l0.length l0) (hc0 : l0.length ≤ c0) (h : spec_l1All.f k l0 = some r) :
  Calls Try.prog 98 #[.slice A0 l0.length c0] w fun e w' => e = .returned (.bool r) ∧ Drawn0 w w':=by
 have HR0:=Aside0.mk hr0
 have HC0:=Aside0.mk hc0
 clear hr0 hc0
 have H : (spec_l1All.l0 k l0 (l0.length : Int) 0) = some r:=h
 clear h
 have H':=Aside0.mk H
 clear H
 go_enter Try.func98,Try.ntmps98
 go_wp2
 go_loopg [7] k (fun kq v7 w' => ∃ (x7_1 : Int),v7 = .int .i64 x7_1 ∧ Aside0 (spec_l1All.l0 kq l0 (l0.length : Int) x7_1 = some r) ∧ Aside0 (kq ≤ k) ∧ Drawn0 w w')
 case atStart => exact ⟨(0),(by first|rfl|(simp;done)|(simp [*];done)),H',⟨Nat.le_refl _⟩,by repeat (first|exact Drawn0.refl _|apply Drawn0.step)⟩
 case round =>
  clear H'
  obtain ⟨x7_1,rfl,HA,HK1,⟨m1,rfl⟩⟩:=hrel
  cases gk with
  | zero => exact absurd HA.out (by simp [spec_l1All.l0])
  | succ k1 =>
   have H:=HA.out
   clear HA
   simp only [spec_l1All.l0] at H
   by_cases c2 : x7_1 < (l0.length : Int)
   ·rw [if_pos c2] at H
    have c2b0 : decide (x7_1 < (l0.length : Int)) = true:=decide_eq_true c2
    clear c2
    by_cases c3 : 0 ≤ x7_1
    ·rw [if_pos c3] at H
     have c3b0 : decide (0 ≤ x7_1) = true:=decide_eq_true c3
     clear c3
     by_cases c4 : x7_1 < (l0.length : Int)
     ·rw [if_pos c4] at H
      have c4b0 : decide (x7_1 < (l0.length : Int)) = true:=decide_eq_true c4
      clear c4
      replace H:=Option.bind_eq_some_iff.mp H
      obtain ⟨t154,A50,H⟩:=H
      replace H : (if t154 = true then (spec_l1All.l0 k1 l0 (l0.length : Int) (wrap64 (x7_1 + 1))) else (some false)) = some r:=H
      have A5:=Aside0.mk A50
      clear A50
      by_cases c6 : t154 = true
      ·subst c6
       have H1 : (spec_l1All.l0 k1 l0 (l0.length : Int) (wrap64 (x7_1 + 1))) = some r:=by rw [if_pos rfl] at H;exact H
       clear H
       have H:=H1
       clear H1
       have H':=Aside0.mk H
       clear H
       have p153 : 0 ≤ (x7_1 : Int):=of_decide_eq_true (by first|(with_reducible assumption)|assumption)
       have q153 : x7_1 < (l0.length : Int):=of_decide_eq_true (by first|(with_reducible assumption)|assumption)
       obtain ⟨ad153,e153,hx153_0⟩:=Kd.at_int HR0.out x7_1 p153 q153
       cases e153
       replace p153:=eq_true p153
       replace q153:=eq_true q153
       go_wp2_with (first|((with_reducible refine gate_callee (f:=109) rfl ?_);refine goesL_ (some 12) rfl rfl Try.func109 (by kernel_rfl) rfl #[.int .i64 (rd l0 x7_1)] rfl lp_ ?_;(with_reducible refine (spec_CostValid.calls (rd l0 x7_1) true _ A5.out).mono ?_);rintro e w' ⟨rfl,⟨nd,rfl⟩⟩;refine ⟨_,rfl,?_⟩))
       go_roundg k1
       case measure => have:=HK1.out;omega
       case rel => exact ⟨(wrap64 (x7_1 + 1)),(by first|rfl|(simp;done)|(simp [*];done)),H',⟨by have:=HK1.out;omega⟩,by repeat (first|exact Drawn0.refl _|apply Drawn0.step)⟩
      ·replace c6:=Bool.eq_false_iff.mpr c6
       subst c6
       have H1 : (some false) = some r:=by rw [if_neg (show ¬ (false = true) by decide)] at H;exact H
       clear H
       have H:=H1
       clear H1
       obtain rfl:=Option.some.inj H
       have p153 : 0 ≤ (x7_1 : Int):=of_decide_eq_true (by first|(with_reducible assumption)|assumption)
       have q153 : x7_1 < (l0.length : Int):=of_decide_eq_true (by first|(with_reducible assumption)|assumption)
       obtain ⟨ad153,e153,hx153_0⟩:=Kd.at_int HR0.out x7_1 p153 q153
       cases e153
       replace p153:=eq_true p153
       replace q153:=eq_true q153
       go_wp2_with (first|((with_reducible refine gate_callee (f:=109) rfl ?_);refine goesL_ (some 12) rfl rfl Try.func109 (by kernel_rfl) rfl #[.int .i64 (rd l0 x7_1)] rfl lp_ ?_;(with_reducible refine (spec_CostValid.calls (rd l0 x7_1) false _ A5.out).mono ?_);rintro e w' ⟨rfl,⟨nd,rfl⟩⟩;refine ⟨_,rfl,?_⟩))
       go_ret
       exact ⟨by first|rfl|(simp;done)|(simp [*];done),by repeat (first|exact Drawn0.refl _|apply Drawn0.step)⟩
     ·rw [if_neg c4] at H
      exact absurd H (by simp)
    ·rw [if_neg c3] at H
     exact absurd H (by simp)
   ·rw [if_neg c2] at H
    have c2b0 : decide (x7_1 < (l0.length : Int)) = false:=decide_eq_false c2
    clear c2
    obtain rfl:=Option.some.inj H
    go_wp2
    go_ret
    exact ⟨by first|rfl|(simp;done)|(simp [*];done),by repeat (first|exact Drawn0.refl _|apply Drawn0.step)⟩
end Go.Proofs.Ytengegdaiphfeaa.X
end
section
namespace Go.Proofs.Ytengegdaiphfeaa.X
open Go.RowKit Go.Proofs.YtengegdaiphfeaaW.PrintWords Go.Proofs.YtengegdaiphfeaaW.PrintLast Go.Proofs.YtengegdaiphfeaaW.PrintMore
attribute [local go_sem] max2_int min2_int max_two min_two max_three min_three max_four min_four
set_option linter.unusedVariables false
set_option linter.unusedSimpArgs false
def spec_MatrixValid.f (k : Nat) (a0_0 : Int) (l0_1 : List Int) : Option (Bool):=(spec_l1In.f a0_0 1 4).bind fun t156 => (if t156 = true then (if (l0_1.length : Int) = (wrap64 (a0_0 * a0_0)) then ((spec_l1All.f k l0_1).bind fun t157 => (some t157)) else (some false)) else (some false))
theorem spec_MatrixValid.mono : ∀ a0 a1 k,LeO (spec_MatrixValid.f k a0 a1) (spec_MatrixValid.f (k + 1) a0 a1):=by
 intro a0 a1 k
 unfold spec_MatrixValid.f
 repeat' first
   | (with_reducible exact spec_l1All.mono _ _)
   | (with_reducible exact LeO.refl _)
   | (with_reducible exact LeO.none _)
   | (with_reducible refine LeO.ite ?_ ?_)
   | (with_reducible refine LeO.bind ?_ (fun _ => ?_))
   | exact spec_l1All.mono _ _
   | exact LeO.none _
   | refine LeO.ite ?_ ?_
   | refine LeO.bind ?_ (fun _ => ?_)
set_option maxHeartbeats 8000000 in
set_option maxRecDepth 100000 in
theorem spec_MatrixValid.calls (k : Nat) (a0_0 : Int) (A0_1 : Option Addr) (c0_1 : Nat) (l0_1 : List Int) (r : Bool) (w : World) (hr0_1 : Kd.C (Kd.int .i64) w A0_1 l0_1.length l0_1) (hc0_1 : l0_1.length ≤ c0_1) (h : spec_MatrixValid.f k a0_0 l0_1 = some r) :
  Calls Try.prog 55 #[.agg #[.int .i64 a0_0,.slice A0_1 l0_1.length c0_1]] w fun e w' => e = .returned (.bool r) ∧ Below w.heap.size w w':=by
 have hu28:=Try.underlying28
 have HR0_1:=Aside0.mk hr0_1
 have HC0_1:=Aside0.mk hc0_1
 clear hr0_1 hc0_1
 have HB:=Aside0.mk (Below.refl w.heap.size w)
 have H : ((spec_l1In.f a0_0 1 4).bind fun t156 => (if t156 = true then (if (l0_1.length : Int) = (wrap64 (a0_0 * a0_0)) then ((spec_l1All.f k l0_1).bind fun t157 => (some t157)) else (some false)) else (some false))) = some r:=h
 clear h
 replace H:=Option.bind_eq_some_iff.mp H
 obtain ⟨t156,A20,H⟩:=H
 replace H : (if t156 = true then (if (l0_1.length : Int) = (wrap64 (a0_0 * a0_0)) then ((spec_l1All.f k l0_1).bind fun t157 => (some t157)) else (some false)) else (some false)) = some r:=H
 have A2:=Aside0.mk A20
 clear A20
 by_cases c3 : t156 = true
 ·subst c3
  have H1 : (if (l0_1.length : Int) = (wrap64 (a0_0 * a0_0)) then ((spec_l1All.f k l0_1).bind fun t157 => (some t157)) else (some false)) = some r:=by rw [if_pos rfl] at H;exact H
  clear H
  have H:=H1
  clear H1
  by_cases c4 : (l0_1.length : Int) = (wrap64 (a0_0 * a0_0))
  ·rw [if_pos c4] at H
   have c4b0 : ((l0_1.length : Int) == (wrap64 (a0_0 * a0_0))) = true:=beq_iff_eq.mpr c4
   have c4b1 : ((l0_1.length : Int) != (wrap64 (a0_0 * a0_0))) = false:=bne_eq_false_iff_eq.mpr c4
   clear c4
   replace H:=Option.bind_eq_some_iff.mp H
   obtain ⟨t157,A50,H⟩:=H
   replace H : (some t157) = some r:=H
   have A5:=Aside0.mk A50
   clear A50
   obtain rfl:=Option.some.inj H
   go_enter Try.func55,Try.ntmps55
   go_wp2_with (first|((with_reducible refine gate_dst (N:=1) rfl ?_);(try (refine gate_guard (by rfl) ?_;dsimp only));refine box_event ?hg (N:=1) ?hd (cs:=#[.int .i64 a0_0,.slice A0_1 l0_1.length c0_1]) (t:=28) ?hr ?_;(case hd => rfl);(case hg => rfl);(case hr => first|(go_simp;done)|(go_simp;rfl));intro gb155 hg w6 hbox hb;have n0_:=Aside0.mk (below_step (be0_ HB.out) hb);have n1_:=Aside0.mk (hbox);have n2_:=Aside0.mk ((by rw [hg];exact (below_size (be0_ HB.out)) : w.heap.size ≤ gb155));have n3_:=Aside0.mk ((by rw [hg];exact (below_size (be0_ HB.out)) : w.heap.size ≤ gb155));clear HB;have HB:=n0_;have BK155:=n1_;have GW155:=n2_;have GE155:=n3_;clear n0_ n1_ n2_ n3_;clear hb hbox hg;have hcz7_0 : w6.cell? ⟨gb155,0,none⟩ = some (.int .i64 a0_0):=(blk_cell BK155.out 0).trans rfl;have hcz7_1 : w6.cell? ⟨gb155,1,none⟩ = some (.slice A0_1 l0_1.length c0_1):=(blk_cell BK155.out 1).trans rfl;have hfz7_0:=blk_frozen BK155.out 0;have hfz7_1:=blk_frozen BK155.out 1)|((with_reducible refine gate_callee (f:=97) rfl ?_);refine goesL_ (some 5) rfl rfl Try.func97 (by kernel_rfl) rfl #[.int .i64 a0_0,.int .i64 1,.int .i64 4] rfl lp_ ?_;(with_reducible refine (spec_l1In.calls a0_0 1 4 true _ A2.out).mono ?_);rintro e w' ⟨rfl,⟨nd,rfl⟩⟩;refine ⟨_,rfl,?_⟩)|(go_at_call 98;(with_reducible refine (spec_l1All.calls k _ _ l0_1 t157 _ ?side1 ?side2 A5.out).mono ?_);(case side1 => repeat (first|exact (Kd.C_below HR0_1.out (be1_ HB.out GE155.out))|(with_reducible refine Kd.C_alloc ?_ _)|(with_reducible refine Kd.C_drewN ?_ _)|(with_reducible refine Kd.C_drew ?_)));(case side2 => exact HC0_1.out);rintro e w' ⟨rfl,⟨nd,rfl⟩⟩))
   go_ret
   exact ⟨by first|rfl|(simp [errW_none,errW_some] <;> rfl)|(simp [*,errW_none,errW_some] <;> rfl),be1_ HB.out GE155.out⟩
  ·rw [if_neg c4] at H
   have c4b0 : ((l0_1.length : Int) == (wrap64 (a0_0 * a0_0))) = false:=beq_eq_false_iff_ne.mpr c4
   have c4b1 : ((l0_1.length : Int) != (wrap64 (a0_0 * a0_0))) = true:=bne_iff_ne.mpr c4
   obtain rfl:=Option.some.inj H
   go_enter Try.func55,Try.ntmps55
   go_wp2_with (first|((with_reducible refine gate_dst (N:=1) rfl ?_);(try (refine gate_guard (by rfl) ?_;dsimp only));refine box_event ?hg (N:=1) ?hd (cs:=#[.int .i64 a0_0,.slice A0_1 l0_1.length c0_1]) (t:=28) ?hr ?_;(case hd => rfl);(case hg => rfl);(case hr => first|(go_simp;done)|(go_simp;rfl));intro gb155 hg w8 hbox hb;have n0_:=Aside0.mk (below_step (be0_ HB.out) hb);have n1_:=Aside0.mk (hbox);have n2_:=Aside0.mk ((by rw [hg];exact (below_size (be0_ HB.out)) : w.heap.size ≤ gb155));have n3_:=Aside0.mk ((by rw [hg];exact (below_size (be0_ HB.out)) : w.heap.size ≤ gb155));clear HB;have HB:=n0_;have BK155:=n1_;have GW155:=n2_;have GE155:=n3_;clear n0_ n1_ n2_ n3_;clear hb hbox hg;have hcz9_0 : w8.cell? ⟨gb155,0,none⟩ = some (.int .i64 a0_0):=(blk_cell BK155.out 0).trans rfl;have hcz9_1 : w8.cell? ⟨gb155,1,none⟩ = some (.slice A0_1 l0_1.length c0_1):=(blk_cell BK155.out 1).trans rfl;have hfz9_0:=blk_frozen BK155.out 0;have hfz9_1:=blk_frozen BK155.out 1)|((with_reducible refine gate_callee (f:=97) rfl ?_);refine goesL_ (some 5) rfl rfl Try.func97 (by kernel_rfl) rfl #[.int .i64 a0_0,.int .i64 1,.int .i64 4] rfl lp_ ?_;(with_reducible refine (spec_l1In.calls a0_0 1 4 true _ A2.out).mono ?_);rintro e w' ⟨rfl,⟨nd,rfl⟩⟩;refine ⟨_,rfl,?_⟩))
   go_ret
   exact ⟨by first|rfl|(simp [errW_none,errW_some] <;> rfl)|(simp [*,errW_none,errW_some] <;> rfl),be1_ HB.out GE155.out⟩
 ·replace c3:=Bool.eq_false_iff.mpr c3
  subst c3
  have H1 : (some false) = some r:=by rw [if_neg (show ¬ (false = true) by decide)] at H;exact H
  clear H
  have H:=H1
  clear H1
  obtain rfl:=Option.some.inj H
  go_enter Try.func55,Try.ntmps55
  go_wp2_with (first|((with_reducible refine gate_dst (N:=1) rfl ?_);(try (refine gate_guard (by rfl) ?_;dsimp only));refine box_event ?hg (N:=1) ?hd (cs:=#[.int .i64 a0_0,.slice A0_1 l0_1.length c0_1]) (t:=28) ?hr ?_;(case hd => rfl);(case hg => rfl);(case hr => first|(go_simp;done)|(go_simp;rfl));intro gb155 hg w10 hbox hb;have n0_:=Aside0.mk (below_step (be0_ HB.out) hb);have n1_:=Aside0.mk (hbox);have n2_:=Aside0.mk ((by rw [hg];exact (below_size (be0_ HB.out)) : w.heap.size ≤ gb155));have n3_:=Aside0.mk ((by rw [hg];exact (below_size (be0_ HB.out)) : w.heap.size ≤ gb155));clear HB;have HB:=n0_;have BK155:=n1_;have GW155:=n2_;have GE155:=n3_;clear n0_ n1_ n2_ n3_;clear hb hbox hg;have hcz11_0 : w10.cell? ⟨gb155,0,none⟩ = some (.int .i64 a0_0):=(blk_cell BK155.out 0).trans rfl;have hcz11_1 : w10.cell? ⟨gb155,1,none⟩ = some (.slice A0_1 l0_1.length c0_1):=(blk_cell BK155.out 1).trans rfl;have hfz11_0:=blk_frozen BK155.out 0;have hfz11_1:=blk_frozen BK155.out 1)|((with_reducible refine gate_callee (f:=97) rfl ?_);refine goesL_ (some 5) rfl rfl Try.func97 (by kernel_rfl) rfl #[.int .i64 a0_0,.int .i64 1,.int .i64 4] rfl lp_ ?_;(with_reducible refine (spec_l1In.calls a0_0 1 4 false _ A2.out).mono ?_);rintro e w' ⟨rfl,⟨nd,rfl⟩⟩;refine ⟨_,rfl,?_⟩))
  go_ret
  exact ⟨by first|rfl|(simp [errW_none,errW_some] <;> rfl)|(simp [*,errW_none,errW_some] <;> rfl),be1_ HB.out GE155.out⟩
end Go.Proofs.Ytengegdaiphfeaa.X
end
section
namespace Go.Proofs.Ytengegdaiphfeaa.X
open Go.RowKit Go.Proofs.YtengegdaiphfeaaW.PrintWords Go.Proofs.YtengegdaiphfeaaW.PrintLast Go.Proofs.YtengegdaiphfeaaW.PrintMore
attribute [local go_sem] max2_int min2_int max_two min_two max_three min_three max_four min_four
set_option linter.unusedVariables false
set_option linter.unusedSimpArgs false
def spec_GradesValid.l0 : Nat → List Int → Int → Int → Int → List Int → Option (Bool)
 | 0,_,_,_,_,_ => none
 | k + 1,x6,x7,x8,x270000,x270001 => if x8 < x7 then (if 0 ≤ x8 then (if x8 < (x6.length : Int) then ((spec_l1In.f (rd x6 x8) 0 3).bind fun t271 => (if t271 = true then (spec_GradesValid.l0 k x6 x7 (wrap64 (x8 + 1)) x270000 x270001) else (some false))) else (none)) else (none)) else ((spec_MatrixValid.f k x270000 x270001).bind fun t272 => (some t272))
def spec_GradesValid.f (k : Nat) (a0_0 : Int) (l0_1 : List Int) : Option (Bool):=spec_GradesValid.l0 k l0_1 (l0_1.length : Int) 0 a0_0 l0_1
theorem spec_GradesValid.mono_l : ∀ k,(∀ y0 y1 y2 y3 y4,LeO (spec_GradesValid.l0 k y0 y1 y2 y3 y4) (spec_GradesValid.l0 (k + 1) y0 y1 y2 y3 y4))
 | 0 => fun _ _ _ _ _ r h => by simp [spec_GradesValid.l0] at h
 | k + 1 => by
  have ih0:=spec_GradesValid.mono_l k
  ·intro y0 y1 y2 y3 y4
   unfold spec_GradesValid.l0
   repeat' first
   | (with_reducible exact ih0 _ _ _ _ _)
   | (with_reducible exact spec_MatrixValid.mono _ _ _)
   | (with_reducible exact LeO.refl _)
   | (with_reducible exact LeO.none _)
   | (with_reducible refine LeO.ite ?_ ?_)
   | (with_reducible refine LeO.bind ?_ (fun _ => ?_))
   | exact ih0 _ _ _ _ _
   | exact spec_MatrixValid.mono _ _ _
   | exact LeO.none _
   | refine LeO.ite ?_ ?_
   | refine LeO.bind ?_ (fun _ => ?_)
theorem spec_GradesValid.mono : ∀ a0 a1 k,LeO (spec_GradesValid.f k a0 a1) (spec_GradesValid.f (k + 1) a0 a1):=by
 intro a0 a1 k
 have ih0:=spec_GradesValid.mono_l k
 unfold spec_GradesValid.f
 repeat' first
   | (with_reducible exact ih0 _ _ _ _ _)
   | (with_reducible exact spec_MatrixValid.mono _ _ _)
   | (with_reducible exact LeO.refl _)
   | (with_reducible exact LeO.none _)
   | (with_reducible refine LeO.ite ?_ ?_)
   | (with_reducible refine LeO.bind ?_ (fun _ => ?_))
   | exact ih0 _ _ _ _ _
   | exact spec_MatrixValid.mono _ _ _
   | exact LeO.none _
   | refine LeO.ite ?_ ?_
   | refine LeO.bind ?_ (fun _ => ?_)
set_option maxHeartbeats 8000000 in
set_option maxRecDepth 100000 in
theorem spec_GradesValid.calls (k : Nat) (a0_0 : Int) (A0_1 : Option Addr) (c0_1 : Nat) (l0_1 : List Int) (r : Bool) (w : World) (hr0_1 : Kd.C (Kd.int .i64) w A0_1 l0_1.length l0_1) (hc0_1 : l0_1.length ≤ c0_1) (h : spec_GradesValid.f k a0_0 l0_1 = some r) :
  Calls Try.prog 65 #[.agg #[.int .i64 a0_0,.slice A0_1 l0_1.length c0_1]] w fun e w' => e = .returned (.bool r) ∧ Below w.heap.size w w':=by
 have hu28:=Try.underlying28
 have HR0_1:=Aside0.mk hr0_1
 have HC0_1:=Aside0.mk hc0_1
 clear hr0_1 hc0_1
 have HB:=Aside0.mk (Below.refl w.heap.size w)
 have H : (spec_GradesValid.l0 k l0_1 (l0_1.length : Int) 0 a0_0 l0_1) = some r:=h
 clear h
 have H':=Aside0.mk H
 clear H
 go_enter Try.func65,Try.ntmps65
 go_wp2_with (first|((with_reducible refine gate_dst (N:=1) rfl ?_);refine box_event ?hg (N:=1) ?hd (cs:=#[.int .i64 a0_0,.slice A0_1 l0_1.length c0_1]) (t:=28) ?hr ?_;(case hd => rfl);(case hg => rfl);(case hr => first|(go_simp;done)|(go_simp;rfl));intro gb269 hg w2 hbox hb;have n0_:=Aside0.mk (below_step (be0_ HB.out) hb);have n1_:=Aside0.mk (hbox);have n2_:=Aside0.mk ((by rw [hg];exact (below_size (be0_ HB.out)) : w.heap.size ≤ gb269));have n3_:=Aside0.mk ((by rw [hg];exact (below_size (be0_ HB.out)) : w.heap.size ≤ gb269));clear HB;have HB:=n0_;have BK269:=n1_;have GW269:=n2_;have GE269:=n3_;clear n0_ n1_ n2_ n3_;clear hb hbox hg;have hcz3_0 : w2.cell? ⟨gb269,0,none⟩ = some (.int .i64 a0_0):=(blk_cell BK269.out 0).trans rfl;have hcz3_1 : w2.cell? ⟨gb269,1,none⟩ = some (.slice A0_1 l0_1.length c0_1):=(blk_cell BK269.out 1).trans rfl;have hfz3_0:=blk_frozen BK269.out 0;have hfz3_1:=blk_frozen BK269.out 1))
 go_loopg [8] k (fun kq v8 w' => ∃ (x8_1 : Int),v8 = .int .i64 x8_1 ∧ Aside0 (spec_GradesValid.l0 kq l0_1 (l0_1.length : Int) x8_1 a0_0 l0_1 = some r) ∧ Aside0 (kq ≤ k) ∧ Aside0 (w'.heap[gb269]? = some (.cells #[.int .i64 a0_0,(.slice A0_1 l0_1.length c0_1)] 28 (0,0))) ∧ Aside0 (Below w.heap.size w w'))
 case atStart => exact ⟨(0),(by first|rfl|(simp;done)|(simp [*];done)),H',⟨Nat.le_refl _⟩,⟨pe_ BK269.out⟩,⟨be1_ HB.out GE269.out⟩⟩
 case round =>
  clear H'
  try clear p2
  try clear hcz3_0
  try clear hcz3_1
  try clear hfz3_0
  try clear hfz3_1
  obtain ⟨x8_1,rfl,HA,HK1,BK269,HB⟩:=hrel
  cases gk with
  | zero => exact absurd HA.out (by simp [spec_GradesValid.l0])
  | succ k1 =>
   have H:=HA.out
   clear HA
   simp only [spec_GradesValid.l0] at H
   by_cases c4 : x8_1 < (l0_1.length : Int)
   ·rw [if_pos c4] at H
    have c4b0 : decide (x8_1 < (l0_1.length : Int)) = true:=decide_eq_true c4
    clear c4
    by_cases c5 : 0 ≤ x8_1
    ·rw [if_pos c5] at H
     have c5b0 : decide (0 ≤ x8_1) = true:=decide_eq_true c5
     clear c5
     by_cases c6 : x8_1 < (l0_1.length : Int)
     ·rw [if_pos c6] at H
      have c6b0 : decide (x8_1 < (l0_1.length : Int)) = true:=decide_eq_true c6
      clear c6
      replace H:=Option.bind_eq_some_iff.mp H
      obtain ⟨t271,A70,H⟩:=H
      replace H : (if t271 = true then (spec_GradesValid.l0 k1 l0_1 (l0_1.length : Int) (wrap64 (x8_1 + 1)) a0_0 l0_1) else (some false)) = some r:=H
      have A7:=Aside0.mk A70
      clear A70
      by_cases c8 : t271 = true
      ·subst c8
       have H1 : (spec_GradesValid.l0 k1 l0_1 (l0_1.length : Int) (wrap64 (x8_1 + 1)) a0_0 l0_1) = some r:=by rw [if_pos rfl] at H;exact H
       clear H
       have H:=H1
       clear H1
       have H':=Aside0.mk H
       clear H
       have p270 : 0 ≤ (x8_1 : Int):=of_decide_eq_true (by first|(with_reducible assumption)|assumption)
       have q270 : x8_1 < (l0_1.length : Int):=of_decide_eq_true (by first|(with_reducible assumption)|assumption)
       obtain ⟨ad270,e270,hx270_0⟩:=Kd.at_int HR0_1.out x8_1 p270 q270
       cases e270
       replace hx270_0:=(HB.out.cell (World.block_lt_of_cell? w _ hx270_0)).trans hx270_0
       replace p270:=eq_true p270
       replace q270:=eq_true q270
       go_wp2_with (first|((with_reducible refine gate_callee (f:=97) rfl ?_);refine goesL_ (some 13) rfl rfl Try.func97 (by kernel_rfl) rfl #[.int .i64 (rd l0_1 x8_1),.int .i64 0,.int .i64 3] rfl lp_ ?_;(with_reducible refine (spec_l1In.calls (rd l0_1 x8_1) 0 3 true _ A7.out).mono ?_);rintro e w' ⟨rfl,⟨nd,rfl⟩⟩;refine ⟨_,rfl,?_⟩))
       go_roundg k1
       case measure => have:=HK1.out;omega
       case rel => exact ⟨(wrap64 (x8_1 + 1)),(by first|rfl|(simp;done)|(simp [*];done)),H',⟨by have:=HK1.out;omega⟩,⟨pe_ BK269.out⟩,⟨be1_ HB.out GE269.out⟩⟩
      ·replace c8:=Bool.eq_false_iff.mpr c8
       subst c8
       have H1 : (some false) = some r:=by rw [if_neg (show ¬ (false = true) by decide)] at H;exact H
       clear H
       have H:=H1
       clear H1
       obtain rfl:=Option.some.inj H
       have p270 : 0 ≤ (x8_1 : Int):=of_decide_eq_true (by first|(with_reducible assumption)|assumption)
       have q270 : x8_1 < (l0_1.length : Int):=of_decide_eq_true (by first|(with_reducible assumption)|assumption)
       obtain ⟨ad270,e270,hx270_0⟩:=Kd.at_int HR0_1.out x8_1 p270 q270
       cases e270
       replace hx270_0:=(HB.out.cell (World.block_lt_of_cell? w _ hx270_0)).trans hx270_0
       replace p270:=eq_true p270
       replace q270:=eq_true q270
       go_wp2_with (first|((with_reducible refine gate_callee (f:=97) rfl ?_);refine goesL_ (some 13) rfl rfl Try.func97 (by kernel_rfl) rfl #[.int .i64 (rd l0_1 x8_1),.int .i64 0,.int .i64 3] rfl lp_ ?_;(with_reducible refine (spec_l1In.calls (rd l0_1 x8_1) 0 3 false _ A7.out).mono ?_);rintro e w' ⟨rfl,⟨nd,rfl⟩⟩;refine ⟨_,rfl,?_⟩))
       go_ret
       exact ⟨by first|rfl|(simp [errW_none,errW_some] <;> rfl)|(simp [*,errW_none,errW_some] <;> rfl),be1_ HB.out GE269.out⟩
     ·rw [if_neg c6] at H
      exact absurd H (by simp)
    ·rw [if_neg c5] at H
     exact absurd H (by simp)
   ·rw [if_neg c4] at H
    have c4b0 : decide (x8_1 < (l0_1.length : Int)) = false:=decide_eq_false c4
    clear c4
    replace H:=Option.bind_eq_some_iff.mp H
    obtain ⟨t272,A90,H⟩:=H
    replace H : (some t272) = some r:=H
    have A9:=Aside0.mk A90
    clear A90
    obtain rfl:=Option.some.inj H
    have hcz10_0 : wr.cell? ⟨gb269,0,none⟩ = some (.int .i64 a0_0):=(blk_cell BK269.out 0).trans rfl
    have hcz10_1 : wr.cell? ⟨gb269,1,none⟩ = some (.slice A0_1 l0_1.length c0_1):=(blk_cell BK269.out 1).trans rfl
    have hfz10_0:=blk_frozen BK269.out 0
    have hfz10_1:=blk_frozen BK269.out 1
    go_wp2_with (first|((with_reducible refine gate_callee (f:=55) rfl ?_);refine goesL_ (some 17) rfl rfl Try.func55 (by kernel_rfl) rfl #[.agg #[.int .i64 a0_0,.slice A0_1 l0_1.length c0_1]] rfl lp_ ?_;(with_reducible refine (spec_MatrixValid.calls k1 a0_0 _ _ l0_1 t272 _ ?side1 ?side2 A9.out).mono ?_);(case side1 => repeat (first|exact (Kd.C_below HR0_1.out HB.out)|(with_reducible refine Kd.C_alloc ?_ _)|(with_reducible refine Kd.C_drewN ?_ _)|(with_reducible refine Kd.C_drew ?_)));(case side2 => exact HC0_1.out);rintro e w11 ⟨rfl,hb⟩;refine ⟨_,rfl,?_⟩;have n0_:=Aside0.mk (blk_below (g:=gb269) (o:=.cells #[.int .i64 a0_0,.slice A0_1 l0_1.length c0_1] 28 (0,0)) (pe_ BK269.out) hb);have n1_:=Aside0.mk (below_step (be1_ HB.out GE269.out) hb);clear BK269;clear HB;have BK269:=n0_;have HB:=n1_;clear n0_ n1_;(try clear hb);(try clear hb2);(try clear hk);(try clear hi)))
    go_ret
    exact ⟨by first|rfl|(simp [errW_none,errW_some] <;> rfl)|(simp [*,errW_none,errW_some] <;> rfl),be1_ HB.out GE269.out⟩
end Go.Proofs.Ytengegdaiphfeaa.X
end
section
namespace Go.Proofs.Ytengegdaiphfeaa.X
open Go.RowKit Go.Proofs.YtengegdaiphfeaaW.PrintWords Go.Proofs.YtengegdaiphfeaaW.PrintLast Go.Proofs.YtengegdaiphfeaaW.PrintMore
attribute [local go_sem] max2_int min2_int max_two min_two max_three min_three max_four min_four
set_option linter.unusedVariables false
set_option linter.unusedSimpArgs false
def spec_MulGrades.f (k : Nat) (a0_0 : Int) (l0_1 : List Int) (a1_0 : Int) (l1_1 : List Int) : Option (Int × List Int × Bool):=(spec_GradesValid.f k a0_0 l0_1).bind fun t341 => (if t341 = true then ((spec_GradesValid.f k a1_0 l1_1).bind fun t342 => (if t342 = true then (if a0_0 = a1_0 then ((spec_l6Mul.f k a0_0 l0_1 a1_0 l1_1).bind fun bt343 => (some (bt343.1,bt343.2,true))) else (some (0,([] : List Int),false))) else (some (0,([] : List Int),false)))) else (some (0,([] : List Int),false)))
theorem spec_MulGrades.mono : ∀ a0 a1 a2 a3 k,LeO (spec_MulGrades.f k a0 a1 a2 a3) (spec_MulGrades.f (k + 1) a0 a1 a2 a3):=by
 intro a0 a1 a2 a3 k
 unfold spec_MulGrades.f
 repeat' first
   | (with_reducible exact spec_GradesValid.mono _ _ _)
   | (with_reducible exact spec_l6Mul.mono _ _ _ _ _)
   | (with_reducible exact LeO.refl _)
   | (with_reducible exact LeO.none _)
   | (with_reducible refine LeO.ite ?_ ?_)
   | (with_reducible refine LeO.bind ?_ (fun _ => ?_))
   | exact spec_GradesValid.mono _ _ _
   | exact spec_l6Mul.mono _ _ _ _ _
   | exact LeO.none _
   | refine LeO.ite ?_ ?_
   | refine LeO.bind ?_ (fun _ => ?_)
set_option maxHeartbeats 8000000 in
set_option maxRecDepth 100000 in
theorem spec_MulGrades.calls (k : Nat) (a0_0 : Int) (A0_1 : Option Addr) (c0_1 : Nat) (l0_1 : List Int) (a1_0 : Int) (A1_1 : Option Addr) (c1_1 : Nat) (l1_1 : List Int) (r1 : Int) (r2 : List Int) (r3 : Bool) (w : World) (hr0_1 : Kd.C (Kd.int .i64) w A0_1 l0_1.length l0_1) (hc0_1 : l0_1.length ≤ c0_1) (hr1_1 : Kd.C (Kd.int .i64) w A1_1 l1_1.length l1_1) (hc1_1 : l1_1.length ≤ c1_1) (h : spec_MulGrades.f k a0_0 l0_1 a1_0 l1_1 = some (r1,r2,r3)) :
  Calls Try.prog 26 #[.agg #[.int .i64 a0_0,.slice A0_1 l0_1.length c0_1],.agg #[.int .i64 a1_0,.slice A1_1 l1_1.length c1_1]] w fun e w' => ∃ v1_ : Value,e = .returned (.tuple #[.agg #[.int .i64 r1,v1_],.bool r3]) ∧ Kd.R (Kd.int .i64) 3 w' w.heap.size (fun _ => True) v1_ r2 ∧ Below w.heap.size w w':=by
 have hu28:=Try.underlying28
 have HR0_1:=Aside0.mk hr0_1
 have HC0_1:=Aside0.mk hc0_1
 clear hr0_1 hc0_1
 have HR1_1:=Aside0.mk hr1_1
 have HC1_1:=Aside0.mk hc1_1
 clear hr1_1 hc1_1
 have HB:=Aside0.mk (Below.refl w.heap.size w)
 have H : ((spec_GradesValid.f k a0_0 l0_1).bind fun t341 => (if t341 = true then ((spec_GradesValid.f k a1_0 l1_1).bind fun t342 => (if t342 = true then (if a0_0 = a1_0 then ((spec_l6Mul.f k a0_0 l0_1 a1_0 l1_1).bind fun bt343 => (some (bt343.1,bt343.2,true))) else (some (0,([] : List Int),false))) else (some (0,([] : List Int),false)))) else (some (0,([] : List Int),false)))) = some (r1,r2,r3):=h
 clear h
 replace H:=Option.bind_eq_some_iff.mp H
 obtain ⟨t341,A30,H⟩:=H
 replace H : (if t341 = true then ((spec_GradesValid.f k a1_0 l1_1).bind fun t342 => (if t342 = true then (if a0_0 = a1_0 then ((spec_l6Mul.f k a0_0 l0_1 a1_0 l1_1).bind fun bt343 => (some (bt343.1,bt343.2,true))) else (some (0,([] : List Int),false))) else (some (0,([] : List Int),false)))) else (some (0,([] : List Int),false))) = some (r1,r2,r3):=H
 have A3:=Aside0.mk A30
 clear A30
 by_cases c4 : t341 = true
 ·subst c4
  have H1 : ((spec_GradesValid.f k a1_0 l1_1).bind fun t342 => (if t342 = true then (if a0_0 = a1_0 then ((spec_l6Mul.f k a0_0 l0_1 a1_0 l1_1).bind fun bt343 => (some (bt343.1,bt343.2,true))) else (some (0,([] : List Int),false))) else (some (0,([] : List Int),false)))) = some (r1,r2,r3):=by rw [if_pos rfl] at H;exact H
  clear H
  have H:=H1
  clear H1
  replace H:=Option.bind_eq_some_iff.mp H
  obtain ⟨t342,A50,H⟩:=H
  replace H : (if t342 = true then (if a0_0 = a1_0 then ((spec_l6Mul.f k a0_0 l0_1 a1_0 l1_1).bind fun bt343 => (some (bt343.1,bt343.2,true))) else (some (0,([] : List Int),false))) else (some (0,([] : List Int),false))) = some (r1,r2,r3):=H
  have A5:=Aside0.mk A50
  clear A50
  by_cases c6 : t342 = true
  ·subst c6
   have H1 : (if a0_0 = a1_0 then ((spec_l6Mul.f k a0_0 l0_1 a1_0 l1_1).bind fun bt343 => (some (bt343.1,bt343.2,true))) else (some (0,([] : List Int),false))) = some (r1,r2,r3):=by rw [if_pos rfl] at H;exact H
   clear H
   have H:=H1
   clear H1
   by_cases c7 : a0_0 = a1_0
   ·rw [if_pos c7] at H
    have c7b0 : (a0_0 == a1_0) = true:=beq_iff_eq.mpr c7
    have c7b1 : (a0_0 != a1_0) = false:=bne_eq_false_iff_eq.mpr c7
    clear c7
    replace H:=Option.bind_eq_some_iff.mp H
    obtain ⟨⟨t343,t344⟩,A80,H⟩:=H
    replace H : (some (t343,t344,true)) = some (r1,r2,r3):=H
    have A8:=Aside0.mk A80
    clear A80
    simp only [Option.some.injEq,Prod.mk.injEq] at H
    obtain ⟨rfl,rfl,rfl⟩:=H
    go_enter Try.func26,Try.ntmps26
    go_wp2_with (first|((with_reducible refine gate_dst (N:=2) rfl ?_);refine box_event ?hg (N:=2) ?hd (cs:=#[.int .i64 a0_0,.slice A0_1 l0_1.length c0_1]) (t:=28) ?hr ?_;(case hd => rfl);(case hg => rfl);(case hr => first|(go_simp;done)|(go_simp;rfl));intro gb338 hg w9 hbox hb;have n0_:=Aside0.mk (below_step (be0_ HB.out) hb);have n1_:=Aside0.mk (hbox);have n2_:=Aside0.mk ((by rw [hg];exact (below_size (be0_ HB.out)) : w.heap.size ≤ gb338));have n3_:=Aside0.mk ((by rw [hg];exact (below_size (be0_ HB.out)) : w.heap.size ≤ gb338));clear HB;have HB:=n0_;have BK338:=n1_;have GW338:=n2_;have GE338:=n3_;clear n0_ n1_ n2_ n3_;clear hb hbox hg)|((with_reducible refine gate_dst (N:=3) rfl ?_);refine box_event ?hg (N:=3) ?hd (cs:=#[.int .i64 a1_0,.slice A1_1 l1_1.length c1_1]) (t:=28) ?hr ?_;(case hd => rfl);(case hg => rfl);(case hr => first|(go_simp;done)|(go_simp;rfl));intro gb339 hg w10 hbox hb;have n0_:=Aside0.mk (blk_below (g:=gb338) (o:=.cells #[.int .i64 a0_0,.slice A0_1 l0_1.length c0_1] 28 (0,0)) (pe_ BK338.out) hb);have n1_:=Aside0.mk (below_step (be1_ HB.out GE338.out) hb);have n2_:=Aside0.mk (hbox);have n3_:=Aside0.mk ((by rw [hg];exact (below_size (be1_ HB.out GE338.out)) : w.heap.size ≤ gb339));have n4_:=Aside0.mk ((by rw [hg];exact (below_size (be1_ HB.out GE338.out)) : w.heap.size ≤ gb339));have n5_:=Aside0.mk ((by rw [hg];exact Nat.ne_of_lt (blk_lt (g:=gb338) (o:=.cells #[.int .i64 a0_0,.slice A0_1 l0_1.length c0_1] 28 (0,0)) (pe_ BK338.out)) : gb338 ≠ gb339));have n6_:=Aside0.mk ((by rw [hg];exact Nat.ne_of_gt (blk_lt (g:=gb338) (o:=.cells #[.int .i64 a0_0,.slice A0_1 l0_1.length c0_1] 28 (0,0)) (pe_ BK338.out)) : gb339 ≠ gb338));clear BK338;clear HB;have BK338:=n0_;have HB:=n1_;have BK339:=n2_;have GW339:=n3_;have GE339:=n4_;have NB338_339:=n5_;have NB339_338:=n6_;clear n0_ n1_ n2_ n3_ n4_ n5_ n6_;clear hb hbox hg)|((with_reducible refine gate_dst (N:=4) rfl ?_);refine box_event ?hg (N:=4) ?hd (cs:=#[.int .i64 0,.slice none 0 0]) (t:=28) ?hr ?_;(case hd => rfl);(case hg => rfl);(case hr => first|(go_simp;done)|(go_simp;rfl));intro gb340 hg w11 hbox hb;have n0_:=Aside0.mk (blk_below (g:=gb338) (o:=.cells #[.int .i64 a0_0,.slice A0_1 l0_1.length c0_1] 28 (0,0)) (pe_ BK338.out) hb);have n1_:=Aside0.mk (blk_below (g:=gb339) (o:=.cells #[.int .i64 a1_0,.slice A1_1 l1_1.length c1_1] 28 (0,0)) (pe_ BK339.out) hb);have n2_:=Aside0.mk (below_step (be2_ HB.out GE338.out GE339.out) hb);have n3_:=Aside0.mk (hbox);have n4_:=Aside0.mk ((by rw [hg];exact (below_size (be2_ HB.out GE338.out GE339.out)) : w.heap.size ≤ gb340));have n5_:=Aside0.mk ((by rw [hg];exact (below_size (be2_ HB.out GE338.out GE339.out)) : w.heap.size ≤ gb340));have n6_:=Aside0.mk ((by rw [hg];exact Nat.ne_of_lt (blk_lt (g:=gb338) (o:=.cells #[.int .i64 a0_0,.slice A0_1 l0_1.length c0_1] 28 (0,0)) (pe_ BK338.out)) : gb338 ≠ gb340));have n7_:=Aside0.mk ((by rw [hg];exact Nat.ne_of_gt (blk_lt (g:=gb338) (o:=.cells #[.int .i64 a0_0,.slice A0_1 l0_1.length c0_1] 28 (0,0)) (pe_ BK338.out)) : gb340 ≠ gb338));have n8_:=Aside0.mk ((by rw [hg];exact Nat.ne_of_lt (blk_lt (g:=gb339) (o:=.cells #[.int .i64 a1_0,.slice A1_1 l1_1.length c1_1] 28 (0,0)) (pe_ BK339.out)) : gb339 ≠ gb340));have n9_:=Aside0.mk ((by rw [hg];exact Nat.ne_of_gt (blk_lt (g:=gb339) (o:=.cells #[.int .i64 a1_0,.slice A1_1 l1_1.length c1_1] 28 (0,0)) (pe_ BK339.out)) : gb340 ≠ gb339));clear BK338;clear BK339;clear HB;have BK338:=n0_;have BK339:=n1_;have HB:=n2_;have BK340:=n3_;have GW340:=n4_;have GE340:=n5_;have NB338_340:=n6_;have NB340_338:=n7_;have NB339_340:=n8_;have NB340_339:=n9_;clear n0_ n1_ n2_ n3_ n4_ n5_ n6_ n7_ n8_ n9_;clear hb hbox hg;have hnb12:=NB338_339.out;have hnc12:=NB339_338.out;have hnb13:=NB338_340.out;have hnc13:=NB340_338.out;have hcz14_0 : w11.cell? ⟨gb338,0,none⟩ = some (.int .i64 a0_0):=(blk_cell BK338.out 0).trans rfl;have hcz14_1 : w11.cell? ⟨gb338,1,none⟩ = some (.slice A0_1 l0_1.length c0_1):=(blk_cell BK338.out 1).trans rfl;have hfz14_0:=blk_frozen BK338.out 0;have hfz14_1:=blk_frozen BK338.out 1)|((with_reducible refine gate_callee (f:=65) rfl ?_);refine goesL_ (some 7) rfl rfl Try.func65 (by kernel_rfl) rfl #[.agg #[.int .i64 a0_0,.slice A0_1 l0_1.length c0_1]] rfl lp_ ?_;(with_reducible refine (spec_GradesValid.calls k a0_0 _ _ l0_1 true _ ?side1 ?side2 A3.out).mono ?_);(case side1 => repeat (first|exact (Kd.C_below HR0_1.out HB.out)|(with_reducible refine Kd.C_alloc ?_ _)|(with_reducible refine Kd.C_drewN ?_ _)|(with_reducible refine Kd.C_drew ?_)));(case side2 => exact HC0_1.out);rintro e w15 ⟨rfl,hb⟩;refine ⟨_,rfl,?_⟩;have n0_:=Aside0.mk (blk_below (g:=gb338) (o:=.cells #[.int .i64 a0_0,.slice A0_1 l0_1.length c0_1] 28 (0,0)) (pe_ BK338.out) hb);have n1_:=Aside0.mk (blk_below (g:=gb339) (o:=.cells #[.int .i64 a1_0,.slice A1_1 l1_1.length c1_1] 28 (0,0)) (pe_ BK339.out) hb);have n2_:=Aside0.mk (blk_below (g:=gb340) (o:=.cells #[.int .i64 0,.slice none 0 0] 28 (0,0)) (pe_ BK340.out) hb);have n3_:=Aside0.mk (below_step (be3_ HB.out GE338.out GE339.out GE340.out) hb);clear BK338;clear BK339;clear BK340;clear HB;have BK338:=n0_;have BK339:=n1_;have BK340:=n2_;have HB:=n3_;clear n0_ n1_ n2_ n3_;(try clear hb);(try clear hb2);(try clear hk);(try clear hi);have hnb16:=NB339_340.out;have hnc16:=NB340_339.out;have hcz17_0 : w15.cell? ⟨gb339,0,none⟩ = some (.int .i64 a1_0):=(blk_cell BK339.out 0).trans rfl;have hcz17_1 : w15.cell? ⟨gb339,1,none⟩ = some (.slice A1_1 l1_1.length c1_1):=(blk_cell BK339.out 1).trans rfl;have hfz17_0:=blk_frozen BK339.out 0;have hfz17_1:=blk_frozen BK339.out 1)|(go_at_call 65;(with_reducible refine (spec_GradesValid.calls k a1_0 _ _ l1_1 true _ ?side1 ?side2 A5.out).mono ?_);(case side1 => repeat (first|exact (Kd.C_below HR1_1.out HB.out)|(with_reducible refine Kd.C_alloc ?_ _)|(with_reducible refine Kd.C_drewN ?_ _)|(with_reducible refine Kd.C_drew ?_)));(case side2 => exact HC1_1.out);rintro e w18 ⟨rfl,hb⟩;have n0_:=Aside0.mk (blk_below (g:=gb338) (o:=.cells #[.int .i64 a0_0,.slice A0_1 l0_1.length c0_1] 28 (0,0)) (pe_ BK338.out) hb);have n1_:=Aside0.mk (blk_below (g:=gb339) (o:=.cells #[.int .i64 a1_0,.slice A1_1 l1_1.length c1_1] 28 (0,0)) (pe_ BK339.out) hb);have n2_:=Aside0.mk (blk_below (g:=gb340) (o:=.cells #[.int .i64 0,.slice none 0 0] 28 (0,0)) (pe_ BK340.out) hb);have n3_:=Aside0.mk (below_step (be3_ HB.out GE338.out GE339.out GE340.out) hb);clear BK338;clear BK339;clear BK340;clear HB;have BK338:=n0_;have BK339:=n1_;have BK340:=n2_;have HB:=n3_;clear n0_ n1_ n2_ n3_;(try clear hb);(try clear hb2);(try clear hk);(try clear hi);have hcz19_0 : w18.cell? ⟨gb338,0,none⟩ = some (.int .i64 a0_0):=(blk_cell BK338.out 0).trans rfl;have hcz19_1 : w18.cell? ⟨gb338,1,none⟩ = some (.slice A0_1 l0_1.length c0_1):=(blk_cell BK338.out 1).trans rfl;have hfz19_0:=blk_frozen BK338.out 0;have hfz19_1:=blk_frozen BK338.out 1;have hcz20_0 : w18.cell? ⟨gb339,0,none⟩ = some (.int .i64 a1_0):=(blk_cell BK339.out 0).trans rfl;have hcz20_1 : w18.cell? ⟨gb339,1,none⟩ = some (.slice A1_1 l1_1.length c1_1):=(blk_cell BK339.out 1).trans rfl;have hfz20_0:=blk_frozen BK339.out 0;have hfz20_1:=blk_frozen BK339.out 1)|((with_reducible refine gate_callee (f:=68) rfl ?_);refine goesL_ (some 24) rfl rfl Try.func68 (by kernel_rfl) rfl #[.agg #[.int .i64 a0_0,.slice A0_1 l0_1.length c0_1],.agg #[.int .i64 a1_0,.slice A1_1 l1_1.length c1_1]] rfl lp_ ?_;(with_reducible refine (spec_l6Mul.calls k a0_0 _ _ l0_1 a1_0 _ _ l1_1 t343 t344 _ ?side1 ?side2 ?side3 ?side4 A8.out).mono ?_);(case side1 => repeat (first|exact (Kd.C_below HR0_1.out HB.out)|(with_reducible refine Kd.C_alloc ?_ _)|(with_reducible refine Kd.C_drewN ?_ _)|(with_reducible refine Kd.C_drew ?_)));(case side2 => exact HC0_1.out);(case side3 => repeat (first|exact (Kd.C_below HR1_1.out HB.out)|(with_reducible refine Kd.C_alloc ?_ _)|(with_reducible refine Kd.C_drewN ?_ _)|(with_reducible refine Kd.C_drew ?_)));(case side4 => exact HC1_1.out);rintro e w21 ⟨v345,rfl,ho0,hb⟩;refine ⟨_,rfl,?_⟩;have n0_:=Aside0.mk (Kd.R_lower ho0 (below_size (be3_ HB.out GE338.out GE339.out GE340.out)));have n1_:=Aside0.mk (blk_below (g:=gb338) (o:=.cells #[.int .i64 a0_0,.slice A0_1 l0_1.length c0_1] 28 (0,0)) (pe_ BK338.out) hb);have n2_:=Aside0.mk (blk_below (g:=gb339) (o:=.cells #[.int .i64 a1_0,.slice A1_1 l1_1.length c1_1] 28 (0,0)) (pe_ BK339.out) hb);have n3_:=Aside0.mk (blk_below (g:=gb340) (o:=.cells #[.int .i64 0,.slice none 0 0] 28 (0,0)) (pe_ BK340.out) hb);have n4_:=Aside0.mk (below_step (be3_ HB.out GE338.out GE339.out GE340.out) hb);clear BK338;clear BK339;clear BK340;clear HB;have HO346:=n0_;have BK338:=n1_;have BK339:=n2_;have BK340:=n3_;have HB:=n4_;clear n0_ n1_ n2_ n3_ n4_;(try clear hb);(try clear hb2);(try clear hk);(try clear hi);(try clear ho0);have hcz22_0 : w21.cell? ⟨gb340,0,none⟩ = some (.int .i64 0):=(blk_cell BK340.out 0).trans rfl;have hcz22_1 : w21.cell? ⟨gb340,1,none⟩ = some (.slice none 0 0):=(blk_cell BK340.out 1).trans rfl;have hfz22_0:=blk_frozen BK340.out 0;have hfz22_1:=blk_frozen BK340.out 1;obtain ⟨Ao23,co23,eo23⟩:=Kd.R_slice HO346.out;subst eo23))
    refine bodyPost_ret (results_ct rfl _ _ gb340 28 #[.int .i64 t343,.slice Ao23 t344.length co23] (0,0) _ rfl (by refine pe_ ?_;refine blk_put (cs:=#[.int .i64 t343,.slice none 0 0]) ?_ 1 _ rfl;refine pe_ ?_;refine blk_put (cs:=#[.int .i64 0,.slice none 0 0]) ?_ 0 _ rfl;refine pe_ ?_;exact BK340.out) Try.underlying28 rfl (by kernel_rfl)) rfl ?_
    exact ⟨_,by first|rfl|(simp [errW_none,errW_some] <;> rfl)|(simp [*,errW_none,errW_some] <;> rfl),by refine pr_ ?_;exact Kd.R_mono (Kd.R_far (p:=⟨gb340,1,none⟩) (Kd.R_far (p:=⟨gb340,0,none⟩) (Kd.R_types HO346.out BK340.out (by decide)) (fun _ hk => hk.2) (.int .i64 t343)) (fun _ hk => hk.2) (.slice Ao23 t344.length co23)) (fun _ hk => trivial),be3_ HB.out GE338.out GE339.out GE340.out⟩
   ·rw [if_neg c7] at H
    have c7b0 : (a0_0 == a1_0) = false:=beq_eq_false_iff_ne.mpr c7
    have c7b1 : (a0_0 != a1_0) = true:=bne_iff_ne.mpr c7
    simp only [Option.some.injEq,Prod.mk.injEq] at H
    obtain ⟨rfl,rfl,rfl⟩:=H
    go_enter Try.func26,Try.ntmps26
    go_wp2_with (first|((with_reducible refine gate_dst (N:=2) rfl ?_);refine box_event ?hg (N:=2) ?hd (cs:=#[.int .i64 a0_0,.slice A0_1 l0_1.length c0_1]) (t:=28) ?hr ?_;(case hd => rfl);(case hg => rfl);(case hr => first|(go_simp;done)|(go_simp;rfl));intro gb338 hg w24 hbox hb;have n0_:=Aside0.mk (below_step (be0_ HB.out) hb);have n1_:=Aside0.mk (hbox);have n2_:=Aside0.mk ((by rw [hg];exact (below_size (be0_ HB.out)) : w.heap.size ≤ gb338));have n3_:=Aside0.mk ((by rw [hg];exact (below_size (be0_ HB.out)) : w.heap.size ≤ gb338));clear HB;have HB:=n0_;have BK338:=n1_;have GW338:=n2_;have GE338:=n3_;clear n0_ n1_ n2_ n3_;clear hb hbox hg)|((with_reducible refine gate_dst (N:=3) rfl ?_);refine box_event ?hg (N:=3) ?hd (cs:=#[.int .i64 a1_0,.slice A1_1 l1_1.length c1_1]) (t:=28) ?hr ?_;(case hd => rfl);(case hg => rfl);(case hr => first|(go_simp;done)|(go_simp;rfl));intro gb339 hg w25 hbox hb;have n0_:=Aside0.mk (blk_below (g:=gb338) (o:=.cells #[.int .i64 a0_0,.slice A0_1 l0_1.length c0_1] 28 (0,0)) (pe_ BK338.out) hb);have n1_:=Aside0.mk (below_step (be1_ HB.out GE338.out) hb);have n2_:=Aside0.mk (hbox);have n3_:=Aside0.mk ((by rw [hg];exact (below_size (be1_ HB.out GE338.out)) : w.heap.size ≤ gb339));have n4_:=Aside0.mk ((by rw [hg];exact (below_size (be1_ HB.out GE338.out)) : w.heap.size ≤ gb339));have n5_:=Aside0.mk ((by rw [hg];exact Nat.ne_of_lt (blk_lt (g:=gb338) (o:=.cells #[.int .i64 a0_0,.slice A0_1 l0_1.length c0_1] 28 (0,0)) (pe_ BK338.out)) : gb338 ≠ gb339));have n6_:=Aside0.mk ((by rw [hg];exact Nat.ne_of_gt (blk_lt (g:=gb338) (o:=.cells #[.int .i64 a0_0,.slice A0_1 l0_1.length c0_1] 28 (0,0)) (pe_ BK338.out)) : gb339 ≠ gb338));clear BK338;clear HB;have BK338:=n0_;have HB:=n1_;have BK339:=n2_;have GW339:=n3_;have GE339:=n4_;have NB338_339:=n5_;have NB339_338:=n6_;clear n0_ n1_ n2_ n3_ n4_ n5_ n6_;clear hb hbox hg)|((with_reducible refine gate_dst (N:=4) rfl ?_);refine box_event ?hg (N:=4) ?hd (cs:=#[.int .i64 0,.slice none 0 0]) (t:=28) ?hr ?_;(case hd => rfl);(case hg => rfl);(case hr => first|(go_simp;done)|(go_simp;rfl));intro gb340 hg w26 hbox hb;have n0_:=Aside0.mk (blk_below (g:=gb338) (o:=.cells #[.int .i64 a0_0,.slice A0_1 l0_1.length c0_1] 28 (0,0)) (pe_ BK338.out) hb);have n1_:=Aside0.mk (blk_below (g:=gb339) (o:=.cells #[.int .i64 a1_0,.slice A1_1 l1_1.length c1_1] 28 (0,0)) (pe_ BK339.out) hb);have n2_:=Aside0.mk (below_step (be2_ HB.out GE338.out GE339.out) hb);have n3_:=Aside0.mk (hbox);have n4_:=Aside0.mk ((by rw [hg];exact (below_size (be2_ HB.out GE338.out GE339.out)) : w.heap.size ≤ gb340));have n5_:=Aside0.mk ((by rw [hg];exact (below_size (be2_ HB.out GE338.out GE339.out)) : w.heap.size ≤ gb340));have n6_:=Aside0.mk ((by rw [hg];exact Nat.ne_of_lt (blk_lt (g:=gb338) (o:=.cells #[.int .i64 a0_0,.slice A0_1 l0_1.length c0_1] 28 (0,0)) (pe_ BK338.out)) : gb338 ≠ gb340));have n7_:=Aside0.mk ((by rw [hg];exact Nat.ne_of_gt (blk_lt (g:=gb338) (o:=.cells #[.int .i64 a0_0,.slice A0_1 l0_1.length c0_1] 28 (0,0)) (pe_ BK338.out)) : gb340 ≠ gb338));have n8_:=Aside0.mk ((by rw [hg];exact Nat.ne_of_lt (blk_lt (g:=gb339) (o:=.cells #[.int .i64 a1_0,.slice A1_1 l1_1.length c1_1] 28 (0,0)) (pe_ BK339.out)) : gb339 ≠ gb340));have n9_:=Aside0.mk ((by rw [hg];exact Nat.ne_of_gt (blk_lt (g:=gb339) (o:=.cells #[.int .i64 a1_0,.slice A1_1 l1_1.length c1_1] 28 (0,0)) (pe_ BK339.out)) : gb340 ≠ gb339));clear BK338;clear BK339;clear HB;have BK338:=n0_;have BK339:=n1_;have HB:=n2_;have BK340:=n3_;have GW340:=n4_;have GE340:=n5_;have NB338_340:=n6_;have NB340_338:=n7_;have NB339_340:=n8_;have NB340_339:=n9_;clear n0_ n1_ n2_ n3_ n4_ n5_ n6_ n7_ n8_ n9_;clear hb hbox hg;have hnb27:=NB338_339.out;have hnc27:=NB339_338.out;have hnb28:=NB338_340.out;have hnc28:=NB340_338.out;have hcz29_0 : w26.cell? ⟨gb338,0,none⟩ = some (.int .i64 a0_0):=(blk_cell BK338.out 0).trans rfl;have hcz29_1 : w26.cell? ⟨gb338,1,none⟩ = some (.slice A0_1 l0_1.length c0_1):=(blk_cell BK338.out 1).trans rfl;have hfz29_0:=blk_frozen BK338.out 0;have hfz29_1:=blk_frozen BK338.out 1)|((with_reducible refine gate_callee (f:=65) rfl ?_);refine goesL_ (some 7) rfl rfl Try.func65 (by kernel_rfl) rfl #[.agg #[.int .i64 a0_0,.slice A0_1 l0_1.length c0_1]] rfl lp_ ?_;(with_reducible refine (spec_GradesValid.calls k a0_0 _ _ l0_1 true _ ?side1 ?side2 A3.out).mono ?_);(case side1 => repeat (first|exact (Kd.C_below HR0_1.out HB.out)|(with_reducible refine Kd.C_alloc ?_ _)|(with_reducible refine Kd.C_drewN ?_ _)|(with_reducible refine Kd.C_drew ?_)));(case side2 => exact HC0_1.out);rintro e w30 ⟨rfl,hb⟩;refine ⟨_,rfl,?_⟩;have n0_:=Aside0.mk (blk_below (g:=gb338) (o:=.cells #[.int .i64 a0_0,.slice A0_1 l0_1.length c0_1] 28 (0,0)) (pe_ BK338.out) hb);have n1_:=Aside0.mk (blk_below (g:=gb339) (o:=.cells #[.int .i64 a1_0,.slice A1_1 l1_1.length c1_1] 28 (0,0)) (pe_ BK339.out) hb);have n2_:=Aside0.mk (blk_below (g:=gb340) (o:=.cells #[.int .i64 0,.slice none 0 0] 28 (0,0)) (pe_ BK340.out) hb);have n3_:=Aside0.mk (below_step (be3_ HB.out GE338.out GE339.out GE340.out) hb);clear BK338;clear BK339;clear BK340;clear HB;have BK338:=n0_;have BK339:=n1_;have BK340:=n2_;have HB:=n3_;clear n0_ n1_ n2_ n3_;(try clear hb);(try clear hb2);(try clear hk);(try clear hi);have hnb31:=NB339_340.out;have hnc31:=NB340_339.out;have hcz32_0 : w30.cell? ⟨gb339,0,none⟩ = some (.int .i64 a1_0):=(blk_cell BK339.out 0).trans rfl;have hcz32_1 : w30.cell? ⟨gb339,1,none⟩ = some (.slice A1_1 l1_1.length c1_1):=(blk_cell BK339.out 1).trans rfl;have hfz32_0:=blk_frozen BK339.out 0;have hfz32_1:=blk_frozen BK339.out 1)|(go_at_call 65;(with_reducible refine (spec_GradesValid.calls k a1_0 _ _ l1_1 true _ ?side1 ?side2 A5.out).mono ?_);(case side1 => repeat (first|exact (Kd.C_below HR1_1.out HB.out)|(with_reducible refine Kd.C_alloc ?_ _)|(with_reducible refine Kd.C_drewN ?_ _)|(with_reducible refine Kd.C_drew ?_)));(case side2 => exact HC1_1.out);rintro e w33 ⟨rfl,hb⟩;have n0_:=Aside0.mk (blk_below (g:=gb338) (o:=.cells #[.int .i64 a0_0,.slice A0_1 l0_1.length c0_1] 28 (0,0)) (pe_ BK338.out) hb);have n1_:=Aside0.mk (blk_below (g:=gb339) (o:=.cells #[.int .i64 a1_0,.slice A1_1 l1_1.length c1_1] 28 (0,0)) (pe_ BK339.out) hb);have n2_:=Aside0.mk (blk_below (g:=gb340) (o:=.cells #[.int .i64 0,.slice none 0 0] 28 (0,0)) (pe_ BK340.out) hb);have n3_:=Aside0.mk (below_step (be3_ HB.out GE338.out GE339.out GE340.out) hb);clear BK338;clear BK339;clear BK340;clear HB;have BK338:=n0_;have BK339:=n1_;have BK340:=n2_;have HB:=n3_;clear n0_ n1_ n2_ n3_;(try clear hb);(try clear hb2);(try clear hk);(try clear hi);have hcz34_0 : w33.cell? ⟨gb338,0,none⟩ = some (.int .i64 a0_0):=(blk_cell BK338.out 0).trans rfl;have hcz34_1 : w33.cell? ⟨gb338,1,none⟩ = some (.slice A0_1 l0_1.length c0_1):=(blk_cell BK338.out 1).trans rfl;have hfz34_0:=blk_frozen BK338.out 0;have hfz34_1:=blk_frozen BK338.out 1;have hcz35_0 : w33.cell? ⟨gb339,0,none⟩ = some (.int .i64 a1_0):=(blk_cell BK339.out 0).trans rfl;have hcz35_1 : w33.cell? ⟨gb339,1,none⟩ = some (.slice A1_1 l1_1.length c1_1):=(blk_cell BK339.out 1).trans rfl;have hfz35_0:=blk_frozen BK339.out 0;have hfz35_1:=blk_frozen BK339.out 1;have hcz36_0 : w33.cell? ⟨gb340,0,none⟩ = some (.int .i64 0):=(blk_cell BK340.out 0).trans rfl;have hcz36_1 : w33.cell? ⟨gb340,1,none⟩ = some (.slice none 0 0):=(blk_cell BK340.out 1).trans rfl;have hfz36_0:=blk_frozen BK340.out 0;have hfz36_1:=blk_frozen BK340.out 1))
    refine bodyPost_ret (results_ct rfl _ _ gb340 28 #[.int .i64 0,.slice none 0 0] (0,0) _ rfl (by refine pe_ ?_;refine blk_put (cs:=#[.int .i64 0,.slice none 0 0]) ?_ 1 _ rfl;refine pe_ ?_;refine blk_put (cs:=#[.int .i64 0,.slice none 0 0]) ?_ 0 _ rfl;refine pe_ ?_;exact BK340.out) Try.underlying28 rfl (by kernel_rfl)) rfl ?_
    exact ⟨_,by first|rfl|(simp [errW_none,errW_some] <;> rfl)|(simp [*,errW_none,errW_some] <;> rfl),by first|exact Kd.R_nil _ _ _ _ _|exact Kd.N_nil _ _ _ _ _|exact Kd.V_nil _ _ _ _ _|exact Kd.Q_nil _ _ _ _ _|exact Kd.S_nil _ _ _ _ _,be3_ HB.out GE338.out GE339.out GE340.out⟩
  ·replace c6:=Bool.eq_false_iff.mpr c6
   subst c6
   have H1 : (some (0,([] : List Int),false)) = some (r1,r2,r3):=by rw [if_neg (show ¬ (false = true) by decide)] at H;exact H
   clear H
   have H:=H1
   clear H1
   simp only [Option.some.injEq,Prod.mk.injEq] at H
   obtain ⟨rfl,rfl,rfl⟩:=H
   go_enter Try.func26,Try.ntmps26
   go_wp2_with (first|((with_reducible refine gate_dst (N:=2) rfl ?_);refine box_event ?hg (N:=2) ?hd (cs:=#[.int .i64 a0_0,.slice A0_1 l0_1.length c0_1]) (t:=28) ?hr ?_;(case hd => rfl);(case hg => rfl);(case hr => first|(go_simp;done)|(go_simp;rfl));intro gb338 hg w37 hbox hb;have n0_:=Aside0.mk (below_step (be0_ HB.out) hb);have n1_:=Aside0.mk (hbox);have n2_:=Aside0.mk ((by rw [hg];exact (below_size (be0_ HB.out)) : w.heap.size ≤ gb338));have n3_:=Aside0.mk ((by rw [hg];exact (below_size (be0_ HB.out)) : w.heap.size ≤ gb338));clear HB;have HB:=n0_;have BK338:=n1_;have GW338:=n2_;have GE338:=n3_;clear n0_ n1_ n2_ n3_;clear hb hbox hg)|((with_reducible refine gate_dst (N:=3) rfl ?_);refine box_event ?hg (N:=3) ?hd (cs:=#[.int .i64 a1_0,.slice A1_1 l1_1.length c1_1]) (t:=28) ?hr ?_;(case hd => rfl);(case hg => rfl);(case hr => first|(go_simp;done)|(go_simp;rfl));intro gb339 hg w38 hbox hb;have n0_:=Aside0.mk (blk_below (g:=gb338) (o:=.cells #[.int .i64 a0_0,.slice A0_1 l0_1.length c0_1] 28 (0,0)) (pe_ BK338.out) hb);have n1_:=Aside0.mk (below_step (be1_ HB.out GE338.out) hb);have n2_:=Aside0.mk (hbox);have n3_:=Aside0.mk ((by rw [hg];exact (below_size (be1_ HB.out GE338.out)) : w.heap.size ≤ gb339));have n4_:=Aside0.mk ((by rw [hg];exact (below_size (be1_ HB.out GE338.out)) : w.heap.size ≤ gb339));have n5_:=Aside0.mk ((by rw [hg];exact Nat.ne_of_lt (blk_lt (g:=gb338) (o:=.cells #[.int .i64 a0_0,.slice A0_1 l0_1.length c0_1] 28 (0,0)) (pe_ BK338.out)) : gb338 ≠ gb339));have n6_:=Aside0.mk ((by rw [hg];exact Nat.ne_of_gt (blk_lt (g:=gb338) (o:=.cells #[.int .i64 a0_0,.slice A0_1 l0_1.length c0_1] 28 (0,0)) (pe_ BK338.out)) : gb339 ≠ gb338));clear BK338;clear HB;have BK338:=n0_;have HB:=n1_;have BK339:=n2_;have GW339:=n3_;have GE339:=n4_;have NB338_339:=n5_;have NB339_338:=n6_;clear n0_ n1_ n2_ n3_ n4_ n5_ n6_;clear hb hbox hg)|((with_reducible refine gate_dst (N:=4) rfl ?_);refine box_event ?hg (N:=4) ?hd (cs:=#[.int .i64 0,.slice none 0 0]) (t:=28) ?hr ?_;(case hd => rfl);(case hg => rfl);(case hr => first|(go_simp;done)|(go_simp;rfl));intro gb340 hg w39 hbox hb;have n0_:=Aside0.mk (blk_below (g:=gb338) (o:=.cells #[.int .i64 a0_0,.slice A0_1 l0_1.length c0_1] 28 (0,0)) (pe_ BK338.out) hb);have n1_:=Aside0.mk (blk_below (g:=gb339) (o:=.cells #[.int .i64 a1_0,.slice A1_1 l1_1.length c1_1] 28 (0,0)) (pe_ BK339.out) hb);have n2_:=Aside0.mk (below_step (be2_ HB.out GE338.out GE339.out) hb);have n3_:=Aside0.mk (hbox);have n4_:=Aside0.mk ((by rw [hg];exact (below_size (be2_ HB.out GE338.out GE339.out)) : w.heap.size ≤ gb340));have n5_:=Aside0.mk ((by rw [hg];exact (below_size (be2_ HB.out GE338.out GE339.out)) : w.heap.size ≤ gb340));have n6_:=Aside0.mk ((by rw [hg];exact Nat.ne_of_lt (blk_lt (g:=gb338) (o:=.cells #[.int .i64 a0_0,.slice A0_1 l0_1.length c0_1] 28 (0,0)) (pe_ BK338.out)) : gb338 ≠ gb340));have n7_:=Aside0.mk ((by rw [hg];exact Nat.ne_of_gt (blk_lt (g:=gb338) (o:=.cells #[.int .i64 a0_0,.slice A0_1 l0_1.length c0_1] 28 (0,0)) (pe_ BK338.out)) : gb340 ≠ gb338));have n8_:=Aside0.mk ((by rw [hg];exact Nat.ne_of_lt (blk_lt (g:=gb339) (o:=.cells #[.int .i64 a1_0,.slice A1_1 l1_1.length c1_1] 28 (0,0)) (pe_ BK339.out)) : gb339 ≠ gb340));have n9_:=Aside0.mk ((by rw [hg];exact Nat.ne_of_gt (blk_lt (g:=gb339) (o:=.cells #[.int .i64 a1_0,.slice A1_1 l1_1.length c1_1] 28 (0,0)) (pe_ BK339.out)) : gb340 ≠ gb339));clear BK338;clear BK339;clear HB;have BK338:=n0_;have BK339:=n1_;have HB:=n2_;have BK340:=n3_;have GW340:=n4_;have GE340:=n5_;have NB338_340:=n6_;have NB340_338:=n7_;have NB339_340:=n8_;have NB340_339:=n9_;clear n0_ n1_ n2_ n3_ n4_ n5_ n6_ n7_ n8_ n9_;clear hb hbox hg;have hnb40:=NB338_339.out;have hnc40:=NB339_338.out;have hnb41:=NB338_340.out;have hnc41:=NB340_338.out;have hcz42_0 : w39.cell? ⟨gb338,0,none⟩ = some (.int .i64 a0_0):=(blk_cell BK338.out 0).trans rfl;have hcz42_1 : w39.cell? ⟨gb338,1,none⟩ = some (.slice A0_1 l0_1.length c0_1):=(blk_cell BK338.out 1).trans rfl;have hfz42_0:=blk_frozen BK338.out 0;have hfz42_1:=blk_frozen BK338.out 1)|((with_reducible refine gate_callee (f:=65) rfl ?_);refine goesL_ (some 7) rfl rfl Try.func65 (by kernel_rfl) rfl #[.agg #[.int .i64 a0_0,.slice A0_1 l0_1.length c0_1]] rfl lp_ ?_;(with_reducible refine (spec_GradesValid.calls k a0_0 _ _ l0_1 true _ ?side1 ?side2 A3.out).mono ?_);(case side1 => repeat (first|exact (Kd.C_below HR0_1.out HB.out)|(with_reducible refine Kd.C_alloc ?_ _)|(with_reducible refine Kd.C_drewN ?_ _)|(with_reducible refine Kd.C_drew ?_)));(case side2 => exact HC0_1.out);rintro e w43 ⟨rfl,hb⟩;refine ⟨_,rfl,?_⟩;have n0_:=Aside0.mk (blk_below (g:=gb338) (o:=.cells #[.int .i64 a0_0,.slice A0_1 l0_1.length c0_1] 28 (0,0)) (pe_ BK338.out) hb);have n1_:=Aside0.mk (blk_below (g:=gb339) (o:=.cells #[.int .i64 a1_0,.slice A1_1 l1_1.length c1_1] 28 (0,0)) (pe_ BK339.out) hb);have n2_:=Aside0.mk (blk_below (g:=gb340) (o:=.cells #[.int .i64 0,.slice none 0 0] 28 (0,0)) (pe_ BK340.out) hb);have n3_:=Aside0.mk (below_step (be3_ HB.out GE338.out GE339.out GE340.out) hb);clear BK338;clear BK339;clear BK340;clear HB;have BK338:=n0_;have BK339:=n1_;have BK340:=n2_;have HB:=n3_;clear n0_ n1_ n2_ n3_;(try clear hb);(try clear hb2);(try clear hk);(try clear hi);have hnb44:=NB339_340.out;have hnc44:=NB340_339.out;have hcz45_0 : w43.cell? ⟨gb339,0,none⟩ = some (.int .i64 a1_0):=(blk_cell BK339.out 0).trans rfl;have hcz45_1 : w43.cell? ⟨gb339,1,none⟩ = some (.slice A1_1 l1_1.length c1_1):=(blk_cell BK339.out 1).trans rfl;have hfz45_0:=blk_frozen BK339.out 0;have hfz45_1:=blk_frozen BK339.out 1)|(go_at_call 65;(with_reducible refine (spec_GradesValid.calls k a1_0 _ _ l1_1 false _ ?side1 ?side2 A5.out).mono ?_);(case side1 => repeat (first|exact (Kd.C_below HR1_1.out HB.out)|(with_reducible refine Kd.C_alloc ?_ _)|(with_reducible refine Kd.C_drewN ?_ _)|(with_reducible refine Kd.C_drew ?_)));(case side2 => exact HC1_1.out);rintro e w46 ⟨rfl,hb⟩;have n0_:=Aside0.mk (blk_below (g:=gb338) (o:=.cells #[.int .i64 a0_0,.slice A0_1 l0_1.length c0_1] 28 (0,0)) (pe_ BK338.out) hb);have n1_:=Aside0.mk (blk_below (g:=gb339) (o:=.cells #[.int .i64 a1_0,.slice A1_1 l1_1.length c1_1] 28 (0,0)) (pe_ BK339.out) hb);have n2_:=Aside0.mk (blk_below (g:=gb340) (o:=.cells #[.int .i64 0,.slice none 0 0] 28 (0,0)) (pe_ BK340.out) hb);have n3_:=Aside0.mk (below_step (be3_ HB.out GE338.out GE339.out GE340.out) hb);clear BK338;clear BK339;clear BK340;clear HB;have BK338:=n0_;have BK339:=n1_;have BK340:=n2_;have HB:=n3_;clear n0_ n1_ n2_ n3_;(try clear hb);(try clear hb2);(try clear hk);(try clear hi);have hcz47_0 : w46.cell? ⟨gb340,0,none⟩ = some (.int .i64 0):=(blk_cell BK340.out 0).trans rfl;have hcz47_1 : w46.cell? ⟨gb340,1,none⟩ = some (.slice none 0 0):=(blk_cell BK340.out 1).trans rfl;have hfz47_0:=blk_frozen BK340.out 0;have hfz47_1:=blk_frozen BK340.out 1))
   refine bodyPost_ret (results_ct rfl _ _ gb340 28 #[.int .i64 0,.slice none 0 0] (0,0) _ rfl (by refine pe_ ?_;refine blk_put (cs:=#[.int .i64 0,.slice none 0 0]) ?_ 1 _ rfl;refine pe_ ?_;refine blk_put (cs:=#[.int .i64 0,.slice none 0 0]) ?_ 0 _ rfl;refine pe_ ?_;exact BK340.out) Try.underlying28 rfl (by kernel_rfl)) rfl ?_
   exact ⟨_,by first|rfl|(simp [errW_none,errW_some] <;> rfl)|(simp [*,errW_none,errW_some] <;> rfl),by first|exact Kd.R_nil _ _ _ _ _|exact Kd.N_nil _ _ _ _ _|exact Kd.V_nil _ _ _ _ _|exact Kd.Q_nil _ _ _ _ _|exact Kd.S_nil _ _ _ _ _,be3_ HB.out GE338.out GE339.out GE340.out⟩
 ·replace c4:=Bool.eq_false_iff.mpr c4
  subst c4
  have H1 : (some (0,([] : List Int),false)) = some (r1,r2,r3):=by rw [if_neg (show ¬ (false = true) by decide)] at H;exact H
  clear H
  have H:=H1
  clear H1
  simp only [Option.some.injEq,Prod.mk.injEq] at H
  obtain ⟨rfl,rfl,rfl⟩:=H
  go_enter Try.func26,Try.ntmps26
  go_wp2_with (first|((with_reducible refine gate_dst (N:=2) rfl ?_);refine box_event ?hg (N:=2) ?hd (cs:=#[.int .i64 a0_0,.slice A0_1 l0_1.length c0_1]) (t:=28) ?hr ?_;(case hd => rfl);(case hg => rfl);(case hr => first|(go_simp;done)|(go_simp;rfl));intro gb338 hg w48 hbox hb;have n0_:=Aside0.mk (below_step (be0_ HB.out) hb);have n1_:=Aside0.mk (hbox);have n2_:=Aside0.mk ((by rw [hg];exact (below_size (be0_ HB.out)) : w.heap.size ≤ gb338));have n3_:=Aside0.mk ((by rw [hg];exact (below_size (be0_ HB.out)) : w.heap.size ≤ gb338));clear HB;have HB:=n0_;have BK338:=n1_;have GW338:=n2_;have GE338:=n3_;clear n0_ n1_ n2_ n3_;clear hb hbox hg)|((with_reducible refine gate_dst (N:=3) rfl ?_);refine box_event ?hg (N:=3) ?hd (cs:=#[.int .i64 a1_0,.slice A1_1 l1_1.length c1_1]) (t:=28) ?hr ?_;(case hd => rfl);(case hg => rfl);(case hr => first|(go_simp;done)|(go_simp;rfl));intro gb339 hg w49 hbox hb;have n0_:=Aside0.mk (blk_below (g:=gb338) (o:=.cells #[.int .i64 a0_0,.slice A0_1 l0_1.length c0_1] 28 (0,0)) (pe_ BK338.out) hb);have n1_:=Aside0.mk (below_step (be1_ HB.out GE338.out) hb);have n2_:=Aside0.mk (hbox);have n3_:=Aside0.mk ((by rw [hg];exact (below_size (be1_ HB.out GE338.out)) : w.heap.size ≤ gb339));have n4_:=Aside0.mk ((by rw [hg];exact (below_size (be1_ HB.out GE338.out)) : w.heap.size ≤ gb339));have n5_:=Aside0.mk ((by rw [hg];exact Nat.ne_of_lt (blk_lt (g:=gb338) (o:=.cells #[.int .i64 a0_0,.slice A0_1 l0_1.length c0_1] 28 (0,0)) (pe_ BK338.out)) : gb338 ≠ gb339));have n6_:=Aside0.mk ((by rw [hg];exact Nat.ne_of_gt (blk_lt (g:=gb338) (o:=.cells #[.int .i64 a0_0,.slice A0_1 l0_1.length c0_1] 28 (0,0)) (pe_ BK338.out)) : gb339 ≠ gb338));clear BK338;clear HB;have BK338:=n0_;have HB:=n1_;have BK339:=n2_;have GW339:=n3_;have GE339:=n4_;have NB338_339:=n5_;have NB339_338:=n6_;clear n0_ n1_ n2_ n3_ n4_ n5_ n6_;clear hb hbox hg)|((with_reducible refine gate_dst (N:=4) rfl ?_);refine box_event ?hg (N:=4) ?hd (cs:=#[.int .i64 0,.slice none 0 0]) (t:=28) ?hr ?_;(case hd => rfl);(case hg => rfl);(case hr => first|(go_simp;done)|(go_simp;rfl));intro gb340 hg w50 hbox hb;have n0_:=Aside0.mk (blk_below (g:=gb338) (o:=.cells #[.int .i64 a0_0,.slice A0_1 l0_1.length c0_1] 28 (0,0)) (pe_ BK338.out) hb);have n1_:=Aside0.mk (blk_below (g:=gb339) (o:=.cells #[.int .i64 a1_0,.slice A1_1 l1_1.length c1_1] 28 (0,0)) (pe_ BK339.out) hb);have n2_:=Aside0.mk (below_step (be2_ HB.out GE338.out GE339.out) hb);have n3_:=Aside0.mk (hbox);have n4_:=Aside0.mk ((by rw [hg];exact (below_size (be2_ HB.out GE338.out GE339.out)) : w.heap.size ≤ gb340));have n5_:=Aside0.mk ((by rw [hg];exact (below_size (be2_ HB.out GE338.out GE339.out)) : w.heap.size ≤ gb340));have n6_:=Aside0.mk ((by rw [hg];exact Nat.ne_of_lt (blk_lt (g:=gb338) (o:=.cells #[.int .i64 a0_0,.slice A0_1 l0_1.length c0_1] 28 (0,0)) (pe_ BK338.out)) : gb338 ≠ gb340));have n7_:=Aside0.mk ((by rw [hg];exact Nat.ne_of_gt (blk_lt (g:=gb338) (o:=.cells #[.int .i64 a0_0,.slice A0_1 l0_1.length c0_1] 28 (0,0)) (pe_ BK338.out)) : gb340 ≠ gb338));have n8_:=Aside0.mk ((by rw [hg];exact Nat.ne_of_lt (blk_lt (g:=gb339) (o:=.cells #[.int .i64 a1_0,.slice A1_1 l1_1.length c1_1] 28 (0,0)) (pe_ BK339.out)) : gb339 ≠ gb340));have n9_:=Aside0.mk ((by rw [hg];exact Nat.ne_of_gt (blk_lt (g:=gb339) (o:=.cells #[.int .i64 a1_0,.slice A1_1 l1_1.length c1_1] 28 (0,0)) (pe_ BK339.out)) : gb340 ≠ gb339));clear BK338;clear BK339;clear HB;have BK338:=n0_;have BK339:=n1_;have HB:=n2_;have BK340:=n3_;have GW340:=n4_;have GE340:=n5_;have NB338_340:=n6_;have NB340_338:=n7_;have NB339_340:=n8_;have NB340_339:=n9_;clear n0_ n1_ n2_ n3_ n4_ n5_ n6_ n7_ n8_ n9_;clear hb hbox hg;have hnb51:=NB338_339.out;have hnc51:=NB339_338.out;have hnb52:=NB338_340.out;have hnc52:=NB340_338.out;have hcz53_0 : w50.cell? ⟨gb338,0,none⟩ = some (.int .i64 a0_0):=(blk_cell BK338.out 0).trans rfl;have hcz53_1 : w50.cell? ⟨gb338,1,none⟩ = some (.slice A0_1 l0_1.length c0_1):=(blk_cell BK338.out 1).trans rfl;have hfz53_0:=blk_frozen BK338.out 0;have hfz53_1:=blk_frozen BK338.out 1)|((with_reducible refine gate_callee (f:=65) rfl ?_);refine goesL_ (some 7) rfl rfl Try.func65 (by kernel_rfl) rfl #[.agg #[.int .i64 a0_0,.slice A0_1 l0_1.length c0_1]] rfl lp_ ?_;(with_reducible refine (spec_GradesValid.calls k a0_0 _ _ l0_1 false _ ?side1 ?side2 A3.out).mono ?_);(case side1 => repeat (first|exact (Kd.C_below HR0_1.out HB.out)|(with_reducible refine Kd.C_alloc ?_ _)|(with_reducible refine Kd.C_drewN ?_ _)|(with_reducible refine Kd.C_drew ?_)));(case side2 => exact HC0_1.out);rintro e w54 ⟨rfl,hb⟩;refine ⟨_,rfl,?_⟩;have n0_:=Aside0.mk (blk_below (g:=gb338) (o:=.cells #[.int .i64 a0_0,.slice A0_1 l0_1.length c0_1] 28 (0,0)) (pe_ BK338.out) hb);have n1_:=Aside0.mk (blk_below (g:=gb339) (o:=.cells #[.int .i64 a1_0,.slice A1_1 l1_1.length c1_1] 28 (0,0)) (pe_ BK339.out) hb);have n2_:=Aside0.mk (blk_below (g:=gb340) (o:=.cells #[.int .i64 0,.slice none 0 0] 28 (0,0)) (pe_ BK340.out) hb);have n3_:=Aside0.mk (below_step (be3_ HB.out GE338.out GE339.out GE340.out) hb);clear BK338;clear BK339;clear BK340;clear HB;have BK338:=n0_;have BK339:=n1_;have BK340:=n2_;have HB:=n3_;clear n0_ n1_ n2_ n3_;(try clear hb);(try clear hb2);(try clear hk);(try clear hi);have hnb55:=NB340_339.out;have hnc55:=NB339_340.out;have hcz56_0 : w54.cell? ⟨gb340,0,none⟩ = some (.int .i64 0):=(blk_cell BK340.out 0).trans rfl;have hcz56_1 : w54.cell? ⟨gb340,1,none⟩ = some (.slice none 0 0):=(blk_cell BK340.out 1).trans rfl;have hfz56_0:=blk_frozen BK340.out 0;have hfz56_1:=blk_frozen BK340.out 1))
  refine bodyPost_ret (results_ct rfl _ _ gb340 28 #[.int .i64 0,.slice none 0 0] (0,0) _ rfl (by refine pe_ ?_;refine blk_put (cs:=#[.int .i64 0,.slice none 0 0]) ?_ 1 _ rfl;refine pe_ ?_;refine blk_put (cs:=#[.int .i64 0,.slice none 0 0]) ?_ 0 _ rfl;refine pe_ ?_;exact BK340.out) Try.underlying28 rfl (by kernel_rfl)) rfl ?_
  exact ⟨_,by first|rfl|(simp [errW_none,errW_some] <;> rfl)|(simp [*,errW_none,errW_some] <;> rfl),by first|exact Kd.R_nil _ _ _ _ _|exact Kd.N_nil _ _ _ _ _|exact Kd.V_nil _ _ _ _ _|exact Kd.Q_nil _ _ _ _ _|exact Kd.S_nil _ _ _ _ _,be3_ HB.out GE338.out GE339.out GE340.out⟩
end Go.Proofs.Ytengegdaiphfeaa.X
end
section
namespace Go.Proofs.Ytengegdaiphfeaa.Y
open Go.RowKit Go.Proofs.Ytengegdaiphfeaa.X Go.Proofs.YtengegdaiphfeaaW.PrintWords Go.Proofs.YtengegdaiphfeaaW.PrintLast Go.Proofs.YtengegdaiphfeaaW.PrintMore
set_option linter.unusedVariables false
set_option linter.unusedSimpArgs false
def okCost (x : Int) : Bool:=decide (0 ≤ x ∧ x ≤ 1000000)
def MV (n : Int) (l : List Int) : Prop:=1 ≤ n ∧ n ≤ 4 ∧ (l.length : Int) = n * n ∧ ∀ x ∈ l,0 ≤ x ∧ x ≤ 1000000
def GV (n : Int) (l : List Int) : Prop:=MV n l ∧ ∀ x ∈ l,x ≤ 3
instance (n : Int) (l : List Int) : Decidable (MV n l):=by unfold MV;infer_instance
instance (n : Int) (l : List Int) : Decidable (GV n l):=by unfold GV;infer_instance
theorem icost (a : Int) : impl_CostValid.f a = some (okCost a):=by
 unfold impl_CostValid.f okCost
 by_cases h : a ≥ 0
 ·rw [if_pos h];by_cases h2 : a ≤ 1000000 <;> simp [h2] <;> omega
 ·rw [if_neg h];simp;omega
theorem scost (a : Int) : spec_CostValid.f a = some (okCost a):=by
 unfold spec_CostValid.f spec_l1In.f okCost
 by_cases h : a ≥ 0
 ·rw [if_pos h];by_cases h2 : a ≤ 1000000 <;> simp [h2] <;> omega
 ·rw [if_neg h];simp;omega
theorem sIn (a lo hi : Int) : spec_l1In.f a lo hi = some (decide (lo ≤ a ∧ a ≤ hi)):=by
 unfold spec_l1In.f
 by_cases h : a ≥ lo
 ·rw [if_pos h];by_cases h2 : a ≤ hi <;> simp [h2] <;> omega
 ·rw [if_neg h];simp;omega
theorem index_ev (q : Int → Bool) (p : Int → Option Bool) (hp : ∀ x,p x = some (q x)) (l : List Int) (h : l.length ≤ maxLen) :
  Ev (fun k => slices_ContainsFunc_int_int.f p k l) (l.any q):=by
 rw [maxLen_eq] at h
 have go : ∀ (t pre : List Int),l = pre ++ t → ∃ z : Int,Ev (fun k => slices_IndexFunc_int_int.l0 p k l (l.length : Int) (pre.length : Int)) z ∧ decide (z ≥ 0) = t.any q:=by
  intro t
  induction t with
  | nil =>
   intro pre hl
   refine ⟨-1,?_,rfl⟩
   refine Ev.step (f:=fun _ => some (-1)) (fun k => ?_) (Ev.now _)
   simp only [slices_IndexFunc_int_int.l0]
   rw [if_neg (by rw [hl];simp)]
  | cons x t ih =>
   intro pre hl
   have hlen : l.length = pre.length + (t.length + 1):=by rw [hl];simp
   have hx : rd l (pre.length : Int) = x:=by rw [hl,rd_mid]
   cases hq : q x with
   | true =>
    refine ⟨pre.length,?_,by simp [hq]⟩
    refine Ev.step (f:=fun _ => some (pre.length : Int)) (fun k => ?_) (Ev.now _)
    simp only [slices_IndexFunc_int_int.l0]
    rw [if_pos (by omega),if_pos (by omega),if_pos (by omega),hx,hp,hq,Option.bind_some,if_pos rfl]
   | false =>
    obtain ⟨z,hz,hd⟩:=ih (pre ++ [x]) (by simp [hl])
    refine ⟨z,?_,by simp [hq,hd]⟩
    refine Ev.step (fun k => ?_) hz
    simp only [slices_IndexFunc_int_int.l0]
    rw [if_pos (by omega),if_pos (by omega),if_pos (by omega),hx,hp,hq,Option.bind_some,if_neg (by simp),w64 (by omega) (by omega),snoc_len]
 obtain ⟨z,hz,hd⟩:=go l [] rfl
 refine Ev.congr (f:=?f1) (fun k => ?h1) ?k1
 case h1 => unfold slices_ContainsFunc_int_int.f slices_IndexFunc_int_int.f;exact rfl
 exact Ev.bind hz (Ev.congr (f:=fun _ => some (l.any q)) (fun k => by rw [hd]) (Ev.now _))
theorem iMV (n : Int) (l : List Int) (hl : l.length ≤ maxLen) : Ev (fun k => impl_MatrixValid.f k n l) (decide (MV n l)):=by
 have no : ∀ f : Nat → Option Bool,(∀ k,f k = some false) → ¬ MV n l → Ev f (decide (MV n l)):=fun f h h2 => (ev_some h).is (by rw [decide_eq_false h2])
 by_cases h1 : n < 1
 ·exact no _ (fun k => by unfold impl_MatrixValid.f;rw [if_pos h1]) (fun h => by unfold MV at h;omega)
 by_cases h2 : n > 4
 ·exact no _ (fun k => by unfold impl_MatrixValid.f;rw [if_neg h1,if_pos h2]) (fun h => by unfold MV at h;omega)
 have hnn : 0 ≤ n * n ∧ n * n ≤ 16:=by
  have : n = 1 ∨ n = 2 ∨ n = 3 ∨ n = 4:=by omega
  rcases this with rfl|rfl|rfl|rfl <;> omega
 by_cases h3 : (l.length : Int) = wrap64 (n * n)
 ·rw [w64 (by omega) (by omega)] at h3
  refine Ev.congr (f:=?f2) (fun k => ?h2) ?k2
  case h2 => unfold impl_MatrixValid.f;rw [if_neg h1,if_neg h2,w64 (x:=n * n) (by omega) (by omega),if_pos h3] <;> exact rfl
  have hq : ∀ x,impl_MatrixValid_1.f x = some (!(okCost x)):=fun x => by unfold impl_MatrixValid_1.f;rw [icost];rfl
  refine Ev.bind (index_ev (fun x => !(okCost x)) _ hq l hl) ?_
  refine (ev_some (fun k => rfl)).is ?_
  rw [Bool.eq_iff_iff]
  simp only [Bool.not_eq_true',List.any_eq_false,Bool.not_eq_true',Bool.not_eq_false,decide_eq_true_eq]
  constructor
  ·intro h;exact ⟨by omega,by omega,h3,fun x hx => by simpa [okCost] using h x hx⟩
  ·intro h x hx;simpa [okCost] using h.2.2.2 x hx
 ·refine no _ (fun k => by unfold impl_MatrixValid.f;rw [if_neg h1,if_neg h2,if_neg h3]) (fun h => ?_)
  rw [w64 (by omega) (by omega)] at h3
  exact h3 h.2.2.1
theorem iGV (n : Int) (l : List Int) (hl : l.length ≤ maxLen) : Ev (fun k => impl_GradesValid.f k n l) (decide (GV n l)):=by
 refine Ev.congr (f:=?f3) (fun k => ?h3) ?k3
 case h3 => unfold impl_GradesValid.f;exact rfl
 refine Ev.bind (iMV n l hl) ?_
 by_cases h : MV n l
 ·refine Ev.congr (f:=?f4) (fun k => ?h4) ?k4
  case h4 => rw [decide_eq_true h,if_pos rfl] <;> exact rfl
  refine Ev.bind (index_ev (fun x => decide (x > 3)) _ (fun x => rfl) l hl) ?_
  refine (ev_some (fun k => rfl)).is ?_
  rw [Bool.eq_iff_iff]
  simp only [Bool.not_eq_true',List.any_eq_false,decide_eq_true_eq]
  exact ⟨fun g => ⟨h,fun x hx => by have:=g x hx;omega⟩,fun g x hx => by have:=g.2 x hx;omega⟩
 ·refine (ev_some (fun k => ?_)).is (by rw [decide_eq_false (fun g : GV n l => h g.1)])
  rw [decide_eq_false h];rfl
theorem sAll_ev (l : List Int) (h : l.length ≤ maxLen) : Ev (fun k => spec_l1All.f k l) (l.all okCost):=by
 rw [maxLen_eq] at h
 have go : ∀ (t pre : List Int),l = pre ++ t → Ev (fun k => spec_l1All.l0 k l (l.length : Int) (pre.length : Int)) (t.all okCost):=by
  intro t
  induction t with
  | nil =>
   intro pre hl
   refine Ev.step (f:=fun _ => some true) (fun k => ?_) (Ev.now _)
   simp only [spec_l1All.l0];rw [if_neg (by rw [hl];simp)]
  | cons x t ih =>
   intro pre hl
   have hlen : l.length = pre.length + (t.length + 1):=by rw [hl];simp
   have hx : rd l (pre.length : Int) = x:=by rw [hl,rd_mid]
   cases hq : okCost x with
   | true =>
    refine Ev.step (fun k => ?_) ((ih (pre ++ [x]) (by simp [hl])).is (by simp [hq]))
    simp only [spec_l1All.l0]
    rw [if_pos (by omega),if_pos (by omega),if_pos (by omega),hx,scost,hq,Option.bind_some,if_pos rfl,w64 (by omega) (by omega),snoc_len]
   | false =>
    refine Ev.step (f:=fun _ => some false) (fun k => ?_) ((Ev.now _).is (by simp [hq]))
    simp only [spec_l1All.l0]
    rw [if_pos (by omega),if_pos (by omega),if_pos (by omega),hx,scost,hq,Option.bind_some,if_neg (by simp)]
 exact go l [] rfl
theorem sMV (n : Int) (l : List Int) (hl : l.length ≤ maxLen) : Ev (fun k => spec_MatrixValid.f k n l) (decide (MV n l)):=by
 have no : ∀ f : Nat → Option Bool,(∀ k,f k = some false) → ¬ MV n l → Ev f (decide (MV n l)):=fun f h h2 => (ev_some h).is (by rw [decide_eq_false h2])
 by_cases h1 : 1 ≤ n ∧ n ≤ 4
 ·have hnn : 0 ≤ n * n ∧ n * n ≤ 16:=by
   have : n = 1 ∨ n = 2 ∨ n = 3 ∨ n = 4:=by omega
   rcases this with rfl|rfl|rfl|rfl <;> omega
  by_cases h3 : (l.length : Int) = n * n
  ·refine Ev.congr (f:=?f5) (fun k => ?h5) ?k5
   case h5 => unfold spec_MatrixValid.f;rw [sIn,decide_eq_true h1,Option.bind_some,if_pos rfl,w64 (x:=n * n) (by omega) (by omega),if_pos h3] <;> exact rfl
   refine Ev.bind (sAll_ev l hl) ((ev_some (fun k => rfl)).is ?_)
   rw [Bool.eq_iff_iff]
   simp only [List.all_eq_true,decide_eq_true_eq]
   exact ⟨fun g => ⟨h1.1,h1.2,h3,fun x hx => by simpa [okCost] using g x hx⟩,fun g x hx => by simpa [okCost] using g.2.2.2 x hx⟩
  ·exact no _ (fun k => by unfold spec_MatrixValid.f;rw [sIn,decide_eq_true h1,Option.bind_some,if_pos rfl,w64 (x:=n * n) (by omega) (by omega),if_neg h3]) (fun h => h3 h.2.2.1)
 ·exact no _ (fun k => by unfold spec_MatrixValid.f;rw [sIn,decide_eq_false h1];rfl) (fun h => h1 ⟨h.1,h.2.1⟩)
theorem sGV (n : Int) (l : List Int) (hl : l.length ≤ maxLen) : Ev (fun k => spec_GradesValid.f k n l) (decide (GV n l)):=by
 have hm:=hl
 rw [maxLen_eq] at hm
 have go : ∀ (t pre : List Int),l = pre ++ t → Ev (fun k => spec_GradesValid.l0 k l (l.length : Int) (pre.length : Int) n l) (decide ((∀ x ∈ t,0 ≤ x ∧ x ≤ 3) ∧ MV n l)):=by
  intro t
  induction t with
  | nil =>
   intro pre hp
   refine Ev.step (f:=?f6) (fun k => ?h6) ?k6
   case h6 => simp only [spec_GradesValid.l0];rw [if_neg (by rw [hp];simp)] <;> exact rfl
   exact Ev.bind (sMV n l hl) ((ev_some (fun k => rfl)).is (by simp))
  | cons x t ih =>
   intro pre hp
   have hlen : l.length = pre.length + (t.length + 1):=by rw [hp];simp
   have hx : rd l (pre.length : Int) = x:=by rw [hp,rd_mid]
   by_cases hq : 0 ≤ x ∧ x ≤ 3
   ·refine Ev.step (fun k => ?_) ((ih (pre ++ [x]) (by simp [hp])).is ?_)
    ·simp only [spec_GradesValid.l0]
     rw [if_pos (by omega),if_pos (by omega),if_pos (by omega),hx,sIn,decide_eq_true hq,Option.bind_some,if_pos rfl,w64 (by omega) (by omega),snoc_len]
    ·simp [hq.1,hq.2]
   ·refine Ev.step (f:=fun _ => some false) (fun k => ?_) ((Ev.now _).is ?_)
    ·simp only [spec_GradesValid.l0]
     rw [if_pos (by omega),if_pos (by omega),if_pos (by omega),hx,sIn,decide_eq_false hq,Option.bind_some,if_neg (by simp)]
    ·symm;rw [decide_eq_false_iff_not];intro h;exact hq (h.1 x (by simp))
 refine (go l [] rfl).is ?_
 rw [Bool.eq_iff_iff]
 simp only [decide_eq_true_eq]
 exact ⟨fun h => ⟨h.2,fun x hx => (h.1 x hx).2⟩,fun h => ⟨fun x hx => ⟨(h.1.2.2.2 x hx).1,h.2 x hx⟩,h.1⟩⟩
end Go.Proofs.Ytengegdaiphfeaa.Y
end
section
namespace Go.Proofs.Ytengegdaiphfeaa.Y
open Go.RowKit Go.Proofs.Ytengegdaiphfeaa.X Go.Proofs.YtengegdaiphfeaaW.PrintWords Go.Proofs.YtengegdaiphfeaaW.PrintLast Go.Proofs.YtengegdaiphfeaaW.PrintMore
set_option linter.unusedVariables false
set_option linter.unusedSimpArgs false
theorem div_mod_at (n i k : Nat) (hk : k < n) : (i * n + k) / n = i ∧ (i * n + k) % n = k:=by
 have hn : 0 < n:=by omega
 constructor
 ·rw [Nat.mul_comm,Nat.mul_add_div hn,Nat.div_eq_of_lt hk,Nat.add_zero]
 ·rw [Nat.mul_comm,Nat.mul_add_mod,Nat.mod_eq_of_lt hk]
theorem cell_lt (n i k : Nat) (hi : i < n) (hk : k < n) : i * n + k < n * n:=by
 have : (i + 1) * n ≤ n * n:=Nat.mul_le_mul_right n hi
 rw [Nat.succ_mul] at this
 omega
theorem sq_le (n : Nat) (h : n ≤ 4) : n * n ≤ 16:=by
 have:=Nat.mul_le_mul h h
 omega
theorem row_le (n i : Nat) (hn : n ≤ 4) (hi : i ≤ n) : i * n ≤ 16:=by
 have:=Nat.mul_le_mul (Nat.le_trans hi hn) hn
 omega
def cutF (n : Nat) (g : Nat → Nat → Int) : Int → Int → Option Int:=fun i k => if 0 ≤ i ∧ i < n ∧ 0 ≤ k ∧ k < n then some (g i.toNat k.toNat) else none
theorem cutF_at (n : Nat) (g : Nat → Nat → Int) (i k : Nat) (hi : i < n) (hk : k < n) : cutF n g (i : Int) (k : Int) = some (g i k):=by
 unfold cutF;rw [if_pos (by omega)];simp
def sqL (n : Nat) (g : Nat → Nat → Int) : List Int:=tab (n * n) (fun m => g (m / n) (m % n))
theorem sqL_get (n : Nat) (g : Nat → Nat → Int) (i k : Nat) (hi : i < n) (hk : k < n) : (sqL n g).getD (i * n + k) 0 = g i k:=by
 unfold sqL
 rw [tab_get _ _ _ (cell_lt n i k hi hk)]
 obtain ⟨h1,h2⟩:=div_mod_at n i k hk
 rw [h1,h2]
theorem sqL_congr (n : Nat) (g h : Nat → Nat → Int) (e : ∀ i k,i < n → k < n → g i k = h i k) : sqL n g = sqL n h:=by
 refine tab_congr _ _ _ (fun j hj => e _ _ (Nat.div_lt_of_lt_mul hj) (Nat.mod_lt _ ?_))
 rcases n with _|n
 ·simp at hj
 ·omega
theorem eq_sqL (n : Nat) (l : List Int) (h : l.length = n * n) : l = sqL n (fun i k => l.getD (i * n + k) 0):=by
 refine (eq_tab l _ h).trans (tab_congr _ _ _ (fun j _ => ?_))
 show l.getD j 0 = l.getD (j / n * n + j % n) 0
 rw [Nat.mul_comm,Nat.div_add_mod]
theorem filled_cut (n : Nat) (hn : n ≤ 4) (g : Nat → Nat → Int) : Ev (fun j => impl_filled.f (cutF n g) j (n : Int)) ((n : Int),sqL n g):=by
 have inner : ∀ (i : Nat) (r : Int × List Int),i < n → Ev (fun j => impl_filled.l0 (cutF n g) j n n ((i + 1 : Nat) : Int) n (tab ((i + 1) * n) (fun m => g (m / n) (m % n)))) r →
   Ev (fun j => impl_filled.l0 (cutF n g) j n n (i : Int) n (tab (i * n) (fun m => g (m / n) (m % n)))) r:=by
  intro i r hi h
  refine Ev.step (f:=fun j => impl_filled.l1 (cutF n g) j n i n i n ((0 : Nat) : Int) n (tab (i * n + 0) (fun m => g (m / n) (m % n)))) (fun k => ?_) ?_
  ·simp only [impl_filled.l0];rw [if_pos (by omega)];rfl
  refine up_loop n (fun k j => impl_filled.l1 (cutF n g) j n i n i n (k : Int) n (tab (i * n + k) (fun m => g (m / n) (m % n)))) r (fun k hk hs => ?_) ?_
  ·refine Ev.step (fun j => ?_) hs
   simp only [impl_filled.l1]
   have hr:=row_le n i hn (by omega)
   obtain ⟨h1,h2⟩:=div_mod_at n i k hk
   rw [if_pos (by omega),cutF_at n g i k hi hk,Option.bind_some,tab_length,if_pos (by omega),w64 (by omega) (by omega)]
   have e : tab (i * n + k) (fun m => g (m / n) (m % n)) ++ [g i k] = tab (i * n + (k + 1)) (fun m => g (m / n) (m % n)):=by
    rw [← Nat.add_assoc,← tab_snoc,h1,h2]
   rw [e];rfl
  ·refine Ev.step (fun j => ?_) h
   simp only [impl_filled.l1]
   rw [if_neg (by omega),w64 (by omega) (by omega),Nat.succ_mul];rfl
 refine Ev.congr (f:=fun j => impl_filled.l0 (cutF n g) j n n ((0 : Nat) : Int) n (tab (0 * n) (fun m => g (m / n) (m % n)))) (fun k => ?_) ?_
 ·unfold impl_filled.f;simp [tab]
 refine up_loop n (fun i j => impl_filled.l0 (cutF n g) j n n (i : Int) n (tab (i * n) (fun m => g (m / n) (m % n)))) _ (fun i hi hs => inner i _ hi hs) ?_
 refine Ev.step (f:=fun _ => some ((n : Int),sqL n g)) (fun j => ?_) (Ev.now _)
 simp only [impl_filled.l0]
 rw [if_neg (by omega)];rfl
theorem filled_ev (n : Nat) (hn : n ≤ 4) (g : Nat → Nat → Int) (p : Nat → Int → Int → Option Int) (h : ∀ i,i < n → ∀ k,k < n → Ev (fun K => p K (i : Int) (k : Int)) (g i k)) :
  Ev (fun K => impl_filled.f (p K) K (n : Int)) ((n : Int),sqL n g):=by
 have h2 : ∀ i,i < n → ∃ K0,∀ K,K0 ≤ K → ∀ k,k < n → p K (i : Int) (k : Int) = some (g i k):=fun i hi => ev_all n (fun k hk => h i hi k hk)
 have h3 : ∃ K0,∀ K,K0 ≤ K → ∀ i,i < n → ∀ k,k < n → p K (i : Int) (k : Int) = some (g i k):=by
  have : ∀ m,m ≤ n → ∃ K0,∀ K,K0 ≤ K → ∀ i,i < m → ∀ k,k < n → p K (i : Int) (k : Int) = some (g i k):=by
   intro m
   induction m with
   | zero => intro _;exact ⟨0,fun _ _ i hi => by omega⟩
   | succ m ih =>
    intro hm
    obtain ⟨a,ha⟩:=ih (by omega)
    obtain ⟨b,hb⟩:=h2 m (by omega)
    refine ⟨max a b,fun K hK i hi k hk => ?_⟩
    by_cases e : i = m
    ·subst e;exact hb K (by omega) k hk
    ·exact ha K (by omega) i (by omega) k hk
  exact this n (Nat.le_refl _)
 obtain ⟨K0,hK0⟩:=h3
 refine ev_up (f:=fun j => impl_filled.f (cutF n g) j (n : Int)) (p:=fun K j => impl_filled.f (p K) j (n : Int)) (filled_cut n hn g) ⟨K0,fun K hK j => ?_⟩ (fun K j => impl_filled.mono (p K) _ j)
 refine impl_filled.monoP (fun y0 y1 r hr => ?_) _ j
 unfold cutF at hr
 by_cases hc : 0 ≤ y0 ∧ y0 < n ∧ 0 ≤ y1 ∧ y1 < n
 ·rw [if_pos hc] at hr
  have e0 : ((y0.toNat : Nat) : Int) = y0:=by omega
  have e1 : ((y1.toNat : Nat) : Int) = y1:=by omega
  have:=hK0 K hK y0.toNat (by omega) y1.toNat (by omega)
  rw [e0,e1] at this
  rw [this];exact hr
 ·rw [if_neg hc] at hr;cases hr
theorem at_eq (n : Nat) (hn : n ≤ 4) (l : List Int) (hl : l.length = n * n) (i k : Nat) (hi : i < n) (hk : k < n) : impl_Matrix_at.f (n : Int) l (i : Int) (k : Int) = some (l.getD (i * n + k) 0):=by
 have hc:=cell_lt n i k hi hk
 have hr:=row_le n i hn (by omega)
 have e : wrap64 (wrap64 ((i : Int) * (n : Int)) + k) = ((i * n + k : Nat) : Int):=by
  have : (i : Int) * (n : Int) = ((i * n : Nat) : Int):=by simp
  rw [this,w64 (x:=((i * n : Nat) : Int)) (by omega) (by omega),w64 (by omega) (by omega)];simp
 unfold impl_Matrix_at.f
 rw [e,if_pos (by omega),if_pos (by omega),rd_nat]
def mulE (n : Nat) (a b : List Int) (i k : Nat) : Int:=(List.range n).foldl (fun acc l => mn acc (mx (a.getD (i * n + l) 0) (b.getD (l * n + k) 0))) 3
def mulL (n : Nat) (a b : List Int) : List Int:=sqL n (mulE n a b)
theorem mulL_length (n : Nat) (a b : List Int) : (mulL n a b).length = n * n:=by simp [mulL,sqL,tab_length]
theorem iMulCell (n : Nat) (hn : n ≤ 4) (a b : List Int) (ha : a.length = n * n) (hb : b.length = n * n) (i k : Nat) (hi : i < n) (hk : k < n) :
  Ev (fun K => impl_MulGrades_1.f K (i : Int) (k : Int) (n : Int) a (n : Int) b) (mulE n a b i k):=by
 refine up_loop n (fun l K => impl_MulGrades_1.l0 K i k ((List.range l).foldl (fun acc l => mn acc (mx (a.getD (i * n + l) 0) (b.getD (l * n + k) 0))) 3) n (l : Int) n a n b) _ (fun l hl hs => ?_) ?_
 ·refine Ev.step (fun j => ?_) hs
  simp only [impl_MulGrades_1.l0]
  rw [if_pos (by omega),at_eq n hn a ha i l hi hl,Option.bind_some,at_eq n hn b hb l k hl hk,Option.bind_some,w64 (by omega) (by omega),fold_snoc];rfl
 ·refine Ev.step (f:=fun _ => some (mulE n a b i k)) (fun j => ?_) (Ev.now _)
  simp only [impl_MulGrades_1.l0]
  rw [if_neg (by omega)];rfl
theorem GV_len {n : Nat} {l : List Int} (h : GV (n : Int) l) : l.length = n * n:=by
 have:=h.1.2.2.1
 exact_mod_cast this
theorem GV_le {n : Nat} {l : List Int} (h : GV (n : Int) l) : n ≤ 4 ∧ 1 ≤ n:=by
 have h1:=h.1.1
 have h2:=h.1.2.1
 omega
theorem GV_nat {n : Int} {l : List Int} (h : GV n l) : ∃ m : Nat,n = (m : Int):=⟨n.toNat,by have:=h.1.1;omega⟩
theorem iMul (n : Nat) (a b : List Int) (ha : GV n a) (hb : GV n b) : Ev (fun k => impl_MulGrades.f k n a n b) ((n : Int),mulL n a b,true):=by
 have hn:=(GV_le ha).1
 have hla:=GV_len ha
 have hlb:=GV_len hb
 have hs:=sq_le n hn
 have hm : ∀ l : List Int,l.length = n * n → l.length ≤ maxLen:=fun l h => by rw [maxLen_eq];omega
 refine Ev.congr (f:=?f1) (fun k => ?h1) ?k1
 case h1 => unfold impl_MulGrades.f;exact rfl
 refine Ev.bind (iGV n a (hm a hla)) ?_
 refine Ev.congr (f:=?f2) (fun k => ?h2) ?k2
 case h2 => rw [decide_eq_true ha,if_pos rfl] <;> exact rfl
 refine Ev.bind (iGV n b (hm b hlb)) ?_
 refine Ev.congr (f:=?f3) (fun k => ?h3) ?k3
 case h3 => rw [decide_eq_true hb,if_pos rfl,if_pos rfl] <;> exact rfl
 refine Ev.bind (a:=((n : Int),mulL n a b)) ?_ (Ev.now _)
 exact filled_ev n hn (mulE n a b) (fun K y0 y1 => impl_MulGrades_1.f K y0 y1 n a n b) (fun i hi k hk => iMulCell n hn a b hla hlb i k hi hk)
def mulR (n : Int) (a : List Int) (m : Int) (b : List Int) : Int × List Int × Bool:=if GV n a ∧ GV m b ∧ n = m then (n,mulL n.toNat a b,true) else (0,[],false)
theorem iMul_any (n : Int) (a : List Int) (m : Int) (b : List Int) (ha : a.length ≤ maxLen) (hb : b.length ≤ maxLen) : Ev (fun k => impl_MulGrades.f k n a m b) (mulR n a m b):=by
 by_cases h : GV n a ∧ GV m b ∧ n = m
 ·obtain ⟨h1,h2,rfl⟩:=h
  obtain ⟨z,rfl⟩:=GV_nat h1
  refine (iMul z a b h1 h2).is ?_
  unfold mulR;rw [if_pos ⟨h1,h2,rfl⟩];rfl
 ·have hr : mulR n a m b = (0,[],false):=by unfold mulR;rw [if_neg h]
  rw [hr]
  refine Ev.congr (f:=?f4) (fun k => ?h4) ?k4
  case h4 => unfold impl_MulGrades.f;exact rfl
  refine Ev.bind (iGV n a ha) ?_
  by_cases h1 : GV n a
  ·refine Ev.congr (f:=?f5) (fun k => ?h5) ?k5
   case h5 => rw [decide_eq_true h1,if_pos rfl] <;> exact rfl
   refine Ev.bind (iGV m b hb) ?_
   by_cases h2 : GV m b
   ·exact ev_some (fun k => by rw [decide_eq_true h2,if_pos rfl,if_neg (fun e => h ⟨h1,h2,e⟩)])
   ·exact ev_some (fun k => by rw [decide_eq_false h2];rfl)
  ·exact ev_some (fun k => by rw [decide_eq_false h1];rfl)
theorem tdiv_nat (m n : Nat) : Int.tdiv (m : Int) (n : Int) = ((m / n : Nat) : Int):=by rw [Int.tdiv_eq_ediv_of_nonneg (by omega)];simp
theorem tmod_nat (m n : Nat) : Int.tmod (m : Int) (n : Int) = ((m % n : Nat) : Int):=by rw [Int.tmod_eq_emod_of_nonneg (by omega)];simp
theorem idx1 (n m l : Nat) (hn : n ≤ 4) (hi : m / n < n) (hl : l < n) : wrap64 (wrap64 (wrap64 (Int.tdiv (m : Int) (n : Int)) * (n : Int)) + l) = ((m / n * n + l : Nat) : Int):=by
 have r1:=row_le n (m / n) hn (by omega)
 rw [tdiv_nat]
 obtain ⟨q,hq⟩ : ∃ q : Nat,m / n = q:=⟨_,rfl⟩
 rw [hq] at hi r1 ⊢
 have h1 : ((q : Nat) : Int) * (n : Int) = ((q * n : Nat) : Int):=by simp
 obtain ⟨s,hs⟩ : ∃ s : Nat,q * n = s:=⟨_,rfl⟩
 rw [w64 (x:=((q : Nat) : Int)) (by omega) (by omega),h1]
 rw [hs] at r1 ⊢
 clear h1 hs hq
 rw [w64 (x:=((s : Nat) : Int)) (by omega) (by omega),w64 (by omega) (by omega)];simp
theorem idx2 (n m l : Nat) (hn : n ≤ 4) (hk : m % n < n) (hl : l < n) : wrap64 (wrap64 ((l : Int) * (n : Int)) + Int.tmod (m : Int) (n : Int)) = ((l * n + m % n : Nat) : Int):=by
 have r2:=row_le n l hn (by omega)
 rw [tmod_nat]
 obtain ⟨q,hq⟩ : ∃ q : Nat,m % n = q:=⟨_,rfl⟩
 rw [hq] at hk ⊢
 have h1 : (l : Int) * (n : Int) = ((l * n : Nat) : Int):=by simp
 obtain ⟨s,hs⟩ : ∃ s : Nat,l * n = s:=⟨_,rfl⟩
 rw [h1]
 rw [hs] at r2 ⊢
 clear h1 hs hq
 rw [w64 (x:=((s : Nat) : Int)) (by omega) (by omega),w64 (by omega) (by omega)];simp
theorem sMul (n : Nat) (hn : n ≤ 4) (h0 : 1 ≤ n) (a b : List Int) (hla : a.length = n * n) (hlb : b.length = n * n) : Ev (fun k => spec_l6Mul.f k n a n b) ((n : Int),mulL n a b):=by
 have hs:=sq_le n hn
 have e0 : wrap64 ((n : Int) * (n : Int)) = ((n * n : Nat) : Int):=by
  have : (n : Int) * (n : Int) = ((n * n : Nat) : Int):=by simp
  rw [this,w64 (by omega) (by omega)]
 refine Ev.congr (f:=fun k => spec_l6Mul.l0 k ((n * n : Nat) : Int) ((0 : Nat) : Int) n a n b n (tab 0 (fun m => mulE n a b (m / n) (m % n)))) (fun k => ?_) ?_
 ·unfold spec_l6Mul.f;rw [e0];simp [tab]
 refine up_loop (n * n) (fun m k => spec_l6Mul.l0 k ((n * n : Nat) : Int) (m : Int) n a n b n (tab m (fun m => mulE n a b (m / n) (m % n)))) _ (fun m hm hnext => ?_) ?_
 ·have hi : m / n < n:=Nat.div_lt_of_lt_mul hm
  have hk : m % n < n:=Nat.mod_lt _ (by omega)
  refine Ev.step (f:=fun k => spec_l6Mul.l1 k m ((List.range 0).foldl (fun acc l => mn acc (mx (a.getD (m / n * n + l) 0) (b.getD (l * n + m % n) 0))) 3) ((n * n : Nat) : Int) m n ((0 : Nat) : Int) n a n b n (tab m (fun m => mulE n a b (m / n) (m % n)))) (fun k => ?_) ?_
  ·simp only [spec_l6Mul.l0];rw [if_pos (by omega)];rfl
  refine up_loop n (fun l k => spec_l6Mul.l1 k m ((List.range l).foldl (fun acc l => mn acc (mx (a.getD (m / n * n + l) 0) (b.getD (l * n + m % n) 0))) 3) ((n * n : Nat) : Int) m n (l : Int) n a n b n (tab m (fun m => mulE n a b (m / n) (m % n)))) _ (fun l hl hs2 => ?_) ?_
  ·refine Ev.step (fun j => ?_) hs2
   have c1:=cell_lt n (m / n) l hi hl
   have c2:=cell_lt n l (m % n) hl hk
   have r1:=row_le n (m / n) hn (by omega)
   have r2:=row_le n l hn (by omega)
   have hA : (l : Int) < (n : Int):=by omega
   have hB : ¬ (n : Int) = 0:=by omega
   have hC : (((m / n * n + l : Nat)) : Int) < (a.length : Int):=by rw [hla];exact_mod_cast c1
   have hD : (((l * n + m % n : Nat)) : Int) < (b.length : Int):=by rw [hlb];exact_mod_cast c2
   have hE : wrap64 ((l : Int) + 1) = ((l + 1 : Nat) : Int):=by rw [w64 (by omega) (by omega)];rfl
   have e1:=idx1 n m l hn hi hl
   have e2:=idx2 n m l hn hk hl
   simp only [spec_l6Mul.l1]
   rw [if_pos hA,if_neg hB,e1,e2,if_pos (Int.natCast_nonneg _),if_pos hC,if_pos (Int.natCast_nonneg _),if_pos hD,rd_nat,rd_nat,hE,fold_snoc]
  ·refine Ev.step (fun j => ?_) hnext
   simp only [spec_l6Mul.l1]
   rw [if_neg (by omega),tab_length,if_pos (by omega),w64 (by omega) (by omega)]
   have e : tab m (fun m => mulE n a b (m / n) (m % n)) ++ [mulE n a b (m / n) (m % n)] = tab (m + 1) (fun m => mulE n a b (m / n) (m % n)):=tab_snoc m (fun m => mulE n a b (m / n) (m % n))
   show spec_l6Mul.l0 j _ _ _ _ _ _ _ (tab m (fun m => mulE n a b (m / n) (m % n)) ++ [mulE n a b (m / n) (m % n)]) = _
   rw [e];rfl
 ·refine Ev.step (f:=fun _ => some ((n : Int),mulL n a b)) (fun j => ?_) (Ev.now _)
  simp only [spec_l6Mul.l0]
  rw [if_neg (by omega)];rfl
theorem sMul_any (n : Int) (a : List Int) (m : Int) (b : List Int) (ha : a.length ≤ maxLen) (hb : b.length ≤ maxLen) : Ev (fun k => spec_MulGrades.f k n a m b) (mulR n a m b):=by
 refine Ev.congr (f:=?f6) (fun k => ?h6) ?k6
 case h6 => unfold spec_MulGrades.f;exact rfl
 refine Ev.bind (sGV n a ha) ?_
 by_cases h1 : GV n a
 ·refine Ev.congr (f:=?f7) (fun k => ?h7) ?k7
  case h7 => rw [decide_eq_true h1,if_pos rfl] <;> exact rfl
  refine Ev.bind (sGV m b hb) ?_
  by_cases h2 : GV m b
  ·by_cases e : n = m
   ·subst e
    obtain ⟨z,rfl⟩:=GV_nat h1
    refine Ev.congr (f:=?f8) (fun k => ?h8) ?k8
    case h8 => rw [decide_eq_true h2,if_pos rfl,if_pos rfl] <;> exact rfl
    refine Ev.bind (sMul z (GV_le h1).1 (GV_le h1).2 a b (GV_len h1) (GV_len h2)) ((Ev.now _).is ?_)
    unfold mulR;rw [if_pos ⟨h1,h2,rfl⟩];rfl
   ·refine ev_some (fun k => ?_)
    rw [decide_eq_true h2,if_pos rfl,if_neg e];unfold mulR;rw [if_neg (fun h => e h.2.2)]
  ·refine ev_some (fun k => ?_)
   rw [decide_eq_false h2,if_neg (by simp)];unfold mulR;rw [if_neg (fun h => h2 h.2.1)]
 ·refine ev_some (fun k => ?_)
  rw [decide_eq_false h1,if_neg (by simp)];unfold mulR;rw [if_neg (fun h => h1 h.1)]
end Go.Proofs.Ytengegdaiphfeaa.Y
end
section
namespace Go.Proofs.Ytengegdaiphfeaa.Y
open Go.RowKit Go.Proofs.Ytengegdaiphfeaa.X Go.Proofs.YtengegdaiphfeaaW.PrintWords Go.Proofs.YtengegdaiphfeaaW.PrintLast Go.Proofs.YtengegdaiphfeaaW.PrintMore
set_option linter.unusedVariables false
set_option linter.unusedSimpArgs false
theorem mn_le (x y t : Int) : mn x y ≤ t ↔ x ≤ t ∨ y ≤ t:=by unfold mn;by_cases h : y < x <;> simp only [h,if_true,if_false] <;> omega
theorem mx_le (x y t : Int) : mx x y ≤ t ↔ x ≤ t ∧ y ≤ t:=by unfold mx;by_cases h : x < y <;> simp only [h,if_true,if_false] <;> omega
theorem fold_le (n : Nat) (F : Nat → Int) (c t : Int) : (List.range n).foldl (fun acc l => mn acc (F l)) c ≤ t ↔ c ≤ t ∨ ∃ l,l < n ∧ F l ≤ t:=by
 induction n with
 | zero => simp
 | succ n ih =>
  rw [fold_snoc,mn_le,ih]
  constructor
  ·rintro ((h | ⟨l,h1,h2⟩)|h)
   ·exact Or.inl h
   ·exact Or.inr ⟨l,by omega,h2⟩
   ·exact Or.inr ⟨n,by omega,h⟩
  ·rintro (h | ⟨l,h1,h2⟩)
   ·exact Or.inl (Or.inl h)
   ·by_cases e : l = n
    ·subst e;exact Or.inr h2
    ·exact Or.inl (Or.inr ⟨l,by omega,h2⟩)
theorem mulE_le (n : Nat) (a b : List Int) (i k : Nat) (t : Int) : mulE n a b i k ≤ t ↔ 3 ≤ t ∨ ∃ l,l < n ∧ a.getD (i * n + l) 0 ≤ t ∧ b.getD (l * n + k) 0 ≤ t:=by
 unfold mulE
 rw [fold_le n (fun l => mx (a.getD (i * n + l) 0) (b.getD (l * n + k) 0)) 3 t]
 constructor
 ·rintro (h | ⟨l,h1,h2⟩)
  ·exact Or.inl h
  ·rw [mx_le] at h2;exact Or.inr ⟨l,h1,h2.1,h2.2⟩
 ·rintro (h | ⟨l,h1,h2,h3⟩)
  ·exact Or.inl h
  ·exact Or.inr ⟨l,h1,by rw [mx_le];exact ⟨h2,h3⟩⟩
theorem mulL_get (n : Nat) (a b : List Int) (i k : Nat) (hi : i < n) (hk : k < n) : (mulL n a b).getD (i * n + k) 0 = mulE n a b i k:=sqL_get n _ i k hi hk
theorem eq_of_le (x y : Int) (h : ∀ t,x ≤ t ↔ y ≤ t) : x = y:=by
 have h1:=(h y).mpr (Int.le_refl _)
 have h2:=(h x).mp (Int.le_refl _)
 omega
theorem mul_assoc' (n : Nat) (a b c : List Int) : mulL n (mulL n a b) c = mulL n a (mulL n b c):=by
 unfold mulL
 refine sqL_congr n _ _ (fun i k hi hk => eq_of_le _ _ (fun t => ?_))
 show mulE n (mulL n a b) c i k ≤ t ↔ mulE n a (mulL n b c) i k ≤ t
 rw [mulE_le,mulE_le]
 constructor
 ·rintro (h | ⟨l,hl,h1,h2⟩)
  ·exact Or.inl h
  ·rw [mulL_get n a b i l hi hl,mulE_le] at h1
   rcases h1 with h1 | ⟨m,hm,h3,h4⟩
   ·exact Or.inl h1
   ·refine Or.inr ⟨m,hm,h3,?_⟩
    rw [mulL_get n b c m k hm hk,mulE_le]
    exact Or.inr ⟨l,hl,h4,h2⟩
 ·rintro (h | ⟨m,hm,h1,h2⟩)
  ·exact Or.inl h
  ·rw [mulL_get n b c m k hm hk,mulE_le] at h2
   rcases h2 with h2 | ⟨l,hl,h3,h4⟩
   ·exact Or.inl h2
   ·refine Or.inr ⟨l,hl,?_,h4⟩
    rw [mulL_get n a b i l hi hl,mulE_le]
    exact Or.inr ⟨m,hm,h1,h3⟩
def pw (n : Nat) (l : List Int) : Nat → List Int
 | 0 => l
 | m + 1 => mulL n (pw n l m) l
theorem pw_add (n : Nat) (l : List Int) (a b : Nat) : mulL n (pw n l a) (pw n l b) = pw n l (a + b + 1):=by
 induction b with
 | zero => rfl
 | succ b ih => show mulL n (pw n l a) (mulL n (pw n l b) l) = mulL n (pw n l (a + (b + 1))) l;rw [← mul_assoc',ih];rfl
def Gr (l : List Int) : Prop := ∀ x ∈ l,0 ≤ x ∧ x ≤ 3
theorem gr_getD {l : List Int} (h : Gr l) (j : Nat) : 0 ≤ l.getD j 0 ∧ l.getD j 0 ≤ 3:=by
 rw [List.getD_eq_getElem?_getD]
 by_cases hj : j < l.length
 ·rw [List.getElem?_eq_getElem hj];exact h _ (List.getElem_mem hj)
 ·rw [List.getElem?_eq_none (by omega)];simp
theorem mulE_in (n : Nat) (a b : List Int) (ha : Gr a) (hb : Gr b) (i k : Nat) : 0 ≤ mulE n a b i k ∧ mulE n a b i k ≤ 3:=by
 constructor
 ·have h:=mulE_le n a b i k (-1)
  have : ¬ mulE n a b i k ≤ -1:=by
   rw [h]
   rintro (h | ⟨l,_,h1,_⟩)
   ·omega
   ·have:=(gr_getD ha (i * n + l)).1;omega
  omega
 ·rw [mulE_le];exact Or.inl (Int.le_refl _)
theorem mul_gr (n : Nat) (a b : List Int) (ha : Gr a) (hb : Gr b) : Gr (mulL n a b):=by
 intro x hx
 obtain ⟨j,hj,rfl⟩:=mem_tab.mp hx
 exact mulE_in n a b ha hb _ _
theorem pw_gr (n : Nat) (l : List Int) (h : Gr l) (m : Nat) : Gr (pw n l m):=by
 induction m with
 | zero => exact h
 | succ m ih => exact mul_gr n _ _ ih h
theorem pw_len (n : Nat) (l : List Int) (h : l.length = n * n) (m : Nat) : (pw n l m).length = n * n:=by
 cases m with
 | zero => exact h
 | succ m => exact mulL_length n _ _
theorem pigeon (N : Nat) : ∀ f : Nat → Nat,(∀ i,i ≤ N → f i < N) → ∃ i j,i < j ∧ j ≤ N ∧ f i = f j:=by
 induction N with
 | zero => intro f h;exact absurd (h 0 (Nat.le_refl _)) (by omega)
 | succ N ih =>
  intro f h
  by_cases e : ∃ i,i ≤ N ∧ f i = f (N + 1)
  ·obtain ⟨i,h1,h2⟩:=e
   exact ⟨i,N + 1,by omega,Nat.le_refl _,h2⟩
  ·have ne : ∀ i,i ≤ N → f i ≠ f (N + 1):=fun i hi he => e ⟨i,hi,he⟩
   obtain ⟨i,j,h1,h2,h3⟩:=ih (fun i => if f i > f (N + 1) then f i - 1 else f i) (fun i hi => by
    have a:=h i (by omega)
    have b:=h (N + 1) (Nat.le_refl _)
    have c:=ne i hi
    show (if f i > f (N + 1) then f i - 1 else f i) < N
    by_cases d : f i > f (N + 1)
    ·rw [if_pos d];omega
    ·rw [if_neg d];omega)
   refine ⟨i,j,h1,by omega,?_⟩
   have c1:=ne i (by omega)
   have c2:=ne j h2
   have h3' : (if f i > f (N + 1) then f i - 1 else f i) = (if f j > f (N + 1) then f j - 1 else f j):=h3
   by_cases d1 : f i > f (N + 1) <;> by_cases d2 : f j > f (N + 1)
   ·rw [if_pos d1,if_pos d2] at h3';omega
   ·rw [if_pos d1,if_neg d2] at h3';omega
   ·rw [if_neg d1,if_pos d2] at h3';omega
   ·rw [if_neg d1,if_neg d2] at h3';omega
def code : List Int → Nat
 | [] => 0
 | x :: t => x.toNat + 4 * code t
theorem code_lt (l : List Int) (h : Gr l) : code l < 4 ^ l.length:=by
 induction l with
 | nil => simp [code]
 | cons x t ih =>
  have h1:=h x (by simp)
  have h2:=ih (fun y hy => h y (by simp [hy]))
  rw [List.length_cons,Nat.pow_succ]
  simp only [code]
  omega
theorem code_inj (l : List Int) : ∀ m : List Int,Gr l → Gr m → l.length = m.length → code l = code m → l = m:=by
 induction l with
 | nil => intro m _ _ h _;cases m with
  | nil => rfl
  | cons => simp at h
 | cons x t ih =>
  intro m hl hm h e
  cases m with
  | nil => simp at h
  | cons y u =>
   have h1:=hl x (by simp)
   have h2:=hm y (by simp)
   simp only [code] at e
   have e1 : x = y:=by omega
   have e2 : code t = code u:=by omega
   rw [e1,ih u (fun z hz => hl z (by simp [hz])) (fun z hz => hm z (by simp [hz])) (by simpa using h) e2]
theorem pw_again (n : Nat) (l : List Int) (i d : Nat) (h : pw n l i = pw n l (i + d)) : ∀ m,i ≤ m → ∀ q,pw n l m = pw n l (m + q * d):=by
 have one : ∀ m,i ≤ m → pw n l m = pw n l (m + d):=by
  intro m hm
  obtain ⟨x,rfl⟩:=Nat.le.dest hm
  cases x with
  | zero => exact h
  | succ x =>
   have a:=pw_add n l i x
   have b:=pw_add n l (i + d) x
   rw [← h] at b
   have e : i + d + x + 1 = i + (x + 1) + d:=by omega
   rw [← e,← b,a];rfl
 intro m hm q
 induction q with
 | zero => simp
 | succ q ih =>
  rw [ih,one (m + q * d) (by omega)]
  congr 1
  rw [Nat.succ_mul];omega
theorem some_idem (n : Nat) (l : List Int) (hl : l.length = n * n) (hg : Gr l) : ∃ m,mulL n (pw n l m) (pw n l m) = pw n l m:=by
 obtain ⟨i,j,hij,_,he⟩:=pigeon (4 ^ (n * n)) (fun m => code (pw n l m)) (fun m _ => by
  have:=code_lt (pw n l m) (pw_gr n l hg m)
  rwa [pw_len n l hl m] at this)
 have he2 : pw n l i = pw n l j:=code_inj _ _ (pw_gr n l hg i) (pw_gr n l hg j) (by rw [pw_len n l hl,pw_len n l hl]) he
 obtain ⟨d,rfl⟩ : ∃ d,j = i + (d + 1):=⟨j - i - 1,by omega⟩
 have per:=pw_again n l i (d + 1) he2
 have hM : i ≤ (i + 1) * (d + 1) - 1:=by
  have : i + 1 ≤ (i + 1) * (d + 1):=Nat.le_mul_of_pos_right _ (by omega)
  omega
 have hp : 1 ≤ (i + 1) * (d + 1):=Nat.mul_pos (by omega) (by omega)
 refine ⟨(i + 1) * (d + 1) - 1,?_⟩
 rw [pw_add,per _ hM (i + 1)]
 congr 1
theorem least (P : Nat → Prop) (h : ∃ m,P m) : ∃ m,P m ∧ ∀ j,j < m → ¬ P j:=by
 obtain ⟨m,hm⟩:=h
 induction m using Nat.strongRecOn with
 | _ m ih =>
  by_cases e : ∃ j,j < m ∧ P j
  ·obtain ⟨j,h1,h2⟩:=e
   exact ih j h1 h2
  ·exact ⟨m,hm,fun j h1 h2 => e ⟨j,h1,h2⟩⟩
end Go.Proofs.Ytengegdaiphfeaa.Y
end
section
namespace Go.Proofs.Ytengegdaiphfeaa.Y
open Go.RowKit Go.Proofs.Ytengegdaiphfeaa.X Go.Proofs.YtengegdaiphfeaaW.PrintWords Go.Proofs.YtengegdaiphfeaaW.PrintLast Go.Proofs.YtengegdaiphfeaaW.PrintMore
set_option linter.unusedVariables false
set_option linter.unusedSimpArgs false
theorem Ev_eq {α γ : Type} {o : Option γ} {z : γ} {g : Nat → γ → Option α} {r : α} (h : o = some z) (k : Ev (fun n => g n z) r) : Ev (fun n => o.bind (g n)) r:=Ev.congr (fun n => by rw [h];rfl) k
theorem xor_nat (a b : Nat) (ha : a < 4611686018427387904) (hb : b < 4611686018427387904) : bits .xor .i64 (a : Int) (b : Int) = ((a ^^^ b : Nat) : Int):=by
 have hx : a ^^^ b < 2 ^ 62:=Nat.xor_lt_two_pow (by omega) (by omega)
 have h1 : (BitVec.ofInt 64 (a : Int)).toNat = a:=by
  rw [BitVec.ofInt_natCast,BitVec.toNat_ofNat];exact Nat.mod_eq_of_lt (by omega)
 have h2 : (BitVec.ofInt 64 (b : Int)).toNat = b:=by
  rw [BitVec.ofInt_natCast,BitVec.toNat_ofNat];exact Nat.mod_eq_of_lt (by omega)
 show IntKind.i64.wrap ((BitVec.ofInt 64 (a : Int) ^^^ BitVec.ofInt 64 (b : Int)).toNat : Int) = _
 rw [BitVec.toNat_xor,h1,h2]
 simp [IntKind.wrap,IntKind.bits,IntKind.signed]
 omega
def Bytes (l : List Int) : Prop := ∀ x ∈ l,0 ≤ x ∧ x ≤ 255
theorem bytes_of {l : List Int} (h : ∀ x ∈ l,(Lit.int .u8 x).wf = true) : Bytes l:=by
 intro x hx
 have:=h x hx
 have hmin : IntKind.u8.min = 0:=rfl
 have hmax : IntKind.u8.max = 255:=rfl
 simp only [Lit.wf,Bool.and_eq_true,decide_eq_true_eq] at this
 omega
theorem rd_byte {l : List Int} (h : Bytes l) (i : Int) : ∃ b : Nat,rd l i = (b : Int) ∧ b ≤ 255:=by
 have : 0 ≤ rd l i ∧ rd l i ≤ 255:=by
  unfold rd
  rw [List.getD_eq_getElem?_getD]
  by_cases hj : i.toNat < l.length
  ·rw [List.getElem?_eq_getElem hj];exact h _ (List.getElem_mem hj)
  ·rw [List.getElem?_eq_none (by omega)];simp
 exact ⟨(rd l i).toNat,by omega,by omega⟩
theorem mixed (b c s q : Nat) (hb : b ≤ 255) (hc : c ≤ 255) (hs : s ≤ 1000000) (hq : q ≤ 1000000) :
  wrap64 ((wrap64 ((wrap64 ((wrap64 ((wrap64 (b : Int)) * 131)) + (wrap64 ((wrap64 (c : Int)) * 1117)))) + (wrap64 ((s : Int) * 29)))) + (wrap64 ((wrap64 (q : Int)) * 53))) = ((b * 131 + c * 1117 + s * 29 + q * 53 : Nat) : Int):=by
 rw [w64 (x:=(b : Int)) (by omega) (by omega),w64 (x:=(c : Int)) (by omega) (by omega),w64 (x:=(q : Int)) (by omega) (by omega),w64 (x:=(b : Int) * 131) (by omega) (by omega),w64 (x:=(c : Int) * 1117) (by omega) (by omega),w64 (x:=(s : Int) * 29) (by omega) (by omega),w64 (x:=(q : Int) * 53) (by omega) (by omega),
  w64 (x:=(b : Int) * 131 + (c : Int) * 1117) (by omega) (by omega),w64 (x:=(b : Int) * 131 + (c : Int) * 1117 + (s : Int) * 29) (by omega) (by omega),w64 (x:=(b : Int) * 131 + (c : Int) * 1117 + (s : Int) * 29 + (q : Int) * 53) (by omega) (by omega)]
 omega
theorem second (s : Nat) (hs : s ≤ 1000000) : wrap64 ((wrap64 ((s : Int) * 7)) + 3) = ((s * 7 + 3 : Nat) : Int):=by
 rw [w64 (x:=(s : Int) * 7) (by omega) (by omega),w64 (x:=(s : Int) * 7 + 3) (by omega) (by omega)];omega
theorem at_up (s : Nat) (hs : s ≤ 1000000) : wrap64 ((s : Int) + 1) = ((s + 1 : Nat) : Int):=by rw [w64 (x:=(s : Int) + 1) (by omega) (by omega)];omega
theorem at_down (s : Nat) (hs : s ≤ 1000000) : wrap64 (((s + 1 : Nat) : Int) - 1) = (s : Int):=by rw [w64 (x:=((s + 1 : Nat) : Int) - 1) (by omega) (by omega)];omega
theorem at_64 (m : Nat) (hm : m ≤ 100000000) : wrap64 (Int.tdiv (m : Int) 64) = ((m / 64 : Nat) : Int):=by
 have hmq : m / 64 ≤ 100000000:=Nat.le_trans (Nat.div_le_self _ _) hm
 have : (64 : Int) = ((64 : Nat) : Int):=rfl
 rw [this,tdiv_nat,w64 (x:=((m / 64 : Nat) : Int)) (by omega) (by omega)]
theorem pick_ev (l : List Int) (hl : l.length ≤ 2000) (hb : Bytes l) (s n : Nat) (hs : s ≤ 1000000) (h1 : 1 ≤ n) (hn : n ≤ 1000000) :
  ∃ v : Nat,v < n ∧ Ev (fun k => spec_l13Rd_pick.f k l (s : Int) (n : Int)) ((v : Int),((s + 1 : Nat) : Int)):=by
 have hn0 : ¬ (n : Int) < 1:=by omega
 have hnz : ¬ (n : Int) = 0:=by omega
 cases l with
 | nil =>
  refine ⟨0,by omega,?_⟩
  refine Ev.congr (f:=fun k => spec_l13Rd_pick.j0 k (n : Int) true [] ((s + 1 : Nat) : Int)) (fun k => ?_) ?_
  ·unfold spec_l13Rd_pick.f;rw [if_neg hn0,at_up s hs];rfl
  ·refine Ev.step (f:=fun _ => some ((0 : Int),((s + 1 : Nat) : Int))) (fun k => ?_) (Ev.now _)
   simp only [spec_l13Rd_pick.j0];rw [if_pos trivial]
 | cons x t =>
  obtain ⟨L,hL⟩ : ∃ L,(x :: t).length = L:=⟨_,rfl⟩
  have hL1 : 1 ≤ L:=by rw [← hL];simp
  have hz : (((x :: t).length : Int) == 0) = false:=by rw [hL];simp;omega
  generalize hgl : x :: t = l at hL hl hb hz ⊢
  have start : ∀ r,Ev (fun k => spec_l13Rd_pick.j0 k (n : Int) false l ((s + 1 : Nat) : Int)) r → Ev (fun k => spec_l13Rd_pick.f k l (s : Int) (n : Int)) r:=fun r h => by
   refine Ev.congr (fun k => ?_) h
   unfold spec_l13Rd_pick.f;rw [if_neg hn0,at_up s hs,hz]
  by_cases hlt : s < L
  ·obtain ⟨b,hb1,hb2⟩:=rd_byte hb (s : Int)
   refine ⟨b % n,Nat.mod_lt _ (by omega),start _ ?_⟩
   refine Ev.step (f:=fun _ => some (((b % n : Nat) : Int),((s + 1 : Nat) : Int))) (fun k => ?_) (Ev.now _)
   simp only [spec_l13Rd_pick.j0]
   rw [if_neg (by simp),at_down s hs,hL,if_pos (by omega),if_pos (by omega),if_neg hnz,hb1,w64 (x:=(b : Int)) (by omega) (by omega),tmod_nat]
  ·obtain ⟨b,hb1,hb2⟩:=rd_byte hb ((s % L : Nat) : Int)
   obtain ⟨c,hc1,hc2⟩:=rd_byte hb (((s * 7 + 3) % L : Nat) : Int)
   have hq : s / L ≤ 1000000:=Nat.le_trans (Nat.div_le_self _ _) hs
   obtain ⟨q,hqe⟩ : ∃ q,s / L = q:=⟨_,rfl⟩
   rw [hqe] at hq
   obtain ⟨m,hm⟩ : ∃ m : Nat,b * 131 + c * 1117 + s * 29 + q * 53 = m:=⟨_,rfl⟩
   have hmb : m ≤ 100000000:=by omega
   have hmq : m / 64 ≤ 100000000:=Nat.le_trans (Nat.div_le_self _ _) hmb
   have hL0 : ¬ (L : Int) = 0:=by omega
   have m1 : s % L < L:=Nat.mod_lt _ (by omega)
   have m2 : (s * 7 + 3) % L < L:=Nat.mod_lt _ (by omega)
   have x1 : m < 4611686018427387904:=by omega
   have x2 : m / 64 < 4611686018427387904:=by omega
   have y1 : ¬ (s : Int) < (L : Int):=by omega
   have y2 : ((s % L : Nat) : Int) < (L : Int):=by omega
   have y3 : (((s * 7 + 3) % L : Nat) : Int) < (L : Int):=by omega
   refine ⟨(m ^^^ (m / 64)) % n,Nat.mod_lt _ (by omega),start _ ?_⟩
   refine Ev.step (f:=fun _ => some ((((m ^^^ (m / 64)) % n : Nat) : Int),((s + 1 : Nat) : Int))) (fun k => ?_) (Ev.now _)
   simp only [spec_l13Rd_pick.j0]
   rw [if_neg (by simp),at_down s hs,hL,if_neg y1,if_neg hL0,tmod_nat,if_pos (Int.natCast_nonneg _),if_pos y2,second s hs,tmod_nat,if_pos (Int.natCast_nonneg _),if_pos y3,if_neg hnz,hb1,hc1,tdiv_nat,hqe,mixed b c s q hb2 hc2 hs hq,hm,at_64 m hmb,xor_nat m (m / 64) x1 x2,tmod_nat]
theorem num_ev (l : List Int) (hl : l.length ≤ 2000) (hb : Bytes l) (s : Nat) (hs : s ≤ 1000000) (z : List Int) (h1 : 1 ≤ z.length) (hn : z.length ≤ 1000000) :
  ∃ x ∈ z,Ev (fun k => spec_l13Rd_num.f k l (s : Int) z) (x,((s + 1 : Nat) : Int)):=by
 obtain ⟨v,hv,h⟩:=pick_ev l hl hb s z.length hs h1 hn
 refine ⟨z[v],List.getElem_mem hv,?_⟩
 unfold spec_l13Rd_num.f
 refine Ev.bind h ?_
 refine ev_some (fun k => ?_)
 show (if (0 : Int) ≤ (v : Int) then (if (v : Int) < (z.length : Int) then some (rd z (v : Int),((s + 1 : Nat) : Int)) else none) else none) = _
 rw [if_pos (by omega),if_pos (by omega),rd_nat,List.getD_eq_getElem?_getD,List.getElem?_eq_getElem hv];rfl
theorem drawG_ev (l : List Int) (hl : l.length ≤ 2000) (hb : Bytes l) (n : Nat) (h1 : 1 ≤ n) (h4 : n ≤ 4) (s : Nat) (hs : s ≤ 900000) :
  ∃ t : List Int,t.length = n * n ∧ Gr t ∧ Ev (fun k => spec_l6Draw.f k l (s : Int) (n : Int)) ((n : Int),t,((s + n * n : Nat) : Int)):=by
 have hsq:=sq_le n h4
 have go : ∀ d (pre : List Int) (s : Nat),pre.length + d = n * n → s ≤ 900000 + pre.length → ∃ t : List Int,t.length = d ∧ Gr t ∧ Ev (fun k => spec_l6Draw.l0 k ((n * n : Nat) : Int) (pre.length : Int) l (s : Int) n pre) ((n : Int),pre ++ t,((s + d : Nat) : Int)):=by
  intro d
  induction d with
  | zero =>
   intro pre s hp hs
   refine ⟨[],rfl,fun x hx => by simp at hx,?_⟩
   refine Ev.step (f:=fun _ => some ((n : Int),pre,(s : Int))) (fun k => ?_) ((Ev.now _).is (by simp))
   simp only [spec_l6Draw.l0];rw [if_neg (by omega)]
  | succ d ih =>
   intro pre s hp hs
   obtain ⟨x,hx,hxe⟩:=num_ev l hl hb s (by omega) [3,0,1,3,2,1,0] (by simp) (by simp)
   obtain ⟨t,ht1,ht2,ht3⟩:=ih (pre ++ [x]) (s + 1) (by simp;omega) (by simp;omega)
   refine ⟨x :: t,by simp [ht1],?_,?_⟩
   ·intro y hy
    simp only [List.mem_cons] at hy
    rcases hy with rfl|hy
    ·simp at hx;omega
    ·exact ht2 y hy
   ·refine Ev.step (f:=?f1) (fun k => ?h1) ?k1
    case h1 => simp only [spec_l6Draw.l0];rw [if_pos (by omega)] <;> exact rfl
    refine Ev.bind hxe ?_
    refine Ev_t (by omega) ?_
    have e : wrap64 ((pre.length : Int) + 1) = ((pre ++ [x]).length : Int):=by rw [w64 (x:=(pre.length : Int) + 1) (by omega) (by omega)];simp
    rw [e]
    refine ht3.is ?_
    simp;omega
 have e0 : wrap64 ((n : Int) * (n : Int)) = ((n * n : Nat) : Int):=by
  have : (n : Int) * (n : Int) = ((n * n : Nat) : Int):=by simp
  rw [this,w64 (x:=((n * n : Nat) : Int)) (by omega) (by omega)]
 obtain ⟨t,h1,h2,h3⟩:=go (n * n) [] s (by simp) (by omega)
 refine ⟨t,h1,h2,Ev.congr (fun k => ?_) h3⟩
 unfold spec_l6Draw.f;rw [e0];rfl
theorem bad_ev (l : List Int) (hl : l.length ≤ 2000) (hb : Bytes l) (s : Nat) (hs : s ≤ 900000) (n : Int) (c : List Int) (hc1 : 1 ≤ c.length) (hc : c.length ≤ 16) :
  ∃ (n' : Int) (c' : List Int) (s' : Nat),c'.length ≤ 16 ∧ 1 ≤ c'.length ∧ s' ≤ s + 2 ∧ Ev (fun k => spec_l6Bad.f k l (s : Int) n c) (n',c',(s' : Int)):=by
 obtain ⟨v,hv,h⟩:=pick_ev l hl hb s 24 (by omega) (by omega) (by omega)
 by_cases e0 : v = 0
 ·subst e0
  obtain ⟨x,hx,hxe⟩:=num_ev l hl hb (s + 1) (by omega) [4,(-1),1000000] (by simp) (by simp)
  refine ⟨n,[x] ++ c.drop 1,s + 1 + 1,by simp;omega,by simp,by omega,?_⟩
  unfold spec_l6Bad.f
  refine Ev.bind h (Ev_t rfl (Ev.bind hxe ?_))
  refine ev_some (fun k => ?_)
  rw [Option.bind_some,if_pos (by omega),Option.bind_some,if_pos (by simp;omega)]
 ·by_cases e1 : v = 1
  ·subst e1
   obtain ⟨x,hx,hxe⟩:=num_ev l hl hb (s + 1) (by omega) [0,5,1] (by simp) (by simp)
   refine ⟨x,c,s + 1 + 1,hc,hc1,by omega,?_⟩
   unfold spec_l6Bad.f
   refine Ev.bind h (Ev_f (by simp) (Ev_t rfl (Ev.bind hxe (Ev.now _))))
  ·refine ⟨n,c,s + 1,hc,hc1,by omega,?_⟩
   unfold spec_l6Bad.f
   refine Ev.bind h (Ev_f ?_ (Ev_f ?_ (Ev.now _)))
   ·show ¬ (v : Int) = 0;omega
   ·show ¬ (v : Int) = 1;omega
theorem some_ev (l : List Int) (hl : l.length ≤ 2000) (hb : Bytes l) (s : Nat) (hs : s ≤ 800000) :
  ∃ (n' : Int) (c' : List Int) (s' : Nat),c'.length ≤ 16 ∧ s' ≤ s + 20 ∧ Ev (fun k => spec_l6Some.f k l (s : Int)) (n',c',(s' : Int)):=by
 obtain ⟨v,hv,h⟩:=pick_ev l hl hb s 4 (by omega) (by omega) (by omega)
 have e : wrap64 (1 + (v : Int)) = ((v + 1 : Nat) : Int):=by rw [w64 (x:=1 + (v : Int)) (by omega) (by omega)];omega
 have hq:=sq_le (v + 1) (by omega)
 have hq1 : 1 ≤ (v + 1) * (v + 1):=Nat.mul_pos (by omega) (by omega)
 obtain ⟨t,ht1,ht2,ht3⟩:=drawG_ev l hl hb (v + 1) (by omega) (by omega) (s + 1) (by omega)
 obtain ⟨n',c',s',g1,g2,g3,g4⟩:=bad_ev l hl hb (s + 1 + (v + 1) * (v + 1)) (by omega) ((v + 1 : Nat) : Int) t (by omega) (by omega)
 refine ⟨n',c',s',g1,by omega,?_⟩
 unfold spec_l6Some.f
 refine Ev.bind h ?_
 show Ev (fun k => (spec_l6Draw.f k l ((s + 1 : Nat) : Int) (wrap64 (1 + (v : Int)))).bind _) _
 rw [e]
 exact Ev.bind ht3 (Ev.bind g4 (Ev.now _))
theorem open_eq (l : List Int) : ∃ l',spec_l13Open.f l = some (l',0) ∧ l'.length ≤ 2000 ∧ (Bytes l → Bytes l'):=by
 unfold spec_l13Open.f
 by_cases h : (l.length : Int) > 2000
 ·refine ⟨l.take 2000,by rw [if_pos h,if_pos (by omega)],by simp;omega,fun hb x hx => hb x (List.mem_of_mem_take hx)⟩
 ·exact ⟨l,by rw [if_neg h],by omega,id⟩
theorem drawIdempotentOf_ev (l : List Int) (hb : Bytes l) : ∃ (n : Int) (c : List Int),c.length ≤ 16 ∧ Ev (fun k => spec_DrawIdempotentOf.f k l) (n,c):=by
 obtain ⟨l',e,h1,h2⟩:=open_eq l
 obtain ⟨n,c,s,g1,_,g2⟩:=some_ev l' h1 (h2 hb) 0 (by omega)
 refine ⟨n,c,g1,?_⟩
 unfold spec_DrawIdempotentOf.f
 exact Ev_eq e (Ev.bind g2 (Ev.now _))
end Go.Proofs.Ytengegdaiphfeaa.Y
end
section
namespace Go.Proofs.Ytengegdaiphfeaa.Y
open Go.RowKit Go.Proofs.Ytengegdaiphfeaa.X Go.Proofs.YtengegdaiphfeaaW.PrintWords Go.Proofs.YtengegdaiphfeaaW.PrintLast Go.Proofs.YtengegdaiphfeaaW.PrintMore
set_option linter.unusedVariables false
set_option linter.unusedSimpArgs false
theorem of_ev (l : List Int) (hl : l.length ≤ 2000) (hb : Bytes l) (s : Nat) (hs : s ≤ 1000000) (z : List ByteArray) (h1 : 1 ≤ z.length) (hn : z.length ≤ 1000000) :
  ∃ x ∈ z,Ev (fun k => spec_l13Rd_of.f k l (s : Int) z) (x,((s + 1 : Nat) : Int)):=by
 obtain ⟨v,hv,h⟩:=pick_ev l hl hb s z.length hs h1 hn
 refine ⟨z[v],List.getElem_mem hv,?_⟩
 unfold spec_l13Rd_of.f
 refine Ev.bind h ?_
 refine Ev.congr (f:=fun _ => some (z[v],((s + 1 : Nat) : Int))) (fun k => ?_) (Ev.now _)
 show (if (0 : Int) ≤ (v : Int) then (if (v : Int) < (z.length : Int) then some (rdOf ByteArray.empty z (v : Int),((s + 1 : Nat) : Int)) else none) else none) = _
 rw [if_pos (by omega),if_pos (by omega)]
 unfold rdOf
 rw [Int.toNat_natCast,List.getD_eq_getElem?_getD,List.getElem?_eq_getElem hv];rfl
def szD : Nat → Nat
 | 0 => 3
 | d + 1 => 3 * (szD d + 3)
def stD : Nat → Nat
 | 0 => 4
 | d + 1 => 1 + 3 * (stD d + 1)
theorem szD_pos : ∀ d,1 ≤ szD d
 | 0 => by decide
 | d + 1 => by unfold szD;omega
theorem stD_pos : ∀ d,1 ≤ stD d
 | 0 => by decide
 | d + 1 => by unfold stD;omega
theorem wr_up (i : Nat) (h : i ≤ 4000000000) : wrap64 ((i : Int) + 1) = ((i + 1 : Nat) : Int):=by rw [w64 (x:=(i : Int) + 1) (by omega) (by omega)];omega
theorem wr_one (v : Nat) (h : v ≤ 4000000000) : wrap64 (1 + (v : Int)) = ((v + 1 : Nat) : Int):=by rw [w64 (x:=1 + (v : Int)) (by omega) (by omega)];omega
theorem wr_down (d : Nat) (h : d ≤ 4000000000) : wrap64 (((d + 1 : Nat) : Int) - 1) = (d : Int):=by rw [w64 (x:=((d + 1 : Nat) : Int) - 1) (by omega) (by omega)];omega
theorem wr_sum (a b : Nat) (h : a + b ≤ 4000000000) : wrap64 ((a : Int) + (b : Int)) = ((a + b : Nat) : Int):=by rw [w64 (x:=(a : Int) + (b : Int)) (by omega) (by omega)];omega
theorem bsize1 (c : UInt8) : (⟨#[c]⟩ : ByteArray).size = 1:=rfl
theorem bsize2 (c d : UInt8) : (⟨#[c,d]⟩ : ByteArray).size = 2:=rfl
theorem l7draw_ev (l : List Int) (hl : l.length ≤ 2000) (hb : Bytes l) : ∀ (d s : Nat),d ≤ 1000 → s + stD d ≤ 500000 → szD d ≤ 100000 → ∃ (e : ByteArray) (s' : Nat),1 ≤ e.size ∧ e.size ≤ szD d ∧ s' ≤ s + stD d ∧ Ev (fun k => spec_l7Draw.f k l (s : Int) (d : Int)) (e,(s' : Int)):=by
 intro d
 induction d with
 | zero =>
  intro s _ hs hd
  have hs' : s + 4 ≤ 500000:=hs
  obtain ⟨v,hv,h⟩:=pick_ev l hl hb s 3 (by omega) (by omega) (by omega)
  have loop : ∀ (m i : Nat) (acc : ByteArray) (q : Nat),i + m = v + 1 → acc.size + m ≤ 1000000 → q + m ≤ 600000 → ∃ (e : ByteArray) (q' : Nat),acc.size + m ≤ e.size ∧ e.size ≤ acc.size + m ∧ q' ≤ q + m ∧ Ev (fun k => spec_l7Draw.l0 k 0 acc ((v + 1 : Nat) : Int) (i : Int) l (q : Int)) (e,(q' : Int)):=by
   intro m
   induction m with
   | zero =>
    intro i acc q hi ha hq
    refine ⟨acc,q,by omega,by omega,by omega,Ev.step (f:=fun _ => some (acc,(q : Int))) (fun k => ?_) (Ev.now _)⟩
    simp only [spec_l7Draw.l0];rw [if_neg (by omega)]
   | succ m ih =>
    intro i acc q hi ha hq
    obtain ⟨x,hx,ho⟩:=of_ev l hl hb q (by omega) [(⟨#[97]⟩ : ByteArray),(⟨#[98]⟩ : ByteArray)] (by simp) (by simp)
    have hxs : x.size = 1:=by
     simp only [List.mem_cons,List.not_mem_nil,or_false] at hx
     rcases hx with rfl|rfl <;> rfl
    have hax : (acc ++ x).size = acc.size + 1:=by rw [ByteArray.size_append,hxs]
    obtain ⟨e,q',h1,h2,h3,h4⟩:=ih (i + 1) (acc ++ x) (q + 1) (by omega) (by omega) (by omega)
    refine ⟨e,q',by omega,by omega,by omega,?_⟩
    refine Ev.step (f:=?f1) (fun k => ?h1) ?k1
    case h1 => simp only [spec_l7Draw.l0];rw [if_pos (by omega),if_neg (by omega)] <;> exact rfl
    refine Ev.step (f:=?f2) (fun k => ?h2) ?k2
    case h2 => simp only [spec_l7Draw.j1];rw [if_neg (by simp)] <;> exact rfl
    refine Ev.bind ho (Ev_t (by show acc.size + x.size ≤ 9223372036854775807;omega) ?_)
    rw [wr_up i (by omega)]
    exact h4
  obtain ⟨e,q',h1,h2,h3,h4⟩:=loop (v + 1) 0 ⟨#[]⟩ (s + 1) (by omega) (by have : (⟨#[]⟩ : ByteArray).size = 0:=rfl;omega) (by omega)
  have z0 : (⟨#[]⟩ : ByteArray).size = 0:=rfl
  refine ⟨e,q',by omega,by unfold szD;omega,by unfold stD;omega,?_⟩
  refine Ev.step (f:=?f3) (fun k => ?h3) ?k3
  case h3 => simp only [spec_l7Draw.f] <;> exact rfl
  refine Ev.bind h ?_
  show Ev (fun k => spec_l7Draw.l0 k 0 ⟨#[]⟩ (wrap64 (1 + (v : Int))) 0 l ((s + 1 : Nat) : Int)) _
  rw [wr_one v (by omega)]
  exact h4
 | succ d ihd =>
  intro s hdl0 hs hd
  have hdl : d ≤ 4000000000:=by omega
  have hdl1 : d ≤ 1000:=by omega
  obtain ⟨S,hS⟩ : ∃ S,stD d = S:=⟨_,rfl⟩
  obtain ⟨Z,hZ⟩ : ∃ Z,szD d = Z:=⟨_,rfl⟩
  have p1:=stD_pos d
  have p2:=szD_pos d
  have hs' : s + (1 + 3 * (S + 1)) ≤ 500000:=by rw [← hS];exact hs
  have hd' : 3 * (Z + 3) ≤ 100000:=by rw [← hZ];exact hd
  rw [hS] at p1
  rw [hZ] at p2
  rw [hS,hZ] at ihd
  obtain ⟨v,hv,h⟩:=pick_ev l hl hb s 3 (by omega) (by omega) (by omega)
  have loop : ∀ (m i : Nat) (acc : ByteArray) (q : Nat),i + m = v + 1 → acc.size + m * (Z + 3) ≤ 1000000 → q + m * (S + 1) ≤ 500000 → ∃ (e : ByteArray) (q' : Nat),acc.size + m ≤ e.size ∧ e.size ≤ acc.size + m * (Z + 3) ∧ q' ≤ q + m * (S + 1) ∧ Ev (fun k => spec_l7Draw.l0 k ((d + 1 : Nat) : Int) acc ((v + 1 : Nat) : Int) (i : Int) l (q : Int)) (e,(q' : Int)):=by
   intro m
   induction m with
   | zero =>
    intro i acc q hi ha hq
    refine ⟨acc,q,by omega,by omega,by omega,Ev.step (f:=fun _ => some (acc,(q : Int))) (fun k => ?_) (Ev.now _)⟩
    simp only [spec_l7Draw.l0];rw [if_neg (by omega)]
   | succ m ih =>
    intro i acc q hi ha hq
    rw [Nat.succ_mul] at ha hq
    have g1 : (m + 1) * (Z + 3) = m * (Z + 3) + (Z + 3):=Nat.succ_mul _ _
    have g2 : (m + 1) * (S + 1) = m * (S + 1) + (S + 1):=Nat.succ_mul _ _
    obtain ⟨A,hA⟩ : ∃ A,m * (Z + 3) = A:=⟨_,rfl⟩
    obtain ⟨C,hC⟩ : ∃ C,m * (S + 1) = C:=⟨_,rfl⟩
    rw [hA] at ih g1 ha
    rw [hC] at ih g2 hq
    rw [g1,g2]
    obtain ⟨u,hu,hpk⟩:=pick_ev l hl hb q 3 (by omega) (by omega) (by omega)
    have hlt : (i : Int) < ((v + 1 : Nat) : Int):=by omega
    have hdp : ((d + 1 : Nat) : Int) > 0:=by omega
    by_cases hz : u = 0
    ·subst hz
     obtain ⟨x,q1,x1,x2,x3,x4⟩:=ihd (q + 1) hdl1 (by omega) (by omega)
     have hsz : ((acc ++ (⟨#[40]⟩ : ByteArray)) ++ x ++ (⟨#[41,35]⟩ : ByteArray)).size = acc.size + 1 + x.size + 2:=by
      rw [ByteArray.size_append,ByteArray.size_append,ByteArray.size_append,bsize1,bsize2]
     obtain ⟨e,q',h1,h2,h3,h4⟩:=ih (i + 1) ((acc ++ (⟨#[40]⟩ : ByteArray)) ++ x ++ (⟨#[41,35]⟩ : ByteArray)) q1 (by omega) (by omega) (by omega)
     refine ⟨e,q',by omega,by omega,by omega,?_⟩
     refine Ev.step (f:=?f4) (fun k => ?h4) ?k4
     case h4 => simp only [spec_l7Draw.l0];rw [if_pos hlt,if_pos hdp] <;> exact rfl
     refine Ev.bind hpk ?_
     refine Ev.step (f:=?f5) (fun k => ?h5) ?k5
     case h5 => simp only [spec_l7Draw.j1];rw [if_pos (by decide),if_pos (show acc.size + 1 ≤ 9223372036854775807 by omega)] <;> exact rfl
     rw [wr_down d hdl]
     refine Ev.bind x4 (Ev_t (by show acc.size + 1 + x.size ≤ 9223372036854775807;omega) (Ev_t (by show acc.size + 1 + x.size + 2 ≤ 9223372036854775807;omega) ?_))
     rw [wr_up i (by omega)]
     exact h4
    ·obtain ⟨x,hx,ho⟩:=of_ev l hl hb (q + 1) (by omega) [(⟨#[97]⟩ : ByteArray),(⟨#[98]⟩ : ByteArray)] (by simp) (by simp)
     have hxs : x.size = 1:=by
      simp only [List.mem_cons,List.not_mem_nil,or_false] at hx
      rcases hx with rfl|rfl <;> rfl
     have hax : (acc ++ x).size = acc.size + 1:=by rw [ByteArray.size_append,hxs]
     obtain ⟨e,q',h1,h2,h3,h4⟩:=ih (i + 1) (acc ++ x) (q + 1 + 1) (by omega) (by omega) (by omega)
     refine ⟨e,q',by omega,by omega,by omega,?_⟩
     refine Ev.step (f:=?f6) (fun k => ?h6) ?k6
     case h6 => simp only [spec_l7Draw.l0];rw [if_pos hlt,if_pos hdp] <;> exact rfl
     refine Ev.bind hpk ?_
     have hub : ((u : Int) == 0) = false:=by simp;omega
     show Ev (fun k => spec_l7Draw.j1 k ((d + 1 : Nat) : Int) acc ((v + 1 : Nat) : Int) (i : Int) ((u : Int) == 0) l ((q + 1 : Nat) : Int)) _
     rw [hub]
     refine Ev.step (f:=?f7) (fun k => ?h7) ?k7
     case h7 => simp only [spec_l7Draw.j1];rw [if_neg (by simp)] <;> exact rfl
     refine Ev.bind ho (Ev_t (by show acc.size + x.size ≤ 9223372036854775807;omega) ?_)
     rw [wr_up i (by omega)]
     exact h4
  have v1 : (v + 1) * (Z + 3) ≤ 3 * (Z + 3):=Nat.mul_le_mul_right _ (by omega)
  have v2 : (v + 1) * (S + 1) ≤ 3 * (S + 1):=Nat.mul_le_mul_right _ (by omega)
  have z0 : (⟨#[]⟩ : ByteArray).size = 0:=rfl
  obtain ⟨e,q',h1,h2,h3,h4⟩:=loop (v + 1) 0 ⟨#[]⟩ (s + 1) (by omega) (by omega) (by omega)
  have r1 : szD (d + 1) = 3 * (Z + 3):=by rw [← hZ];rfl
  have r2 : stD (d + 1) = 1 + 3 * (S + 1):=by rw [← hS];rfl
  refine ⟨e,q',by omega,by omega,by omega,?_⟩
  refine Ev.step (f:=?f8) (fun k => ?h8) ?k8
  case h8 => simp only [spec_l7Draw.f] <;> exact rfl
  refine Ev.bind h ?_
  show Ev (fun k => spec_l7Draw.l0 k ((d + 1 : Nat) : Int) ⟨#[]⟩ (wrap64 (1 + (v : Int))) 0 l ((s + 1 : Nat) : Int)) _
  rw [wr_one v (by omega)]
  exact h4
theorem l7text_ev (l : List Int) (hl : l.length ≤ 2000) (hb : Bytes l) : ∃ (e : ByteArray) (s' : Nat),e.size ≤ 1000 ∧ s' ≤ 1000 ∧ Ev (fun k => spec_l7Text.f k l 0) (e,(s' : Int)):=by
 obtain ⟨d,hd,h⟩:=pick_ev l hl hb 0 3 (by omega) (by omega) (by omega)
 have b1 : szD d ≤ 100:=by
  have : d = 0 ∨ d = 1 ∨ d = 2:=by omega
  rcases this with rfl|rfl|rfl <;> decide
 have b2 : stD d ≤ 100:=by
  have : d = 0 ∨ d = 1 ∨ d = 2:=by omega
  rcases this with rfl|rfl|rfl <;> decide
 obtain ⟨e,s1,h1,h2,h3,h4⟩:=l7draw_ev l hl hb d (0 + 1) (by omega) (by omega) (by omega)
 obtain ⟨c,hc,hp⟩:=pick_ev l hl hb s1 12 (by omega) (by omega) (by omega)
 by_cases hz : c = 0
 ·obtain ⟨k0,hk0,hk⟩:=pick_ev l hl hb (s1 + 1) e.size (by omega) (by omega) (by omega)
  obtain ⟨x,hx,ho⟩:=of_ev l hl hb (s1 + 1 + 1) (by omega) [(⟨#[]⟩ : ByteArray),(⟨#[40]⟩ : ByteArray),(⟨#[41]⟩ : ByteArray),(⟨#[35]⟩ : ByteArray),(⟨#[41,35]⟩ : ByteArray),(⟨#[99]⟩ : ByteArray)] (by simp) (by simp)
  have hxs : x.size ≤ 2:=by
   simp only [List.mem_cons,List.not_mem_nil,or_false] at hx
   rcases hx with rfl|rfl|rfl|rfl|rfl|rfl <;> decide
  obtain ⟨u,hu,hpu⟩:=pick_ev l hl hb (s1 + 1 + 1 + 1) 2 (by omega) (by omega) (by omega)
  refine ⟨((e.extract 0 k0) ++ x) ++ (e.extract (k0 + u) e.size),s1 + 1 + 1 + 1 + 1,?_,by omega,?_⟩
  ·rw [ByteArray.size_append,ByteArray.size_append,ByteArray.size_extract,ByteArray.size_extract];omega
  ·unfold spec_l7Text.f
   refine Ev.bind h (Ev.bind h4 (Ev.bind hp (Ev_f (by show ¬ (c : Int) > 0;omega) (Ev.bind hk ?_))))
   refine Ev_t (by show (0 : Int) ≤ (k0 : Int);omega) (Ev_t (by show (k0 : Int) ≤ (e.size : Int);omega) (Ev.bind ho ?_))
   refine Ev_t (by show (k0 : Int).toNat + x.size ≤ 9223372036854775807;omega) (Ev.bind hpu ?_)
   dsimp only
   rw [wr_sum k0 u (by omega)]
   refine Ev_t (by omega) (Ev_t (by omega) (Ev_t (by omega) ((Ev.now _).is ?_)))
   rw [Int.toNat_natCast,Int.toNat_natCast]
 ·refine ⟨e,s1 + 1,by omega,by omega,?_⟩
  unfold spec_l7Text.f
  exact Ev.bind h (Ev.bind h4 (Ev.bind hp (Ev_t (by show (c : Int) > 0;omega) (Ev.now _))))
theorem drawExpand_ev (l : List Int) (hb : Bytes l) : ∃ (e : ByteArray) (n : Int),e.size ≤ 1000 ∧ n ≤ 9223372036854775807 ∧ Ev (fun k => spec_DrawExpandExpression.f k l) (e,n):=by
 obtain ⟨l',eo,h1,h2⟩:=open_eq l
 obtain ⟨e,s,g1,g2,g3⟩:=l7text_ev l' h1 (h2 hb)
 obtain ⟨n,hn,g4⟩:=num_ev l' h1 (h2 hb) s (by omega) [1,2,3,0,5,(-1),40,9223372036854775807] (by simp) (by simp)
 refine ⟨e,n,g1,?_,?_⟩
 ·simp only [List.mem_cons,List.not_mem_nil,or_false] at hn
  omega
 ·unfold spec_DrawExpandExpression.f
  exact Ev_eq eo (Ev.bind g3 (Ev.bind g4 (Ev.now _)))
theorem drawDepthOf_ev (l : List Int) (hb : Bytes l) : ∃ (e : ByteArray),e.size ≤ 1000 ∧ Ev (fun k => spec_DrawDepthOf.f k l) e:=by
 obtain ⟨l',eo,h1,h2⟩:=open_eq l
 obtain ⟨e,s,g1,g2,g3⟩:=l7text_ev l' h1 (h2 hb)
 refine ⟨e,g1,?_⟩
 unfold spec_DrawDepthOf.f
 exact Ev_eq eo (Ev.bind g3 (Ev.now _))
end Go.Proofs.Ytengegdaiphfeaa.Y
end
section
namespace Go.Proofs.Ytengegdaiphfeaa.Y
open Go.RowKit Go.Proofs.Ytengegdaiphfeaa.X Go.Proofs.YtengegdaiphfeaaW.PrintWords Go.Proofs.YtengegdaiphfeaaW.PrintLast Go.Proofs.YtengegdaiphfeaaW.PrintMore
set_option linter.unusedVariables false
set_option linter.unusedSimpArgs false
theorem prefix_eval (y : ByteArray) : strings_HasPrefix.f y ⟨#[41,35]⟩ = some ((L y).take 2 == [41,35]):=by
 have h2 : (⟨#[41,35]⟩ : ByteArray).size = 2:=rfl
 have hl : (⟨#[41,35]⟩ : ByteArray).toList = [41,35]:=by rw [toList_L];rfl
 unfold strings_HasPrefix.f stringslite_HasPrefix.f
 rw [h2,hl,toList_L,L_extract,L_size]
 cases h : L y with
 | nil => simp
 | cons a t =>
  cases t with
  | nil => simp
  | cons b t =>
   simp
   rw [if_pos (by omega),if_pos (by omega)]
theorem prefix_no {l : List UInt8} (h : ∀ e2,l ≠ 41 :: 35 :: e2) : (l.take 2 == [41,35]) = false:=by
 cases l with
 | nil => rfl
 | cons a t =>
  cases t with
  | nil => simp
  | cons b t =>
   simp
   rintro rfl rfl
   exact h t rfl
theorem parts_reads {e ps r} (h : Reads e ps r) : ∀ (x : ByteArray) (out : List S86),L x = e → out.length + x.size ≤ 1000000 →
  Ev (fun k => impl_readParts.l0 k x out) (out ++ ps,⟨r.toArray⟩):=by
 induction h with
 | done =>
  intro x out hx hn
  refine Ev.step (f:=fun _ => some (out,x)) (fun k => ?_) ((Ev.now _).is ?_)
  ·simp only [impl_readParts.l0];rw [if_pos (by rw [toList_L,hx])]
  ·simp;exact L_inj (by rw [hx];rfl)
 | letter c e ps r hc h ih =>
  intro x out hx hn
  have hz : x.size = e.length + 1:=by rw [L_size,hx];simp
  have hbt : bt x 0 = (c.toNat : Int):=by rw [bt_L,hx];simp
  have h1 : L (x.extract 1 x.size) = e:=by rw [L_extract,hx,L_size,hx];simp
  have h0 : x.extract 0 1 = ⟨#[c]⟩:=L_inj (by rw [L_extract,hx];simp [L])
  refine Ev.step (f:=fun k => impl_readParts.j1 k x out (bt x 0) true) (fun k => ?_) ?_
  ·simp only [impl_readParts.l0];rw [if_neg (by rw [toList_L,hx];simp),if_pos (by omega)]
   rcases hc with rfl|rfl
   ·rw [if_pos (by rw [hbt];rfl),show ((bt x 0) == 97) = true by rw [hbt];rfl]
   ·rw [if_neg (by rw [hbt];decide),show ((bt x 0) == 98) = true by rw [hbt];rfl]
  refine Ev.step (f:=fun k => impl_readParts.l0 k (x.extract 1 x.size) (out ++ [(⟨⟨#[c]⟩,[]⟩ : S86)])) (fun k => ?_) ?_
  ·simp only [impl_readParts.j1,if_true];rw [if_pos (by omega),if_pos (by omega),if_pos (by omega),h0]
  ·exact (ih (x.extract 1 x.size) _ h1 (by simp only [List.length_append,List.length_cons,List.length_nil];rw [L_size,h1];omega)).is (by simp)
 | again e w e2 ps r h1 hw h2 ih1 ih2 =>
  intro x out hx hn
  have hz : x.size = e.length + 1:=by rw [L_size,hx];simp
  have hbt : bt x 0 = 40:=by rw [bt_L,hx];rfl
  have he : L (x.extract 1 x.size) = e:=by rw [L_extract,hx,L_size,hx];simp
  have hle:=h1.le
  simp at hle
  refine Ev.step (f:=fun k => impl_readParts.j1 k x out 40 false) (fun k => ?_) ?_
  ·simp only [impl_readParts.l0];rw [if_neg (by rw [toList_L,hx];simp),if_pos (by omega),if_neg (by rw [hbt];decide),hbt];rfl
  refine Ev.step (f:=?f1) (fun k => ?h1) ?k1
  case h1 => simp only [impl_readParts.j1];rw [if_neg (by simp),if_pos trivial,if_pos (by omega)] <;> exact rfl
  have i1:=ih1 (x.extract 1 x.size) [] he (by simp only [List.length_nil];rw [L_size,he];omega)
  have hy : L (⟨(41 :: 35 :: e2 : List UInt8).toArray⟩ : ByteArray) = 41 :: 35 :: e2:=L_mk _
  have hyz : (⟨(41 :: 35 :: e2 : List UInt8).toArray⟩ : ByteArray).size = e2.length + 2:=by rw [L_size,hy];simp
  refine Ev.bind (a:=([] ++ w,⟨(41 :: 35 :: e2 : List UInt8).toArray⟩)) (Ev.step (fun k => by simp only [impl_readParts.f]) i1) ?_
  have hwl : 0 < w.length:=by cases w with
   | nil => exact absurd rfl hw
   | cons a b => simp
  have h2' : L ((⟨(41 :: 35 :: e2 : List UInt8).toArray⟩ : ByteArray).extract 2 (⟨(41 :: 35 :: e2 : List UInt8).toArray⟩ : ByteArray).size) = e2:=by rw [L_extract,hyz,hy];simp
  have i2:=ih2 _ (out ++ [(⟨⟨#[]⟩,w⟩ : S86)]) h2' (by rw [L_size _,h2'];simp only [List.length_append,List.length_cons,List.length_nil];omega)
  refine Ev.congr (fun k => ?_) (i2.is (by simp))
  dsimp only
  rw [List.nil_append,if_pos (by omega),prefix_eval,hy,show (List.take 2 (41 :: 35 :: e2) == [41,35]) = true from rfl,Option.bind_some,if_pos rfl,if_pos (by omega),if_pos (by omega)]
 | other c e c1 c2 c3 =>
  intro x out hx hn
  have hz : x.size = e.length + 1:=by rw [L_size,hx];simp
  have hbt : bt x 0 = (c.toNat : Int):=by rw [bt_L,hx];simp
  have hxe : x = ⟨(c :: e).toArray⟩:=L_inj (by rw [hx,L_mk])
  refine Ev.step (f:=fun k => impl_readParts.j1 k x out (bt x 0) false) (fun k => ?_) ?_
  ·simp only [impl_readParts.l0];rw [if_neg (by rw [toList_L,hx];simp),if_pos (by omega),if_neg (by rw [hbt];exact u8_ne c1),show ((bt x 0) == 98) = false by rw [hbt];simpa using u8_ne c2]
  refine Ev.step (f:=fun _ => some (out,x)) (fun k => ?_) ((Ev.now _).is (by rw [List.append_nil,← hxe]))
  ·simp only [impl_readParts.j1];rw [if_neg (by simp),if_neg (by rw [hbt];exact u8_ne c3)]
 | bad e w r1 h1 hw ih =>
  intro x out hx hn
  have hz : x.size = e.length + 1:=by rw [L_size,hx];simp
  have hbt : bt x 0 = 40:=by rw [bt_L,hx];rfl
  have he : L (x.extract 1 x.size) = e:=by rw [L_extract,hx,L_size,hx];simp
  have hxe : x = ⟨(40 :: e).toArray⟩:=L_inj (by rw [hx,L_mk])
  refine Ev.step (f:=fun k => impl_readParts.j1 k x out 40 false) (fun k => ?_) ?_
  ·simp only [impl_readParts.l0];rw [if_neg (by rw [toList_L,hx];simp),if_pos (by omega),if_neg (by rw [hbt];decide),hbt];rfl
  refine Ev.step (f:=?f2) (fun k => ?h2) ?k2
  case h2 => simp only [impl_readParts.j1];rw [if_neg (by simp),if_pos trivial,if_pos (by omega)] <;> exact rfl
  have i1:=ih (x.extract 1 x.size) [] he (by simp only [List.length_nil];rw [L_size,he];omega)
  refine Ev.bind (a:=([] ++ w,⟨r1.toArray⟩)) (Ev.step (fun k => by simp only [impl_readParts.f]) i1) ?_
  refine Ev.congr (f:=fun _ => some (out,x)) (fun k => ?_) ((Ev.now _).is (by rw [List.append_nil,← hxe]))
  dsimp only
  by_cases hwl : w = []
  ·subst hwl;rw [if_neg (by simp)]
  ·have hwl' : 0 < w.length:=by cases w with
    | nil => exact absurd rfl hwl
    | cons a b => simp
   have hn : ∀ e2,r1 ≠ 41 :: 35 :: e2:=by
    rcases hw with h'|h'
    ·exact absurd h' hwl
    ·exact h'
   rw [List.nil_append,if_pos (by omega),prefix_eval,L_mk,prefix_no hn,Option.bind_some,if_neg (by simp)]
theorem parts_eval (s : ByteArray) (hs : s.size ≤ 120) : ∃ ps r,Reads (L s) ps r ∧ Ev (fun k => impl_parts.f k s) (ps,decide (ps ≠ [] ∧ r = [])):=by
 obtain ⟨ps,r,h⟩:=reads_all (L s).length (L s) (Nat.le_refl _)
 refine ⟨ps,r,h,?_⟩
 have h1:=parts_reads h s [] rfl (by simp;omega)
 refine Ev.congr (f:=?f3) (fun k => ?h3) ?k3
 case h3 => unfold impl_parts.f;rw [if_neg (by omega)] <;> exact rfl
 refine Ev.bind (Ev.step (fun k => by simp only [impl_readParts.f]) h1) ?_
 refine Ev.congr (f:=fun _ => some (ps,decide (ps ≠ [] ∧ r = []))) (fun k => ?_) (Ev.now _)
 dsimp only
 rw [List.nil_append,toList_L,L_mk]
 cases ps with
 | nil => simp
 | cons p ps => simp;cases r <;> simp
theorem parts_long (s : ByteArray) (hs : 120 < s.size) : Ev (fun k => impl_parts.f k s) ([],false):=by
 refine Ev.congr (f:=fun _ => some ([],false)) (fun k => ?_) (Ev.now _)
 unfold impl_parts.f;rw [if_pos (by omega)]
theorem valid_eval (s : ByteArray) (hs : s.size ≤ 120) {ps r} (h : Reads (L s) ps r) : Ev (fun k => spec_ExpressionValid.f k s) (decide (ps ≠ [] ∧ r = [])):=by
 have h1:=end_reads h s [] 0 (by simp) (by omega) (by omega) (by simp)
 have hz : s.size = (L s).length:=L_size s
 refine Ev.congr (f:=?f4) (fun k => ?h4) ?k4
 case h4 => unfold spec_ExpressionValid.f;rw [if_pos (by omega)] <;> exact rfl
 refine Ev.bind (a:=endv s r 0) (Ev.step (fun k => by simp only [spec_l7End.f];rfl) h1) ?_
 refine Ev.congr (f:=fun _ => some (decide (ps ≠ [] ∧ r = []))) (fun k => ?_) (Ev.now _)
 by_cases hr : r = []
 ·subst hr
  by_cases hp : ps = []
  ·subst hp
   have:=h.none
   have h0 : s.size = 0:=by rw [hz,← this];rfl
   have e : endv s [] 0 = -1:=by unfold endv;rw [if_pos (.inl rfl),if_pos (by rw [h0];rfl)]
   rw [e,if_neg (by omega)];simp
  ·have:=h.some hp
   simp only [List.length_nil] at this
   have e : endv s [] 0 = s.size:=by unfold endv;rw [if_pos (.inl rfl),if_neg (by simp only [List.length_nil];omega)];simp
   rw [e,if_pos rfl]
   have hp2 : ps ≠ [] ∧ ([] : List UInt8) = []:=⟨hp,rfl⟩
   rw [decide_eq_true hp2,decide_eq_true (show (s.size : Int) > 0 by omega)]
 ·have hl : 0 < r.length:=by cases r with
   | nil => exact absurd rfl hr
   | cons a b => simp
  rw [if_neg (by unfold endv;split <;> (try split) <;> omega)];simp [hr]
theorem valid_long (s : ByteArray) (hs : 120 < s.size) : Ev (fun k => spec_ExpressionValid.f k s) false:=by
 refine Ev.congr (f:=fun _ => some false) (fun k => ?_) (Ev.now _)
 unfold spec_ExpressionValid.f;rw [if_neg (by omega)]
theorem valid_both (s : ByteArray) : ∃ b ps,Ev (fun k => spec_ExpressionValid.f k s) b ∧ Ev (fun k => impl_parts.f k s) (ps,b):=by
 by_cases h : s.size ≤ 120
 ·obtain ⟨ps,r,hr,hp⟩:=parts_eval s h
  exact ⟨_,ps,valid_eval s h hr,hp⟩
 ·exact ⟨false,[],valid_long s (by omega),parts_long s (by omega)⟩
end Go.Proofs.Ytengegdaiphfeaa.Y
end
section
namespace Go.Proofs.Ytengegdaiphfeaa.Y
open Go.RowKit Go.Proofs.Ytengegdaiphfeaa.X Go.Proofs.YtengegdaiphfeaaW.PrintWords Go.Proofs.YtengegdaiphfeaaW.PrintLast Go.Proofs.YtengegdaiphfeaaW.PrintMore
set_option linter.unusedVariables false
set_option linter.unusedSimpArgs false
theorem rep_pos (w : List UInt8) (i t : Nat) (h : i < t) : Lib.repeatL w (t - i) = w ++ Lib.repeatL w (t - (i + 1)):=by
 obtain ⟨d,rfl⟩ : ∃ d,t = i + (d + 1):=⟨t - i - 1,by omega⟩
 rw [show i + (d + 1) - i = d + 1 by omega,show i + (d + 1) - (i + 1) = d by omega];rfl
theorem sTimes (n : Int) (rest w : List UInt8) (t : Nat) (ht : (t : Int) ≤ 9223372036854775807) (hw : 1 ≤ w.length) (hw2 : w.length ≤ 1000000000) : ∀ (m i : Nat) (acc : List UInt8),i ≤ t → 1001 - acc.length ≤ m → acc.length ≤ 10000000000 →
  ∃ acc2 : List UInt8,(acc.length + (Lib.repeatL w (t - i)).length ≤ 1000 → acc2 = acc ++ Lib.repeatL w (t - i)) ∧ (1000 < acc.length + (Lib.repeatL w (t - i)).length → 1000 < acc2.length) ∧ acc2.length ≤ max acc.length (1000 + w.length)
   ∧ ∀ r,Ev (fun k => spec_l7Expand.l0 k (B rest) n (B acc2)) r → Ev (fun k => spec_l7Expand.l1 k n (B acc) (B rest) (B w) (t : Int) (i : Int)) r:=by
 intro m
 induction m with
 | zero =>
  intro i acc hi hm ha
  refine ⟨acc,fun h => by omega,fun _ => by omega,by omega,fun r hr => ?_⟩
  refine Ev.step (fun k => ?_) hr
  simp only [spec_l7Expand.l1]
  by_cases h : (i : Int) < (t : Int)
  ·rw [if_pos h,B_size,if_neg (by omega)]
  ·rw [if_neg h]
 | succ m ih =>
  intro i acc hi hm ha
  by_cases h : i < t
  ·by_cases hs : acc.length ≤ 1000
   ·have e:=rep_pos w i t h
    obtain ⟨acc2,h1,h2,h3,h4⟩:=ih (i + 1) (acc ++ w) h (by simp;omega) (by simp;omega)
    rw [List.length_append] at h1 h2 h3
    refine ⟨acc2,?_,?_,by omega,fun r hr => ?_⟩
    ·rw [e,List.length_append];intro hl;rw [h1 (by omega),List.append_assoc]
    ·rw [e,List.length_append];intro hl;exact h2 (by omega)
    ·refine Ev.step (fun k => ?_) (h4 r hr)
     simp only [spec_l7Expand.l1]
     rw [if_pos (by omega),B_size,B_size,if_pos (by omega),if_pos (by omega),B_add,w64 (x:=(i : Int) + 1) (by omega) (by omega)]
     rfl
   ·refine ⟨acc,fun hl => by omega,fun _ => by omega,by omega,fun r hr => ?_⟩
    refine Ev.step (fun k => ?_) hr
    simp only [spec_l7Expand.l1]
    rw [if_pos (by omega),B_size,if_neg (by omega)]
  ·have e : t - i = 0:=by omega
   rw [e]
   refine ⟨acc,fun _ => by simp [Lib.repeatL],fun hl => by simpa [Lib.repeatL] using hl,by omega,fun r hr => ?_⟩
   refine Ev.step (fun k => ?_) hr
   simp only [spec_l7Expand.l1]
   rw [if_neg (by omega)]
theorem times_fit (a m : Nat) (n : Nat) (hm : 1 ≤ m) (ha : a ≤ 1000) : ((n : Int) > wrap64 (Int.tdiv (wrap64 (1000 - (a : Int))) (m : Int))) ↔ 1000 < a + n * m:=by
 have e1 : wrap64 (1000 - (a : Int)) = ((1000 - a : Nat) : Int):=by rw [w64 (x:=1000 - (a : Int)) (by omega) (by omega)];omega
 have hq : (1000 - a) / m ≤ 1000 - a:=Nat.div_le_self _ _
 have e2 : wrap64 (Int.tdiv ((1000 - a : Nat) : Int) (m : Int)) = (((1000 - a) / m : Nat) : Int):=by
  rw [tdiv_nat]
  obtain ⟨q,hq2⟩ : ∃ q,(1000 - a) / m = q:=⟨_,rfl⟩
  rw [hq2] at hq ⊢
  clear e1 hq2
  rw [w64 (x:=(q : Int)) (by omega) (by omega)]
 rw [e1,e2]
 clear e1 e2
 have h:=Nat.div_lt_iff_lt_mul (x:=1000 - a) (y:=n) hm
 constructor
 ·intro g
  have : (1000 - a) / m < n:=by omega
  have:=h.mp this
  omega
 ·intro g
  have : (1000 - a) / m < n:=h.mpr (by omega)
  omega
theorem iTimes (w : List UInt8) (t : Nat) (a : Nat) (ha : a ≤ 1000) (hw : 1 ≤ w.length) (h : ¬ 1000 < a + t * w.length) : strings_Repeat.f (B w) (t : Int) = some (B (Lib.repeatL w t)):=by
 have ht : t ≤ t * w.length:=Nat.le_mul_of_pos_right _ hw
 unfold strings_Repeat.f
 rw [if_pos ⟨Int.natCast_nonneg _,by omega,by rw [B_size,Int.toNat_natCast,Nat.mul_comm];omega⟩,B_toList,Int.toNat_natCast]
 rfl
inductive XP (t : Nat) : List S86 → List UInt8 → Prop
 | nil : XP t [] []
 | cons (p : S86) (ps : List S86) (Y X : List UInt8) : XP t p.f1 Y → XP t ps X → XP t (p :: ps) ((if L p.f0 = [] then Lib.repeatL Y t else L p.f0) ++ X)
theorem XP.fn {t : Nat} {ps : List S86} {X : List UInt8} (h : XP t ps X) : ∀ {X' : List UInt8},XP t ps X' → X = X':=by
 induction h with
 | nil => intro X' h';cases h';rfl
 | cons p ps Y X _ _ ih1 ih2 =>
  intro X' h'
  cases h' with
  | cons _ _ Y' X2 h1 h2 => rw [ih1 h1,ih2 h2]
theorem XP.app {t : Nat} {ps : List S86} {X : List UInt8} (h : XP t ps X) : ∀ {qs : List S86} {Y : List UInt8},XP t qs Y → XP t (ps ++ qs) (X ++ Y):=by
 induction h with
 | nil => intro qs Y h';exact h'
 | cons p ps Y X h1 _ _ ih2 =>
  intro qs Z h'
  rw [List.append_assoc]
  exact XP.cons p (ps ++ qs) Y (X ++ Z) h1 (ih2 h')
theorem XP.letter (t : Nat) (c : UInt8) (ps : List S86) (X : List UInt8) (h : XP t ps X) : XP t ((⟨⟨#[c]⟩,[]⟩ : S86) :: ps) ([c] ++ X):=XP.cons (⟨⟨#[c]⟩,[]⟩ : S86) ps [] X XP.nil h
theorem XP.again (t : Nat) (w ps : List S86) (Y X : List UInt8) (h1 : XP t w Y) (h2 : XP t ps X) : XP t ((⟨⟨#[]⟩,w⟩ : S86) :: ps) (Lib.repeatL Y t ++ X):=XP.cons (⟨⟨#[]⟩,w⟩ : S86) ps Y X h1 h2
def exR (acc X : List UInt8) : ByteArray × Bool:=if acc.length + X.length ≤ 1000 then (B (acc ++ X),true) else (B [],false)
theorem exR_nil (acc : List UInt8) (h : acc.length ≤ 1000) : exR acc [] = (B acc,true):=by unfold exR;rw [if_pos (by simpa using h)];simp
theorem exR_app (acc X Y : List UInt8) : exR (acc ++ X) Y = exR acc (X ++ Y):=by unfold exR;rw [List.length_append,List.length_append,List.append_assoc,Nat.add_assoc]
theorem expand_reads (t : Nat) (ht0 : 1 ≤ t) (ht : (t : Int) ≤ 9223372036854775807) (n : Nat) : ∀ (e : List UInt8) (ps : List S86),e.length ≤ n → n ≤ 1000 → Reads e ps [] → ∃ X : List UInt8,XP t ps X ∧ (ps ≠ [] → 1 ≤ X.length) ∧
  (∀ acc : List UInt8,acc.length ≤ 10000000 → ∃ v : List UInt8,Ev (fun k => spec_l7Expand.l0 k (B e) (t : Int) (B acc)) (B v) ∧ v.length ≤ max acc.length (1000 * (n + 1) + 1) ∧ (acc.length + X.length ≤ 1000 → v = acc ++ X) ∧ (1000 < acc.length + X.length → 1000 < v.length)) ∧
  (∀ (pre : List S86) (acc : List UInt8),pre.length + ps.length ≤ 1000000 → acc.length ≤ 1000 → Ev (fun k => impl_expand.l0 k (t : Int) (B acc) (pre ++ ps) ((pre ++ ps).length) pre.length) (exR acc X)):=by
 have stop : ∀ acc : List UInt8,Ev (fun k => spec_l7Expand.l0 k (B []) (t : Int) (B acc)) (B acc):=by
  intro acc
  refine Ev.step (f:=fun k => spec_l7Expand.j1 k (B []) (t : Int) (B acc) false) (fun k => ?_) ?_
  ·simp only [spec_l7Expand.l0];rw [if_pos (by rw [toList_L];unfold B;rw [L_mk])]
  ·refine Ev.step (f:=fun _ => some (B acc)) (fun k => ?_) (Ev.now _)
   simp only [spec_l7Expand.j1];rw [if_neg (by simp)]
 have full : ∀ (e acc : List UInt8),e ≠ [] → 1000 < acc.length → Ev (fun k => spec_l7Expand.l0 k (B e) (t : Int) (B acc)) (B acc):=by
  intro e acc he ha
  refine Ev.step (f:=fun k => spec_l7Expand.j1 k (B e) (t : Int) (B acc) false) (fun k => ?_) ?_
  ·simp only [spec_l7Expand.l0];rw [if_neg (by rw [toList_L];unfold B;rw [L_mk];exact he)]
   have : decide (((B acc).size : Int) ≤ 1000) = false:=by rw [B_size];exact decide_eq_false (by omega)
   rw [this]
  ·refine Ev.step (f:=fun _ => some (B acc)) (fun k => ?_) (Ev.now _)
   simp only [spec_l7Expand.j1];rw [if_neg (by simp)]
 have enter : ∀ (e acc : List UInt8) (r : ByteArray),e ≠ [] → acc.length ≤ 1000 → Ev (fun k => spec_l7Expand.j1 k (B e) (t : Int) (B acc) true) r → Ev (fun k => spec_l7Expand.l0 k (B e) (t : Int) (B acc)) r:=by
  intro e acc r he ha h
  refine Ev.step (fun k => ?_) h
  simp only [spec_l7Expand.l0];rw [if_neg (by rw [toList_L];unfold B;rw [L_mk];exact he)]
  have : decide (((B acc).size : Int) ≤ 1000) = true:=by rw [B_size];exact decide_eq_true (by omega)
  rw [this]
 have iend : ∀ (pre : List S86) (acc : List UInt8),acc.length ≤ 1000 → Ev (fun k => impl_expand.l0 k (t : Int) (B acc) (pre ++ []) ((pre ++ []).length) pre.length) (exR acc []):=by
  intro pre acc ha
  rw [exR_nil acc ha]
  refine Ev.step (f:=fun _ => some (B acc,true)) (fun k => ?_) (Ev.now _)
  simp only [impl_expand.l0];rw [if_neg (by simp)]
 induction n with
 | zero =>
  intro e ps hn hm h
  have he : e = []:=List.length_eq_zero_iff.mp (by omega)
  subst he
  cases h
  exact ⟨[],XP.nil,fun h => absurd rfl h,fun acc ha => ⟨acc,stop acc,by omega,fun _ => by simp,fun h => by simpa using h⟩,fun pre acc _ ha => iend pre acc ha⟩
 | succ n ih =>
  intro e ps hn hm h
  cases h with
  | done => exact ⟨[],XP.nil,fun h => absurd rfl h,fun acc ha => ⟨acc,stop acc,by omega,fun _ => by simp,fun h => by simpa using h⟩,fun pre acc _ ha => iend pre acc ha⟩
  | letter c e ps _ hc h =>
   simp only [List.length_cons] at hn
   obtain ⟨X,xp,_,i1,i2⟩:=ih e ps (by omega) (by omega) h
   refine ⟨[c] ++ X,XP.letter t c ps X xp,fun _ => by simp,?_,?_⟩
   ·intro acc ha
    by_cases hs : acc.length ≤ 1000
    ·obtain ⟨acc2,g1,g2,g3,g4⟩:=sTimes (t : Int) e [c] 1 (by omega) (by simp) (by simp) 1001 0 acc (by omega) (by omega) (by omega)
     have er : Lib.repeatL [c] (1 - 0) = [c]:=Lib.repeatL_one _
     rw [er] at g1 g2
     simp only [List.length_cons,List.length_nil] at g1 g2 g3
     obtain ⟨v,v1,v2,v3,v4⟩:=i1 acc2 (by omega)
     refine ⟨v,?_,by omega,?_,?_⟩
     ·refine enter _ acc _ (by simp) hs ?_
      refine Ev.step (f:=?f1) (fun k => ?h1) ?k1
      case h1 => simp only [spec_l7Expand.j1];rw [if_pos trivial] <;> exact rfl
      refine Ev.bind (next_letter (B (c :: e)) c e (by unfold B;rw [L_mk]) hc) (Ev_f (by simp) ?_)
      refine Ev.step (fun k => ?_) (g4 _ v1)
      simp only [spec_l7Expand.j2];rfl
     ·intro hl
      simp only [List.length_append,List.length_cons,List.length_nil] at hl
      have q:=g1 (by omega)
      rw [v3 (by rw [q];simp;omega),q];simp
     ·intro hl
      simp only [List.length_append,List.length_cons,List.length_nil] at hl
      apply v4
      by_cases q : acc.length + (0 + 1) ≤ 1000
      ·rw [g1 q];simp;omega
      ·have:=g2 (by omega);omega
    ·exact ⟨acc,full _ acc (by simp) (by omega),by omega,fun hl => by omega,fun _ => by omega⟩
   ·intro pre acc hp ha
    simp only [List.length_cons] at hp
    have i2':=i2 (pre ++ [(⟨⟨#[c]⟩,[]⟩ : S86)]) (acc ++ [c]) (by simp;omega)
    have tf:=times_fit acc.length 1 1 (by omega) ha
    refine Ev.step (f:=?f2) (fun k => ?h2) ?k2
    case h2 =>
     simp only [impl_expand.l0]
     rw [if_pos (by simp;omega),if_pos (by omega),if_pos (by simp;omega),rd_at,if_neg (by rw [toList_L];simp [L]),if_neg (show ¬ (((⟨#[c]⟩ : ByteArray).size : Nat) : Int) = 0 from by show ¬ ((1 : Nat) : Int) = 0;omega),w64 (x:=(pre.length : Int) + 1) (by omega) (by omega)] <;> exact rfl
    by_cases q : 1000 < acc.length + 1 * 1
    ·refine Ev_t (by rw [B_size];exact tf.mpr q) ((Ev.now _).is ?_)
     unfold exR;rw [if_neg (by simp only [List.length_append,List.length_cons,List.length_nil];omega)];rfl
    ·refine Ev_f (by rw [B_size];exact fun z => q (tf.mp z)) ?_
     have it:=iTimes [c] 1 acc.length ha (by simp) (by simpa using q)
     rw [Lib.repeatL_one] at it
     refine Ev_eq it ?_
     refine Ev_t (by rw [B_size,B_size];simp;omega) ?_
     rw [← exR_app]
     have:=i2' (by simp;omega)
     refine Ev.congr (fun k => ?_) this
     rw [B_add];simp
  | again e w e2 ps _ h hw h2 =>
   simp only [List.length_cons] at hn
   obtain ⟨v0,hv⟩:=h.suffix
   have hel:=congrArg List.length hv
   simp only [List.length_append,List.length_cons] at hel
   obtain ⟨Y,yp,y0,j1,j2⟩:=ih v0 w (by omega) (by omega) (reads_inner h hv)
   obtain ⟨X,xp,_,i1,i2⟩:=ih e2 ps (by omega) (by omega) h2
   have hY:=y0 hw
   have hrl:=Lib.repeatL_length Y t
   have htY : t * 1 ≤ t * Y.length:=Nat.mul_le_mul_left t hY
   refine ⟨Lib.repeatL Y t ++ X,XP.again t w ps Y X yp xp,fun _ => by rw [List.length_append,hrl];omega,?_,?_⟩
   ·intro acc ha
    by_cases hs : acc.length ≤ 1000
    ·obtain ⟨u,u1,u2,u3,u4⟩:=j1 [] (by simp)
     simp only [List.length_nil,Nat.zero_add,List.nil_append] at u2 u3 u4
     have hu1 : 1 ≤ u.length:=by
      by_cases q : Y.length ≤ 1000
      ·rw [u3 q];exact hY
      ·have:=u4 (by omega);omega
     obtain ⟨acc2,g1,g2,g3,g4⟩:=sTimes (t : Int) e2 u t ht hu1 (by omega) 1001 0 acc (by omega) (by omega) (by omega)
     have hru:=Lib.repeatL_length u t
     have htu : t * 1 ≤ t * u.length:=Nat.mul_le_mul_left t hu1
     have htu2 : 1 * u.length ≤ t * u.length:=Nat.mul_le_mul_right _ ht0
     have htY2 : 1 * Y.length ≤ t * Y.length:=Nat.mul_le_mul_right _ ht0
     rw [Nat.sub_zero,hru] at g1 g2
     obtain ⟨v,v1,v2,v3,v4⟩:=i1 acc2 (by omega)
     refine ⟨v,?_,by omega,?_,?_⟩
     ·refine enter _ acc _ (by simp) hs ?_
      refine Ev.step (f:=?f3) (fun k => ?h3) ?k3
      case h3 => simp only [spec_l7Expand.j1];rw [if_pos trivial] <;> exact rfl
      refine Ev.bind (next_again (B (40 :: e)) e v0 e2 w (by unfold B;rw [L_mk]) hv h hw (by rw [B_size];simp;omega)) (Ev_t rfl ?_)
      refine Ev.bind (a:=B u) ?_ ?_
      ·refine Ev.step (fun k => ?_) u1
       simp only [spec_l7Expand.f];rfl
      ·refine Ev.step (fun k => ?_) (g4 _ v1)
       simp only [spec_l7Expand.j2];rfl
     ·intro hl
      rw [List.length_append,hrl] at hl
      have q:=u3 (by omega)
      subst q
      have q2:=g1 (by omega)
      rw [v3 (by rw [q2,List.length_append,hru];omega),q2,List.append_assoc]
     ·intro hl
      rw [List.length_append,hrl] at hl
      apply v4
      by_cases q : Y.length ≤ 1000
      ·have q2:=u3 q
       subst q2
       by_cases q3 : acc.length + t * u.length ≤ 1000
       ·rw [g1 q3,List.length_append,hru];omega
       ·have:=g2 (by omega);omega
      ·have:=u4 (by omega)
       have:=g2 (by omega)
       omega
    ·exact ⟨acc,full _ acc (by simp) (by omega),by omega,fun hl => by omega,fun _ => by omega⟩
   ·intro pre acc hp ha
    simp only [List.length_cons] at hp
    have htY2 : 1 * Y.length ≤ t * Y.length:=Nat.mul_le_mul_right _ ht0
    have hwl:=(reads_inner h hv).parts
    have i2':=i2 (pre ++ [(⟨⟨#[]⟩,w⟩ : S86)]) (acc ++ Lib.repeatL Y t) (by simp;omega)
    have j2':=j2 [] [] (by simp;simp at hwl;omega) (by simp)
    refine Ev.step (f:=?f4) (fun k => ?h4) ?k4
    case h4 =>
     simp only [impl_expand.l0]
     rw [if_pos (by simp;omega),if_pos (by omega),if_pos (by simp;omega),rd_at,if_pos (by rw [toList_L];simp [L]),w64 (x:=(pre.length : Int) + 1) (by omega) (by omega)] <;> exact rfl
    refine Ev.bind (a:=exR [] Y) (Ev.step (fun k => by simp only [impl_expand.f];rfl) j2') ?_
    by_cases hy : Y.length ≤ 1000
    ·have eR : exR [] Y = (B Y,true):=by unfold exR;rw [if_pos (by simpa using hy)];rfl
     rw [eR]
     refine Ev_t rfl (Ev_f (by show ¬ ((B Y).size : Int) = 0;rw [B_size];omega) ?_)
     have tf:=times_fit acc.length Y.length t hY ha
     by_cases q : 1000 < acc.length + t * Y.length
     ·refine Ev_t (by show (t : Int) > wrap64 (Int.tdiv (wrap64 (1000 - ((B acc).size : Int))) ((B Y).size : Int));rw [B_size,B_size];exact tf.mpr q) ((Ev.now _).is ?_)
      unfold exR;rw [if_neg (by rw [List.length_append,hrl];omega)];rfl
     ·refine Ev_f (by show ¬ (t : Int) > wrap64 (Int.tdiv (wrap64 (1000 - ((B acc).size : Int))) ((B Y).size : Int));rw [B_size,B_size];exact fun z => q (tf.mp z)) ?_
      refine Ev_eq (iTimes Y t acc.length ha hY q) ?_
      refine Ev_t (by rw [B_size,B_size,hrl];omega) ?_
      rw [← exR_app]
      have:=i2' (by rw [List.length_append,hrl];omega)
      refine Ev.congr (fun k => ?_) this
      rw [B_add];simp
    ·have eR : exR [] Y = (B [],false):=by unfold exR;rw [if_neg (by simpa using hy)]
     rw [eR]
     refine Ev_f (by simp) ((Ev.now _).is ?_)
     unfold exR;rw [if_neg (by rw [List.length_append,hrl];omega)];rfl
theorem expand_both (s : ByteArray) (n : Int) (hn : n ≤ 9223372036854775807) : ∃ v : ByteArray × Bool,Ev (fun k => spec_ExpandExpression.f k s n) v ∧ Ev (fun k => impl_ExpandExpression.f k s n) v:=by
 have off : ∀ (b : Bool),b = true → Ev (fun k => spec_ExpandExpression.j0 k s n b) (B [],false):=by
  intro b hb
  refine Ev.step (f:=fun _ => some (B [],false)) (fun k => ?_) (Ev.now _)
  simp only [spec_ExpandExpression.j0];rw [if_pos hb];rfl
 have no : ∀ ps,Ev (fun k => spec_ExpressionValid.f k s) false → Ev (fun k => impl_parts.f k s) (ps,false) → ∃ v : ByteArray × Bool,Ev (fun k => spec_ExpandExpression.f k s n) v ∧ Ev (fun k => impl_ExpandExpression.f k s n) v:=by
  intro ps hv hp
  refine ⟨(B [],false),?_,?_⟩
  ·unfold spec_ExpandExpression.f
   exact Ev.bind hv (Ev_f (by simp) (off true rfl))
  ·unfold impl_ExpandExpression.f
   exact Ev.bind hp (Ev_f (by simp) (Ev.now _))
 by_cases h : s.size ≤ 120
 ·obtain ⟨ps,r,hr,hp⟩:=parts_eval s h
  have hv:=valid_eval s h hr
  have hle:=hr.parts
  rw [← L_size] at hle
  by_cases hb : ps ≠ [] ∧ r = []
  ·rw [decide_eq_true hb] at hv hp
   obtain ⟨hb1,rfl⟩:=hb
   by_cases h1 : n < 1
   ·refine ⟨(B [],false),?_,?_⟩
    ·unfold spec_ExpandExpression.f
     exact Ev.bind hv (Ev_t rfl (off _ (decide_eq_true h1)))
    ·unfold impl_ExpandExpression.f
     exact Ev.bind hp (Ev_t rfl (Ev_t h1 (Ev.now _)))
   ·obtain ⟨t,rfl⟩ : ∃ t : Nat,n = (t : Int):=⟨n.toNat,by omega⟩
    obtain ⟨X,_,_,i1,i2⟩:=expand_reads t (by omega) hn (L s).length (L s) ps (Nat.le_refl _) (by rw [← L_size];omega) hr
    obtain ⟨v,v1,v2,v3,v4⟩:=i1 [] (by simp)
    simp only [List.length_nil,Nat.zero_add,List.nil_append] at v2 v3 v4
    rw [B_L] at v1
    refine ⟨exR [] X,?_,?_⟩
    ·unfold spec_ExpandExpression.f
     refine Ev.bind hv (Ev_t rfl ?_)
     refine Ev.step (f:=?f5) (fun k => ?h5) ?k5
     case h5 => simp only [spec_ExpandExpression.j0];rw [decide_eq_false h1,if_neg (by simp)] <;> exact rfl
     refine Ev.bind (a:=B v) (Ev.step (fun k => by simp only [spec_l7Expand.f];rfl) v1) ?_
     by_cases hX : X.length ≤ 1000
     ·rw [v3 hX]
      refine Ev_f (by rw [B_size];omega) ((Ev.now _).is ?_)
      unfold exR;rw [if_pos (by simpa using hX)];rfl
     ·refine Ev_t (by rw [B_size];have:=v4 (by omega);omega) ((Ev.now _).is ?_)
      unfold exR;rw [if_neg (by simpa using hX)];rfl
    ·unfold impl_ExpandExpression.f
     refine Ev.bind hp (Ev_t rfl (Ev_f h1 ?_))
     exact Ev.bind (Ev.step (fun k => by simp only [impl_expand.f];rfl) (i2 [] [] (by simp;omega) (by simp))) (Ev.now _)
  ·rw [decide_eq_false hb] at hv hp
   exact no ps hv hp
 ·exact no [] (valid_long s (by omega)) (parts_long s (by omega))
end Go.Proofs.Ytengegdaiphfeaa.Y
end
section
namespace Go.Proofs.Ytengegdaiphfeaa.Y
open Go.RowKit Go.Proofs.Ytengegdaiphfeaa.X Go.Proofs.YtengegdaiphfeaaW.PrintWords Go.Proofs.YtengegdaiphfeaaW.PrintLast Go.Proofs.YtengegdaiphfeaaW.PrintMore
set_option linter.unusedVariables false
set_option linter.unusedSimpArgs false
def wOk (c : UInt8) : Bool:=c == 97 || c == 98
def wordB (l : List UInt8) : Bool:=l.all wOk && decide (l.length ≤ 1000)
theorem iWord_loop (s : ByteArray) (hn : s.size ≤ 4000000) : ∀ (e u : List UInt8),L s = u ++ e → Ev (fun k => impl_WordValid.l0 k s s.size u.length) (e.all wOk && decide (s.size ≤ 1000)):=by
 intro e
 induction e with
 | nil =>
  intro u h
  have hz:=size_suffix h
  simp only [List.length_nil] at hz
  refine Ev.step (f:=fun _ => some (decide (s.size ≤ 1000))) (fun k => ?_) ((Ev.now _).is (by simp))
  simp only [impl_WordValid.l0]
  rw [if_neg (by omega)]
  congr 1
  exact decide_eq_decide.mpr (by omega)
 | cons c e ih =>
  intro u h
  have hz:=size_suffix h
  simp only [List.length_cons] at hz
  have hbt:=bt_suffix h
  have hl : (u.length : Int) + 1 = (((u ++ [c]).length : Nat) : Int):=by simp
  have h2:=ih (u ++ [c]) (by rw [h];simp)
  by_cases h97 : c = 97
  ·subst h97
   refine Ev.step (fun k => ?_) (h2.is (by rfl))
   simp only [impl_WordValid.l0]
   rw [if_pos (by omega),if_pos (by omega),if_pos (by omega),hbt,if_pos (show (((97 : UInt8).toNat : Nat) : Int) = 97 from rfl),w64 (x:=(u.length : Int) + 1) (by omega) (by omega),hl]
  ·by_cases h98 : c = 98
   ·subst h98
    refine Ev.step (fun k => ?_) (h2.is (by rfl))
    simp only [impl_WordValid.l0]
    rw [if_pos (by omega),if_pos (by omega),if_pos (by omega),hbt,if_neg (by decide),if_pos (show (((98 : UInt8).toNat : Nat) : Int) = 98 from rfl),w64 (x:=(u.length : Int) + 1) (by omega) (by omega),hl]
   ·have hw : wOk c = false:=by unfold wOk;simp [h97,h98]
    refine Ev.step (f:=fun _ => some false) (fun k => ?_) ((Ev.now _).is (by simp [hw]))
    simp only [impl_WordValid.l0]
    rw [if_pos (by omega),if_pos (by omega),if_pos (by omega),hbt,if_neg (show ¬ ((c.toNat : Int) = 97) from u8_ne h97),if_neg (show ¬ ((c.toNat : Int) = 98) from u8_ne h98)]
theorem iWord_ev (s : ByteArray) (hn : s.size ≤ 4000000) : Ev (fun k => impl_WordValid.f k s) (wordB (L s)):=by
 have h:=iWord_loop s hn (L s) [] rfl
 unfold impl_WordValid.f wordB
 rw [← L_size]
 exact h
end Go.Proofs.Ytengegdaiphfeaa.Y
end
section
namespace Go.Proofs.Ytengegdaiphfeaa.Y
open Go.RowKit Go.Proofs.Ytengegdaiphfeaa.X Go.Proofs.YtengegdaiphfeaaW.PrintWords Go.Proofs.YtengegdaiphfeaaW.PrintLast Go.Proofs.YtengegdaiphfeaaW.PrintMore
set_option linter.unusedVariables false
set_option linter.unusedSimpArgs false
theorem reads_app {e ps r} (h : Reads e ps r) : r = [] → ∀ {f : List UInt8} {qs : List S86} {r' : List UInt8},Reads f qs r' → Reads (e ++ f) (ps ++ qs) r':=by
 induction h with
 | done => intro _ f qs r' hf;exact hf
 | letter c e ps r hc h ih => intro hr f qs r' hf;exact Reads.letter c (e ++ f) (ps ++ qs) r' hc (ih hr hf)
 | again e w e2 ps r h1 hw h2 ih1 ih2 =>
  intro hr f qs r' hf
  obtain ⟨v,rfl⟩:=h1.suffix
  have a:=reads_cut h1 (Or.inr rfl) v rfl (41 :: 35 :: (e2 ++ f)) (Or.inr rfl)
  have k:=Reads.again _ w (e2 ++ f) (ps ++ qs) r' a hw (ih2 hr hf)
  simpa using k
 | other c e => intro hr;cases hr
 | bad e w r1 => intro hr;cases hr
theorem rep_all (Y : List UInt8) (h : Y.all wOk = true) : ∀ t,(Lib.repeatL Y t).all wOk = true
 | 0 => rfl
 | t + 1 => by rw [Lib.repeatL,List.all_append,h,rep_all Y h t];rfl
theorem xp_ok {t : Nat} {e ps r} (h : Reads e ps r) : ∀ {X : List UInt8},XP t ps X → X.all wOk = true:=by
 induction h with
 | done => intro X hX;cases hX;rfl
 | letter c e ps r hc h ih =>
  intro X hX
  cases hX with
  | cons _ _ Y X2 h1 h2 =>
   have e0 : L (⟨#[c]⟩ : ByteArray) = [c]:=rfl
   show ((if L (⟨#[c]⟩ : ByteArray) = [] then Lib.repeatL Y t else L (⟨#[c]⟩ : ByteArray)) ++ X2).all wOk = true
   rw [e0,if_neg (by simp),List.all_append,ih h2]
   rcases hc with rfl|rfl <;> rfl
 | again e w e2 ps r h1 hw h2 ih1 ih2 =>
  intro X hX
  cases hX with
  | cons _ _ Y X2 g1 g2 =>
   show ((if L (⟨#[]⟩ : ByteArray) = [] then Lib.repeatL Y t else L (⟨#[]⟩ : ByteArray)) ++ X2).all wOk = true
   rw [if_pos (show L (⟨#[]⟩ : ByteArray) = [] from rfl),List.all_append,ih2 g2,rep_all Y (ih1 g1) t];rfl
 | other c e => intro X hX;cases hX;rfl
 | bad e w r1 => intro X hX;cases hX;rfl
theorem dp_zero {t : Nat} {e ps r} (h : Reads e ps r) : r = [] → ∀ {X : List UInt8} {d : Nat},DP ps d → d = 0 → XP t ps X → X = e:=by
 induction h with
 | done => intro _ X d _ _ hX;cases hX;rfl
 | letter c e ps r hc h ih =>
  intro hr X d hd h0 hX
  cases hd with
  | cons _ _ a b d1 d2 =>
   cases hX with
   | cons _ _ Y X2 h1 h2 =>
    have e0 : L (⟨#[c]⟩ : ByteArray) = [c]:=rfl
    have h0' : (if L (⟨#[c]⟩ : ByteArray) = [] then max (a + 1) b else b) = 0:=h0
    show (if L (⟨#[c]⟩ : ByteArray) = [] then Lib.repeatL Y t else L (⟨#[c]⟩ : ByteArray)) ++ X2 = c :: e
    rw [e0,if_neg (by simp)] at h0'
    rw [e0,if_neg (by simp),ih hr d2 h0' h2];rfl
 | again e w e2 ps r h1 hw h2 ih1 ih2 =>
  intro hr X d hd h0 hX
  cases hd with
  | cons _ _ a b d1 d2 =>
   have h0' : (if L (⟨#[]⟩ : ByteArray) = [] then max (a + 1) b else b) = 0:=h0
   rw [if_pos (show L (⟨#[]⟩ : ByteArray) = [] from rfl)] at h0'
   omega
 | other c e => intro hr;cases hr
 | bad e w r1 => intro hr;cases hr
theorem parts_of (s : ByteArray) (hs : s.size ≤ 120) {ps r} (h : Reads (L s) ps r) : Ev (fun k => impl_parts.f k s) (ps,decide (ps ≠ [] ∧ r = [])):=by
 have hz:=L_size s
 have h1:=parts_reads h s [] rfl (by simp;omega)
 refine Ev.congr (f:=?f1) (fun k => ?h1) ?k1
 case h1 => unfold impl_parts.f;rw [if_neg (by omega)] <;> exact rfl
 refine Ev.bind (Ev.step (fun k => by simp only [impl_readParts.f]) h1) ?_
 refine Ev.congr (f:=fun _ => some (ps,decide (ps ≠ [] ∧ r = []))) (fun k => ?_) (Ev.now _)
 dsimp only
 rw [List.nil_append,toList_L,L_mk]
 cases ps with
 | nil => simp
 | cons p ps => simp;cases r <;> simp
structure GoodE (s : ByteArray) (ps : List S86) : Prop where
 small : s.size ≤ 120
 reads : Reads (L s) ps []
 some : ps ≠ []
theorem good_parts {s ps} (h : GoodE s ps) : Ev (fun k => impl_parts.f k s) (ps,true):=(parts_of s h.small h.reads).is (by rw [decide_eq_true ⟨h.some,rfl⟩])
theorem good_valid {s ps} (h : GoodE s ps) : Ev (fun k => spec_ExpressionValid.f k s) true:=(valid_eval s h.small h.reads).is (decide_eq_true ⟨h.some,rfl⟩)
theorem good_ivalid {s ps} (h : GoodE s ps) : Ev (fun k => impl_ExpressionValid.f k s) true:=by
 unfold impl_ExpressionValid.f
 exact Ev.bind (good_parts h) (Ev.now _)
theorem good_or (s : ByteArray) : (∃ ps,GoodE s ps) ∨ (Ev (fun k => spec_ExpressionValid.f k s) false ∧ ∃ ps,Ev (fun k => impl_parts.f k s) (ps,false)):=by
 by_cases h : s.size ≤ 120
 ·obtain ⟨ps,r,hr,hp⟩:=parts_eval s h
  have hv:=valid_eval s h hr
  by_cases hb : ps ≠ [] ∧ r = []
  ·obtain ⟨hb1,rfl⟩:=hb
   exact Or.inl ⟨ps,⟨h,hr,hb1⟩⟩
  ·rw [decide_eq_false hb] at hv hp
   exact Or.inr ⟨hv,ps,hp⟩
 ·exact Or.inr ⟨valid_long s (by omega),[],parts_long s (by omega)⟩
theorem good_expand {s ps} (h : GoodE s ps) (t : Nat) (h1 : 1 ≤ t) (ht : (t : Int) ≤ 9223372036854775807) : ∃ X : List UInt8,XP t ps X ∧ 1 ≤ X.length ∧
  Ev (fun k => spec_ExpandExpression.f k s (t : Int)) (exR [] X) ∧ Ev (fun k => impl_ExpandExpression.f k s (t : Int)) (exR [] X):=by
 have hle:=h.reads.parts
 have hsm:=h.small
 rw [← L_size] at hle
 obtain ⟨X,xp,x0,i1,i2⟩:=expand_reads t h1 ht (L s).length (L s) ps (Nat.le_refl _) (by rw [← L_size];omega) h.reads
 obtain ⟨v,v1,v2,v3,v4⟩:=i1 [] (by simp)
 simp only [List.length_nil,Nat.zero_add,List.nil_append] at v2 v3 v4
 rw [B_L] at v1
 refine ⟨X,xp,x0 h.some,?_,?_⟩
 ·unfold spec_ExpandExpression.f
  refine Ev.bind (good_valid h) (Ev_t rfl ?_)
  refine Ev.step (f:=?f2) (fun k => ?h2) ?k2
  case h2 => simp only [spec_ExpandExpression.j0];rw [decide_eq_false (show ¬ (t : Int) < 1 by omega),if_neg (by simp)] <;> exact rfl
  refine Ev.bind (a:=B v) (Ev.step (fun k => by simp only [spec_l7Expand.f];rfl) v1) ?_
  by_cases hX : X.length ≤ 1000
  ·rw [v3 hX]
   refine Ev_f (by rw [B_size];omega) ((Ev.now _).is ?_)
   unfold exR;rw [if_pos (by simpa using hX)];rfl
  ·refine Ev_t (by rw [B_size];have:=v4 (by omega);omega) ((Ev.now _).is ?_)
   unfold exR;rw [if_neg (by simpa using hX)];rfl
 ·unfold impl_ExpandExpression.f
  refine Ev.bind (good_parts h) (Ev_t rfl (Ev_f (by omega) ?_))
  exact Ev.bind (Ev.step (fun k => by simp only [impl_expand.f];rfl) (i2 [] [] (by simp;omega) (by simp))) (Ev.now _)
theorem expand_off (s : ByteArray) (n : Int) (h : n < 1 ∨ (Ev (fun k => spec_ExpressionValid.f k s) false ∧ ∃ ps,Ev (fun k => impl_parts.f k s) (ps,false))) : Ev (fun k => spec_ExpandExpression.f k s n) (B [],false) ∧ Ev (fun k => impl_ExpandExpression.f k s n) (B [],false):=by
 have off : ∀ (b : Bool),b = true → Ev (fun k => spec_ExpandExpression.j0 k s n b) (B [],false):=by
  intro b hb
  refine Ev.step (f:=fun _ => some (B [],false)) (fun k => ?_) (Ev.now _)
  simp only [spec_ExpandExpression.j0];rw [if_pos hb];rfl
 have bad : (Ev (fun k => spec_ExpressionValid.f k s) false ∧ ∃ ps,Ev (fun k => impl_parts.f k s) (ps,false)) → Ev (fun k => spec_ExpandExpression.f k s n) (B [],false) ∧ Ev (fun k => impl_ExpandExpression.f k s n) (B [],false):=by
  rintro ⟨hv,ps,hp⟩
  refine ⟨?_,?_⟩
  ·unfold spec_ExpandExpression.f
   exact Ev.bind hv (Ev_f (by simp) (off true rfl))
  ·unfold impl_ExpandExpression.f
   exact Ev.bind hp (Ev_f (by simp) (Ev.now _))
 rcases h with h|h
 ·rcases good_or s with ⟨ps,g⟩|g
  ·refine ⟨?_,?_⟩
   ·unfold spec_ExpandExpression.f
    exact Ev.bind (good_valid g) (Ev_t rfl (off _ (decide_eq_true h)))
   ·unfold impl_ExpandExpression.f
    exact Ev.bind (good_parts g) (Ev_t rfl (Ev_t h (Ev.now _)))
  ·exact bad g
 ·exact bad h
theorem good_depth {s ps} (h : GoodE s ps) : ∃ d : Nat,DP ps d ∧ d ≤ 120 ∧ Ev (fun k => spec_DepthOf.f k s) (d : Int) ∧ Ev (fun k => impl_DepthOf.f k s) (d : Int):=by
 have hle:=h.reads.parts
 have hsm:=h.small
 rw [← L_size] at hle
 obtain ⟨d,dp,hd,a,b⟩:=depth_reads h.reads (by rw [← L_size];omega)
 rw [← L_size] at hd
 refine ⟨d,dp,by omega,?_,?_⟩
 ·refine Ev.congr (f:=?f3) (fun k => ?h3) ?k3
  case h3 => unfold spec_DepthOf.f;exact rfl
  refine Ev.bind (good_valid h) ?_
  refine Ev.congr (fun k => by rw [if_pos rfl]) ?_
  refine b s [] (L s) (by simp) (by simp) (by omega) 0 0 (by omega) (by simp) (by omega) d ?_
  refine Ev.step (f:=fun _ => some (mx 0 (0 + d))) (fun k => ?_) ((Ev.now _).is (by unfold mx;omega))
  simp only [spec_DepthOf.l0];rw [if_neg (by simp [← L_size])]
 ·refine Ev.congr (f:=?f4) (fun k => ?h4) ?k4
  case h4 => unfold impl_DepthOf.f;exact rfl
  refine Ev.bind (good_parts h) ?_
  refine Ev.congr (f:=?f5) (fun k => ?h5) ?k5
  case h5 => rw [if_pos rfl] <;> exact rfl
  refine Ev.bind (a:=(d : Int)) (Ev.step (fun k => by first|(simp only [impl_depth.f];done)|(simp only [impl_depth.f];simp)) ((a [] 0 (by simp;omega)).is (by simp))) (Ev.now _)
theorem bad_depth {s : ByteArray} (h : Ev (fun k => spec_ExpressionValid.f k s) false ∧ ∃ ps,Ev (fun k => impl_parts.f k s) (ps,false)) : Ev (fun k => spec_DepthOf.f k s) (-1) ∧ Ev (fun k => impl_DepthOf.f k s) (-1):=by
 obtain ⟨hv,ps,hp⟩:=h
 refine ⟨?_,?_⟩
 ·refine Ev.congr (f:=?f6) (fun k => ?h6) ?k6
  case h6 => unfold spec_DepthOf.f;exact rfl
  exact Ev.bind hv (Ev.congr (f:=fun _ => some (-1)) (fun k => by simp) (Ev.now _))
 ·refine Ev.congr (f:=?f7) (fun k => ?h7) ?k7
  case h7 => unfold impl_DepthOf.f;exact rfl
  exact Ev.bind hp (Ev.congr (f:=fun _ => some (-1)) (fun k => by simp) (Ev.now _))
theorem good_again {s ps} (h : GoodE s ps) (hs : s.size + 3 ≤ 120) : GoodE (B (40 :: (L s ++ [41,35]))) [(⟨⟨#[]⟩,ps⟩ : S86)]:=by
 have hz:=L_size s
 refine ⟨by rw [B_size];simp;omega,?_,by simp⟩
 have e : L (B (40 :: (L s ++ [41,35]))) = 40 :: (L s ++ [41,35]):=by unfold B;rw [L_mk]
 rw [e]
 exact Reads.again _ ps [] [] [] (reads_cut h.reads (Or.inl rfl) (L s) (by simp) [41,35] (Or.inr rfl)) h.some Reads.done
theorem good_app {s ps f qs} (h : GoodE s ps) (g : GoodE f qs) (hs : s.size + f.size ≤ 120) : GoodE (s ++ f) (ps ++ qs):=by
 refine ⟨by rw [L_size,L_append,List.length_append,← L_size,← L_size];exact hs,?_,?_⟩
 ·rw [L_append];exact reads_app h.reads rfl g.reads
 ·intro e;exact h.some (List.append_eq_nil_iff.mp e).1
end Go.Proofs.Ytengegdaiphfeaa.Y
end
