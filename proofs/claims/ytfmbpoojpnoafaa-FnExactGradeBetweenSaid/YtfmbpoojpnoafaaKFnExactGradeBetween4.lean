import Derived.Test.YtfmbpoojpnoafaaKFnExactGradeBetween1
import Derived.Test.YtfmbpoojpnoafaaKFnExactGradeBetween3
section
namespace Go.Proofs.Ytfmbpoojpnoafaa.X
open Go.RowKit Go.Proofs.YtfmbpoojpnoafaaW.PrintWords Go.Proofs.YtfmbpoojpnoafaaW.PrintLast Go.Proofs.YtfmbpoojpnoafaaW.PrintMore
attribute [local go_sem] max2_int min2_int max_two min_two max_three min_three max_four min_four
set_option linter.unusedVariables false
set_option linter.unusedSimpArgs false
def spec_l3Before.f (a0_0 : Int) (a0_1 : ByteArray) (a0_2 : Int) (a0_3 : Int) (a1_0 : Int) (a1_1 : ByteArray) (a1_2 : Int) (a1_3 : Int) : Option (Bool):=if a0_0 = a1_0 then (if a0_1.toList = a1_1.toList then (some (decide (a0_2 < a1_2))) else (some (Op.bytesLess a0_1.toList a1_1.toList))) else (some (decide (a0_0 < a1_0)))
set_option maxHeartbeats 8000000 in
set_option maxRecDepth 100000 in
theorem spec_l3Before.calls (a0_0 : Int) (a0_1 : ByteArray) (a0_2 : Int) (a0_3 : Int) (a1_0 : Int) (a1_1 : ByteArray) (a1_2 : Int) (a1_3 : Int) (r : Bool) (w : World) (h : spec_l3Before.f a0_0 a0_1 a0_2 a0_3 a1_0 a1_1 a1_2 a1_3 = some r) :
  Calls Try.prog 121 #[.agg #[.int .i64 a0_0,.string a0_1,.int .i64 a0_2,.int .i64 a0_3],.agg #[.int .i64 a1_0,.string a1_1,.int .i64 a1_2,.int .i64 a1_3]] w fun e w' => e = .returned (.bool r) ∧ Below w.heap.size w w':=by
 have hu92:=Try.underlying92
 have HB:=Aside0.mk (Below.refl w.heap.size w)
 have H : (if a0_0 = a1_0 then (if a0_1.toList = a1_1.toList then (some (decide (a0_2 < a1_2))) else (some (Op.bytesLess a0_1.toList a1_1.toList))) else (some (decide (a0_0 < a1_0)))) = some r:=h
 clear h
 by_cases c3 : a0_0 = a1_0
 ·rw [if_pos c3] at H
  have c3b0 : (a0_0 == a1_0) = true:=beq_iff_eq.mpr c3
  have c3b1 : (a0_0 != a1_0) = false:=bne_eq_false_iff_eq.mpr c3
  clear c3
  by_cases c4 : a0_1.toList = a1_1.toList
  ·rw [if_pos c4] at H
   have c4b0 : (a0_1.toList == a1_1.toList) = true:=beq_iff_eq.mpr c4
   have c4b1 : (a0_1.toList != a1_1.toList) = false:=bne_eq_false_iff_eq.mpr c4
   clear c4
   obtain rfl:=Option.some.inj H
   go_enter Try.func121,Try.ntmps121
   go_wp2_with (first|((with_reducible refine gate_dst (N:=2) rfl ?_);refine box_event ?hg (N:=2) ?hd (cs:=#[.int .i64 a0_0,.string a0_1,.int .i64 a0_2,.int .i64 a0_3]) (t:=92) ?hr ?_;(case hd => rfl);(case hg => rfl);(case hr => first|(go_simp;done)|(go_simp;rfl));intro gb117 hg w5 hbox hb;have n0_:=Aside0.mk (below_step (be0_ HB.out) hb);have n1_:=Aside0.mk (hbox);have n2_:=Aside0.mk ((by rw [hg];exact (below_size (be0_ HB.out)) : w.heap.size ≤ gb117));have n3_:=Aside0.mk ((by rw [hg];exact (below_size (be0_ HB.out)) : w.heap.size ≤ gb117));clear HB;have HB:=n0_;have BK117:=n1_;have GW117:=n2_;have GE117:=n3_;clear n0_ n1_ n2_ n3_;clear hb hbox hg)|((with_reducible refine gate_dst (N:=3) rfl ?_);refine box_event ?hg (N:=3) ?hd (cs:=#[.int .i64 a1_0,.string a1_1,.int .i64 a1_2,.int .i64 a1_3]) (t:=92) ?hr ?_;(case hd => rfl);(case hg => rfl);(case hr => first|(go_simp;done)|(go_simp;rfl));intro gb118 hg w6 hbox hb;have n0_:=Aside0.mk (blk_below (g:=gb117) (o:=.cells #[.int .i64 a0_0,.string a0_1,.int .i64 a0_2,.int .i64 a0_3] 92 (0,0)) (pe_ BK117.out) hb);have n1_:=Aside0.mk (below_step (be1_ HB.out GE117.out) hb);have n2_:=Aside0.mk (hbox);have n3_:=Aside0.mk ((by rw [hg];exact (below_size (be1_ HB.out GE117.out)) : w.heap.size ≤ gb118));have n4_:=Aside0.mk ((by rw [hg];exact (below_size (be1_ HB.out GE117.out)) : w.heap.size ≤ gb118));have n5_:=Aside0.mk ((by rw [hg];exact Nat.ne_of_lt (blk_lt (g:=gb117) (o:=.cells #[.int .i64 a0_0,.string a0_1,.int .i64 a0_2,.int .i64 a0_3] 92 (0,0)) (pe_ BK117.out)) : gb117 ≠ gb118));have n6_:=Aside0.mk ((by rw [hg];exact Nat.ne_of_gt (blk_lt (g:=gb117) (o:=.cells #[.int .i64 a0_0,.string a0_1,.int .i64 a0_2,.int .i64 a0_3] 92 (0,0)) (pe_ BK117.out)) : gb118 ≠ gb117));clear BK117;clear HB;have BK117:=n0_;have HB:=n1_;have BK118:=n2_;have GW118:=n3_;have GE118:=n4_;have NB117_118:=n5_;have NB118_117:=n6_;clear n0_ n1_ n2_ n3_ n4_ n5_ n6_;clear hb hbox hg;have hnb7:=NB117_118.out;have hnc7:=NB118_117.out;have hcz8_0 : w6.cell? ⟨gb117,0,none⟩ = some (.int .i64 a0_0):=(blk_cell BK117.out 0).trans rfl;have hcz8_1 : w6.cell? ⟨gb117,1,none⟩ = some (.string a0_1):=(blk_cell BK117.out 1).trans rfl;have hcz8_2 : w6.cell? ⟨gb117,2,none⟩ = some (.int .i64 a0_2):=(blk_cell BK117.out 2).trans rfl;have hcz8_3 : w6.cell? ⟨gb117,3,none⟩ = some (.int .i64 a0_3):=(blk_cell BK117.out 3).trans rfl;have hfz8_0:=blk_frozen BK117.out 0;have hfz8_1:=blk_frozen BK117.out 1;have hfz8_2:=blk_frozen BK117.out 2;have hfz8_3:=blk_frozen BK117.out 3;have hcz9_0 : w6.cell? ⟨gb118,0,none⟩ = some (.int .i64 a1_0):=(blk_cell BK118.out 0).trans rfl;have hcz9_1 : w6.cell? ⟨gb118,1,none⟩ = some (.string a1_1):=(blk_cell BK118.out 1).trans rfl;have hcz9_2 : w6.cell? ⟨gb118,2,none⟩ = some (.int .i64 a1_2):=(blk_cell BK118.out 2).trans rfl;have hcz9_3 : w6.cell? ⟨gb118,3,none⟩ = some (.int .i64 a1_3):=(blk_cell BK118.out 3).trans rfl;have hfz9_0:=blk_frozen BK118.out 0;have hfz9_1:=blk_frozen BK118.out 1;have hfz9_2:=blk_frozen BK118.out 2;have hfz9_3:=blk_frozen BK118.out 3))
   go_ret
   exact ⟨by first|rfl|(simp [errW_none,errW_some] <;> rfl)|(simp [*,errW_none,errW_some] <;> rfl),be2_ HB.out GE117.out GE118.out⟩
  ·rw [if_neg c4] at H
   have c4b0 : (a0_1.toList == a1_1.toList) = false:=beq_eq_false_iff_ne.mpr c4
   have c4b1 : (a0_1.toList != a1_1.toList) = true:=bne_iff_ne.mpr c4
   obtain rfl:=Option.some.inj H
   go_enter Try.func121,Try.ntmps121
   go_wp2_with (first|((with_reducible refine gate_dst (N:=2) rfl ?_);refine box_event ?hg (N:=2) ?hd (cs:=#[.int .i64 a0_0,.string a0_1,.int .i64 a0_2,.int .i64 a0_3]) (t:=92) ?hr ?_;(case hd => rfl);(case hg => rfl);(case hr => first|(go_simp;done)|(go_simp;rfl));intro gb117 hg w10 hbox hb;have n0_:=Aside0.mk (below_step (be0_ HB.out) hb);have n1_:=Aside0.mk (hbox);have n2_:=Aside0.mk ((by rw [hg];exact (below_size (be0_ HB.out)) : w.heap.size ≤ gb117));have n3_:=Aside0.mk ((by rw [hg];exact (below_size (be0_ HB.out)) : w.heap.size ≤ gb117));clear HB;have HB:=n0_;have BK117:=n1_;have GW117:=n2_;have GE117:=n3_;clear n0_ n1_ n2_ n3_;clear hb hbox hg)|((with_reducible refine gate_dst (N:=3) rfl ?_);refine box_event ?hg (N:=3) ?hd (cs:=#[.int .i64 a1_0,.string a1_1,.int .i64 a1_2,.int .i64 a1_3]) (t:=92) ?hr ?_;(case hd => rfl);(case hg => rfl);(case hr => first|(go_simp;done)|(go_simp;rfl));intro gb118 hg w11 hbox hb;have n0_:=Aside0.mk (blk_below (g:=gb117) (o:=.cells #[.int .i64 a0_0,.string a0_1,.int .i64 a0_2,.int .i64 a0_3] 92 (0,0)) (pe_ BK117.out) hb);have n1_:=Aside0.mk (below_step (be1_ HB.out GE117.out) hb);have n2_:=Aside0.mk (hbox);have n3_:=Aside0.mk ((by rw [hg];exact (below_size (be1_ HB.out GE117.out)) : w.heap.size ≤ gb118));have n4_:=Aside0.mk ((by rw [hg];exact (below_size (be1_ HB.out GE117.out)) : w.heap.size ≤ gb118));have n5_:=Aside0.mk ((by rw [hg];exact Nat.ne_of_lt (blk_lt (g:=gb117) (o:=.cells #[.int .i64 a0_0,.string a0_1,.int .i64 a0_2,.int .i64 a0_3] 92 (0,0)) (pe_ BK117.out)) : gb117 ≠ gb118));have n6_:=Aside0.mk ((by rw [hg];exact Nat.ne_of_gt (blk_lt (g:=gb117) (o:=.cells #[.int .i64 a0_0,.string a0_1,.int .i64 a0_2,.int .i64 a0_3] 92 (0,0)) (pe_ BK117.out)) : gb118 ≠ gb117));clear BK117;clear HB;have BK117:=n0_;have HB:=n1_;have BK118:=n2_;have GW118:=n3_;have GE118:=n4_;have NB117_118:=n5_;have NB118_117:=n6_;clear n0_ n1_ n2_ n3_ n4_ n5_ n6_;clear hb hbox hg;have hnb12:=NB117_118.out;have hnc12:=NB118_117.out;have hcz13_0 : w11.cell? ⟨gb117,0,none⟩ = some (.int .i64 a0_0):=(blk_cell BK117.out 0).trans rfl;have hcz13_1 : w11.cell? ⟨gb117,1,none⟩ = some (.string a0_1):=(blk_cell BK117.out 1).trans rfl;have hcz13_2 : w11.cell? ⟨gb117,2,none⟩ = some (.int .i64 a0_2):=(blk_cell BK117.out 2).trans rfl;have hcz13_3 : w11.cell? ⟨gb117,3,none⟩ = some (.int .i64 a0_3):=(blk_cell BK117.out 3).trans rfl;have hfz13_0:=blk_frozen BK117.out 0;have hfz13_1:=blk_frozen BK117.out 1;have hfz13_2:=blk_frozen BK117.out 2;have hfz13_3:=blk_frozen BK117.out 3;have hcz14_0 : w11.cell? ⟨gb118,0,none⟩ = some (.int .i64 a1_0):=(blk_cell BK118.out 0).trans rfl;have hcz14_1 : w11.cell? ⟨gb118,1,none⟩ = some (.string a1_1):=(blk_cell BK118.out 1).trans rfl;have hcz14_2 : w11.cell? ⟨gb118,2,none⟩ = some (.int .i64 a1_2):=(blk_cell BK118.out 2).trans rfl;have hcz14_3 : w11.cell? ⟨gb118,3,none⟩ = some (.int .i64 a1_3):=(blk_cell BK118.out 3).trans rfl;have hfz14_0:=blk_frozen BK118.out 0;have hfz14_1:=blk_frozen BK118.out 1;have hfz14_2:=blk_frozen BK118.out 2;have hfz14_3:=blk_frozen BK118.out 3))
   go_ret
   exact ⟨by first|rfl|(simp [errW_none,errW_some] <;> rfl)|(simp [*,errW_none,errW_some] <;> rfl),be2_ HB.out GE117.out GE118.out⟩
 ·rw [if_neg c3] at H
  have c3b0 : (a0_0 == a1_0) = false:=beq_eq_false_iff_ne.mpr c3
  have c3b1 : (a0_0 != a1_0) = true:=bne_iff_ne.mpr c3
  obtain rfl:=Option.some.inj H
  go_enter Try.func121,Try.ntmps121
  go_wp2_with (first|((with_reducible refine gate_dst (N:=2) rfl ?_);refine box_event ?hg (N:=2) ?hd (cs:=#[.int .i64 a0_0,.string a0_1,.int .i64 a0_2,.int .i64 a0_3]) (t:=92) ?hr ?_;(case hd => rfl);(case hg => rfl);(case hr => first|(go_simp;done)|(go_simp;rfl));intro gb117 hg w15 hbox hb;have n0_:=Aside0.mk (below_step (be0_ HB.out) hb);have n1_:=Aside0.mk (hbox);have n2_:=Aside0.mk ((by rw [hg];exact (below_size (be0_ HB.out)) : w.heap.size ≤ gb117));have n3_:=Aside0.mk ((by rw [hg];exact (below_size (be0_ HB.out)) : w.heap.size ≤ gb117));clear HB;have HB:=n0_;have BK117:=n1_;have GW117:=n2_;have GE117:=n3_;clear n0_ n1_ n2_ n3_;clear hb hbox hg)|((with_reducible refine gate_dst (N:=3) rfl ?_);refine box_event ?hg (N:=3) ?hd (cs:=#[.int .i64 a1_0,.string a1_1,.int .i64 a1_2,.int .i64 a1_3]) (t:=92) ?hr ?_;(case hd => rfl);(case hg => rfl);(case hr => first|(go_simp;done)|(go_simp;rfl));intro gb118 hg w16 hbox hb;have n0_:=Aside0.mk (blk_below (g:=gb117) (o:=.cells #[.int .i64 a0_0,.string a0_1,.int .i64 a0_2,.int .i64 a0_3] 92 (0,0)) (pe_ BK117.out) hb);have n1_:=Aside0.mk (below_step (be1_ HB.out GE117.out) hb);have n2_:=Aside0.mk (hbox);have n3_:=Aside0.mk ((by rw [hg];exact (below_size (be1_ HB.out GE117.out)) : w.heap.size ≤ gb118));have n4_:=Aside0.mk ((by rw [hg];exact (below_size (be1_ HB.out GE117.out)) : w.heap.size ≤ gb118));have n5_:=Aside0.mk ((by rw [hg];exact Nat.ne_of_lt (blk_lt (g:=gb117) (o:=.cells #[.int .i64 a0_0,.string a0_1,.int .i64 a0_2,.int .i64 a0_3] 92 (0,0)) (pe_ BK117.out)) : gb117 ≠ gb118));have n6_:=Aside0.mk ((by rw [hg];exact Nat.ne_of_gt (blk_lt (g:=gb117) (o:=.cells #[.int .i64 a0_0,.string a0_1,.int .i64 a0_2,.int .i64 a0_3] 92 (0,0)) (pe_ BK117.out)) : gb118 ≠ gb117));clear BK117;clear HB;have BK117:=n0_;have HB:=n1_;have BK118:=n2_;have GW118:=n3_;have GE118:=n4_;have NB117_118:=n5_;have NB118_117:=n6_;clear n0_ n1_ n2_ n3_ n4_ n5_ n6_;clear hb hbox hg;have hnb17:=NB117_118.out;have hnc17:=NB118_117.out;have hcz18_0 : w16.cell? ⟨gb117,0,none⟩ = some (.int .i64 a0_0):=(blk_cell BK117.out 0).trans rfl;have hcz18_1 : w16.cell? ⟨gb117,1,none⟩ = some (.string a0_1):=(blk_cell BK117.out 1).trans rfl;have hcz18_2 : w16.cell? ⟨gb117,2,none⟩ = some (.int .i64 a0_2):=(blk_cell BK117.out 2).trans rfl;have hcz18_3 : w16.cell? ⟨gb117,3,none⟩ = some (.int .i64 a0_3):=(blk_cell BK117.out 3).trans rfl;have hfz18_0:=blk_frozen BK117.out 0;have hfz18_1:=blk_frozen BK117.out 1;have hfz18_2:=blk_frozen BK117.out 2;have hfz18_3:=blk_frozen BK117.out 3;have hcz19_0 : w16.cell? ⟨gb118,0,none⟩ = some (.int .i64 a1_0):=(blk_cell BK118.out 0).trans rfl;have hcz19_1 : w16.cell? ⟨gb118,1,none⟩ = some (.string a1_1):=(blk_cell BK118.out 1).trans rfl;have hcz19_2 : w16.cell? ⟨gb118,2,none⟩ = some (.int .i64 a1_2):=(blk_cell BK118.out 2).trans rfl;have hcz19_3 : w16.cell? ⟨gb118,3,none⟩ = some (.int .i64 a1_3):=(blk_cell BK118.out 3).trans rfl;have hfz19_0:=blk_frozen BK118.out 0;have hfz19_1:=blk_frozen BK118.out 1;have hfz19_2:=blk_frozen BK118.out 2;have hfz19_3:=blk_frozen BK118.out 3))
  go_ret
  exact ⟨by first|rfl|(simp [errW_none,errW_some] <;> rfl)|(simp [*,errW_none,errW_some] <;> rfl),be2_ HB.out GE117.out GE118.out⟩
end Go.Proofs.Ytfmbpoojpnoafaa.X
end
section
namespace Go.Proofs.Ytfmbpoojpnoafaa.X
open Go.RowKit Go.Proofs.YtfmbpoojpnoafaaW.PrintWords Go.Proofs.YtfmbpoojpnoafaaW.PrintLast Go.Proofs.YtfmbpoojpnoafaaW.PrintMore
attribute [local go_sem] max2_int min2_int max_two min_two max_three min_three max_four min_four
set_option linter.unusedVariables false
set_option linter.unusedSimpArgs false
def spec_l3Marks.l0 : Nat → Int → List Int → List Int → Int → Int → Option (Bool)
 | 0,_,_,_,_,_ => none
 | k + 1,x0,x1,x7,x8,x9 => if x9 < x8 then (if 0 ≤ x9 then (if x9 < (x7.length : Int) then ((spec_l1In.f (rd x7 x9) 0 (wrap64 (x0 - 1))).bind fun t111 => (if t111 = true then (if x9 > 0 then (if 0 ≤ (wrap64 (x9 - 1)) then (if (wrap64 (x9 - 1)) < (x1.length : Int) then (if (rd x1 (wrap64 (x9 - 1))) ≥ (rd x7 x9) then (some false) else (spec_l3Marks.l0 k x0 x1 x7 x8 (wrap64 (x9 + 1)))) else (none)) else (none)) else (spec_l3Marks.l0 k x0 x1 x7 x8 (wrap64 (x9 + 1)))) else (some false))) else (none)) else (none)) else (some true)
def spec_l3Marks.f (k : Nat) (a0 : Int) (l1 : List Int) : Option (Bool):=spec_l3Marks.l0 k a0 l1 l1 (l1.length : Int) 0
theorem spec_l3Marks.mono_l : ∀ k,(∀ y0 y1 y2 y3 y4,LeO (spec_l3Marks.l0 k y0 y1 y2 y3 y4) (spec_l3Marks.l0 (k + 1) y0 y1 y2 y3 y4))
 | 0 => fun _ _ _ _ _ r h => by simp [spec_l3Marks.l0] at h
 | k + 1 => by
  have ih0:=spec_l3Marks.mono_l k
  ·intro y0 y1 y2 y3 y4
   unfold spec_l3Marks.l0
   repeat' first
   | (with_reducible exact ih0 _ _ _ _ _)
   | (with_reducible exact LeO.refl _)
   | (with_reducible exact LeO.none _)
   | (with_reducible refine LeO.ite ?_ ?_)
   | (with_reducible refine LeO.bind ?_ (fun _ => ?_))
   | exact ih0 _ _ _ _ _
   | exact LeO.none _
   | refine LeO.ite ?_ ?_
   | refine LeO.bind ?_ (fun _ => ?_)
theorem spec_l3Marks.mono : ∀ a0 a1 k,LeO (spec_l3Marks.f k a0 a1) (spec_l3Marks.f (k + 1) a0 a1):=by
 intro a0 a1 k
 have ih0:=spec_l3Marks.mono_l k
 unfold spec_l3Marks.f
 repeat' first
   | (with_reducible exact ih0 _ _ _ _ _)
   | (with_reducible exact LeO.refl _)
   | (with_reducible exact LeO.none _)
   | (with_reducible refine LeO.ite ?_ ?_)
   | (with_reducible refine LeO.bind ?_ (fun _ => ?_))
   | exact ih0 _ _ _ _ _
   | exact LeO.none _
   | refine LeO.ite ?_ ?_
   | refine LeO.bind ?_ (fun _ => ?_)
set_option maxHeartbeats 8000000 in
set_option maxRecDepth 100000 in
theorem spec_l3Marks.calls (k : Nat) (a0 : Int) (A1 : Option Addr) (c1 : Nat) (l1 : List Int) (r : Bool) (w : World) (hr1 : Kd.C (Kd.int .i64) w A1 l1.length l1) (hc1 : l1.length ≤ c1) (h : spec_l3Marks.f k a0 l1 = some r) :
  Calls Try.prog 119 #[.int .i64 a0,.slice A1 l1.length c1] w fun e w' => e = .returned (.bool r) ∧ Drawn0 w w':=by
 have HR1:=Aside0.mk hr1
 have HC1:=Aside0.mk hc1
 clear hr1 hc1
 have H : (spec_l3Marks.l0 k a0 l1 l1 (l1.length : Int) 0) = some r:=h
 clear h
 have H':=Aside0.mk H
 clear H
 go_enter Try.func119,Try.ntmps119
 go_wp2
 go_loopg [9] k (fun kq v9 w' => ∃ (x9_1 : Int),v9 = .int .i64 x9_1 ∧ Aside0 (spec_l3Marks.l0 kq a0 l1 l1 (l1.length : Int) x9_1 = some r) ∧ Aside0 (kq ≤ k) ∧ Drawn0 w w')
 case atStart => exact ⟨(0),(by first|rfl|(simp;done)|(simp [*];done)),H',⟨Nat.le_refl _⟩,by repeat (first|exact Drawn0.refl _|apply Drawn0.step)⟩
 case round =>
  clear H'
  try clear c1
  try clear p2
  obtain ⟨x9_1,rfl,HA,HK1,⟨m1,rfl⟩⟩:=hrel
  cases gk with
  | zero => exact absurd HA.out (by simp [spec_l3Marks.l0])
  | succ k1 =>
   have H:=HA.out
   clear HA
   simp only [spec_l3Marks.l0] at H
   by_cases c3 : x9_1 < (l1.length : Int)
   ·rw [if_pos c3] at H
    have c3b0 : decide (x9_1 < (l1.length : Int)) = true:=decide_eq_true c3
    clear c3
    by_cases c4 : 0 ≤ x9_1
    ·rw [if_pos c4] at H
     have c4b0 : decide (0 ≤ x9_1) = true:=decide_eq_true c4
     clear c4
     by_cases c5 : x9_1 < (l1.length : Int)
     ·rw [if_pos c5] at H
      have c5b0 : decide (x9_1 < (l1.length : Int)) = true:=decide_eq_true c5
      clear c5
      replace H:=Option.bind_eq_some_iff.mp H
      obtain ⟨t111,A60,H⟩:=H
      replace H : (if t111 = true then (if x9_1 > 0 then (if 0 ≤ (wrap64 (x9_1 - 1)) then (if (wrap64 (x9_1 - 1)) < (l1.length : Int) then (if (rd l1 (wrap64 (x9_1 - 1))) ≥ (rd l1 x9_1) then (some false) else (spec_l3Marks.l0 k1 a0 l1 l1 (l1.length : Int) (wrap64 (x9_1 + 1)))) else (none)) else (none)) else (spec_l3Marks.l0 k1 a0 l1 l1 (l1.length : Int) (wrap64 (x9_1 + 1)))) else (some false)) = some r:=H
      have A6:=Aside0.mk A60
      clear A60
      by_cases c7 : t111 = true
      ·subst c7
       have H1 : (if x9_1 > 0 then (if 0 ≤ (wrap64 (x9_1 - 1)) then (if (wrap64 (x9_1 - 1)) < (l1.length : Int) then (if (rd l1 (wrap64 (x9_1 - 1))) ≥ (rd l1 x9_1) then (some false) else (spec_l3Marks.l0 k1 a0 l1 l1 (l1.length : Int) (wrap64 (x9_1 + 1)))) else (none)) else (none)) else (spec_l3Marks.l0 k1 a0 l1 l1 (l1.length : Int) (wrap64 (x9_1 + 1)))) = some r:=by rw [if_pos rfl] at H;exact H
       clear H
       have H:=H1
       clear H1
       by_cases c8 : x9_1 > 0
       ·rw [if_pos c8] at H
        have c8b0 : decide (0 < x9_1) = true:=decide_eq_true c8
        clear c8
        obtain ⟨ji9,hji9⟩ : ∃ j_ : Int,(wrap64 (x9_1 - 1)) = j_:=⟨_,rfl⟩
        replace H : (if 0 ≤ (ji9) then (if (ji9) < (l1.length : Int) then (if (rd l1 (ji9)) ≥ (rd l1 x9_1) then (some false) else (spec_l3Marks.l0 k1 a0 l1 l1 (l1.length : Int) (wrap64 (x9_1 + 1)))) else (none)) else (none)) = some r:=by first|(rw [hji9] at H;exact H)|(simp only [hji9] at H ⊢;exact H)
        (try rw [hji9] at A6)
        have hji9w : (IntKind.i64.wrap (x9_1 - 1)) = ji9:=(i64_w _).trans hji9
        by_cases c10 : 0 ≤ (ji9)
        ·rw [if_pos c10] at H
         have c10b0 : decide (0 ≤ (ji9)) = true:=decide_eq_true c10
         clear c10
         by_cases c11 : (ji9) < (l1.length : Int)
         ·rw [if_pos c11] at H
          have c11b0 : decide ((ji9) < (l1.length : Int)) = true:=decide_eq_true c11
          clear c11
          by_cases c12 : (rd l1 (ji9)) ≥ (rd l1 x9_1)
          ·rw [if_pos c12] at H
           have c12b0 : decide ((rd l1 x9_1) ≤ (rd l1 (ji9))) = true:=decide_eq_true c12
           clear c12
           obtain rfl:=Option.some.inj H
           have p110 : 0 ≤ (x9_1 : Int):=of_decide_eq_true (by first|(with_reducible assumption)|assumption)
           have q110 : x9_1 < (l1.length : Int):=of_decide_eq_true (by first|(with_reducible assumption)|assumption)
           obtain ⟨ad110,e110,hx110_0⟩:=Kd.at_int HR1.out x9_1 p110 q110
           cases e110
           replace p110:=eq_true p110
           replace q110:=eq_true q110
           go_wp2_with (first|((with_reducible refine gate_callee (f:=90) rfl ?_);refine goesL_ (some 17) rfl rfl Try.func90 (by kernel_rfl) rfl #[.int .i64 (rd l1 x9_1),.int .i64 0,.int .i64 (wrap64 (a0 - 1))] rfl lp_ ?_;(with_reducible refine (spec_l1In.calls (rd l1 x9_1) 0 (wrap64 (a0 - 1)) true _ A6.out).mono ?_);rintro e w' ⟨rfl,⟨nd,rfl⟩⟩;refine ⟨_,rfl,?_⟩;have p112 : 0 ≤ ((ji9) : Int):=of_decide_eq_true (by first|(with_reducible assumption)|assumption);have q112 : (ji9) < (l1.length : Int):=of_decide_eq_true (by first|(with_reducible assumption)|assumption);obtain ⟨ad112,e112,hx112_0⟩:=Kd.at_int HR1.out (ji9) p112 q112;obtain rfl : ad110 = ad112:=(by injection e112);replace p112:=eq_true p112;replace q112:=eq_true q112))
           go_ret
           exact ⟨by first|rfl|(simp;done)|(simp only [← hji9] <;> (first|rfl|simp))|(simp [*];done),by repeat (first|exact Drawn0.refl _|apply Drawn0.step)⟩
          ·rw [if_neg c12] at H
           have c12b0 : decide ((rd l1 x9_1) ≤ (rd l1 (ji9))) = false:=decide_eq_false c12
           clear c12
           have H':=Aside0.mk H
           clear H
           have p110 : 0 ≤ (x9_1 : Int):=of_decide_eq_true (by first|(with_reducible assumption)|assumption)
           have q110 : x9_1 < (l1.length : Int):=of_decide_eq_true (by first|(with_reducible assumption)|assumption)
           obtain ⟨ad110,e110,hx110_0⟩:=Kd.at_int HR1.out x9_1 p110 q110
           cases e110
           replace p110:=eq_true p110
           replace q110:=eq_true q110
           go_wp2_with (first|((with_reducible refine gate_callee (f:=90) rfl ?_);refine goesL_ (some 17) rfl rfl Try.func90 (by kernel_rfl) rfl #[.int .i64 (rd l1 x9_1),.int .i64 0,.int .i64 (wrap64 (a0 - 1))] rfl lp_ ?_;(with_reducible refine (spec_l1In.calls (rd l1 x9_1) 0 (wrap64 (a0 - 1)) true _ A6.out).mono ?_);rintro e w' ⟨rfl,⟨nd,rfl⟩⟩;refine ⟨_,rfl,?_⟩;have p112 : 0 ≤ ((ji9) : Int):=of_decide_eq_true (by first|(with_reducible assumption)|assumption);have q112 : (ji9) < (l1.length : Int):=of_decide_eq_true (by first|(with_reducible assumption)|assumption);obtain ⟨ad112,e112,hx112_0⟩:=Kd.at_int HR1.out (ji9) p112 q112;obtain rfl : ad110 = ad112:=(by injection e112);replace p112:=eq_true p112;replace q112:=eq_true q112))
           go_roundg k1
           case measure => have:=HK1.out;omega
           case rel => exact ⟨(wrap64 (x9_1 + 1)),(by first|rfl|(simp;done)|(simp [*];done)),H',⟨by have:=HK1.out;omega⟩,by repeat (first|exact Drawn0.refl _|apply Drawn0.step)⟩
         ·rw [if_neg c11] at H
          exact absurd H (by simp)
        ·rw [if_neg c10] at H
         exact absurd H (by simp)
       ·rw [if_neg c8] at H
        have c8b0 : decide (0 < x9_1) = false:=decide_eq_false c8
        clear c8
        have H':=Aside0.mk H
        clear H
        have p110 : 0 ≤ (x9_1 : Int):=of_decide_eq_true (by first|(with_reducible assumption)|assumption)
        have q110 : x9_1 < (l1.length : Int):=of_decide_eq_true (by first|(with_reducible assumption)|assumption)
        obtain ⟨ad110,e110,hx110_0⟩:=Kd.at_int HR1.out x9_1 p110 q110
        cases e110
        replace p110:=eq_true p110
        replace q110:=eq_true q110
        go_wp2_with (first|((with_reducible refine gate_callee (f:=90) rfl ?_);refine goesL_ (some 17) rfl rfl Try.func90 (by kernel_rfl) rfl #[.int .i64 (rd l1 x9_1),.int .i64 0,.int .i64 (wrap64 (a0 - 1))] rfl lp_ ?_;(with_reducible refine (spec_l1In.calls (rd l1 x9_1) 0 (wrap64 (a0 - 1)) true _ A6.out).mono ?_);rintro e w' ⟨rfl,⟨nd,rfl⟩⟩;refine ⟨_,rfl,?_⟩))
        go_roundg k1
        case measure => have:=HK1.out;omega
        case rel => exact ⟨(wrap64 (x9_1 + 1)),(by first|rfl|(simp;done)|(simp [*];done)),H',⟨by have:=HK1.out;omega⟩,by repeat (first|exact Drawn0.refl _|apply Drawn0.step)⟩
      ·replace c7:=Bool.eq_false_iff.mpr c7
       subst c7
       have H1 : (some false) = some r:=by rw [if_neg (show ¬ (false = true) by decide)] at H;exact H
       clear H
       have H:=H1
       clear H1
       obtain rfl:=Option.some.inj H
       have p110 : 0 ≤ (x9_1 : Int):=of_decide_eq_true (by first|(with_reducible assumption)|assumption)
       have q110 : x9_1 < (l1.length : Int):=of_decide_eq_true (by first|(with_reducible assumption)|assumption)
       obtain ⟨ad110,e110,hx110_0⟩:=Kd.at_int HR1.out x9_1 p110 q110
       cases e110
       replace p110:=eq_true p110
       replace q110:=eq_true q110
       go_wp2_with (first|((with_reducible refine gate_callee (f:=90) rfl ?_);refine goesL_ (some 17) rfl rfl Try.func90 (by kernel_rfl) rfl #[.int .i64 (rd l1 x9_1),.int .i64 0,.int .i64 (wrap64 (a0 - 1))] rfl lp_ ?_;(with_reducible refine (spec_l1In.calls (rd l1 x9_1) 0 (wrap64 (a0 - 1)) false _ A6.out).mono ?_);rintro e w' ⟨rfl,⟨nd,rfl⟩⟩;refine ⟨_,rfl,?_⟩))
       go_ret
       exact ⟨by first|rfl|(simp;done)|(simp [*];done),by repeat (first|exact Drawn0.refl _|apply Drawn0.step)⟩
     ·rw [if_neg c5] at H
      exact absurd H (by simp)
    ·rw [if_neg c4] at H
     exact absurd H (by simp)
   ·rw [if_neg c3] at H
    have c3b0 : decide (x9_1 < (l1.length : Int)) = false:=decide_eq_false c3
    clear c3
    obtain rfl:=Option.some.inj H
    go_wp2
    go_ret
    exact ⟨by first|rfl|(simp;done)|(simp [*];done),by repeat (first|exact Drawn0.refl _|apply Drawn0.step)⟩
end Go.Proofs.Ytfmbpoojpnoafaa.X
end
section
namespace Go.Proofs.Ytfmbpoojpnoafaa.X
open Go.RowKit Go.Proofs.YtfmbpoojpnoafaaW.PrintWords Go.Proofs.YtfmbpoojpnoafaaW.PrintLast Go.Proofs.YtfmbpoojpnoafaaW.PrintMore
attribute [local go_sem] max2_int min2_int max_two min_two max_three min_three max_four min_four
set_option linter.unusedVariables false
set_option linter.unusedSimpArgs false
def spec_l3Step.f (a0 : Int) (a1_0 : Int) (a1_1 : ByteArray) (a1_2 : Int) (a1_3 : Int) : Option (Bool):=(spec_l1In.f a1_0 0 (wrap64 (a0 - 1))).bind fun t114 => (if t114 = true then ((spec_l1In.f a1_2 0 (wrap64 (a0 - 1))).bind fun t115 => (if t115 = true then ((spec_l1In.f a1_3 0 3).bind fun t116 => (if t116 = true then (if a1_1.toList = ([97] : List UInt8) then (some true) else (some (a1_1.toList == ([98] : List UInt8)))) else (some false))) else (some false))) else (some false))
set_option maxHeartbeats 8000000 in
set_option maxRecDepth 100000 in
theorem spec_l3Step.calls (a0 : Int) (a1_0 : Int) (a1_1 : ByteArray) (a1_2 : Int) (a1_3 : Int) (r : Bool) (w : World) (h : spec_l3Step.f a0 a1_0 a1_1 a1_2 a1_3 = some r) :
  Calls Try.prog 120 #[.int .i64 a0,.agg #[.int .i64 a1_0,.string a1_1,.int .i64 a1_2,.int .i64 a1_3]] w fun e w' => e = .returned (.bool r) ∧ Below w.heap.size w w':=by
 have hu92:=Try.underlying92
 have HB:=Aside0.mk (Below.refl w.heap.size w)
 have H : ((spec_l1In.f a1_0 0 (wrap64 (a0 - 1))).bind fun t114 => (if t114 = true then ((spec_l1In.f a1_2 0 (wrap64 (a0 - 1))).bind fun t115 => (if t115 = true then ((spec_l1In.f a1_3 0 3).bind fun t116 => (if t116 = true then (if a1_1.toList = ([97] : List UInt8) then (some true) else (some (a1_1.toList == ([98] : List UInt8)))) else (some false))) else (some false))) else (some false))) = some r:=h
 clear h
 replace H:=Option.bind_eq_some_iff.mp H
 obtain ⟨t114,A30,H⟩:=H
 replace H : (if t114 = true then ((spec_l1In.f a1_2 0 (wrap64 (a0 - 1))).bind fun t115 => (if t115 = true then ((spec_l1In.f a1_3 0 3).bind fun t116 => (if t116 = true then (if a1_1.toList = ([97] : List UInt8) then (some true) else (some (a1_1.toList == ([98] : List UInt8)))) else (some false))) else (some false))) else (some false)) = some r:=H
 have A3:=Aside0.mk A30
 clear A30
 by_cases c4 : t114 = true
 ·subst c4
  have H1 : ((spec_l1In.f a1_2 0 (wrap64 (a0 - 1))).bind fun t115 => (if t115 = true then ((spec_l1In.f a1_3 0 3).bind fun t116 => (if t116 = true then (if a1_1.toList = ([97] : List UInt8) then (some true) else (some (a1_1.toList == ([98] : List UInt8)))) else (some false))) else (some false))) = some r:=by rw [if_pos rfl] at H;exact H
  clear H
  have H:=H1
  clear H1
  replace H:=Option.bind_eq_some_iff.mp H
  obtain ⟨t115,A50,H⟩:=H
  replace H : (if t115 = true then ((spec_l1In.f a1_3 0 3).bind fun t116 => (if t116 = true then (if a1_1.toList = ([97] : List UInt8) then (some true) else (some (a1_1.toList == ([98] : List UInt8)))) else (some false))) else (some false)) = some r:=H
  have A5:=Aside0.mk A50
  clear A50
  by_cases c6 : t115 = true
  ·subst c6
   have H1 : ((spec_l1In.f a1_3 0 3).bind fun t116 => (if t116 = true then (if a1_1.toList = ([97] : List UInt8) then (some true) else (some (a1_1.toList == ([98] : List UInt8)))) else (some false))) = some r:=by rw [if_pos rfl] at H;exact H
   clear H
   have H:=H1
   clear H1
   replace H:=Option.bind_eq_some_iff.mp H
   obtain ⟨t116,A70,H⟩:=H
   replace H : (if t116 = true then (if a1_1.toList = ([97] : List UInt8) then (some true) else (some (a1_1.toList == ([98] : List UInt8)))) else (some false)) = some r:=H
   have A7:=Aside0.mk A70
   clear A70
   by_cases c8 : t116 = true
   ·subst c8
    have H1 : (if a1_1.toList = ([97] : List UInt8) then (some true) else (some (a1_1.toList == ([98] : List UInt8)))) = some r:=by rw [if_pos rfl] at H;exact H
    clear H
    have H:=H1
    clear H1
    by_cases c9 : a1_1.toList = ([97] : List UInt8)
    ·rw [if_pos c9] at H
     have c9b0 : (a1_1.toList == ([97] : List UInt8)) = true:=beq_iff_eq.mpr c9
     have c9b1 : (a1_1.toList != ([97] : List UInt8)) = false:=bne_eq_false_iff_eq.mpr c9
     clear c9
     obtain rfl:=Option.some.inj H
     go_enter Try.func120,Try.ntmps120
     go_wp2_with (first|((with_reducible refine gate_dst (N:=3) rfl ?_);refine box_event ?hg (N:=3) ?hd (cs:=#[.int .i64 a1_0,.string a1_1,.int .i64 a1_2,.int .i64 a1_3]) (t:=92) ?hr ?_;(case hd => rfl);(case hg => rfl);(case hr => first|(go_simp;done)|(go_simp;rfl));intro gb113 hg w10 hbox hb;have n0_:=Aside0.mk (below_step (be0_ HB.out) hb);have n1_:=Aside0.mk (hbox);have n2_:=Aside0.mk ((by rw [hg];exact (below_size (be0_ HB.out)) : w.heap.size ≤ gb113));have n3_:=Aside0.mk ((by rw [hg];exact (below_size (be0_ HB.out)) : w.heap.size ≤ gb113));clear HB;have HB:=n0_;have BK113:=n1_;have GW113:=n2_;have GE113:=n3_;clear n0_ n1_ n2_ n3_;clear hb hbox hg;have hcz11_0 : w10.cell? ⟨gb113,0,none⟩ = some (.int .i64 a1_0):=(blk_cell BK113.out 0).trans rfl;have hcz11_1 : w10.cell? ⟨gb113,1,none⟩ = some (.string a1_1):=(blk_cell BK113.out 1).trans rfl;have hcz11_2 : w10.cell? ⟨gb113,2,none⟩ = some (.int .i64 a1_2):=(blk_cell BK113.out 2).trans rfl;have hcz11_3 : w10.cell? ⟨gb113,3,none⟩ = some (.int .i64 a1_3):=(blk_cell BK113.out 3).trans rfl;have hfz11_0:=blk_frozen BK113.out 0;have hfz11_1:=blk_frozen BK113.out 1;have hfz11_2:=blk_frozen BK113.out 2;have hfz11_3:=blk_frozen BK113.out 3)|((with_reducible refine gate_callee (f:=90) rfl ?_);refine goesL_ (some 9) rfl rfl Try.func90 (by kernel_rfl) rfl #[.int .i64 a1_0,.int .i64 0,.int .i64 (wrap64 (a0 - 1))] rfl lp_ ?_;(with_reducible refine (spec_l1In.calls a1_0 0 (wrap64 (a0 - 1)) true _ A3.out).mono ?_);rintro e w' ⟨rfl,⟨nd,rfl⟩⟩;refine ⟨_,rfl,?_⟩)|(go_at_call 90;(with_reducible refine (spec_l1In.calls a1_2 0 (wrap64 (a0 - 1)) true _ A5.out).mono ?_);rintro e w' ⟨rfl,⟨nd,rfl⟩⟩)|(go_at_call 90;(with_reducible refine (spec_l1In.calls a1_3 0 3 true _ A7.out).mono ?_);rintro e w' ⟨rfl,⟨nd,rfl⟩⟩))
     go_ret
     exact ⟨by first|rfl|(simp [errW_none,errW_some] <;> rfl)|(simp [*,errW_none,errW_some] <;> rfl),be1_ HB.out GE113.out⟩
    ·rw [if_neg c9] at H
     have c9b0 : (a1_1.toList == ([97] : List UInt8)) = false:=beq_eq_false_iff_ne.mpr c9
     have c9b1 : (a1_1.toList != ([97] : List UInt8)) = true:=bne_iff_ne.mpr c9
     obtain rfl:=Option.some.inj H
     go_enter Try.func120,Try.ntmps120
     go_wp2_with (first|((with_reducible refine gate_dst (N:=3) rfl ?_);refine box_event ?hg (N:=3) ?hd (cs:=#[.int .i64 a1_0,.string a1_1,.int .i64 a1_2,.int .i64 a1_3]) (t:=92) ?hr ?_;(case hd => rfl);(case hg => rfl);(case hr => first|(go_simp;done)|(go_simp;rfl));intro gb113 hg w12 hbox hb;have n0_:=Aside0.mk (below_step (be0_ HB.out) hb);have n1_:=Aside0.mk (hbox);have n2_:=Aside0.mk ((by rw [hg];exact (below_size (be0_ HB.out)) : w.heap.size ≤ gb113));have n3_:=Aside0.mk ((by rw [hg];exact (below_size (be0_ HB.out)) : w.heap.size ≤ gb113));clear HB;have HB:=n0_;have BK113:=n1_;have GW113:=n2_;have GE113:=n3_;clear n0_ n1_ n2_ n3_;clear hb hbox hg;have hcz13_0 : w12.cell? ⟨gb113,0,none⟩ = some (.int .i64 a1_0):=(blk_cell BK113.out 0).trans rfl;have hcz13_1 : w12.cell? ⟨gb113,1,none⟩ = some (.string a1_1):=(blk_cell BK113.out 1).trans rfl;have hcz13_2 : w12.cell? ⟨gb113,2,none⟩ = some (.int .i64 a1_2):=(blk_cell BK113.out 2).trans rfl;have hcz13_3 : w12.cell? ⟨gb113,3,none⟩ = some (.int .i64 a1_3):=(blk_cell BK113.out 3).trans rfl;have hfz13_0:=blk_frozen BK113.out 0;have hfz13_1:=blk_frozen BK113.out 1;have hfz13_2:=blk_frozen BK113.out 2;have hfz13_3:=blk_frozen BK113.out 3)|((with_reducible refine gate_callee (f:=90) rfl ?_);refine goesL_ (some 9) rfl rfl Try.func90 (by kernel_rfl) rfl #[.int .i64 a1_0,.int .i64 0,.int .i64 (wrap64 (a0 - 1))] rfl lp_ ?_;(with_reducible refine (spec_l1In.calls a1_0 0 (wrap64 (a0 - 1)) true _ A3.out).mono ?_);rintro e w' ⟨rfl,⟨nd,rfl⟩⟩;refine ⟨_,rfl,?_⟩)|(go_at_call 90;(with_reducible refine (spec_l1In.calls a1_2 0 (wrap64 (a0 - 1)) true _ A5.out).mono ?_);rintro e w' ⟨rfl,⟨nd,rfl⟩⟩)|(go_at_call 90;(with_reducible refine (spec_l1In.calls a1_3 0 3 true _ A7.out).mono ?_);rintro e w' ⟨rfl,⟨nd,rfl⟩⟩))
     go_ret
     exact ⟨by first|rfl|(simp [errW_none,errW_some] <;> rfl)|(simp [*,errW_none,errW_some] <;> rfl),be1_ HB.out GE113.out⟩
   ·replace c8:=Bool.eq_false_iff.mpr c8
    subst c8
    have H1 : (some false) = some r:=by rw [if_neg (show ¬ (false = true) by decide)] at H;exact H
    clear H
    have H:=H1
    clear H1
    obtain rfl:=Option.some.inj H
    go_enter Try.func120,Try.ntmps120
    go_wp2_with (first|((with_reducible refine gate_dst (N:=3) rfl ?_);refine box_event ?hg (N:=3) ?hd (cs:=#[.int .i64 a1_0,.string a1_1,.int .i64 a1_2,.int .i64 a1_3]) (t:=92) ?hr ?_;(case hd => rfl);(case hg => rfl);(case hr => first|(go_simp;done)|(go_simp;rfl));intro gb113 hg w14 hbox hb;have n0_:=Aside0.mk (below_step (be0_ HB.out) hb);have n1_:=Aside0.mk (hbox);have n2_:=Aside0.mk ((by rw [hg];exact (below_size (be0_ HB.out)) : w.heap.size ≤ gb113));have n3_:=Aside0.mk ((by rw [hg];exact (below_size (be0_ HB.out)) : w.heap.size ≤ gb113));clear HB;have HB:=n0_;have BK113:=n1_;have GW113:=n2_;have GE113:=n3_;clear n0_ n1_ n2_ n3_;clear hb hbox hg;have hcz15_0 : w14.cell? ⟨gb113,0,none⟩ = some (.int .i64 a1_0):=(blk_cell BK113.out 0).trans rfl;have hcz15_1 : w14.cell? ⟨gb113,1,none⟩ = some (.string a1_1):=(blk_cell BK113.out 1).trans rfl;have hcz15_2 : w14.cell? ⟨gb113,2,none⟩ = some (.int .i64 a1_2):=(blk_cell BK113.out 2).trans rfl;have hcz15_3 : w14.cell? ⟨gb113,3,none⟩ = some (.int .i64 a1_3):=(blk_cell BK113.out 3).trans rfl;have hfz15_0:=blk_frozen BK113.out 0;have hfz15_1:=blk_frozen BK113.out 1;have hfz15_2:=blk_frozen BK113.out 2;have hfz15_3:=blk_frozen BK113.out 3)|((with_reducible refine gate_callee (f:=90) rfl ?_);refine goesL_ (some 9) rfl rfl Try.func90 (by kernel_rfl) rfl #[.int .i64 a1_0,.int .i64 0,.int .i64 (wrap64 (a0 - 1))] rfl lp_ ?_;(with_reducible refine (spec_l1In.calls a1_0 0 (wrap64 (a0 - 1)) true _ A3.out).mono ?_);rintro e w' ⟨rfl,⟨nd,rfl⟩⟩;refine ⟨_,rfl,?_⟩)|(go_at_call 90;(with_reducible refine (spec_l1In.calls a1_2 0 (wrap64 (a0 - 1)) true _ A5.out).mono ?_);rintro e w' ⟨rfl,⟨nd,rfl⟩⟩)|(go_at_call 90;(with_reducible refine (spec_l1In.calls a1_3 0 3 false _ A7.out).mono ?_);rintro e w' ⟨rfl,⟨nd,rfl⟩⟩))
    go_ret
    exact ⟨by first|rfl|(simp [errW_none,errW_some] <;> rfl)|(simp [*,errW_none,errW_some] <;> rfl),be1_ HB.out GE113.out⟩
  ·replace c6:=Bool.eq_false_iff.mpr c6
   subst c6
   have H1 : (some false) = some r:=by rw [if_neg (show ¬ (false = true) by decide)] at H;exact H
   clear H
   have H:=H1
   clear H1
   obtain rfl:=Option.some.inj H
   go_enter Try.func120,Try.ntmps120
   go_wp2_with (first|((with_reducible refine gate_dst (N:=3) rfl ?_);refine box_event ?hg (N:=3) ?hd (cs:=#[.int .i64 a1_0,.string a1_1,.int .i64 a1_2,.int .i64 a1_3]) (t:=92) ?hr ?_;(case hd => rfl);(case hg => rfl);(case hr => first|(go_simp;done)|(go_simp;rfl));intro gb113 hg w16 hbox hb;have n0_:=Aside0.mk (below_step (be0_ HB.out) hb);have n1_:=Aside0.mk (hbox);have n2_:=Aside0.mk ((by rw [hg];exact (below_size (be0_ HB.out)) : w.heap.size ≤ gb113));have n3_:=Aside0.mk ((by rw [hg];exact (below_size (be0_ HB.out)) : w.heap.size ≤ gb113));clear HB;have HB:=n0_;have BK113:=n1_;have GW113:=n2_;have GE113:=n3_;clear n0_ n1_ n2_ n3_;clear hb hbox hg;have hcz17_0 : w16.cell? ⟨gb113,0,none⟩ = some (.int .i64 a1_0):=(blk_cell BK113.out 0).trans rfl;have hcz17_1 : w16.cell? ⟨gb113,1,none⟩ = some (.string a1_1):=(blk_cell BK113.out 1).trans rfl;have hcz17_2 : w16.cell? ⟨gb113,2,none⟩ = some (.int .i64 a1_2):=(blk_cell BK113.out 2).trans rfl;have hcz17_3 : w16.cell? ⟨gb113,3,none⟩ = some (.int .i64 a1_3):=(blk_cell BK113.out 3).trans rfl;have hfz17_0:=blk_frozen BK113.out 0;have hfz17_1:=blk_frozen BK113.out 1;have hfz17_2:=blk_frozen BK113.out 2;have hfz17_3:=blk_frozen BK113.out 3)|((with_reducible refine gate_callee (f:=90) rfl ?_);refine goesL_ (some 9) rfl rfl Try.func90 (by kernel_rfl) rfl #[.int .i64 a1_0,.int .i64 0,.int .i64 (wrap64 (a0 - 1))] rfl lp_ ?_;(with_reducible refine (spec_l1In.calls a1_0 0 (wrap64 (a0 - 1)) true _ A3.out).mono ?_);rintro e w' ⟨rfl,⟨nd,rfl⟩⟩;refine ⟨_,rfl,?_⟩)|(go_at_call 90;(with_reducible refine (spec_l1In.calls a1_2 0 (wrap64 (a0 - 1)) false _ A5.out).mono ?_);rintro e w' ⟨rfl,⟨nd,rfl⟩⟩))
   go_ret
   exact ⟨by first|rfl|(simp [errW_none,errW_some] <;> rfl)|(simp [*,errW_none,errW_some] <;> rfl),be1_ HB.out GE113.out⟩
 ·replace c4:=Bool.eq_false_iff.mpr c4
  subst c4
  have H1 : (some false) = some r:=by rw [if_neg (show ¬ (false = true) by decide)] at H;exact H
  clear H
  have H:=H1
  clear H1
  obtain rfl:=Option.some.inj H
  go_enter Try.func120,Try.ntmps120
  go_wp2_with (first|((with_reducible refine gate_dst (N:=3) rfl ?_);refine box_event ?hg (N:=3) ?hd (cs:=#[.int .i64 a1_0,.string a1_1,.int .i64 a1_2,.int .i64 a1_3]) (t:=92) ?hr ?_;(case hd => rfl);(case hg => rfl);(case hr => first|(go_simp;done)|(go_simp;rfl));intro gb113 hg w18 hbox hb;have n0_:=Aside0.mk (below_step (be0_ HB.out) hb);have n1_:=Aside0.mk (hbox);have n2_:=Aside0.mk ((by rw [hg];exact (below_size (be0_ HB.out)) : w.heap.size ≤ gb113));have n3_:=Aside0.mk ((by rw [hg];exact (below_size (be0_ HB.out)) : w.heap.size ≤ gb113));clear HB;have HB:=n0_;have BK113:=n1_;have GW113:=n2_;have GE113:=n3_;clear n0_ n1_ n2_ n3_;clear hb hbox hg;have hcz19_0 : w18.cell? ⟨gb113,0,none⟩ = some (.int .i64 a1_0):=(blk_cell BK113.out 0).trans rfl;have hcz19_1 : w18.cell? ⟨gb113,1,none⟩ = some (.string a1_1):=(blk_cell BK113.out 1).trans rfl;have hcz19_2 : w18.cell? ⟨gb113,2,none⟩ = some (.int .i64 a1_2):=(blk_cell BK113.out 2).trans rfl;have hcz19_3 : w18.cell? ⟨gb113,3,none⟩ = some (.int .i64 a1_3):=(blk_cell BK113.out 3).trans rfl;have hfz19_0:=blk_frozen BK113.out 0;have hfz19_1:=blk_frozen BK113.out 1;have hfz19_2:=blk_frozen BK113.out 2;have hfz19_3:=blk_frozen BK113.out 3)|((with_reducible refine gate_callee (f:=90) rfl ?_);refine goesL_ (some 9) rfl rfl Try.func90 (by kernel_rfl) rfl #[.int .i64 a1_0,.int .i64 0,.int .i64 (wrap64 (a0 - 1))] rfl lp_ ?_;(with_reducible refine (spec_l1In.calls a1_0 0 (wrap64 (a0 - 1)) false _ A3.out).mono ?_);rintro e w' ⟨rfl,⟨nd,rfl⟩⟩;refine ⟨_,rfl,?_⟩))
  go_ret
  exact ⟨by first|rfl|(simp [errW_none,errW_some] <;> rfl)|(simp [*,errW_none,errW_some] <;> rfl),be1_ HB.out GE113.out⟩
end Go.Proofs.Ytfmbpoojpnoafaa.X
end
section
namespace Go.Proofs.Ytfmbpoojpnoafaa.X
open Go.RowKit Go.Proofs.YtfmbpoojpnoafaaW.PrintWords Go.Proofs.YtfmbpoojpnoafaaW.PrintLast Go.Proofs.YtfmbpoojpnoafaaW.PrintMore
attribute [local go_sem] max2_int min2_int max_two min_two max_three min_three max_four min_four
set_option linter.unusedVariables false
set_option linter.unusedSimpArgs false
mutual
def spec_AutomatonValid.j0 : Nat → Bool → Int → List Int → List Int → List (S92) → Option (Bool)
 | 0,_,_,_,_,_ => none
 | k + 1,x30,x120000,x120001,x120002,x120003 => if x30 = true then (some false) else (spec_AutomatonValid.l0 k x120003 (x120003.length : Int) 0 x120000 x120001 x120002 x120003)
def spec_AutomatonValid.l0 : Nat → List (S92) → Int → Int → Int → List Int → List Int → List (S92) → Option (Bool)
 | 0,_,_,_,_,_,_,_ => none
 | k + 1,x32,x33,x34,x120000,x120001,x120002,x120003 => if x34 < x33 then (if 0 ≤ x34 then (if x34 < (x32.length : Int) then ((spec_l3Step.f x120000 ((rd_T92 x32 x34).f0) ((rd_T92 x32 x34).f1) ((rd_T92 x32 x34).f2) ((rd_T92 x32 x34).f3)).bind fun t125 => (if t125 = true then (if x34 > 0 then (if 0 ≤ (wrap64 (x34 - 1)) then (if (wrap64 (x34 - 1)) < (x120003.length : Int) then ((spec_l3Before.f ((rd_T92 x120003 (wrap64 (x34 - 1))).f0) ((rd_T92 x120003 (wrap64 (x34 - 1))).f1) ((rd_T92 x120003 (wrap64 (x34 - 1))).f2) ((rd_T92 x120003 (wrap64 (x34 - 1))).f3) ((rd_T92 x32 x34).f0) ((rd_T92 x32 x34).f1) ((rd_T92 x32 x34).f2) ((rd_T92 x32 x34).f3)).bind fun t127 => (if t127 = true then (spec_AutomatonValid.l0 k x32 x33 (wrap64 (x34 + 1)) x120000 x120001 x120002 x120003) else (some false))) else (none)) else (none)) else (spec_AutomatonValid.l0 k x32 x33 (wrap64 (x34 + 1)) x120000 x120001 x120002 x120003)) else (some false))) else (none)) else (none)) else (some true)
end
def spec_AutomatonValid.f (k : Nat) (a0_0 : Int) (l0_1 : List Int) (l0_2 : List Int) (l0_3 : List (S92)) : Option (Bool):=(spec_l1In.f a0_0 1 4).bind fun t120 => (if t120 = true then ((spec_l3Marks.f k a0_0 l0_1).bind fun t121 => (if t121 = true then ((spec_l3Marks.f k a0_0 l0_2).bind fun t122 => (if t122 = true then (spec_AutomatonValid.j0 k (decide ((l0_3.length : Int) > 24)) a0_0 l0_1 l0_2 l0_3) else (spec_AutomatonValid.j0 k true a0_0 l0_1 l0_2 l0_3))) else (spec_AutomatonValid.j0 k true a0_0 l0_1 l0_2 l0_3))) else (spec_AutomatonValid.j0 k true a0_0 l0_1 l0_2 l0_3))
theorem spec_AutomatonValid.mono_l : ∀ k,(∀ y0 y1 y2 y3 y4,LeO (spec_AutomatonValid.j0 k y0 y1 y2 y3 y4) (spec_AutomatonValid.j0 (k + 1) y0 y1 y2 y3 y4)) ∧ (∀ y0 y1 y2 y3 y4 y5 y6,LeO (spec_AutomatonValid.l0 k y0 y1 y2 y3 y4 y5 y6) (spec_AutomatonValid.l0 (k + 1) y0 y1 y2 y3 y4 y5 y6))
 | 0 => ⟨fun _ _ _ _ _ r h => by simp [spec_AutomatonValid.j0] at h,fun _ _ _ _ _ _ _ r h => by simp [spec_AutomatonValid.l0] at h⟩
 | k + 1 => by
  obtain ⟨ih0,ih1⟩:=spec_AutomatonValid.mono_l k
  refine ⟨?_,?_⟩
  ·intro y0 y1 y2 y3 y4
   unfold spec_AutomatonValid.j0
   repeat' first
   | (with_reducible exact ih0 _ _ _ _ _)
   | (with_reducible exact ih1 _ _ _ _ _ _ _)
   | (with_reducible exact spec_l3Marks.mono _ _ _)
   | (with_reducible exact LeO.refl _)
   | (with_reducible exact LeO.none _)
   | (with_reducible refine LeO.ite ?_ ?_)
   | (with_reducible refine LeO.bind ?_ (fun _ => ?_))
   | exact ih0 _ _ _ _ _
   | exact ih1 _ _ _ _ _ _ _
   | exact spec_l3Marks.mono _ _ _
   | exact LeO.none _
   | refine LeO.ite ?_ ?_
   | refine LeO.bind ?_ (fun _ => ?_)
  ·intro y0 y1 y2 y3 y4 y5 y6
   unfold spec_AutomatonValid.l0
   repeat' first
   | (with_reducible exact ih0 _ _ _ _ _)
   | (with_reducible exact ih1 _ _ _ _ _ _ _)
   | (with_reducible exact spec_l3Marks.mono _ _ _)
   | (with_reducible exact LeO.refl _)
   | (with_reducible exact LeO.none _)
   | (with_reducible refine LeO.ite ?_ ?_)
   | (with_reducible refine LeO.bind ?_ (fun _ => ?_))
   | exact ih0 _ _ _ _ _
   | exact ih1 _ _ _ _ _ _ _
   | exact spec_l3Marks.mono _ _ _
   | exact LeO.none _
   | refine LeO.ite ?_ ?_
   | refine LeO.bind ?_ (fun _ => ?_)
theorem spec_AutomatonValid.mono : ∀ a0 a1 a2 a3 k,LeO (spec_AutomatonValid.f k a0 a1 a2 a3) (spec_AutomatonValid.f (k + 1) a0 a1 a2 a3):=by
 intro a0 a1 a2 a3 k
 obtain ⟨ih0,ih1⟩:=spec_AutomatonValid.mono_l k
 unfold spec_AutomatonValid.f
 repeat' first
   | (with_reducible exact ih0 _ _ _ _ _)
   | (with_reducible exact ih1 _ _ _ _ _ _ _)
   | (with_reducible exact spec_l3Marks.mono _ _ _)
   | (with_reducible exact LeO.refl _)
   | (with_reducible exact LeO.none _)
   | (with_reducible refine LeO.ite ?_ ?_)
   | (with_reducible refine LeO.bind ?_ (fun _ => ?_))
   | exact ih0 _ _ _ _ _
   | exact ih1 _ _ _ _ _ _ _
   | exact spec_l3Marks.mono _ _ _
   | exact LeO.none _
   | refine LeO.ite ?_ ?_
   | refine LeO.bind ?_ (fun _ => ?_)
def spec_AutomatonValid.T6 : Bool × List (List Nat × List Nat):=(true,[([],[]),([0],[0]),([],[]),([1,2],[1,2]),([3],[3]),([4,3],[4]),([5],[5]),([6,5],[5,6]),([7,5,5],[5,7]),([8],[8]),([9,8],[8,9]),([8],[8]),([11,8],[8,11]),([10,12,8],[8,10,12]),([13,8],[8,13]),([8],[8]),([14,15,8,8],[8,14,15]),([16,8],[8,16]),([8,17,5],[5,8,17]),([5,18],[5,18])])
def spec_AutomatonValid.B6 : List Nat:=[0,1,0,7,15,31,63,127,255,511,1023,511,2559,8191,16383,511,65535,131071,262143,524287]
theorem spec_AutomatonValid.tab6 : rtab .any (opsOf Try.f67 6) = spec_AutomatonValid.T6:=by kernel_rfl
theorem spec_AutomatonValid.bits6 : waitsOk spec_AutomatonValid.T6.2 spec_AutomatonValid.B6 = true:=by kernel_rfl
set_option maxHeartbeats 8000000 in
set_option maxRecDepth 100000 in
theorem spec_AutomatonValid.calls (k : Nat) (a0_0 : Int) (A0_1 : Option Addr) (c0_1 : Nat) (l0_1 : List Int) (A0_2 : Option Addr) (c0_2 : Nat) (l0_2 : List Int) (A0_3 : Option Addr) (c0_3 : Nat) (l0_3 : List (S92)) (r : Bool) (w : World) (hr0_1 : Kd.C (Kd.int .i64) w A0_1 l0_1.length l0_1) (hc0_1 : l0_1.length ≤ c0_1) (hr0_2 : Kd.C (Kd.int .i64) w A0_2 l0_2.length l0_2) (hc0_2 : l0_2.length ≤ c0_2) (hr0_3 : Kd.C k92 w A0_3 l0_3.length l0_3) (hc0_3 : l0_3.length ≤ c0_3) (h : spec_AutomatonValid.f k a0_0 l0_1 l0_2 l0_3 = some r) :
  Calls Try.prog 67 #[.agg #[.int .i64 a0_0,.slice A0_1 l0_1.length c0_1,.slice A0_2 l0_2.length c0_2,.slice A0_3 l0_3.length c0_3]] w fun e w' => e = .returned (.bool r) ∧ Below w.heap.size w w':=by
 have hu33:=Try.underlying33
 have hu92:=Try.underlying92
 have HR0_1:=Aside0.mk hr0_1
 have HC0_1:=Aside0.mk hc0_1
 clear hr0_1 hc0_1
 have HR0_2:=Aside0.mk hr0_2
 have HC0_2:=Aside0.mk hc0_2
 clear hr0_2 hc0_2
 have HR0_3:=Aside0.mk hr0_3
 have HC0_3:=Aside0.mk hc0_3
 clear hr0_3 hc0_3
 have HB:=Aside0.mk (Below.refl w.heap.size w)
 have H : ((spec_l1In.f a0_0 1 4).bind fun t120 => (if t120 = true then ((spec_l3Marks.f k a0_0 l0_1).bind fun t121 => (if t121 = true then ((spec_l3Marks.f k a0_0 l0_2).bind fun t122 => (if t122 = true then (spec_AutomatonValid.j0 k (decide ((l0_3.length : Int) > 24)) a0_0 l0_1 l0_2 l0_3) else (spec_AutomatonValid.j0 k true a0_0 l0_1 l0_2 l0_3))) else (spec_AutomatonValid.j0 k true a0_0 l0_1 l0_2 l0_3))) else (spec_AutomatonValid.j0 k true a0_0 l0_1 l0_2 l0_3))) = some r:=h
 clear h
 have HC2:=Aside0.mk H
 clear H
 go_enter Try.func67,Try.ntmps67
 go_upto_region 1 with (first|((with_reducible refine gate_dst (N:=1) rfl ?_);(try (refine gate_guard (by rfl) ?_;dsimp only));refine box_event ?hg (N:=1) ?hd (cs:=#[.int .i64 a0_0,.slice A0_1 l0_1.length c0_1,.slice A0_2 l0_2.length c0_2,.slice A0_3 l0_3.length c0_3]) (t:=33) ?hr ?_;(case hd => rfl);(case hg => rfl);(case hr => first|(go_simp;done)|(go_simp;rfl));intro gb119 hg w3 hbox hb;have n0_:=Aside0.mk (below_step (be0_ HB.out) hb);have n1_:=Aside0.mk (hbox);have n2_:=Aside0.mk ((by rw [hg];exact (below_size (be0_ HB.out)) : w.heap.size ≤ gb119));have n3_:=Aside0.mk ((by rw [hg];exact (below_size (be0_ HB.out)) : w.heap.size ≤ gb119));clear HB;have HB:=n0_;have BK119:=n1_;have GW119:=n2_;have GE119:=n3_;clear n0_ n1_ n2_ n3_;clear hb hbox hg))
 (try simp only [Act.put,List.setIfInBounds_toArray,List.set_cons_zero,List.set_cons_succ])
 go_cut [30] (fun v30 wc => ∃ (kq : Nat) (x30_1 : Bool),v30 = .bool x30_1 ∧ Aside0 (spec_AutomatonValid.j0 kq x30_1 a0_0 l0_1 l0_2 l0_3 = some r) ∧ Aside0 (kq ≤ k) ∧ Aside0 (wc.heap[gb119]? = some (.cells #[.int .i64 a0_0,(.slice A0_1 l0_1.length c0_1),(.slice A0_2 l0_2.length c0_2),(.slice A0_3 l0_3.length c0_3)] 33 (0,0))) ∧ Aside0 (Below w.heap.size w wc))
 case first =>
  have H:=HC2.out
  clear HC2
  replace H:=Option.bind_eq_some_iff.mp H
  obtain ⟨t120,A40,H⟩:=H
  replace H : (if t120 = true then ((spec_l3Marks.f k a0_0 l0_1).bind fun t121 => (if t121 = true then ((spec_l3Marks.f k a0_0 l0_2).bind fun t122 => (if t122 = true then (spec_AutomatonValid.j0 k (decide ((l0_3.length : Int) > 24)) a0_0 l0_1 l0_2 l0_3) else (spec_AutomatonValid.j0 k true a0_0 l0_1 l0_2 l0_3))) else (spec_AutomatonValid.j0 k true a0_0 l0_1 l0_2 l0_3))) else (spec_AutomatonValid.j0 k true a0_0 l0_1 l0_2 l0_3)) = some r:=H
  have A4:=Aside0.mk A40
  clear A40
  by_cases c5 : t120 = true
  ·subst c5
   have H1 : ((spec_l3Marks.f k a0_0 l0_1).bind fun t121 => (if t121 = true then ((spec_l3Marks.f k a0_0 l0_2).bind fun t122 => (if t122 = true then (spec_AutomatonValid.j0 k (decide ((l0_3.length : Int) > 24)) a0_0 l0_1 l0_2 l0_3) else (spec_AutomatonValid.j0 k true a0_0 l0_1 l0_2 l0_3))) else (spec_AutomatonValid.j0 k true a0_0 l0_1 l0_2 l0_3))) = some r:=by rw [if_pos rfl] at H;exact H
   clear H
   have H:=H1
   clear H1
   replace H:=Option.bind_eq_some_iff.mp H
   obtain ⟨t121,A60,H⟩:=H
   replace H : (if t121 = true then ((spec_l3Marks.f k a0_0 l0_2).bind fun t122 => (if t122 = true then (spec_AutomatonValid.j0 k (decide ((l0_3.length : Int) > 24)) a0_0 l0_1 l0_2 l0_3) else (spec_AutomatonValid.j0 k true a0_0 l0_1 l0_2 l0_3))) else (spec_AutomatonValid.j0 k true a0_0 l0_1 l0_2 l0_3)) = some r:=H
   have A6:=Aside0.mk A60
   clear A60
   by_cases c7 : t121 = true
   ·subst c7
    have H1 : ((spec_l3Marks.f k a0_0 l0_2).bind fun t122 => (if t122 = true then (spec_AutomatonValid.j0 k (decide ((l0_3.length : Int) > 24)) a0_0 l0_1 l0_2 l0_3) else (spec_AutomatonValid.j0 k true a0_0 l0_1 l0_2 l0_3))) = some r:=by rw [if_pos rfl] at H;exact H
    clear H
    have H:=H1
    clear H1
    replace H:=Option.bind_eq_some_iff.mp H
    obtain ⟨t122,A80,H⟩:=H
    replace H : (if t122 = true then (spec_AutomatonValid.j0 k (decide ((l0_3.length : Int) > 24)) a0_0 l0_1 l0_2 l0_3) else (spec_AutomatonValid.j0 k true a0_0 l0_1 l0_2 l0_3)) = some r:=H
    have A8:=Aside0.mk A80
    clear A80
    by_cases c9 : t122 = true
    ·subst c9
     have H1 : (spec_AutomatonValid.j0 k (decide ((l0_3.length : Int) > 24)) a0_0 l0_1 l0_2 l0_3) = some r:=by rw [if_pos rfl] at H;exact H
     clear H
     have H:=H1
     clear H1
     have H':=Aside0.mk H
     clear H
     have hcz10_0 : w3.cell? ⟨gb119,0,none⟩ = some (.int .i64 a0_0):=(blk_cell BK119.out 0).trans rfl
     have hcz10_1 : w3.cell? ⟨gb119,1,none⟩ = some (.slice A0_1 l0_1.length c0_1):=(blk_cell BK119.out 1).trans rfl
     have hcz10_2 : w3.cell? ⟨gb119,2,none⟩ = some (.slice A0_2 l0_2.length c0_2):=(blk_cell BK119.out 2).trans rfl
     have hcz10_3 : w3.cell? ⟨gb119,3,none⟩ = some (.slice A0_3 l0_3.length c0_3):=(blk_cell BK119.out 3).trans rfl
     have hfz10_0:=blk_frozen BK119.out 0
     have hfz10_1:=blk_frozen BK119.out 1
     have hfz10_2:=blk_frozen BK119.out 2
     have hfz10_3:=blk_frozen BK119.out 3
     go_wp2_with (first|((with_reducible refine gate_callee (f:=90) rfl ?_);refine goesL_ (some 7) rfl rfl Try.func90 (by kernel_rfl) rfl #[.int .i64 a0_0,.int .i64 1,.int .i64 4] rfl lp_ ?_;(with_reducible refine (spec_l1In.calls a0_0 1 4 true _ A4.out).mono ?_);rintro e w' ⟨rfl,⟨nd,rfl⟩⟩;refine ⟨_,rfl,?_⟩)|(go_at_call 119;(with_reducible refine (spec_l3Marks.calls k a0_0 _ _ l0_1 true _ ?side1 ?side2 A6.out).mono ?_);(case side1 => repeat (first|exact (Kd.C_below HR0_1.out (be1_ HB.out GE119.out))|(with_reducible refine Kd.C_alloc ?_ _)|(with_reducible refine Kd.C_drewN ?_ _)|(with_reducible refine Kd.C_drew ?_)));(case side2 => exact HC0_1.out);rintro e w' ⟨rfl,⟨nd,rfl⟩⟩)|(go_at_call 119;(with_reducible refine (spec_l3Marks.calls k a0_0 _ _ l0_2 true _ ?side1 ?side2 A8.out).mono ?_);(case side1 => repeat (first|exact (Kd.C_below HR0_2.out (be1_ HB.out GE119.out))|(with_reducible refine Kd.C_alloc ?_ _)|(with_reducible refine Kd.C_drewN ?_ _)|(with_reducible refine Kd.C_drew ?_)));(case side2 => exact HC0_2.out);rintro e w' ⟨rfl,⟨nd,rfl⟩⟩))
     go_meet
     case rel => exact ⟨_,(decide ((l0_3.length : Int) > 24)),(by first|rfl|(simp;done)|(simp [*];done)),H',⟨by first|omega|exact Nat.le_refl _⟩,⟨pe_ BK119.out⟩,⟨be1_ HB.out GE119.out⟩⟩
    ·replace c9:=Bool.eq_false_iff.mpr c9
     subst c9
     have H1 : (spec_AutomatonValid.j0 k true a0_0 l0_1 l0_2 l0_3) = some r:=by rw [if_neg (show ¬ (false = true) by decide)] at H;exact H
     clear H
     have H:=H1
     clear H1
     have H':=Aside0.mk H
     clear H
     have hcz11_0 : w3.cell? ⟨gb119,0,none⟩ = some (.int .i64 a0_0):=(blk_cell BK119.out 0).trans rfl
     have hcz11_1 : w3.cell? ⟨gb119,1,none⟩ = some (.slice A0_1 l0_1.length c0_1):=(blk_cell BK119.out 1).trans rfl
     have hcz11_2 : w3.cell? ⟨gb119,2,none⟩ = some (.slice A0_2 l0_2.length c0_2):=(blk_cell BK119.out 2).trans rfl
     have hcz11_3 : w3.cell? ⟨gb119,3,none⟩ = some (.slice A0_3 l0_3.length c0_3):=(blk_cell BK119.out 3).trans rfl
     have hfz11_0:=blk_frozen BK119.out 0
     have hfz11_1:=blk_frozen BK119.out 1
     have hfz11_2:=blk_frozen BK119.out 2
     have hfz11_3:=blk_frozen BK119.out 3
     go_wp2_with (first|((with_reducible refine gate_callee (f:=90) rfl ?_);refine goesL_ (some 7) rfl rfl Try.func90 (by kernel_rfl) rfl #[.int .i64 a0_0,.int .i64 1,.int .i64 4] rfl lp_ ?_;(with_reducible refine (spec_l1In.calls a0_0 1 4 true _ A4.out).mono ?_);rintro e w' ⟨rfl,⟨nd,rfl⟩⟩;refine ⟨_,rfl,?_⟩)|(go_at_call 119;(with_reducible refine (spec_l3Marks.calls k a0_0 _ _ l0_1 true _ ?side1 ?side2 A6.out).mono ?_);(case side1 => repeat (first|exact (Kd.C_below HR0_1.out (be1_ HB.out GE119.out))|(with_reducible refine Kd.C_alloc ?_ _)|(with_reducible refine Kd.C_drewN ?_ _)|(with_reducible refine Kd.C_drew ?_)));(case side2 => exact HC0_1.out);rintro e w' ⟨rfl,⟨nd,rfl⟩⟩)|(go_at_call 119;(with_reducible refine (spec_l3Marks.calls k a0_0 _ _ l0_2 false _ ?side1 ?side2 A8.out).mono ?_);(case side1 => repeat (first|exact (Kd.C_below HR0_2.out (be1_ HB.out GE119.out))|(with_reducible refine Kd.C_alloc ?_ _)|(with_reducible refine Kd.C_drewN ?_ _)|(with_reducible refine Kd.C_drew ?_)));(case side2 => exact HC0_2.out);rintro e w' ⟨rfl,⟨nd,rfl⟩⟩))
     go_meet
     case rel => exact ⟨_,(true),(by first|rfl|(simp;done)|(simp [*];done)),H',⟨by first|omega|exact Nat.le_refl _⟩,⟨pe_ BK119.out⟩,⟨be1_ HB.out GE119.out⟩⟩
   ·replace c7:=Bool.eq_false_iff.mpr c7
    subst c7
    have H1 : (spec_AutomatonValid.j0 k true a0_0 l0_1 l0_2 l0_3) = some r:=by rw [if_neg (show ¬ (false = true) by decide)] at H;exact H
    clear H
    have H:=H1
    clear H1
    have H':=Aside0.mk H
    clear H
    have hcz12_0 : w3.cell? ⟨gb119,0,none⟩ = some (.int .i64 a0_0):=(blk_cell BK119.out 0).trans rfl
    have hcz12_1 : w3.cell? ⟨gb119,1,none⟩ = some (.slice A0_1 l0_1.length c0_1):=(blk_cell BK119.out 1).trans rfl
    have hcz12_2 : w3.cell? ⟨gb119,2,none⟩ = some (.slice A0_2 l0_2.length c0_2):=(blk_cell BK119.out 2).trans rfl
    have hcz12_3 : w3.cell? ⟨gb119,3,none⟩ = some (.slice A0_3 l0_3.length c0_3):=(blk_cell BK119.out 3).trans rfl
    have hfz12_0:=blk_frozen BK119.out 0
    have hfz12_1:=blk_frozen BK119.out 1
    have hfz12_2:=blk_frozen BK119.out 2
    have hfz12_3:=blk_frozen BK119.out 3
    go_wp2_with (first|((with_reducible refine gate_callee (f:=90) rfl ?_);refine goesL_ (some 7) rfl rfl Try.func90 (by kernel_rfl) rfl #[.int .i64 a0_0,.int .i64 1,.int .i64 4] rfl lp_ ?_;(with_reducible refine (spec_l1In.calls a0_0 1 4 true _ A4.out).mono ?_);rintro e w' ⟨rfl,⟨nd,rfl⟩⟩;refine ⟨_,rfl,?_⟩)|(go_at_call 119;(with_reducible refine (spec_l3Marks.calls k a0_0 _ _ l0_1 false _ ?side1 ?side2 A6.out).mono ?_);(case side1 => repeat (first|exact (Kd.C_below HR0_1.out (be1_ HB.out GE119.out))|(with_reducible refine Kd.C_alloc ?_ _)|(with_reducible refine Kd.C_drewN ?_ _)|(with_reducible refine Kd.C_drew ?_)));(case side2 => exact HC0_1.out);rintro e w' ⟨rfl,⟨nd,rfl⟩⟩))
    go_meet
    case rel => exact ⟨_,(true),(by first|rfl|(simp;done)|(simp [*];done)),H',⟨by first|omega|exact Nat.le_refl _⟩,⟨pe_ BK119.out⟩,⟨be1_ HB.out GE119.out⟩⟩
  ·replace c5:=Bool.eq_false_iff.mpr c5
   subst c5
   have H1 : (spec_AutomatonValid.j0 k true a0_0 l0_1 l0_2 l0_3) = some r:=by rw [if_neg (show ¬ (false = true) by decide)] at H;exact H
   clear H
   have H:=H1
   clear H1
   have H':=Aside0.mk H
   clear H
   have hcz13_0 : w3.cell? ⟨gb119,0,none⟩ = some (.int .i64 a0_0):=(blk_cell BK119.out 0).trans rfl
   have hcz13_1 : w3.cell? ⟨gb119,1,none⟩ = some (.slice A0_1 l0_1.length c0_1):=(blk_cell BK119.out 1).trans rfl
   have hcz13_2 : w3.cell? ⟨gb119,2,none⟩ = some (.slice A0_2 l0_2.length c0_2):=(blk_cell BK119.out 2).trans rfl
   have hcz13_3 : w3.cell? ⟨gb119,3,none⟩ = some (.slice A0_3 l0_3.length c0_3):=(blk_cell BK119.out 3).trans rfl
   have hfz13_0:=blk_frozen BK119.out 0
   have hfz13_1:=blk_frozen BK119.out 1
   have hfz13_2:=blk_frozen BK119.out 2
   have hfz13_3:=blk_frozen BK119.out 3
   go_wp2_with (first|((with_reducible refine gate_callee (f:=90) rfl ?_);refine goesL_ (some 7) rfl rfl Try.func90 (by kernel_rfl) rfl #[.int .i64 a0_0,.int .i64 1,.int .i64 4] rfl lp_ ?_;(with_reducible refine (spec_l1In.calls a0_0 1 4 false _ A4.out).mono ?_);rintro e w' ⟨rfl,⟨nd,rfl⟩⟩;refine ⟨_,rfl,?_⟩))
   go_meet
   case rel => exact ⟨_,(true),(by first|rfl|(simp;done)|(simp [*];done)),H',⟨by first|omega|exact Nat.le_refl _⟩,⟨pe_ BK119.out⟩,⟨be1_ HB.out GE119.out⟩⟩
 case rest =>
  clear HC2
  try clear p2
  try clear c5
  try clear c6
  try clear c7
  try clear c9
  try clear hcz10_0
  try clear hcz10_1
  try clear hcz10_2
  try clear hcz10_3
  try clear hcz11_0
  try clear hcz11_1
  try clear hcz11_2
  try clear hcz11_3
  try clear hcz12_0
  try clear hcz12_1
  try clear hcz12_2
  try clear hcz12_3
  try clear hcz13_0
  try clear hcz13_1
  try clear hcz13_2
  try clear hcz13_3
  try clear hfz10_0
  try clear hfz10_1
  try clear hfz10_2
  try clear hfz10_3
  try clear hfz11_0
  try clear hfz11_1
  try clear hfz11_2
  try clear hfz11_3
  try clear hfz12_0
  try clear hfz12_1
  try clear hfz12_2
  try clear hfz12_3
  try clear hfz13_0
  try clear hfz13_1
  try clear hfz13_2
  try clear hfz13_3
  obtain ⟨kq,x30_1,rfl,HA,HJ1,BK119,HB⟩:=hcut
  cases kq with
  | zero => exact absurd HA.out (by simp [spec_AutomatonValid.j0])
  | succ kj1 =>
   have H:=HA.out
   clear HA
   simp only [spec_AutomatonValid.j0] at H
   by_cases c14 : x30_1 = true
   ·subst c14
    have H1 : (some false) = some r:=by rw [if_pos rfl] at H;exact H
    clear H
    have H:=H1
    clear H1
    obtain rfl:=Option.some.inj H
    go_wp2
    go_ret
    exact ⟨by first|rfl|(simp [errW_none,errW_some] <;> rfl)|(simp [*,errW_none,errW_some] <;> rfl),be1_ HB.out GE119.out⟩
   ·replace c14:=Bool.eq_false_iff.mpr c14
    subst c14
    have H1 : (spec_AutomatonValid.l0 kj1 l0_3 (l0_3.length : Int) 0 a0_0 l0_1 l0_2 l0_3) = some r:=by rw [if_neg (show ¬ (false = true) by decide)] at H;exact H
    clear H
    have H:=H1
    clear H1
    have H':=Aside0.mk H
    clear H
    have hcz15_0 : wc.cell? ⟨gb119,0,none⟩ = some (.int .i64 a0_0):=(blk_cell BK119.out 0).trans rfl
    have hcz15_1 : wc.cell? ⟨gb119,1,none⟩ = some (.slice A0_1 l0_1.length c0_1):=(blk_cell BK119.out 1).trans rfl
    have hcz15_2 : wc.cell? ⟨gb119,2,none⟩ = some (.slice A0_2 l0_2.length c0_2):=(blk_cell BK119.out 2).trans rfl
    have hcz15_3 : wc.cell? ⟨gb119,3,none⟩ = some (.slice A0_3 l0_3.length c0_3):=(blk_cell BK119.out 3).trans rfl
    have hfz15_0:=blk_frozen BK119.out 0
    have hfz15_1:=blk_frozen BK119.out 1
    have hfz15_2:=blk_frozen BK119.out 2
    have hfz15_3:=blk_frozen BK119.out 3
    go_wp2
    go_loopg [34] kj1 (fun kq v34 w' => ∃ (x34_2 : Int),v34 = .int .i64 x34_2 ∧ Aside0 (spec_AutomatonValid.l0 kq l0_3 (l0_3.length : Int) x34_2 a0_0 l0_1 l0_2 l0_3 = some r) ∧ Aside0 (kq ≤ kj1) ∧ Aside0 (w'.heap[gb119]? = some (.cells #[.int .i64 a0_0,(.slice A0_1 l0_1.length c0_1),(.slice A0_2 l0_2.length c0_2),(.slice A0_3 l0_3.length c0_3)] 33 (0,0))) ∧ Aside0 (Below w.heap.size w w'))
    case atStart => exact ⟨(0),(by first|rfl|(simp;done)|(simp [*];done)),H',⟨Nat.le_refl _⟩,⟨pe_ BK119.out⟩,⟨be1_ HB.out GE119.out⟩⟩
    case round =>
     clear H'
     try clear c1
     try clear p2
     try clear c5
     try clear c6
     try clear c7
     try clear c9
     try clear c14
     try clear hcz10_0
     try clear hcz10_1
     try clear hcz10_2
     try clear hcz10_3
     try clear hcz11_0
     try clear hcz11_1
     try clear hcz11_2
     try clear hcz11_3
     try clear hcz12_0
     try clear hcz12_1
     try clear hcz12_2
     try clear hcz12_3
     try clear hcz13_0
     try clear hcz13_1
     try clear hcz13_2
     try clear hcz13_3
     try clear hcz15_0
     try clear hcz15_1
     try clear hcz15_2
     try clear hcz15_3
     try clear hfz10_0
     try clear hfz10_1
     try clear hfz10_2
     try clear hfz10_3
     try clear hfz11_0
     try clear hfz11_1
     try clear hfz11_2
     try clear hfz11_3
     try clear hfz12_0
     try clear hfz12_1
     try clear hfz12_2
     try clear hfz12_3
     try clear hfz13_0
     try clear hfz13_1
     try clear hfz13_2
     try clear hfz13_3
     try clear hfz15_0
     try clear hfz15_1
     try clear hfz15_2
     try clear hfz15_3
     try clear p2
     obtain ⟨x34_2,rfl,HA,HK2,BK119,HB⟩:=hrel
     cases gk with
     | zero => exact absurd HA.out (by simp [spec_AutomatonValid.l0])
     | succ k2 =>
      have H:=HA.out
      clear HA
      simp only [spec_AutomatonValid.l0] at H
      by_cases c16 : x34_2 < (l0_3.length : Int)
      ·rw [if_pos c16] at H
       have c16b0 : decide (x34_2 < (l0_3.length : Int)) = true:=decide_eq_true c16
       clear c16
       by_cases c17 : 0 ≤ x34_2
       ·rw [if_pos c17] at H
        have c17b0 : decide (0 ≤ x34_2) = true:=decide_eq_true c17
        clear c17
        by_cases c18 : x34_2 < (l0_3.length : Int)
        ·rw [if_pos c18] at H
         have c18b0 : decide (x34_2 < (l0_3.length : Int)) = true:=decide_eq_true c18
         clear c18
         replace H:=Option.bind_eq_some_iff.mp H
         obtain ⟨t125,A190,H⟩:=H
         replace H : (if t125 = true then (if x34_2 > 0 then (if 0 ≤ (wrap64 (x34_2 - 1)) then (if (wrap64 (x34_2 - 1)) < (l0_3.length : Int) then ((spec_l3Before.f ((rd_T92 l0_3 (wrap64 (x34_2 - 1))).f0) ((rd_T92 l0_3 (wrap64 (x34_2 - 1))).f1) ((rd_T92 l0_3 (wrap64 (x34_2 - 1))).f2) ((rd_T92 l0_3 (wrap64 (x34_2 - 1))).f3) ((rd_T92 l0_3 x34_2).f0) ((rd_T92 l0_3 x34_2).f1) ((rd_T92 l0_3 x34_2).f2) ((rd_T92 l0_3 x34_2).f3)).bind fun t127 => (if t127 = true then (spec_AutomatonValid.l0 k2 l0_3 (l0_3.length : Int) (wrap64 (x34_2 + 1)) a0_0 l0_1 l0_2 l0_3) else (some false))) else (none)) else (none)) else (spec_AutomatonValid.l0 k2 l0_3 (l0_3.length : Int) (wrap64 (x34_2 + 1)) a0_0 l0_1 l0_2 l0_3)) else (some false)) = some r:=H
         have A19:=Aside0.mk A190
         clear A190
         by_cases c20 : t125 = true
         ·subst c20
          have H1 : (if x34_2 > 0 then (if 0 ≤ (wrap64 (x34_2 - 1)) then (if (wrap64 (x34_2 - 1)) < (l0_3.length : Int) then ((spec_l3Before.f ((rd_T92 l0_3 (wrap64 (x34_2 - 1))).f0) ((rd_T92 l0_3 (wrap64 (x34_2 - 1))).f1) ((rd_T92 l0_3 (wrap64 (x34_2 - 1))).f2) ((rd_T92 l0_3 (wrap64 (x34_2 - 1))).f3) ((rd_T92 l0_3 x34_2).f0) ((rd_T92 l0_3 x34_2).f1) ((rd_T92 l0_3 x34_2).f2) ((rd_T92 l0_3 x34_2).f3)).bind fun t127 => (if t127 = true then (spec_AutomatonValid.l0 k2 l0_3 (l0_3.length : Int) (wrap64 (x34_2 + 1)) a0_0 l0_1 l0_2 l0_3) else (some false))) else (none)) else (none)) else (spec_AutomatonValid.l0 k2 l0_3 (l0_3.length : Int) (wrap64 (x34_2 + 1)) a0_0 l0_1 l0_2 l0_3)) = some r:=by rw [if_pos rfl] at H;exact H
          clear H
          have H:=H1
          clear H1
          by_cases c21 : x34_2 > 0
          ·rw [if_pos c21] at H
           have c21b0 : decide (0 < x34_2) = true:=decide_eq_true c21
           clear c21
           obtain ⟨ji22,hji22⟩ : ∃ j_ : Int,(wrap64 (x34_2 - 1)) = j_:=⟨_,rfl⟩
           replace H : (if 0 ≤ (ji22) then (if (ji22) < (l0_3.length : Int) then ((spec_l3Before.f ((rd_T92 l0_3 (ji22)).f0) ((rd_T92 l0_3 (ji22)).f1) ((rd_T92 l0_3 (ji22)).f2) ((rd_T92 l0_3 (ji22)).f3) ((rd_T92 l0_3 x34_2).f0) ((rd_T92 l0_3 x34_2).f1) ((rd_T92 l0_3 x34_2).f2) ((rd_T92 l0_3 x34_2).f3)).bind fun t127 => (if t127 = true then (spec_AutomatonValid.l0 k2 l0_3 (l0_3.length : Int) (wrap64 (x34_2 + 1)) a0_0 l0_1 l0_2 l0_3) else (some false))) else (none)) else (none)) = some r:=by first|(rw [hji22] at H;exact H)|(simp only [hji22] at H ⊢;exact H)
           (try rw [hji22] at A19)
           have hji22w : (IntKind.i64.wrap (x34_2 - 1)) = ji22:=(i64_w _).trans hji22
           by_cases c23 : 0 ≤ (ji22)
           ·rw [if_pos c23] at H
            have c23b0 : decide (0 ≤ (ji22)) = true:=decide_eq_true c23
            clear c23
            by_cases c24 : (ji22) < (l0_3.length : Int)
            ·rw [if_pos c24] at H
             have c24b0 : decide ((ji22) < (l0_3.length : Int)) = true:=decide_eq_true c24
             clear c24
             replace H:=Option.bind_eq_some_iff.mp H
             obtain ⟨t127,A250,H⟩:=H
             replace H : (if t127 = true then (spec_AutomatonValid.l0 k2 l0_3 (l0_3.length : Int) (wrap64 (x34_2 + 1)) a0_0 l0_1 l0_2 l0_3) else (some false)) = some r:=H
             have A25:=Aside0.mk A250
             clear A250
             by_cases c26 : t127 = true
             ·subst c26
              have H1 : (spec_AutomatonValid.l0 k2 l0_3 (l0_3.length : Int) (wrap64 (x34_2 + 1)) a0_0 l0_1 l0_2 l0_3) = some r:=by rw [if_pos rfl] at H;exact H
              clear H
              have H:=H1
              clear H1
              have H':=Aside0.mk H
              clear H
              have p123 : 0 ≤ (x34_2 : Int):=of_decide_eq_true (by first|(with_reducible assumption)|assumption)
              have q123 : x34_2 < (l0_3.length : Int):=of_decide_eq_true (by first|(with_reducible assumption)|assumption)
              obtain ⟨ad123,e123,hx123_0,hx123_1,hx123_2,hx123_3⟩:=at_T92 HR0_3.out x34_2 p123 q123
              cases e123
              replace hx123_0:=(HB.out.cell (World.block_lt_of_cell? w _ hx123_0)).trans hx123_0
              replace hx123_1:=(HB.out.cell (World.block_lt_of_cell? w _ hx123_1)).trans hx123_1
              replace hx123_2:=(HB.out.cell (World.block_lt_of_cell? w _ hx123_2)).trans hx123_2
              replace hx123_3:=(HB.out.cell (World.block_lt_of_cell? w _ hx123_3)).trans hx123_3
              replace p123:=eq_true p123
              replace q123:=eq_true q123
              try go_wp2_with (first|((with_reducible refine gate_dst (N:=4) rfl ?_);(try (refine gate_guard (by rfl) ?_;dsimp only));refine box_event ?hg (N:=4) ?hd (cs:=#[.int .i64 0,.string (⟨#[]⟩ : ByteArray),.int .i64 0,.int .i64 0]) (t:=92) ?hr ?_;(case hd => rfl);(case hg => rfl);(case hr => first|(go_simp;done)|(go_simp;rfl));intro gb124 hg w27 hbox hb;have n0_:=Aside0.mk (blk_below (g:=gb119) (o:=.cells #[.int .i64 a0_0,.slice A0_1 l0_1.length c0_1,.slice A0_2 l0_2.length c0_2,.slice (some ad123) l0_3.length c0_3] 33 (0,0)) (pe_ BK119.out) hb);have n1_:=Aside0.mk (below_step (be1_ HB.out GE119.out) hb);have n2_:=Aside0.mk (hbox);have n3_:=Aside0.mk ((by rw [hg];exact (below_size (be1_ HB.out GE119.out)) : w.heap.size ≤ gb124));have n4_:=Aside0.mk ((by rw [hg];exact (below_size (be1_ HB.out GE119.out)) : w.heap.size ≤ gb124));have n5_:=Aside0.mk ((by rw [hg];exact Nat.ne_of_lt (blk_lt (g:=gb119) (o:=.cells #[.int .i64 a0_0,.slice A0_1 l0_1.length c0_1,.slice A0_2 l0_2.length c0_2,.slice (some ad123) l0_3.length c0_3] 33 (0,0)) (pe_ BK119.out)) : gb119 ≠ gb124));have n6_:=Aside0.mk ((by rw [hg];exact Nat.ne_of_gt (blk_lt (g:=gb119) (o:=.cells #[.int .i64 a0_0,.slice A0_1 l0_1.length c0_1,.slice A0_2 l0_2.length c0_2,.slice (some ad123) l0_3.length c0_3] 33 (0,0)) (pe_ BK119.out)) : gb124 ≠ gb119));clear BK119;clear HB;have BK119:=n0_;have HB:=n1_;have BK124:=n2_;have GW124:=n3_;have GE124:=n4_;have NB119_124:=n5_;have NB124_119:=n6_;clear n0_ n1_ n2_ n3_ n4_ n5_ n6_;clear hb hbox hg;have hnb28:=NB124_119.out;have hnc28:=NB119_124.out;have hcz29_0 : w27.cell? ⟨gb124,0,none⟩ = some (.int .i64 0):=(blk_cell BK124.out 0).trans rfl;have hcz29_1 : w27.cell? ⟨gb124,1,none⟩ = some (.string (⟨#[]⟩ : ByteArray)):=(blk_cell BK124.out 1).trans rfl;have hcz29_2 : w27.cell? ⟨gb124,2,none⟩ = some (.int .i64 0):=(blk_cell BK124.out 2).trans rfl;have hcz29_3 : w27.cell? ⟨gb124,3,none⟩ = some (.int .i64 0):=(blk_cell BK124.out 3).trans rfl;have hfz29_0:=blk_frozen BK124.out 0;have hfz29_1:=blk_frozen BK124.out 1;have hfz29_2:=blk_frozen BK124.out 2;have hfz29_3:=blk_frozen BK124.out 3))
              have n0_ : Aside0 (((((w27.setCell ⟨gb124,0,none⟩ (.int .i64 ((rd_T92 l0_3 x34_2).f0))).setCell ⟨gb124,1,none⟩ (.string ((rd_T92 l0_3 x34_2).f1))).setCell ⟨gb124,2,none⟩ (.int .i64 ((rd_T92 l0_3 x34_2).f2))).setCell ⟨gb124,3,none⟩ (.int .i64 ((rd_T92 l0_3 x34_2).f3))).heap[gb119]? = some (.cells #[.int .i64 a0_0,.slice A0_1 l0_1.length c0_1,.slice A0_2 l0_2.length c0_2,.slice (some ad123) l0_3.length c0_3] 33 (0,0))):=⟨by refine pe_ ?_;refine blk_far ?_ NB119_124.out _;refine pe_ ?_;refine blk_far ?_ NB119_124.out _;refine pe_ ?_;refine blk_far ?_ NB119_124.out _;refine pe_ ?_;refine blk_far ?_ NB119_124.out _;refine pe_ ?_;exact BK119.out⟩
              have n1_ : Aside0 (((((w27.setCell ⟨gb124,0,none⟩ (.int .i64 ((rd_T92 l0_3 x34_2).f0))).setCell ⟨gb124,1,none⟩ (.string ((rd_T92 l0_3 x34_2).f1))).setCell ⟨gb124,2,none⟩ (.int .i64 ((rd_T92 l0_3 x34_2).f2))).setCell ⟨gb124,3,none⟩ (.int .i64 ((rd_T92 l0_3 x34_2).f3))).heap[gb124]? = some (.cells #[.int .i64 ((rd_T92 l0_3 x34_2).f0),.string ((rd_T92 l0_3 x34_2).f1),.int .i64 ((rd_T92 l0_3 x34_2).f2),.int .i64 ((rd_T92 l0_3 x34_2).f3)] 92 (0,0))):=⟨by refine pe_ ?_;refine blk_put (cs:=#[.int .i64 ((rd_T92 l0_3 x34_2).f0),.string ((rd_T92 l0_3 x34_2).f1),.int .i64 ((rd_T92 l0_3 x34_2).f2),.int .i64 0]) ?_ 3 _ rfl;refine pe_ ?_;refine blk_put (cs:=#[.int .i64 ((rd_T92 l0_3 x34_2).f0),.string ((rd_T92 l0_3 x34_2).f1),.int .i64 0,.int .i64 0]) ?_ 2 _ rfl;refine pe_ ?_;refine blk_put (cs:=#[.int .i64 ((rd_T92 l0_3 x34_2).f0),.string (⟨#[]⟩ : ByteArray),.int .i64 0,.int .i64 0]) ?_ 1 _ rfl;refine pe_ ?_;refine blk_put (cs:=#[.int .i64 0,.string (⟨#[]⟩ : ByteArray),.int .i64 0,.int .i64 0]) ?_ 0 _ rfl;refine pe_ ?_;exact BK124.out⟩
              have n2_ : Aside0 (Below w.heap.size w ((((w27.setCell ⟨gb124,0,none⟩ (.int .i64 ((rd_T92 l0_3 x34_2).f0))).setCell ⟨gb124,1,none⟩ (.string ((rd_T92 l0_3 x34_2).f1))).setCell ⟨gb124,2,none⟩ (.int .i64 ((rd_T92 l0_3 x34_2).f2))).setCell ⟨gb124,3,none⟩ (.int .i64 ((rd_T92 l0_3 x34_2).f3)))):=⟨be2_ HB.out GE119.out GE124.out⟩
              (try clear BK119)
              (try clear BK124)
              (try clear HB)
              generalize ((((w27.setCell ⟨gb124,0,none⟩ (.int .i64 ((rd_T92 l0_3 x34_2).f0))).setCell ⟨gb124,1,none⟩ (.string ((rd_T92 l0_3 x34_2).f1))).setCell ⟨gb124,2,none⟩ (.int .i64 ((rd_T92 l0_3 x34_2).f2))).setCell ⟨gb124,3,none⟩ (.int .i64 ((rd_T92 l0_3 x34_2).f3))) = w30 at n0_ n1_ n2_ ⊢
              have BK119:=n0_
              have BK124:=n1_
              have HB:=n2_
              clear n0_ n1_ n2_
              have n0_:=Aside0.mk (blk_drew BK119.out)
              have n1_:=Aside0.mk (blk_drew BK124.out)
              have n2_:=Aside0.mk (below_drew1 HB.out)
              clear BK119
              clear BK124
              clear HB
              have BK119:=n0_
              have BK124:=n1_
              have HB:=n2_
              clear n0_ n1_ n2_
              have p126 : 0 ≤ ((ji22) : Int):=of_decide_eq_true (by first|(with_reducible assumption)|assumption)
              have q126 : (ji22) < (l0_3.length : Int):=of_decide_eq_true (by first|(with_reducible assumption)|assumption)
              obtain ⟨ad126,e126,hx126_0,hx126_1,hx126_2,hx126_3⟩:=at_T92 HR0_3.out (ji22) p126 q126
              have hw126_3:=hx126_3
              have hw126_2:=hx126_2
              have hw126_1:=hx126_1
              have hw126_0:=hx126_0
              obtain rfl : ad123 = ad126:=(by injection e126)
              replace hx126_0:=(HB.out.cell (World.block_lt_of_cell? w _ hx126_0)).trans hx126_0
              replace hx126_1:=(HB.out.cell (World.block_lt_of_cell? w _ hx126_1)).trans hx126_1
              replace hx126_2:=(HB.out.cell (World.block_lt_of_cell? w _ hx126_2)).trans hx126_2
              replace hx126_3:=(HB.out.cell (World.block_lt_of_cell? w _ hx126_3)).trans hx126_3
              replace p126:=eq_true p126
              replace q126:=eq_true q126
              refine start_ (n:=20) (S:=fun w' => w'.cell? ⟨gb119,0,none⟩ = some (.int .i64 a0_0) ∧ w'.cell? ⟨gb119,1,none⟩ = some (.slice A0_1 l0_1.length c0_1) ∧ w'.cell? ⟨gb119,2,none⟩ = some (.slice A0_2 l0_2.length c0_2) ∧ w'.cell? ⟨gb119,3,none⟩ = some (.slice (some ad123) l0_3.length c0_3) ∧ w'.cell? ⟨gb124,0,none⟩ = some (.int .i64 ((rd_T92 l0_3 x34_2).f0)) ∧ w'.cell? ⟨gb124,1,none⟩ = some (.string ((rd_T92 l0_3 x34_2).f1)) ∧ w'.cell? ⟨gb124,2,none⟩ = some (.int .i64 ((rd_T92 l0_3 x34_2).f2)) ∧ w'.cell? ⟨gb124,3,none⟩ = some (.int .i64 ((rd_T92 l0_3 x34_2).f3)) ∧ w'.cell? (ad123.add (((ji22)).toNat * 4)) = some (.int .i64 ((rd_T92 l0_3 (ji22)).f0)) ∧ w'.cell? ⟨(ad123.add (((ji22)).toNat * 4)).block,(ad123.add (((ji22)).toNat * 4)).off + 1,none⟩ = some (.string ((rd_T92 l0_3 (ji22)).f1)) ∧ w'.cell? ⟨(ad123.add (((ji22)).toNat * 4)).block,(ad123.add (((ji22)).toNat * 4)).off + 2,none⟩ = some (.int .i64 ((rd_T92 l0_3 (ji22)).f2)) ∧ w'.cell? ⟨(ad123.add (((ji22)).toNat * 4)).block,(ad123.add (((ji22)).toNat * 4)).off + 3,none⟩ = some (.int .i64 ((rd_T92 l0_3 (ji22)).f3))) (ds:=[]) #[false,false,false,false,false,false,false,false,false,false,false,false,false,false,false,false,false,false,false,false] (by kernel_rfl) rfl rfl ⟨(blk_cell BK119.out 0).trans rfl,(blk_cell BK119.out 1).trans rfl,(blk_cell BK119.out 2).trans rfl,(blk_cell BK119.out 3).trans rfl,(blk_cell BK124.out 0).trans rfl,(blk_cell BK124.out 1).trans rfl,(blk_cell BK124.out 2).trans rfl,(blk_cell BK124.out 3).trans rfl,((HB.out.cell (World.block_lt_of_cell? w _ hw126_0)).trans hw126_0),((HB.out.cell (World.block_lt_of_cell? w _ hw126_1)).trans hw126_1),((HB.out.cell (World.block_lt_of_cell? w _ hw126_2)).trans hw126_2),((HB.out.cell (World.block_lt_of_cell? w _ hw126_3)).trans hw126_3)⟩ (fun hHeld => ?_);refine with_tabW spec_AutomatonValid.tab6 spec_AutomatonValid.bits6 (fun HT_ HW_ => ?_)
              generalize w30.drew = w31 at BK119 BK124 HB hx126_0 hx126_1 hx126_2 hx126_3 hHeld ⊢
              refine stW_ [.p 0 39,.t 1 40,.t 2 41] 3 7 20 HT_.out HW_.out hHeld (a':=?_) ?_ rfl (by kernel_rfl) (fun _ _ _ _ h => h) ?_
              rotate_left
              ·repeat (first|exact Steps.nil|(refine Steps.p (oi:=?_) (v:=?_) (a1:=?_) ?_ ?_ ?_ ?_ ?_;rotate_left 2;rfl;rfl;(refine Or.inl ⟨by rfl,?_⟩;intro w';go_simp;with_reducible rfl);rotate_left;(simp only [Act.put,List.setIfInBounds_toArray,List.set_cons_zero,List.set_cons_succ,i64_w,i32_w];rfl))|(refine Steps.t (oi:=?_) (v:=?_) (a1:=?_) ?_ ?_ ?_ ?_ ?_;rotate_left 2;rfl;rfl;(refine Or.inl ⟨by rfl,?_⟩;rintro w' ⟨s0,s1,s2,s3,s4,s5,s6,s7,s8,s9,s10,s11⟩;go_simp;with_reducible rfl);rotate_left;(simp only [Act.put,List.setIfInBounds_toArray,List.set_cons_zero,List.set_cons_succ,i64_w,i32_w];rfl)))
              refine one_ (i:=3) (N:=some 42) #[true,true,true,true,false,false,false,false,false,false,false,false,false,false,false,false,false,false,false,false] rfl rfl (one_of HT_.out (by kernel_rfl)) (by decide) (fun K hK => ?_)
              refine goes_ Try.func120 (by kernel_rfl) rfl #[.int .i64 a0_0,.agg #[.int .i64 ((rd_T92 l0_3 x34_2).f0),.string ((rd_T92 l0_3 x34_2).f1),.int .i64 ((rd_T92 l0_3 x34_2).f2),.int .i64 ((rd_T92 l0_3 x34_2).f3)]] (by rfl) rfl rfl lp_ ?_
              with_reducible refine (spec_l3Step.calls a0_0 ((rd_T92 l0_3 x34_2).f0) ((rd_T92 l0_3 x34_2).f1) ((rd_T92 l0_3 x34_2).f2) ((rd_T92 l0_3 x34_2).f3) true _ A19.out).mono ?_
              rintro e w32 ⟨rfl,hb⟩
              refine ⟨_,rfl,?_⟩
              have n0_:=Aside0.mk (blk_below (g:=gb119) (o:=.cells #[.int .i64 a0_0,.slice A0_1 l0_1.length c0_1,.slice A0_2 l0_2.length c0_2,.slice (some ad123) l0_3.length c0_3] 33 (0,0)) (pe_ BK119.out) hb)
              have n1_:=Aside0.mk (blk_below (g:=gb124) (o:=.cells #[.int .i64 ((rd_T92 l0_3 x34_2).f0),.string ((rd_T92 l0_3 x34_2).f1),.int .i64 ((rd_T92 l0_3 x34_2).f2),.int .i64 ((rd_T92 l0_3 x34_2).f3)] 92 (0,0)) (pe_ BK124.out) hb)
              have n2_:=Aside0.mk (below_step (be2_ HB.out GE119.out GE124.out) hb)
              clear BK119
              clear BK124
              clear HB
              have BK119:=n0_
              have BK124:=n1_
              have HB:=n2_
              clear n0_ n1_ n2_
              (try clear hb)
              (try clear hb2)
              (try clear hk)
              (try clear hi)
              refine hK.out _ _ ⟨(blk_cell BK119.out 0).trans rfl,(blk_cell BK119.out 1).trans rfl,(blk_cell BK119.out 2).trans rfl,(blk_cell BK119.out 3).trans rfl,(blk_cell BK124.out 0).trans rfl,(blk_cell BK124.out 1).trans rfl,(blk_cell BK124.out 2).trans rfl,(blk_cell BK124.out 3).trans rfl,((HB.out.cell (World.block_lt_of_cell? w _ hw126_0)).trans hw126_0),((HB.out.cell (World.block_lt_of_cell? w _ hw126_1)).trans hw126_1),((HB.out.cell (World.block_lt_of_cell? w _ hw126_2)).trans hw126_2),((HB.out.cell (World.block_lt_of_cell? w _ hw126_3)).trans hw126_3)⟩ (fun hHeld => ?_)
              clear hK K
              refine norm_ (a':=?_) ?_ ?_
              rotate_left
              ·show Act.put _ (some 42) _ = _
               simp only [Act.put,List.setIfInBounds_toArray,List.set_cons_zero,List.set_cons_succ,i64_w,i32_w]
               rfl
              refine stW_ [.p 4 43,.p 5 44,.p 6 45,.p 7 46,.p 8 47,.p 9 48,.p 11 50,.p 12 51,.t 10 49,.p 13 52,.t 14 53,.t 15 54] 12 65535 20 HT_.out HW_.out hHeld (a':=?_) ?_ rfl (by kernel_rfl) (fun _ _ _ _ h => h) ?_
              rotate_left
              ·repeat (first|exact Steps.nil|(refine Steps.p (oi:=?_) (v:=?_) (a1:=?_) ?_ ?_ ?_ ?_ ?_;rotate_left 2;rfl;rfl;(refine Or.inl ⟨by rfl,?_⟩;intro w';go_simp;with_reducible rfl);rotate_left;(simp only [Act.put,List.setIfInBounds_toArray,List.set_cons_zero,List.set_cons_succ,i64_w,i32_w];rfl))|(refine Steps.t (oi:=?_) (v:=?_) (a1:=?_) ?_ ?_ ?_ ?_ ?_;rotate_left 2;rfl;rfl;(refine Or.inl ⟨by rfl,?_⟩;rintro w' ⟨s0,s1,s2,s3,s4,s5,s6,s7,s8,s9,s10,s11⟩;go_simp;with_reducible rfl);rotate_left;(simp only [Act.put,List.setIfInBounds_toArray,List.set_cons_zero,List.set_cons_succ,i64_w,i32_w];rfl)))
              refine one_ (i:=16) (N:=some 55) #[true,true,true,true,true,true,true,true,true,true,true,true,true,true,true,true,true,false,false,false] rfl rfl (one_of HT_.out (by kernel_rfl)) (by decide) (fun K hK => ?_)
              refine goes_ Try.func121 (by kernel_rfl) rfl #[.agg #[.int .i64 ((rd_T92 l0_3 (ji22)).f0),.string ((rd_T92 l0_3 (ji22)).f1),.int .i64 ((rd_T92 l0_3 (ji22)).f2),.int .i64 ((rd_T92 l0_3 (ji22)).f3)],.agg #[.int .i64 ((rd_T92 l0_3 x34_2).f0),.string ((rd_T92 l0_3 x34_2).f1),.int .i64 ((rd_T92 l0_3 x34_2).f2),.int .i64 ((rd_T92 l0_3 x34_2).f3)]] (by rfl) rfl rfl (by (try simp only [List.map_toArray,List.map_cons,List.map_nil]);first|done|(simp only [hji22];rfl)|rfl|(simp only [List.length_drop,List.length_take];rfl)) ?_
              with_reducible refine (spec_l3Before.calls ((rd_T92 l0_3 (ji22)).f0) ((rd_T92 l0_3 (ji22)).f1) ((rd_T92 l0_3 (ji22)).f2) ((rd_T92 l0_3 (ji22)).f3) ((rd_T92 l0_3 x34_2).f0) ((rd_T92 l0_3 x34_2).f1) ((rd_T92 l0_3 x34_2).f2) ((rd_T92 l0_3 x34_2).f3) true _ A25.out).mono ?_
              rintro e w33 ⟨rfl,hb⟩
              refine ⟨_,rfl,?_⟩
              have n0_:=Aside0.mk (blk_below (g:=gb119) (o:=.cells #[.int .i64 a0_0,.slice A0_1 l0_1.length c0_1,.slice A0_2 l0_2.length c0_2,.slice (some ad123) l0_3.length c0_3] 33 (0,0)) (pe_ BK119.out) hb)
              have n1_:=Aside0.mk (blk_below (g:=gb124) (o:=.cells #[.int .i64 ((rd_T92 l0_3 x34_2).f0),.string ((rd_T92 l0_3 x34_2).f1),.int .i64 ((rd_T92 l0_3 x34_2).f2),.int .i64 ((rd_T92 l0_3 x34_2).f3)] 92 (0,0)) (pe_ BK124.out) hb)
              have n2_:=Aside0.mk (below_step (be2_ HB.out GE119.out GE124.out) hb)
              clear BK119
              clear BK124
              clear HB
              have BK119:=n0_
              have BK124:=n1_
              have HB:=n2_
              clear n0_ n1_ n2_
              (try clear hb)
              (try clear hb2)
              (try clear hk)
              (try clear hi)
              refine hK.out _ _ ⟨(blk_cell BK119.out 0).trans rfl,(blk_cell BK119.out 1).trans rfl,(blk_cell BK119.out 2).trans rfl,(blk_cell BK119.out 3).trans rfl,(blk_cell BK124.out 0).trans rfl,(blk_cell BK124.out 1).trans rfl,(blk_cell BK124.out 2).trans rfl,(blk_cell BK124.out 3).trans rfl,((HB.out.cell (World.block_lt_of_cell? w _ hw126_0)).trans hw126_0),((HB.out.cell (World.block_lt_of_cell? w _ hw126_1)).trans hw126_1),((HB.out.cell (World.block_lt_of_cell? w _ hw126_2)).trans hw126_2),((HB.out.cell (World.block_lt_of_cell? w _ hw126_3)).trans hw126_3)⟩ (fun hHeld => ?_)
              clear hK K
              refine norm_ (a':=?_) ?_ ?_
              rotate_left
              ·show Act.put _ (some 55) _ = _
               simp only [Act.put,List.setIfInBounds_toArray,List.set_cons_zero,List.set_cons_succ,i64_w,i32_w]
               rfl
              refine stW_ [.p 17 56,.p 18 57,.p 19 58] 3 1048575 20 HT_.out HW_.out hHeld (a':=?_) ?_ rfl (by kernel_rfl) (fun _ _ _ _ h => h) ?_
              rotate_left
              ·repeat (first|exact Steps.nil|(refine Steps.p (oi:=?_) (v:=?_) (a1:=?_) ?_ ?_ ?_ ?_ ?_;rotate_left 2;rfl;rfl;(refine Or.inl ⟨by rfl,?_⟩;intro w';go_simp;with_reducible rfl);rotate_left;(simp only [Act.put,List.setIfInBounds_toArray,List.set_cons_zero,List.set_cons_succ,i64_w,i32_w];rfl)))
              refine done_ (done_of HT_.out (by kernel_rfl)) ?_
              try go_wp2
              go_roundg k2
              case measure => have:=HJ1.out;have:=HK2.out;omega
              case rel => exact ⟨(wrap64 (x34_2 + 1)),(by first|rfl|(simp;done)|(simp [*];done)),H',⟨by have:=HJ1.out;have:=HK2.out;omega⟩,⟨pe_ BK119.out⟩,⟨be2_ HB.out GE119.out GE124.out⟩⟩
             ·replace c26:=Bool.eq_false_iff.mpr c26
              subst c26
              have H1 : (some false) = some r:=by rw [if_neg (show ¬ (false = true) by decide)] at H;exact H
              clear H
              have H:=H1
              clear H1
              obtain rfl:=Option.some.inj H
              have p123 : 0 ≤ (x34_2 : Int):=of_decide_eq_true (by first|(with_reducible assumption)|assumption)
              have q123 : x34_2 < (l0_3.length : Int):=of_decide_eq_true (by first|(with_reducible assumption)|assumption)
              obtain ⟨ad123,e123,hx123_0,hx123_1,hx123_2,hx123_3⟩:=at_T92 HR0_3.out x34_2 p123 q123
              cases e123
              replace hx123_0:=(HB.out.cell (World.block_lt_of_cell? w _ hx123_0)).trans hx123_0
              replace hx123_1:=(HB.out.cell (World.block_lt_of_cell? w _ hx123_1)).trans hx123_1
              replace hx123_2:=(HB.out.cell (World.block_lt_of_cell? w _ hx123_2)).trans hx123_2
              replace hx123_3:=(HB.out.cell (World.block_lt_of_cell? w _ hx123_3)).trans hx123_3
              replace p123:=eq_true p123
              replace q123:=eq_true q123
              try go_wp2_with (first|((with_reducible refine gate_dst (N:=4) rfl ?_);(try (refine gate_guard (by rfl) ?_;dsimp only));refine box_event ?hg (N:=4) ?hd (cs:=#[.int .i64 0,.string (⟨#[]⟩ : ByteArray),.int .i64 0,.int .i64 0]) (t:=92) ?hr ?_;(case hd => rfl);(case hg => rfl);(case hr => first|(go_simp;done)|(go_simp;rfl));intro gb124 hg w34 hbox hb;have n0_:=Aside0.mk (blk_below (g:=gb119) (o:=.cells #[.int .i64 a0_0,.slice A0_1 l0_1.length c0_1,.slice A0_2 l0_2.length c0_2,.slice (some ad123) l0_3.length c0_3] 33 (0,0)) (pe_ BK119.out) hb);have n1_:=Aside0.mk (below_step (be1_ HB.out GE119.out) hb);have n2_:=Aside0.mk (hbox);have n3_:=Aside0.mk ((by rw [hg];exact (below_size (be1_ HB.out GE119.out)) : w.heap.size ≤ gb124));have n4_:=Aside0.mk ((by rw [hg];exact (below_size (be1_ HB.out GE119.out)) : w.heap.size ≤ gb124));have n5_:=Aside0.mk ((by rw [hg];exact Nat.ne_of_lt (blk_lt (g:=gb119) (o:=.cells #[.int .i64 a0_0,.slice A0_1 l0_1.length c0_1,.slice A0_2 l0_2.length c0_2,.slice (some ad123) l0_3.length c0_3] 33 (0,0)) (pe_ BK119.out)) : gb119 ≠ gb124));have n6_:=Aside0.mk ((by rw [hg];exact Nat.ne_of_gt (blk_lt (g:=gb119) (o:=.cells #[.int .i64 a0_0,.slice A0_1 l0_1.length c0_1,.slice A0_2 l0_2.length c0_2,.slice (some ad123) l0_3.length c0_3] 33 (0,0)) (pe_ BK119.out)) : gb124 ≠ gb119));clear BK119;clear HB;have BK119:=n0_;have HB:=n1_;have BK124:=n2_;have GW124:=n3_;have GE124:=n4_;have NB119_124:=n5_;have NB124_119:=n6_;clear n0_ n1_ n2_ n3_ n4_ n5_ n6_;clear hb hbox hg;have hnb35:=NB124_119.out;have hnc35:=NB119_124.out;have hcz36_0 : w34.cell? ⟨gb124,0,none⟩ = some (.int .i64 0):=(blk_cell BK124.out 0).trans rfl;have hcz36_1 : w34.cell? ⟨gb124,1,none⟩ = some (.string (⟨#[]⟩ : ByteArray)):=(blk_cell BK124.out 1).trans rfl;have hcz36_2 : w34.cell? ⟨gb124,2,none⟩ = some (.int .i64 0):=(blk_cell BK124.out 2).trans rfl;have hcz36_3 : w34.cell? ⟨gb124,3,none⟩ = some (.int .i64 0):=(blk_cell BK124.out 3).trans rfl;have hfz36_0:=blk_frozen BK124.out 0;have hfz36_1:=blk_frozen BK124.out 1;have hfz36_2:=blk_frozen BK124.out 2;have hfz36_3:=blk_frozen BK124.out 3))
              have n0_ : Aside0 (((((w34.setCell ⟨gb124,0,none⟩ (.int .i64 ((rd_T92 l0_3 x34_2).f0))).setCell ⟨gb124,1,none⟩ (.string ((rd_T92 l0_3 x34_2).f1))).setCell ⟨gb124,2,none⟩ (.int .i64 ((rd_T92 l0_3 x34_2).f2))).setCell ⟨gb124,3,none⟩ (.int .i64 ((rd_T92 l0_3 x34_2).f3))).heap[gb119]? = some (.cells #[.int .i64 a0_0,.slice A0_1 l0_1.length c0_1,.slice A0_2 l0_2.length c0_2,.slice (some ad123) l0_3.length c0_3] 33 (0,0))):=⟨by refine pe_ ?_;refine blk_far ?_ NB119_124.out _;refine pe_ ?_;refine blk_far ?_ NB119_124.out _;refine pe_ ?_;refine blk_far ?_ NB119_124.out _;refine pe_ ?_;refine blk_far ?_ NB119_124.out _;refine pe_ ?_;exact BK119.out⟩
              have n1_ : Aside0 (((((w34.setCell ⟨gb124,0,none⟩ (.int .i64 ((rd_T92 l0_3 x34_2).f0))).setCell ⟨gb124,1,none⟩ (.string ((rd_T92 l0_3 x34_2).f1))).setCell ⟨gb124,2,none⟩ (.int .i64 ((rd_T92 l0_3 x34_2).f2))).setCell ⟨gb124,3,none⟩ (.int .i64 ((rd_T92 l0_3 x34_2).f3))).heap[gb124]? = some (.cells #[.int .i64 ((rd_T92 l0_3 x34_2).f0),.string ((rd_T92 l0_3 x34_2).f1),.int .i64 ((rd_T92 l0_3 x34_2).f2),.int .i64 ((rd_T92 l0_3 x34_2).f3)] 92 (0,0))):=⟨by refine pe_ ?_;refine blk_put (cs:=#[.int .i64 ((rd_T92 l0_3 x34_2).f0),.string ((rd_T92 l0_3 x34_2).f1),.int .i64 ((rd_T92 l0_3 x34_2).f2),.int .i64 0]) ?_ 3 _ rfl;refine pe_ ?_;refine blk_put (cs:=#[.int .i64 ((rd_T92 l0_3 x34_2).f0),.string ((rd_T92 l0_3 x34_2).f1),.int .i64 0,.int .i64 0]) ?_ 2 _ rfl;refine pe_ ?_;refine blk_put (cs:=#[.int .i64 ((rd_T92 l0_3 x34_2).f0),.string (⟨#[]⟩ : ByteArray),.int .i64 0,.int .i64 0]) ?_ 1 _ rfl;refine pe_ ?_;refine blk_put (cs:=#[.int .i64 0,.string (⟨#[]⟩ : ByteArray),.int .i64 0,.int .i64 0]) ?_ 0 _ rfl;refine pe_ ?_;exact BK124.out⟩
              have n2_ : Aside0 (Below w.heap.size w ((((w34.setCell ⟨gb124,0,none⟩ (.int .i64 ((rd_T92 l0_3 x34_2).f0))).setCell ⟨gb124,1,none⟩ (.string ((rd_T92 l0_3 x34_2).f1))).setCell ⟨gb124,2,none⟩ (.int .i64 ((rd_T92 l0_3 x34_2).f2))).setCell ⟨gb124,3,none⟩ (.int .i64 ((rd_T92 l0_3 x34_2).f3)))):=⟨be2_ HB.out GE119.out GE124.out⟩
              (try clear BK119)
              (try clear BK124)
              (try clear HB)
              generalize ((((w34.setCell ⟨gb124,0,none⟩ (.int .i64 ((rd_T92 l0_3 x34_2).f0))).setCell ⟨gb124,1,none⟩ (.string ((rd_T92 l0_3 x34_2).f1))).setCell ⟨gb124,2,none⟩ (.int .i64 ((rd_T92 l0_3 x34_2).f2))).setCell ⟨gb124,3,none⟩ (.int .i64 ((rd_T92 l0_3 x34_2).f3))) = w37 at n0_ n1_ n2_ ⊢
              have BK119:=n0_
              have BK124:=n1_
              have HB:=n2_
              clear n0_ n1_ n2_
              have n0_:=Aside0.mk (blk_drew BK119.out)
              have n1_:=Aside0.mk (blk_drew BK124.out)
              have n2_:=Aside0.mk (below_drew1 HB.out)
              clear BK119
              clear BK124
              clear HB
              have BK119:=n0_
              have BK124:=n1_
              have HB:=n2_
              clear n0_ n1_ n2_
              have p126 : 0 ≤ ((ji22) : Int):=of_decide_eq_true (by first|(with_reducible assumption)|assumption)
              have q126 : (ji22) < (l0_3.length : Int):=of_decide_eq_true (by first|(with_reducible assumption)|assumption)
              obtain ⟨ad126,e126,hx126_0,hx126_1,hx126_2,hx126_3⟩:=at_T92 HR0_3.out (ji22) p126 q126
              have hw126_3:=hx126_3
              have hw126_2:=hx126_2
              have hw126_1:=hx126_1
              have hw126_0:=hx126_0
              obtain rfl : ad123 = ad126:=(by injection e126)
              replace hx126_0:=(HB.out.cell (World.block_lt_of_cell? w _ hx126_0)).trans hx126_0
              replace hx126_1:=(HB.out.cell (World.block_lt_of_cell? w _ hx126_1)).trans hx126_1
              replace hx126_2:=(HB.out.cell (World.block_lt_of_cell? w _ hx126_2)).trans hx126_2
              replace hx126_3:=(HB.out.cell (World.block_lt_of_cell? w _ hx126_3)).trans hx126_3
              replace p126:=eq_true p126
              replace q126:=eq_true q126
              refine start_ (n:=20) (S:=fun w' => w'.cell? ⟨gb119,0,none⟩ = some (.int .i64 a0_0) ∧ w'.cell? ⟨gb119,1,none⟩ = some (.slice A0_1 l0_1.length c0_1) ∧ w'.cell? ⟨gb119,2,none⟩ = some (.slice A0_2 l0_2.length c0_2) ∧ w'.cell? ⟨gb119,3,none⟩ = some (.slice (some ad123) l0_3.length c0_3) ∧ w'.cell? ⟨gb124,0,none⟩ = some (.int .i64 ((rd_T92 l0_3 x34_2).f0)) ∧ w'.cell? ⟨gb124,1,none⟩ = some (.string ((rd_T92 l0_3 x34_2).f1)) ∧ w'.cell? ⟨gb124,2,none⟩ = some (.int .i64 ((rd_T92 l0_3 x34_2).f2)) ∧ w'.cell? ⟨gb124,3,none⟩ = some (.int .i64 ((rd_T92 l0_3 x34_2).f3)) ∧ w'.cell? (ad123.add (((ji22)).toNat * 4)) = some (.int .i64 ((rd_T92 l0_3 (ji22)).f0)) ∧ w'.cell? ⟨(ad123.add (((ji22)).toNat * 4)).block,(ad123.add (((ji22)).toNat * 4)).off + 1,none⟩ = some (.string ((rd_T92 l0_3 (ji22)).f1)) ∧ w'.cell? ⟨(ad123.add (((ji22)).toNat * 4)).block,(ad123.add (((ji22)).toNat * 4)).off + 2,none⟩ = some (.int .i64 ((rd_T92 l0_3 (ji22)).f2)) ∧ w'.cell? ⟨(ad123.add (((ji22)).toNat * 4)).block,(ad123.add (((ji22)).toNat * 4)).off + 3,none⟩ = some (.int .i64 ((rd_T92 l0_3 (ji22)).f3))) (ds:=[]) #[false,false,false,false,false,false,false,false,false,false,false,false,false,false,false,false,false,false,false,false] (by kernel_rfl) rfl rfl ⟨(blk_cell BK119.out 0).trans rfl,(blk_cell BK119.out 1).trans rfl,(blk_cell BK119.out 2).trans rfl,(blk_cell BK119.out 3).trans rfl,(blk_cell BK124.out 0).trans rfl,(blk_cell BK124.out 1).trans rfl,(blk_cell BK124.out 2).trans rfl,(blk_cell BK124.out 3).trans rfl,((HB.out.cell (World.block_lt_of_cell? w _ hw126_0)).trans hw126_0),((HB.out.cell (World.block_lt_of_cell? w _ hw126_1)).trans hw126_1),((HB.out.cell (World.block_lt_of_cell? w _ hw126_2)).trans hw126_2),((HB.out.cell (World.block_lt_of_cell? w _ hw126_3)).trans hw126_3)⟩ (fun hHeld => ?_);refine with_tabW spec_AutomatonValid.tab6 spec_AutomatonValid.bits6 (fun HT_ HW_ => ?_)
              generalize w37.drew = w38 at BK119 BK124 HB hx126_0 hx126_1 hx126_2 hx126_3 hHeld ⊢
              refine stW_ [.p 0 39,.t 1 40,.t 2 41] 3 7 20 HT_.out HW_.out hHeld (a':=?_) ?_ rfl (by kernel_rfl) (fun _ _ _ _ h => h) ?_
              rotate_left
              ·repeat (first|exact Steps.nil|(refine Steps.p (oi:=?_) (v:=?_) (a1:=?_) ?_ ?_ ?_ ?_ ?_;rotate_left 2;rfl;rfl;(refine Or.inl ⟨by rfl,?_⟩;intro w';go_simp;with_reducible rfl);rotate_left;(simp only [Act.put,List.setIfInBounds_toArray,List.set_cons_zero,List.set_cons_succ,i64_w,i32_w];rfl))|(refine Steps.t (oi:=?_) (v:=?_) (a1:=?_) ?_ ?_ ?_ ?_ ?_;rotate_left 2;rfl;rfl;(refine Or.inl ⟨by rfl,?_⟩;rintro w' ⟨s0,s1,s2,s3,s4,s5,s6,s7,s8,s9,s10,s11⟩;go_simp;with_reducible rfl);rotate_left;(simp only [Act.put,List.setIfInBounds_toArray,List.set_cons_zero,List.set_cons_succ,i64_w,i32_w];rfl)))
              refine one_ (i:=3) (N:=some 42) #[true,true,true,true,false,false,false,false,false,false,false,false,false,false,false,false,false,false,false,false] rfl rfl (one_of HT_.out (by kernel_rfl)) (by decide) (fun K hK => ?_)
              refine goes_ Try.func120 (by kernel_rfl) rfl #[.int .i64 a0_0,.agg #[.int .i64 ((rd_T92 l0_3 x34_2).f0),.string ((rd_T92 l0_3 x34_2).f1),.int .i64 ((rd_T92 l0_3 x34_2).f2),.int .i64 ((rd_T92 l0_3 x34_2).f3)]] (by rfl) rfl rfl lp_ ?_
              with_reducible refine (spec_l3Step.calls a0_0 ((rd_T92 l0_3 x34_2).f0) ((rd_T92 l0_3 x34_2).f1) ((rd_T92 l0_3 x34_2).f2) ((rd_T92 l0_3 x34_2).f3) true _ A19.out).mono ?_
              rintro e w39 ⟨rfl,hb⟩
              refine ⟨_,rfl,?_⟩
              have n0_:=Aside0.mk (blk_below (g:=gb119) (o:=.cells #[.int .i64 a0_0,.slice A0_1 l0_1.length c0_1,.slice A0_2 l0_2.length c0_2,.slice (some ad123) l0_3.length c0_3] 33 (0,0)) (pe_ BK119.out) hb)
              have n1_:=Aside0.mk (blk_below (g:=gb124) (o:=.cells #[.int .i64 ((rd_T92 l0_3 x34_2).f0),.string ((rd_T92 l0_3 x34_2).f1),.int .i64 ((rd_T92 l0_3 x34_2).f2),.int .i64 ((rd_T92 l0_3 x34_2).f3)] 92 (0,0)) (pe_ BK124.out) hb)
              have n2_:=Aside0.mk (below_step (be2_ HB.out GE119.out GE124.out) hb)
              clear BK119
              clear BK124
              clear HB
              have BK119:=n0_
              have BK124:=n1_
              have HB:=n2_
              clear n0_ n1_ n2_
              (try clear hb)
              (try clear hb2)
              (try clear hk)
              (try clear hi)
              refine hK.out _ _ ⟨(blk_cell BK119.out 0).trans rfl,(blk_cell BK119.out 1).trans rfl,(blk_cell BK119.out 2).trans rfl,(blk_cell BK119.out 3).trans rfl,(blk_cell BK124.out 0).trans rfl,(blk_cell BK124.out 1).trans rfl,(blk_cell BK124.out 2).trans rfl,(blk_cell BK124.out 3).trans rfl,((HB.out.cell (World.block_lt_of_cell? w _ hw126_0)).trans hw126_0),((HB.out.cell (World.block_lt_of_cell? w _ hw126_1)).trans hw126_1),((HB.out.cell (World.block_lt_of_cell? w _ hw126_2)).trans hw126_2),((HB.out.cell (World.block_lt_of_cell? w _ hw126_3)).trans hw126_3)⟩ (fun hHeld => ?_)
              clear hK K
              refine norm_ (a':=?_) ?_ ?_
              rotate_left
              ·show Act.put _ (some 42) _ = _
               simp only [Act.put,List.setIfInBounds_toArray,List.set_cons_zero,List.set_cons_succ,i64_w,i32_w]
               rfl
              refine stW_ [.p 4 43,.p 5 44,.p 6 45,.p 7 46,.p 8 47,.p 9 48,.p 11 50,.p 12 51,.t 10 49,.p 13 52,.t 14 53,.t 15 54] 12 65535 20 HT_.out HW_.out hHeld (a':=?_) ?_ rfl (by kernel_rfl) (fun _ _ _ _ h => h) ?_
              rotate_left
              ·repeat (first|exact Steps.nil|(refine Steps.p (oi:=?_) (v:=?_) (a1:=?_) ?_ ?_ ?_ ?_ ?_;rotate_left 2;rfl;rfl;(refine Or.inl ⟨by rfl,?_⟩;intro w';go_simp;with_reducible rfl);rotate_left;(simp only [Act.put,List.setIfInBounds_toArray,List.set_cons_zero,List.set_cons_succ,i64_w,i32_w];rfl))|(refine Steps.t (oi:=?_) (v:=?_) (a1:=?_) ?_ ?_ ?_ ?_ ?_;rotate_left 2;rfl;rfl;(refine Or.inl ⟨by rfl,?_⟩;rintro w' ⟨s0,s1,s2,s3,s4,s5,s6,s7,s8,s9,s10,s11⟩;go_simp;with_reducible rfl);rotate_left;(simp only [Act.put,List.setIfInBounds_toArray,List.set_cons_zero,List.set_cons_succ,i64_w,i32_w];rfl)))
              refine one_ (i:=16) (N:=some 55) #[true,true,true,true,true,true,true,true,true,true,true,true,true,true,true,true,true,false,false,false] rfl rfl (one_of HT_.out (by kernel_rfl)) (by decide) (fun K hK => ?_)
              refine goes_ Try.func121 (by kernel_rfl) rfl #[.agg #[.int .i64 ((rd_T92 l0_3 (ji22)).f0),.string ((rd_T92 l0_3 (ji22)).f1),.int .i64 ((rd_T92 l0_3 (ji22)).f2),.int .i64 ((rd_T92 l0_3 (ji22)).f3)],.agg #[.int .i64 ((rd_T92 l0_3 x34_2).f0),.string ((rd_T92 l0_3 x34_2).f1),.int .i64 ((rd_T92 l0_3 x34_2).f2),.int .i64 ((rd_T92 l0_3 x34_2).f3)]] (by rfl) rfl rfl (by (try simp only [List.map_toArray,List.map_cons,List.map_nil]);first|done|(simp only [hji22];rfl)|rfl|(simp only [List.length_drop,List.length_take];rfl)) ?_
              with_reducible refine (spec_l3Before.calls ((rd_T92 l0_3 (ji22)).f0) ((rd_T92 l0_3 (ji22)).f1) ((rd_T92 l0_3 (ji22)).f2) ((rd_T92 l0_3 (ji22)).f3) ((rd_T92 l0_3 x34_2).f0) ((rd_T92 l0_3 x34_2).f1) ((rd_T92 l0_3 x34_2).f2) ((rd_T92 l0_3 x34_2).f3) false _ A25.out).mono ?_
              rintro e w40 ⟨rfl,hb⟩
              refine ⟨_,rfl,?_⟩
              have n0_:=Aside0.mk (blk_below (g:=gb119) (o:=.cells #[.int .i64 a0_0,.slice A0_1 l0_1.length c0_1,.slice A0_2 l0_2.length c0_2,.slice (some ad123) l0_3.length c0_3] 33 (0,0)) (pe_ BK119.out) hb)
              have n1_:=Aside0.mk (blk_below (g:=gb124) (o:=.cells #[.int .i64 ((rd_T92 l0_3 x34_2).f0),.string ((rd_T92 l0_3 x34_2).f1),.int .i64 ((rd_T92 l0_3 x34_2).f2),.int .i64 ((rd_T92 l0_3 x34_2).f3)] 92 (0,0)) (pe_ BK124.out) hb)
              have n2_:=Aside0.mk (below_step (be2_ HB.out GE119.out GE124.out) hb)
              clear BK119
              clear BK124
              clear HB
              have BK119:=n0_
              have BK124:=n1_
              have HB:=n2_
              clear n0_ n1_ n2_
              (try clear hb)
              (try clear hb2)
              (try clear hk)
              (try clear hi)
              refine hK.out _ _ ⟨(blk_cell BK119.out 0).trans rfl,(blk_cell BK119.out 1).trans rfl,(blk_cell BK119.out 2).trans rfl,(blk_cell BK119.out 3).trans rfl,(blk_cell BK124.out 0).trans rfl,(blk_cell BK124.out 1).trans rfl,(blk_cell BK124.out 2).trans rfl,(blk_cell BK124.out 3).trans rfl,((HB.out.cell (World.block_lt_of_cell? w _ hw126_0)).trans hw126_0),((HB.out.cell (World.block_lt_of_cell? w _ hw126_1)).trans hw126_1),((HB.out.cell (World.block_lt_of_cell? w _ hw126_2)).trans hw126_2),((HB.out.cell (World.block_lt_of_cell? w _ hw126_3)).trans hw126_3)⟩ (fun hHeld => ?_)
              clear hK K
              refine norm_ (a':=?_) ?_ ?_
              rotate_left
              ·show Act.put _ (some 55) _ = _
               simp only [Act.put,List.setIfInBounds_toArray,List.set_cons_zero,List.set_cons_succ,i64_w,i32_w]
               rfl
              refine stW_ [.p 17 56,.p 18 57,.p 19 58] 3 1048575 20 HT_.out HW_.out hHeld (a':=?_) ?_ rfl (by kernel_rfl) (fun _ _ _ _ h => h) ?_
              rotate_left
              ·repeat (first|exact Steps.nil|(refine Steps.p (oi:=?_) (v:=?_) (a1:=?_) ?_ ?_ ?_ ?_ ?_;rotate_left 2;rfl;rfl;(refine Or.inl ⟨by rfl,?_⟩;intro w';go_simp;with_reducible rfl);rotate_left;(simp only [Act.put,List.setIfInBounds_toArray,List.set_cons_zero,List.set_cons_succ,i64_w,i32_w];rfl)))
              refine done_ (done_of HT_.out (by kernel_rfl)) ?_
              try go_wp2
              go_ret
              exact ⟨by first|rfl|(simp [errW_none,errW_some] <;> rfl)|(simp only [← hji22];first|rfl|(simp [errW_none,errW_some] <;> rfl))|(simp [*,errW_none,errW_some] <;> rfl),be2_ HB.out GE119.out GE124.out⟩
            ·rw [if_neg c24] at H
             exact absurd H (by simp)
           ·rw [if_neg c23] at H
            exact absurd H (by simp)
          ·rw [if_neg c21] at H
           have c21b0 : decide (0 < x34_2) = false:=decide_eq_false c21
           clear c21
           have H':=Aside0.mk H
           clear H
           have p123 : 0 ≤ (x34_2 : Int):=of_decide_eq_true (by first|(with_reducible assumption)|assumption)
           have q123 : x34_2 < (l0_3.length : Int):=of_decide_eq_true (by first|(with_reducible assumption)|assumption)
           obtain ⟨ad123,e123,hx123_0,hx123_1,hx123_2,hx123_3⟩:=at_T92 HR0_3.out x34_2 p123 q123
           cases e123
           replace hx123_0:=(HB.out.cell (World.block_lt_of_cell? w _ hx123_0)).trans hx123_0
           replace hx123_1:=(HB.out.cell (World.block_lt_of_cell? w _ hx123_1)).trans hx123_1
           replace hx123_2:=(HB.out.cell (World.block_lt_of_cell? w _ hx123_2)).trans hx123_2
           replace hx123_3:=(HB.out.cell (World.block_lt_of_cell? w _ hx123_3)).trans hx123_3
           replace p123:=eq_true p123
           replace q123:=eq_true q123
           try go_wp2_with (first|((with_reducible refine gate_dst (N:=4) rfl ?_);(try (refine gate_guard (by rfl) ?_;dsimp only));refine box_event ?hg (N:=4) ?hd (cs:=#[.int .i64 0,.string (⟨#[]⟩ : ByteArray),.int .i64 0,.int .i64 0]) (t:=92) ?hr ?_;(case hd => rfl);(case hg => rfl);(case hr => first|(go_simp;done)|(go_simp;rfl));intro gb124 hg w41 hbox hb;have n0_:=Aside0.mk (blk_below (g:=gb119) (o:=.cells #[.int .i64 a0_0,.slice A0_1 l0_1.length c0_1,.slice A0_2 l0_2.length c0_2,.slice (some ad123) l0_3.length c0_3] 33 (0,0)) (pe_ BK119.out) hb);have n1_:=Aside0.mk (below_step (be1_ HB.out GE119.out) hb);have n2_:=Aside0.mk (hbox);have n3_:=Aside0.mk ((by rw [hg];exact (below_size (be1_ HB.out GE119.out)) : w.heap.size ≤ gb124));have n4_:=Aside0.mk ((by rw [hg];exact (below_size (be1_ HB.out GE119.out)) : w.heap.size ≤ gb124));have n5_:=Aside0.mk ((by rw [hg];exact Nat.ne_of_lt (blk_lt (g:=gb119) (o:=.cells #[.int .i64 a0_0,.slice A0_1 l0_1.length c0_1,.slice A0_2 l0_2.length c0_2,.slice (some ad123) l0_3.length c0_3] 33 (0,0)) (pe_ BK119.out)) : gb119 ≠ gb124));have n6_:=Aside0.mk ((by rw [hg];exact Nat.ne_of_gt (blk_lt (g:=gb119) (o:=.cells #[.int .i64 a0_0,.slice A0_1 l0_1.length c0_1,.slice A0_2 l0_2.length c0_2,.slice (some ad123) l0_3.length c0_3] 33 (0,0)) (pe_ BK119.out)) : gb124 ≠ gb119));clear BK119;clear HB;have BK119:=n0_;have HB:=n1_;have BK124:=n2_;have GW124:=n3_;have GE124:=n4_;have NB119_124:=n5_;have NB124_119:=n6_;clear n0_ n1_ n2_ n3_ n4_ n5_ n6_;clear hb hbox hg;have hnb42:=NB124_119.out;have hnc42:=NB119_124.out;have hcz43_0 : w41.cell? ⟨gb124,0,none⟩ = some (.int .i64 0):=(blk_cell BK124.out 0).trans rfl;have hcz43_1 : w41.cell? ⟨gb124,1,none⟩ = some (.string (⟨#[]⟩ : ByteArray)):=(blk_cell BK124.out 1).trans rfl;have hcz43_2 : w41.cell? ⟨gb124,2,none⟩ = some (.int .i64 0):=(blk_cell BK124.out 2).trans rfl;have hcz43_3 : w41.cell? ⟨gb124,3,none⟩ = some (.int .i64 0):=(blk_cell BK124.out 3).trans rfl;have hfz43_0:=blk_frozen BK124.out 0;have hfz43_1:=blk_frozen BK124.out 1;have hfz43_2:=blk_frozen BK124.out 2;have hfz43_3:=blk_frozen BK124.out 3))
           have n0_ : Aside0 (((((w41.setCell ⟨gb124,0,none⟩ (.int .i64 ((rd_T92 l0_3 x34_2).f0))).setCell ⟨gb124,1,none⟩ (.string ((rd_T92 l0_3 x34_2).f1))).setCell ⟨gb124,2,none⟩ (.int .i64 ((rd_T92 l0_3 x34_2).f2))).setCell ⟨gb124,3,none⟩ (.int .i64 ((rd_T92 l0_3 x34_2).f3))).heap[gb119]? = some (.cells #[.int .i64 a0_0,.slice A0_1 l0_1.length c0_1,.slice A0_2 l0_2.length c0_2,.slice (some ad123) l0_3.length c0_3] 33 (0,0))):=⟨by refine pe_ ?_;refine blk_far ?_ NB119_124.out _;refine pe_ ?_;refine blk_far ?_ NB119_124.out _;refine pe_ ?_;refine blk_far ?_ NB119_124.out _;refine pe_ ?_;refine blk_far ?_ NB119_124.out _;refine pe_ ?_;exact BK119.out⟩
           have n1_ : Aside0 (((((w41.setCell ⟨gb124,0,none⟩ (.int .i64 ((rd_T92 l0_3 x34_2).f0))).setCell ⟨gb124,1,none⟩ (.string ((rd_T92 l0_3 x34_2).f1))).setCell ⟨gb124,2,none⟩ (.int .i64 ((rd_T92 l0_3 x34_2).f2))).setCell ⟨gb124,3,none⟩ (.int .i64 ((rd_T92 l0_3 x34_2).f3))).heap[gb124]? = some (.cells #[.int .i64 ((rd_T92 l0_3 x34_2).f0),.string ((rd_T92 l0_3 x34_2).f1),.int .i64 ((rd_T92 l0_3 x34_2).f2),.int .i64 ((rd_T92 l0_3 x34_2).f3)] 92 (0,0))):=⟨by refine pe_ ?_;refine blk_put (cs:=#[.int .i64 ((rd_T92 l0_3 x34_2).f0),.string ((rd_T92 l0_3 x34_2).f1),.int .i64 ((rd_T92 l0_3 x34_2).f2),.int .i64 0]) ?_ 3 _ rfl;refine pe_ ?_;refine blk_put (cs:=#[.int .i64 ((rd_T92 l0_3 x34_2).f0),.string ((rd_T92 l0_3 x34_2).f1),.int .i64 0,.int .i64 0]) ?_ 2 _ rfl;refine pe_ ?_;refine blk_put (cs:=#[.int .i64 ((rd_T92 l0_3 x34_2).f0),.string (⟨#[]⟩ : ByteArray),.int .i64 0,.int .i64 0]) ?_ 1 _ rfl;refine pe_ ?_;refine blk_put (cs:=#[.int .i64 0,.string (⟨#[]⟩ : ByteArray),.int .i64 0,.int .i64 0]) ?_ 0 _ rfl;refine pe_ ?_;exact BK124.out⟩
           have n2_ : Aside0 (Below w.heap.size w ((((w41.setCell ⟨gb124,0,none⟩ (.int .i64 ((rd_T92 l0_3 x34_2).f0))).setCell ⟨gb124,1,none⟩ (.string ((rd_T92 l0_3 x34_2).f1))).setCell ⟨gb124,2,none⟩ (.int .i64 ((rd_T92 l0_3 x34_2).f2))).setCell ⟨gb124,3,none⟩ (.int .i64 ((rd_T92 l0_3 x34_2).f3)))):=⟨be2_ HB.out GE119.out GE124.out⟩
           (try clear BK119)
           (try clear BK124)
           (try clear HB)
           generalize ((((w41.setCell ⟨gb124,0,none⟩ (.int .i64 ((rd_T92 l0_3 x34_2).f0))).setCell ⟨gb124,1,none⟩ (.string ((rd_T92 l0_3 x34_2).f1))).setCell ⟨gb124,2,none⟩ (.int .i64 ((rd_T92 l0_3 x34_2).f2))).setCell ⟨gb124,3,none⟩ (.int .i64 ((rd_T92 l0_3 x34_2).f3))) = w44 at n0_ n1_ n2_ ⊢
           have BK119:=n0_
           have BK124:=n1_
           have HB:=n2_
           clear n0_ n1_ n2_
           have n0_:=Aside0.mk (blk_drew BK119.out)
           have n1_:=Aside0.mk (blk_drew BK124.out)
           have n2_:=Aside0.mk (below_drew1 HB.out)
           clear BK119
           clear BK124
           clear HB
           have BK119:=n0_
           have BK124:=n1_
           have HB:=n2_
           clear n0_ n1_ n2_
           refine start_ (n:=20) (S:=fun w' => w'.cell? ⟨gb119,0,none⟩ = some (.int .i64 a0_0) ∧ w'.cell? ⟨gb119,1,none⟩ = some (.slice A0_1 l0_1.length c0_1) ∧ w'.cell? ⟨gb119,2,none⟩ = some (.slice A0_2 l0_2.length c0_2) ∧ w'.cell? ⟨gb119,3,none⟩ = some (.slice (some ad123) l0_3.length c0_3) ∧ w'.cell? ⟨gb124,0,none⟩ = some (.int .i64 ((rd_T92 l0_3 x34_2).f0)) ∧ w'.cell? ⟨gb124,1,none⟩ = some (.string ((rd_T92 l0_3 x34_2).f1)) ∧ w'.cell? ⟨gb124,2,none⟩ = some (.int .i64 ((rd_T92 l0_3 x34_2).f2)) ∧ w'.cell? ⟨gb124,3,none⟩ = some (.int .i64 ((rd_T92 l0_3 x34_2).f3))) (ds:=[]) #[false,false,false,false,false,false,false,false,false,false,false,false,false,false,false,false,false,false,false,false] (by kernel_rfl) rfl rfl ⟨(blk_cell BK119.out 0).trans rfl,(blk_cell BK119.out 1).trans rfl,(blk_cell BK119.out 2).trans rfl,(blk_cell BK119.out 3).trans rfl,(blk_cell BK124.out 0).trans rfl,(blk_cell BK124.out 1).trans rfl,(blk_cell BK124.out 2).trans rfl,(blk_cell BK124.out 3).trans rfl⟩ (fun hHeld => ?_);refine with_tabW spec_AutomatonValid.tab6 spec_AutomatonValid.bits6 (fun HT_ HW_ => ?_)
           generalize w44.drew = w45 at BK119 BK124 HB hHeld ⊢
           refine stW_ [.p 0 39,.t 1 40,.t 2 41] 3 7 20 HT_.out HW_.out hHeld (a':=?_) ?_ rfl (by kernel_rfl) (fun _ _ _ _ h => h) ?_
           rotate_left
           ·repeat (first|exact Steps.nil|(refine Steps.p (oi:=?_) (v:=?_) (a1:=?_) ?_ ?_ ?_ ?_ ?_;rotate_left 2;rfl;rfl;(refine Or.inl ⟨by rfl,?_⟩;intro w';go_simp;with_reducible rfl);rotate_left;(simp only [Act.put,List.setIfInBounds_toArray,List.set_cons_zero,List.set_cons_succ,i64_w,i32_w];rfl))|(refine Steps.t (oi:=?_) (v:=?_) (a1:=?_) ?_ ?_ ?_ ?_ ?_;rotate_left 2;rfl;rfl;(refine Or.inl ⟨by rfl,?_⟩;rintro w' ⟨s0,s1,s2,s3,s4,s5,s6,s7⟩;go_simp;with_reducible rfl);rotate_left;(simp only [Act.put,List.setIfInBounds_toArray,List.set_cons_zero,List.set_cons_succ,i64_w,i32_w];rfl)))
           refine one_ (i:=3) (N:=some 42) #[true,true,true,true,false,false,false,false,false,false,false,false,false,false,false,false,false,false,false,false] rfl rfl (one_of HT_.out (by kernel_rfl)) (by decide) (fun K hK => ?_)
           refine goes_ Try.func120 (by kernel_rfl) rfl #[.int .i64 a0_0,.agg #[.int .i64 ((rd_T92 l0_3 x34_2).f0),.string ((rd_T92 l0_3 x34_2).f1),.int .i64 ((rd_T92 l0_3 x34_2).f2),.int .i64 ((rd_T92 l0_3 x34_2).f3)]] (by rfl) rfl rfl lp_ ?_
           with_reducible refine (spec_l3Step.calls a0_0 ((rd_T92 l0_3 x34_2).f0) ((rd_T92 l0_3 x34_2).f1) ((rd_T92 l0_3 x34_2).f2) ((rd_T92 l0_3 x34_2).f3) true _ A19.out).mono ?_
           rintro e w46 ⟨rfl,hb⟩
           refine ⟨_,rfl,?_⟩
           have n0_:=Aside0.mk (blk_below (g:=gb119) (o:=.cells #[.int .i64 a0_0,.slice A0_1 l0_1.length c0_1,.slice A0_2 l0_2.length c0_2,.slice (some ad123) l0_3.length c0_3] 33 (0,0)) (pe_ BK119.out) hb)
           have n1_:=Aside0.mk (blk_below (g:=gb124) (o:=.cells #[.int .i64 ((rd_T92 l0_3 x34_2).f0),.string ((rd_T92 l0_3 x34_2).f1),.int .i64 ((rd_T92 l0_3 x34_2).f2),.int .i64 ((rd_T92 l0_3 x34_2).f3)] 92 (0,0)) (pe_ BK124.out) hb)
           have n2_:=Aside0.mk (below_step (be2_ HB.out GE119.out GE124.out) hb)
           clear BK119
           clear BK124
           clear HB
           have BK119:=n0_
           have BK124:=n1_
           have HB:=n2_
           clear n0_ n1_ n2_
           (try clear hb)
           (try clear hb2)
           (try clear hk)
           (try clear hi)
           refine hK.out _ _ ⟨(blk_cell BK119.out 0).trans rfl,(blk_cell BK119.out 1).trans rfl,(blk_cell BK119.out 2).trans rfl,(blk_cell BK119.out 3).trans rfl,(blk_cell BK124.out 0).trans rfl,(blk_cell BK124.out 1).trans rfl,(blk_cell BK124.out 2).trans rfl,(blk_cell BK124.out 3).trans rfl⟩ (fun hHeld => ?_)
           clear hK K
           refine norm_ (a':=?_) ?_ ?_
           rotate_left
           ·show Act.put _ (some 42) _ = _
            simp only [Act.put,List.setIfInBounds_toArray,List.set_cons_zero,List.set_cons_succ,i64_w,i32_w]
            rfl
           refine stW_ [.p 4 43,.p 5 44,.p 6 45,.p 7 46,.p 8 47,.u 9 48,.u 10 49,.u 11 50,.u 12 51,.u 13 52,.u 14 53,.u 15 54,.u 16 55,.u 17 56,.p 18 57,.p 19 58] 16 1048575 20 HT_.out HW_.out hHeld (a':=?_) ?_ rfl (by kernel_rfl) (fun _ _ _ _ h => h) ?_
           rotate_left
           ·repeat (first|exact Steps.nil|(refine Steps.u (oi:=?_) (a1:=?_) ?_ ?_ ?_ ?_ ?_;rotate_left 1;rfl;rfl;exact Or.inr ⟨by rfl,rfl⟩;rotate_left;(simp only [Act.put,List.setIfInBounds_toArray,List.set_cons_zero,List.set_cons_succ,i64_w,i32_w];rfl))|(refine Steps.p (oi:=?_) (v:=?_) (a1:=?_) ?_ ?_ ?_ ?_ ?_;rotate_left 2;rfl;rfl;(refine Or.inl ⟨by rfl,?_⟩;intro w';go_simp;with_reducible rfl);rotate_left;(simp only [Act.put,List.setIfInBounds_toArray,List.set_cons_zero,List.set_cons_succ,i64_w,i32_w];rfl)))
           refine done_ (done_of HT_.out (by kernel_rfl)) ?_
           try go_wp2
           go_roundg k2
           case measure => have:=HJ1.out;have:=HK2.out;omega
           case rel => exact ⟨(wrap64 (x34_2 + 1)),(by first|rfl|(simp;done)|(simp [*];done)),H',⟨by have:=HJ1.out;have:=HK2.out;omega⟩,⟨pe_ BK119.out⟩,⟨be2_ HB.out GE119.out GE124.out⟩⟩
         ·replace c20:=Bool.eq_false_iff.mpr c20
          subst c20
          have H1 : (some false) = some r:=by rw [if_neg (show ¬ (false = true) by decide)] at H;exact H
          clear H
          have H:=H1
          clear H1
          obtain rfl:=Option.some.inj H
          have p123 : 0 ≤ (x34_2 : Int):=of_decide_eq_true (by first|(with_reducible assumption)|assumption)
          have q123 : x34_2 < (l0_3.length : Int):=of_decide_eq_true (by first|(with_reducible assumption)|assumption)
          obtain ⟨ad123,e123,hx123_0,hx123_1,hx123_2,hx123_3⟩:=at_T92 HR0_3.out x34_2 p123 q123
          cases e123
          replace hx123_0:=(HB.out.cell (World.block_lt_of_cell? w _ hx123_0)).trans hx123_0
          replace hx123_1:=(HB.out.cell (World.block_lt_of_cell? w _ hx123_1)).trans hx123_1
          replace hx123_2:=(HB.out.cell (World.block_lt_of_cell? w _ hx123_2)).trans hx123_2
          replace hx123_3:=(HB.out.cell (World.block_lt_of_cell? w _ hx123_3)).trans hx123_3
          replace p123:=eq_true p123
          replace q123:=eq_true q123
          try go_wp2_with (first|((with_reducible refine gate_dst (N:=4) rfl ?_);(try (refine gate_guard (by rfl) ?_;dsimp only));refine box_event ?hg (N:=4) ?hd (cs:=#[.int .i64 0,.string (⟨#[]⟩ : ByteArray),.int .i64 0,.int .i64 0]) (t:=92) ?hr ?_;(case hd => rfl);(case hg => rfl);(case hr => first|(go_simp;done)|(go_simp;rfl));intro gb124 hg w47 hbox hb;have n0_:=Aside0.mk (blk_below (g:=gb119) (o:=.cells #[.int .i64 a0_0,.slice A0_1 l0_1.length c0_1,.slice A0_2 l0_2.length c0_2,.slice (some ad123) l0_3.length c0_3] 33 (0,0)) (pe_ BK119.out) hb);have n1_:=Aside0.mk (below_step (be1_ HB.out GE119.out) hb);have n2_:=Aside0.mk (hbox);have n3_:=Aside0.mk ((by rw [hg];exact (below_size (be1_ HB.out GE119.out)) : w.heap.size ≤ gb124));have n4_:=Aside0.mk ((by rw [hg];exact (below_size (be1_ HB.out GE119.out)) : w.heap.size ≤ gb124));have n5_:=Aside0.mk ((by rw [hg];exact Nat.ne_of_lt (blk_lt (g:=gb119) (o:=.cells #[.int .i64 a0_0,.slice A0_1 l0_1.length c0_1,.slice A0_2 l0_2.length c0_2,.slice (some ad123) l0_3.length c0_3] 33 (0,0)) (pe_ BK119.out)) : gb119 ≠ gb124));have n6_:=Aside0.mk ((by rw [hg];exact Nat.ne_of_gt (blk_lt (g:=gb119) (o:=.cells #[.int .i64 a0_0,.slice A0_1 l0_1.length c0_1,.slice A0_2 l0_2.length c0_2,.slice (some ad123) l0_3.length c0_3] 33 (0,0)) (pe_ BK119.out)) : gb124 ≠ gb119));clear BK119;clear HB;have BK119:=n0_;have HB:=n1_;have BK124:=n2_;have GW124:=n3_;have GE124:=n4_;have NB119_124:=n5_;have NB124_119:=n6_;clear n0_ n1_ n2_ n3_ n4_ n5_ n6_;clear hb hbox hg;have hnb48:=NB124_119.out;have hnc48:=NB119_124.out;have hcz49_0 : w47.cell? ⟨gb124,0,none⟩ = some (.int .i64 0):=(blk_cell BK124.out 0).trans rfl;have hcz49_1 : w47.cell? ⟨gb124,1,none⟩ = some (.string (⟨#[]⟩ : ByteArray)):=(blk_cell BK124.out 1).trans rfl;have hcz49_2 : w47.cell? ⟨gb124,2,none⟩ = some (.int .i64 0):=(blk_cell BK124.out 2).trans rfl;have hcz49_3 : w47.cell? ⟨gb124,3,none⟩ = some (.int .i64 0):=(blk_cell BK124.out 3).trans rfl;have hfz49_0:=blk_frozen BK124.out 0;have hfz49_1:=blk_frozen BK124.out 1;have hfz49_2:=blk_frozen BK124.out 2;have hfz49_3:=blk_frozen BK124.out 3))
          have n0_ : Aside0 (((((w47.setCell ⟨gb124,0,none⟩ (.int .i64 ((rd_T92 l0_3 x34_2).f0))).setCell ⟨gb124,1,none⟩ (.string ((rd_T92 l0_3 x34_2).f1))).setCell ⟨gb124,2,none⟩ (.int .i64 ((rd_T92 l0_3 x34_2).f2))).setCell ⟨gb124,3,none⟩ (.int .i64 ((rd_T92 l0_3 x34_2).f3))).heap[gb119]? = some (.cells #[.int .i64 a0_0,.slice A0_1 l0_1.length c0_1,.slice A0_2 l0_2.length c0_2,.slice (some ad123) l0_3.length c0_3] 33 (0,0))):=⟨by refine pe_ ?_;refine blk_far ?_ NB119_124.out _;refine pe_ ?_;refine blk_far ?_ NB119_124.out _;refine pe_ ?_;refine blk_far ?_ NB119_124.out _;refine pe_ ?_;refine blk_far ?_ NB119_124.out _;refine pe_ ?_;exact BK119.out⟩
          have n1_ : Aside0 (((((w47.setCell ⟨gb124,0,none⟩ (.int .i64 ((rd_T92 l0_3 x34_2).f0))).setCell ⟨gb124,1,none⟩ (.string ((rd_T92 l0_3 x34_2).f1))).setCell ⟨gb124,2,none⟩ (.int .i64 ((rd_T92 l0_3 x34_2).f2))).setCell ⟨gb124,3,none⟩ (.int .i64 ((rd_T92 l0_3 x34_2).f3))).heap[gb124]? = some (.cells #[.int .i64 ((rd_T92 l0_3 x34_2).f0),.string ((rd_T92 l0_3 x34_2).f1),.int .i64 ((rd_T92 l0_3 x34_2).f2),.int .i64 ((rd_T92 l0_3 x34_2).f3)] 92 (0,0))):=⟨by refine pe_ ?_;refine blk_put (cs:=#[.int .i64 ((rd_T92 l0_3 x34_2).f0),.string ((rd_T92 l0_3 x34_2).f1),.int .i64 ((rd_T92 l0_3 x34_2).f2),.int .i64 0]) ?_ 3 _ rfl;refine pe_ ?_;refine blk_put (cs:=#[.int .i64 ((rd_T92 l0_3 x34_2).f0),.string ((rd_T92 l0_3 x34_2).f1),.int .i64 0,.int .i64 0]) ?_ 2 _ rfl;refine pe_ ?_;refine blk_put (cs:=#[.int .i64 ((rd_T92 l0_3 x34_2).f0),.string (⟨#[]⟩ : ByteArray),.int .i64 0,.int .i64 0]) ?_ 1 _ rfl;refine pe_ ?_;refine blk_put (cs:=#[.int .i64 0,.string (⟨#[]⟩ : ByteArray),.int .i64 0,.int .i64 0]) ?_ 0 _ rfl;refine pe_ ?_;exact BK124.out⟩
          have n2_ : Aside0 (Below w.heap.size w ((((w47.setCell ⟨gb124,0,none⟩ (.int .i64 ((rd_T92 l0_3 x34_2).f0))).setCell ⟨gb124,1,none⟩ (.string ((rd_T92 l0_3 x34_2).f1))).setCell ⟨gb124,2,none⟩ (.int .i64 ((rd_T92 l0_3 x34_2).f2))).setCell ⟨gb124,3,none⟩ (.int .i64 ((rd_T92 l0_3 x34_2).f3)))):=⟨be2_ HB.out GE119.out GE124.out⟩
          (try clear BK119)
          (try clear BK124)
          (try clear HB)
          generalize ((((w47.setCell ⟨gb124,0,none⟩ (.int .i64 ((rd_T92 l0_3 x34_2).f0))).setCell ⟨gb124,1,none⟩ (.string ((rd_T92 l0_3 x34_2).f1))).setCell ⟨gb124,2,none⟩ (.int .i64 ((rd_T92 l0_3 x34_2).f2))).setCell ⟨gb124,3,none⟩ (.int .i64 ((rd_T92 l0_3 x34_2).f3))) = w50 at n0_ n1_ n2_ ⊢
          have BK119:=n0_
          have BK124:=n1_
          have HB:=n2_
          clear n0_ n1_ n2_
          have n0_:=Aside0.mk (blk_drew BK119.out)
          have n1_:=Aside0.mk (blk_drew BK124.out)
          have n2_:=Aside0.mk (below_drew1 HB.out)
          clear BK119
          clear BK124
          clear HB
          have BK119:=n0_
          have BK124:=n1_
          have HB:=n2_
          clear n0_ n1_ n2_
          refine start_ (n:=20) (S:=fun w' => w'.cell? ⟨gb119,0,none⟩ = some (.int .i64 a0_0) ∧ w'.cell? ⟨gb119,1,none⟩ = some (.slice A0_1 l0_1.length c0_1) ∧ w'.cell? ⟨gb119,2,none⟩ = some (.slice A0_2 l0_2.length c0_2) ∧ w'.cell? ⟨gb119,3,none⟩ = some (.slice (some ad123) l0_3.length c0_3) ∧ w'.cell? ⟨gb124,0,none⟩ = some (.int .i64 ((rd_T92 l0_3 x34_2).f0)) ∧ w'.cell? ⟨gb124,1,none⟩ = some (.string ((rd_T92 l0_3 x34_2).f1)) ∧ w'.cell? ⟨gb124,2,none⟩ = some (.int .i64 ((rd_T92 l0_3 x34_2).f2)) ∧ w'.cell? ⟨gb124,3,none⟩ = some (.int .i64 ((rd_T92 l0_3 x34_2).f3))) (ds:=[]) #[false,false,false,false,false,false,false,false,false,false,false,false,false,false,false,false,false,false,false,false] (by kernel_rfl) rfl rfl ⟨(blk_cell BK119.out 0).trans rfl,(blk_cell BK119.out 1).trans rfl,(blk_cell BK119.out 2).trans rfl,(blk_cell BK119.out 3).trans rfl,(blk_cell BK124.out 0).trans rfl,(blk_cell BK124.out 1).trans rfl,(blk_cell BK124.out 2).trans rfl,(blk_cell BK124.out 3).trans rfl⟩ (fun hHeld => ?_);refine with_tabW spec_AutomatonValid.tab6 spec_AutomatonValid.bits6 (fun HT_ HW_ => ?_)
          generalize w50.drew = w51 at BK119 BK124 HB hHeld ⊢
          refine stW_ [.p 0 39,.t 1 40,.t 2 41] 3 7 20 HT_.out HW_.out hHeld (a':=?_) ?_ rfl (by kernel_rfl) (fun _ _ _ _ h => h) ?_
          rotate_left
          ·repeat (first|exact Steps.nil|(refine Steps.p (oi:=?_) (v:=?_) (a1:=?_) ?_ ?_ ?_ ?_ ?_;rotate_left 2;rfl;rfl;(refine Or.inl ⟨by rfl,?_⟩;intro w';go_simp;with_reducible rfl);rotate_left;(simp only [Act.put,List.setIfInBounds_toArray,List.set_cons_zero,List.set_cons_succ,i64_w,i32_w];rfl))|(refine Steps.t (oi:=?_) (v:=?_) (a1:=?_) ?_ ?_ ?_ ?_ ?_;rotate_left 2;rfl;rfl;(refine Or.inl ⟨by rfl,?_⟩;rintro w' ⟨s0,s1,s2,s3,s4,s5,s6,s7⟩;go_simp;with_reducible rfl);rotate_left;(simp only [Act.put,List.setIfInBounds_toArray,List.set_cons_zero,List.set_cons_succ,i64_w,i32_w];rfl)))
          refine one_ (i:=3) (N:=some 42) #[true,true,true,true,false,false,false,false,false,false,false,false,false,false,false,false,false,false,false,false] rfl rfl (one_of HT_.out (by kernel_rfl)) (by decide) (fun K hK => ?_)
          refine goes_ Try.func120 (by kernel_rfl) rfl #[.int .i64 a0_0,.agg #[.int .i64 ((rd_T92 l0_3 x34_2).f0),.string ((rd_T92 l0_3 x34_2).f1),.int .i64 ((rd_T92 l0_3 x34_2).f2),.int .i64 ((rd_T92 l0_3 x34_2).f3)]] (by rfl) rfl rfl lp_ ?_
          with_reducible refine (spec_l3Step.calls a0_0 ((rd_T92 l0_3 x34_2).f0) ((rd_T92 l0_3 x34_2).f1) ((rd_T92 l0_3 x34_2).f2) ((rd_T92 l0_3 x34_2).f3) false _ A19.out).mono ?_
          rintro e w52 ⟨rfl,hb⟩
          refine ⟨_,rfl,?_⟩
          have n0_:=Aside0.mk (blk_below (g:=gb119) (o:=.cells #[.int .i64 a0_0,.slice A0_1 l0_1.length c0_1,.slice A0_2 l0_2.length c0_2,.slice (some ad123) l0_3.length c0_3] 33 (0,0)) (pe_ BK119.out) hb)
          have n1_:=Aside0.mk (blk_below (g:=gb124) (o:=.cells #[.int .i64 ((rd_T92 l0_3 x34_2).f0),.string ((rd_T92 l0_3 x34_2).f1),.int .i64 ((rd_T92 l0_3 x34_2).f2),.int .i64 ((rd_T92 l0_3 x34_2).f3)] 92 (0,0)) (pe_ BK124.out) hb)
          have n2_:=Aside0.mk (below_step (be2_ HB.out GE119.out GE124.out) hb)
          clear BK119
          clear BK124
          clear HB
          have BK119:=n0_
          have BK124:=n1_
          have HB:=n2_
          clear n0_ n1_ n2_
          (try clear hb)
          (try clear hb2)
          (try clear hk)
          (try clear hi)
          refine hK.out _ _ ⟨(blk_cell BK119.out 0).trans rfl,(blk_cell BK119.out 1).trans rfl,(blk_cell BK119.out 2).trans rfl,(blk_cell BK119.out 3).trans rfl,(blk_cell BK124.out 0).trans rfl,(blk_cell BK124.out 1).trans rfl,(blk_cell BK124.out 2).trans rfl,(blk_cell BK124.out 3).trans rfl⟩ (fun hHeld => ?_)
          clear hK K
          refine norm_ (a':=?_) ?_ ?_
          rotate_left
          ·show Act.put _ (some 42) _ = _
           simp only [Act.put,List.setIfInBounds_toArray,List.set_cons_zero,List.set_cons_succ,i64_w,i32_w]
           rfl
          refine stW_ [.p 4 43,.p 5 44,.u 6 45,.u 7 46,.u 8 47,.u 9 48,.u 10 49,.u 11 50,.u 12 51,.u 13 52,.u 14 53,.u 15 54,.u 16 55,.u 17 56,.u 18 57,.p 19 58] 16 1048575 20 HT_.out HW_.out hHeld (a':=?_) ?_ rfl (by kernel_rfl) (fun _ _ _ _ h => h) ?_
          rotate_left
          ·repeat (first|exact Steps.nil|(refine Steps.u (oi:=?_) (a1:=?_) ?_ ?_ ?_ ?_ ?_;rotate_left 1;rfl;rfl;exact Or.inr ⟨by rfl,rfl⟩;rotate_left;(simp only [Act.put,List.setIfInBounds_toArray,List.set_cons_zero,List.set_cons_succ,i64_w,i32_w];rfl))|(refine Steps.p (oi:=?_) (v:=?_) (a1:=?_) ?_ ?_ ?_ ?_ ?_;rotate_left 2;rfl;rfl;(refine Or.inl ⟨by rfl,?_⟩;intro w';go_simp;with_reducible rfl);rotate_left;(simp only [Act.put,List.setIfInBounds_toArray,List.set_cons_zero,List.set_cons_succ,i64_w,i32_w];rfl)))
          refine done_ (done_of HT_.out (by kernel_rfl)) ?_
          try go_wp2
          go_ret
          exact ⟨by first|rfl|(simp [errW_none,errW_some] <;> rfl)|(simp [*,errW_none,errW_some] <;> rfl),be2_ HB.out GE119.out GE124.out⟩
        ·rw [if_neg c18] at H
         exact absurd H (by simp)
       ·rw [if_neg c17] at H
        exact absurd H (by simp)
      ·rw [if_neg c16] at H
       have c16b0 : decide (x34_2 < (l0_3.length : Int)) = false:=decide_eq_false c16
       clear c16
       obtain rfl:=Option.some.inj H
       go_wp2
       go_ret
       exact ⟨by first|rfl|(simp [errW_none,errW_some] <;> rfl)|(simp [*,errW_none,errW_some] <;> rfl),be1_ HB.out GE119.out⟩
end Go.Proofs.Ytfmbpoojpnoafaa.X
end
section
namespace Go.Proofs.Ytfmbpoojpnoafaa.X
open Go.RowKit Go.Proofs.YtfmbpoojpnoafaaW.PrintWords Go.Proofs.YtfmbpoojpnoafaaW.PrintLast Go.Proofs.YtfmbpoojpnoafaaW.PrintMore
attribute [local go_sem] max2_int min2_int max_two min_two max_three min_three max_four min_four
set_option linter.unusedVariables false
set_option linter.unusedSimpArgs false
def spec_CostValid.f (a0 : Int) : Option (Bool):=(spec_l1In.f a0 0 1000000).bind fun t128 => (some t128)
set_option maxHeartbeats 8000000 in
set_option maxRecDepth 100000 in
theorem spec_CostValid.calls (a0 : Int) (r : Bool) (w : World) (h : spec_CostValid.f a0 = some r) :
  Calls Try.prog 178 #[.int .i64 a0] w fun e w' => e = .returned (.bool r) ∧ Drawn0 w w':=by
 have H : ((spec_l1In.f a0 0 1000000).bind fun t128 => (some t128)) = some r:=h
 clear h
 replace H:=Option.bind_eq_some_iff.mp H
 obtain ⟨t128,A20,H⟩:=H
 replace H : (some t128) = some r:=H
 have A2:=Aside0.mk A20
 clear A20
 obtain rfl:=Option.some.inj H
 go_enter Try.func178,Try.ntmps178
 go_wp2_with (first|((with_reducible refine gate_callee (f:=90) rfl ?_);refine goesL_ (some 4) rfl rfl Try.func90 (by kernel_rfl) rfl #[.int .i64 a0,.int .i64 0,.int .i64 1000000] rfl lp_ ?_;(with_reducible refine (spec_l1In.calls a0 0 1000000 t128 _ A2.out).mono ?_);rintro e w' ⟨rfl,⟨nd,rfl⟩⟩;refine ⟨_,rfl,?_⟩))
 go_ret
 exact ⟨by first|rfl|(simp;done)|(simp [*];done),by repeat (first|exact Drawn0.refl _|apply Drawn0.step)⟩
end Go.Proofs.Ytfmbpoojpnoafaa.X
end
section
namespace Go.Proofs.Ytfmbpoojpnoafaa.X
open Go.RowKit Go.Proofs.YtfmbpoojpnoafaaW.PrintWords Go.Proofs.YtfmbpoojpnoafaaW.PrintLast Go.Proofs.YtfmbpoojpnoafaaW.PrintMore
attribute [local go_sem] max2_int min2_int max_two min_two max_three min_three max_four min_four
set_option linter.unusedVariables false
set_option linter.unusedSimpArgs false
def spec_l1All.l0 : Nat → List Int → Int → Int → Option (Bool)
 | 0,_,_,_ => none
 | k + 1,x5,x6,x7 => if x7 < x6 then (if 0 ≤ x7 then (if x7 < (x5.length : Int) then ((spec_CostValid.f (rd x5 x7)).bind fun t130 => (if t130 = true then (spec_l1All.l0 k x5 x6 (wrap64 (x7 + 1))) else (some false))) else (none)) else (none)) else (some true)
def spec_l1All.f (k : Nat) (l0 : List Int) : Option (Bool):=spec_l1All.l0 k l0 (l0.length : Int) 0
theorem spec_l1All.mono_l : ∀ k,(∀ y0 y1 y2,LeO (spec_l1All.l0 k y0 y1 y2) (spec_l1All.l0 (k + 1) y0 y1 y2))
 | 0 => fun _ _ _ r h => by simp [spec_l1All.l0] at h
 | k + 1 => by
  have ih0:=spec_l1All.mono_l k
  ·intro y0 y1 y2
   unfold spec_l1All.l0
   repeat' first
   | (with_reducible exact ih0 _ _ _)
   | (with_reducible exact LeO.refl _)
   | (with_reducible exact LeO.none _)
   | (with_reducible refine LeO.ite ?_ ?_)
   | (with_reducible refine LeO.bind ?_ (fun _ => ?_))
   | exact ih0 _ _ _
   | exact LeO.none _
   | refine LeO.ite ?_ ?_
   | refine LeO.bind ?_ (fun _ => ?_)
theorem spec_l1All.mono : ∀ a0 k,LeO (spec_l1All.f k a0) (spec_l1All.f (k + 1) a0):=by
 intro a0 k
 have ih0:=spec_l1All.mono_l k
 unfold spec_l1All.f
 repeat' first
   | (with_reducible exact ih0 _ _ _)
   | (with_reducible exact LeO.refl _)
   | (with_reducible exact LeO.none _)
   | (with_reducible refine LeO.ite ?_ ?_)
   | (with_reducible refine LeO.bind ?_ (fun _ => ?_))
   | exact ih0 _ _ _
   | exact LeO.none _
   | refine LeO.ite ?_ ?_
   | refine LeO.bind ?_ (fun _ => ?_)
set_option maxHeartbeats 8000000 in
set_option maxRecDepth 100000 in
theorem spec_l1All.calls (k : Nat) (A0 : Option Addr) (c0 : Nat) (l0 : List Int) (r : Bool) (w : World) (hr0 : Kd.C (Kd.int .i64) w A0 l0.length l0) (hc0 : l0.length ≤ c0) (h : spec_l1All.f k l0 = some r) :
  Calls Try.prog 159 #[.slice A0 l0.length c0] w fun e w' => e = .returned (.bool r) ∧ Drawn0 w w':=by
 have HR0:=Aside0.mk hr0
 have HC0:=Aside0.mk hc0
 clear hr0 hc0
 have H : (spec_l1All.l0 k l0 (l0.length : Int) 0) = some r:=h
 clear h
 have H':=Aside0.mk H
 clear H
 go_enter Try.func159,Try.ntmps159
 go_wp2
 go_loopg [7] k (fun kq v7 w' => ∃ (x7_1 : Int),v7 = .int .i64 x7_1 ∧ Aside0 (spec_l1All.l0 kq l0 (l0.length : Int) x7_1 = some r) ∧ Aside0 (kq ≤ k) ∧ Drawn0 w w')
 case atStart => exact ⟨(0),(by first|rfl|(simp;done)|(simp [*];done)),H',⟨Nat.le_refl _⟩,by repeat (first|exact Drawn0.refl _|apply Drawn0.step)⟩
 case round =>
  clear H'
  try clear c1
  obtain ⟨x7_1,rfl,HA,HK1,⟨m1,rfl⟩⟩:=hrel
  cases gk with
  | zero => exact absurd HA.out (by simp [spec_l1All.l0])
  | succ k1 =>
   have H:=HA.out
   clear HA
   simp only [spec_l1All.l0] at H
   by_cases c2 : x7_1 < (l0.length : Int)
   ·rw [if_pos c2] at H
    have c2b0 : decide (x7_1 < (l0.length : Int)) = true:=decide_eq_true c2
    clear c2
    by_cases c3 : 0 ≤ x7_1
    ·rw [if_pos c3] at H
     have c3b0 : decide (0 ≤ x7_1) = true:=decide_eq_true c3
     clear c3
     by_cases c4 : x7_1 < (l0.length : Int)
     ·rw [if_pos c4] at H
      have c4b0 : decide (x7_1 < (l0.length : Int)) = true:=decide_eq_true c4
      clear c4
      replace H:=Option.bind_eq_some_iff.mp H
      obtain ⟨t130,A50,H⟩:=H
      replace H : (if t130 = true then (spec_l1All.l0 k1 l0 (l0.length : Int) (wrap64 (x7_1 + 1))) else (some false)) = some r:=H
      have A5:=Aside0.mk A50
      clear A50
      by_cases c6 : t130 = true
      ·subst c6
       have H1 : (spec_l1All.l0 k1 l0 (l0.length : Int) (wrap64 (x7_1 + 1))) = some r:=by rw [if_pos rfl] at H;exact H
       clear H
       have H:=H1
       clear H1
       have H':=Aside0.mk H
       clear H
       have p129 : 0 ≤ (x7_1 : Int):=of_decide_eq_true (by first|(with_reducible assumption)|assumption)
       have q129 : x7_1 < (l0.length : Int):=of_decide_eq_true (by first|(with_reducible assumption)|assumption)
       obtain ⟨ad129,e129,hx129_0⟩:=Kd.at_int HR0.out x7_1 p129 q129
       cases e129
       replace p129:=eq_true p129
       replace q129:=eq_true q129
       go_wp2_with (first|((with_reducible refine gate_callee (f:=178) rfl ?_);refine goesL_ (some 12) rfl rfl Try.func178 (by kernel_rfl) rfl #[.int .i64 (rd l0 x7_1)] rfl lp_ ?_;(with_reducible refine (spec_CostValid.calls (rd l0 x7_1) true _ A5.out).mono ?_);rintro e w' ⟨rfl,⟨nd,rfl⟩⟩;refine ⟨_,rfl,?_⟩))
       go_roundg k1
       case measure => have:=HK1.out;omega
       case rel => exact ⟨(wrap64 (x7_1 + 1)),(by first|rfl|(simp;done)|(simp [*];done)),H',⟨by have:=HK1.out;omega⟩,by repeat (first|exact Drawn0.refl _|apply Drawn0.step)⟩
      ·replace c6:=Bool.eq_false_iff.mpr c6
       subst c6
       have H1 : (some false) = some r:=by rw [if_neg (show ¬ (false = true) by decide)] at H;exact H
       clear H
       have H:=H1
       clear H1
       obtain rfl:=Option.some.inj H
       have p129 : 0 ≤ (x7_1 : Int):=of_decide_eq_true (by first|(with_reducible assumption)|assumption)
       have q129 : x7_1 < (l0.length : Int):=of_decide_eq_true (by first|(with_reducible assumption)|assumption)
       obtain ⟨ad129,e129,hx129_0⟩:=Kd.at_int HR0.out x7_1 p129 q129
       cases e129
       replace p129:=eq_true p129
       replace q129:=eq_true q129
       go_wp2_with (first|((with_reducible refine gate_callee (f:=178) rfl ?_);refine goesL_ (some 12) rfl rfl Try.func178 (by kernel_rfl) rfl #[.int .i64 (rd l0 x7_1)] rfl lp_ ?_;(with_reducible refine (spec_CostValid.calls (rd l0 x7_1) false _ A5.out).mono ?_);rintro e w' ⟨rfl,⟨nd,rfl⟩⟩;refine ⟨_,rfl,?_⟩))
       go_ret
       exact ⟨by first|rfl|(simp;done)|(simp [*];done),by repeat (first|exact Drawn0.refl _|apply Drawn0.step)⟩
     ·rw [if_neg c4] at H
      exact absurd H (by simp)
    ·rw [if_neg c3] at H
     exact absurd H (by simp)
   ·rw [if_neg c2] at H
    have c2b0 : decide (x7_1 < (l0.length : Int)) = false:=decide_eq_false c2
    clear c2
    obtain rfl:=Option.some.inj H
    go_wp2
    go_ret
    exact ⟨by first|rfl|(simp;done)|(simp [*];done),by repeat (first|exact Drawn0.refl _|apply Drawn0.step)⟩
end Go.Proofs.Ytfmbpoojpnoafaa.X
end
section
namespace Go.Proofs.Ytfmbpoojpnoafaa.X
open Go.RowKit Go.Proofs.YtfmbpoojpnoafaaW.PrintWords Go.Proofs.YtfmbpoojpnoafaaW.PrintLast Go.Proofs.YtfmbpoojpnoafaaW.PrintMore
attribute [local go_sem] max2_int min2_int max_two min_two max_three min_three max_four min_four
set_option linter.unusedVariables false
set_option linter.unusedSimpArgs false
def spec_MatrixValid.f (k : Nat) (a0_0 : Int) (l0_1 : List Int) : Option (Bool):=(spec_l1In.f a0_0 1 4).bind fun t132 => (if t132 = true then (if (l0_1.length : Int) = (wrap64 (a0_0 * a0_0)) then ((spec_l1All.f k l0_1).bind fun t133 => (some t133)) else (some false)) else (some false))
theorem spec_MatrixValid.mono : ∀ a0 a1 k,LeO (spec_MatrixValid.f k a0 a1) (spec_MatrixValid.f (k + 1) a0 a1):=by
 intro a0 a1 k
 unfold spec_MatrixValid.f
 repeat' first
   | (with_reducible exact spec_l1All.mono _ _)
   | (with_reducible exact LeO.refl _)
   | (with_reducible exact LeO.none _)
   | (with_reducible refine LeO.ite ?_ ?_)
   | (with_reducible refine LeO.bind ?_ (fun _ => ?_))
   | exact spec_l1All.mono _ _
   | exact LeO.none _
   | refine LeO.ite ?_ ?_
   | refine LeO.bind ?_ (fun _ => ?_)
set_option maxHeartbeats 8000000 in
set_option maxRecDepth 100000 in
theorem spec_MatrixValid.calls (k : Nat) (a0_0 : Int) (A0_1 : Option Addr) (c0_1 : Nat) (l0_1 : List Int) (r : Bool) (w : World) (hr0_1 : Kd.C (Kd.int .i64) w A0_1 l0_1.length l0_1) (hc0_1 : l0_1.length ≤ c0_1) (h : spec_MatrixValid.f k a0_0 l0_1 = some r) :
  Calls Try.prog 122 #[.agg #[.int .i64 a0_0,.slice A0_1 l0_1.length c0_1]] w fun e w' => e = .returned (.bool r) ∧ Below w.heap.size w w':=by
 have hu35:=Try.underlying35
 have HR0_1:=Aside0.mk hr0_1
 have HC0_1:=Aside0.mk hc0_1
 clear hr0_1 hc0_1
 have HB:=Aside0.mk (Below.refl w.heap.size w)
 have H : ((spec_l1In.f a0_0 1 4).bind fun t132 => (if t132 = true then (if (l0_1.length : Int) = (wrap64 (a0_0 * a0_0)) then ((spec_l1All.f k l0_1).bind fun t133 => (some t133)) else (some false)) else (some false))) = some r:=h
 clear h
 replace H:=Option.bind_eq_some_iff.mp H
 obtain ⟨t132,A20,H⟩:=H
 replace H : (if t132 = true then (if (l0_1.length : Int) = (wrap64 (a0_0 * a0_0)) then ((spec_l1All.f k l0_1).bind fun t133 => (some t133)) else (some false)) else (some false)) = some r:=H
 have A2:=Aside0.mk A20
 clear A20
 by_cases c3 : t132 = true
 ·subst c3
  have H1 : (if (l0_1.length : Int) = (wrap64 (a0_0 * a0_0)) then ((spec_l1All.f k l0_1).bind fun t133 => (some t133)) else (some false)) = some r:=by rw [if_pos rfl] at H;exact H
  clear H
  have H:=H1
  clear H1
  by_cases c4 : (l0_1.length : Int) = (wrap64 (a0_0 * a0_0))
  ·rw [if_pos c4] at H
   have c4b0 : ((l0_1.length : Int) == (wrap64 (a0_0 * a0_0))) = true:=beq_iff_eq.mpr c4
   have c4b1 : ((l0_1.length : Int) != (wrap64 (a0_0 * a0_0))) = false:=bne_eq_false_iff_eq.mpr c4
   clear c4
   replace H:=Option.bind_eq_some_iff.mp H
   obtain ⟨t133,A50,H⟩:=H
   replace H : (some t133) = some r:=H
   have A5:=Aside0.mk A50
   clear A50
   obtain rfl:=Option.some.inj H
   go_enter Try.func122,Try.ntmps122
   go_wp2_with (first|((with_reducible refine gate_dst (N:=1) rfl ?_);(try (refine gate_guard (by rfl) ?_;dsimp only));refine box_event ?hg (N:=1) ?hd (cs:=#[.int .i64 a0_0,.slice A0_1 l0_1.length c0_1]) (t:=35) ?hr ?_;(case hd => rfl);(case hg => rfl);(case hr => first|(go_simp;done)|(go_simp;rfl));intro gb131 hg w6 hbox hb;have n0_:=Aside0.mk (below_step (be0_ HB.out) hb);have n1_:=Aside0.mk (hbox);have n2_:=Aside0.mk ((by rw [hg];exact (below_size (be0_ HB.out)) : w.heap.size ≤ gb131));have n3_:=Aside0.mk ((by rw [hg];exact (below_size (be0_ HB.out)) : w.heap.size ≤ gb131));clear HB;have HB:=n0_;have BK131:=n1_;have GW131:=n2_;have GE131:=n3_;clear n0_ n1_ n2_ n3_;clear hb hbox hg;have hcz7_0 : w6.cell? ⟨gb131,0,none⟩ = some (.int .i64 a0_0):=(blk_cell BK131.out 0).trans rfl;have hcz7_1 : w6.cell? ⟨gb131,1,none⟩ = some (.slice A0_1 l0_1.length c0_1):=(blk_cell BK131.out 1).trans rfl;have hfz7_0:=blk_frozen BK131.out 0;have hfz7_1:=blk_frozen BK131.out 1)|((with_reducible refine gate_callee (f:=90) rfl ?_);refine goesL_ (some 5) rfl rfl Try.func90 (by kernel_rfl) rfl #[.int .i64 a0_0,.int .i64 1,.int .i64 4] rfl lp_ ?_;(with_reducible refine (spec_l1In.calls a0_0 1 4 true _ A2.out).mono ?_);rintro e w' ⟨rfl,⟨nd,rfl⟩⟩;refine ⟨_,rfl,?_⟩)|(go_at_call 159;(with_reducible refine (spec_l1All.calls k _ _ l0_1 t133 _ ?side1 ?side2 A5.out).mono ?_);(case side1 => repeat (first|exact (Kd.C_below HR0_1.out (be1_ HB.out GE131.out))|(with_reducible refine Kd.C_alloc ?_ _)|(with_reducible refine Kd.C_drewN ?_ _)|(with_reducible refine Kd.C_drew ?_)));(case side2 => exact HC0_1.out);rintro e w' ⟨rfl,⟨nd,rfl⟩⟩))
   go_ret
   exact ⟨by first|rfl|(simp [errW_none,errW_some] <;> rfl)|(simp [*,errW_none,errW_some] <;> rfl),be1_ HB.out GE131.out⟩
  ·rw [if_neg c4] at H
   have c4b0 : ((l0_1.length : Int) == (wrap64 (a0_0 * a0_0))) = false:=beq_eq_false_iff_ne.mpr c4
   have c4b1 : ((l0_1.length : Int) != (wrap64 (a0_0 * a0_0))) = true:=bne_iff_ne.mpr c4
   obtain rfl:=Option.some.inj H
   go_enter Try.func122,Try.ntmps122
   go_wp2_with (first|((with_reducible refine gate_dst (N:=1) rfl ?_);(try (refine gate_guard (by rfl) ?_;dsimp only));refine box_event ?hg (N:=1) ?hd (cs:=#[.int .i64 a0_0,.slice A0_1 l0_1.length c0_1]) (t:=35) ?hr ?_;(case hd => rfl);(case hg => rfl);(case hr => first|(go_simp;done)|(go_simp;rfl));intro gb131 hg w8 hbox hb;have n0_:=Aside0.mk (below_step (be0_ HB.out) hb);have n1_:=Aside0.mk (hbox);have n2_:=Aside0.mk ((by rw [hg];exact (below_size (be0_ HB.out)) : w.heap.size ≤ gb131));have n3_:=Aside0.mk ((by rw [hg];exact (below_size (be0_ HB.out)) : w.heap.size ≤ gb131));clear HB;have HB:=n0_;have BK131:=n1_;have GW131:=n2_;have GE131:=n3_;clear n0_ n1_ n2_ n3_;clear hb hbox hg;have hcz9_0 : w8.cell? ⟨gb131,0,none⟩ = some (.int .i64 a0_0):=(blk_cell BK131.out 0).trans rfl;have hcz9_1 : w8.cell? ⟨gb131,1,none⟩ = some (.slice A0_1 l0_1.length c0_1):=(blk_cell BK131.out 1).trans rfl;have hfz9_0:=blk_frozen BK131.out 0;have hfz9_1:=blk_frozen BK131.out 1)|((with_reducible refine gate_callee (f:=90) rfl ?_);refine goesL_ (some 5) rfl rfl Try.func90 (by kernel_rfl) rfl #[.int .i64 a0_0,.int .i64 1,.int .i64 4] rfl lp_ ?_;(with_reducible refine (spec_l1In.calls a0_0 1 4 true _ A2.out).mono ?_);rintro e w' ⟨rfl,⟨nd,rfl⟩⟩;refine ⟨_,rfl,?_⟩))
   go_ret
   exact ⟨by first|rfl|(simp [errW_none,errW_some] <;> rfl)|(simp [*,errW_none,errW_some] <;> rfl),be1_ HB.out GE131.out⟩
 ·replace c3:=Bool.eq_false_iff.mpr c3
  subst c3
  have H1 : (some false) = some r:=by rw [if_neg (show ¬ (false = true) by decide)] at H;exact H
  clear H
  have H:=H1
  clear H1
  obtain rfl:=Option.some.inj H
  go_enter Try.func122,Try.ntmps122
  go_wp2_with (first|((with_reducible refine gate_dst (N:=1) rfl ?_);(try (refine gate_guard (by rfl) ?_;dsimp only));refine box_event ?hg (N:=1) ?hd (cs:=#[.int .i64 a0_0,.slice A0_1 l0_1.length c0_1]) (t:=35) ?hr ?_;(case hd => rfl);(case hg => rfl);(case hr => first|(go_simp;done)|(go_simp;rfl));intro gb131 hg w10 hbox hb;have n0_:=Aside0.mk (below_step (be0_ HB.out) hb);have n1_:=Aside0.mk (hbox);have n2_:=Aside0.mk ((by rw [hg];exact (below_size (be0_ HB.out)) : w.heap.size ≤ gb131));have n3_:=Aside0.mk ((by rw [hg];exact (below_size (be0_ HB.out)) : w.heap.size ≤ gb131));clear HB;have HB:=n0_;have BK131:=n1_;have GW131:=n2_;have GE131:=n3_;clear n0_ n1_ n2_ n3_;clear hb hbox hg;have hcz11_0 : w10.cell? ⟨gb131,0,none⟩ = some (.int .i64 a0_0):=(blk_cell BK131.out 0).trans rfl;have hcz11_1 : w10.cell? ⟨gb131,1,none⟩ = some (.slice A0_1 l0_1.length c0_1):=(blk_cell BK131.out 1).trans rfl;have hfz11_0:=blk_frozen BK131.out 0;have hfz11_1:=blk_frozen BK131.out 1)|((with_reducible refine gate_callee (f:=90) rfl ?_);refine goesL_ (some 5) rfl rfl Try.func90 (by kernel_rfl) rfl #[.int .i64 a0_0,.int .i64 1,.int .i64 4] rfl lp_ ?_;(with_reducible refine (spec_l1In.calls a0_0 1 4 false _ A2.out).mono ?_);rintro e w' ⟨rfl,⟨nd,rfl⟩⟩;refine ⟨_,rfl,?_⟩))
  go_ret
  exact ⟨by first|rfl|(simp [errW_none,errW_some] <;> rfl)|(simp [*,errW_none,errW_some] <;> rfl),be1_ HB.out GE131.out⟩
end Go.Proofs.Ytfmbpoojpnoafaa.X
end
section
namespace Go.Proofs.Ytfmbpoojpnoafaa.X
open Go.RowKit Go.Proofs.YtfmbpoojpnoafaaW.PrintWords Go.Proofs.YtfmbpoojpnoafaaW.PrintLast Go.Proofs.YtfmbpoojpnoafaaW.PrintMore
attribute [local go_sem] max2_int min2_int max_two min_two max_three min_three max_four min_four
set_option linter.unusedVariables false
set_option linter.unusedSimpArgs false
def spec_GradesValid.l0 : Nat → List Int → Int → Int → Int → List Int → Option (Bool)
 | 0,_,_,_,_,_ => none
 | k + 1,x6,x7,x8,x135000,x135001 => if x8 < x7 then (if 0 ≤ x8 then (if x8 < (x6.length : Int) then ((spec_l1In.f (rd x6 x8) 0 3).bind fun t136 => (if t136 = true then (spec_GradesValid.l0 k x6 x7 (wrap64 (x8 + 1)) x135000 x135001) else (some false))) else (none)) else (none)) else ((spec_MatrixValid.f k x135000 x135001).bind fun t137 => (some t137))
def spec_GradesValid.f (k : Nat) (a0_0 : Int) (l0_1 : List Int) : Option (Bool):=spec_GradesValid.l0 k l0_1 (l0_1.length : Int) 0 a0_0 l0_1
theorem spec_GradesValid.mono_l : ∀ k,(∀ y0 y1 y2 y3 y4,LeO (spec_GradesValid.l0 k y0 y1 y2 y3 y4) (spec_GradesValid.l0 (k + 1) y0 y1 y2 y3 y4))
 | 0 => fun _ _ _ _ _ r h => by simp [spec_GradesValid.l0] at h
 | k + 1 => by
  have ih0:=spec_GradesValid.mono_l k
  ·intro y0 y1 y2 y3 y4
   unfold spec_GradesValid.l0
   repeat' first
   | (with_reducible exact ih0 _ _ _ _ _)
   | (with_reducible exact spec_MatrixValid.mono _ _ _)
   | (with_reducible exact LeO.refl _)
   | (with_reducible exact LeO.none _)
   | (with_reducible refine LeO.ite ?_ ?_)
   | (with_reducible refine LeO.bind ?_ (fun _ => ?_))
   | exact ih0 _ _ _ _ _
   | exact spec_MatrixValid.mono _ _ _
   | exact LeO.none _
   | refine LeO.ite ?_ ?_
   | refine LeO.bind ?_ (fun _ => ?_)
theorem spec_GradesValid.mono : ∀ a0 a1 k,LeO (spec_GradesValid.f k a0 a1) (spec_GradesValid.f (k + 1) a0 a1):=by
 intro a0 a1 k
 have ih0:=spec_GradesValid.mono_l k
 unfold spec_GradesValid.f
 repeat' first
   | (with_reducible exact ih0 _ _ _ _ _)
   | (with_reducible exact spec_MatrixValid.mono _ _ _)
   | (with_reducible exact LeO.refl _)
   | (with_reducible exact LeO.none _)
   | (with_reducible refine LeO.ite ?_ ?_)
   | (with_reducible refine LeO.bind ?_ (fun _ => ?_))
   | exact ih0 _ _ _ _ _
   | exact spec_MatrixValid.mono _ _ _
   | exact LeO.none _
   | refine LeO.ite ?_ ?_
   | refine LeO.bind ?_ (fun _ => ?_)
set_option maxHeartbeats 8000000 in
set_option maxRecDepth 100000 in
theorem spec_GradesValid.calls (k : Nat) (a0_0 : Int) (A0_1 : Option Addr) (c0_1 : Nat) (l0_1 : List Int) (r : Bool) (w : World) (hr0_1 : Kd.C (Kd.int .i64) w A0_1 l0_1.length l0_1) (hc0_1 : l0_1.length ≤ c0_1) (h : spec_GradesValid.f k a0_0 l0_1 = some r) :
  Calls Try.prog 68 #[.agg #[.int .i64 a0_0,.slice A0_1 l0_1.length c0_1]] w fun e w' => e = .returned (.bool r) ∧ Below w.heap.size w w':=by
 have hu35:=Try.underlying35
 have HR0_1:=Aside0.mk hr0_1
 have HC0_1:=Aside0.mk hc0_1
 clear hr0_1 hc0_1
 have HB:=Aside0.mk (Below.refl w.heap.size w)
 have H : (spec_GradesValid.l0 k l0_1 (l0_1.length : Int) 0 a0_0 l0_1) = some r:=h
 clear h
 have H':=Aside0.mk H
 clear H
 go_enter Try.func68,Try.ntmps68
 go_wp2_with (first|((with_reducible refine gate_dst (N:=1) rfl ?_);refine box_event ?hg (N:=1) ?hd (cs:=#[.int .i64 a0_0,.slice A0_1 l0_1.length c0_1]) (t:=35) ?hr ?_;(case hd => rfl);(case hg => rfl);(case hr => first|(go_simp;done)|(go_simp;rfl));intro gb134 hg w2 hbox hb;have n0_:=Aside0.mk (below_step (be0_ HB.out) hb);have n1_:=Aside0.mk (hbox);have n2_:=Aside0.mk ((by rw [hg];exact (below_size (be0_ HB.out)) : w.heap.size ≤ gb134));have n3_:=Aside0.mk ((by rw [hg];exact (below_size (be0_ HB.out)) : w.heap.size ≤ gb134));clear HB;have HB:=n0_;have BK134:=n1_;have GW134:=n2_;have GE134:=n3_;clear n0_ n1_ n2_ n3_;clear hb hbox hg;have hcz3_0 : w2.cell? ⟨gb134,0,none⟩ = some (.int .i64 a0_0):=(blk_cell BK134.out 0).trans rfl;have hcz3_1 : w2.cell? ⟨gb134,1,none⟩ = some (.slice A0_1 l0_1.length c0_1):=(blk_cell BK134.out 1).trans rfl;have hfz3_0:=blk_frozen BK134.out 0;have hfz3_1:=blk_frozen BK134.out 1))
 go_loopg [8] k (fun kq v8 w' => ∃ (x8_1 : Int),v8 = .int .i64 x8_1 ∧ Aside0 (spec_GradesValid.l0 kq l0_1 (l0_1.length : Int) x8_1 a0_0 l0_1 = some r) ∧ Aside0 (kq ≤ k) ∧ Aside0 (w'.heap[gb134]? = some (.cells #[.int .i64 a0_0,(.slice A0_1 l0_1.length c0_1)] 35 (0,0))) ∧ Aside0 (Below w.heap.size w w'))
 case atStart => exact ⟨(0),(by first|rfl|(simp;done)|(simp [*];done)),H',⟨Nat.le_refl _⟩,⟨pe_ BK134.out⟩,⟨be1_ HB.out GE134.out⟩⟩
 case round =>
  clear H'
  try clear p2
  try clear hcz3_0
  try clear hcz3_1
  try clear hfz3_0
  try clear hfz3_1
  obtain ⟨x8_1,rfl,HA,HK1,BK134,HB⟩:=hrel
  cases gk with
  | zero => exact absurd HA.out (by simp [spec_GradesValid.l0])
  | succ k1 =>
   have H:=HA.out
   clear HA
   simp only [spec_GradesValid.l0] at H
   by_cases c4 : x8_1 < (l0_1.length : Int)
   ·rw [if_pos c4] at H
    have c4b0 : decide (x8_1 < (l0_1.length : Int)) = true:=decide_eq_true c4
    clear c4
    by_cases c5 : 0 ≤ x8_1
    ·rw [if_pos c5] at H
     have c5b0 : decide (0 ≤ x8_1) = true:=decide_eq_true c5
     clear c5
     by_cases c6 : x8_1 < (l0_1.length : Int)
     ·rw [if_pos c6] at H
      have c6b0 : decide (x8_1 < (l0_1.length : Int)) = true:=decide_eq_true c6
      clear c6
      replace H:=Option.bind_eq_some_iff.mp H
      obtain ⟨t136,A70,H⟩:=H
      replace H : (if t136 = true then (spec_GradesValid.l0 k1 l0_1 (l0_1.length : Int) (wrap64 (x8_1 + 1)) a0_0 l0_1) else (some false)) = some r:=H
      have A7:=Aside0.mk A70
      clear A70
      by_cases c8 : t136 = true
      ·subst c8
       have H1 : (spec_GradesValid.l0 k1 l0_1 (l0_1.length : Int) (wrap64 (x8_1 + 1)) a0_0 l0_1) = some r:=by rw [if_pos rfl] at H;exact H
       clear H
       have H:=H1
       clear H1
       have H':=Aside0.mk H
       clear H
       have p135 : 0 ≤ (x8_1 : Int):=of_decide_eq_true (by first|(with_reducible assumption)|assumption)
       have q135 : x8_1 < (l0_1.length : Int):=of_decide_eq_true (by first|(with_reducible assumption)|assumption)
       obtain ⟨ad135,e135,hx135_0⟩:=Kd.at_int HR0_1.out x8_1 p135 q135
       cases e135
       replace hx135_0:=(HB.out.cell (World.block_lt_of_cell? w _ hx135_0)).trans hx135_0
       replace p135:=eq_true p135
       replace q135:=eq_true q135
       go_wp2_with (first|((with_reducible refine gate_callee (f:=90) rfl ?_);refine goesL_ (some 13) rfl rfl Try.func90 (by kernel_rfl) rfl #[.int .i64 (rd l0_1 x8_1),.int .i64 0,.int .i64 3] rfl lp_ ?_;(with_reducible refine (spec_l1In.calls (rd l0_1 x8_1) 0 3 true _ A7.out).mono ?_);rintro e w' ⟨rfl,⟨nd,rfl⟩⟩;refine ⟨_,rfl,?_⟩))
       go_roundg k1
       case measure => have:=HK1.out;omega
       case rel => exact ⟨(wrap64 (x8_1 + 1)),(by first|rfl|(simp;done)|(simp [*];done)),H',⟨by have:=HK1.out;omega⟩,⟨pe_ BK134.out⟩,⟨be1_ HB.out GE134.out⟩⟩
      ·replace c8:=Bool.eq_false_iff.mpr c8
       subst c8
       have H1 : (some false) = some r:=by rw [if_neg (show ¬ (false = true) by decide)] at H;exact H
       clear H
       have H:=H1
       clear H1
       obtain rfl:=Option.some.inj H
       have p135 : 0 ≤ (x8_1 : Int):=of_decide_eq_true (by first|(with_reducible assumption)|assumption)
       have q135 : x8_1 < (l0_1.length : Int):=of_decide_eq_true (by first|(with_reducible assumption)|assumption)
       obtain ⟨ad135,e135,hx135_0⟩:=Kd.at_int HR0_1.out x8_1 p135 q135
       cases e135
       replace hx135_0:=(HB.out.cell (World.block_lt_of_cell? w _ hx135_0)).trans hx135_0
       replace p135:=eq_true p135
       replace q135:=eq_true q135
       go_wp2_with (first|((with_reducible refine gate_callee (f:=90) rfl ?_);refine goesL_ (some 13) rfl rfl Try.func90 (by kernel_rfl) rfl #[.int .i64 (rd l0_1 x8_1),.int .i64 0,.int .i64 3] rfl lp_ ?_;(with_reducible refine (spec_l1In.calls (rd l0_1 x8_1) 0 3 false _ A7.out).mono ?_);rintro e w' ⟨rfl,⟨nd,rfl⟩⟩;refine ⟨_,rfl,?_⟩))
       go_ret
       exact ⟨by first|rfl|(simp [errW_none,errW_some] <;> rfl)|(simp [*,errW_none,errW_some] <;> rfl),be1_ HB.out GE134.out⟩
     ·rw [if_neg c6] at H
      exact absurd H (by simp)
    ·rw [if_neg c5] at H
     exact absurd H (by simp)
   ·rw [if_neg c4] at H
    have c4b0 : decide (x8_1 < (l0_1.length : Int)) = false:=decide_eq_false c4
    clear c4
    replace H:=Option.bind_eq_some_iff.mp H
    obtain ⟨t137,A90,H⟩:=H
    replace H : (some t137) = some r:=H
    have A9:=Aside0.mk A90
    clear A90
    obtain rfl:=Option.some.inj H
    have hcz10_0 : wr.cell? ⟨gb134,0,none⟩ = some (.int .i64 a0_0):=(blk_cell BK134.out 0).trans rfl
    have hcz10_1 : wr.cell? ⟨gb134,1,none⟩ = some (.slice A0_1 l0_1.length c0_1):=(blk_cell BK134.out 1).trans rfl
    have hfz10_0:=blk_frozen BK134.out 0
    have hfz10_1:=blk_frozen BK134.out 1
    go_wp2_with (first|((with_reducible refine gate_callee (f:=122) rfl ?_);refine goesL_ (some 17) rfl rfl Try.func122 (by kernel_rfl) rfl #[.agg #[.int .i64 a0_0,.slice A0_1 l0_1.length c0_1]] rfl lp_ ?_;(with_reducible refine (spec_MatrixValid.calls k1 a0_0 _ _ l0_1 t137 _ ?side1 ?side2 A9.out).mono ?_);(case side1 => repeat (first|exact (Kd.C_below HR0_1.out HB.out)|(with_reducible refine Kd.C_alloc ?_ _)|(with_reducible refine Kd.C_drewN ?_ _)|(with_reducible refine Kd.C_drew ?_)));(case side2 => exact HC0_1.out);rintro e w11 ⟨rfl,hb⟩;refine ⟨_,rfl,?_⟩;have n0_:=Aside0.mk (blk_below (g:=gb134) (o:=.cells #[.int .i64 a0_0,.slice A0_1 l0_1.length c0_1] 35 (0,0)) (pe_ BK134.out) hb);have n1_:=Aside0.mk (below_step (be1_ HB.out GE134.out) hb);clear BK134;clear HB;have BK134:=n0_;have HB:=n1_;clear n0_ n1_;(try clear hb);(try clear hb2);(try clear hk);(try clear hi)))
    go_ret
    exact ⟨by first|rfl|(simp [errW_none,errW_some] <;> rfl)|(simp [*,errW_none,errW_some] <;> rfl),be1_ HB.out GE134.out⟩
end Go.Proofs.Ytfmbpoojpnoafaa.X
end
section
namespace Go.Proofs.Ytfmbpoojpnoafaa.X
open Go.RowKit Go.Proofs.YtfmbpoojpnoafaaW.PrintWords Go.Proofs.YtfmbpoojpnoafaaW.PrintLast Go.Proofs.YtfmbpoojpnoafaaW.PrintMore
attribute [local go_sem] max2_int min2_int max_two min_two max_three min_three max_four min_four
set_option linter.unusedVariables false
set_option linter.unusedSimpArgs false
mutual
def spec_l6Between.l0 : Nat → Int → List Int → Int → Int → Int → List Int → List Int → List (S92) → Int → List Int → Option (Int)
 | 0,_,_,_,_,_,_,_,_,_,_ => none
 | k + 1,x5,x11,x12,x13,x139000,x139001,x139002,x139003,x140000,x140001 => if x13 < x12 then (if 0 ≤ x13 then (if x13 < (x11.length : Int) then (spec_l6Between.l1 k x5 (rd x11 x13) x11 x12 x13 x139002 (x139002.length : Int) 0 x139000 x139001 x139002 x139003 x140000 x140001) else (none)) else (none)) else (some x5)
def spec_l6Between.l1 : Nat → Int → Int → List Int → Int → Int → List Int → Int → Int → Int → List Int → List Int → List (S92) → Int → List Int → Option (Int)
 | 0,_,_,_,_,_,_,_,_,_,_,_,_,_,_ => none
 | k + 1,x5,x7,x11,x12,x13,x18,x19,x20,x139000,x139001,x139002,x139003,x140000,x140001 => if x20 < x19 then (if 0 ≤ x20 then (if x20 < (x18.length : Int) then (if 0 ≤ (wrap64 ((wrap64 (x7 * x139000)) + (rd x18 x20))) then (if (wrap64 ((wrap64 (x7 * x139000)) + (rd x18 x20))) < (x140001.length : Int) then (spec_l6Between.l1 k (mn x5 (rd x140001 (wrap64 ((wrap64 (x7 * x139000)) + (rd x18 x20))))) x7 x11 x12 x13 x18 x19 (wrap64 (x20 + 1)) x139000 x139001 x139002 x139003 x140000 x140001) else (none)) else (none)) else (none)) else (none)) else (spec_l6Between.l0 k x5 x11 x12 (wrap64 (x13 + 1)) x139000 x139001 x139002 x139003 x140000 x140001)
end
def spec_l6Between.f (k : Nat) (a0_0 : Int) (l0_1 : List Int) (l0_2 : List Int) (l0_3 : List (S92)) (a1_0 : Int) (l1_1 : List Int) : Option (Int):=spec_l6Between.l0 k 3 l0_1 (l0_1.length : Int) 0 a0_0 l0_1 l0_2 l0_3 a1_0 l1_1
theorem spec_l6Between.mono_l : ∀ k,(∀ y0 y1 y2 y3 y4 y5 y6 y7 y8 y9,LeO (spec_l6Between.l0 k y0 y1 y2 y3 y4 y5 y6 y7 y8 y9) (spec_l6Between.l0 (k + 1) y0 y1 y2 y3 y4 y5 y6 y7 y8 y9)) ∧ (∀ y0 y1 y2 y3 y4 y5 y6 y7 y8 y9 y10 y11 y12 y13,LeO (spec_l6Between.l1 k y0 y1 y2 y3 y4 y5 y6 y7 y8 y9 y10 y11 y12 y13) (spec_l6Between.l1 (k + 1) y0 y1 y2 y3 y4 y5 y6 y7 y8 y9 y10 y11 y12 y13))
 | 0 => ⟨fun _ _ _ _ _ _ _ _ _ _ r h => by simp [spec_l6Between.l0] at h,fun _ _ _ _ _ _ _ _ _ _ _ _ _ _ r h => by simp [spec_l6Between.l1] at h⟩
 | k + 1 => by
  obtain ⟨ih0,ih1⟩:=spec_l6Between.mono_l k
  refine ⟨?_,?_⟩
  ·intro y0 y1 y2 y3 y4 y5 y6 y7 y8 y9
   unfold spec_l6Between.l0
   repeat' first
   | (with_reducible exact ih0 _ _ _ _ _ _ _ _ _ _)
   | (with_reducible exact ih1 _ _ _ _ _ _ _ _ _ _ _ _ _ _)
   | (with_reducible exact LeO.refl _)
   | (with_reducible exact LeO.none _)
   | (with_reducible refine LeO.ite ?_ ?_)
   | (with_reducible refine LeO.bind ?_ (fun _ => ?_))
   | exact ih0 _ _ _ _ _ _ _ _ _ _
   | exact ih1 _ _ _ _ _ _ _ _ _ _ _ _ _ _
   | exact LeO.none _
   | refine LeO.ite ?_ ?_
   | refine LeO.bind ?_ (fun _ => ?_)
  ·intro y0 y1 y2 y3 y4 y5 y6 y7 y8 y9 y10 y11 y12 y13
   unfold spec_l6Between.l1
   repeat' first
   | (with_reducible exact ih0 _ _ _ _ _ _ _ _ _ _)
   | (with_reducible exact ih1 _ _ _ _ _ _ _ _ _ _ _ _ _ _)
   | (with_reducible exact LeO.refl _)
   | (with_reducible exact LeO.none _)
   | (with_reducible refine LeO.ite ?_ ?_)
   | (with_reducible refine LeO.bind ?_ (fun _ => ?_))
   | exact ih0 _ _ _ _ _ _ _ _ _ _
   | exact ih1 _ _ _ _ _ _ _ _ _ _ _ _ _ _
   | exact LeO.none _
   | refine LeO.ite ?_ ?_
   | refine LeO.bind ?_ (fun _ => ?_)
theorem spec_l6Between.mono : ∀ a0 a1 a2 a3 a4 a5 k,LeO (spec_l6Between.f k a0 a1 a2 a3 a4 a5) (spec_l6Between.f (k + 1) a0 a1 a2 a3 a4 a5):=by
 intro a0 a1 a2 a3 a4 a5 k
 obtain ⟨ih0,ih1⟩:=spec_l6Between.mono_l k
 unfold spec_l6Between.f
 repeat' first
   | (with_reducible exact ih0 _ _ _ _ _ _ _ _ _ _)
   | (with_reducible exact ih1 _ _ _ _ _ _ _ _ _ _ _ _ _ _)
   | (with_reducible exact LeO.refl _)
   | (with_reducible exact LeO.none _)
   | (with_reducible refine LeO.ite ?_ ?_)
   | (with_reducible refine LeO.bind ?_ (fun _ => ?_))
   | exact ih0 _ _ _ _ _ _ _ _ _ _
   | exact ih1 _ _ _ _ _ _ _ _ _ _ _ _ _ _
   | exact LeO.none _
   | refine LeO.ite ?_ ?_
   | refine LeO.bind ?_ (fun _ => ?_)
set_option maxHeartbeats 8000000 in
set_option maxRecDepth 100000 in
theorem spec_l6Between.calls (k : Nat) (a0_0 : Int) (A0_1 : Option Addr) (c0_1 : Nat) (l0_1 : List Int) (A0_2 : Option Addr) (c0_2 : Nat) (l0_2 : List Int) (A0_3 : Option Addr) (c0_3 : Nat) (l0_3 : List (S92)) (a1_0 : Int) (A1_1 : Option Addr) (c1_1 : Nat) (l1_1 : List Int) (r : Int) (w : World) (hr0_1 : Kd.C (Kd.int .i64) w A0_1 l0_1.length l0_1) (hc0_1 : l0_1.length ≤ c0_1) (hr0_2 : Kd.C (Kd.int .i64) w A0_2 l0_2.length l0_2) (hc0_2 : l0_2.length ≤ c0_2) (hr0_3 : Kd.C k92 w A0_3 l0_3.length l0_3) (hc0_3 : l0_3.length ≤ c0_3) (hr1_1 : Kd.C (Kd.int .i64) w A1_1 l1_1.length l1_1) (hc1_1 : l1_1.length ≤ c1_1) (h : spec_l6Between.f k a0_0 l0_1 l0_2 l0_3 a1_0 l1_1 = some r) :
  Calls Try.prog 69 #[.agg #[.int .i64 a0_0,.slice A0_1 l0_1.length c0_1,.slice A0_2 l0_2.length c0_2,.slice A0_3 l0_3.length c0_3],.agg #[.int .i64 a1_0,.slice A1_1 l1_1.length c1_1]] w fun e w' => e = .returned (.int .i64 r) ∧ Below w.heap.size w w':=by
 have hu33:=Try.underlying33
 have hu35:=Try.underlying35
 have HR0_1:=Aside0.mk hr0_1
 have HC0_1:=Aside0.mk hc0_1
 clear hr0_1 hc0_1
 have HR0_2:=Aside0.mk hr0_2
 have HC0_2:=Aside0.mk hc0_2
 clear hr0_2 hc0_2
 have HR0_3:=Aside0.mk hr0_3
 have HC0_3:=Aside0.mk hc0_3
 clear hr0_3 hc0_3
 have HR1_1:=Aside0.mk hr1_1
 have HC1_1:=Aside0.mk hc1_1
 clear hr1_1 hc1_1
 have HB:=Aside0.mk (Below.refl w.heap.size w)
 have H : (spec_l6Between.l0 k 3 l0_1 (l0_1.length : Int) 0 a0_0 l0_1 l0_2 l0_3 a1_0 l1_1) = some r:=h
 clear h
 have H':=Aside0.mk H
 clear H
 go_enter Try.func69,Try.ntmps69
 go_wp2_with (first|((with_reducible refine gate_dst (N:=2) rfl ?_);refine box_event ?hg (N:=2) ?hd (cs:=#[.int .i64 a0_0,.slice A0_1 l0_1.length c0_1,.slice A0_2 l0_2.length c0_2,.slice A0_3 l0_3.length c0_3]) (t:=33) ?hr ?_;(case hd => rfl);(case hg => rfl);(case hr => first|(go_simp;done)|(go_simp;rfl));intro gb138 hg w3 hbox hb;have n0_:=Aside0.mk (below_step (be0_ HB.out) hb);have n1_:=Aside0.mk (hbox);have n2_:=Aside0.mk ((by rw [hg];exact (below_size (be0_ HB.out)) : w.heap.size ≤ gb138));have n3_:=Aside0.mk ((by rw [hg];exact (below_size (be0_ HB.out)) : w.heap.size ≤ gb138));clear HB;have HB:=n0_;have BK138:=n1_;have GW138:=n2_;have GE138:=n3_;clear n0_ n1_ n2_ n3_;clear hb hbox hg)|((with_reducible refine gate_dst (N:=3) rfl ?_);refine box_event ?hg (N:=3) ?hd (cs:=#[.int .i64 a1_0,.slice A1_1 l1_1.length c1_1]) (t:=35) ?hr ?_;(case hd => rfl);(case hg => rfl);(case hr => first|(go_simp;done)|(go_simp;rfl));intro gb139 hg w4 hbox hb;have n0_:=Aside0.mk (blk_below (g:=gb138) (o:=.cells #[.int .i64 a0_0,.slice A0_1 l0_1.length c0_1,.slice A0_2 l0_2.length c0_2,.slice A0_3 l0_3.length c0_3] 33 (0,0)) (pe_ BK138.out) hb);have n1_:=Aside0.mk (below_step (be1_ HB.out GE138.out) hb);have n2_:=Aside0.mk (hbox);have n3_:=Aside0.mk ((by rw [hg];exact (below_size (be1_ HB.out GE138.out)) : w.heap.size ≤ gb139));have n4_:=Aside0.mk ((by rw [hg];exact (below_size (be1_ HB.out GE138.out)) : w.heap.size ≤ gb139));have n5_:=Aside0.mk ((by rw [hg];exact Nat.ne_of_lt (blk_lt (g:=gb138) (o:=.cells #[.int .i64 a0_0,.slice A0_1 l0_1.length c0_1,.slice A0_2 l0_2.length c0_2,.slice A0_3 l0_3.length c0_3] 33 (0,0)) (pe_ BK138.out)) : gb138 ≠ gb139));have n6_:=Aside0.mk ((by rw [hg];exact Nat.ne_of_gt (blk_lt (g:=gb138) (o:=.cells #[.int .i64 a0_0,.slice A0_1 l0_1.length c0_1,.slice A0_2 l0_2.length c0_2,.slice A0_3 l0_3.length c0_3] 33 (0,0)) (pe_ BK138.out)) : gb139 ≠ gb138));clear BK138;clear HB;have BK138:=n0_;have HB:=n1_;have BK139:=n2_;have GW139:=n3_;have GE139:=n4_;have NB138_139:=n5_;have NB139_138:=n6_;clear n0_ n1_ n2_ n3_ n4_ n5_ n6_;clear hb hbox hg;have hnb5:=NB138_139.out;have hnc5:=NB139_138.out;have hcz6_0 : w4.cell? ⟨gb138,0,none⟩ = some (.int .i64 a0_0):=(blk_cell BK138.out 0).trans rfl;have hcz6_1 : w4.cell? ⟨gb138,1,none⟩ = some (.slice A0_1 l0_1.length c0_1):=(blk_cell BK138.out 1).trans rfl;have hcz6_2 : w4.cell? ⟨gb138,2,none⟩ = some (.slice A0_2 l0_2.length c0_2):=(blk_cell BK138.out 2).trans rfl;have hcz6_3 : w4.cell? ⟨gb138,3,none⟩ = some (.slice A0_3 l0_3.length c0_3):=(blk_cell BK138.out 3).trans rfl;have hfz6_0:=blk_frozen BK138.out 0;have hfz6_1:=blk_frozen BK138.out 1;have hfz6_2:=blk_frozen BK138.out 2;have hfz6_3:=blk_frozen BK138.out 3))
 go_loopg [5,13] k (fun kq v5 v13 w' => ∃ (x5_1 : Int) (x13_1 : Int),v5 = .int .i64 x5_1 ∧ v13 = .int .i64 x13_1 ∧ Aside0 (spec_l6Between.l0 kq x5_1 l0_1 (l0_1.length : Int) x13_1 a0_0 l0_1 l0_2 l0_3 a1_0 l1_1 = some r) ∧ Aside0 (kq ≤ k) ∧ Aside0 (w'.heap[gb138]? = some (.cells #[.int .i64 a0_0,(.slice A0_1 l0_1.length c0_1),(.slice A0_2 l0_2.length c0_2),(.slice A0_3 l0_3.length c0_3)] 33 (0,0))) ∧ Aside0 (w'.heap[gb139]? = some (.cells #[.int .i64 a1_0,(.slice A1_1 l1_1.length c1_1)] 35 (0,0))) ∧ Aside0 (Below w.heap.size w w'))
 case atStart => exact ⟨(3),(0),(by first|rfl|(simp;done)|(simp [*];done)),(by first|rfl|(simp;done)|(simp [*];done)),H',⟨Nat.le_refl _⟩,⟨pe_ BK138.out⟩,⟨pe_ BK139.out⟩,⟨be2_ HB.out GE138.out GE139.out⟩⟩
 case round =>
  clear H'
  try clear c1
  try clear p2
  try clear c5
  try clear c6
  try clear hcz6_0
  try clear hcz6_1
  try clear hcz6_2
  try clear hcz6_3
  try clear hfz6_0
  try clear hfz6_1
  try clear hfz6_2
  try clear hfz6_3
  obtain ⟨x5_1,x13_1,rfl,rfl,HA,HK1,BK138,BK139,HB⟩:=hrel
  cases gk with
  | zero => exact absurd HA.out (by simp [spec_l6Between.l0])
  | succ k1 =>
   have H:=HA.out
   clear HA
   simp only [spec_l6Between.l0] at H
   by_cases c7 : x13_1 < (l0_1.length : Int)
   ·rw [if_pos c7] at H
    have c7b0 : decide (x13_1 < (l0_1.length : Int)) = true:=decide_eq_true c7
    clear c7
    by_cases c8 : 0 ≤ x13_1
    ·rw [if_pos c8] at H
     have c8b0 : decide (0 ≤ x13_1) = true:=decide_eq_true c8
     clear c8
     by_cases c9 : x13_1 < (l0_1.length : Int)
     ·rw [if_pos c9] at H
      have c9b0 : decide (x13_1 < (l0_1.length : Int)) = true:=decide_eq_true c9
      clear c9
      have H':=Aside0.mk H
      clear H
      have p140 : 0 ≤ (x13_1 : Int):=of_decide_eq_true (by first|(with_reducible assumption)|assumption)
      have q140 : x13_1 < (l0_1.length : Int):=of_decide_eq_true (by first|(with_reducible assumption)|assumption)
      obtain ⟨ad140,e140,hx140_0⟩:=Kd.at_int HR0_1.out x13_1 p140 q140
      cases e140
      replace hx140_0:=(HB.out.cell (World.block_lt_of_cell? w _ hx140_0)).trans hx140_0
      replace p140:=eq_true p140
      replace q140:=eq_true q140
      have hnb10:=NB138_139.out
      have hnc10:=NB139_138.out
      have hcz11_0 : wr.cell? ⟨gb138,0,none⟩ = some (.int .i64 a0_0):=(blk_cell BK138.out 0).trans rfl
      have hcz11_1 : wr.cell? ⟨gb138,1,none⟩ = some (.slice (some ad140) l0_1.length c0_1):=(blk_cell BK138.out 1).trans rfl
      have hcz11_2 : wr.cell? ⟨gb138,2,none⟩ = some (.slice A0_2 l0_2.length c0_2):=(blk_cell BK138.out 2).trans rfl
      have hcz11_3 : wr.cell? ⟨gb138,3,none⟩ = some (.slice A0_3 l0_3.length c0_3):=(blk_cell BK138.out 3).trans rfl
      have hfz11_0:=blk_frozen BK138.out 0
      have hfz11_1:=blk_frozen BK138.out 1
      have hfz11_2:=blk_frozen BK138.out 2
      have hfz11_3:=blk_frozen BK138.out 3
      go_wp2
      go_loopg [5,20] k1 (fun kq v5 v20 w' => ∃ (x5_2 : Int) (x20_2 : Int),v5 = .int .i64 x5_2 ∧ v20 = .int .i64 x20_2 ∧ Aside0 (spec_l6Between.l1 kq x5_2 (rd l0_1 x13_1) l0_1 (l0_1.length : Int) x13_1 l0_2 (l0_2.length : Int) x20_2 a0_0 l0_1 l0_2 l0_3 a1_0 l1_1 = some r) ∧ Aside0 (kq ≤ k1) ∧ Aside0 (w'.heap[gb138]? = some (.cells #[.int .i64 a0_0,(.slice (some ad140) l0_1.length c0_1),(.slice A0_2 l0_2.length c0_2),(.slice A0_3 l0_3.length c0_3)] 33 (0,0))) ∧ Aside0 (w'.heap[gb139]? = some (.cells #[.int .i64 a1_0,(.slice A1_1 l1_1.length c1_1)] 35 (0,0))) ∧ Aside0 (Below w.heap.size w w'))
      case atStart => exact ⟨(x5_1),(0),(by first|rfl|(simp;done)|(simp [*];done)),(by first|rfl|(simp;done)|(simp [*];done)),H',⟨Nat.le_refl _⟩,⟨pe_ BK138.out⟩,⟨pe_ BK139.out⟩,⟨be2_ HB.out GE138.out GE139.out⟩⟩
      case round =>
       clear H'
       try clear c1
       try clear p1
       try clear q1
       try clear hx1
       try clear p2
       try clear c5
       try clear c6
       try clear c7
       try clear c7b0
       try clear c8
       try clear c8b0
       try clear c9
       try clear c9b0
       try clear c10
       try clear hcz11_0
       try clear hcz11_1
       try clear hcz11_2
       try clear hcz11_3
       try clear hcz6_0
       try clear hcz6_1
       try clear hcz6_2
       try clear hcz6_3
       try clear hfz11_0
       try clear hfz11_1
       try clear hfz11_2
       try clear hfz11_3
       try clear hfz6_0
       try clear hfz6_1
       try clear hfz6_2
       try clear hfz6_3
       try clear hx140_0
       try clear p140
       try clear p2
       try clear q140
       obtain ⟨x5_2,x20_2,rfl,rfl,HA,HK2,BK138,BK139,HB⟩:=hrel
       cases gk with
       | zero => exact absurd HA.out (by simp [spec_l6Between.l1])
       | succ k2 =>
        have H:=HA.out
        clear HA
        simp only [spec_l6Between.l1] at H
        by_cases c12 : x20_2 < (l0_2.length : Int)
        ·rw [if_pos c12] at H
         have c12b0 : decide (x20_2 < (l0_2.length : Int)) = true:=decide_eq_true c12
         clear c12
         by_cases c13 : 0 ≤ x20_2
         ·rw [if_pos c13] at H
          have c13b0 : decide (0 ≤ x20_2) = true:=decide_eq_true c13
          clear c13
          by_cases c14 : x20_2 < (l0_2.length : Int)
          ·rw [if_pos c14] at H
           have c14b0 : decide (x20_2 < (l0_2.length : Int)) = true:=decide_eq_true c14
           clear c14
           obtain ⟨ji15,hji15⟩ : ∃ j_ : Int,(wrap64 ((wrap64 ((rd l0_1 x13_1) * a0_0)) + (rd l0_2 x20_2))) = j_:=⟨_,rfl⟩
           replace H : (if 0 ≤ (ji15) then (if (ji15) < (l1_1.length : Int) then (spec_l6Between.l1 k2 (mn x5_2 (rd l1_1 (ji15))) (rd l0_1 x13_1) l0_1 (l0_1.length : Int) x13_1 l0_2 (l0_2.length : Int) (wrap64 (x20_2 + 1)) a0_0 l0_1 l0_2 l0_3 a1_0 l1_1) else (none)) else (none)) = some r:=by first|(rw [hji15] at H;exact H)|(simp only [hji15] at H ⊢;exact H)
           have hji15w : (IntKind.i64.wrap ((wrap64 ((rd l0_1 x13_1) * a0_0)) + (rd l0_2 x20_2))) = ji15:=(i64_w _).trans hji15
           by_cases c16 : 0 ≤ (ji15)
           ·rw [if_pos c16] at H
            have c16b0 : decide (0 ≤ (ji15)) = true:=decide_eq_true c16
            clear c16
            by_cases c17 : (ji15) < (l1_1.length : Int)
            ·rw [if_pos c17] at H
             have c17b0 : decide ((ji15) < (l1_1.length : Int)) = true:=decide_eq_true c17
             clear c17
             obtain ⟨ji18,hji18⟩ : ∃ j_ : Int,(mn x5_2 (rd l1_1 (ji15))) = j_:=⟨_,rfl⟩
             replace H : (spec_l6Between.l1 k2 ji18 (rd l0_1 x13_1) l0_1 (l0_1.length : Int) x13_1 l0_2 (l0_2.length : Int) (wrap64 (x20_2 + 1)) a0_0 l0_1 l0_2 l0_3 a1_0 l1_1) = some r:=by first|(rw [hji18] at H;exact H)|(simp only [hji18] at H ⊢;exact H)
             have hji18_ : (if (rd l1_1 (ji15)) < x5_2 then (rd l1_1 (ji15)) else x5_2) = ji18:=hji18
             have H':=Aside0.mk H
             clear H
             have p141 : 0 ≤ (x20_2 : Int):=of_decide_eq_true (by first|(with_reducible assumption)|assumption)
             have q141 : x20_2 < (l0_2.length : Int):=of_decide_eq_true (by first|(with_reducible assumption)|assumption)
             obtain ⟨ad141,e141,hx141_0⟩:=Kd.at_int HR0_2.out x20_2 p141 q141
             cases e141
             replace hx141_0:=(HB.out.cell (World.block_lt_of_cell? w _ hx141_0)).trans hx141_0
             replace p141:=eq_true p141
             replace q141:=eq_true q141
             have hnb19:=NB139_138.out
             have hnc19:=NB138_139.out
             have hcz20_0 : wr.cell? ⟨gb139,0,none⟩ = some (.int .i64 a1_0):=(blk_cell BK139.out 0).trans rfl
             have hcz20_1 : wr.cell? ⟨gb139,1,none⟩ = some (.slice A1_1 l1_1.length c1_1):=(blk_cell BK139.out 1).trans rfl
             have hfz20_0:=blk_frozen BK139.out 0
             have hfz20_1:=blk_frozen BK139.out 1
             have hcz21_0 : wr.cell? ⟨gb138,0,none⟩ = some (.int .i64 a0_0):=(blk_cell BK138.out 0).trans rfl
             have hcz21_1 : wr.cell? ⟨gb138,1,none⟩ = some (.slice (some ad140) l0_1.length c0_1):=(blk_cell BK138.out 1).trans rfl
             have hcz21_2 : wr.cell? ⟨gb138,2,none⟩ = some (.slice (some ad141) l0_2.length c0_2):=(blk_cell BK138.out 2).trans rfl
             have hcz21_3 : wr.cell? ⟨gb138,3,none⟩ = some (.slice A0_3 l0_3.length c0_3):=(blk_cell BK138.out 3).trans rfl
             have hfz21_0:=blk_frozen BK138.out 0
             have hfz21_1:=blk_frozen BK138.out 1
             have hfz21_2:=blk_frozen BK138.out 2
             have hfz21_3:=blk_frozen BK138.out 3
             have p142 : 0 ≤ ((ji15) : Int):=of_decide_eq_true (by first|(with_reducible assumption)|assumption)
             have q142 : (ji15) < (l1_1.length : Int):=of_decide_eq_true (by first|(with_reducible assumption)|assumption)
             obtain ⟨ad142,e142,hx142_0⟩:=Kd.at_int HR1_1.out (ji15) p142 q142
             cases e142
             replace hx142_0:=(HB.out.cell (World.block_lt_of_cell? w _ hx142_0)).trans hx142_0
             replace p142:=eq_true p142
             replace q142:=eq_true q142
             go_wp2
             go_roundg k2
             case measure => have:=HK1.out;have:=HK2.out;omega
             case rel => exact ⟨(ji18),(wrap64 (x20_2 + 1)),(by first|rfl|(simp;done)|(simp only [← hji18] <;> (first|rfl|simp))|(simp [*];done)),(by first|rfl|(simp;done)|(simp [*];done)),H',⟨by have:=HK1.out;have:=HK2.out;omega⟩,⟨pe_ BK138.out⟩,⟨pe_ BK139.out⟩,⟨be2_ HB.out GE138.out GE139.out⟩⟩
            ·rw [if_neg c17] at H
             exact absurd H (by simp)
           ·rw [if_neg c16] at H
            exact absurd H (by simp)
          ·rw [if_neg c14] at H
           exact absurd H (by simp)
         ·rw [if_neg c13] at H
          exact absurd H (by simp)
        ·rw [if_neg c12] at H
         have c12b0 : decide (x20_2 < (l0_2.length : Int)) = false:=decide_eq_false c12
         clear c12
         have H':=Aside0.mk H
         clear H
         go_wp2
         go_roundg k2
         case measure => have:=HK1.out;have:=HK2.out;omega
         case rel => exact ⟨(x5_2),(wrap64 (x13_1 + 1)),(by first|rfl|(simp;done)|(simp [*];done)),(by first|rfl|(simp;done)|(simp [*];done)),H',⟨by have:=HK1.out;have:=HK2.out;omega⟩,⟨pe_ BK138.out⟩,⟨pe_ BK139.out⟩,⟨be2_ HB.out GE138.out GE139.out⟩⟩
     ·rw [if_neg c9] at H
      exact absurd H (by simp)
    ·rw [if_neg c8] at H
     exact absurd H (by simp)
   ·rw [if_neg c7] at H
    have c7b0 : decide (x13_1 < (l0_1.length : Int)) = false:=decide_eq_false c7
    clear c7
    obtain rfl:=Option.some.inj H
    go_wp2
    go_ret
    exact ⟨by first|rfl|(simp [errW_none,errW_some] <;> rfl)|(simp [*,errW_none,errW_some] <;> rfl),be2_ HB.out GE138.out GE139.out⟩
end Go.Proofs.Ytfmbpoojpnoafaa.X
end
section
namespace Go.Proofs.Ytfmbpoojpnoafaa.X
open Go.RowKit Go.Proofs.YtfmbpoojpnoafaaW.PrintWords Go.Proofs.YtfmbpoojpnoafaaW.PrintLast Go.Proofs.YtfmbpoojpnoafaaW.PrintMore
attribute [local go_sem] max2_int min2_int max_two min_two max_three min_three max_four min_four
set_option linter.unusedVariables false
set_option linter.unusedSimpArgs false
def spec_GradeBetween.f (k : Nat) (a0_0 : Int) (l0_1 : List Int) (l0_2 : List Int) (l0_3 : List (S92)) (a1_0 : Int) (l1_1 : List Int) : Option (Int):=(spec_AutomatonValid.f k a0_0 l0_1 l0_2 l0_3).bind fun t145 => (if t145 = true then ((spec_GradesValid.f k a1_0 l1_1).bind fun t146 => (if t146 = true then (if a1_0 = a0_0 then ((spec_l6Between.f k a0_0 l0_1 l0_2 l0_3 a1_0 l1_1).bind fun t147 => (some t147)) else (some (-1))) else (some (-1)))) else (some (-1)))
theorem spec_GradeBetween.mono : ∀ a0 a1 a2 a3 a4 a5 k,LeO (spec_GradeBetween.f k a0 a1 a2 a3 a4 a5) (spec_GradeBetween.f (k + 1) a0 a1 a2 a3 a4 a5):=by
 intro a0 a1 a2 a3 a4 a5 k
 unfold spec_GradeBetween.f
 repeat' first
   | (with_reducible exact spec_AutomatonValid.mono _ _ _ _ _)
   | (with_reducible exact spec_GradesValid.mono _ _ _)
   | (with_reducible exact spec_l6Between.mono _ _ _ _ _ _ _)
   | (with_reducible exact LeO.refl _)
   | (with_reducible exact LeO.none _)
   | (with_reducible refine LeO.ite ?_ ?_)
   | (with_reducible refine LeO.bind ?_ (fun _ => ?_))
   | exact spec_AutomatonValid.mono _ _ _ _ _
   | exact spec_GradesValid.mono _ _ _
   | exact spec_l6Between.mono _ _ _ _ _ _ _
   | exact LeO.none _
   | refine LeO.ite ?_ ?_
   | refine LeO.bind ?_ (fun _ => ?_)
set_option maxHeartbeats 8000000 in
set_option maxRecDepth 100000 in
theorem spec_GradeBetween.calls (k : Nat) (a0_0 : Int) (A0_1 : Option Addr) (c0_1 : Nat) (l0_1 : List Int) (A0_2 : Option Addr) (c0_2 : Nat) (l0_2 : List Int) (A0_3 : Option Addr) (c0_3 : Nat) (l0_3 : List (S92)) (a1_0 : Int) (A1_1 : Option Addr) (c1_1 : Nat) (l1_1 : List Int) (r : Int) (w : World) (hr0_1 : Kd.C (Kd.int .i64) w A0_1 l0_1.length l0_1) (hc0_1 : l0_1.length ≤ c0_1) (hr0_2 : Kd.C (Kd.int .i64) w A0_2 l0_2.length l0_2) (hc0_2 : l0_2.length ≤ c0_2) (hr0_3 : Kd.C k92 w A0_3 l0_3.length l0_3) (hc0_3 : l0_3.length ≤ c0_3) (hr1_1 : Kd.C (Kd.int .i64) w A1_1 l1_1.length l1_1) (hc1_1 : l1_1.length ≤ c1_1) (h : spec_GradeBetween.f k a0_0 l0_1 l0_2 l0_3 a1_0 l1_1 = some r) :
  Calls Try.prog 16 #[.agg #[.int .i64 a0_0,.slice A0_1 l0_1.length c0_1,.slice A0_2 l0_2.length c0_2,.slice A0_3 l0_3.length c0_3],.agg #[.int .i64 a1_0,.slice A1_1 l1_1.length c1_1]] w fun e w' => e = .returned (.int .i64 r) ∧ Below w.heap.size w w':=by
 have hu33:=Try.underlying33
 have hu35:=Try.underlying35
 have HR0_1:=Aside0.mk hr0_1
 have HC0_1:=Aside0.mk hc0_1
 clear hr0_1 hc0_1
 have HR0_2:=Aside0.mk hr0_2
 have HC0_2:=Aside0.mk hc0_2
 clear hr0_2 hc0_2
 have HR0_3:=Aside0.mk hr0_3
 have HC0_3:=Aside0.mk hc0_3
 clear hr0_3 hc0_3
 have HR1_1:=Aside0.mk hr1_1
 have HC1_1:=Aside0.mk hc1_1
 clear hr1_1 hc1_1
 have HB:=Aside0.mk (Below.refl w.heap.size w)
 have H : ((spec_AutomatonValid.f k a0_0 l0_1 l0_2 l0_3).bind fun t145 => (if t145 = true then ((spec_GradesValid.f k a1_0 l1_1).bind fun t146 => (if t146 = true then (if a1_0 = a0_0 then ((spec_l6Between.f k a0_0 l0_1 l0_2 l0_3 a1_0 l1_1).bind fun t147 => (some t147)) else (some (-1))) else (some (-1)))) else (some (-1)))) = some r:=h
 clear h
 replace H:=Option.bind_eq_some_iff.mp H
 obtain ⟨t145,A30,H⟩:=H
 replace H : (if t145 = true then ((spec_GradesValid.f k a1_0 l1_1).bind fun t146 => (if t146 = true then (if a1_0 = a0_0 then ((spec_l6Between.f k a0_0 l0_1 l0_2 l0_3 a1_0 l1_1).bind fun t147 => (some t147)) else (some (-1))) else (some (-1)))) else (some (-1))) = some r:=H
 have A3:=Aside0.mk A30
 clear A30
 by_cases c4 : t145 = true
 ·subst c4
  have H1 : ((spec_GradesValid.f k a1_0 l1_1).bind fun t146 => (if t146 = true then (if a1_0 = a0_0 then ((spec_l6Between.f k a0_0 l0_1 l0_2 l0_3 a1_0 l1_1).bind fun t147 => (some t147)) else (some (-1))) else (some (-1)))) = some r:=by rw [if_pos rfl] at H;exact H
  clear H
  have H:=H1
  clear H1
  replace H:=Option.bind_eq_some_iff.mp H
  obtain ⟨t146,A50,H⟩:=H
  replace H : (if t146 = true then (if a1_0 = a0_0 then ((spec_l6Between.f k a0_0 l0_1 l0_2 l0_3 a1_0 l1_1).bind fun t147 => (some t147)) else (some (-1))) else (some (-1))) = some r:=H
  have A5:=Aside0.mk A50
  clear A50
  by_cases c6 : t146 = true
  ·subst c6
   have H1 : (if a1_0 = a0_0 then ((spec_l6Between.f k a0_0 l0_1 l0_2 l0_3 a1_0 l1_1).bind fun t147 => (some t147)) else (some (-1))) = some r:=by rw [if_pos rfl] at H;exact H
   clear H
   have H:=H1
   clear H1
   by_cases c7 : a1_0 = a0_0
   ·rw [if_pos c7] at H
    have c7b0 : (a1_0 == a0_0) = true:=beq_iff_eq.mpr c7
    have c7b1 : (a1_0 != a0_0) = false:=bne_eq_false_iff_eq.mpr c7
    clear c7
    replace H:=Option.bind_eq_some_iff.mp H
    obtain ⟨t147,A80,H⟩:=H
    replace H : (some t147) = some r:=H
    have A8:=Aside0.mk A80
    clear A80
    obtain rfl:=Option.some.inj H
    go_enter Try.func16,Try.ntmps16
    go_wp2_with (first|((with_reducible refine gate_dst (N:=2) rfl ?_);refine box_event ?hg (N:=2) ?hd (cs:=#[.int .i64 a0_0,.slice A0_1 l0_1.length c0_1,.slice A0_2 l0_2.length c0_2,.slice A0_3 l0_3.length c0_3]) (t:=33) ?hr ?_;(case hd => rfl);(case hg => rfl);(case hr => first|(go_simp;done)|(go_simp;rfl));intro gb143 hg w9 hbox hb;have n0_:=Aside0.mk (below_step (be0_ HB.out) hb);have n1_:=Aside0.mk (hbox);have n2_:=Aside0.mk ((by rw [hg];exact (below_size (be0_ HB.out)) : w.heap.size ≤ gb143));have n3_:=Aside0.mk ((by rw [hg];exact (below_size (be0_ HB.out)) : w.heap.size ≤ gb143));clear HB;have HB:=n0_;have BK143:=n1_;have GW143:=n2_;have GE143:=n3_;clear n0_ n1_ n2_ n3_;clear hb hbox hg)|((with_reducible refine gate_dst (N:=3) rfl ?_);refine box_event ?hg (N:=3) ?hd (cs:=#[.int .i64 a1_0,.slice A1_1 l1_1.length c1_1]) (t:=35) ?hr ?_;(case hd => rfl);(case hg => rfl);(case hr => first|(go_simp;done)|(go_simp;rfl));intro gb144 hg w10 hbox hb;have n0_:=Aside0.mk (blk_below (g:=gb143) (o:=.cells #[.int .i64 a0_0,.slice A0_1 l0_1.length c0_1,.slice A0_2 l0_2.length c0_2,.slice A0_3 l0_3.length c0_3] 33 (0,0)) (pe_ BK143.out) hb);have n1_:=Aside0.mk (below_step (be1_ HB.out GE143.out) hb);have n2_:=Aside0.mk (hbox);have n3_:=Aside0.mk ((by rw [hg];exact (below_size (be1_ HB.out GE143.out)) : w.heap.size ≤ gb144));have n4_:=Aside0.mk ((by rw [hg];exact (below_size (be1_ HB.out GE143.out)) : w.heap.size ≤ gb144));have n5_:=Aside0.mk ((by rw [hg];exact Nat.ne_of_lt (blk_lt (g:=gb143) (o:=.cells #[.int .i64 a0_0,.slice A0_1 l0_1.length c0_1,.slice A0_2 l0_2.length c0_2,.slice A0_3 l0_3.length c0_3] 33 (0,0)) (pe_ BK143.out)) : gb143 ≠ gb144));have n6_:=Aside0.mk ((by rw [hg];exact Nat.ne_of_gt (blk_lt (g:=gb143) (o:=.cells #[.int .i64 a0_0,.slice A0_1 l0_1.length c0_1,.slice A0_2 l0_2.length c0_2,.slice A0_3 l0_3.length c0_3] 33 (0,0)) (pe_ BK143.out)) : gb144 ≠ gb143));clear BK143;clear HB;have BK143:=n0_;have HB:=n1_;have BK144:=n2_;have GW144:=n3_;have GE144:=n4_;have NB143_144:=n5_;have NB144_143:=n6_;clear n0_ n1_ n2_ n3_ n4_ n5_ n6_;clear hb hbox hg;have hnb11:=NB143_144.out;have hnc11:=NB144_143.out;have hcz12_0 : w10.cell? ⟨gb143,0,none⟩ = some (.int .i64 a0_0):=(blk_cell BK143.out 0).trans rfl;have hcz12_1 : w10.cell? ⟨gb143,1,none⟩ = some (.slice A0_1 l0_1.length c0_1):=(blk_cell BK143.out 1).trans rfl;have hcz12_2 : w10.cell? ⟨gb143,2,none⟩ = some (.slice A0_2 l0_2.length c0_2):=(blk_cell BK143.out 2).trans rfl;have hcz12_3 : w10.cell? ⟨gb143,3,none⟩ = some (.slice A0_3 l0_3.length c0_3):=(blk_cell BK143.out 3).trans rfl;have hfz12_0:=blk_frozen BK143.out 0;have hfz12_1:=blk_frozen BK143.out 1;have hfz12_2:=blk_frozen BK143.out 2;have hfz12_3:=blk_frozen BK143.out 3)|((with_reducible refine gate_callee (f:=67) rfl ?_);refine goesL_ (some 6) rfl rfl Try.func67 (by kernel_rfl) rfl #[.agg #[.int .i64 a0_0,.slice A0_1 l0_1.length c0_1,.slice A0_2 l0_2.length c0_2,.slice A0_3 l0_3.length c0_3]] rfl lp_ ?_;(with_reducible refine (spec_AutomatonValid.calls k a0_0 _ _ l0_1 _ _ l0_2 _ _ l0_3 true _ ?side1 ?side2 ?side3 ?side4 ?side5 ?side6 A3.out).mono ?_);(case side1 => repeat (first|exact (Kd.C_below HR0_1.out HB.out)|(with_reducible refine Kd.C_alloc ?_ _)|(with_reducible refine Kd.C_drewN ?_ _)|(with_reducible refine Kd.C_drew ?_)));(case side2 => exact HC0_1.out);(case side3 => repeat (first|exact (Kd.C_below HR0_2.out HB.out)|(with_reducible refine Kd.C_alloc ?_ _)|(with_reducible refine Kd.C_drewN ?_ _)|(with_reducible refine Kd.C_drew ?_)));(case side4 => exact HC0_2.out);(case side5 => repeat (first|exact (Kd.C_below HR0_3.out HB.out)|(with_reducible refine Kd.C_alloc ?_ _)|(with_reducible refine Kd.C_drewN ?_ _)|(with_reducible refine Kd.C_drew ?_)));(case side6 => exact HC0_3.out);rintro e w13 ⟨rfl,hb⟩;refine ⟨_,rfl,?_⟩;have n0_:=Aside0.mk (blk_below (g:=gb143) (o:=.cells #[.int .i64 a0_0,.slice A0_1 l0_1.length c0_1,.slice A0_2 l0_2.length c0_2,.slice A0_3 l0_3.length c0_3] 33 (0,0)) (pe_ BK143.out) hb);have n1_:=Aside0.mk (blk_below (g:=gb144) (o:=.cells #[.int .i64 a1_0,.slice A1_1 l1_1.length c1_1] 35 (0,0)) (pe_ BK144.out) hb);have n2_:=Aside0.mk (below_step (be2_ HB.out GE143.out GE144.out) hb);clear BK143;clear BK144;clear HB;have BK143:=n0_;have BK144:=n1_;have HB:=n2_;clear n0_ n1_ n2_;(try clear hb);(try clear hb2);(try clear hk);(try clear hi);have hcz14_0 : w13.cell? ⟨gb144,0,none⟩ = some (.int .i64 a1_0):=(blk_cell BK144.out 0).trans rfl;have hcz14_1 : w13.cell? ⟨gb144,1,none⟩ = some (.slice A1_1 l1_1.length c1_1):=(blk_cell BK144.out 1).trans rfl;have hfz14_0:=blk_frozen BK144.out 0;have hfz14_1:=blk_frozen BK144.out 1)|(go_at_call 68;(with_reducible refine (spec_GradesValid.calls k a1_0 _ _ l1_1 true _ ?side1 ?side2 A5.out).mono ?_);(case side1 => repeat (first|exact (Kd.C_below HR1_1.out HB.out)|(with_reducible refine Kd.C_alloc ?_ _)|(with_reducible refine Kd.C_drewN ?_ _)|(with_reducible refine Kd.C_drew ?_)));(case side2 => exact HC1_1.out);rintro e w15 ⟨rfl,hb⟩;have n0_:=Aside0.mk (blk_below (g:=gb143) (o:=.cells #[.int .i64 a0_0,.slice A0_1 l0_1.length c0_1,.slice A0_2 l0_2.length c0_2,.slice A0_3 l0_3.length c0_3] 33 (0,0)) (pe_ BK143.out) hb);have n1_:=Aside0.mk (blk_below (g:=gb144) (o:=.cells #[.int .i64 a1_0,.slice A1_1 l1_1.length c1_1] 35 (0,0)) (pe_ BK144.out) hb);have n2_:=Aside0.mk (below_step (be2_ HB.out GE143.out GE144.out) hb);clear BK143;clear BK144;clear HB;have BK143:=n0_;have BK144:=n1_;have HB:=n2_;clear n0_ n1_ n2_;(try clear hb);(try clear hb2);(try clear hk);(try clear hi);have hcz16_0 : w15.cell? ⟨gb144,0,none⟩ = some (.int .i64 a1_0):=(blk_cell BK144.out 0).trans rfl;have hcz16_1 : w15.cell? ⟨gb144,1,none⟩ = some (.slice A1_1 l1_1.length c1_1):=(blk_cell BK144.out 1).trans rfl;have hfz16_0:=blk_frozen BK144.out 0;have hfz16_1:=blk_frozen BK144.out 1;have hcz17_0 : w15.cell? ⟨gb143,0,none⟩ = some (.int .i64 a0_0):=(blk_cell BK143.out 0).trans rfl;have hcz17_1 : w15.cell? ⟨gb143,1,none⟩ = some (.slice A0_1 l0_1.length c0_1):=(blk_cell BK143.out 1).trans rfl;have hcz17_2 : w15.cell? ⟨gb143,2,none⟩ = some (.slice A0_2 l0_2.length c0_2):=(blk_cell BK143.out 2).trans rfl;have hcz17_3 : w15.cell? ⟨gb143,3,none⟩ = some (.slice A0_3 l0_3.length c0_3):=(blk_cell BK143.out 3).trans rfl;have hfz17_0:=blk_frozen BK143.out 0;have hfz17_1:=blk_frozen BK143.out 1;have hfz17_2:=blk_frozen BK143.out 2;have hfz17_3:=blk_frozen BK143.out 3)|((with_reducible refine gate_callee (f:=69) rfl ?_);refine goesL_ (some 22) rfl rfl Try.func69 (by kernel_rfl) rfl #[.agg #[.int .i64 a0_0,.slice A0_1 l0_1.length c0_1,.slice A0_2 l0_2.length c0_2,.slice A0_3 l0_3.length c0_3],.agg #[.int .i64 a1_0,.slice A1_1 l1_1.length c1_1]] rfl lp_ ?_;(with_reducible refine (spec_l6Between.calls k a0_0 _ _ l0_1 _ _ l0_2 _ _ l0_3 a1_0 _ _ l1_1 t147 _ ?side1 ?side2 ?side3 ?side4 ?side5 ?side6 ?side7 ?side8 A8.out).mono ?_);(case side1 => repeat (first|exact (Kd.C_below HR0_1.out HB.out)|(with_reducible refine Kd.C_alloc ?_ _)|(with_reducible refine Kd.C_drewN ?_ _)|(with_reducible refine Kd.C_drew ?_)));(case side2 => exact HC0_1.out);(case side3 => repeat (first|exact (Kd.C_below HR0_2.out HB.out)|(with_reducible refine Kd.C_alloc ?_ _)|(with_reducible refine Kd.C_drewN ?_ _)|(with_reducible refine Kd.C_drew ?_)));(case side4 => exact HC0_2.out);(case side5 => repeat (first|exact (Kd.C_below HR0_3.out HB.out)|(with_reducible refine Kd.C_alloc ?_ _)|(with_reducible refine Kd.C_drewN ?_ _)|(with_reducible refine Kd.C_drew ?_)));(case side6 => exact HC0_3.out);(case side7 => repeat (first|exact (Kd.C_below HR1_1.out HB.out)|(with_reducible refine Kd.C_alloc ?_ _)|(with_reducible refine Kd.C_drewN ?_ _)|(with_reducible refine Kd.C_drew ?_)));(case side8 => exact HC1_1.out);rintro e w18 ⟨rfl,hb⟩;refine ⟨_,rfl,?_⟩;have n0_:=Aside0.mk (blk_below (g:=gb143) (o:=.cells #[.int .i64 a0_0,.slice A0_1 l0_1.length c0_1,.slice A0_2 l0_2.length c0_2,.slice A0_3 l0_3.length c0_3] 33 (0,0)) (pe_ BK143.out) hb);have n1_:=Aside0.mk (blk_below (g:=gb144) (o:=.cells #[.int .i64 a1_0,.slice A1_1 l1_1.length c1_1] 35 (0,0)) (pe_ BK144.out) hb);have n2_:=Aside0.mk (below_step (be2_ HB.out GE143.out GE144.out) hb);clear BK143;clear BK144;clear HB;have BK143:=n0_;have BK144:=n1_;have HB:=n2_;clear n0_ n1_ n2_;(try clear hb);(try clear hb2);(try clear hk);(try clear hi)))
    go_ret
    exact ⟨by first|rfl|(simp [errW_none,errW_some] <;> rfl)|(simp [*,errW_none,errW_some] <;> rfl),be2_ HB.out GE143.out GE144.out⟩
   ·rw [if_neg c7] at H
    have c7b0 : (a1_0 == a0_0) = false:=beq_eq_false_iff_ne.mpr c7
    have c7b1 : (a1_0 != a0_0) = true:=bne_iff_ne.mpr c7
    obtain rfl:=Option.some.inj H
    go_enter Try.func16,Try.ntmps16
    go_wp2_with (first|((with_reducible refine gate_dst (N:=2) rfl ?_);refine box_event ?hg (N:=2) ?hd (cs:=#[.int .i64 a0_0,.slice A0_1 l0_1.length c0_1,.slice A0_2 l0_2.length c0_2,.slice A0_3 l0_3.length c0_3]) (t:=33) ?hr ?_;(case hd => rfl);(case hg => rfl);(case hr => first|(go_simp;done)|(go_simp;rfl));intro gb143 hg w19 hbox hb;have n0_:=Aside0.mk (below_step (be0_ HB.out) hb);have n1_:=Aside0.mk (hbox);have n2_:=Aside0.mk ((by rw [hg];exact (below_size (be0_ HB.out)) : w.heap.size ≤ gb143));have n3_:=Aside0.mk ((by rw [hg];exact (below_size (be0_ HB.out)) : w.heap.size ≤ gb143));clear HB;have HB:=n0_;have BK143:=n1_;have GW143:=n2_;have GE143:=n3_;clear n0_ n1_ n2_ n3_;clear hb hbox hg)|((with_reducible refine gate_dst (N:=3) rfl ?_);refine box_event ?hg (N:=3) ?hd (cs:=#[.int .i64 a1_0,.slice A1_1 l1_1.length c1_1]) (t:=35) ?hr ?_;(case hd => rfl);(case hg => rfl);(case hr => first|(go_simp;done)|(go_simp;rfl));intro gb144 hg w20 hbox hb;have n0_:=Aside0.mk (blk_below (g:=gb143) (o:=.cells #[.int .i64 a0_0,.slice A0_1 l0_1.length c0_1,.slice A0_2 l0_2.length c0_2,.slice A0_3 l0_3.length c0_3] 33 (0,0)) (pe_ BK143.out) hb);have n1_:=Aside0.mk (below_step (be1_ HB.out GE143.out) hb);have n2_:=Aside0.mk (hbox);have n3_:=Aside0.mk ((by rw [hg];exact (below_size (be1_ HB.out GE143.out)) : w.heap.size ≤ gb144));have n4_:=Aside0.mk ((by rw [hg];exact (below_size (be1_ HB.out GE143.out)) : w.heap.size ≤ gb144));have n5_:=Aside0.mk ((by rw [hg];exact Nat.ne_of_lt (blk_lt (g:=gb143) (o:=.cells #[.int .i64 a0_0,.slice A0_1 l0_1.length c0_1,.slice A0_2 l0_2.length c0_2,.slice A0_3 l0_3.length c0_3] 33 (0,0)) (pe_ BK143.out)) : gb143 ≠ gb144));have n6_:=Aside0.mk ((by rw [hg];exact Nat.ne_of_gt (blk_lt (g:=gb143) (o:=.cells #[.int .i64 a0_0,.slice A0_1 l0_1.length c0_1,.slice A0_2 l0_2.length c0_2,.slice A0_3 l0_3.length c0_3] 33 (0,0)) (pe_ BK143.out)) : gb144 ≠ gb143));clear BK143;clear HB;have BK143:=n0_;have HB:=n1_;have BK144:=n2_;have GW144:=n3_;have GE144:=n4_;have NB143_144:=n5_;have NB144_143:=n6_;clear n0_ n1_ n2_ n3_ n4_ n5_ n6_;clear hb hbox hg;have hnb21:=NB143_144.out;have hnc21:=NB144_143.out;have hcz22_0 : w20.cell? ⟨gb143,0,none⟩ = some (.int .i64 a0_0):=(blk_cell BK143.out 0).trans rfl;have hcz22_1 : w20.cell? ⟨gb143,1,none⟩ = some (.slice A0_1 l0_1.length c0_1):=(blk_cell BK143.out 1).trans rfl;have hcz22_2 : w20.cell? ⟨gb143,2,none⟩ = some (.slice A0_2 l0_2.length c0_2):=(blk_cell BK143.out 2).trans rfl;have hcz22_3 : w20.cell? ⟨gb143,3,none⟩ = some (.slice A0_3 l0_3.length c0_3):=(blk_cell BK143.out 3).trans rfl;have hfz22_0:=blk_frozen BK143.out 0;have hfz22_1:=blk_frozen BK143.out 1;have hfz22_2:=blk_frozen BK143.out 2;have hfz22_3:=blk_frozen BK143.out 3)|((with_reducible refine gate_callee (f:=67) rfl ?_);refine goesL_ (some 6) rfl rfl Try.func67 (by kernel_rfl) rfl #[.agg #[.int .i64 a0_0,.slice A0_1 l0_1.length c0_1,.slice A0_2 l0_2.length c0_2,.slice A0_3 l0_3.length c0_3]] rfl lp_ ?_;(with_reducible refine (spec_AutomatonValid.calls k a0_0 _ _ l0_1 _ _ l0_2 _ _ l0_3 true _ ?side1 ?side2 ?side3 ?side4 ?side5 ?side6 A3.out).mono ?_);(case side1 => repeat (first|exact (Kd.C_below HR0_1.out HB.out)|(with_reducible refine Kd.C_alloc ?_ _)|(with_reducible refine Kd.C_drewN ?_ _)|(with_reducible refine Kd.C_drew ?_)));(case side2 => exact HC0_1.out);(case side3 => repeat (first|exact (Kd.C_below HR0_2.out HB.out)|(with_reducible refine Kd.C_alloc ?_ _)|(with_reducible refine Kd.C_drewN ?_ _)|(with_reducible refine Kd.C_drew ?_)));(case side4 => exact HC0_2.out);(case side5 => repeat (first|exact (Kd.C_below HR0_3.out HB.out)|(with_reducible refine Kd.C_alloc ?_ _)|(with_reducible refine Kd.C_drewN ?_ _)|(with_reducible refine Kd.C_drew ?_)));(case side6 => exact HC0_3.out);rintro e w23 ⟨rfl,hb⟩;refine ⟨_,rfl,?_⟩;have n0_:=Aside0.mk (blk_below (g:=gb143) (o:=.cells #[.int .i64 a0_0,.slice A0_1 l0_1.length c0_1,.slice A0_2 l0_2.length c0_2,.slice A0_3 l0_3.length c0_3] 33 (0,0)) (pe_ BK143.out) hb);have n1_:=Aside0.mk (blk_below (g:=gb144) (o:=.cells #[.int .i64 a1_0,.slice A1_1 l1_1.length c1_1] 35 (0,0)) (pe_ BK144.out) hb);have n2_:=Aside0.mk (below_step (be2_ HB.out GE143.out GE144.out) hb);clear BK143;clear BK144;clear HB;have BK143:=n0_;have BK144:=n1_;have HB:=n2_;clear n0_ n1_ n2_;(try clear hb);(try clear hb2);(try clear hk);(try clear hi);have hcz24_0 : w23.cell? ⟨gb144,0,none⟩ = some (.int .i64 a1_0):=(blk_cell BK144.out 0).trans rfl;have hcz24_1 : w23.cell? ⟨gb144,1,none⟩ = some (.slice A1_1 l1_1.length c1_1):=(blk_cell BK144.out 1).trans rfl;have hfz24_0:=blk_frozen BK144.out 0;have hfz24_1:=blk_frozen BK144.out 1)|(go_at_call 68;(with_reducible refine (spec_GradesValid.calls k a1_0 _ _ l1_1 true _ ?side1 ?side2 A5.out).mono ?_);(case side1 => repeat (first|exact (Kd.C_below HR1_1.out HB.out)|(with_reducible refine Kd.C_alloc ?_ _)|(with_reducible refine Kd.C_drewN ?_ _)|(with_reducible refine Kd.C_drew ?_)));(case side2 => exact HC1_1.out);rintro e w25 ⟨rfl,hb⟩;have n0_:=Aside0.mk (blk_below (g:=gb143) (o:=.cells #[.int .i64 a0_0,.slice A0_1 l0_1.length c0_1,.slice A0_2 l0_2.length c0_2,.slice A0_3 l0_3.length c0_3] 33 (0,0)) (pe_ BK143.out) hb);have n1_:=Aside0.mk (blk_below (g:=gb144) (o:=.cells #[.int .i64 a1_0,.slice A1_1 l1_1.length c1_1] 35 (0,0)) (pe_ BK144.out) hb);have n2_:=Aside0.mk (below_step (be2_ HB.out GE143.out GE144.out) hb);clear BK143;clear BK144;clear HB;have BK143:=n0_;have BK144:=n1_;have HB:=n2_;clear n0_ n1_ n2_;(try clear hb);(try clear hb2);(try clear hk);(try clear hi);have hcz26_0 : w25.cell? ⟨gb144,0,none⟩ = some (.int .i64 a1_0):=(blk_cell BK144.out 0).trans rfl;have hcz26_1 : w25.cell? ⟨gb144,1,none⟩ = some (.slice A1_1 l1_1.length c1_1):=(blk_cell BK144.out 1).trans rfl;have hfz26_0:=blk_frozen BK144.out 0;have hfz26_1:=blk_frozen BK144.out 1;have hcz27_0 : w25.cell? ⟨gb143,0,none⟩ = some (.int .i64 a0_0):=(blk_cell BK143.out 0).trans rfl;have hcz27_1 : w25.cell? ⟨gb143,1,none⟩ = some (.slice A0_1 l0_1.length c0_1):=(blk_cell BK143.out 1).trans rfl;have hcz27_2 : w25.cell? ⟨gb143,2,none⟩ = some (.slice A0_2 l0_2.length c0_2):=(blk_cell BK143.out 2).trans rfl;have hcz27_3 : w25.cell? ⟨gb143,3,none⟩ = some (.slice A0_3 l0_3.length c0_3):=(blk_cell BK143.out 3).trans rfl;have hfz27_0:=blk_frozen BK143.out 0;have hfz27_1:=blk_frozen BK143.out 1;have hfz27_2:=blk_frozen BK143.out 2;have hfz27_3:=blk_frozen BK143.out 3))
    go_ret
    exact ⟨by first|rfl|(simp [errW_none,errW_some] <;> rfl)|(simp [*,errW_none,errW_some] <;> rfl),be2_ HB.out GE143.out GE144.out⟩
  ·replace c6:=Bool.eq_false_iff.mpr c6
   subst c6
   have H1 : (some (-1)) = some r:=by rw [if_neg (show ¬ (false = true) by decide)] at H;exact H
   clear H
   have H:=H1
   clear H1
   obtain rfl:=Option.some.inj H
   go_enter Try.func16,Try.ntmps16
   go_wp2_with (first|((with_reducible refine gate_dst (N:=2) rfl ?_);refine box_event ?hg (N:=2) ?hd (cs:=#[.int .i64 a0_0,.slice A0_1 l0_1.length c0_1,.slice A0_2 l0_2.length c0_2,.slice A0_3 l0_3.length c0_3]) (t:=33) ?hr ?_;(case hd => rfl);(case hg => rfl);(case hr => first|(go_simp;done)|(go_simp;rfl));intro gb143 hg w28 hbox hb;have n0_:=Aside0.mk (below_step (be0_ HB.out) hb);have n1_:=Aside0.mk (hbox);have n2_:=Aside0.mk ((by rw [hg];exact (below_size (be0_ HB.out)) : w.heap.size ≤ gb143));have n3_:=Aside0.mk ((by rw [hg];exact (below_size (be0_ HB.out)) : w.heap.size ≤ gb143));clear HB;have HB:=n0_;have BK143:=n1_;have GW143:=n2_;have GE143:=n3_;clear n0_ n1_ n2_ n3_;clear hb hbox hg)|((with_reducible refine gate_dst (N:=3) rfl ?_);refine box_event ?hg (N:=3) ?hd (cs:=#[.int .i64 a1_0,.slice A1_1 l1_1.length c1_1]) (t:=35) ?hr ?_;(case hd => rfl);(case hg => rfl);(case hr => first|(go_simp;done)|(go_simp;rfl));intro gb144 hg w29 hbox hb;have n0_:=Aside0.mk (blk_below (g:=gb143) (o:=.cells #[.int .i64 a0_0,.slice A0_1 l0_1.length c0_1,.slice A0_2 l0_2.length c0_2,.slice A0_3 l0_3.length c0_3] 33 (0,0)) (pe_ BK143.out) hb);have n1_:=Aside0.mk (below_step (be1_ HB.out GE143.out) hb);have n2_:=Aside0.mk (hbox);have n3_:=Aside0.mk ((by rw [hg];exact (below_size (be1_ HB.out GE143.out)) : w.heap.size ≤ gb144));have n4_:=Aside0.mk ((by rw [hg];exact (below_size (be1_ HB.out GE143.out)) : w.heap.size ≤ gb144));have n5_:=Aside0.mk ((by rw [hg];exact Nat.ne_of_lt (blk_lt (g:=gb143) (o:=.cells #[.int .i64 a0_0,.slice A0_1 l0_1.length c0_1,.slice A0_2 l0_2.length c0_2,.slice A0_3 l0_3.length c0_3] 33 (0,0)) (pe_ BK143.out)) : gb143 ≠ gb144));have n6_:=Aside0.mk ((by rw [hg];exact Nat.ne_of_gt (blk_lt (g:=gb143) (o:=.cells #[.int .i64 a0_0,.slice A0_1 l0_1.length c0_1,.slice A0_2 l0_2.length c0_2,.slice A0_3 l0_3.length c0_3] 33 (0,0)) (pe_ BK143.out)) : gb144 ≠ gb143));clear BK143;clear HB;have BK143:=n0_;have HB:=n1_;have BK144:=n2_;have GW144:=n3_;have GE144:=n4_;have NB143_144:=n5_;have NB144_143:=n6_;clear n0_ n1_ n2_ n3_ n4_ n5_ n6_;clear hb hbox hg;have hnb30:=NB143_144.out;have hnc30:=NB144_143.out;have hcz31_0 : w29.cell? ⟨gb143,0,none⟩ = some (.int .i64 a0_0):=(blk_cell BK143.out 0).trans rfl;have hcz31_1 : w29.cell? ⟨gb143,1,none⟩ = some (.slice A0_1 l0_1.length c0_1):=(blk_cell BK143.out 1).trans rfl;have hcz31_2 : w29.cell? ⟨gb143,2,none⟩ = some (.slice A0_2 l0_2.length c0_2):=(blk_cell BK143.out 2).trans rfl;have hcz31_3 : w29.cell? ⟨gb143,3,none⟩ = some (.slice A0_3 l0_3.length c0_3):=(blk_cell BK143.out 3).trans rfl;have hfz31_0:=blk_frozen BK143.out 0;have hfz31_1:=blk_frozen BK143.out 1;have hfz31_2:=blk_frozen BK143.out 2;have hfz31_3:=blk_frozen BK143.out 3)|((with_reducible refine gate_callee (f:=67) rfl ?_);refine goesL_ (some 6) rfl rfl Try.func67 (by kernel_rfl) rfl #[.agg #[.int .i64 a0_0,.slice A0_1 l0_1.length c0_1,.slice A0_2 l0_2.length c0_2,.slice A0_3 l0_3.length c0_3]] rfl lp_ ?_;(with_reducible refine (spec_AutomatonValid.calls k a0_0 _ _ l0_1 _ _ l0_2 _ _ l0_3 true _ ?side1 ?side2 ?side3 ?side4 ?side5 ?side6 A3.out).mono ?_);(case side1 => repeat (first|exact (Kd.C_below HR0_1.out HB.out)|(with_reducible refine Kd.C_alloc ?_ _)|(with_reducible refine Kd.C_drewN ?_ _)|(with_reducible refine Kd.C_drew ?_)));(case side2 => exact HC0_1.out);(case side3 => repeat (first|exact (Kd.C_below HR0_2.out HB.out)|(with_reducible refine Kd.C_alloc ?_ _)|(with_reducible refine Kd.C_drewN ?_ _)|(with_reducible refine Kd.C_drew ?_)));(case side4 => exact HC0_2.out);(case side5 => repeat (first|exact (Kd.C_below HR0_3.out HB.out)|(with_reducible refine Kd.C_alloc ?_ _)|(with_reducible refine Kd.C_drewN ?_ _)|(with_reducible refine Kd.C_drew ?_)));(case side6 => exact HC0_3.out);rintro e w32 ⟨rfl,hb⟩;refine ⟨_,rfl,?_⟩;have n0_:=Aside0.mk (blk_below (g:=gb143) (o:=.cells #[.int .i64 a0_0,.slice A0_1 l0_1.length c0_1,.slice A0_2 l0_2.length c0_2,.slice A0_3 l0_3.length c0_3] 33 (0,0)) (pe_ BK143.out) hb);have n1_:=Aside0.mk (blk_below (g:=gb144) (o:=.cells #[.int .i64 a1_0,.slice A1_1 l1_1.length c1_1] 35 (0,0)) (pe_ BK144.out) hb);have n2_:=Aside0.mk (below_step (be2_ HB.out GE143.out GE144.out) hb);clear BK143;clear BK144;clear HB;have BK143:=n0_;have BK144:=n1_;have HB:=n2_;clear n0_ n1_ n2_;(try clear hb);(try clear hb2);(try clear hk);(try clear hi);have hcz33_0 : w32.cell? ⟨gb144,0,none⟩ = some (.int .i64 a1_0):=(blk_cell BK144.out 0).trans rfl;have hcz33_1 : w32.cell? ⟨gb144,1,none⟩ = some (.slice A1_1 l1_1.length c1_1):=(blk_cell BK144.out 1).trans rfl;have hfz33_0:=blk_frozen BK144.out 0;have hfz33_1:=blk_frozen BK144.out 1)|(go_at_call 68;(with_reducible refine (spec_GradesValid.calls k a1_0 _ _ l1_1 false _ ?side1 ?side2 A5.out).mono ?_);(case side1 => repeat (first|exact (Kd.C_below HR1_1.out HB.out)|(with_reducible refine Kd.C_alloc ?_ _)|(with_reducible refine Kd.C_drewN ?_ _)|(with_reducible refine Kd.C_drew ?_)));(case side2 => exact HC1_1.out);rintro e w34 ⟨rfl,hb⟩;have n0_:=Aside0.mk (blk_below (g:=gb143) (o:=.cells #[.int .i64 a0_0,.slice A0_1 l0_1.length c0_1,.slice A0_2 l0_2.length c0_2,.slice A0_3 l0_3.length c0_3] 33 (0,0)) (pe_ BK143.out) hb);have n1_:=Aside0.mk (blk_below (g:=gb144) (o:=.cells #[.int .i64 a1_0,.slice A1_1 l1_1.length c1_1] 35 (0,0)) (pe_ BK144.out) hb);have n2_:=Aside0.mk (below_step (be2_ HB.out GE143.out GE144.out) hb);clear BK143;clear BK144;clear HB;have BK143:=n0_;have BK144:=n1_;have HB:=n2_;clear n0_ n1_ n2_;(try clear hb);(try clear hb2);(try clear hk);(try clear hi)))
   go_ret
   exact ⟨by first|rfl|(simp [errW_none,errW_some] <;> rfl)|(simp [*,errW_none,errW_some] <;> rfl),be2_ HB.out GE143.out GE144.out⟩
 ·replace c4:=Bool.eq_false_iff.mpr c4
  subst c4
  have H1 : (some (-1)) = some r:=by rw [if_neg (show ¬ (false = true) by decide)] at H;exact H
  clear H
  have H:=H1
  clear H1
  obtain rfl:=Option.some.inj H
  go_enter Try.func16,Try.ntmps16
  go_wp2_with (first|((with_reducible refine gate_dst (N:=2) rfl ?_);refine box_event ?hg (N:=2) ?hd (cs:=#[.int .i64 a0_0,.slice A0_1 l0_1.length c0_1,.slice A0_2 l0_2.length c0_2,.slice A0_3 l0_3.length c0_3]) (t:=33) ?hr ?_;(case hd => rfl);(case hg => rfl);(case hr => first|(go_simp;done)|(go_simp;rfl));intro gb143 hg w35 hbox hb;have n0_:=Aside0.mk (below_step (be0_ HB.out) hb);have n1_:=Aside0.mk (hbox);have n2_:=Aside0.mk ((by rw [hg];exact (below_size (be0_ HB.out)) : w.heap.size ≤ gb143));have n3_:=Aside0.mk ((by rw [hg];exact (below_size (be0_ HB.out)) : w.heap.size ≤ gb143));clear HB;have HB:=n0_;have BK143:=n1_;have GW143:=n2_;have GE143:=n3_;clear n0_ n1_ n2_ n3_;clear hb hbox hg)|((with_reducible refine gate_dst (N:=3) rfl ?_);refine box_event ?hg (N:=3) ?hd (cs:=#[.int .i64 a1_0,.slice A1_1 l1_1.length c1_1]) (t:=35) ?hr ?_;(case hd => rfl);(case hg => rfl);(case hr => first|(go_simp;done)|(go_simp;rfl));intro gb144 hg w36 hbox hb;have n0_:=Aside0.mk (blk_below (g:=gb143) (o:=.cells #[.int .i64 a0_0,.slice A0_1 l0_1.length c0_1,.slice A0_2 l0_2.length c0_2,.slice A0_3 l0_3.length c0_3] 33 (0,0)) (pe_ BK143.out) hb);have n1_:=Aside0.mk (below_step (be1_ HB.out GE143.out) hb);have n2_:=Aside0.mk (hbox);have n3_:=Aside0.mk ((by rw [hg];exact (below_size (be1_ HB.out GE143.out)) : w.heap.size ≤ gb144));have n4_:=Aside0.mk ((by rw [hg];exact (below_size (be1_ HB.out GE143.out)) : w.heap.size ≤ gb144));have n5_:=Aside0.mk ((by rw [hg];exact Nat.ne_of_lt (blk_lt (g:=gb143) (o:=.cells #[.int .i64 a0_0,.slice A0_1 l0_1.length c0_1,.slice A0_2 l0_2.length c0_2,.slice A0_3 l0_3.length c0_3] 33 (0,0)) (pe_ BK143.out)) : gb143 ≠ gb144));have n6_:=Aside0.mk ((by rw [hg];exact Nat.ne_of_gt (blk_lt (g:=gb143) (o:=.cells #[.int .i64 a0_0,.slice A0_1 l0_1.length c0_1,.slice A0_2 l0_2.length c0_2,.slice A0_3 l0_3.length c0_3] 33 (0,0)) (pe_ BK143.out)) : gb144 ≠ gb143));clear BK143;clear HB;have BK143:=n0_;have HB:=n1_;have BK144:=n2_;have GW144:=n3_;have GE144:=n4_;have NB143_144:=n5_;have NB144_143:=n6_;clear n0_ n1_ n2_ n3_ n4_ n5_ n6_;clear hb hbox hg;have hnb37:=NB143_144.out;have hnc37:=NB144_143.out;have hcz38_0 : w36.cell? ⟨gb143,0,none⟩ = some (.int .i64 a0_0):=(blk_cell BK143.out 0).trans rfl;have hcz38_1 : w36.cell? ⟨gb143,1,none⟩ = some (.slice A0_1 l0_1.length c0_1):=(blk_cell BK143.out 1).trans rfl;have hcz38_2 : w36.cell? ⟨gb143,2,none⟩ = some (.slice A0_2 l0_2.length c0_2):=(blk_cell BK143.out 2).trans rfl;have hcz38_3 : w36.cell? ⟨gb143,3,none⟩ = some (.slice A0_3 l0_3.length c0_3):=(blk_cell BK143.out 3).trans rfl;have hfz38_0:=blk_frozen BK143.out 0;have hfz38_1:=blk_frozen BK143.out 1;have hfz38_2:=blk_frozen BK143.out 2;have hfz38_3:=blk_frozen BK143.out 3)|((with_reducible refine gate_callee (f:=67) rfl ?_);refine goesL_ (some 6) rfl rfl Try.func67 (by kernel_rfl) rfl #[.agg #[.int .i64 a0_0,.slice A0_1 l0_1.length c0_1,.slice A0_2 l0_2.length c0_2,.slice A0_3 l0_3.length c0_3]] rfl lp_ ?_;(with_reducible refine (spec_AutomatonValid.calls k a0_0 _ _ l0_1 _ _ l0_2 _ _ l0_3 false _ ?side1 ?side2 ?side3 ?side4 ?side5 ?side6 A3.out).mono ?_);(case side1 => repeat (first|exact (Kd.C_below HR0_1.out HB.out)|(with_reducible refine Kd.C_alloc ?_ _)|(with_reducible refine Kd.C_drewN ?_ _)|(with_reducible refine Kd.C_drew ?_)));(case side2 => exact HC0_1.out);(case side3 => repeat (first|exact (Kd.C_below HR0_2.out HB.out)|(with_reducible refine Kd.C_alloc ?_ _)|(with_reducible refine Kd.C_drewN ?_ _)|(with_reducible refine Kd.C_drew ?_)));(case side4 => exact HC0_2.out);(case side5 => repeat (first|exact (Kd.C_below HR0_3.out HB.out)|(with_reducible refine Kd.C_alloc ?_ _)|(with_reducible refine Kd.C_drewN ?_ _)|(with_reducible refine Kd.C_drew ?_)));(case side6 => exact HC0_3.out);rintro e w39 ⟨rfl,hb⟩;refine ⟨_,rfl,?_⟩;have n0_:=Aside0.mk (blk_below (g:=gb143) (o:=.cells #[.int .i64 a0_0,.slice A0_1 l0_1.length c0_1,.slice A0_2 l0_2.length c0_2,.slice A0_3 l0_3.length c0_3] 33 (0,0)) (pe_ BK143.out) hb);have n1_:=Aside0.mk (blk_below (g:=gb144) (o:=.cells #[.int .i64 a1_0,.slice A1_1 l1_1.length c1_1] 35 (0,0)) (pe_ BK144.out) hb);have n2_:=Aside0.mk (below_step (be2_ HB.out GE143.out GE144.out) hb);clear BK143;clear BK144;clear HB;have BK143:=n0_;have BK144:=n1_;have HB:=n2_;clear n0_ n1_ n2_;(try clear hb);(try clear hb2);(try clear hk);(try clear hi)))
  go_ret
  exact ⟨by first|rfl|(simp [errW_none,errW_some] <;> rfl)|(simp [*,errW_none,errW_some] <;> rfl),be2_ HB.out GE143.out GE144.out⟩
end Go.Proofs.Ytfmbpoojpnoafaa.X
end
