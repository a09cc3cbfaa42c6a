import Derived.Test.YtengegdaiphfeaaKFnMulGrades1
section
namespace Go.Proofs.Ytengegdaiphfeaa.X
open Go.RowKit Go.Proofs.YtengegdaiphfeaaW.PrintWords Go.Proofs.YtengegdaiphfeaaW.PrintLast Go.Proofs.YtengegdaiphfeaaW.PrintMore
attribute [local go_sem] max2_int min2_int max_two min_two max_three min_three max_four min_four
set_option linter.unusedVariables false
set_option linter.unusedSimpArgs false
def spec_GradesValid.l0 : Nat → List Int → Int → Int → Int → List Int → Option (Bool)
 | 0,_,_,_,_,_ => none
 | k + 1,x6,x7,x8,x270000,x270001 => if x8 < x7 then (if 0 ≤ x8 then (if x8 < (x6.length : Int) then ((spec_l1In.f (rd x6 x8) 0 3).bind fun t271 => (if t271 = true then (spec_GradesValid.l0 k x6 x7 (wrap64 (x8 + 1)) x270000 x270001) else (some false))) else (none)) else (none)) else ((spec_MatrixValid.f k x270000 x270001).bind fun t272 => (some t272))
def spec_GradesValid.f (k : Nat) (a0_0 : Int) (l0_1 : List Int) : Option (Bool):=spec_GradesValid.l0 k l0_1 (l0_1.length : Int) 0 a0_0 l0_1
theorem spec_GradesValid.mono_l : ∀ k,(∀ y0 y1 y2 y3 y4,LeO (spec_GradesValid.l0 k y0 y1 y2 y3 y4) (spec_GradesValid.l0 (k + 1) y0 y1 y2 y3 y4))
 | 0 => fun _ _ _ _ _ r h => by simp [spec_GradesValid.l0] at h
 | k + 1 => by
  have ih0:=spec_GradesValid.mono_l k
  ·intro y0 y1 y2 y3 y4
   unfold spec_GradesValid.l0
   repeat' first
   | (with_reducible exact ih0 _ _ _ _ _)
   | (with_reducible exact spec_MatrixValid.mono _ _ _)
   | (with_reducible exact LeO.refl _)
   | (with_reducible exact LeO.none _)
   | (with_reducible refine LeO.ite ?_ ?_)
   | (with_reducible refine LeO.bind ?_ (fun _ => ?_))
   | exact ih0 _ _ _ _ _
   | exact spec_MatrixValid.mono _ _ _
   | exact LeO.none _
   | refine LeO.ite ?_ ?_
   | refine LeO.bind ?_ (fun _ => ?_)
theorem spec_GradesValid.mono : ∀ a0 a1 k,LeO (spec_GradesValid.f k a0 a1) (spec_GradesValid.f (k + 1) a0 a1):=by
 intro a0 a1 k
 have ih0:=spec_GradesValid.mono_l k
 unfold spec_GradesValid.f
 repeat' first
   | (with_reducible exact ih0 _ _ _ _ _)
   | (with_reducible exact spec_MatrixValid.mono _ _ _)
   | (with_reducible exact LeO.refl _)
   | (with_reducible exact LeO.none _)
   | (with_reducible refine LeO.ite ?_ ?_)
   | (with_reducible refine LeO.bind ?_ (fun _ => ?_))
   | exact ih0 _ _ _ _ _
   | exact spec_MatrixValid.mono _ _ _
   | exact LeO.none _
   | refine LeO.ite ?_ ?_
   | refine LeO.bind ?_ (fun _ => ?_)
set_option maxHeartbeats 8000000 in
set_option maxRecDepth 100000 in
theorem spec_GradesValid.calls (k : Nat) (a0_0 : Int) (A0_1 : Option Addr) (c0_1 : Nat) (l0_1 : List Int) (r : Bool) (w : World) (hr0_1 : Kd.C (Kd.int .i64) w A0_1 l0_1.length l0_1) (hc0_1 : l0_1.length ≤ c0_1) (h : spec_GradesValid.f k a0_0 l0_1 = some r) :
  Calls Try.prog 65 #[.agg #[.int .i64 a0_0,.slice A0_1 l0_1.length c0_1]] w fun e w' => e = .returned (.bool r) ∧ Below w.heap.size w w':=by
 have hu28:=Try.underlying28
 have HR0_1:=Aside0.mk hr0_1
 have HC0_1:=Aside0.mk hc0_1
 clear hr0_1 hc0_1
 have HB:=Aside0.mk (Below.refl w.heap.size w)
 have H : (spec_GradesValid.l0 k l0_1 (l0_1.length : Int) 0 a0_0 l0_1) = some r:=h
 clear h
 have H':=Aside0.mk H
 clear H
 go_enter Try.func65,Try.ntmps65
 go_wp2_with (first|((with_reducible refine gate_dst (N:=1) rfl ?_);refine box_event ?hg (N:=1) ?hd (cs:=#[.int .i64 a0_0,.slice A0_1 l0_1.length c0_1]) (t:=28) ?hr ?_;(case hd => rfl);(case hg => rfl);(case hr => first|(go_simp;done)|(go_simp;rfl));intro gb269 hg w2 hbox hb;have n0_:=Aside0.mk (below_step (be0_ HB.out) hb);have n1_:=Aside0.mk (hbox);have n2_:=Aside0.mk ((by rw [hg];exact (below_size (be0_ HB.out)) : w.heap.size ≤ gb269));have n3_:=Aside0.mk ((by rw [hg];exact (below_size (be0_ HB.out)) : w.heap.size ≤ gb269));clear HB;have HB:=n0_;have BK269:=n1_;have GW269:=n2_;have GE269:=n3_;clear n0_ n1_ n2_ n3_;clear hb hbox hg;have hcz3_0 : w2.cell? ⟨gb269,0,none⟩ = some (.int .i64 a0_0):=(blk_cell BK269.out 0).trans rfl;have hcz3_1 : w2.cell? ⟨gb269,1,none⟩ = some (.slice A0_1 l0_1.length c0_1):=(blk_cell BK269.out 1).trans rfl;have hfz3_0:=blk_frozen BK269.out 0;have hfz3_1:=blk_frozen BK269.out 1))
 go_loopg [8] k (fun kq v8 w' => ∃ (x8_1 : Int),v8 = .int .i64 x8_1 ∧ Aside0 (spec_GradesValid.l0 kq l0_1 (l0_1.length : Int) x8_1 a0_0 l0_1 = some r) ∧ Aside0 (kq ≤ k) ∧ Aside0 (w'.heap[gb269]? = some (.cells #[.int .i64 a0_0,(.slice A0_1 l0_1.length c0_1)] 28 (0,0))) ∧ Aside0 (Below w.heap.size w w'))
 case atStart => exact ⟨(0),(by first|rfl|(simp;done)|(simp [*];done)),H',⟨Nat.le_refl _⟩,⟨pe_ BK269.out⟩,⟨be1_ HB.out GE269.out⟩⟩
 case round =>
  clear H'
  try clear p2
  try clear hcz3_0
  try clear hcz3_1
  try clear hfz3_0
  try clear hfz3_1
  obtain ⟨x8_1,rfl,HA,HK1,BK269,HB⟩:=hrel
  cases gk with
  | zero => exact absurd HA.out (by simp [spec_GradesValid.l0])
  | succ k1 =>
   have H:=HA.out
   clear HA
   simp only [spec_GradesValid.l0] at H
   by_cases c4 : x8_1 < (l0_1.length : Int)
   ·rw [if_pos c4] at H
    have c4b0 : decide (x8_1 < (l0_1.length : Int)) = true:=decide_eq_true c4
    clear c4
    by_cases c5 : 0 ≤ x8_1
    ·rw [if_pos c5] at H
     have c5b0 : decide (0 ≤ x8_1) = true:=decide_eq_true c5
     clear c5
     by_cases c6 : x8_1 < (l0_1.length : Int)
     ·rw [if_pos c6] at H
      have c6b0 : decide (x8_1 < (l0_1.length : Int)) = true:=decide_eq_true c6
      clear c6
      replace H:=Option.bind_eq_some_iff.mp H
      obtain ⟨t271,A70,H⟩:=H
      replace H : (if t271 = true then (spec_GradesValid.l0 k1 l0_1 (l0_1.length : Int) (wrap64 (x8_1 + 1)) a0_0 l0_1) else (some false)) = some r:=H
      have A7:=Aside0.mk A70
      clear A70
      by_cases c8 : t271 = true
      ·subst c8
       have H1 : (spec_GradesValid.l0 k1 l0_1 (l0_1.length : Int) (wrap64 (x8_1 + 1)) a0_0 l0_1) = some r:=by rw [if_pos rfl] at H;exact H
       clear H
       have H:=H1
       clear H1
       have H':=Aside0.mk H
       clear H
       have p270 : 0 ≤ (x8_1 : Int):=of_decide_eq_true (by first|(with_reducible assumption)|assumption)
       have q270 : x8_1 < (l0_1.length : Int):=of_decide_eq_true (by first|(with_reducible assumption)|assumption)
       obtain ⟨ad270,e270,hx270_0⟩:=Kd.at_int HR0_1.out x8_1 p270 q270
       cases e270
       replace hx270_0:=(HB.out.cell (World.block_lt_of_cell? w _ hx270_0)).trans hx270_0
       replace p270:=eq_true p270
       replace q270:=eq_true q270
       go_wp2_with (first|((with_reducible refine gate_callee (f:=97) rfl ?_);refine goesL_ (some 13) rfl rfl Try.func97 (by kernel_rfl) rfl #[.int .i64 (rd l0_1 x8_1),.int .i64 0,.int .i64 3] rfl lp_ ?_;(with_reducible refine (spec_l1In.calls (rd l0_1 x8_1) 0 3 true _ A7.out).mono ?_);rintro e w' ⟨rfl,⟨nd,rfl⟩⟩;refine ⟨_,rfl,?_⟩))
       go_roundg k1
       case measure => have:=HK1.out;omega
       case rel => exact ⟨(wrap64 (x8_1 + 1)),(by first|rfl|(simp;done)|(simp [*];done)),H',⟨by have:=HK1.out;omega⟩,⟨pe_ BK269.out⟩,⟨be1_ HB.out GE269.out⟩⟩
      ·replace c8:=Bool.eq_false_iff.mpr c8
       subst c8
       have H1 : (some false) = some r:=by rw [if_neg (show ¬ (false = true) by decide)] at H;exact H
       clear H
       have H:=H1
       clear H1
       obtain rfl:=Option.some.inj H
       have p270 : 0 ≤ (x8_1 : Int):=of_decide_eq_true (by first|(with_reducible assumption)|assumption)
       have q270 : x8_1 < (l0_1.length : Int):=of_decide_eq_true (by first|(with_reducible assumption)|assumption)
       obtain ⟨ad270,e270,hx270_0⟩:=Kd.at_int HR0_1.out x8_1 p270 q270
       cases e270
       replace hx270_0:=(HB.out.cell (World.block_lt_of_cell? w _ hx270_0)).trans hx270_0
       replace p270:=eq_true p270
       replace q270:=eq_true q270
       go_wp2_with (first|((with_reducible refine gate_callee (f:=97) rfl ?_);refine goesL_ (some 13) rfl rfl Try.func97 (by kernel_rfl) rfl #[.int .i64 (rd l0_1 x8_1),.int .i64 0,.int .i64 3] rfl lp_ ?_;(with_reducible refine (spec_l1In.calls (rd l0_1 x8_1) 0 3 false _ A7.out).mono ?_);rintro e w' ⟨rfl,⟨nd,rfl⟩⟩;refine ⟨_,rfl,?_⟩))
       go_ret
       exact ⟨by first|rfl|(simp [errW_none,errW_some] <;> rfl)|(simp [*,errW_none,errW_some] <;> rfl),be1_ HB.out GE269.out⟩
     ·rw [if_neg c6] at H
      exact absurd H (by simp)
    ·rw [if_neg c5] at H
     exact absurd H (by simp)
   ·rw [if_neg c4] at H
    have c4b0 : decide (x8_1 < (l0_1.length : Int)) = false:=decide_eq_false c4
    clear c4
    replace H:=Option.bind_eq_some_iff.mp H
    obtain ⟨t272,A90,H⟩:=H
    replace H : (some t272) = some r:=H
    have A9:=Aside0.mk A90
    clear A90
    obtain rfl:=Option.some.inj H
    have hcz10_0 : wr.cell? ⟨gb269,0,none⟩ = some (.int .i64 a0_0):=(blk_cell BK269.out 0).trans rfl
    have hcz10_1 : wr.cell? ⟨gb269,1,none⟩ = some (.slice A0_1 l0_1.length c0_1):=(blk_cell BK269.out 1).trans rfl
    have hfz10_0:=blk_frozen BK269.out 0
    have hfz10_1:=blk_frozen BK269.out 1
    go_wp2_with (first|((with_reducible refine gate_callee (f:=55) rfl ?_);refine goesL_ (some 17) rfl rfl Try.func55 (by kernel_rfl) rfl #[.agg #[.int .i64 a0_0,.slice A0_1 l0_1.length c0_1]] rfl lp_ ?_;(with_reducible refine (spec_MatrixValid.calls k1 a0_0 _ _ l0_1 t272 _ ?side1 ?side2 A9.out).mono ?_);(case side1 => repeat (first|exact (Kd.C_below HR0_1.out HB.out)|(with_reducible refine Kd.C_alloc ?_ _)|(with_reducible refine Kd.C_drewN ?_ _)|(with_reducible refine Kd.C_drew ?_)));(case side2 => exact HC0_1.out);rintro e w11 ⟨rfl,hb⟩;refine ⟨_,rfl,?_⟩;have n0_:=Aside0.mk (blk_below (g:=gb269) (o:=.cells #[.int .i64 a0_0,.slice A0_1 l0_1.length c0_1] 28 (0,0)) (pe_ BK269.out) hb);have n1_:=Aside0.mk (below_step (be1_ HB.out GE269.out) hb);clear BK269;clear HB;have BK269:=n0_;have HB:=n1_;clear n0_ n1_;(try clear hb);(try clear hb2);(try clear hk);(try clear hi)))
    go_ret
    exact ⟨by first|rfl|(simp [errW_none,errW_some] <;> rfl)|(simp [*,errW_none,errW_some] <;> rfl),be1_ HB.out GE269.out⟩
end Go.Proofs.Ytengegdaiphfeaa.X
end
section
namespace Go.Proofs.Ytengegdaiphfeaa.X
open Go.RowKit Go.Proofs.YtengegdaiphfeaaW.PrintWords Go.Proofs.YtengegdaiphfeaaW.PrintLast Go.Proofs.YtengegdaiphfeaaW.PrintMore
attribute [local go_sem] max2_int min2_int max_two min_two max_three min_three max_four min_four
set_option linter.unusedVariables false
set_option linter.unusedSimpArgs false
def spec_l13OwnMatrix.f (a0_0 : Int) (l0_1 : List Int) : Option (Int × List Int):=(some (([] : List Int) : List Int)).bind fun y498 => (if y498.length + l0_1.length < 17592186044416 then (some (a0_0,(y498 ++ l0_1))) else (none))
set_option maxHeartbeats 8000000 in
set_option maxRecDepth 100000 in
theorem spec_l13OwnMatrix.calls (a0_0 : Int) (A0_1 : Option Addr) (c0_1 : Nat) (l0_1 : List Int) (r1 : Int) (r2 : List Int) (w : World) (hr0_1 : Kd.C (Kd.int .i64) w A0_1 l0_1.length l0_1) (hc0_1 : l0_1.length ≤ c0_1) (h : spec_l13OwnMatrix.f a0_0 l0_1 = some (r1,r2)) :
  Calls Try.prog 72 #[.agg #[.int .i64 a0_0,.slice A0_1 l0_1.length c0_1]] w fun e w' => ∃ v1_ : Value,e = .returned (.agg #[.int .i64 r1,v1_]) ∧ Kd.R (Kd.int .i64) 3 w' w.heap.size (fun _ => True) v1_ r2 ∧ Below w.heap.size w w':=by
 have hu28:=Try.underlying28
 have HR0_1:=Aside0.mk hr0_1
 have HC0_1:=Aside0.mk hc0_1
 clear hr0_1 hc0_1
 have HB:=Aside0.mk (Below.refl w.heap.size w)
 have H : ((some (([] : List Int) : List Int)).bind fun y498 => (if y498.length + l0_1.length < 17592186044416 then (some (a0_0,(y498 ++ l0_1))) else (none))) = some (r1,r2):=h
 clear h
 obtain ⟨y498,hy498⟩ : ∃ y_ : List Int,y_ = (([] : List Int)):=⟨_,rfl⟩
 replace H : (if y498.length + l0_1.length < 17592186044416 then (some (a0_0,(y498 ++ l0_1))) else (none)) = some (r1,r2):=by first|(rw [hy498];with_reducible exact H)|(have H2_:=(Option.bind_some _ _).symm.trans H;rw [hy498];with_reducible exact H2_)|(have H2_:=(Option.bind_some _ _).symm.trans H;with_reducible exact H2_)|with_reducible exact H|(rw [hy498];exact H)|exact H
 have Ny498:=Aside0.mk hy498
 clear hy498
 by_cases c2 : y498.length + l0_1.length < 17592186044416
 ·rw [if_pos c2] at H
  have LMc2:=Aside0.mk c2
  clear c2
  obtain ⟨y501,hy501⟩ : ∃ y_ : List Int,y_ = (y498 ++ l0_1):=⟨_,rfl⟩
  replace H : (some (a0_0,y501)) = some (r1,r2):=by first|(rw [hy501];with_reducible exact H)|(have H2_:=(Option.bind_some _ _).symm.trans H;rw [hy501];with_reducible exact H2_)|(have H2_:=(Option.bind_some _ _).symm.trans H;with_reducible exact H2_)|with_reducible exact H|(rw [hy501];exact H)|exact H
  have Ny501:=Aside0.mk hy501
  clear hy501
  simp only [Option.some.injEq,Prod.mk.injEq] at H
  obtain ⟨rfl,rfl⟩:=H
  go_enter Try.func72,Try.ntmps72
  go_wp2_with (first|((with_reducible refine gate_dst (N:=1) rfl ?_);refine box_event ?hg (N:=1) ?hd (cs:=#[.int .i64 a0_0,.slice A0_1 l0_1.length c0_1]) (t:=28) ?hr ?_;(case hd => rfl);(case hg => rfl);(case hr => first|(go_simp;done)|(go_simp;rfl));intro gb496 hg w3 hbox hb;have n0_:=Aside0.mk (below_step (be0_ HB.out) hb);have n1_:=Aside0.mk (hbox);have n2_:=Aside0.mk ((by rw [hg];exact (below_size (be0_ HB.out)) : w.heap.size ≤ gb496));have n3_:=Aside0.mk ((by rw [hg];exact (below_size (be0_ HB.out)) : w.heap.size ≤ gb496));clear HB;have HB:=n0_;have BK496:=n1_;have GW496:=n2_;have GE496:=n3_;clear n0_ n1_ n2_ n3_;clear hb hbox hg)|((with_reducible refine gate_dst (N:=2) rfl ?_);refine box_event ?hg (N:=2) ?hd (cs:=#[.int .i64 0,.slice none 0 0]) (t:=28) ?hr ?_;(case hd => rfl);(case hg => rfl);(case hr => first|(go_simp;done)|(go_simp;rfl));intro gb497 hg w4 hbox hb;have n0_:=Aside0.mk (blk_below (g:=gb496) (o:=.cells #[.int .i64 a0_0,.slice A0_1 l0_1.length c0_1] 28 (0,0)) (pe_ BK496.out) hb);have n1_:=Aside0.mk (below_step (be1_ HB.out GE496.out) hb);have n2_:=Aside0.mk (hbox);have n3_:=Aside0.mk ((by rw [hg];exact (below_size (be1_ HB.out GE496.out)) : w.heap.size ≤ gb497));have n4_:=Aside0.mk ((by rw [hg];exact (below_size (be1_ HB.out GE496.out)) : w.heap.size ≤ gb497));have n5_:=Aside0.mk ((by rw [hg];exact Nat.ne_of_lt (blk_lt (g:=gb496) (o:=.cells #[.int .i64 a0_0,.slice A0_1 l0_1.length c0_1] 28 (0,0)) (pe_ BK496.out)) : gb496 ≠ gb497));have n6_:=Aside0.mk ((by rw [hg];exact Nat.ne_of_gt (blk_lt (g:=gb496) (o:=.cells #[.int .i64 a0_0,.slice A0_1 l0_1.length c0_1] 28 (0,0)) (pe_ BK496.out)) : gb497 ≠ gb496));clear BK496;clear HB;have BK496:=n0_;have HB:=n1_;have BK497:=n2_;have GW497:=n3_;have GE497:=n4_;have NB496_497:=n5_;have NB497_496:=n6_;clear n0_ n1_ n2_ n3_ n4_ n5_ n6_;clear hb hbox hg)|((with_reducible refine gate_dst (N:=3) rfl ?_);refine Kd.R_lit (Kd.int .i64) _ 3 ?hg (N:=3) ?hd (xs:=([] : List Int)) (inner:=[]) (ok:=fun _ => True) (okp:=fun _ => True) ?hr ?hp (fun _ hk => hk) trivial (Below.refl _ _) (Nat.le_refl _) (by simp) ?_;(case hd => rfl);(case hg => rfl);(case hr => first|(go_simp;done)|(go_simp;rfl));(case hp => exact (Reps.none _ _));intro v499 w5 ho6 hb hg_ hnew_;clear hg_ hnew_;(first|rw [← Ny498.out] at ho6|(simp only [Int.reduceToNat] at ho6;rw [← Ny498.out] at ho6));have n0_:=Aside0.mk (Kd.R_lower ho6 (below_size (be2_ HB.out GE496.out GE497.out)));have n1_:=Aside0.mk (blk_below (g:=gb496) (o:=.cells #[.int .i64 a0_0,.slice A0_1 l0_1.length c0_1] 28 (0,0)) (pe_ BK496.out) hb);have n2_:=Aside0.mk (blk_below (g:=gb497) (o:=.cells #[.int .i64 0,.slice none 0 0] 28 (0,0)) (pe_ BK497.out) hb);have n3_:=Aside0.mk (below_step (be2_ HB.out GE496.out GE497.out) hb);clear BK496;clear BK497;clear HB;have HO500:=n0_;have BK496:=n1_;have BK497:=n2_;have HB:=n3_;clear n0_ n1_ n2_ n3_;clear hb ho6;have hnb7:=NB496_497.out;have hnc7:=NB497_496.out;have hcz8_0 : w5.cell? ⟨gb496,0,none⟩ = some (.int .i64 a0_0):=(blk_cell BK496.out 0).trans rfl;have hcz8_1 : w5.cell? ⟨gb496,1,none⟩ = some (.slice A0_1 l0_1.length c0_1):=(blk_cell BK496.out 1).trans rfl;have hfz8_0:=blk_frozen BK496.out 0;have hfz8_1:=blk_frozen BK496.out 1)|((with_reducible refine gate_builtin (b:=.append) (xs:=#[.tmp 3,.tmp 5]) rfl ?_);at_builtin;refine Kd.R_append_rows (Kd.int .i64) (w0:=w) w.heap.size rfl (.tmp 3) (.tmp 5) 24 3 (.int .i64 0) 8 rfl Try.underlying24 info3 rfl (by decide) (by omega) v499 y498 l0_1 _ _ _ (fun _ => True) (fun _ => False) rfl rfl ?aO ?aR (fun _ _ h => h) (fun _ h => h.elim) ?aF ?aB ?aS ?aL ?_;(case aR => repeat (first|exact (Kd.C_below HR0_1.out HB.out)|(with_reducible refine Kd.C_alloc ?_ _)|(with_reducible refine Kd.C_drewN ?_ _)|(with_reducible refine Kd.C_drew ?_)));(case aB => exact (be2_ HB.out GE496.out GE497.out));(case aF => exact (fun _ _ => trivial));(case aO => exact (pr_ HO500.out));(case aS => exact (below_size (be2_ HB.out GE496.out GE497.out)));(case aL => have:=LMc2.out;omega);intro v502 w9 ho hb hg hat;rw [← Ny501.out] at ho;have n0_:=Aside0.mk (blk_grown (g:=gb496) (o:=.cells #[.int .i64 a0_0,.slice A0_1 l0_1.length c0_1] 28 (0,0)) (pe_ BK496.out) hg (Kd.R_ne HO500.out BK496.out (by decide)));have n1_:=Aside0.mk (blk_grown (g:=gb497) (o:=.cells #[.int .i64 0,.slice none 0 0] 28 (0,0)) (pe_ BK497.out) hg (Kd.R_ne HO500.out BK497.out (by decide)));have n2_:=Aside0.mk (hb);have n3_:=Aside0.mk (ho);clear BK496;clear BK497;clear HB;clear HO500;have BK496:=n0_;have BK497:=n1_;have HB:=n2_;have HO503:=n3_;clear n0_ n1_ n2_ n3_;clear ho hb hg hat;obtain ⟨Ao10,co10,eo10⟩:=Kd.R_slice HO503.out;subst eo10;have hcz11_0 : w9.cell? ⟨gb496,0,none⟩ = some (.int .i64 a0_0):=(blk_cell BK496.out 0).trans rfl;have hcz11_1 : w9.cell? ⟨gb496,1,none⟩ = some (.slice A0_1 l0_1.length c0_1):=(blk_cell BK496.out 1).trans rfl;have hfz11_0:=blk_frozen BK496.out 0;have hfz11_1:=blk_frozen BK496.out 1;have hcz12_0 : w9.cell? ⟨gb497,0,none⟩ = some (.int .i64 0):=(blk_cell BK497.out 0).trans rfl;have hcz12_1 : w9.cell? ⟨gb497,1,none⟩ = some (.slice none 0 0):=(blk_cell BK497.out 1).trans rfl;have hfz12_0:=blk_frozen BK497.out 0;have hfz12_1:=blk_frozen BK497.out 1))
  refine bodyPost_ret (results_cell_row rfl _ _ gb497 28 #[.int .i64 a0_0,.slice Ao10 y501.length co10] (0,0) _ rfl (by refine pe_ ?_;refine blk_put (cs:=#[.int .i64 a0_0,.slice none 0 0]) ?_ 1 _ rfl;refine pe_ ?_;refine blk_put (cs:=#[.int .i64 0,.slice none 0 0]) ?_ 0 _ rfl;refine pe_ ?_;refine blk_far ?_ NB497_496.out _;refine pe_ ?_;exact BK497.out) Try.underlying28 rfl (by kernel_rfl)) rfl ?_
  exact ⟨_,by first|rfl|(simp [errW_none,errW_some] <;> rfl)|(simp [*,errW_none,errW_some] <;> rfl),by refine pr_ ?_;exact Kd.R_mono (Kd.R_far (p:=⟨gb497,1,none⟩) (Kd.R_far (p:=⟨gb497,0,none⟩) (Kd.R_far (p:=⟨gb496,1,none⟩) (Kd.R_types (Kd.R_types HO503.out BK496.out (by decide)) BK497.out (by decide)) (fun _ hk => hk.1.2) (.slice Ao10 y501.length co10)) (fun _ hk => hk.2) (.int .i64 a0_0)) (fun _ hk => hk.2) (.slice Ao10 y501.length co10)) (fun _ hk => trivial),be2_ HB.out GE496.out GE497.out⟩
 ·rw [if_neg c2] at H
  exact absurd H (by simp)
end Go.Proofs.Ytengegdaiphfeaa.X
end
section
namespace Go.Proofs.Ytengegdaiphfeaa.X
open Go.RowKit Go.Proofs.YtengegdaiphfeaaW.PrintWords Go.Proofs.YtengegdaiphfeaaW.PrintLast Go.Proofs.YtengegdaiphfeaaW.PrintMore
attribute [local go_sem] max2_int min2_int max_two min_two max_three min_three max_four min_four
set_option linter.unusedVariables false
set_option linter.unusedSimpArgs false
def spec_l2Same.l0 : Nat → List Int → List Int → Int → Int → Option (Bool)
 | 0,_,_,_,_ => none
 | k + 1,x0,x1,x10,x11 => if x11 < x10 then (if 0 ≤ x11 then (if x11 < (x0.length : Int) then (if x11 < (x1.length : Int) then (if (rd x0 x11) = (rd x1 x11) then (spec_l2Same.l0 k x0 x1 x10 (wrap64 (x11 + 1))) else (some false)) else (none)) else (none)) else (none)) else (some ((x0.length : Int) == (x1.length : Int)))
def spec_l2Same.f (k : Nat) (l0 : List Int) (l1 : List Int) : Option (Bool):=spec_l2Same.l0 k l0 l1 (mn (l0.length : Int) (l1.length : Int)) 0
theorem spec_l2Same.mono_l : ∀ k,(∀ y0 y1 y2 y3,LeO (spec_l2Same.l0 k y0 y1 y2 y3) (spec_l2Same.l0 (k + 1) y0 y1 y2 y3))
 | 0 => fun _ _ _ _ r h => by simp [spec_l2Same.l0] at h
 | k + 1 => by
  have ih0:=spec_l2Same.mono_l k
  ·intro y0 y1 y2 y3
   unfold spec_l2Same.l0
   repeat' first
   | (with_reducible exact ih0 _ _ _ _)
   | (with_reducible exact LeO.refl _)
   | (with_reducible exact LeO.none _)
   | (with_reducible refine LeO.ite ?_ ?_)
   | (with_reducible refine LeO.bind ?_ (fun _ => ?_))
   | exact ih0 _ _ _ _
   | exact LeO.none _
   | refine LeO.ite ?_ ?_
   | refine LeO.bind ?_ (fun _ => ?_)
theorem spec_l2Same.mono : ∀ a0 a1 k,LeO (spec_l2Same.f k a0 a1) (spec_l2Same.f (k + 1) a0 a1):=by
 intro a0 a1 k
 have ih0:=spec_l2Same.mono_l k
 unfold spec_l2Same.f
 repeat' first
   | (with_reducible exact ih0 _ _ _ _)
   | (with_reducible exact LeO.refl _)
   | (with_reducible exact LeO.none _)
   | (with_reducible refine LeO.ite ?_ ?_)
   | (with_reducible refine LeO.bind ?_ (fun _ => ?_))
   | exact ih0 _ _ _ _
   | exact LeO.none _
   | refine LeO.ite ?_ ?_
   | refine LeO.bind ?_ (fun _ => ?_)
set_option maxHeartbeats 8000000 in
set_option maxRecDepth 100000 in
theorem spec_l2Same.calls (k : Nat) (A0 : Option Addr) (c0 : Nat) (l0 : List Int) (A1 : Option Addr) (c1 : Nat) (l1 : List Int) (r : Bool) (w : World) (hr0 : Kd.C (Kd.int .i64) w A0 l0.length l0) (hc0 : l0.length ≤ c0) (hr1 : Kd.C (Kd.int .i64) w A1 l1.length l1) (hc1 : l1.length ≤ c1) (h : spec_l2Same.f k l0 l1 = some r) :
  Calls Try.prog 101 #[.slice A0 l0.length c0,.slice A1 l1.length c1] w fun e w' => e = .returned (.bool r) ∧ Below w.heap.size w w':=by
 have HR0:=Aside0.mk hr0
 have HC0:=Aside0.mk hc0
 clear hr0 hc0
 have HR1:=Aside0.mk hr1
 have HC1:=Aside0.mk hc1
 clear hr1 hc1
 have HB:=Aside0.mk (Below.refl w.heap.size w)
 have H : (spec_l2Same.l0 k l0 l1 (mn (l0.length : Int) (l1.length : Int)) 0) = some r:=h
 clear h
 obtain ⟨ji3,hji3⟩ : ∃ j_ : Int,(mn (l0.length : Int) (l1.length : Int)) = j_:=⟨_,rfl⟩
 replace H : (spec_l2Same.l0 k l0 l1 ji3 0) = some r:=by first|(rw [hji3] at H;exact H)|(simp only [hji3] at H ⊢;exact H)
 (try (have hji3l : 0 ≤ ji3:=by (rw [← hji3];unfold mn;(repeat' split) <;> omega)))
 (try (have hji3m : 0 ≤ ji3:=by omega))
 have hji3_ : (if (l1.length : Int) < (l0.length : Int) then (l1.length : Int) else (l0.length : Int)) = ji3:=hji3
 have hji3n : (if l1.length < l0.length then (l1.length : Int) else (l0.length : Int)) = ji3:=by rw [← hji3];unfold mn;(repeat' split) <;> omega
 have H':=Aside0.mk H
 clear H
 go_enter Try.func101,Try.ntmps101
 go_wp2
 repeat (go_quiet (fail);try go_wp2)
 go_loopg [11] k (fun kq v11 w' => ∃ (x11_1 : Int),v11 = .int .i64 x11_1 ∧ Aside0 (spec_l2Same.l0 kq l0 l1 ji3 x11_1 = some r) ∧ Aside0 (kq ≤ k) ∧ Aside0 (Below w.heap.size w w'))
 case atStart => exact ⟨(0),(by first|rfl|(simp;done)|(simp [*];done)),H',⟨Nat.le_refl _⟩,⟨be0_ HB.out⟩⟩
 case round =>
  clear H'
  try clear c1
  try clear p2
  obtain ⟨x11_1,rfl,HA,HK1,HB⟩:=hrel
  cases gk with
  | zero => exact absurd HA.out (by simp [spec_l2Same.l0])
  | succ k1 =>
   have H:=HA.out
   clear HA
   simp only [spec_l2Same.l0] at H
   by_cases c4 : x11_1 < ji3
   ·rw [if_pos c4] at H
    have c4b0 : decide (x11_1 < ji3) = true:=decide_eq_true c4
    clear c4
    by_cases c5 : 0 ≤ x11_1
    ·rw [if_pos c5] at H
     have c5b0 : decide (0 ≤ x11_1) = true:=decide_eq_true c5
     clear c5
     by_cases c6 : x11_1 < (l0.length : Int)
     ·rw [if_pos c6] at H
      have c6b0 : decide (x11_1 < (l0.length : Int)) = true:=decide_eq_true c6
      clear c6
      by_cases c7 : x11_1 < (l1.length : Int)
      ·rw [if_pos c7] at H
       have c7b0 : decide (x11_1 < (l1.length : Int)) = true:=decide_eq_true c7
       clear c7
       by_cases c8 : (rd l0 x11_1) = (rd l1 x11_1)
       ·rw [if_pos c8] at H
        have c8b0 : ((rd l0 x11_1) == (rd l1 x11_1)) = true:=beq_iff_eq.mpr c8
        have c8b1 : ((rd l0 x11_1) != (rd l1 x11_1)) = false:=bne_eq_false_iff_eq.mpr c8
        clear c8
        have H':=Aside0.mk H
        clear H
        have p282 : 0 ≤ (x11_1 : Int):=of_decide_eq_true (by first|(with_reducible assumption)|assumption)
        have q282 : x11_1 < (l0.length : Int):=of_decide_eq_true (by first|(with_reducible assumption)|assumption)
        obtain ⟨ad282,e282,hx282_0⟩:=Kd.at_int HR0.out x11_1 p282 q282
        cases e282
        replace hx282_0:=(HB.out.cell (World.block_lt_of_cell? w _ hx282_0)).trans hx282_0
        replace p282:=eq_true p282
        replace q282:=eq_true q282
        have p283 : 0 ≤ (x11_1 : Int):=of_decide_eq_true (by first|(with_reducible assumption)|assumption)
        have q283 : x11_1 < (l1.length : Int):=of_decide_eq_true (by first|(with_reducible assumption)|assumption)
        obtain ⟨ad283,e283,hx283_0⟩:=Kd.at_int HR1.out x11_1 p283 q283
        cases e283
        replace hx283_0:=(HB.out.cell (World.block_lt_of_cell? w _ hx283_0)).trans hx283_0
        replace p283:=eq_true p283
        replace q283:=eq_true q283
        go_wp2
        repeat (go_quiet (fail);try go_wp2)
        go_roundg k1
        case measure => have:=HK1.out;omega
        case rel => exact ⟨(wrap64 (x11_1 + 1)),(by first|rfl|(simp;done)|(simp [*];done)),H',⟨by have:=HK1.out;omega⟩,⟨be0_ HB.out⟩⟩
       ·rw [if_neg c8] at H
        have c8b0 : ((rd l0 x11_1) == (rd l1 x11_1)) = false:=beq_eq_false_iff_ne.mpr c8
        have c8b1 : ((rd l0 x11_1) != (rd l1 x11_1)) = true:=bne_iff_ne.mpr c8
        obtain rfl:=Option.some.inj H
        have p282 : 0 ≤ (x11_1 : Int):=of_decide_eq_true (by first|(with_reducible assumption)|assumption)
        have q282 : x11_1 < (l0.length : Int):=of_decide_eq_true (by first|(with_reducible assumption)|assumption)
        obtain ⟨ad282,e282,hx282_0⟩:=Kd.at_int HR0.out x11_1 p282 q282
        cases e282
        replace hx282_0:=(HB.out.cell (World.block_lt_of_cell? w _ hx282_0)).trans hx282_0
        replace p282:=eq_true p282
        replace q282:=eq_true q282
        have p283 : 0 ≤ (x11_1 : Int):=of_decide_eq_true (by first|(with_reducible assumption)|assumption)
        have q283 : x11_1 < (l1.length : Int):=of_decide_eq_true (by first|(with_reducible assumption)|assumption)
        obtain ⟨ad283,e283,hx283_0⟩:=Kd.at_int HR1.out x11_1 p283 q283
        cases e283
        replace hx283_0:=(HB.out.cell (World.block_lt_of_cell? w _ hx283_0)).trans hx283_0
        replace p283:=eq_true p283
        replace q283:=eq_true q283
        go_wp2
        repeat (go_quiet (fail);try go_wp2)
        go_ret
        exact ⟨by first|rfl|(simp [errW_none,errW_some] <;> rfl)|(simp only [← hji3];first|rfl|(simp [errW_none,errW_some] <;> rfl))|(simp [*,errW_none,errW_some] <;> rfl),be0_ HB.out⟩
      ·rw [if_neg c7] at H
       exact absurd H (by simp)
     ·rw [if_neg c6] at H
      exact absurd H (by simp)
    ·rw [if_neg c5] at H
     exact absurd H (by simp)
   ·rw [if_neg c4] at H
    have c4b0 : decide (x11_1 < ji3) = false:=decide_eq_false c4
    clear c4
    obtain rfl:=Option.some.inj H
    go_wp2
    repeat (go_quiet (fail);try go_wp2)
    go_ret
    exact ⟨by first|rfl|(simp [errW_none,errW_some] <;> rfl)|(simp only [← hji3];first|rfl|(simp [errW_none,errW_some] <;> rfl))|(simp [*,errW_none,errW_some] <;> rfl),be0_ HB.out⟩
end Go.Proofs.Ytengegdaiphfeaa.X
end
section
namespace Go.Proofs.Ytengegdaiphfeaa.X
open Go.RowKit Go.Proofs.YtengegdaiphfeaaW.PrintWords Go.Proofs.YtengegdaiphfeaaW.PrintLast Go.Proofs.YtengegdaiphfeaaW.PrintMore
attribute [local go_sem] max2_int min2_int max_two min_two max_three min_three max_four min_four
set_option linter.unusedVariables false
set_option linter.unusedSimpArgs false
mutual
def spec_l6Mul.l0 : Nat → Int → Int → Int → List Int → Int → List Int → Int → List Int → Option (Int × List Int)
 | 0,_,_,_,_,_,_,_,_ => none
 | k + 1,x16,x17,x274000,x274001,x275000,x275001,x277000,x277001 => if x17 < x16 then (spec_l6Mul.l1 k x17 3 x16 x17 x274000 0 x274000 x274001 x275000 x275001 x277000 x277001) else (some (x277000,x277001))
def spec_l6Mul.l1 : Nat → Int → Int → Int → Int → Int → Int → Int → List Int → Int → List Int → Int → List Int → Option (Int × List Int)
 | 0,_,_,_,_,_,_,_,_,_,_,_,_ => none
 | k + 1,x6,x7,x16,x17,x21,x22,x274000,x274001,x275000,x275001,x277000,x277001 => if x22 < x21 then (if x274000 = 0 then (none) else (if 0 ≤ (wrap64 ((wrap64 ((wrap64 (Int.tdiv x6 x274000)) * x274000)) + x22)) then (if (wrap64 ((wrap64 ((wrap64 (Int.tdiv x6 x274000)) * x274000)) + x22)) < (x274001.length : Int) then (if 0 ≤ (wrap64 ((wrap64 (x22 * x274000)) + (Int.tmod x6 x274000))) then (if (wrap64 ((wrap64 (x22 * x274000)) + (Int.tmod x6 x274000))) < (x275001.length : Int) then (spec_l6Mul.l1 k x6 (mn x7 (mx (rd x274001 (wrap64 ((wrap64 ((wrap64 (Int.tdiv x6 x274000)) * x274000)) + x22))) (rd x275001 (wrap64 ((wrap64 (x22 * x274000)) + (Int.tmod x6 x274000)))))) x16 x17 x21 (wrap64 (x22 + 1)) x274000 x274001 x275000 x275001 x277000 x277001) else (none)) else (none)) else (none)) else (none))) else (if x277001.length < 17592186044416 then (spec_l6Mul.l0 k x16 (wrap64 (x17 + 1)) x274000 x274001 x275000 x275001 x277000 (x277001 ++ [x7])) else (none))
end
def spec_l6Mul.f (k : Nat) (a0_0 : Int) (l0_1 : List Int) (a1_0 : Int) (l1_1 : List Int) : Option (Int × List Int):=spec_l6Mul.l0 k (wrap64 (a0_0 * a0_0)) 0 a0_0 l0_1 a1_0 l1_1 a0_0 ([] : List Int)
theorem spec_l6Mul.mono_l : ∀ k,(∀ y0 y1 y2 y3 y4 y5 y6 y7,LeO (spec_l6Mul.l0 k y0 y1 y2 y3 y4 y5 y6 y7) (spec_l6Mul.l0 (k + 1) y0 y1 y2 y3 y4 y5 y6 y7)) ∧ (∀ y0 y1 y2 y3 y4 y5 y6 y7 y8 y9 y10 y11,LeO (spec_l6Mul.l1 k y0 y1 y2 y3 y4 y5 y6 y7 y8 y9 y10 y11) (spec_l6Mul.l1 (k + 1) y0 y1 y2 y3 y4 y5 y6 y7 y8 y9 y10 y11))
 | 0 => ⟨fun _ _ _ _ _ _ _ _ r h => by simp [spec_l6Mul.l0] at h,fun _ _ _ _ _ _ _ _ _ _ _ _ r h => by simp [spec_l6Mul.l1] at h⟩
 | k + 1 => by
  obtain ⟨ih0,ih1⟩:=spec_l6Mul.mono_l k
  refine ⟨?_,?_⟩
  ·intro y0 y1 y2 y3 y4 y5 y6 y7
   unfold spec_l6Mul.l0
   repeat' first
   | (with_reducible exact ih0 _ _ _ _ _ _ _ _)
   | (with_reducible exact ih1 _ _ _ _ _ _ _ _ _ _ _ _)
   | (with_reducible exact LeO.refl _)
   | (with_reducible exact LeO.none _)
   | (with_reducible refine LeO.ite ?_ ?_)
   | (with_reducible refine LeO.bind ?_ (fun _ => ?_))
   | exact ih0 _ _ _ _ _ _ _ _
   | exact ih1 _ _ _ _ _ _ _ _ _ _ _ _
   | exact LeO.none _
   | refine LeO.ite ?_ ?_
   | refine LeO.bind ?_ (fun _ => ?_)
  ·intro y0 y1 y2 y3 y4 y5 y6 y7 y8 y9 y10 y11
   unfold spec_l6Mul.l1
   repeat' first
   | (with_reducible exact ih0 _ _ _ _ _ _ _ _)
   | (with_reducible exact ih1 _ _ _ _ _ _ _ _ _ _ _ _)
   | (with_reducible exact LeO.refl _)
   | (with_reducible exact LeO.none _)
   | (with_reducible refine LeO.ite ?_ ?_)
   | (with_reducible refine LeO.bind ?_ (fun _ => ?_))
   | exact ih0 _ _ _ _ _ _ _ _
   | exact ih1 _ _ _ _ _ _ _ _ _ _ _ _
   | exact LeO.none _
   | refine LeO.ite ?_ ?_
   | refine LeO.bind ?_ (fun _ => ?_)
theorem spec_l6Mul.mono : ∀ a0 a1 a2 a3 k,LeO (spec_l6Mul.f k a0 a1 a2 a3) (spec_l6Mul.f (k + 1) a0 a1 a2 a3):=by
 intro a0 a1 a2 a3 k
 obtain ⟨ih0,ih1⟩:=spec_l6Mul.mono_l k
 unfold spec_l6Mul.f
 repeat' first
   | (with_reducible exact ih0 _ _ _ _ _ _ _ _)
   | (with_reducible exact ih1 _ _ _ _ _ _ _ _ _ _ _ _)
   | (with_reducible exact LeO.refl _)
   | (with_reducible exact LeO.none _)
   | (with_reducible refine LeO.ite ?_ ?_)
   | (with_reducible refine LeO.bind ?_ (fun _ => ?_))
   | exact ih0 _ _ _ _ _ _ _ _
   | exact ih1 _ _ _ _ _ _ _ _ _ _ _ _
   | exact LeO.none _
   | refine LeO.ite ?_ ?_
   | refine LeO.bind ?_ (fun _ => ?_)
set_option maxHeartbeats 8000000 in
set_option maxRecDepth 100000 in
theorem spec_l6Mul.calls (k : Nat) (a0_0 : Int) (A0_1 : Option Addr) (c0_1 : Nat) (l0_1 : List Int) (a1_0 : Int) (A1_1 : Option Addr) (c1_1 : Nat) (l1_1 : List Int) (r1 : Int) (r2 : List Int) (w : World) (hr0_1 : Kd.C (Kd.int .i64) w A0_1 l0_1.length l0_1) (hc0_1 : l0_1.length ≤ c0_1) (hr1_1 : Kd.C (Kd.int .i64) w A1_1 l1_1.length l1_1) (hc1_1 : l1_1.length ≤ c1_1) (h : spec_l6Mul.f k a0_0 l0_1 a1_0 l1_1 = some (r1,r2)) :
  Calls Try.prog 68 #[.agg #[.int .i64 a0_0,.slice A0_1 l0_1.length c0_1],.agg #[.int .i64 a1_0,.slice A1_1 l1_1.length c1_1]] w fun e w' => ∃ v1_ : Value,e = .returned (.agg #[.int .i64 r1,v1_]) ∧ Kd.R (Kd.int .i64) 3 w' w.heap.size (fun _ => True) v1_ r2 ∧ Below w.heap.size w w':=by
 have hu28:=Try.underlying28
 have HR0_1:=Aside0.mk hr0_1
 have HC0_1:=Aside0.mk hc0_1
 clear hr0_1 hc0_1
 have HR1_1:=Aside0.mk hr1_1
 have HC1_1:=Aside0.mk hc1_1
 clear hr1_1 hc1_1
 have HB:=Aside0.mk (Below.refl w.heap.size w)
 have H : (spec_l6Mul.l0 k (wrap64 (a0_0 * a0_0)) 0 a0_0 l0_1 a1_0 l1_1 a0_0 ([] : List Int)) = some (r1,r2):=h
 clear h
 have H':=Aside0.mk H
 clear H
 go_enter Try.func68,Try.ntmps68
 go_wp2_with (first|((with_reducible refine gate_dst (N:=2) rfl ?_);refine box_event ?hg (N:=2) ?hd (cs:=#[.int .i64 a0_0,.slice A0_1 l0_1.length c0_1]) (t:=28) ?hr ?_;(case hd => rfl);(case hg => rfl);(case hr => first|(go_simp;done)|(go_simp;rfl));intro gb273 hg w3 hbox hb;have n0_:=Aside0.mk (below_step (be0_ HB.out) hb);have n1_:=Aside0.mk (hbox);have n2_:=Aside0.mk ((by rw [hg];exact (below_size (be0_ HB.out)) : w.heap.size ≤ gb273));have n3_:=Aside0.mk ((by rw [hg];exact (below_size (be0_ HB.out)) : w.heap.size ≤ gb273));clear HB;have HB:=n0_;have BK273:=n1_;have GW273:=n2_;have GE273:=n3_;clear n0_ n1_ n2_ n3_;clear hb hbox hg)|((with_reducible refine gate_dst (N:=3) rfl ?_);refine box_event ?hg (N:=3) ?hd (cs:=#[.int .i64 a1_0,.slice A1_1 l1_1.length c1_1]) (t:=28) ?hr ?_;(case hd => rfl);(case hg => rfl);(case hr => first|(go_simp;done)|(go_simp;rfl));intro gb274 hg w4 hbox hb;have n0_:=Aside0.mk (blk_below (g:=gb273) (o:=.cells #[.int .i64 a0_0,.slice A0_1 l0_1.length c0_1] 28 (0,0)) (pe_ BK273.out) hb);have n1_:=Aside0.mk (below_step (be1_ HB.out GE273.out) hb);have n2_:=Aside0.mk (hbox);have n3_:=Aside0.mk ((by rw [hg];exact (below_size (be1_ HB.out GE273.out)) : w.heap.size ≤ gb274));have n4_:=Aside0.mk ((by rw [hg];exact (below_size (be1_ HB.out GE273.out)) : w.heap.size ≤ gb274));have n5_:=Aside0.mk ((by rw [hg];exact Nat.ne_of_lt (blk_lt (g:=gb273) (o:=.cells #[.int .i64 a0_0,.slice A0_1 l0_1.length c0_1] 28 (0,0)) (pe_ BK273.out)) : gb273 ≠ gb274));have n6_:=Aside0.mk ((by rw [hg];exact Nat.ne_of_gt (blk_lt (g:=gb273) (o:=.cells #[.int .i64 a0_0,.slice A0_1 l0_1.length c0_1] 28 (0,0)) (pe_ BK273.out)) : gb274 ≠ gb273));clear BK273;clear HB;have BK273:=n0_;have HB:=n1_;have BK274:=n2_;have GW274:=n3_;have GE274:=n4_;have NB273_274:=n5_;have NB274_273:=n6_;clear n0_ n1_ n2_ n3_ n4_ n5_ n6_;clear hb hbox hg)|((with_reducible refine gate_dst (N:=4) rfl ?_);refine box_event ?hg (N:=4) ?hd (cs:=#[.int .i64 0,.slice none 0 0]) (t:=28) ?hr ?_;(case hd => rfl);(case hg => rfl);(case hr => first|(go_simp;done)|(go_simp;rfl));intro gb275 hg w5 hbox hb;have n0_:=Aside0.mk (blk_below (g:=gb273) (o:=.cells #[.int .i64 a0_0,.slice A0_1 l0_1.length c0_1] 28 (0,0)) (pe_ BK273.out) hb);have n1_:=Aside0.mk (blk_below (g:=gb274) (o:=.cells #[.int .i64 a1_0,.slice A1_1 l1_1.length c1_1] 28 (0,0)) (pe_ BK274.out) hb);have n2_:=Aside0.mk (below_step (be2_ HB.out GE273.out GE274.out) hb);have n3_:=Aside0.mk (hbox);have n4_:=Aside0.mk ((by rw [hg];exact (below_size (be2_ HB.out GE273.out GE274.out)) : w.heap.size ≤ gb275));have n5_:=Aside0.mk ((by rw [hg];exact (below_size (be2_ HB.out GE273.out GE274.out)) : w.heap.size ≤ gb275));have n6_:=Aside0.mk ((by rw [hg];exact Nat.ne_of_lt (blk_lt (g:=gb273) (o:=.cells #[.int .i64 a0_0,.slice A0_1 l0_1.length c0_1] 28 (0,0)) (pe_ BK273.out)) : gb273 ≠ gb275));have n7_:=Aside0.mk ((by rw [hg];exact Nat.ne_of_gt (blk_lt (g:=gb273) (o:=.cells #[.int .i64 a0_0,.slice A0_1 l0_1.length c0_1] 28 (0,0)) (pe_ BK273.out)) : gb275 ≠ gb273));have n8_:=Aside0.mk ((by rw [hg];exact Nat.ne_of_lt (blk_lt (g:=gb274) (o:=.cells #[.int .i64 a1_0,.slice A1_1 l1_1.length c1_1] 28 (0,0)) (pe_ BK274.out)) : gb274 ≠ gb275));have n9_:=Aside0.mk ((by rw [hg];exact Nat.ne_of_gt (blk_lt (g:=gb274) (o:=.cells #[.int .i64 a1_0,.slice A1_1 l1_1.length c1_1] 28 (0,0)) (pe_ BK274.out)) : gb275 ≠ gb274));clear BK273;clear BK274;clear HB;have BK273:=n0_;have BK274:=n1_;have HB:=n2_;have BK275:=n3_;have GW275:=n4_;have GE275:=n5_;have NB273_275:=n6_;have NB275_273:=n7_;have NB274_275:=n8_;have NB275_274:=n9_;clear n0_ n1_ n2_ n3_ n4_ n5_ n6_ n7_ n8_ n9_;clear hb hbox hg;have hnb6:=NB273_274.out;have hnc6:=NB274_273.out;have hnb7:=NB273_275.out;have hnc7:=NB275_273.out;have hcz8_0 : w5.cell? ⟨gb273,0,none⟩ = some (.int .i64 a0_0):=(blk_cell BK273.out 0).trans rfl;have hcz8_1 : w5.cell? ⟨gb273,1,none⟩ = some (.slice A0_1 l0_1.length c0_1):=(blk_cell BK273.out 1).trans rfl;have hfz8_0:=blk_frozen BK273.out 0;have hfz8_1:=blk_frozen BK273.out 1)|((with_reducible refine gate_dst (N:=5) rfl ?_);refine box_event ?hg (N:=5) ?hd (cs:=#[.int .i64 0,.slice none 0 0]) (t:=28) ?hr ?_;(case hd => rfl);(case hg => rfl);(case hr => first|(go_simp;done)|(go_simp;rfl));intro gb276 hg w9 hbox hb;have n0_:=Aside0.mk (blk_below (g:=gb273) (o:=.cells #[.int .i64 a0_0,.slice A0_1 l0_1.length c0_1] 28 (0,0)) (pe_ BK273.out) hb);have n1_:=Aside0.mk (blk_below (g:=gb274) (o:=.cells #[.int .i64 a1_0,.slice A1_1 l1_1.length c1_1] 28 (0,0)) (pe_ BK274.out) hb);have n2_:=Aside0.mk (blk_below (g:=gb275) (o:=.cells #[.int .i64 0,.slice none 0 0] 28 (0,0)) (pe_ BK275.out) hb);have n3_:=Aside0.mk (below_step (be3_ HB.out GE273.out GE274.out GE275.out) hb);have n4_:=Aside0.mk (hbox);have n5_:=Aside0.mk ((by rw [hg];exact (below_size (be3_ HB.out GE273.out GE274.out GE275.out)) : w.heap.size ≤ gb276));have n6_:=Aside0.mk ((by rw [hg];exact (below_size (be3_ HB.out GE273.out GE274.out GE275.out)) : w.heap.size ≤ gb276));have n7_:=Aside0.mk ((by rw [hg];exact Nat.ne_of_lt (blk_lt (g:=gb273) (o:=.cells #[.int .i64 a0_0,.slice A0_1 l0_1.length c0_1] 28 (0,0)) (pe_ BK273.out)) : gb273 ≠ gb276));have n8_:=Aside0.mk ((by rw [hg];exact Nat.ne_of_gt (blk_lt (g:=gb273) (o:=.cells #[.int .i64 a0_0,.slice A0_1 l0_1.length c0_1] 28 (0,0)) (pe_ BK273.out)) : gb276 ≠ gb273));have n9_:=Aside0.mk ((by rw [hg];exact Nat.ne_of_lt (blk_lt (g:=gb274) (o:=.cells #[.int .i64 a1_0,.slice A1_1 l1_1.length c1_1] 28 (0,0)) (pe_ BK274.out)) : gb274 ≠ gb276));have n10_:=Aside0.mk ((by rw [hg];exact Nat.ne_of_gt (blk_lt (g:=gb274) (o:=.cells #[.int .i64 a1_0,.slice A1_1 l1_1.length c1_1] 28 (0,0)) (pe_ BK274.out)) : gb276 ≠ gb274));have n11_:=Aside0.mk ((by rw [hg];exact Nat.ne_of_lt (blk_lt (g:=gb275) (o:=.cells #[.int .i64 0,.slice none 0 0] 28 (0,0)) (pe_ BK275.out)) : gb275 ≠ gb276));have n12_:=Aside0.mk ((by rw [hg];exact Nat.ne_of_gt (blk_lt (g:=gb275) (o:=.cells #[.int .i64 0,.slice none 0 0] 28 (0,0)) (pe_ BK275.out)) : gb276 ≠ gb275));clear BK273;clear BK274;clear BK275;clear HB;have BK273:=n0_;have BK274:=n1_;have BK275:=n2_;have HB:=n3_;have BK276:=n4_;have GW276:=n5_;have GE276:=n6_;have NB273_276:=n7_;have NB276_273:=n8_;have NB274_276:=n9_;have NB276_274:=n10_;have NB275_276:=n11_;have NB276_275:=n12_;clear n0_ n1_ n2_ n3_ n4_ n5_ n6_ n7_ n8_ n9_ n10_ n11_ n12_;clear hb hbox hg;have hnb10:=NB276_273.out;have hnc10:=NB273_276.out;have hnb11:=NB276_274.out;have hnc11:=NB274_276.out;have hnb12:=NB276_275.out;have hnc12:=NB275_276.out;have hcz13_0 : w9.cell? ⟨gb276,0,none⟩ = some (.int .i64 0):=(blk_cell BK276.out 0).trans rfl;have hcz13_1 : w9.cell? ⟨gb276,1,none⟩ = some (.slice none 0 0):=(blk_cell BK276.out 1).trans rfl;have hfz13_0:=blk_frozen BK276.out 0;have hfz13_1:=blk_frozen BK276.out 1;have hcz14_0 : w9.cell? ⟨gb273,0,none⟩ = some (.int .i64 a0_0):=(blk_cell BK273.out 0).trans rfl;have hcz14_1 : w9.cell? ⟨gb273,1,none⟩ = some (.slice A0_1 l0_1.length c0_1):=(blk_cell BK273.out 1).trans rfl;have hfz14_0:=blk_frozen BK273.out 0;have hfz14_1:=blk_frozen BK273.out 1))
 repeat (go_quiet (first|((with_reducible refine gate_dst (N:=2) rfl ?_);refine box_event ?hg (N:=2) ?hd (cs:=#[.int .i64 a0_0,.slice A0_1 l0_1.length c0_1]) (t:=28) ?hr ?_;(case hd => rfl);(case hg => rfl);(case hr => first|(go_simp;done)|(go_simp;rfl));intro gb273 hg w3 hbox hb;have n0_:=Aside0.mk (below_step (be0_ HB.out) hb);have n1_:=Aside0.mk (hbox);have n2_:=Aside0.mk ((by rw [hg];exact (below_size (be0_ HB.out)) : w.heap.size ≤ gb273));have n3_:=Aside0.mk ((by rw [hg];exact (below_size (be0_ HB.out)) : w.heap.size ≤ gb273));clear HB;have HB:=n0_;have BK273:=n1_;have GW273:=n2_;have GE273:=n3_;clear n0_ n1_ n2_ n3_;clear hb hbox hg)|((with_reducible refine gate_dst (N:=3) rfl ?_);refine box_event ?hg (N:=3) ?hd (cs:=#[.int .i64 a1_0,.slice A1_1 l1_1.length c1_1]) (t:=28) ?hr ?_;(case hd => rfl);(case hg => rfl);(case hr => first|(go_simp;done)|(go_simp;rfl));intro gb274 hg w4 hbox hb;have n0_:=Aside0.mk (blk_below (g:=gb273) (o:=.cells #[.int .i64 a0_0,.slice A0_1 l0_1.length c0_1] 28 (0,0)) (pe_ BK273.out) hb);have n1_:=Aside0.mk (below_step (be1_ HB.out GE273.out) hb);have n2_:=Aside0.mk (hbox);have n3_:=Aside0.mk ((by rw [hg];exact (below_size (be1_ HB.out GE273.out)) : w.heap.size ≤ gb274));have n4_:=Aside0.mk ((by rw [hg];exact (below_size (be1_ HB.out GE273.out)) : w.heap.size ≤ gb274));have n5_:=Aside0.mk ((by rw [hg];exact Nat.ne_of_lt (blk_lt (g:=gb273) (o:=.cells #[.int .i64 a0_0,.slice A0_1 l0_1.length c0_1] 28 (0,0)) (pe_ BK273.out)) : gb273 ≠ gb274));have n6_:=Aside0.mk ((by rw [hg];exact Nat.ne_of_gt (blk_lt (g:=gb273) (o:=.cells #[.int .i64 a0_0,.slice A0_1 l0_1.length c0_1] 28 (0,0)) (pe_ BK273.out)) : gb274 ≠ gb273));clear BK273;clear HB;have BK273:=n0_;have HB:=n1_;have BK274:=n2_;have GW274:=n3_;have GE274:=n4_;have NB273_274:=n5_;have NB274_273:=n6_;clear n0_ n1_ n2_ n3_ n4_ n5_ n6_;clear hb hbox hg)|((with_reducible refine gate_dst (N:=4) rfl ?_);refine box_event ?hg (N:=4) ?hd (cs:=#[.int .i64 0,.slice none 0 0]) (t:=28) ?hr ?_;(case hd => rfl);(case hg => rfl);(case hr => first|(go_simp;done)|(go_simp;rfl));intro gb275 hg w5 hbox hb;have n0_:=Aside0.mk (blk_below (g:=gb273) (o:=.cells #[.int .i64 a0_0,.slice A0_1 l0_1.length c0_1] 28 (0,0)) (pe_ BK273.out) hb);have n1_:=Aside0.mk (blk_below (g:=gb274) (o:=.cells #[.int .i64 a1_0,.slice A1_1 l1_1.length c1_1] 28 (0,0)) (pe_ BK274.out) hb);have n2_:=Aside0.mk (below_step (be2_ HB.out GE273.out GE274.out) hb);have n3_:=Aside0.mk (hbox);have n4_:=Aside0.mk ((by rw [hg];exact (below_size (be2_ HB.out GE273.out GE274.out)) : w.heap.size ≤ gb275));have n5_:=Aside0.mk ((by rw [hg];exact (below_size (be2_ HB.out GE273.out GE274.out)) : w.heap.size ≤ gb275));have n6_:=Aside0.mk ((by rw [hg];exact Nat.ne_of_lt (blk_lt (g:=gb273) (o:=.cells #[.int .i64 a0_0,.slice A0_1 l0_1.length c0_1] 28 (0,0)) (pe_ BK273.out)) : gb273 ≠ gb275));have n7_:=Aside0.mk ((by rw [hg];exact Nat.ne_of_gt (blk_lt (g:=gb273) (o:=.cells #[.int .i64 a0_0,.slice A0_1 l0_1.length c0_1] 28 (0,0)) (pe_ BK273.out)) : gb275 ≠ gb273));have n8_:=Aside0.mk ((by rw [hg];exact Nat.ne_of_lt (blk_lt (g:=gb274) (o:=.cells #[.int .i64 a1_0,.slice A1_1 l1_1.length c1_1] 28 (0,0)) (pe_ BK274.out)) : gb274 ≠ gb275));have n9_:=Aside0.mk ((by rw [hg];exact Nat.ne_of_gt (blk_lt (g:=gb274) (o:=.cells #[.int .i64 a1_0,.slice A1_1 l1_1.length c1_1] 28 (0,0)) (pe_ BK274.out)) : gb275 ≠ gb274));clear BK273;clear BK274;clear HB;have BK273:=n0_;have BK274:=n1_;have HB:=n2_;have BK275:=n3_;have GW275:=n4_;have GE275:=n5_;have NB273_275:=n6_;have NB275_273:=n7_;have NB274_275:=n8_;have NB275_274:=n9_;clear n0_ n1_ n2_ n3_ n4_ n5_ n6_ n7_ n8_ n9_;clear hb hbox hg;have hnb6:=NB273_274.out;have hnc6:=NB274_273.out;have hnb7:=NB273_275.out;have hnc7:=NB275_273.out;have hcz8_0 : w5.cell? ⟨gb273,0,none⟩ = some (.int .i64 a0_0):=(blk_cell BK273.out 0).trans rfl;have hcz8_1 : w5.cell? ⟨gb273,1,none⟩ = some (.slice A0_1 l0_1.length c0_1):=(blk_cell BK273.out 1).trans rfl;have hfz8_0:=blk_frozen BK273.out 0;have hfz8_1:=blk_frozen BK273.out 1)|((with_reducible refine gate_dst (N:=5) rfl ?_);refine box_event ?hg (N:=5) ?hd (cs:=#[.int .i64 0,.slice none 0 0]) (t:=28) ?hr ?_;(case hd => rfl);(case hg => rfl);(case hr => first|(go_simp;done)|(go_simp;rfl));intro gb276 hg w9 hbox hb;have n0_:=Aside0.mk (blk_below (g:=gb273) (o:=.cells #[.int .i64 a0_0,.slice A0_1 l0_1.length c0_1] 28 (0,0)) (pe_ BK273.out) hb);have n1_:=Aside0.mk (blk_below (g:=gb274) (o:=.cells #[.int .i64 a1_0,.slice A1_1 l1_1.length c1_1] 28 (0,0)) (pe_ BK274.out) hb);have n2_:=Aside0.mk (blk_below (g:=gb275) (o:=.cells #[.int .i64 0,.slice none 0 0] 28 (0,0)) (pe_ BK275.out) hb);have n3_:=Aside0.mk (below_step (be3_ HB.out GE273.out GE274.out GE275.out) hb);have n4_:=Aside0.mk (hbox);have n5_:=Aside0.mk ((by rw [hg];exact (below_size (be3_ HB.out GE273.out GE274.out GE275.out)) : w.heap.size ≤ gb276));have n6_:=Aside0.mk ((by rw [hg];exact (below_size (be3_ HB.out GE273.out GE274.out GE275.out)) : w.heap.size ≤ gb276));have n7_:=Aside0.mk ((by rw [hg];exact Nat.ne_of_lt (blk_lt (g:=gb273) (o:=.cells #[.int .i64 a0_0,.slice A0_1 l0_1.length c0_1] 28 (0,0)) (pe_ BK273.out)) : gb273 ≠ gb276));have n8_:=Aside0.mk ((by rw [hg];exact Nat.ne_of_gt (blk_lt (g:=gb273) (o:=.cells #[.int .i64 a0_0,.slice A0_1 l0_1.length c0_1] 28 (0,0)) (pe_ BK273.out)) : gb276 ≠ gb273));have n9_:=Aside0.mk ((by rw [hg];exact Nat.ne_of_lt (blk_lt (g:=gb274) (o:=.cells #[.int .i64 a1_0,.slice A1_1 l1_1.length c1_1] 28 (0,0)) (pe_ BK274.out)) : gb274 ≠ gb276));have n10_:=Aside0.mk ((by rw [hg];exact Nat.ne_of_gt (blk_lt (g:=gb274) (o:=.cells #[.int .i64 a1_0,.slice A1_1 l1_1.length c1_1] 28 (0,0)) (pe_ BK274.out)) : gb276 ≠ gb274));have n11_:=Aside0.mk ((by rw [hg];exact Nat.ne_of_lt (blk_lt (g:=gb275) (o:=.cells #[.int .i64 0,.slice none 0 0] 28 (0,0)) (pe_ BK275.out)) : gb275 ≠ gb276));have n12_:=Aside0.mk ((by rw [hg];exact Nat.ne_of_gt (blk_lt (g:=gb275) (o:=.cells #[.int .i64 0,.slice none 0 0] 28 (0,0)) (pe_ BK275.out)) : gb276 ≠ gb275));clear BK273;clear BK274;clear BK275;clear HB;have BK273:=n0_;have BK274:=n1_;have BK275:=n2_;have HB:=n3_;have BK276:=n4_;have GW276:=n5_;have GE276:=n6_;have NB273_276:=n7_;have NB276_273:=n8_;have NB274_276:=n9_;have NB276_274:=n10_;have NB275_276:=n11_;have NB276_275:=n12_;clear n0_ n1_ n2_ n3_ n4_ n5_ n6_ n7_ n8_ n9_ n10_ n11_ n12_;clear hb hbox hg;have hnb10:=NB276_273.out;have hnc10:=NB273_276.out;have hnb11:=NB276_274.out;have hnc11:=NB274_276.out;have hnb12:=NB276_275.out;have hnc12:=NB275_276.out;have hcz13_0 : w9.cell? ⟨gb276,0,none⟩ = some (.int .i64 0):=(blk_cell BK276.out 0).trans rfl;have hcz13_1 : w9.cell? ⟨gb276,1,none⟩ = some (.slice none 0 0):=(blk_cell BK276.out 1).trans rfl;have hfz13_0:=blk_frozen BK276.out 0;have hfz13_1:=blk_frozen BK276.out 1;have hcz14_0 : w9.cell? ⟨gb273,0,none⟩ = some (.int .i64 a0_0):=(blk_cell BK273.out 0).trans rfl;have hcz14_1 : w9.cell? ⟨gb273,1,none⟩ = some (.slice A0_1 l0_1.length c0_1):=(blk_cell BK273.out 1).trans rfl;have hfz14_0:=blk_frozen BK273.out 0;have hfz14_1:=blk_frozen BK273.out 1));try go_wp2_with (first|((with_reducible refine gate_dst (N:=2) rfl ?_);refine box_event ?hg (N:=2) ?hd (cs:=#[.int .i64 a0_0,.slice A0_1 l0_1.length c0_1]) (t:=28) ?hr ?_;(case hd => rfl);(case hg => rfl);(case hr => first|(go_simp;done)|(go_simp;rfl));intro gb273 hg w3 hbox hb;have n0_:=Aside0.mk (below_step (be0_ HB.out) hb);have n1_:=Aside0.mk (hbox);have n2_:=Aside0.mk ((by rw [hg];exact (below_size (be0_ HB.out)) : w.heap.size ≤ gb273));have n3_:=Aside0.mk ((by rw [hg];exact (below_size (be0_ HB.out)) : w.heap.size ≤ gb273));clear HB;have HB:=n0_;have BK273:=n1_;have GW273:=n2_;have GE273:=n3_;clear n0_ n1_ n2_ n3_;clear hb hbox hg)|((with_reducible refine gate_dst (N:=3) rfl ?_);refine box_event ?hg (N:=3) ?hd (cs:=#[.int .i64 a1_0,.slice A1_1 l1_1.length c1_1]) (t:=28) ?hr ?_;(case hd => rfl);(case hg => rfl);(case hr => first|(go_simp;done)|(go_simp;rfl));intro gb274 hg w4 hbox hb;have n0_:=Aside0.mk (blk_below (g:=gb273) (o:=.cells #[.int .i64 a0_0,.slice A0_1 l0_1.length c0_1] 28 (0,0)) (pe_ BK273.out) hb);have n1_:=Aside0.mk (below_step (be1_ HB.out GE273.out) hb);have n2_:=Aside0.mk (hbox);have n3_:=Aside0.mk ((by rw [hg];exact (below_size (be1_ HB.out GE273.out)) : w.heap.size ≤ gb274));have n4_:=Aside0.mk ((by rw [hg];exact (below_size (be1_ HB.out GE273.out)) : w.heap.size ≤ gb274));have n5_:=Aside0.mk ((by rw [hg];exact Nat.ne_of_lt (blk_lt (g:=gb273) (o:=.cells #[.int .i64 a0_0,.slice A0_1 l0_1.length c0_1] 28 (0,0)) (pe_ BK273.out)) : gb273 ≠ gb274));have n6_:=Aside0.mk ((by rw [hg];exact Nat.ne_of_gt (blk_lt (g:=gb273) (o:=.cells #[.int .i64 a0_0,.slice A0_1 l0_1.length c0_1] 28 (0,0)) (pe_ BK273.out)) : gb274 ≠ gb273));clear BK273;clear HB;have BK273:=n0_;have HB:=n1_;have BK274:=n2_;have GW274:=n3_;have GE274:=n4_;have NB273_274:=n5_;have NB274_273:=n6_;clear n0_ n1_ n2_ n3_ n4_ n5_ n6_;clear hb hbox hg)|((with_reducible refine gate_dst (N:=4) rfl ?_);refine box_event ?hg (N:=4) ?hd (cs:=#[.int .i64 0,.slice none 0 0]) (t:=28) ?hr ?_;(case hd => rfl);(case hg => rfl);(case hr => first|(go_simp;done)|(go_simp;rfl));intro gb275 hg w5 hbox hb;have n0_:=Aside0.mk (blk_below (g:=gb273) (o:=.cells #[.int .i64 a0_0,.slice A0_1 l0_1.length c0_1] 28 (0,0)) (pe_ BK273.out) hb);have n1_:=Aside0.mk (blk_below (g:=gb274) (o:=.cells #[.int .i64 a1_0,.slice A1_1 l1_1.length c1_1] 28 (0,0)) (pe_ BK274.out) hb);have n2_:=Aside0.mk (below_step (be2_ HB.out GE273.out GE274.out) hb);have n3_:=Aside0.mk (hbox);have n4_:=Aside0.mk ((by rw [hg];exact (below_size (be2_ HB.out GE273.out GE274.out)) : w.heap.size ≤ gb275));have n5_:=Aside0.mk ((by rw [hg];exact (below_size (be2_ HB.out GE273.out GE274.out)) : w.heap.size ≤ gb275));have n6_:=Aside0.mk ((by rw [hg];exact Nat.ne_of_lt (blk_lt (g:=gb273) (o:=.cells #[.int .i64 a0_0,.slice A0_1 l0_1.length c0_1] 28 (0,0)) (pe_ BK273.out)) : gb273 ≠ gb275));have n7_:=Aside0.mk ((by rw [hg];exact Nat.ne_of_gt (blk_lt (g:=gb273) (o:=.cells #[.int .i64 a0_0,.slice A0_1 l0_1.length c0_1] 28 (0,0)) (pe_ BK273.out)) : gb275 ≠ gb273));have n8_:=Aside0.mk ((by rw [hg];exact Nat.ne_of_lt (blk_lt (g:=gb274) (o:=.cells #[.int .i64 a1_0,.slice A1_1 l1_1.length c1_1] 28 (0,0)) (pe_ BK274.out)) : gb274 ≠ gb275));have n9_:=Aside0.mk ((by rw [hg];exact Nat.ne_of_gt (blk_lt (g:=gb274) (o:=.cells #[.int .i64 a1_0,.slice A1_1 l1_1.length c1_1] 28 (0,0)) (pe_ BK274.out)) : gb275 ≠ gb274));clear BK273;clear BK274;clear HB;have BK273:=n0_;have BK274:=n1_;have HB:=n2_;have BK275:=n3_;have GW275:=n4_;have GE275:=n5_;have NB273_275:=n6_;have NB275_273:=n7_;have NB274_275:=n8_;have NB275_274:=n9_;clear n0_ n1_ n2_ n3_ n4_ n5_ n6_ n7_ n8_ n9_;clear hb hbox hg;have hnb6:=NB273_274.out;have hnc6:=NB274_273.out;have hnb7:=NB273_275.out;have hnc7:=NB275_273.out;have hcz8_0 : w5.cell? ⟨gb273,0,none⟩ = some (.int .i64 a0_0):=(blk_cell BK273.out 0).trans rfl;have hcz8_1 : w5.cell? ⟨gb273,1,none⟩ = some (.slice A0_1 l0_1.length c0_1):=(blk_cell BK273.out 1).trans rfl;have hfz8_0:=blk_frozen BK273.out 0;have hfz8_1:=blk_frozen BK273.out 1)|((with_reducible refine gate_dst (N:=5) rfl ?_);refine box_event ?hg (N:=5) ?hd (cs:=#[.int .i64 0,.slice none 0 0]) (t:=28) ?hr ?_;(case hd => rfl);(case hg => rfl);(case hr => first|(go_simp;done)|(go_simp;rfl));intro gb276 hg w9 hbox hb;have n0_:=Aside0.mk (blk_below (g:=gb273) (o:=.cells #[.int .i64 a0_0,.slice A0_1 l0_1.length c0_1] 28 (0,0)) (pe_ BK273.out) hb);have n1_:=Aside0.mk (blk_below (g:=gb274) (o:=.cells #[.int .i64 a1_0,.slice A1_1 l1_1.length c1_1] 28 (0,0)) (pe_ BK274.out) hb);have n2_:=Aside0.mk (blk_below (g:=gb275) (o:=.cells #[.int .i64 0,.slice none 0 0] 28 (0,0)) (pe_ BK275.out) hb);have n3_:=Aside0.mk (below_step (be3_ HB.out GE273.out GE274.out GE275.out) hb);have n4_:=Aside0.mk (hbox);have n5_:=Aside0.mk ((by rw [hg];exact (below_size (be3_ HB.out GE273.out GE274.out GE275.out)) : w.heap.size ≤ gb276));have n6_:=Aside0.mk ((by rw [hg];exact (below_size (be3_ HB.out GE273.out GE274.out GE275.out)) : w.heap.size ≤ gb276));have n7_:=Aside0.mk ((by rw [hg];exact Nat.ne_of_lt (blk_lt (g:=gb273) (o:=.cells #[.int .i64 a0_0,.slice A0_1 l0_1.length c0_1] 28 (0,0)) (pe_ BK273.out)) : gb273 ≠ gb276));have n8_:=Aside0.mk ((by rw [hg];exact Nat.ne_of_gt (blk_lt (g:=gb273) (o:=.cells #[.int .i64 a0_0,.slice A0_1 l0_1.length c0_1] 28 (0,0)) (pe_ BK273.out)) : gb276 ≠ gb273));have n9_:=Aside0.mk ((by rw [hg];exact Nat.ne_of_lt (blk_lt (g:=gb274) (o:=.cells #[.int .i64 a1_0,.slice A1_1 l1_1.length c1_1] 28 (0,0)) (pe_ BK274.out)) : gb274 ≠ gb276));have n10_:=Aside0.mk ((by rw [hg];exact Nat.ne_of_gt (blk_lt (g:=gb274) (o:=.cells #[.int .i64 a1_0,.slice A1_1 l1_1.length c1_1] 28 (0,0)) (pe_ BK274.out)) : gb276 ≠ gb274));have n11_:=Aside0.mk ((by rw [hg];exact Nat.ne_of_lt (blk_lt (g:=gb275) (o:=.cells #[.int .i64 0,.slice none 0 0] 28 (0,0)) (pe_ BK275.out)) : gb275 ≠ gb276));have n12_:=Aside0.mk ((by rw [hg];exact Nat.ne_of_gt (blk_lt (g:=gb275) (o:=.cells #[.int .i64 0,.slice none 0 0] 28 (0,0)) (pe_ BK275.out)) : gb276 ≠ gb275));clear BK273;clear BK274;clear BK275;clear HB;have BK273:=n0_;have BK274:=n1_;have BK275:=n2_;have HB:=n3_;have BK276:=n4_;have GW276:=n5_;have GE276:=n6_;have NB273_276:=n7_;have NB276_273:=n8_;have NB274_276:=n9_;have NB276_274:=n10_;have NB275_276:=n11_;have NB276_275:=n12_;clear n0_ n1_ n2_ n3_ n4_ n5_ n6_ n7_ n8_ n9_ n10_ n11_ n12_;clear hb hbox hg;have hnb10:=NB276_273.out;have hnc10:=NB273_276.out;have hnb11:=NB276_274.out;have hnc11:=NB274_276.out;have hnb12:=NB276_275.out;have hnc12:=NB275_276.out;have hcz13_0 : w9.cell? ⟨gb276,0,none⟩ = some (.int .i64 0):=(blk_cell BK276.out 0).trans rfl;have hcz13_1 : w9.cell? ⟨gb276,1,none⟩ = some (.slice none 0 0):=(blk_cell BK276.out 1).trans rfl;have hfz13_0:=blk_frozen BK276.out 0;have hfz13_1:=blk_frozen BK276.out 1;have hcz14_0 : w9.cell? ⟨gb273,0,none⟩ = some (.int .i64 a0_0):=(blk_cell BK273.out 0).trans rfl;have hcz14_1 : w9.cell? ⟨gb273,1,none⟩ = some (.slice A0_1 l0_1.length c0_1):=(blk_cell BK273.out 1).trans rfl;have hfz14_0:=blk_frozen BK273.out 0;have hfz14_1:=blk_frozen BK273.out 1)))
 go_loopg [17] k (fun kq v17 w' => ∃ (x17_1 : Int) (x277001_1 : List Int) (u277001 : Value),v17 = .int .i64 x17_1 ∧ Aside0 (spec_l6Mul.l0 kq (wrap64 (a0_0 * a0_0)) x17_1 a0_0 l0_1 a1_0 l1_1 a0_0 x277001_1 = some (r1,r2)) ∧ Aside0 (kq ≤ k) ∧ Aside0 (Kd.R (Kd.int .i64) 3 w' w.heap.size (fun _ => True) u277001 x277001_1) ∧ Aside0 (w'.heap[gb273]? = some (.cells #[.int .i64 a0_0,(.slice A0_1 l0_1.length c0_1)] 28 (0,0))) ∧ Aside0 (w'.heap[gb274]? = some (.cells #[.int .i64 a1_0,(.slice A1_1 l1_1.length c1_1)] 28 (0,0))) ∧ Aside0 (w'.heap[gb275]? = some (.cells #[.int .i64 0,(.slice none 0 0)] 28 (0,0))) ∧ Aside0 (w'.heap[gb276]? = some (.cells #[.int .i64 a0_0,u277001] 28 (0,0))) ∧ Aside0 (Below w.heap.size w w'))
 case atStart => exact ⟨(0),(([] : List Int)),(.slice none 0 0),(by first|rfl|(simp;done)|(simp [*];done)),H',⟨Nat.le_refl _⟩,⟨by first|exact Kd.R_nil _ _ _ _ _|exact Kd.N_nil _ _ _ _ _|exact Kd.V_nil _ _ _ _ _|exact Kd.Q_nil _ _ _ _ _|exact Kd.S_nil _ _ _ _ _⟩,⟨by refine pe_ ?_;refine blk_far ?_ NB273_276.out _;refine pe_ ?_;refine blk_far ?_ NB273_276.out _;refine pe_ ?_;exact BK273.out⟩,⟨by refine pe_ ?_;refine blk_far ?_ NB274_276.out _;refine pe_ ?_;refine blk_far ?_ NB274_276.out _;refine pe_ ?_;exact BK274.out⟩,⟨by refine pe_ ?_;refine blk_far ?_ NB275_276.out _;refine pe_ ?_;refine blk_far ?_ NB275_276.out _;refine pe_ ?_;exact BK275.out⟩,⟨by refine pe_ ?_;refine blk_put (cs:=#[.int .i64 a0_0,.slice none 0 0]) ?_ 1 _ rfl;refine pe_ ?_;refine blk_put (cs:=#[.int .i64 0,.slice none 0 0]) ?_ 0 _ rfl;refine pe_ ?_;exact BK276.out⟩,⟨be4_ HB.out GE273.out GE274.out GE275.out GE276.out⟩⟩
 case round =>
  clear H'
  try clear c1
  try clear p2
  try clear c6
  try clear p6
  try clear c7
  try clear c10
  try clear c11
  try clear c12
  try clear hcz13_0
  try clear hcz13_1
  try clear hcz14_0
  try clear hcz14_1
  try clear hcz8_0
  try clear hcz8_1
  try clear hfz13_0
  try clear hfz13_1
  try clear hfz14_0
  try clear hfz14_1
  try clear hfz8_0
  try clear hfz8_1
  obtain ⟨x17_1,x277001_1,u277001,rfl,HA,HK1,HO_277001,BK273,BK274,BK275,BK276,HB⟩:=hrel
  cases gk with
  | zero => exact absurd HA.out (by simp [spec_l6Mul.l0])
  | succ k1 =>
   have H:=HA.out
   clear HA
   simp only [spec_l6Mul.l0] at H
   by_cases c15 : x17_1 < (wrap64 (a0_0 * a0_0))
   ·rw [if_pos c15] at H
    have c15b0 : decide (x17_1 < (wrap64 (a0_0 * a0_0))) = true:=decide_eq_true c15
    clear c15
    have H':=Aside0.mk H
    clear H
    have hnb16:=NB273_274.out
    have hnc16:=NB274_273.out
    have hnb17:=NB273_275.out
    have hnc17:=NB275_273.out
    have hnb18:=NB273_276.out
    have hnc18:=NB276_273.out
    have hcz19_0 : wr.cell? ⟨gb273,0,none⟩ = some (.int .i64 a0_0):=(blk_cell BK273.out 0).trans rfl
    have hcz19_1 : wr.cell? ⟨gb273,1,none⟩ = some (.slice A0_1 l0_1.length c0_1):=(blk_cell BK273.out 1).trans rfl
    have hfz19_0:=blk_frozen BK273.out 0
    have hfz19_1:=blk_frozen BK273.out 1
    go_wp2
    repeat (go_quiet (fail);try go_wp2)
    go_loopg [7,22] k1 (fun kq v7 v22 w' => ∃ (x7_2 : Int) (x22_2 : Int),v7 = .int .i64 x7_2 ∧ v22 = .int .i64 x22_2 ∧ Aside0 (spec_l6Mul.l1 kq x17_1 x7_2 (wrap64 (a0_0 * a0_0)) x17_1 a0_0 x22_2 a0_0 l0_1 a1_0 l1_1 a0_0 x277001_1 = some (r1,r2)) ∧ Aside0 (kq ≤ k1) ∧ Aside0 (Kd.R (Kd.int .i64) 3 w' w.heap.size (fun _ => True) u277001 x277001_1) ∧ Aside0 (w'.heap[gb273]? = some (.cells #[.int .i64 a0_0,(.slice A0_1 l0_1.length c0_1)] 28 (0,0))) ∧ Aside0 (w'.heap[gb274]? = some (.cells #[.int .i64 a1_0,(.slice A1_1 l1_1.length c1_1)] 28 (0,0))) ∧ Aside0 (w'.heap[gb275]? = some (.cells #[.int .i64 0,(.slice none 0 0)] 28 (0,0))) ∧ Aside0 (w'.heap[gb276]? = some (.cells #[.int .i64 a0_0,u277001] 28 (0,0))) ∧ Aside0 (Below w.heap.size w w'))
    case atStart => exact ⟨(3),(0),(by first|rfl|(simp;done)|(simp [*];done)),(by first|rfl|(simp;done)|(simp [*];done)),H',⟨Nat.le_refl _⟩,⟨pr_ HO_277001.out⟩,⟨pe_ BK273.out⟩,⟨pe_ BK274.out⟩,⟨pe_ BK275.out⟩,⟨pe_ BK276.out⟩,⟨be4_ HB.out GE273.out GE274.out GE275.out GE276.out⟩⟩
    case round =>
     clear H'
     try clear c1
     try clear p2
     try clear c6
     try clear p6
     try clear c7
     try clear c10
     try clear c11
     try clear c12
     try clear c15
     try clear c15b0
     try clear c16
     try clear c17
     try clear c18
     try clear hcz13_0
     try clear hcz13_1
     try clear hcz14_0
     try clear hcz14_1
     try clear hcz19_0
     try clear hcz19_1
     try clear hcz8_0
     try clear hcz8_1
     try clear hfz13_0
     try clear hfz13_1
     try clear hfz14_0
     try clear hfz14_1
     try clear hfz19_0
     try clear hfz19_1
     try clear hfz8_0
     try clear hfz8_1
     try clear p2
     try clear p6
     obtain ⟨x7_2,x22_2,rfl,rfl,HA,HK2,HO_277001,BK273,BK274,BK275,BK276,HB⟩:=hrel
     cases gk with
     | zero => exact absurd HA.out (by simp [spec_l6Mul.l1])
     | succ k2 =>
      have H:=HA.out
      clear HA
      simp only [spec_l6Mul.l1] at H
      by_cases c20 : x22_2 < a0_0
      ·rw [if_pos c20] at H
       have c20b0 : decide (x22_2 < a0_0) = true:=decide_eq_true c20
       clear c20
       by_cases c21 : a0_0 = 0
       ·rw [if_pos c21] at H
        exact absurd H (by simp)
       ·rw [if_neg c21] at H
        have c21b0 : (a0_0 == 0) = false:=beq_eq_false_iff_ne.mpr c21
        have c21b1 : (a0_0 != 0) = true:=bne_iff_ne.mpr c21
        obtain ⟨ji22,hji22⟩ : ∃ j_ : Int,(wrap64 ((wrap64 ((wrap64 (Int.tdiv x17_1 a0_0)) * a0_0)) + x22_2)) = j_:=⟨_,rfl⟩
        replace H : (if 0 ≤ (ji22) then (if (ji22) < (l0_1.length : Int) then (if 0 ≤ (wrap64 ((wrap64 (x22_2 * a0_0)) + (Int.tmod x17_1 a0_0))) then (if (wrap64 ((wrap64 (x22_2 * a0_0)) + (Int.tmod x17_1 a0_0))) < (l1_1.length : Int) then (spec_l6Mul.l1 k2 x17_1 (mn x7_2 (mx (rd l0_1 (ji22)) (rd l1_1 (wrap64 ((wrap64 (x22_2 * a0_0)) + (Int.tmod x17_1 a0_0)))))) (wrap64 (a0_0 * a0_0)) x17_1 a0_0 (wrap64 (x22_2 + 1)) a0_0 l0_1 a1_0 l1_1 a0_0 x277001_1) else (none)) else (none)) else (none)) else (none)) = some (r1,r2):=by first|(rw [hji22] at H;exact H)|(simp only [hji22] at H ⊢;exact H)
        have hji22w : (IntKind.i64.wrap ((wrap64 ((wrap64 (Int.tdiv x17_1 a0_0)) * a0_0)) + x22_2)) = ji22:=(i64_w _).trans hji22
        by_cases c23 : 0 ≤ (ji22)
        ·rw [if_pos c23] at H
         have c23b0 : decide (0 ≤ (ji22)) = true:=decide_eq_true c23
         clear c23
         by_cases c24 : (ji22) < (l0_1.length : Int)
         ·rw [if_pos c24] at H
          have c24b0 : decide ((ji22) < (l0_1.length : Int)) = true:=decide_eq_true c24
          clear c24
          obtain ⟨ji25,hji25⟩ : ∃ j_ : Int,(wrap64 ((wrap64 (x22_2 * a0_0)) + (Int.tmod x17_1 a0_0))) = j_:=⟨_,rfl⟩
          replace H : (if 0 ≤ (ji25) then (if (ji25) < (l1_1.length : Int) then (spec_l6Mul.l1 k2 x17_1 (mn x7_2 (mx (rd l0_1 (ji22)) (rd l1_1 (ji25)))) (wrap64 (a0_0 * a0_0)) x17_1 a0_0 (wrap64 (x22_2 + 1)) a0_0 l0_1 a1_0 l1_1 a0_0 x277001_1) else (none)) else (none)) = some (r1,r2):=by first|(rw [hji25] at H;exact H)|(simp only [hji25] at H ⊢;exact H)
          have hji25w : (IntKind.i64.wrap ((wrap64 (x22_2 * a0_0)) + (Int.tmod x17_1 a0_0))) = ji25:=(i64_w _).trans hji25
          by_cases c26 : 0 ≤ (ji25)
          ·rw [if_pos c26] at H
           have c26b0 : decide (0 ≤ (ji25)) = true:=decide_eq_true c26
           clear c26
           by_cases c27 : (ji25) < (l1_1.length : Int)
           ·rw [if_pos c27] at H
            have c27b0 : decide ((ji25) < (l1_1.length : Int)) = true:=decide_eq_true c27
            clear c27
            obtain ⟨ji28,hji28⟩ : ∃ j_ : Int,(mx (rd l0_1 (ji22)) (rd l1_1 (ji25))) = j_:=⟨_,rfl⟩
            replace H : (spec_l6Mul.l1 k2 x17_1 (mn x7_2 (ji28)) (wrap64 (a0_0 * a0_0)) x17_1 a0_0 (wrap64 (x22_2 + 1)) a0_0 l0_1 a1_0 l1_1 a0_0 x277001_1) = some (r1,r2):=by first|(rw [hji28] at H;exact H)|(simp only [hji28] at H ⊢;exact H)
            have hji28_ : (if (rd l0_1 (ji22)) < (rd l1_1 (ji25)) then (rd l1_1 (ji25)) else (rd l0_1 (ji22))) = ji28:=hji28
            obtain ⟨ji29,hji29⟩ : ∃ j_ : Int,(mn x7_2 (ji28)) = j_:=⟨_,rfl⟩
            replace H : (spec_l6Mul.l1 k2 x17_1 ji29 (wrap64 (a0_0 * a0_0)) x17_1 a0_0 (wrap64 (x22_2 + 1)) a0_0 l0_1 a1_0 l1_1 a0_0 x277001_1) = some (r1,r2):=by first|(rw [hji29] at H;exact H)|(simp only [hji29] at H ⊢;exact H)
            have hji29_ : (if (ji28) < x7_2 then (ji28) else x7_2) = ji29:=hji29
            have H':=Aside0.mk H
            clear H
            have hnb30:=NB273_274.out
            have hnc30:=NB274_273.out
            have hnb31:=NB273_275.out
            have hnc31:=NB275_273.out
            have hnb32:=NB273_276.out
            have hnc32:=NB276_273.out
            have hcz33_0 : wr.cell? ⟨gb273,0,none⟩ = some (.int .i64 a0_0):=(blk_cell BK273.out 0).trans rfl
            have hcz33_1 : wr.cell? ⟨gb273,1,none⟩ = some (.slice A0_1 l0_1.length c0_1):=(blk_cell BK273.out 1).trans rfl
            have hfz33_0:=blk_frozen BK273.out 0
            have hfz33_1:=blk_frozen BK273.out 1
            have p277 : 0 ≤ ((ji22) : Int):=of_decide_eq_true (by first|(with_reducible assumption)|assumption)
            have q277 : (ji22) < (l0_1.length : Int):=of_decide_eq_true (by first|(with_reducible assumption)|assumption)
            obtain ⟨ad277,e277,hx277_0⟩:=Kd.at_int HR0_1.out (ji22) p277 q277
            cases e277
            replace hx277_0:=(HB.out.cell (World.block_lt_of_cell? w _ hx277_0)).trans hx277_0
            replace p277:=eq_true p277
            replace q277:=eq_true q277
            have hnb34:=NB274_275.out
            have hnc34:=NB275_274.out
            have hnb35:=NB274_276.out
            have hnc35:=NB276_274.out
            have hcz36_0 : wr.cell? ⟨gb274,0,none⟩ = some (.int .i64 a1_0):=(blk_cell BK274.out 0).trans rfl
            have hcz36_1 : wr.cell? ⟨gb274,1,none⟩ = some (.slice A1_1 l1_1.length c1_1):=(blk_cell BK274.out 1).trans rfl
            have hfz36_0:=blk_frozen BK274.out 0
            have hfz36_1:=blk_frozen BK274.out 1
            have p278 : 0 ≤ ((ji25) : Int):=of_decide_eq_true (by first|(with_reducible assumption)|assumption)
            have q278 : (ji25) < (l1_1.length : Int):=of_decide_eq_true (by first|(with_reducible assumption)|assumption)
            obtain ⟨ad278,e278,hx278_0⟩:=Kd.at_int HR1_1.out (ji25) p278 q278
            cases e278
            replace hx278_0:=(HB.out.cell (World.block_lt_of_cell? w _ hx278_0)).trans hx278_0
            replace p278:=eq_true p278
            replace q278:=eq_true q278
            go_wp2
            repeat (go_quiet (fail);try go_wp2)
            go_roundg k2
            case measure => have:=HK1.out;have:=HK2.out;omega
            case rel => exact ⟨(ji29),(wrap64 (x22_2 + 1)),(by first|rfl|(simp;done)|(simp only [← hji29] <;> (first|rfl|simp))|(simp [*];done)),(by first|rfl|(simp;done)|(simp [*];done)),H',⟨by have:=HK1.out;have:=HK2.out;omega⟩,⟨pr_ HO_277001.out⟩,⟨pe_ BK273.out⟩,⟨pe_ BK274.out⟩,⟨pe_ BK275.out⟩,⟨pe_ BK276.out⟩,⟨be4_ HB.out GE273.out GE274.out GE275.out GE276.out⟩⟩
           ·rw [if_neg c27] at H
            exact absurd H (by simp)
          ·rw [if_neg c26] at H
           exact absurd H (by simp)
         ·rw [if_neg c24] at H
          exact absurd H (by simp)
        ·rw [if_neg c23] at H
         exact absurd H (by simp)
      ·rw [if_neg c20] at H
       have c20b0 : decide (x22_2 < a0_0) = false:=decide_eq_false c20
       clear c20
       by_cases c37 : x277001_1.length < 17592186044416
       ·rw [if_pos c37] at H
        have LMc37:=Aside0.mk c37
        clear c37
        obtain ⟨y279,hy279⟩ : ∃ y_ : List Int,y_ = (x277001_1 ++ [x7_2]):=⟨_,rfl⟩
        replace H : (spec_l6Mul.l0 k2 (wrap64 (a0_0 * a0_0)) (wrap64 (x17_1 + 1)) a0_0 l0_1 a1_0 l1_1 a0_0 y279) = some (r1,r2):=by first|(rw [hy279];with_reducible exact H)|(have H2_:=(Option.bind_some _ _).symm.trans H;rw [hy279];with_reducible exact H2_)|(have H2_:=(Option.bind_some _ _).symm.trans H;with_reducible exact H2_)|with_reducible exact H|(rw [hy279];exact H)|exact H
        have Ny279:=Aside0.mk hy279
        clear hy279
        have H':=Aside0.mk H
        clear H
        have hnb38:=NB276_273.out
        have hnc38:=NB273_276.out
        have hnb39:=NB276_274.out
        have hnc39:=NB274_276.out
        have hnb40:=NB276_275.out
        have hnc40:=NB275_276.out
        have hcz41_0 : wr.cell? ⟨gb276,0,none⟩ = some (.int .i64 a0_0):=(blk_cell BK276.out 0).trans rfl
        have hcz41_1 : wr.cell? ⟨gb276,1,none⟩ = some (u277001):=(blk_cell BK276.out 1).trans rfl
        have hfz41_0:=blk_frozen BK276.out 0
        have hfz41_1:=blk_frozen BK276.out 1
        go_wp2_with (first|((with_reducible refine gate_builtin (b:=.append) (xs:=#[.tmp 56,.tmp 58]) rfl ?_);at_builtin;refine Kd.R_append (Kd.int .i64) (w0:=w) w.heap.size rfl (.tmp 56) (.tmp 58) 24 3 (.int .i64 0) 8 rfl Try.underlying24 info3 rfl (by decide) (by omega) u277001 x277001_1 x7_2 [.int .i64 x7_2] (fun _ => True) (fun _ => False) rfl rfl ?aP (fun _ hk => hk.elim) ?aF ?aO ?aB ?aS ?aL ?_;(case aP => exact rfl);(case aB => exact (be4_ HB.out GE273.out GE274.out GE275.out GE276.out));(case aF => exact (fun _ _ => trivial));(case aO => exact (pr_ HO_277001.out));(case aS => exact (below_size (be4_ HB.out GE273.out GE274.out GE275.out GE276.out)));(case aL => have:=LMc37.out;omega);intro v280 w42 ho hb hg hat;rw [← Ny279.out] at ho;have n0_:=Aside0.mk (blk_grown (g:=gb273) (o:=.cells #[.int .i64 a0_0,.slice A0_1 l0_1.length c0_1] 28 (0,0)) (pe_ BK273.out) hg (Kd.R_ne HO_277001.out BK273.out (by decide)));have n1_:=Aside0.mk (blk_grown (g:=gb274) (o:=.cells #[.int .i64 a1_0,.slice A1_1 l1_1.length c1_1] 28 (0,0)) (pe_ BK274.out) hg (Kd.R_ne HO_277001.out BK274.out (by decide)));have n2_:=Aside0.mk (blk_grown (g:=gb275) (o:=.cells #[.int .i64 0,.slice none 0 0] 28 (0,0)) (pe_ BK275.out) hg (Kd.R_ne HO_277001.out BK275.out (by decide)));have n3_:=Aside0.mk (blk_grown (g:=gb276) (o:=.cells #[.int .i64 a0_0,u277001] 28 (0,0)) (pe_ BK276.out) hg (Kd.R_ne HO_277001.out BK276.out (by decide)));have n4_:=Aside0.mk (hb);have n5_:=Aside0.mk (ho);clear BK273;clear BK274;clear BK275;clear BK276;clear HB;clear HO_277001;have BK273:=n0_;have BK274:=n1_;have BK275:=n2_;have BK276:=n3_;have HB:=n4_;have HO281:=n5_;clear n0_ n1_ n2_ n3_ n4_ n5_;clear ho hb hg hat;obtain ⟨Ao43,co43,eo43⟩:=Kd.R_slice HO281.out;subst eo43;have hcz44_0 : w42.cell? ⟨gb276,0,none⟩ = some (.int .i64 a0_0):=(blk_cell BK276.out 0).trans rfl;have hcz44_1 : w42.cell? ⟨gb276,1,none⟩ = some (u277001):=(blk_cell BK276.out 1).trans rfl;have hfz44_0:=blk_frozen BK276.out 0;have hfz44_1:=blk_frozen BK276.out 1))
        repeat (go_quiet (first|((with_reducible refine gate_builtin (b:=.append) (xs:=#[.tmp 56,.tmp 58]) rfl ?_);at_builtin;refine Kd.R_append (Kd.int .i64) (w0:=w) w.heap.size rfl (.tmp 56) (.tmp 58) 24 3 (.int .i64 0) 8 rfl Try.underlying24 info3 rfl (by decide) (by omega) u277001 x277001_1 x7_2 [.int .i64 x7_2] (fun _ => True) (fun _ => False) rfl rfl ?aP (fun _ hk => hk.elim) ?aF ?aO ?aB ?aS ?aL ?_;(case aP => exact rfl);(case aB => exact (be4_ HB.out GE273.out GE274.out GE275.out GE276.out));(case aF => exact (fun _ _ => trivial));(case aO => exact (pr_ HO_277001.out));(case aS => exact (below_size (be4_ HB.out GE273.out GE274.out GE275.out GE276.out)));(case aL => have:=LMc37.out;omega);intro v280 w42 ho hb hg hat;rw [← Ny279.out] at ho;have n0_:=Aside0.mk (blk_grown (g:=gb273) (o:=.cells #[.int .i64 a0_0,.slice A0_1 l0_1.length c0_1] 28 (0,0)) (pe_ BK273.out) hg (Kd.R_ne HO_277001.out BK273.out (by decide)));have n1_:=Aside0.mk (blk_grown (g:=gb274) (o:=.cells #[.int .i64 a1_0,.slice A1_1 l1_1.length c1_1] 28 (0,0)) (pe_ BK274.out) hg (Kd.R_ne HO_277001.out BK274.out (by decide)));have n2_:=Aside0.mk (blk_grown (g:=gb275) (o:=.cells #[.int .i64 0,.slice none 0 0] 28 (0,0)) (pe_ BK275.out) hg (Kd.R_ne HO_277001.out BK275.out (by decide)));have n3_:=Aside0.mk (blk_grown (g:=gb276) (o:=.cells #[.int .i64 a0_0,u277001] 28 (0,0)) (pe_ BK276.out) hg (Kd.R_ne HO_277001.out BK276.out (by decide)));have n4_:=Aside0.mk (hb);have n5_:=Aside0.mk (ho);clear BK273;clear BK274;clear BK275;clear BK276;clear HB;clear HO_277001;have BK273:=n0_;have BK274:=n1_;have BK275:=n2_;have BK276:=n3_;have HB:=n4_;have HO281:=n5_;clear n0_ n1_ n2_ n3_ n4_ n5_;clear ho hb hg hat;obtain ⟨Ao43,co43,eo43⟩:=Kd.R_slice HO281.out;subst eo43;have hcz44_0 : w42.cell? ⟨gb276,0,none⟩ = some (.int .i64 a0_0):=(blk_cell BK276.out 0).trans rfl;have hcz44_1 : w42.cell? ⟨gb276,1,none⟩ = some (u277001):=(blk_cell BK276.out 1).trans rfl;have hfz44_0:=blk_frozen BK276.out 0;have hfz44_1:=blk_frozen BK276.out 1));try go_wp2_with (first|((with_reducible refine gate_builtin (b:=.append) (xs:=#[.tmp 56,.tmp 58]) rfl ?_);at_builtin;refine Kd.R_append (Kd.int .i64) (w0:=w) w.heap.size rfl (.tmp 56) (.tmp 58) 24 3 (.int .i64 0) 8 rfl Try.underlying24 info3 rfl (by decide) (by omega) u277001 x277001_1 x7_2 [.int .i64 x7_2] (fun _ => True) (fun _ => False) rfl rfl ?aP (fun _ hk => hk.elim) ?aF ?aO ?aB ?aS ?aL ?_;(case aP => exact rfl);(case aB => exact (be4_ HB.out GE273.out GE274.out GE275.out GE276.out));(case aF => exact (fun _ _ => trivial));(case aO => exact (pr_ HO_277001.out));(case aS => exact (below_size (be4_ HB.out GE273.out GE274.out GE275.out GE276.out)));(case aL => have:=LMc37.out;omega);intro v280 w42 ho hb hg hat;rw [← Ny279.out] at ho;have n0_:=Aside0.mk (blk_grown (g:=gb273) (o:=.cells #[.int .i64 a0_0,.slice A0_1 l0_1.length c0_1] 28 (0,0)) (pe_ BK273.out) hg (Kd.R_ne HO_277001.out BK273.out (by decide)));have n1_:=Aside0.mk (blk_grown (g:=gb274) (o:=.cells #[.int .i64 a1_0,.slice A1_1 l1_1.length c1_1] 28 (0,0)) (pe_ BK274.out) hg (Kd.R_ne HO_277001.out BK274.out (by decide)));have n2_:=Aside0.mk (blk_grown (g:=gb275) (o:=.cells #[.int .i64 0,.slice none 0 0] 28 (0,0)) (pe_ BK275.out) hg (Kd.R_ne HO_277001.out BK275.out (by decide)));have n3_:=Aside0.mk (blk_grown (g:=gb276) (o:=.cells #[.int .i64 a0_0,u277001] 28 (0,0)) (pe_ BK276.out) hg (Kd.R_ne HO_277001.out BK276.out (by decide)));have n4_:=Aside0.mk (hb);have n5_:=Aside0.mk (ho);clear BK273;clear BK274;clear BK275;clear BK276;clear HB;clear HO_277001;have BK273:=n0_;have BK274:=n1_;have BK275:=n2_;have BK276:=n3_;have HB:=n4_;have HO281:=n5_;clear n0_ n1_ n2_ n3_ n4_ n5_;clear ho hb hg hat;obtain ⟨Ao43,co43,eo43⟩:=Kd.R_slice HO281.out;subst eo43;have hcz44_0 : w42.cell? ⟨gb276,0,none⟩ = some (.int .i64 a0_0):=(blk_cell BK276.out 0).trans rfl;have hcz44_1 : w42.cell? ⟨gb276,1,none⟩ = some (u277001):=(blk_cell BK276.out 1).trans rfl;have hfz44_0:=blk_frozen BK276.out 0;have hfz44_1:=blk_frozen BK276.out 1)))
        go_roundg k2
        case measure => have:=HK1.out;have:=HK2.out;omega
        case rel => exact ⟨(wrap64 (x17_1 + 1)),(y279),(.slice Ao43 y279.length co43),(by first|rfl|(simp;done)|(simp [*];done)),H',⟨by have:=HK1.out;have:=HK2.out;omega⟩,⟨by refine pr_ ?_;exact Kd.R_mono (Kd.R_far (p:=⟨gb276,1,none⟩) (Kd.R_types HO281.out BK276.out (by decide)) (fun _ hk => hk.2) (.slice Ao43 y279.length co43)) (fun _ hk => trivial)⟩,⟨by refine pe_ ?_;refine blk_far ?_ NB273_276.out _;refine pe_ ?_;exact BK273.out⟩,⟨by refine pe_ ?_;refine blk_far ?_ NB274_276.out _;refine pe_ ?_;exact BK274.out⟩,⟨by refine pe_ ?_;refine blk_far ?_ NB275_276.out _;refine pe_ ?_;exact BK275.out⟩,⟨by refine pe_ ?_;refine blk_put (cs:=#[.int .i64 a0_0,u277001]) ?_ 1 _ rfl;refine pe_ ?_;exact BK276.out⟩,⟨be4_ HB.out GE273.out GE274.out GE275.out GE276.out⟩⟩
       ·rw [if_neg c37] at H
        exact absurd H (by simp)
   ·rw [if_neg c15] at H
    have c15b0 : decide (x17_1 < (wrap64 (a0_0 * a0_0))) = false:=decide_eq_false c15
    clear c15
    simp only [Option.some.injEq,Prod.mk.injEq] at H
    obtain ⟨rfl,rfl⟩:=H
    have hnb45:=NB276_273.out
    have hnc45:=NB273_276.out
    have hnb46:=NB276_274.out
    have hnc46:=NB274_276.out
    have hnb47:=NB276_275.out
    have hnc47:=NB275_276.out
    have hcz48_0 : wr.cell? ⟨gb276,0,none⟩ = some (.int .i64 a0_0):=(blk_cell BK276.out 0).trans rfl
    have hcz48_1 : wr.cell? ⟨gb276,1,none⟩ = some (u277001):=(blk_cell BK276.out 1).trans rfl
    have hfz48_0:=blk_frozen BK276.out 0
    have hfz48_1:=blk_frozen BK276.out 1
    have hnb49:=NB275_273.out
    have hnc49:=NB273_275.out
    have hnb50:=NB275_274.out
    have hnc50:=NB274_275.out
    have hcz51_0 : wr.cell? ⟨gb275,0,none⟩ = some (.int .i64 0):=(blk_cell BK275.out 0).trans rfl
    have hcz51_1 : wr.cell? ⟨gb275,1,none⟩ = some (.slice none 0 0):=(blk_cell BK275.out 1).trans rfl
    have hfz51_0:=blk_frozen BK275.out 0
    have hfz51_1:=blk_frozen BK275.out 1
    obtain ⟨Ao52,co52,eo52⟩:=Kd.R_slice HO_277001.out
    subst eo52
    go_wp2
    repeat (go_quiet (fail);try go_wp2)
    refine bodyPost_ret (results_cell_row rfl _ _ gb275 28 #[.int .i64 a0_0,.slice Ao52 x277001_1.length co52] (0,0) _ rfl (by refine pe_ ?_;refine blk_put (cs:=#[.int .i64 a0_0,.slice none 0 0]) ?_ 1 _ rfl;refine pe_ ?_;refine blk_put (cs:=#[.int .i64 0,.slice none 0 0]) ?_ 0 _ rfl;refine pe_ ?_;exact BK275.out) Try.underlying28 rfl (by kernel_rfl)) rfl ?_
    exact ⟨_,by first|rfl|(simp [errW_none,errW_some] <;> rfl)|(simp [*,errW_none,errW_some] <;> rfl),by refine pr_ ?_;exact Kd.R_mono (Kd.R_far (p:=⟨gb275,1,none⟩) (Kd.R_far (p:=⟨gb275,0,none⟩) (Kd.R_types HO_277001.out BK275.out (by decide)) (fun _ hk => hk.2) (.int .i64 a0_0)) (fun _ hk => hk.2) (.slice Ao52 x277001_1.length co52)) (fun _ hk => trivial),be4_ HB.out GE273.out GE274.out GE275.out GE276.out⟩
end Go.Proofs.Ytengegdaiphfeaa.X
end
section
namespace Go.Proofs.Ytengegdaiphfeaa.X
open Go.RowKit Go.Proofs.YtengegdaiphfeaaW.PrintWords Go.Proofs.YtengegdaiphfeaaW.PrintLast Go.Proofs.YtengegdaiphfeaaW.PrintMore
attribute [local go_sem] max2_int min2_int max_two min_two max_three min_three max_four min_four
set_option linter.unusedVariables false
set_option linter.unusedSimpArgs false
def spec_l6Idempotent.f (k : Nat) (a0_0 : Int) (l0_1 : List Int) : Option (Bool):=(spec_l6Mul.f k a0_0 l0_1 a0_0 l0_1).bind fun bt285 => ((spec_l2Same.f k bt285.2 l0_1).bind fun t289 => (some t289))
theorem spec_l6Idempotent.mono : ∀ a0 a1 k,LeO (spec_l6Idempotent.f k a0 a1) (spec_l6Idempotent.f (k + 1) a0 a1):=by
 intro a0 a1 k
 unfold spec_l6Idempotent.f
 repeat' first
   | (with_reducible exact spec_l2Same.mono _ _ _)
   | (with_reducible exact spec_l6Mul.mono _ _ _ _ _)
   | (with_reducible exact LeO.refl _)
   | (with_reducible exact LeO.none _)
   | (with_reducible refine LeO.ite ?_ ?_)
   | (with_reducible refine LeO.bind ?_ (fun _ => ?_))
   | exact spec_l2Same.mono _ _ _
   | exact spec_l6Mul.mono _ _ _ _ _
   | exact LeO.none _
   | refine LeO.ite ?_ ?_
   | refine LeO.bind ?_ (fun _ => ?_)
def spec_l6Idempotent.T1 : Bool × List (List Nat × List Nat):=(true,[([],[]),([],[]),([0,1],[0,1]),([2],[2]),([],[]),([4],[4]),([3,5,2],[3,5]),([6,6,0,1,2,3,4,5,6],[6])])
def spec_l6Idempotent.B1 : List Nat:=[0,0,3,7,0,16,63,127]
theorem spec_l6Idempotent.tab1 : rtab .any (opsOf Try.f66 1) = spec_l6Idempotent.T1:=by kernel_rfl
theorem spec_l6Idempotent.bits1 : waitsOk spec_l6Idempotent.T1.2 spec_l6Idempotent.B1 = true:=by kernel_rfl
set_option maxHeartbeats 8000000 in
set_option maxRecDepth 100000 in
theorem spec_l6Idempotent.calls (k : Nat) (a0_0 : Int) (A0_1 : Option Addr) (c0_1 : Nat) (l0_1 : List Int) (r : Bool) (w : World) (hr0_1 : Kd.C (Kd.int .i64) w A0_1 l0_1.length l0_1) (hc0_1 : l0_1.length ≤ c0_1) (h : spec_l6Idempotent.f k a0_0 l0_1 = some r) :
  Calls Try.prog 66 #[.agg #[.int .i64 a0_0,.slice A0_1 l0_1.length c0_1]] w fun e w' => e = .returned (.bool r) ∧ Below w.heap.size w w':=by
 have hu28:=Try.underlying28
 have hfd28_1 : ∀ (y0 y1 : Value) (W : World),(Instr.field 28 (.agg #[y0,y1]) 1).run Try.prog W = .ok (y1) W:=fun y0 y1 W => by rfl
 have HR0_1:=Aside0.mk hr0_1
 have HC0_1:=Aside0.mk hc0_1
 clear hr0_1 hc0_1
 have HB:=Aside0.mk (Below.refl w.heap.size w)
 have H : ((spec_l6Mul.f k a0_0 l0_1 a0_0 l0_1).bind fun bt285 => ((spec_l2Same.f k bt285.2 l0_1).bind fun t289 => (some t289))) = some r:=h
 clear h
 replace H:=Option.bind_eq_some_iff.mp H
 obtain ⟨⟨t285,t286⟩,A20,H⟩:=H
 replace H : ((spec_l2Same.f k t286 l0_1).bind fun t289 => (some t289)) = some r:=H
 have A2:=Aside0.mk A20
 clear A20
 replace H:=Option.bind_eq_some_iff.mp H
 obtain ⟨t289,A30,H⟩:=H
 replace H : (some t289) = some r:=H
 have A3:=Aside0.mk A30
 clear A30
 obtain rfl:=Option.some.inj H
 go_enter Try.func66,Try.ntmps66
 try go_wp2_with (first|((with_reducible refine gate_dst (N:=1) rfl ?_);refine box_event ?hg (N:=1) ?hd (cs:=#[.int .i64 a0_0,.slice A0_1 l0_1.length c0_1]) (t:=28) ?hr ?_;(case hd => rfl);(case hg => rfl);(case hr => first|(go_simp;done)|(go_simp;rfl));intro gb284 hg w4 hbox hb;have n0_:=Aside0.mk (below_step (be0_ HB.out) hb);have n1_:=Aside0.mk (hbox);have n2_:=Aside0.mk ((by rw [hg];exact (below_size (be0_ HB.out)) : w.heap.size ≤ gb284));have n3_:=Aside0.mk ((by rw [hg];exact (below_size (be0_ HB.out)) : w.heap.size ≤ gb284));clear HB;have HB:=n0_;have BK284:=n1_;have GW284:=n2_;have GE284:=n3_;clear n0_ n1_ n2_ n3_;clear hb hbox hg))
 have n0_:=Aside0.mk (blk_drew BK284.out)
 have n1_:=Aside0.mk (below_drew1 HB.out)
 clear BK284
 clear HB
 have BK284:=n0_
 have HB:=n1_
 clear n0_ n1_
 refine start_ (n:=8) (S:=fun w' => w'.cell? ⟨gb284,0,none⟩ = some (.int .i64 a0_0) ∧ w'.cell? ⟨gb284,1,none⟩ = some (.slice A0_1 l0_1.length c0_1)) (ds:=[]) #[false,false,false,false,false,false,false,false] (by kernel_rfl) rfl rfl ⟨(blk_cell BK284.out 0).trans rfl,(blk_cell BK284.out 1).trans rfl⟩ (fun hHeld => ?_);refine with_tabW spec_l6Idempotent.tab1 spec_l6Idempotent.bits1 (fun HT_ HW_ => ?_)
 generalize w4.drew = w5 at BK284 HB hHeld ⊢
 refine pure_ (i:=4) (N:=some 7) (v:=?_) (a':=?_) #[false,false,false,false,true,false,false,false] rfl rfl (any_of HT_.out (by kernel_rfl)) (fun _ _ _ h => h) (Or.inl ⟨by rfl,?_⟩) ?_ ?_
 rotate_left
 ·intro w'
  go_simp
  with_reducible rfl
 rotate_left
 ·simp only [Act.put,List.setIfInBounds_toArray,List.set_cons_zero,List.set_cons_succ,i64_w,i32_w]
  rfl
 refine take_ (i:=0) (N:=some 3) (v:=?_) (a':=?_) #[true,false,false,false,true,false,false,false] rfl rfl (take_ofW HT_.out HW_.out (by kernel_rfl)) (fun _ _ _ h => h) (Or.inl ⟨by rfl,?_⟩) hHeld ?_ ?_
 rotate_left
 ·rintro w' ⟨s0,s1⟩
  go_simp
  with_reducible rfl
 rotate_left
 ·simp only [Act.put,List.setIfInBounds_toArray,List.set_cons_zero,List.set_cons_succ,i64_w,i32_w]
  rfl
 refine take_ (i:=1) (N:=some 4) (v:=?_) (a':=?_) #[true,true,false,false,true,false,false,false] rfl rfl (take_ofW HT_.out HW_.out (by kernel_rfl)) (fun _ _ _ h => h) (Or.inl ⟨by rfl,?_⟩) hHeld ?_ ?_
 rotate_left
 ·rintro w' ⟨s0,s1⟩
  go_simp
  with_reducible rfl
 rotate_left
 ·simp only [Act.put,List.setIfInBounds_toArray,List.set_cons_zero,List.set_cons_succ,i64_w,i32_w]
  rfl
 refine take_ (i:=5) (N:=some 8) (v:=?_) (a':=?_) #[true,true,false,false,true,true,false,false] rfl rfl (take_ofW HT_.out HW_.out (by kernel_rfl)) (fun _ _ _ h => h) (Or.inl ⟨by rfl,?_⟩) hHeld ?_ ?_
 rotate_left
 ·rintro w' ⟨s0,s1⟩
  go_simp
  with_reducible rfl
 rotate_left
 ·simp only [Act.put,List.setIfInBounds_toArray,List.set_cons_zero,List.set_cons_succ,i64_w,i32_w]
  rfl
 refine one_ (i:=2) (N:=some 5) #[true,true,true,false,true,true,false,false] rfl rfl (one_of HT_.out (by kernel_rfl)) (by decide) (fun K hK => ?_)
 refine goes_ Try.func68 (by kernel_rfl) rfl #[.agg #[.int .i64 a0_0,.slice A0_1 l0_1.length c0_1],.agg #[.int .i64 a0_0,.slice A0_1 l0_1.length c0_1]] (by rfl) rfl rfl lp_ ?_
 with_reducible refine (spec_l6Mul.calls k a0_0 _ _ l0_1 a0_0 _ _ l0_1 t285 t286 _ ?side1 ?side2 ?side3 ?side4 A2.out).mono ?_
 (case side1 => repeat (first|exact (Kd.C_below HR0_1.out HB.out)|(with_reducible refine Kd.C_alloc ?_ _)|(with_reducible refine Kd.C_drewN ?_ _)|(with_reducible refine Kd.C_drew ?_)))
 (case side2 => exact HC0_1.out)
 (case side3 => repeat (first|exact (Kd.C_below HR0_1.out HB.out)|(with_reducible refine Kd.C_alloc ?_ _)|(with_reducible refine Kd.C_drewN ?_ _)|(with_reducible refine Kd.C_drew ?_)))
 (case side4 => exact HC0_1.out)
 rintro e w6 ⟨v287,rfl,ho0,hb⟩
 refine ⟨_,rfl,?_⟩
 have n0_:=Aside0.mk (Kd.R_lower ho0 (below_size (be1_ HB.out GE284.out)))
 have n1_:=Aside0.mk (blk_below (g:=gb284) (o:=.cells #[.int .i64 a0_0,.slice A0_1 l0_1.length c0_1] 28 (0,0)) (pe_ BK284.out) hb)
 have n2_:=Aside0.mk (below_step (be1_ HB.out GE284.out) hb)
 clear BK284
 clear HB
 have HO288:=n0_
 have BK284:=n1_
 have HB:=n2_
 clear n0_ n1_ n2_
 (try clear hb)
 (try clear hb2)
 (try clear hk)
 (try clear hi)
 (try clear ho0)
 obtain ⟨Ao7,co7,eo7⟩:=Kd.R_slice HO288.out
 (first|subst eo7|(injection eo7 with f1_ f2_ f3_;have f4_:=f1_.symm;have f5_:=f3_.symm;clear f1_ f2_ f3_;subst f4_;subst f5_))
 refine hK.out _ _ ⟨(blk_cell BK284.out 0).trans rfl,(blk_cell BK284.out 1).trans rfl⟩ (fun hHeld => ?_)
 clear hK K
 refine norm_ (a':=?_) ?_ ?_
 rotate_left
 ·show Act.put _ (some 5) _ = _
  simp only [Act.put,List.setIfInBounds_toArray,List.set_cons_zero,List.set_cons_succ,i64_w,i32_w]
  rfl
 refine pure_ (i:=3) (N:=some 6) (v:=?_) (a':=?_) #[true,true,true,true,true,true,false,false] rfl rfl (any_of HT_.out (by kernel_rfl)) (fun _ _ _ h => h) (Or.inl ⟨by rfl,?_⟩) ?_ ?_
 rotate_left
 ·intro w'
  go_simp
  with_reducible rfl
 rotate_left
 ·simp only [Act.put,List.setIfInBounds_toArray,List.set_cons_zero,List.set_cons_succ,i64_w,i32_w]
  rfl
 refine one_ (i:=6) (N:=some 9) #[true,true,true,true,true,true,true,false] rfl rfl (one_of HT_.out (by kernel_rfl)) (by decide) (fun K hK => ?_)
 refine goes_ Try.func101 (by kernel_rfl) rfl #[.slice Ao7 t286.length co7,.slice A0_1 l0_1.length c0_1] (by rfl) rfl rfl lp_ ?_
 with_reducible refine (spec_l2Same.calls k _ _ t286 _ _ l0_1 t289 _ ?side1 ?side2 ?side3 ?side4 A3.out).mono ?_
 (case side1 => repeat (first|exact (Kd.R_reads' HO288.out).2.2|(with_reducible refine Kd.C_alloc ?_ _)|(with_reducible refine Kd.C_drewN ?_ _)|(with_reducible refine Kd.C_drew ?_)))
 (case side2 => exact (Kd.R_reads' HO288.out).2.1)
 (case side3 => repeat (first|exact (Kd.C_below HR0_1.out HB.out)|(with_reducible refine Kd.C_alloc ?_ _)|(with_reducible refine Kd.C_drewN ?_ _)|(with_reducible refine Kd.C_drew ?_)))
 (case side4 => exact HC0_1.out)
 rintro e w8 ⟨rfl,hb⟩
 refine ⟨_,rfl,?_⟩
 have n0_:=Aside0.mk (Kd.R_below (pr_ HO288.out) hb)
 have n1_:=Aside0.mk (blk_below (g:=gb284) (o:=.cells #[.int .i64 a0_0,.slice A0_1 l0_1.length c0_1] 28 (0,0)) (pe_ BK284.out) hb)
 have n2_:=Aside0.mk (below_step (be1_ HB.out GE284.out) hb)
 clear HO288
 clear BK284
 clear HB
 have HO288:=n0_
 have BK284:=n1_
 have HB:=n2_
 clear n0_ n1_ n2_
 (try clear hb)
 (try clear hb2)
 (try clear hk)
 (try clear hi)
 refine hK.out _ _ ⟨(blk_cell BK284.out 0).trans rfl,(blk_cell BK284.out 1).trans rfl⟩ (fun hHeld => ?_)
 clear hK K
 refine norm_ (a':=?_) ?_ ?_
 rotate_left
 ·show Act.put _ (some 9) _ = _
  simp only [Act.put,List.setIfInBounds_toArray,List.set_cons_zero,List.set_cons_succ,i64_w,i32_w]
  rfl
 refine pure_ (i:=7) (N:=some 2) (v:=?_) (a':=?_) #[true,true,true,true,true,true,true,true] rfl rfl (any_of HT_.out (by kernel_rfl)) (fun _ _ _ h => h) (Or.inl ⟨by rfl,?_⟩) ?_ ?_
 rotate_left
 ·intro w'
  go_simp
  with_reducible rfl
 rotate_left
 ·simp only [Act.put,List.setIfInBounds_toArray,List.set_cons_zero,List.set_cons_succ,i64_w,i32_w]
  rfl
 refine done_ (done_of HT_.out (by kernel_rfl)) ?_
 try go_wp2
 go_ret
 exact ⟨by first|rfl|(simp [errW_none,errW_some] <;> rfl)|(simp [*,errW_none,errW_some] <;> rfl),be1_ HB.out GE284.out⟩
end Go.Proofs.Ytengegdaiphfeaa.X
end
section
namespace Go.Proofs.Ytengegdaiphfeaa.X
open Go.RowKit Go.Proofs.YtengegdaiphfeaaW.PrintWords Go.Proofs.YtengegdaiphfeaaW.PrintLast Go.Proofs.YtengegdaiphfeaaW.PrintMore
attribute [local go_sem] max2_int min2_int max_two min_two max_three min_three max_four min_four
set_option linter.unusedVariables false
set_option linter.unusedSimpArgs false
def spec_IdempotentOf.l0 : Nat → Int → Int → List Int → Int → List Int → Option (Int × List Int × Int × Bool)
 | 0,_,_,_,_,_ => none
 | k + 1,x5,x505000,x505001,x512000,x512001 => (spec_l6Idempotent.f k x512000 x512001).bind fun t512 => (if t512 = true then (some (x512000,x512001,x5,true)) else ((spec_l6Mul.f k x512000 x512001 x505000 x505001).bind fun bt513 => (spec_IdempotentOf.l0 k (wrap64 (x5 + 1)) x505000 x505001 bt513.1 bt513.2)))
def spec_IdempotentOf.f (k : Nat) (a0_0 : Int) (l0_1 : List Int) : Option (Int × List Int × Int × Bool):=(spec_l13OwnMatrix.f a0_0 l0_1).bind fun bt506 => ((spec_GradesValid.f k bt506.1 bt506.2).bind fun t510 => (if t510 = true then (spec_IdempotentOf.l0 k 1 bt506.1 bt506.2 bt506.1 bt506.2) else (some (0,([] : List Int),0,false))))
theorem spec_IdempotentOf.mono_l : ∀ k,(∀ y0 y1 y2 y3 y4,LeO (spec_IdempotentOf.l0 k y0 y1 y2 y3 y4) (spec_IdempotentOf.l0 (k + 1) y0 y1 y2 y3 y4))
 | 0 => fun _ _ _ _ _ r h => by simp [spec_IdempotentOf.l0] at h
 | k + 1 => by
  have ih0:=spec_IdempotentOf.mono_l k
  ·intro y0 y1 y2 y3 y4
   unfold spec_IdempotentOf.l0
   repeat' first
   | (with_reducible exact ih0 _ _ _ _ _)
   | (with_reducible exact spec_GradesValid.mono _ _ _)
   | (with_reducible exact spec_l6Idempotent.mono _ _ _)
   | (with_reducible exact spec_l6Mul.mono _ _ _ _ _)
   | (with_reducible exact LeO.refl _)
   | (with_reducible exact LeO.none _)
   | (with_reducible refine LeO.ite ?_ ?_)
   | (with_reducible refine LeO.bind ?_ (fun _ => ?_))
   | exact ih0 _ _ _ _ _
   | exact spec_GradesValid.mono _ _ _
   | exact spec_l6Idempotent.mono _ _ _
   | exact spec_l6Mul.mono _ _ _ _ _
   | exact LeO.none _
   | refine LeO.ite ?_ ?_
   | refine LeO.bind ?_ (fun _ => ?_)
theorem spec_IdempotentOf.mono : ∀ a0 a1 k,LeO (spec_IdempotentOf.f k a0 a1) (spec_IdempotentOf.f (k + 1) a0 a1):=by
 intro a0 a1 k
 have ih0:=spec_IdempotentOf.mono_l k
 unfold spec_IdempotentOf.f
 repeat' first
   | (with_reducible exact ih0 _ _ _ _ _)
   | (with_reducible exact spec_GradesValid.mono _ _ _)
   | (with_reducible exact spec_l6Idempotent.mono _ _ _)
   | (with_reducible exact spec_l6Mul.mono _ _ _ _ _)
   | (with_reducible exact LeO.refl _)
   | (with_reducible exact LeO.none _)
   | (with_reducible refine LeO.ite ?_ ?_)
   | (with_reducible refine LeO.bind ?_ (fun _ => ?_))
   | exact ih0 _ _ _ _ _
   | exact spec_GradesValid.mono _ _ _
   | exact spec_l6Idempotent.mono _ _ _
   | exact spec_l6Mul.mono _ _ _ _ _
   | exact LeO.none _
   | refine LeO.ite ?_ ?_
   | refine LeO.bind ?_ (fun _ => ?_)
set_option maxHeartbeats 8000000 in
set_option maxRecDepth 100000 in
theorem spec_IdempotentOf.calls (k : Nat) (a0_0 : Int) (A0_1 : Option Addr) (c0_1 : Nat) (l0_1 : List Int) (r1 : Int) (r2 : List Int) (r3 : Int) (r4 : Bool) (w : World) (hr0_1 : Kd.C (Kd.int .i64) w A0_1 l0_1.length l0_1) (hc0_1 : l0_1.length ≤ c0_1) (h : spec_IdempotentOf.f k a0_0 l0_1 = some (r1,r2,r3,r4)) :
  Calls Try.prog 30 #[.agg #[.int .i64 a0_0,.slice A0_1 l0_1.length c0_1]] w fun e w' => ∃ v1_ : Value,e = .returned (.tuple #[.agg #[.int .i64 r1,v1_],.int .i64 r3,.bool r4]) ∧ Kd.R (Kd.int .i64) 3 w' w.heap.size (fun _ => True) v1_ r2 ∧ Below w.heap.size w w':=by
 have hu28:=Try.underlying28
 have HR0_1:=Aside0.mk hr0_1
 have HC0_1:=Aside0.mk hc0_1
 clear hr0_1 hc0_1
 have HB:=Aside0.mk (Below.refl w.heap.size w)
 have H : ((spec_l13OwnMatrix.f a0_0 l0_1).bind fun bt506 => ((spec_GradesValid.f k bt506.1 bt506.2).bind fun t510 => (if t510 = true then (spec_IdempotentOf.l0 k 1 bt506.1 bt506.2 bt506.1 bt506.2) else (some (0,([] : List Int),0,false))))) = some (r1,r2,r3,r4):=h
 clear h
 replace H:=Option.bind_eq_some_iff.mp H
 obtain ⟨⟨t506,t507⟩,A20,H⟩:=H
 replace H : ((spec_GradesValid.f k t506 t507).bind fun t510 => (if t510 = true then (spec_IdempotentOf.l0 k 1 t506 t507 t506 t507) else (some (0,([] : List Int),0,false)))) = some (r1,r2,r3,r4):=H
 have A2:=Aside0.mk A20
 clear A20
 replace H:=Option.bind_eq_some_iff.mp H
 obtain ⟨t510,A30,H⟩:=H
 replace H : (if t510 = true then (spec_IdempotentOf.l0 k 1 t506 t507 t506 t507) else (some (0,([] : List Int),0,false))) = some (r1,r2,r3,r4):=H
 have A3:=Aside0.mk A30
 clear A30
 by_cases c4 : t510 = true
 ·subst c4
  have H1 : (spec_IdempotentOf.l0 k 1 t506 t507 t506 t507) = some (r1,r2,r3,r4):=by rw [if_pos rfl] at H;exact H
  clear H
  have H:=H1
  clear H1
  have H':=Aside0.mk H
  clear H
  go_enter Try.func30,Try.ntmps30
  go_wp2_with (first|((with_reducible refine gate_dst (N:=1) rfl ?_);refine box_event ?hg (N:=1) ?hd (cs:=#[.int .i64 a0_0,.slice A0_1 l0_1.length c0_1]) (t:=28) ?hr ?_;(case hd => rfl);(case hg => rfl);(case hr => first|(go_simp;done)|(go_simp;rfl));intro gb504 hg w5 hbox hb;have n0_:=Aside0.mk (below_step (be0_ HB.out) hb);have n1_:=Aside0.mk (hbox);have n2_:=Aside0.mk ((by rw [hg];exact (below_size (be0_ HB.out)) : w.heap.size ≤ gb504));have n3_:=Aside0.mk ((by rw [hg];exact (below_size (be0_ HB.out)) : w.heap.size ≤ gb504));clear HB;have HB:=n0_;have BK504:=n1_;have GW504:=n2_;have GE504:=n3_;clear n0_ n1_ n2_ n3_;clear hb hbox hg)|((with_reducible refine gate_dst (N:=2) rfl ?_);refine box_event ?hg (N:=2) ?hd (cs:=#[.int .i64 0,.slice none 0 0]) (t:=28) ?hr ?_;(case hd => rfl);(case hg => rfl);(case hr => first|(go_simp;done)|(go_simp;rfl));intro gb505 hg w6 hbox hb;have n0_:=Aside0.mk (blk_below (g:=gb504) (o:=.cells #[.int .i64 a0_0,.slice A0_1 l0_1.length c0_1] 28 (0,0)) (pe_ BK504.out) hb);have n1_:=Aside0.mk (below_step (be1_ HB.out GE504.out) hb);have n2_:=Aside0.mk (hbox);have n3_:=Aside0.mk ((by rw [hg];exact (below_size (be1_ HB.out GE504.out)) : w.heap.size ≤ gb505));have n4_:=Aside0.mk ((by rw [hg];exact (below_size (be1_ HB.out GE504.out)) : w.heap.size ≤ gb505));have n5_:=Aside0.mk ((by rw [hg];exact Nat.ne_of_lt (blk_lt (g:=gb504) (o:=.cells #[.int .i64 a0_0,.slice A0_1 l0_1.length c0_1] 28 (0,0)) (pe_ BK504.out)) : gb504 ≠ gb505));have n6_:=Aside0.mk ((by rw [hg];exact Nat.ne_of_gt (blk_lt (g:=gb504) (o:=.cells #[.int .i64 a0_0,.slice A0_1 l0_1.length c0_1] 28 (0,0)) (pe_ BK504.out)) : gb505 ≠ gb504));clear BK504;clear HB;have BK504:=n0_;have HB:=n1_;have BK505:=n2_;have GW505:=n3_;have GE505:=n4_;have NB504_505:=n5_;have NB505_504:=n6_;clear n0_ n1_ n2_ n3_ n4_ n5_ n6_;clear hb hbox hg;have hnb7:=NB504_505.out;have hnc7:=NB505_504.out;have hcz8_0 : w6.cell? ⟨gb504,0,none⟩ = some (.int .i64 a0_0):=(blk_cell BK504.out 0).trans rfl;have hcz8_1 : w6.cell? ⟨gb504,1,none⟩ = some (.slice A0_1 l0_1.length c0_1):=(blk_cell BK504.out 1).trans rfl;have hfz8_0:=blk_frozen BK504.out 0;have hfz8_1:=blk_frozen BK504.out 1)|((with_reducible refine gate_callee (f:=72) rfl ?_);refine goesL_ (some 8) rfl rfl Try.func72 (by kernel_rfl) rfl #[.agg #[.int .i64 a0_0,.slice A0_1 l0_1.length c0_1]] rfl lp_ ?_;(with_reducible refine (spec_l13OwnMatrix.calls a0_0 _ _ l0_1 t506 t507 _ ?side1 ?side2 A2.out).mono ?_);(case side1 => repeat (first|exact (Kd.C_below HR0_1.out HB.out)|(with_reducible refine Kd.C_alloc ?_ _)|(with_reducible refine Kd.C_drewN ?_ _)|(with_reducible refine Kd.C_drew ?_)));(case side2 => exact HC0_1.out);rintro e w9 ⟨v508,rfl,ho0,hb⟩;refine ⟨_,rfl,?_⟩;have n0_:=Aside0.mk (Kd.R_lower ho0 (below_size (be2_ HB.out GE504.out GE505.out)));have n1_:=Aside0.mk (blk_below (g:=gb504) (o:=.cells #[.int .i64 a0_0,.slice A0_1 l0_1.length c0_1] 28 (0,0)) (pe_ BK504.out) hb);have n2_:=Aside0.mk (blk_below (g:=gb505) (o:=.cells #[.int .i64 0,.slice none 0 0] 28 (0,0)) (pe_ BK505.out) hb);have n3_:=Aside0.mk (below_step (be2_ HB.out GE504.out GE505.out) hb);clear BK504;clear BK505;clear HB;have HO509:=n0_;have BK504:=n1_;have BK505:=n2_;have HB:=n3_;clear n0_ n1_ n2_ n3_;(try clear hb);(try clear hb2);(try clear hk);(try clear hi);(try clear ho0);have hcz10_0 : w9.cell? ⟨gb504,0,none⟩ = some (.int .i64 a0_0):=(blk_cell BK504.out 0).trans rfl;have hcz10_1 : w9.cell? ⟨gb504,1,none⟩ = some (.slice A0_1 l0_1.length c0_1):=(blk_cell BK504.out 1).trans rfl;have hfz10_0:=blk_frozen BK504.out 0;have hfz10_1:=blk_frozen BK504.out 1;obtain ⟨Ao11,co11,eo11⟩:=Kd.R_slice HO509.out;subst eo11)|((with_reducible refine gate_callee (f:=65) rfl ?_);refine goesL_ (some 10) rfl rfl Try.func65 (by kernel_rfl) rfl #[.agg #[.int .i64 t506,.slice Ao11 t507.length co11]] rfl lp_ ?_;(with_reducible refine (spec_GradesValid.calls k t506 _ _ t507 true _ ?side1 ?side2 A3.out).mono ?_);(case side1 => refine (Kd.R_reads' (e:=3) (base:=w.heap.size) (ok:=fun k_ => True) (n:=t507.length) (c:=co11) ?_).2.2;exact (by refine pr_ ?_;exact (Kd.R_mono (Kd.R_far (p:=⟨gb504,1,none⟩) (Kd.R_far (p:=⟨gb504,0,none⟩) (Kd.R_types HO509.out BK504.out (by decide)) (fun _ hk => hk.2) (.int .i64 t506)) (fun _ hk => hk.2) (.slice Ao11 t507.length co11)) (fun _ h_ => h_.1))));(case side2 => exact (Kd.R_reads' HO509.out).2.1);rintro e w12 ⟨rfl,hb⟩;refine ⟨_,rfl,?_⟩;have n0_:=Aside0.mk (Kd.R_below (by refine pr_ ?_;exact (Kd.R_mono (Kd.R_far (p:=⟨gb504,1,none⟩) (Kd.R_far (p:=⟨gb504,0,none⟩) (Kd.R_types HO509.out BK504.out (by decide)) (fun _ hk => hk.2) (.int .i64 t506)) (fun _ hk => hk.2) (.slice Ao11 t507.length co11)) (fun _ h_ => h_.1))) hb);have n1_:=Aside0.mk (blk_below (g:=gb504) (o:=.cells #[.int .i64 t506,.slice Ao11 t507.length co11] 28 (0,0)) (by refine pe_ ?_;refine blk_put (cs:=#[.int .i64 t506,.slice A0_1 l0_1.length c0_1]) ?_ 1 _ rfl;refine pe_ ?_;refine blk_put (cs:=#[.int .i64 a0_0,.slice A0_1 l0_1.length c0_1]) ?_ 0 _ rfl;refine pe_ ?_;exact BK504.out) hb);have n2_:=Aside0.mk (blk_below (g:=gb505) (o:=.cells #[.int .i64 0,.slice none 0 0] 28 (0,0)) (by refine pe_ ?_;refine blk_far ?_ NB505_504.out _;refine pe_ ?_;refine blk_far ?_ NB505_504.out _;refine pe_ ?_;exact BK505.out) hb);have n3_:=Aside0.mk (below_step (be2_ HB.out GE504.out GE505.out) hb);clear HO509;clear BK504;clear BK505;clear HB;have HO509:=n0_;have BK504:=n1_;have BK505:=n2_;have HB:=n3_;clear n0_ n1_ n2_ n3_;(try clear hb);(try clear hb2);(try clear hk);(try clear hi);have hcz13_0 : w12.cell? ⟨gb504,0,none⟩ = some (.int .i64 t506):=(blk_cell BK504.out 0).trans rfl;have hcz13_1 : w12.cell? ⟨gb504,1,none⟩ = some (.slice Ao11 t507.length co11):=(blk_cell BK504.out 1).trans rfl;have hfz13_0:=blk_frozen BK504.out 0;have hfz13_1:=blk_frozen BK504.out 1)|((with_reducible refine gate_dst (N:=6) rfl ?_);refine box_event ?hg (N:=6) ?hd (cs:=#[.int .i64 0,.slice none 0 0]) (t:=28) ?hr ?_;(case hd => rfl);(case hg => rfl);(case hr => first|(go_simp;done)|(go_simp;rfl));intro gb511 hg w14 hbox hb;have n0_:=Aside0.mk (Kd.R_below (pr_ HO509.out) hb);have n1_:=Aside0.mk (blk_below (g:=gb504) (o:=.cells #[.int .i64 t506,.slice Ao11 t507.length co11] 28 (0,0)) (pe_ BK504.out) hb);have n2_:=Aside0.mk (blk_below (g:=gb505) (o:=.cells #[.int .i64 0,.slice none 0 0] 28 (0,0)) (pe_ BK505.out) hb);have n3_:=Aside0.mk (below_step (be2_ HB.out GE504.out GE505.out) hb);have n4_:=Aside0.mk (hbox);have n5_:=Aside0.mk ((by rw [hg];exact (below_size (be2_ HB.out GE504.out GE505.out)) : w.heap.size ≤ gb511));have n6_:=Aside0.mk ((by rw [hg];exact (below_size (be2_ HB.out GE504.out GE505.out)) : w.heap.size ≤ gb511));have n7_:=Aside0.mk ((by rw [hg];exact Nat.ne_of_lt (blk_lt (g:=gb504) (o:=.cells #[.int .i64 t506,.slice Ao11 t507.length co11] 28 (0,0)) (pe_ BK504.out)) : gb504 ≠ gb511));have n8_:=Aside0.mk ((by rw [hg];exact Nat.ne_of_gt (blk_lt (g:=gb504) (o:=.cells #[.int .i64 t506,.slice Ao11 t507.length co11] 28 (0,0)) (pe_ BK504.out)) : gb511 ≠ gb504));have n9_:=Aside0.mk ((by rw [hg];exact Nat.ne_of_lt (blk_lt (g:=gb505) (o:=.cells #[.int .i64 0,.slice none 0 0] 28 (0,0)) (pe_ BK505.out)) : gb505 ≠ gb511));have n10_:=Aside0.mk ((by rw [hg];exact Nat.ne_of_gt (blk_lt (g:=gb505) (o:=.cells #[.int .i64 0,.slice none 0 0] 28 (0,0)) (pe_ BK505.out)) : gb511 ≠ gb505));clear HO509;clear BK504;clear BK505;clear HB;have HO509:=n0_;have BK504:=n1_;have BK505:=n2_;have HB:=n3_;have BK511:=n4_;have GW511:=n5_;have GE511:=n6_;have NB504_511:=n7_;have NB511_504:=n8_;have NB505_511:=n9_;have NB511_505:=n10_;clear n0_ n1_ n2_ n3_ n4_ n5_ n6_ n7_ n8_ n9_ n10_;clear hb hbox hg;have hnb15:=NB511_504.out;have hnc15:=NB504_511.out;have hnb16:=NB511_505.out;have hnc16:=NB505_511.out;have hcz17_0 : w14.cell? ⟨gb511,0,none⟩ = some (.int .i64 0):=(blk_cell BK511.out 0).trans rfl;have hcz17_1 : w14.cell? ⟨gb511,1,none⟩ = some (.slice none 0 0):=(blk_cell BK511.out 1).trans rfl;have hfz17_0:=blk_frozen BK511.out 0;have hfz17_1:=blk_frozen BK511.out 1))
  go_loopg [5] k (fun kq v5 w' => ∃ (x5_1 : Int) (x512000_1 : Int) (x512001_1 : List Int) (u512001 : Value),v5 = .int .i64 x5_1 ∧ Aside0 (spec_IdempotentOf.l0 kq x5_1 t506 t507 x512000_1 x512001_1 = some (r1,r2,r3,r4)) ∧ Aside0 (kq ≤ k) ∧ Aside0 (Kd.R (Kd.int .i64) 3 w' w.heap.size (fun _ => True) (.slice Ao11 t507.length co11) t507) ∧ Aside0 (Kd.R (Kd.int .i64) 3 w' w.heap.size (fun _ => True) u512001 x512001_1) ∧ Aside0 (w'.heap[gb504]? = some (.cells #[.int .i64 t506,(.slice Ao11 t507.length co11)] 28 (0,0))) ∧ Aside0 (w'.heap[gb505]? = some (.cells #[.int .i64 0,(.slice none 0 0)] 28 (0,0))) ∧ Aside0 (w'.heap[gb511]? = some (.cells #[.int .i64 x512000_1,u512001] 28 (0,0))) ∧ Aside0 (Below w.heap.size w w'))
  case atStart => exact ⟨(1),(t506),(t507),(.slice Ao11 t507.length co11),(by first|rfl|(simp;done)|(simp [*];done)),H',⟨Nat.le_refl _⟩,⟨by refine pr_ ?_;exact Kd.R_mono (Kd.R_far (p:=⟨gb511,1,none⟩) (Kd.R_far (p:=⟨gb511,0,none⟩) (Kd.R_types HO509.out BK511.out (by decide)) (fun _ hk => hk.2) (.int .i64 t506)) (fun _ hk => hk.2) (.slice Ao11 t507.length co11)) (fun _ hk => trivial)⟩,⟨by refine pr_ ?_;exact Kd.R_mono (Kd.R_far (p:=⟨gb511,1,none⟩) (Kd.R_far (p:=⟨gb511,0,none⟩) (Kd.R_types HO509.out BK511.out (by decide)) (fun _ hk => hk.2) (.int .i64 t506)) (fun _ hk => hk.2) (.slice Ao11 t507.length co11)) (fun _ hk => trivial)⟩,⟨by refine pe_ ?_;refine blk_far ?_ NB504_511.out _;refine pe_ ?_;refine blk_far ?_ NB504_511.out _;refine pe_ ?_;exact BK504.out⟩,⟨by refine pe_ ?_;refine blk_far ?_ NB505_511.out _;refine pe_ ?_;refine blk_far ?_ NB505_511.out _;refine pe_ ?_;exact BK505.out⟩,⟨by refine pe_ ?_;refine blk_put (cs:=#[.int .i64 t506,.slice none 0 0]) ?_ 1 _ rfl;refine pe_ ?_;refine blk_put (cs:=#[.int .i64 0,.slice none 0 0]) ?_ 0 _ rfl;refine pe_ ?_;exact BK511.out⟩,⟨be3_ HB.out GE504.out GE505.out GE511.out⟩⟩
  case round =>
   clear H'
   try clear c1
   try clear p2
   try clear c3
   try clear c4
   try clear c6
   try clear c7
   try clear c15
   try clear c16
   try clear hcz10_0
   try clear hcz10_1
   try clear hcz13_0
   try clear hcz13_1
   try clear hcz17_0
   try clear hcz17_1
   try clear hcz8_0
   try clear hcz8_1
   try clear hfz10_0
   try clear hfz10_1
   try clear hfz13_0
   try clear hfz13_1
   try clear hfz17_0
   try clear hfz17_1
   try clear hfz8_0
   try clear hfz8_1
   obtain ⟨x5_1,x512000_1,x512001_1,u512001,rfl,HA,HK1,HO_505001,HO_512001,BK504,BK505,BK511,HB⟩:=hrel
   cases gk with
   | zero => exact absurd HA.out (by simp [spec_IdempotentOf.l0])
   | succ k1 =>
    have H:=HA.out
    clear HA
    simp only [spec_IdempotentOf.l0] at H
    replace H:=Option.bind_eq_some_iff.mp H
    obtain ⟨t512,A180,H⟩:=H
    replace H : (if t512 = true then (some (x512000_1,x512001_1,x5_1,true)) else ((spec_l6Mul.f k1 x512000_1 x512001_1 t506 t507).bind fun bt513 => (spec_IdempotentOf.l0 k1 (wrap64 (x5_1 + 1)) t506 t507 bt513.1 bt513.2))) = some (r1,r2,r3,r4):=H
    have A18:=Aside0.mk A180
    clear A180
    by_cases c19 : t512 = true
    ·subst c19
     have H1 : (some (x512000_1,x512001_1,x5_1,true)) = some (r1,r2,r3,r4):=by rw [if_pos rfl] at H;exact H
     clear H
     have H:=H1
     clear H1
     simp only [Option.some.injEq,Prod.mk.injEq] at H
     obtain ⟨rfl,rfl,rfl,rfl⟩:=H
     have hnb20:=NB511_504.out
     have hnc20:=NB504_511.out
     have hnb21:=NB511_505.out
     have hnc21:=NB505_511.out
     have hcz22_0 : wr.cell? ⟨gb511,0,none⟩ = some (.int .i64 x512000_1):=(blk_cell BK511.out 0).trans rfl
     have hcz22_1 : wr.cell? ⟨gb511,1,none⟩ = some (u512001):=(blk_cell BK511.out 1).trans rfl
     have hfz22_0:=blk_frozen BK511.out 0
     have hfz22_1:=blk_frozen BK511.out 1
     obtain ⟨Ao23,co23,eo23⟩:=Kd.R_slice HO_512001.out
     subst eo23
     go_wp2_with (first|((with_reducible refine gate_callee (f:=66) rfl ?_);refine goesL_ (some 15) rfl rfl Try.func66 (by kernel_rfl) rfl #[.agg #[.int .i64 x512000_1,.slice Ao23 x512001_1.length co23]] rfl lp_ ?_;(with_reducible refine (spec_l6Idempotent.calls k1 x512000_1 _ _ x512001_1 true _ ?side1 ?side2 A18.out).mono ?_);(case side1 => repeat (first|exact (Kd.R_reads' HO_512001.out).2.2|(with_reducible refine Kd.C_alloc ?_ _)|(with_reducible refine Kd.C_drewN ?_ _)|(with_reducible refine Kd.C_drew ?_)));(case side2 => exact (Kd.R_reads' HO_512001.out).2.1);rintro e w24 ⟨rfl,hb⟩;refine ⟨_,rfl,?_⟩;have n0_:=Aside0.mk (Kd.R_below (pr_ HO_505001.out) hb);have n1_:=Aside0.mk (Kd.R_below (pr_ HO_512001.out) hb);have n2_:=Aside0.mk (blk_below (g:=gb504) (o:=.cells #[.int .i64 t506,.slice Ao11 t507.length co11] 28 (0,0)) (pe_ BK504.out) hb);have n3_:=Aside0.mk (blk_below (g:=gb505) (o:=.cells #[.int .i64 0,.slice none 0 0] 28 (0,0)) (pe_ BK505.out) hb);have n4_:=Aside0.mk (blk_below (g:=gb511) (o:=.cells #[.int .i64 x512000_1,.slice Ao23 x512001_1.length co23] 28 (0,0)) (pe_ BK511.out) hb);have n5_:=Aside0.mk (below_step (be3_ HB.out GE504.out GE505.out GE511.out) hb);clear HO_505001;clear HO_512001;clear BK504;clear BK505;clear BK511;clear HB;have HO_505001:=n0_;have HO_512001:=n1_;have BK504:=n2_;have BK505:=n3_;have BK511:=n4_;have HB:=n5_;clear n0_ n1_ n2_ n3_ n4_ n5_;(try clear hb);(try clear hb2);(try clear hk);(try clear hi);have hcz25_0 : w24.cell? ⟨gb511,0,none⟩ = some (.int .i64 x512000_1):=(blk_cell BK511.out 0).trans rfl;have hcz25_1 : w24.cell? ⟨gb511,1,none⟩ = some (.slice Ao23 x512001_1.length co23):=(blk_cell BK511.out 1).trans rfl;have hfz25_0:=blk_frozen BK511.out 0;have hfz25_1:=blk_frozen BK511.out 1;have hnb26:=NB505_504.out;have hnc26:=NB504_505.out;have hcz27_0 : w24.cell? ⟨gb505,0,none⟩ = some (.int .i64 0):=(blk_cell BK505.out 0).trans rfl;have hcz27_1 : w24.cell? ⟨gb505,1,none⟩ = some (.slice none 0 0):=(blk_cell BK505.out 1).trans rfl;have hfz27_0:=blk_frozen BK505.out 0;have hfz27_1:=blk_frozen BK505.out 1))
     refine bodyPost_ret (results_ctt rfl _ _ gb505 28 #[.int .i64 x512000_1,.slice Ao23 x512001_1.length co23] (0,0) _ rfl (by refine pe_ ?_;refine blk_put (cs:=#[.int .i64 x512000_1,.slice none 0 0]) ?_ 1 _ rfl;refine pe_ ?_;refine blk_put (cs:=#[.int .i64 0,.slice none 0 0]) ?_ 0 _ rfl;refine pe_ ?_;exact BK505.out) Try.underlying28 rfl (by kernel_rfl)) rfl ?_
     exact ⟨_,by first|rfl|(simp [errW_none,errW_some] <;> rfl)|(simp [*,errW_none,errW_some] <;> rfl),by refine pr_ ?_;exact Kd.R_mono (Kd.R_far (p:=⟨gb505,1,none⟩) (Kd.R_far (p:=⟨gb505,0,none⟩) (Kd.R_types HO_512001.out BK505.out (by decide)) (fun _ hk => hk.2) (.int .i64 x512000_1)) (fun _ hk => hk.2) (.slice Ao23 x512001_1.length co23)) (fun _ hk => trivial),be3_ HB.out GE504.out GE505.out GE511.out⟩
    ·replace c19:=Bool.eq_false_iff.mpr c19
     subst c19
     have H1 : ((spec_l6Mul.f k1 x512000_1 x512001_1 t506 t507).bind fun bt513 => (spec_IdempotentOf.l0 k1 (wrap64 (x5_1 + 1)) t506 t507 bt513.1 bt513.2)) = some (r1,r2,r3,r4):=by rw [if_neg (show ¬ (false = true) by decide)] at H;exact H
     clear H
     have H:=H1
     clear H1
     replace H:=Option.bind_eq_some_iff.mp H
     obtain ⟨⟨t513,t514⟩,A280,H⟩:=H
     replace H : (spec_IdempotentOf.l0 k1 (wrap64 (x5_1 + 1)) t506 t507 t513 t514) = some (r1,r2,r3,r4):=H
     have A28:=Aside0.mk A280
     clear A280
     have H':=Aside0.mk H
     clear H
     have hnb29:=NB511_504.out
     have hnc29:=NB504_511.out
     have hnb30:=NB511_505.out
     have hnc30:=NB505_511.out
     have hcz31_0 : wr.cell? ⟨gb511,0,none⟩ = some (.int .i64 x512000_1):=(blk_cell BK511.out 0).trans rfl
     have hcz31_1 : wr.cell? ⟨gb511,1,none⟩ = some (u512001):=(blk_cell BK511.out 1).trans rfl
     have hfz31_0:=blk_frozen BK511.out 0
     have hfz31_1:=blk_frozen BK511.out 1
     obtain ⟨Ao32,co32,eo32⟩:=Kd.R_slice HO_512001.out
     subst eo32
     go_wp2_with (first|((with_reducible refine gate_callee (f:=66) rfl ?_);refine goesL_ (some 15) rfl rfl Try.func66 (by kernel_rfl) rfl #[.agg #[.int .i64 x512000_1,.slice Ao32 x512001_1.length co32]] rfl lp_ ?_;(with_reducible refine (spec_l6Idempotent.calls k1 x512000_1 _ _ x512001_1 false _ ?side1 ?side2 A18.out).mono ?_);(case side1 => repeat (first|exact (Kd.R_reads' HO_512001.out).2.2|(with_reducible refine Kd.C_alloc ?_ _)|(with_reducible refine Kd.C_drewN ?_ _)|(with_reducible refine Kd.C_drew ?_)));(case side2 => exact (Kd.R_reads' HO_512001.out).2.1);rintro e w33 ⟨rfl,hb⟩;refine ⟨_,rfl,?_⟩;have n0_:=Aside0.mk (Kd.R_below (pr_ HO_505001.out) hb);have n1_:=Aside0.mk (Kd.R_below (pr_ HO_512001.out) hb);have n2_:=Aside0.mk (blk_below (g:=gb504) (o:=.cells #[.int .i64 t506,.slice Ao11 t507.length co11] 28 (0,0)) (pe_ BK504.out) hb);have n3_:=Aside0.mk (blk_below (g:=gb505) (o:=.cells #[.int .i64 0,.slice none 0 0] 28 (0,0)) (pe_ BK505.out) hb);have n4_:=Aside0.mk (blk_below (g:=gb511) (o:=.cells #[.int .i64 x512000_1,.slice Ao32 x512001_1.length co32] 28 (0,0)) (pe_ BK511.out) hb);have n5_:=Aside0.mk (below_step (be3_ HB.out GE504.out GE505.out GE511.out) hb);clear HO_505001;clear HO_512001;clear BK504;clear BK505;clear BK511;clear HB;have HO_505001:=n0_;have HO_512001:=n1_;have BK504:=n2_;have BK505:=n3_;have BK511:=n4_;have HB:=n5_;clear n0_ n1_ n2_ n3_ n4_ n5_;(try clear hb);(try clear hb2);(try clear hk);(try clear hi);have hcz34_0 : w33.cell? ⟨gb511,0,none⟩ = some (.int .i64 x512000_1):=(blk_cell BK511.out 0).trans rfl;have hcz34_1 : w33.cell? ⟨gb511,1,none⟩ = some (.slice Ao32 x512001_1.length co32):=(blk_cell BK511.out 1).trans rfl;have hfz34_0:=blk_frozen BK511.out 0;have hfz34_1:=blk_frozen BK511.out 1;have hnb35:=NB504_505.out;have hnc35:=NB505_504.out;have hcz36_0 : w33.cell? ⟨gb504,0,none⟩ = some (.int .i64 t506):=(blk_cell BK504.out 0).trans rfl;have hcz36_1 : w33.cell? ⟨gb504,1,none⟩ = some (.slice Ao11 t507.length co11):=(blk_cell BK504.out 1).trans rfl;have hfz36_0:=blk_frozen BK504.out 0;have hfz36_1:=blk_frozen BK504.out 1)|((with_reducible refine gate_callee (f:=68) rfl ?_);refine goesL_ (some 19) rfl rfl Try.func68 (by kernel_rfl) rfl #[.agg #[.int .i64 x512000_1,.slice Ao32 x512001_1.length co32],.agg #[.int .i64 t506,.slice Ao11 t507.length co11]] rfl lp_ ?_;(with_reducible refine (spec_l6Mul.calls k1 x512000_1 _ _ x512001_1 t506 _ _ t507 t513 t514 _ ?side1 ?side2 ?side3 ?side4 A28.out).mono ?_);(case side1 => repeat (first|exact (Kd.R_reads' HO_512001.out).2.2|(with_reducible refine Kd.C_alloc ?_ _)|(with_reducible refine Kd.C_drewN ?_ _)|(with_reducible refine Kd.C_drew ?_)));(case side2 => exact (Kd.R_reads' HO_512001.out).2.1);(case side3 => repeat (first|exact (Kd.R_reads' HO_505001.out).2.2|(with_reducible refine Kd.C_alloc ?_ _)|(with_reducible refine Kd.C_drewN ?_ _)|(with_reducible refine Kd.C_drew ?_)));(case side4 => exact (Kd.R_reads' HO_505001.out).2.1);rintro e w37 ⟨v515,rfl,ho0,hb⟩;refine ⟨_,rfl,?_⟩;have n0_:=Aside0.mk (Kd.R_elder' (pr_ HO_505001.out) (Kd.R_base ho0) hb);have n1_:=Aside0.mk (Kd.R_elder' (pr_ HO_512001.out) (Kd.R_base ho0) hb);have n2_:=Aside0.mk (Kd.R_lower (Kd.R_new' (Kd.R_new' ho0 (Kd.R_lt (pr_ HO_505001.out))) (Kd.R_lt (pr_ HO_512001.out))) (below_size (be3_ HB.out GE504.out GE505.out GE511.out)));have n3_:=Aside0.mk (blk_below (g:=gb504) (o:=.cells #[.int .i64 t506,.slice Ao11 t507.length co11] 28 (0,0)) (pe_ BK504.out) hb);have n4_:=Aside0.mk (blk_below (g:=gb505) (o:=.cells #[.int .i64 0,.slice none 0 0] 28 (0,0)) (pe_ BK505.out) hb);have n5_:=Aside0.mk (blk_below (g:=gb511) (o:=.cells #[.int .i64 x512000_1,.slice Ao32 x512001_1.length co32] 28 (0,0)) (pe_ BK511.out) hb);have n6_:=Aside0.mk (below_step (be3_ HB.out GE504.out GE505.out GE511.out) hb);clear HO_505001;clear HO_512001;clear BK504;clear BK505;clear BK511;clear HB;have HO_505001:=n0_;have HO_512001:=n1_;have HO516:=n2_;have BK504:=n3_;have BK505:=n4_;have BK511:=n5_;have HB:=n6_;clear n0_ n1_ n2_ n3_ n4_ n5_ n6_;(try clear hb);(try clear hb2);(try clear hk);(try clear hi);(try clear ho0);have hcz38_0 : w37.cell? ⟨gb511,0,none⟩ = some (.int .i64 x512000_1):=(blk_cell BK511.out 0).trans rfl;have hcz38_1 : w37.cell? ⟨gb511,1,none⟩ = some (.slice Ao32 x512001_1.length co32):=(blk_cell BK511.out 1).trans rfl;have hfz38_0:=blk_frozen BK511.out 0;have hfz38_1:=blk_frozen BK511.out 1;obtain ⟨Ao39,co39,eo39⟩:=Kd.R_slice HO516.out;subst eo39))
     go_roundg k1
     case measure => have:=HK1.out;omega
     case rel => exact ⟨(wrap64 (x5_1 + 1)),(t513),(t514),(.slice Ao39 t514.length co39),(by first|rfl|(simp;done)|(simp [*];done)),H',⟨by have:=HK1.out;omega⟩,⟨by refine pr_ ?_;exact Kd.R_mono (Kd.R_far (p:=⟨gb511,1,none⟩) (Kd.R_far (p:=⟨gb511,0,none⟩) (Kd.R_types HO_505001.out BK511.out (by decide)) (fun _ hk => hk.2) (.int .i64 t513)) (fun _ hk => hk.2) (.slice Ao39 t514.length co39)) (fun _ hk => (by first|exact hk.1.2|trivial))⟩,⟨by refine pr_ ?_;exact Kd.R_mono (Kd.R_far (p:=⟨gb511,1,none⟩) (Kd.R_far (p:=⟨gb511,0,none⟩) (Kd.R_types HO516.out BK511.out (by decide)) (fun _ hk => hk.2) (.int .i64 t513)) (fun _ hk => hk.2) (.slice Ao39 t514.length co39)) (fun _ hk => (by first|exact hk.1.1.2|trivial))⟩,⟨by refine pe_ ?_;refine blk_far ?_ NB504_511.out _;refine pe_ ?_;refine blk_far ?_ NB504_511.out _;refine pe_ ?_;exact BK504.out⟩,⟨by refine pe_ ?_;refine blk_far ?_ NB505_511.out _;refine pe_ ?_;refine blk_far ?_ NB505_511.out _;refine pe_ ?_;exact BK505.out⟩,⟨by refine pe_ ?_;refine blk_put (cs:=#[.int .i64 t513,.slice Ao32 x512001_1.length co32]) ?_ 1 _ rfl;refine pe_ ?_;refine blk_put (cs:=#[.int .i64 x512000_1,.slice Ao32 x512001_1.length co32]) ?_ 0 _ rfl;refine pe_ ?_;exact BK511.out⟩,⟨be3_ HB.out GE504.out GE505.out GE511.out⟩⟩
 ·replace c4:=Bool.eq_false_iff.mpr c4
  subst c4
  have H1 : (some (0,([] : List Int),0,false)) = some (r1,r2,r3,r4):=by rw [if_neg (show ¬ (false = true) by decide)] at H;exact H
  clear H
  have H:=H1
  clear H1
  simp only [Option.some.injEq,Prod.mk.injEq] at H
  obtain ⟨rfl,rfl,rfl,rfl⟩:=H
  go_enter Try.func30,Try.ntmps30
  go_wp2_with (first|((with_reducible refine gate_dst (N:=1) rfl ?_);refine box_event ?hg (N:=1) ?hd (cs:=#[.int .i64 a0_0,.slice A0_1 l0_1.length c0_1]) (t:=28) ?hr ?_;(case hd => rfl);(case hg => rfl);(case hr => first|(go_simp;done)|(go_simp;rfl));intro gb504 hg w40 hbox hb;have n0_:=Aside0.mk (below_step (be0_ HB.out) hb);have n1_:=Aside0.mk (hbox);have n2_:=Aside0.mk ((by rw [hg];exact (below_size (be0_ HB.out)) : w.heap.size ≤ gb504));have n3_:=Aside0.mk ((by rw [hg];exact (below_size (be0_ HB.out)) : w.heap.size ≤ gb504));clear HB;have HB:=n0_;have BK504:=n1_;have GW504:=n2_;have GE504:=n3_;clear n0_ n1_ n2_ n3_;clear hb hbox hg)|((with_reducible refine gate_dst (N:=2) rfl ?_);refine box_event ?hg (N:=2) ?hd (cs:=#[.int .i64 0,.slice none 0 0]) (t:=28) ?hr ?_;(case hd => rfl);(case hg => rfl);(case hr => first|(go_simp;done)|(go_simp;rfl));intro gb505 hg w41 hbox hb;have n0_:=Aside0.mk (blk_below (g:=gb504) (o:=.cells #[.int .i64 a0_0,.slice A0_1 l0_1.length c0_1] 28 (0,0)) (pe_ BK504.out) hb);have n1_:=Aside0.mk (below_step (be1_ HB.out GE504.out) hb);have n2_:=Aside0.mk (hbox);have n3_:=Aside0.mk ((by rw [hg];exact (below_size (be1_ HB.out GE504.out)) : w.heap.size ≤ gb505));have n4_:=Aside0.mk ((by rw [hg];exact (below_size (be1_ HB.out GE504.out)) : w.heap.size ≤ gb505));have n5_:=Aside0.mk ((by rw [hg];exact Nat.ne_of_lt (blk_lt (g:=gb504) (o:=.cells #[.int .i64 a0_0,.slice A0_1 l0_1.length c0_1] 28 (0,0)) (pe_ BK504.out)) : gb504 ≠ gb505));have n6_:=Aside0.mk ((by rw [hg];exact Nat.ne_of_gt (blk_lt (g:=gb504) (o:=.cells #[.int .i64 a0_0,.slice A0_1 l0_1.length c0_1] 28 (0,0)) (pe_ BK504.out)) : gb505 ≠ gb504));clear BK504;clear HB;have BK504:=n0_;have HB:=n1_;have BK505:=n2_;have GW505:=n3_;have GE505:=n4_;have NB504_505:=n5_;have NB505_504:=n6_;clear n0_ n1_ n2_ n3_ n4_ n5_ n6_;clear hb hbox hg;have hnb42:=NB504_505.out;have hnc42:=NB505_504.out;have hcz43_0 : w41.cell? ⟨gb504,0,none⟩ = some (.int .i64 a0_0):=(blk_cell BK504.out 0).trans rfl;have hcz43_1 : w41.cell? ⟨gb504,1,none⟩ = some (.slice A0_1 l0_1.length c0_1):=(blk_cell BK504.out 1).trans rfl;have hfz43_0:=blk_frozen BK504.out 0;have hfz43_1:=blk_frozen BK504.out 1)|((with_reducible refine gate_callee (f:=72) rfl ?_);refine goesL_ (some 8) rfl rfl Try.func72 (by kernel_rfl) rfl #[.agg #[.int .i64 a0_0,.slice A0_1 l0_1.length c0_1]] rfl lp_ ?_;(with_reducible refine (spec_l13OwnMatrix.calls a0_0 _ _ l0_1 t506 t507 _ ?side1 ?side2 A2.out).mono ?_);(case side1 => repeat (first|exact (Kd.C_below HR0_1.out HB.out)|(with_reducible refine Kd.C_alloc ?_ _)|(with_reducible refine Kd.C_drewN ?_ _)|(with_reducible refine Kd.C_drew ?_)));(case side2 => exact HC0_1.out);rintro e w44 ⟨v508,rfl,ho0,hb⟩;refine ⟨_,rfl,?_⟩;have n0_:=Aside0.mk (Kd.R_lower ho0 (below_size (be2_ HB.out GE504.out GE505.out)));have n1_:=Aside0.mk (blk_below (g:=gb504) (o:=.cells #[.int .i64 a0_0,.slice A0_1 l0_1.length c0_1] 28 (0,0)) (pe_ BK504.out) hb);have n2_:=Aside0.mk (blk_below (g:=gb505) (o:=.cells #[.int .i64 0,.slice none 0 0] 28 (0,0)) (pe_ BK505.out) hb);have n3_:=Aside0.mk (below_step (be2_ HB.out GE504.out GE505.out) hb);clear BK504;clear BK505;clear HB;have HO509:=n0_;have BK504:=n1_;have BK505:=n2_;have HB:=n3_;clear n0_ n1_ n2_ n3_;(try clear hb);(try clear hb2);(try clear hk);(try clear hi);(try clear ho0);have hcz45_0 : w44.cell? ⟨gb504,0,none⟩ = some (.int .i64 a0_0):=(blk_cell BK504.out 0).trans rfl;have hcz45_1 : w44.cell? ⟨gb504,1,none⟩ = some (.slice A0_1 l0_1.length c0_1):=(blk_cell BK504.out 1).trans rfl;have hfz45_0:=blk_frozen BK504.out 0;have hfz45_1:=blk_frozen BK504.out 1;obtain ⟨Ao46,co46,eo46⟩:=Kd.R_slice HO509.out;subst eo46)|((with_reducible refine gate_callee (f:=65) rfl ?_);refine goesL_ (some 10) rfl rfl Try.func65 (by kernel_rfl) rfl #[.agg #[.int .i64 t506,.slice Ao46 t507.length co46]] rfl lp_ ?_;(with_reducible refine (spec_GradesValid.calls k t506 _ _ t507 false _ ?side1 ?side2 A3.out).mono ?_);(case side1 => refine (Kd.R_reads' (e:=3) (base:=w.heap.size) (ok:=fun k_ => True) (n:=t507.length) (c:=co46) ?_).2.2;exact (by refine pr_ ?_;exact (Kd.R_mono (Kd.R_far (p:=⟨gb504,1,none⟩) (Kd.R_far (p:=⟨gb504,0,none⟩) (Kd.R_types HO509.out BK504.out (by decide)) (fun _ hk => hk.2) (.int .i64 t506)) (fun _ hk => hk.2) (.slice Ao46 t507.length co46)) (fun _ h_ => h_.1))));(case side2 => exact (Kd.R_reads' HO509.out).2.1);rintro e w47 ⟨rfl,hb⟩;refine ⟨_,rfl,?_⟩;have n0_:=Aside0.mk (Kd.R_below (by refine pr_ ?_;exact (Kd.R_mono (Kd.R_far (p:=⟨gb504,1,none⟩) (Kd.R_far (p:=⟨gb504,0,none⟩) (Kd.R_types HO509.out BK504.out (by decide)) (fun _ hk => hk.2) (.int .i64 t506)) (fun _ hk => hk.2) (.slice Ao46 t507.length co46)) (fun _ h_ => h_.1))) hb);have n1_:=Aside0.mk (blk_below (g:=gb504) (o:=.cells #[.int .i64 t506,.slice Ao46 t507.length co46] 28 (0,0)) (by refine pe_ ?_;refine blk_put (cs:=#[.int .i64 t506,.slice A0_1 l0_1.length c0_1]) ?_ 1 _ rfl;refine pe_ ?_;refine blk_put (cs:=#[.int .i64 a0_0,.slice A0_1 l0_1.length c0_1]) ?_ 0 _ rfl;refine pe_ ?_;exact BK504.out) hb);have n2_:=Aside0.mk (blk_below (g:=gb505) (o:=.cells #[.int .i64 0,.slice none 0 0] 28 (0,0)) (by refine pe_ ?_;refine blk_far ?_ NB505_504.out _;refine pe_ ?_;refine blk_far ?_ NB505_504.out _;refine pe_ ?_;exact BK505.out) hb);have n3_:=Aside0.mk (below_step (be2_ HB.out GE504.out GE505.out) hb);clear HO509;clear BK504;clear BK505;clear HB;have HO509:=n0_;have BK504:=n1_;have BK505:=n2_;have HB:=n3_;clear n0_ n1_ n2_ n3_;(try clear hb);(try clear hb2);(try clear hk);(try clear hi);have hcz48_0 : w47.cell? ⟨gb505,0,none⟩ = some (.int .i64 0):=(blk_cell BK505.out 0).trans rfl;have hcz48_1 : w47.cell? ⟨gb505,1,none⟩ = some (.slice none 0 0):=(blk_cell BK505.out 1).trans rfl;have hfz48_0:=blk_frozen BK505.out 0;have hfz48_1:=blk_frozen BK505.out 1))
  refine bodyPost_ret (results_ctt rfl _ _ gb505 28 #[.int .i64 0,.slice none 0 0] (0,0) _ rfl (by refine pe_ ?_;refine blk_put (cs:=#[.int .i64 0,.slice none 0 0]) ?_ 1 _ rfl;refine pe_ ?_;refine blk_put (cs:=#[.int .i64 0,.slice none 0 0]) ?_ 0 _ rfl;refine pe_ ?_;exact BK505.out) Try.underlying28 rfl (by kernel_rfl)) rfl ?_
  exact ⟨_,by first|rfl|(simp [errW_none,errW_some] <;> rfl)|(simp [*,errW_none,errW_some] <;> rfl),by first|exact Kd.R_nil _ _ _ _ _|exact Kd.N_nil _ _ _ _ _|exact Kd.V_nil _ _ _ _ _|exact Kd.Q_nil _ _ _ _ _|exact Kd.S_nil _ _ _ _ _,be2_ HB.out GE504.out GE505.out⟩
end Go.Proofs.Ytengegdaiphfeaa.X
end
section
namespace Go.Proofs.Ytengegdaiphfeaa.X
open Go.RowKit Go.Proofs.YtengegdaiphfeaaW.PrintWords Go.Proofs.YtengegdaiphfeaaW.PrintLast Go.Proofs.YtengegdaiphfeaaW.PrintMore
attribute [local go_sem] max2_int min2_int max_two min_two max_three min_three max_four min_four
set_option linter.unusedVariables false
set_option linter.unusedSimpArgs false
def spec_l13Rd_num.f (k : Nat) (s0_0 : List Int) (s0_1 : Int) (l1 : List Int) : Option (Int × Int):=(spec_l13Rd_pick.f k s0_0 s0_1 (l1.length : Int)).bind fun bt419 => (if 0 ≤ bt419.1 then (if bt419.1 < (l1.length : Int) then (some (rd l1 bt419.1,bt419.2)) else (none)) else (none))
theorem spec_l13Rd_num.mono : ∀ a0 a1 a2 k,LeO (spec_l13Rd_num.f k a0 a1 a2) (spec_l13Rd_num.f (k + 1) a0 a1 a2):=by
 intro a0 a1 a2 k
 unfold spec_l13Rd_num.f
 repeat' first
   | (with_reducible exact spec_l13Rd_pick.mono _ _ _ _)
   | (with_reducible exact LeO.refl _)
   | (with_reducible exact LeO.none _)
   | (with_reducible refine LeO.ite ?_ ?_)
   | (with_reducible refine LeO.bind ?_ (fun _ => ?_))
   | exact spec_l13Rd_pick.mono _ _ _ _
   | exact LeO.none _
   | refine LeO.ite ?_ ?_
   | refine LeO.bind ?_ (fun _ => ?_)
set_option maxHeartbeats 8000000 in
set_option maxRecDepth 100000 in
theorem spec_l13Rd_num.calls (k : Nat) (g : Nat) (s0_0 : List Int) (s0_1 : Int) (A1 : Option Addr) (c1 : Nat) (l1 : List Int) (r1 : Int) (r2 : Int) (w0 w : World) (hI : IsS90 w0 w g s0_0 s0_1) (hB : Below w0.heap.size w0 w) (hr1 : Kd.C (Kd.int .i64) w A1 l1.length l1) (hc1 : l1.length ≤ c1) (hf1 : ∀ ad,A1 = some ad → 0 < l1.length → ad.block ≠ g) (h : spec_l13Rd_num.f k s0_0 s0_1 l1 = some (r1,r2)) :
  Calls Try.prog 88 #[.pointer (some ⟨g,0,none⟩),.slice A1 l1.length c1] w fun e w' => e = .returned (.int .i64 r1) ∧ IsS90 w0 w' g s0_0 r2 ∧ Below w0.heap.size w0 w' ∧ KeepBut w w' g none:=by
 have HR1:=Aside0.mk hr1
 have HC1:=Aside0.mk hc1
 clear hr1 hc1
 have HI0:=Aside0.mk hI
 have HK:=Aside0.mk (KeepBut.refl w g none)
 have HL:=Aside0.mk hB.size
 clear hI
 have HW0:=Aside0.mk hB.size
 have HB:=Aside0.mk hB
 clear hB
 have H : ((spec_l13Rd_pick.f k s0_0 s0_1 (l1.length : Int)).bind fun bt419 => (if 0 ≤ bt419.1 then (if bt419.1 < (l1.length : Int) then (some (rd l1 bt419.1,bt419.2)) else (none)) else (none))) = some (r1,r2):=h
 clear h
 replace H:=Option.bind_eq_some_iff.mp H
 obtain ⟨⟨t419,t420⟩,A30,H⟩:=H
 replace H : (if 0 ≤ t419 then (if t419 < (l1.length : Int) then (some (rd l1 t419,t420)) else (none)) else (none)) = some (r1,r2):=H
 have A3:=Aside0.mk A30
 clear A30
 by_cases c4 : 0 ≤ t419
 ·rw [if_pos c4] at H
  have c4b0 : decide (0 ≤ t419) = true:=decide_eq_true c4
  clear c4
  by_cases c5 : t419 < (l1.length : Int)
  ·rw [if_pos c5] at H
   have c5b0 : decide (t419 < (l1.length : Int)) = true:=decide_eq_true c5
   clear c5
   simp only [Option.some.injEq,Prod.mk.injEq] at H
   obtain ⟨rfl,rfl⟩:=H
   go_enter Try.func88,Try.ntmps88
   go_wp2_with (first|((with_reducible refine gate_callee (f:=76) rfl ?_);refine goesL_ (some 9) rfl rfl Try.func76 (by kernel_rfl) rfl #[.pointer (some ⟨g,0,none⟩),.int .i64 (l1.length : Int)] rfl lp_ ?_;(with_reducible refine (spec_l13Rd_pick.calls k g s0_0 s0_1 (l1.length : Int) t419 t420 w0 _ ?side1 ?side2 A3.out).mono ?_);(case side1 => repeat (first|(with_reducible first|exact HI0.out|apply IsS90.alloc|apply IsS90.drewN|apply IsS90.drew|apply IsS90.set_1)|exact HI0.out));(case side2 => repeat (first|(with_reducible first|exact HB.out|apply below_alloc|apply pw_below_drewN|apply below_drew1|refine below_set ?_ (IsS90.ge HI0.out))|exact HB.out));rintro e w6 ⟨rfl,hi,hb,hk⟩;refine ⟨_,rfl,?_⟩;have n0_:=Aside0.mk (KeepBut.trans (ke0_ HK.out) hk (.inl rfl));have n1_:=Aside0.mk (hb);have n2_:=Aside0.mk (hi);clear HK;clear HB;clear HI0;have HK:=n0_;have HB:=n1_;have HI0:=n2_;clear n0_ n1_ n2_;(try clear hb);(try clear hb2);(try clear hk);(try clear hi);have p421 : 0 ≤ (t419 : Int):=of_decide_eq_true (by first|(with_reducible assumption)|assumption);have q421 : t419 < (l1.length : Int):=of_decide_eq_true (by first|(with_reducible assumption)|assumption);obtain ⟨ad421,e421,hx421_0⟩:=Kd.at_int HR1.out t419 p421 q421;cases e421;replace hx421_0:=keep_cell HK.out hx421_0 (by first|(rw [add_block];exact hf1 _ rfl (by omega))|exact hf1 _ rfl (by omega)|exact hf1 ad421 rfl (by omega));replace p421:=eq_true p421;replace q421:=eq_true q421))
   go_ret
   exact ⟨by first|rfl|(simp [errW_none,errW_some] <;> rfl)|(simp [*,errW_none,errW_some] <;> rfl),by repeat (first|(with_reducible first|exact HI0.out|apply IsS90.alloc|apply IsS90.drewN|apply IsS90.drew|apply IsS90.set_1)|exact HI0.out),by repeat (first|(with_reducible first|exact HB.out|apply below_alloc|apply pw_below_drewN|apply below_drew1|refine below_set ?_ (IsS90.ge HI0.out))|exact HB.out),ke0_ HK.out⟩
  ·rw [if_neg c5] at H
   exact absurd H (by simp)
 ·rw [if_neg c4] at H
  exact absurd H (by simp)
end Go.Proofs.Ytengegdaiphfeaa.X
end
section
namespace Go.Proofs.Ytengegdaiphfeaa.X
open Go.RowKit Go.Proofs.YtengegdaiphfeaaW.PrintWords Go.Proofs.YtengegdaiphfeaaW.PrintLast Go.Proofs.YtengegdaiphfeaaW.PrintMore
attribute [local go_sem] max2_int min2_int max_two min_two max_three min_three max_four min_four
set_option linter.unusedVariables false
set_option linter.unusedSimpArgs false
def spec_l6Bad.f (k : Nat) (s0_0 : List Int) (s0_1 : Int) (a1_0 : Int) (l1_1 : List Int) : Option (Int × List Int × Int):=(spec_l13Rd_pick.f k s0_0 s0_1 24).bind fun bt424 => (if bt424.1 = 0 then ((spec_l13Rd_num.f k s0_0 bt424.2 (([4,(-1),1000000] : List Int))).bind fun bt429 => ((some (([bt429.1] : List Int) : List Int)).bind fun y431 => (if 1 ≤ (l1_1.length : Int) then ((some (l1_1.drop 1 : List Int)).bind fun y434 => (if y431.length + y434.length < 17592186044416 then (some (a1_0,(y431 ++ y434),bt429.2)) else (none))) else (none)))) else (if bt424.1 = 1 then ((spec_l13Rd_num.f k s0_0 bt424.2 (([0,5,1] : List Int))).bind fun bt445 => (some (bt445.1,l1_1,bt445.2))) else (some (a1_0,l1_1,bt424.2))))
theorem spec_l6Bad.mono : ∀ a0 a1 a2 a3 k,LeO (spec_l6Bad.f k a0 a1 a2 a3) (spec_l6Bad.f (k + 1) a0 a1 a2 a3):=by
 intro a0 a1 a2 a3 k
 unfold spec_l6Bad.f
 repeat' first
   | (with_reducible exact spec_l13Rd_num.mono _ _ _ _)
   | (with_reducible exact spec_l13Rd_pick.mono _ _ _ _)
   | (with_reducible exact LeO.refl _)
   | (with_reducible exact LeO.none _)
   | (with_reducible refine LeO.ite ?_ ?_)
   | (with_reducible refine LeO.bind ?_ (fun _ => ?_))
   | exact spec_l13Rd_num.mono _ _ _ _
   | exact spec_l13Rd_pick.mono _ _ _ _
   | exact LeO.none _
   | refine LeO.ite ?_ ?_
   | refine LeO.bind ?_ (fun _ => ?_)
def spec_l6Bad.T3 : Bool × List (List Nat × List Nat):=(true,[([],[]),([0],[0]),([],[]),([],[]),([2,3],[2,3]),([4],[4]),([],[]),([6],[6]),([7],[7]),([5,8,4],[5,8]),([1,9],[1,9]),([10,9,0,1,2,3,4,5,6,7,8,9,10],[10])])
def spec_l6Bad.B3 : List Nat:=[0,1,0,0,12,28,0,64,192,508,1023,2047]
theorem spec_l6Bad.tab3 : rtab .any (opsOf Try.f77 3) = spec_l6Bad.T3:=by kernel_rfl
theorem spec_l6Bad.bits3 : waitsOk spec_l6Bad.T3.2 spec_l6Bad.B3 = true:=by kernel_rfl
set_option maxHeartbeats 8000000 in
set_option maxRecDepth 100000 in
theorem spec_l6Bad.calls (k : Nat) (g : Nat) (s0_0 : List Int) (s0_1 : Int) (a1_0 : Int) (P1_1_ : Nat → Prop) (A1_1 : Option Addr) (c1_1 : Nat) (l1_1 : List Int) (r1 : Int) (r2 : List Int) (r3 : Int) (w0 w : World) (hI : IsS90 w0 w g s0_0 s0_1) (hB : Below w0.heap.size w0 w) (hs1_1 : Kd.V (Kd.int .i64) 3 w w.heap.size (fun k_ => P1_1_ k_ ∧ k_ ≠ g) (.slice A1_1 l1_1.length c1_1) l1_1) (h : spec_l6Bad.f k s0_0 s0_1 a1_0 l1_1 = some (r1,r2,r3)) :
  Calls Try.prog 77 #[.pointer (some ⟨g,0,none⟩),.agg #[.int .i64 a1_0,.slice A1_1 l1_1.length c1_1]] w fun e w' => ∃ v1_ : Value,e = .returned (.agg #[.int .i64 r1,v1_]) ∧ Kd.V (Kd.int .i64) 3 w' w.heap.size (fun k_ => (P1_1_ k_ ∨ w.heap.size ≤ k_)) v1_ r2 ∧ IsS90 w0 w' g s0_0 r3 ∧ Below w0.heap.size w0 w' ∧ KeepBut w w' g none:=by
 have hu28:=Try.underlying28
 have HO1_1:=Aside0.mk (show Kd.V (Kd.int .i64) 3 w w.heap.size (fun k_ => (P1_1_ k_ ∨ w.heap.size ≤ k_) ∧ k_ ≠ g) (.slice A1_1 l1_1.length c1_1) l1_1 from Kd.V_mono hs1_1 (fun k_ hk => ⟨.inl hk.1,hk.2⟩))
 have HI0:=Aside0.mk hI
 have HK:=Aside0.mk (KeepBut.refl w g none)
 have HL:=Aside0.mk hB.size
 clear hI
 have HW0:=Aside0.mk hB.size
 have HB:=Aside0.mk hB
 clear hB
 have H : ((spec_l13Rd_pick.f k s0_0 s0_1 24).bind fun bt424 => (if bt424.1 = 0 then ((spec_l13Rd_num.f k s0_0 bt424.2 (([4,(-1),1000000] : List Int))).bind fun bt429 => ((some (([bt429.1] : List Int) : List Int)).bind fun y431 => (if 1 ≤ (l1_1.length : Int) then ((some (l1_1.drop 1 : List Int)).bind fun y434 => (if y431.length + y434.length < 17592186044416 then (some (a1_0,(y431 ++ y434),bt429.2)) else (none))) else (none)))) else (if bt424.1 = 1 then ((spec_l13Rd_num.f k s0_0 bt424.2 (([0,5,1] : List Int))).bind fun bt445 => (some (bt445.1,l1_1,bt445.2))) else (some (a1_0,l1_1,bt424.2))))) = some (r1,r2,r3):=h
 clear h
 replace H:=Option.bind_eq_some_iff.mp H
 obtain ⟨⟨t424,t425⟩,A30,H⟩:=H
 replace H : (if t424 = 0 then ((spec_l13Rd_num.f k s0_0 t425 (([4,(-1),1000000] : List Int))).bind fun bt429 => ((some (([bt429.1] : List Int) : List Int)).bind fun y431 => (if 1 ≤ (l1_1.length : Int) then ((some (l1_1.drop 1 : List Int)).bind fun y434 => (if y431.length + y434.length < 17592186044416 then (some (a1_0,(y431 ++ y434),bt429.2)) else (none))) else (none)))) else (if t424 = 1 then ((spec_l13Rd_num.f k s0_0 t425 (([0,5,1] : List Int))).bind fun bt445 => (some (bt445.1,l1_1,bt445.2))) else (some (a1_0,l1_1,t425)))) = some (r1,r2,r3):=H
 have A3:=Aside0.mk A30
 clear A30
 by_cases c4 : t424 = 0
 ·rw [if_pos c4] at H
  have c4b0 : (t424 == 0) = true:=beq_iff_eq.mpr c4
  have c4b1 : (t424 != 0) = false:=bne_eq_false_iff_eq.mpr c4
  clear c4
  obtain ⟨y426,hy426⟩ : ∃ y_ : List Int,y_ = (([4,(-1),1000000] : List Int)):=⟨_,rfl⟩
  replace H : ((spec_l13Rd_num.f k s0_0 t425 y426).bind fun bt429 => ((some (([bt429.1] : List Int) : List Int)).bind fun y431 => (if 1 ≤ (l1_1.length : Int) then ((some (l1_1.drop 1 : List Int)).bind fun y434 => (if y431.length + y434.length < 17592186044416 then (some (a1_0,(y431 ++ y434),bt429.2)) else (none))) else (none)))) = some (r1,r2,r3):=by first|(rw [hy426];with_reducible exact H)|(have H2_:=(Option.bind_some _ _).symm.trans H;rw [hy426];with_reducible exact H2_)|(have H2_:=(Option.bind_some _ _).symm.trans H;with_reducible exact H2_)|with_reducible exact H|(rw [hy426];exact H)|exact H
  have Ny426:=Aside0.mk hy426
  clear hy426
  replace H:=Option.bind_eq_some_iff.mp H
  obtain ⟨⟨t429,t430⟩,A50,H⟩:=H
  replace H : ((some (([t429] : List Int) : List Int)).bind fun y431 => (if 1 ≤ (l1_1.length : Int) then ((some (l1_1.drop 1 : List Int)).bind fun y434 => (if y431.length + y434.length < 17592186044416 then (some (a1_0,(y431 ++ y434),t430)) else (none))) else (none))) = some (r1,r2,r3):=H
  have A5:=Aside0.mk A50
  clear A50
  obtain ⟨y431,hy431⟩ : ∃ y_ : List Int,y_ = (([t429] : List Int)):=⟨_,rfl⟩
  replace H : (if 1 ≤ (l1_1.length : Int) then ((some (l1_1.drop 1 : List Int)).bind fun y434 => (if y431.length + y434.length < 17592186044416 then (some (a1_0,(y431 ++ y434),t430)) else (none))) else (none)) = some (r1,r2,r3):=by first|(rw [hy431];with_reducible exact H)|(have H2_:=(Option.bind_some _ _).symm.trans H;rw [hy431];with_reducible exact H2_)|(have H2_:=(Option.bind_some _ _).symm.trans H;with_reducible exact H2_)|with_reducible exact H|(rw [hy431];exact H)|exact H
  have Ny431:=Aside0.mk hy431
  clear hy431
  by_cases c6 : 1 ≤ (l1_1.length : Int)
  ·rw [if_pos c6] at H
   have c6b0:=eq_true c6
   have c6b1 : decide (1 ≤ (l1_1.length : Int)) = true:=decide_eq_true c6
   clear c6
   obtain ⟨y434,hy434⟩ : ∃ y_ : List Int,y_ = (l1_1.drop 1):=⟨_,rfl⟩
   replace H : (if y431.length + y434.length < 17592186044416 then (some (a1_0,(y431 ++ y434),t430)) else (none)) = some (r1,r2,r3):=by first|(rw [hy434];with_reducible exact H)|(have H2_:=(Option.bind_some _ _).symm.trans H;rw [hy434];with_reducible exact H2_)|(have H2_:=(Option.bind_some _ _).symm.trans H;with_reducible exact H2_)|with_reducible exact H|(rw [hy434];exact H)|exact H
   have Ny434:=Aside0.mk hy434
   clear hy434
   by_cases c7 : y431.length + y434.length < 17592186044416
   ·rw [if_pos c7] at H
    have LMc7:=Aside0.mk c7
    clear c7
    obtain ⟨y439,hy439⟩ : ∃ y_ : List Int,y_ = (y431 ++ y434):=⟨_,rfl⟩
    replace H : (some (a1_0,y439,t430)) = some (r1,r2,r3):=by first|(rw [hy439];with_reducible exact H)|(have H2_:=(Option.bind_some _ _).symm.trans H;rw [hy439];with_reducible exact H2_)|(have H2_:=(Option.bind_some _ _).symm.trans H;with_reducible exact H2_)|with_reducible exact H|(rw [hy439];exact H)|exact H
    have Ny439:=Aside0.mk hy439
    clear hy439
    simp only [Option.some.injEq,Prod.mk.injEq] at H
    obtain ⟨rfl,rfl,rfl⟩:=H
    go_enter Try.func77,Try.ntmps77
    try go_wp2_with (first|((with_reducible refine gate_dst (N:=3) rfl ?_);refine box_event ?hg (N:=3) ?hd (cs:=#[.int .i64 a1_0,.slice A1_1 l1_1.length c1_1]) (t:=28) ?hr ?_;(case hd => rfl);(case hg => rfl);(case hr => first|(go_simp;done)|(go_simp;rfl));intro gb422 hg w8 hbox hb;have n0_:=Aside0.mk (Kd.V_below (Kd.V_elderB (pv_ HO1_1.out) gb422 (Nat.le_of_eq hg.symm)) hb);have n1_:=Aside0.mk (IsS90.below (by repeat (first|(with_reducible first|exact HI0.out|apply IsS90.alloc|apply IsS90.drewN|apply IsS90.drew|apply IsS90.set_1)|exact HI0.out)) hb);have n2_:=Aside0.mk (KeepBut.trans (ke0_ HK.out) (KeepBut.of_below hb g none) (.inl rfl));have n3_:=Aside0.mk (below_step (by repeat (first|(with_reducible first|exact HB.out|apply below_alloc|apply pw_below_drewN|apply below_drew1|refine below_set ?_ (IsS90.ge HI0.out))|exact HB.out)) hb);have n4_:=Aside0.mk (hbox);have n5_:=Aside0.mk ((by rw [hg];exact (keep_size (w:=w) (g:=g) (row:=none) (ke0_ HK.out)) : w.heap.size ≤ gb422));have n6_:=Aside0.mk ((Nat.le_trans HW0.out (by rw [hg];exact (keep_size (w:=w) (g:=g) (row:=none) (ke0_ HK.out)) : w.heap.size ≤ gb422) : w0.heap.size ≤ gb422));have n7_:=Aside0.mk ((by rw [hg];exact Nat.ne_of_lt (IsS90.lt (show IsS90 w0 _ g s0_0 s0_1 from by repeat (first|(with_reducible first|exact HI0.out|apply IsS90.alloc|apply IsS90.drewN|apply IsS90.drew|apply IsS90.set_1)|exact HI0.out))) : g ≠ gb422));have n8_:=Aside0.mk ((by rw [hg];exact Nat.ne_of_gt (IsS90.lt (show IsS90 w0 _ g s0_0 s0_1 from by repeat (first|(with_reducible first|exact HI0.out|apply IsS90.alloc|apply IsS90.drewN|apply IsS90.drew|apply IsS90.set_1)|exact HI0.out))) : gb422 ≠ g));clear HO1_1;clear HI0;clear HK;clear HB;have HO1_1:=n0_;have HI0:=n1_;have HK:=n2_;have HB:=n3_;have BK422:=n4_;have GW422:=n5_;have GE422:=n6_;have NB0_422:=n7_;have NB422_0:=n8_;clear n0_ n1_ n2_ n3_ n4_ n5_ n6_ n7_ n8_;clear hb hbox hg)|((with_reducible refine gate_dst (N:=4) rfl ?_);refine box_event ?hg (N:=4) ?hd (cs:=#[.int .i64 0,.slice none 0 0]) (t:=28) ?hr ?_;(case hd => rfl);(case hg => rfl);(case hr => first|(go_simp;done)|(go_simp;rfl));intro gb423 hg w9 hbox hb;have n0_:=Aside0.mk (Kd.V_below (Kd.V_elderB (pv_ HO1_1.out) gb423 (Nat.le_of_eq hg.symm)) hb);have n1_:=Aside0.mk (IsS90.below (by repeat (first|(with_reducible first|exact HI0.out|apply IsS90.alloc|apply IsS90.drewN|apply IsS90.drew|apply IsS90.set_1|refine IsS90.far ?_ NB0_422.out _)|exact HI0.out)) hb);have n2_:=Aside0.mk (blk_below (g:=gb422) (o:=.cells #[.int .i64 a1_0,.slice A1_1 l1_1.length c1_1] 28 (0,0)) (pe_ BK422.out) hb);have n3_:=Aside0.mk (KeepBut.trans (ke1_ HK.out GW422.out) (KeepBut.of_below hb g none) (.inl rfl));have n4_:=Aside0.mk (below_step (by repeat (first|(with_reducible first|exact HB.out|apply below_alloc|apply pw_below_drewN|apply below_drew1|refine below_set ?_ (IsS90.ge HI0.out)|refine below_set ?_ GE422.out)|exact HB.out)) hb);have n5_:=Aside0.mk (hbox);have n6_:=Aside0.mk ((by rw [hg];exact (keep_size (w:=w) (g:=g) (row:=none) (ke1_ HK.out GW422.out)) : w.heap.size ≤ gb423));have n7_:=Aside0.mk ((Nat.le_trans HW0.out (by rw [hg];exact (keep_size (w:=w) (g:=g) (row:=none) (ke1_ HK.out GW422.out)) : w.heap.size ≤ gb423) : w0.heap.size ≤ gb423));have n8_:=Aside0.mk ((by rw [hg];exact Nat.ne_of_lt (blk_lt (g:=gb422) (o:=.cells #[.int .i64 a1_0,.slice A1_1 l1_1.length c1_1] 28 (0,0)) (pe_ BK422.out)) : gb422 ≠ gb423));have n9_:=Aside0.mk ((by rw [hg];exact Nat.ne_of_gt (blk_lt (g:=gb422) (o:=.cells #[.int .i64 a1_0,.slice A1_1 l1_1.length c1_1] 28 (0,0)) (pe_ BK422.out)) : gb423 ≠ gb422));have n10_:=Aside0.mk ((by rw [hg];exact Nat.ne_of_lt (IsS90.lt (show IsS90 w0 _ g s0_0 s0_1 from by repeat (first|(with_reducible first|exact HI0.out|apply IsS90.alloc|apply IsS90.drewN|apply IsS90.drew|apply IsS90.set_1|refine IsS90.far ?_ NB0_422.out _)|exact HI0.out))) : g ≠ gb423));have n11_:=Aside0.mk ((by rw [hg];exact Nat.ne_of_gt (IsS90.lt (show IsS90 w0 _ g s0_0 s0_1 from by repeat (first|(with_reducible first|exact HI0.out|apply IsS90.alloc|apply IsS90.drewN|apply IsS90.drew|apply IsS90.set_1|refine IsS90.far ?_ NB0_422.out _)|exact HI0.out))) : gb423 ≠ g));clear HO1_1;clear HI0;clear BK422;clear HK;clear HB;have HO1_1:=n0_;have HI0:=n1_;have BK422:=n2_;have HK:=n3_;have HB:=n4_;have BK423:=n5_;have GW423:=n6_;have GE423:=n7_;have NB422_423:=n8_;have NB423_422:=n9_;have NB0_423:=n10_;have NB423_0:=n11_;clear n0_ n1_ n2_ n3_ n4_ n5_ n6_ n7_ n8_ n9_ n10_ n11_;clear hb hbox hg)|((with_reducible refine gate_callee (f:=76) rfl ?_);refine goesL_ (some 6) rfl rfl Try.func76 (by kernel_rfl) rfl #[.pointer (some ⟨g,0,none⟩),.int .i64 24] rfl lp_ ?_;(with_reducible refine (spec_l13Rd_pick.calls k g s0_0 s0_1 24 t424 t425 w0 _ ?side1 ?side2 A3.out).mono ?_);(case side1 => repeat (first|(with_reducible first|exact HI0.out|apply IsS90.alloc|apply IsS90.drewN|apply IsS90.drew|apply IsS90.set_1|refine IsS90.far ?_ NB0_422.out _|refine IsS90.far ?_ NB0_423.out _)|exact HI0.out));(case side2 => repeat (first|(with_reducible first|exact HB.out|apply below_alloc|apply pw_below_drewN|apply below_drew1|refine below_set ?_ (IsS90.ge HI0.out)|refine below_set ?_ GE422.out|refine below_set ?_ GE423.out)|exact HB.out));rintro e w10 ⟨rfl,hi,hb,hk⟩;refine ⟨_,rfl,?_⟩;have n0_:=Aside0.mk (Kd.V_mono (Kd.V_keep (Kd.V_mono (ok:=fun k_ => (((((P1_1_ k_ ∨ w.heap.size ≤ k_)) ∧ k_ ≠ g) ∧ k_ ≠ gb422) ∧ k_ ≠ gb423)) (pv_ HO1_1.out) (fun k_ hk_ => (⟨hk_,hk_.1.1.2⟩ : _ ∧ k_ ≠ g))) hk (fun _ h => h.2)) (fun _ h => h.1));have n1_:=Aside0.mk (KeepBut.blk hk (g':=gb422) (o:=.cells #[.int .i64 a1_0,.slice A1_1 l1_1.length c1_1] 28 (0,0)) (pe_ BK422.out) NB422_0.out (by simp));have n2_:=Aside0.mk (KeepBut.blk hk (g':=gb423) (o:=.cells #[.int .i64 0,.slice none 0 0] 28 (0,0)) (pe_ BK423.out) NB423_0.out (by simp));have n3_:=Aside0.mk (KeepBut.trans (ke2_ HK.out GW422.out GW423.out) hk (.inl rfl));have n4_:=Aside0.mk (hb);have n5_:=Aside0.mk (hi);clear HO1_1;clear BK422;clear BK423;clear HK;clear HB;clear HI0;have HO1_1:=n0_;have BK422:=n1_;have BK423:=n2_;have HK:=n3_;have HB:=n4_;have HI0:=n5_;clear n0_ n1_ n2_ n3_ n4_ n5_;(try clear hb);(try clear hb2);(try clear hk);(try clear hi)))
    have n0_:=Aside0.mk (Kd.V_drew HO1_1.out)
    have n1_:=Aside0.mk (blk_drew BK422.out)
    have n2_:=Aside0.mk (blk_drew BK423.out)
    have n3_:=Aside0.mk (IsS90.drew HI0.out)
    have n4_:=Aside0.mk (keep_drew HK.out)
    have n5_:=Aside0.mk (below_drew1 HB.out)
    clear HO1_1
    clear BK422
    clear BK423
    clear HI0
    clear HK
    clear HB
    have HO1_1:=n0_
    have BK422:=n1_
    have BK423:=n2_
    have HI0:=n3_
    have HK:=n4_
    have HB:=n5_
    clear n0_ n1_ n2_ n3_ n4_ n5_
    have q12 : (1 : Int) ≤ ((l1_1.length : Int) : Int):=of_decide_eq_true (by first|(with_reducible assumption)|assumption)
    obtain ⟨i012,hi012,_,hsz12,_⟩:=info_parts info3
    have hroom12 : l1_1.length ≤ c1_1:=(Kd.V_reads' HO1_1.out).2.1
    have hC12 : Kd.F (Kd.int .i64) _ _ A1_1 l1_1.length l1_1:=(Kd.V_at (base:=w.heap.size) HO1_1.out).2.2
    have hcut12:=cut_from (P:=Try.prog) 24 3 .i64 Try.underlying24 hi012 1 hsz12 A1_1 l1_1.length c1_1 1 (by omega) q12
    have hr12:=Kd.F_cut (m:=(1 : Int).toNat) (c:=c1_1) hC12 (by omega) hroom12
    obtain ⟨A12,hA12⟩ : ∃ A1,A1 = (if c1_1 = (1 : Int).toNat then A1_1 else (A1_1 : Option Addr).map (·.add ((1 : Int).toNat * 1))):=⟨_,rfl⟩
    obtain ⟨c12,hc12⟩ : ∃ c1,c1 = c1_1 - (1 : Int).toNat:=⟨_,rfl⟩
    have hy12 : y434.length = l1_1.length - (1 : Int).toNat:=(by rw [Ny434.out,List.length_drop] <;> omega)
    rw [show (l1_1).drop (1 : Int).toNat = y434 from Ny434.out.symm] at hr12
    replace hr12 : Kd.F (Kd.int .i64) _ _ A12 y434.length y434:=(by rw [hA12];exact hr12)
    rw [← hy12,← hA12,← hc12] at hcut12
    have HO438:=Aside0.mk (show Kd.V (Kd.int .i64) 3 _ w.heap.size _ (.slice A12 y434.length c12) y434 from Kd.V_mk (by rw [hy12,hc12];exact Nat.sub_le_sub_right hroom12 _) hr12)
    have HC438:=Aside0.mk (show y434.length ≤ c12 from by rw [hy12,hc12];exact Nat.sub_le_sub_right hroom12 _)
    clear hr12 hC12 hroom12 hi012 hsz12 hc12
    have KY12:=Aside0.mk hy12
    have KA12:=Aside0.mk hA12
    clear hy12 hA12
    replace q12:=eq_true q12
    refine start_ (n:=12) (S:=fun w' => w'.cell? ⟨gb422,0,none⟩ = some (.int .i64 a1_0) ∧ w'.cell? ⟨gb422,1,none⟩ = some (.slice A1_1 l1_1.length c1_1)) (ds:=[]) #[false,false,false,false,false,false,false,false,false,false,false,false] (by kernel_rfl) rfl rfl ⟨(blk_cell BK422.out 0).trans rfl,(blk_cell BK422.out 1).trans rfl⟩ (fun hHeld => ?_);refine with_tabW spec_l6Bad.tab3 spec_l6Bad.bits3 (fun HT_ HW_ => ?_)
    generalize w10.drew = w11 at HO1_1 BK422 BK423 HI0 HK HB HO438 hHeld ⊢
    refine pure_ (i:=0) (N:=some 9) (v:=?_) (a':=?_) #[true,false,false,false,false,false,false,false,false,false,false,false] rfl rfl (any_of HT_.out (by kernel_rfl)) (fun _ _ _ h => h) (Or.inl ⟨by rfl,?_⟩) ?_ ?_
    rotate_left
    ·intro w'
     go_simp
     with_reducible rfl
    rotate_left
    ·simp only [Act.put,List.setIfInBounds_toArray,List.set_cons_zero,List.set_cons_succ,i64_w,i32_w]
     rfl
    refine pure_ (i:=2) (N:=some 11) (v:=?_) (a':=?_) #[true,false,true,false,false,false,false,false,false,false,false,false] rfl rfl (any_of HT_.out (by kernel_rfl)) (fun _ _ _ h => h) (Or.inl ⟨by rfl,?_⟩) ?_ ?_
    rotate_left
    ·intro w'
     go_simp
     with_reducible rfl
    rotate_left
    ·simp only [Act.put,List.setIfInBounds_toArray,List.set_cons_zero,List.set_cons_succ,i64_w,i32_w]
     rfl
    refine pure_ (i:=6) (N:=some 15) (v:=?_) (a':=?_) #[true,false,true,false,false,false,true,false,false,false,false,false] rfl rfl (any_of HT_.out (by kernel_rfl)) (fun _ _ _ h => h) (Or.inl ⟨by rfl,?_⟩) ?_ ?_
    rotate_left
    ·intro w'
     go_simp
     with_reducible rfl
    rotate_left
    ·simp only [Act.put,List.setIfInBounds_toArray,List.set_cons_zero,List.set_cons_succ,i64_w,i32_w]
     rfl
    refine take_ (i:=1) (N:=some 10) (v:=?_) (a':=?_) #[true,true,true,false,false,false,true,false,false,false,false,false] rfl rfl (take_ofW HT_.out HW_.out (by kernel_rfl)) (fun _ _ _ h => h) (Or.inl ⟨by rfl,?_⟩) hHeld ?_ ?_
    rotate_left
    ·rintro w' ⟨s0,s1⟩
     go_simp
     with_reducible rfl
    rotate_left
    ·simp only [Act.put,List.setIfInBounds_toArray,List.set_cons_zero,List.set_cons_succ,i64_w,i32_w]
     rfl
    refine take_ (i:=7) (N:=some 16) (v:=?_) (a':=?_) #[true,true,true,false,false,false,true,true,false,false,false,false] rfl rfl (take_ofW HT_.out HW_.out (by kernel_rfl)) (fun _ _ _ h => h) (Or.inl ⟨by rfl,?_⟩) hHeld ?_ ?_
    rotate_left
    ·rintro w' ⟨s0,s1⟩
     go_simp
     with_reducible rfl
    rotate_left
    ·simp only [Act.put,List.setIfInBounds_toArray,List.set_cons_zero,List.set_cons_succ,i64_w,i32_w]
     rfl
    refine pure_ (i:=8) (N:=some 17) (v:=?_) (a':=?_) #[true,true,true,false,false,false,true,true,true,false,false,false] rfl rfl (any_of HT_.out (by kernel_rfl)) (fun _ _ _ h => h) (Or.inl ⟨by rfl,?_⟩) ?_ ?_
    rotate_left
    ·intro w'
     go_simp
     with_reducible rfl
    rotate_left
    ·simp only [Act.put,List.setIfInBounds_toArray,List.set_cons_zero,List.set_cons_succ,i64_w,i32_w]
     rfl
    refine one_ (i:=3) (N:=some 12) #[true,true,true,true,false,false,true,true,true,false,false,false] rfl rfl (one_of HT_.out (by kernel_rfl)) (by decide) (fun K hK => ?_)
    refine Kd.R_lit_step (Kd.int .i64) _ 3 ?hg (N:=12) ?hd (xs:=([4,(-1),1000000] : List Int)) (inner:=[.int .i64 4,.int .i64 (-1),.int .i64 1000000]) (ok:=fun _ => True) (okp:=fun _ => True) ?hr ?hp (fun _ hk => hk) trivial (Below.refl _ _) (Nat.le_refl _) (by simp) ?_;(case hd => rfl);(case hg => rfl);(case hr => first|(go_simp;done)|(go_simp;rfl));(case hp => exact (Reps.one (show Kd.M (Kd.int .i64) _ _ _ 4 [.int .i64 4] from rfl) (Reps.one (show Kd.M (Kd.int .i64) _ _ _ (-1) [.int .i64 (-1)] from rfl) (Reps.one (show Kd.M (Kd.int .i64) _ _ _ 1000000 [.int .i64 1000000] from rfl) (Reps.none _ _)))))
    intro v427 w13 ho14 hb hg_ hnew_
    clear hg_ hnew_
    (first|rw [← Ny426.out] at ho14|(simp only [Int.reduceToNat] at ho14;rw [← Ny426.out] at ho14))
    have n0_:=Aside0.mk (Kd.V_elder' (pv_ HO1_1.out) (Kd.R_base ho14) hb)
    have n1_:=Aside0.mk (Kd.V_elder' (pv_ HO438.out) (Kd.R_base ho14) hb)
    have n2_:=Aside0.mk (Kd.R_lower (Kd.R_newM (M:=fun k_ => (w.heap.size ≤ k_)) ho14 (keep_size (w:=w) (g:=g) (row:=none) (ke2_ HK.out GW422.out GW423.out)) (fun k_ h_ => h_)) (keep_size (w:=w) (g:=g) (row:=none) (ke2_ HK.out GW422.out GW423.out)))
    have n3_:=Aside0.mk (IsS90.below (by repeat (first|(with_reducible first|exact HI0.out|apply IsS90.alloc|apply IsS90.drewN|apply IsS90.drew|apply IsS90.set_1|refine IsS90.far ?_ NB0_422.out _|refine IsS90.far ?_ NB0_423.out _)|exact HI0.out)) hb)
    have n4_:=Aside0.mk (blk_below (g:=gb422) (o:=.cells #[.int .i64 a1_0,.slice A1_1 l1_1.length c1_1] 28 (0,0)) (pe_ BK422.out) hb)
    have n5_:=Aside0.mk (blk_below (g:=gb423) (o:=.cells #[.int .i64 0,.slice none 0 0] 28 (0,0)) (pe_ BK423.out) hb)
    have n6_:=Aside0.mk (KeepBut.trans (ke2_ HK.out GW422.out GW423.out) (KeepBut.of_below hb g none) (.inl rfl))
    have n7_:=Aside0.mk (below_step (by repeat (first|(with_reducible first|exact HB.out|apply below_alloc|apply pw_below_drewN|apply below_drew1|refine below_set ?_ (IsS90.ge HI0.out)|refine below_set ?_ GE422.out|refine below_set ?_ GE423.out)|exact HB.out)) hb)
    clear HO1_1
    clear HO438
    clear HI0
    clear BK422
    clear BK423
    clear HK
    clear HB
    have HO1_1:=n0_
    have HO438:=n1_
    have HO428:=n2_
    have HI0:=n3_
    have BK422:=n4_
    have BK423:=n5_
    have HK:=n6_
    have HB:=n7_
    clear n0_ n1_ n2_ n3_ n4_ n5_ n6_ n7_
    clear hb ho14
    obtain ⟨Ao15,co15,eo15⟩:=Kd.R_slice HO428.out
    (first|subst eo15|(injection eo15 with f1_ f2_ f3_;have f4_:=f1_.symm;have f5_:=f3_.symm;clear f1_ f2_ f3_;subst f4_;subst f5_))
    refine hK.out _ _ ⟨(blk_cell BK422.out 0).trans rfl,(blk_cell BK422.out 1).trans rfl⟩ (fun hHeld => ?_)
    clear hK K
    refine norm_ (a':=?_) ?_ ?_
    rotate_left
    ·show Act.put _ (some 12) _ = _
     simp only [Act.put,List.setIfInBounds_toArray,List.set_cons_zero,List.set_cons_succ,i64_w,i32_w]
     rfl
    refine one_ (i:=4) (N:=some 13) #[true,true,true,true,true,false,true,true,true,false,false,false] rfl rfl (one_of HT_.out (by kernel_rfl)) (by decide) (fun K hK => ?_)
    refine goes_ Try.func88 (by kernel_rfl) rfl #[.pointer (some ⟨g,0,none⟩),.slice Ao15 y426.length co15] (by rfl) rfl rfl lp_ ?_
    with_reducible refine (spec_l13Rd_num.calls k g s0_0 t425 _ _ y426 t429 t430 w0 _ ?side1 ?side2 ?side3 ?side4 ?side5 A5.out).mono ?_
    (case side1 => repeat (first|(with_reducible first|exact HI0.out|apply IsS90.alloc|apply IsS90.drewN|apply IsS90.drew|apply IsS90.set_1|refine IsS90.far ?_ NB0_422.out _|refine IsS90.far ?_ NB0_423.out _)|exact HI0.out))
    (case side2 => repeat (first|(with_reducible first|exact HB.out|apply below_alloc|apply pw_below_drewN|apply below_drew1|refine below_set ?_ (IsS90.ge HI0.out)|refine below_set ?_ GE422.out|refine below_set ?_ GE423.out)|exact HB.out))
    (case side3 => repeat (first|exact (Kd.R_reads' HO428.out).2.2|(with_reducible refine Kd.C_alloc ?_ _)|(with_reducible refine Kd.C_drewN ?_ _)|(with_reducible refine Kd.C_drew ?_)))
    (case side4 => exact (Kd.R_reads' HO428.out).2.1)
    (case side5 => exact far_slice (IsS90.own_ne HI0.out HO428.out (by decide)))
    rintro e w16 ⟨rfl,hi,hb,hk⟩
    refine ⟨_,rfl,?_⟩
    have n0_:=Aside0.mk (Kd.V_mono (Kd.V_keep (Kd.V_mono (ok:=fun k_ => ((((((P1_1_ k_ ∨ w.heap.size ≤ k_)) ∧ k_ ≠ g) ∧ k_ ≠ gb422) ∧ k_ ≠ gb423) ∧ some k_ ≠ (.slice Ao15 y426.length co15 : Value).ownBlock)) (pv_ HO1_1.out) (fun k_ hk_ => (⟨hk_,hk_.1.1.1.2⟩ : _ ∧ k_ ≠ g))) hk (fun _ h => h.2)) (fun _ h => h.1))
    have n1_:=Aside0.mk (KeepBut.blk hk (g':=gb422) (o:=.cells #[.int .i64 a1_0,.slice A1_1 l1_1.length c1_1] 28 (0,0)) (pe_ BK422.out) NB422_0.out (by simp))
    have n2_:=Aside0.mk (KeepBut.blk hk (g':=gb423) (o:=.cells #[.int .i64 0,.slice none 0 0] 28 (0,0)) (pe_ BK423.out) NB423_0.out (by simp))
    have n3_:=Aside0.mk (Kd.V_mono (Kd.V_keep (Kd.V_mono (ok:=fun k_ => ((((((P1_1_ k_ ∨ w.heap.size ≤ k_)) ∧ k_ ≠ g) ∧ k_ ≠ gb422) ∧ k_ ≠ gb423) ∧ some k_ ≠ (.slice Ao15 y426.length co15 : Value).ownBlock)) (pv_ HO438.out) (fun k_ hk_ => (⟨hk_,hk_.1.1.1.2⟩ : _ ∧ k_ ≠ g))) hk (fun _ h => h.2)) (fun _ h => h.1))
    have n4_:=Aside0.mk (Kd.R_mono (Kd.R_keep (IsS90.apart (show IsS90 w0 _ g s0_0 t425 from by repeat (first|(with_reducible first|exact HI0.out|apply IsS90.alloc|apply IsS90.drewN|apply IsS90.drew|apply IsS90.set_1|refine IsS90.far ?_ NB0_422.out _|refine IsS90.far ?_ NB0_423.out _)|exact HI0.out)) (pr_ HO428.out) (by decide)) hk (fun _ h => h.2)) (fun _ h => h.1))
    have n5_:=Aside0.mk (KeepBut.trans (ke2_ HK.out GW422.out GW423.out) hk (.inl rfl))
    have n6_:=Aside0.mk (hb)
    have n7_:=Aside0.mk (hi)
    clear HO1_1
    clear BK422
    clear BK423
    clear HO438
    clear HO428
    clear HK
    clear HB
    clear HI0
    have HO1_1:=n0_
    have BK422:=n1_
    have BK423:=n2_
    have HO438:=n3_
    have HO428:=n4_
    have HK:=n5_
    have HB:=n6_
    have HI0:=n7_
    clear n0_ n1_ n2_ n3_ n4_ n5_ n6_ n7_
    (try clear hb)
    (try clear hb2)
    (try clear hk)
    (try clear hi)
    refine hK.out _ _ ⟨(blk_cell BK422.out 0).trans rfl,(blk_cell BK422.out 1).trans rfl⟩ (fun hHeld => ?_)
    clear hK K
    refine norm_ (a':=?_) ?_ ?_
    rotate_left
    ·show Act.put _ (some 13) _ = _
     simp only [Act.put,List.setIfInBounds_toArray,List.set_cons_zero,List.set_cons_succ,i64_w,i32_w]
     rfl
    refine one_ (i:=5) (N:=some 14) #[true,true,true,true,true,true,true,true,true,false,false,false] rfl rfl (one_of HT_.out (by kernel_rfl)) (by decide) (fun K hK => ?_)
    refine Kd.R_lit_step (Kd.int .i64) _ 3 ?hg (N:=14) ?hd (xs:=([t429] : List Int)) (inner:=[.int .i64 t429]) (ok:=fun _ => True) (okp:=fun _ => True) ?hr ?hp (fun _ hk => hk) trivial (Below.refl _ _) (Nat.le_refl _) (by simp) ?_;(case hd => rfl);(case hg => rfl);(case hr => first|(go_simp;done)|(go_simp;rfl));(case hp => exact (Reps.one (show Kd.M (Kd.int .i64) _ _ _ t429 [.int .i64 t429] from rfl) (Reps.none _ _)))
    intro v432 w17 ho18 hb hg_ hnew_
    clear hg_ hnew_
    (first|rw [← Ny431.out] at ho18|(simp only [Int.reduceToNat] at ho18;rw [← Ny431.out] at ho18))
    have n0_:=Aside0.mk (Kd.V_elder' (pv_ HO1_1.out) (Kd.R_base ho18) hb)
    have n1_:=Aside0.mk (Kd.V_elder' (pv_ HO438.out) (Kd.R_base ho18) hb)
    have n2_:=Aside0.mk (Kd.R_elder' (pr_ HO428.out) (Kd.R_base ho18) hb)
    have n3_:=Aside0.mk (Kd.R_lower (Kd.R_new' (Kd.R_newM (M:=fun k_ => (w.heap.size ≤ k_)) ho18 (keep_size (w:=w) (g:=g) (row:=none) (ke2_ HK.out GW422.out GW423.out)) (fun k_ h_ => h_)) (Kd.R_lt (pr_ HO428.out))) (keep_size (w:=w) (g:=g) (row:=none) (ke2_ HK.out GW422.out GW423.out)))
    have n4_:=Aside0.mk (IsS90.below (by repeat (first|(with_reducible first|exact HI0.out|apply IsS90.alloc|apply IsS90.drewN|apply IsS90.drew|apply IsS90.set_1|refine IsS90.far ?_ NB0_422.out _|refine IsS90.far ?_ NB0_423.out _)|exact HI0.out)) hb)
    have n5_:=Aside0.mk (blk_below (g:=gb422) (o:=.cells #[.int .i64 a1_0,.slice A1_1 l1_1.length c1_1] 28 (0,0)) (pe_ BK422.out) hb)
    have n6_:=Aside0.mk (blk_below (g:=gb423) (o:=.cells #[.int .i64 0,.slice none 0 0] 28 (0,0)) (pe_ BK423.out) hb)
    have n7_:=Aside0.mk (KeepBut.trans (ke2_ HK.out GW422.out GW423.out) (KeepBut.of_below hb g none) (.inl rfl))
    have n8_:=Aside0.mk (below_step (by repeat (first|(with_reducible first|exact HB.out|apply below_alloc|apply pw_below_drewN|apply below_drew1|refine below_set ?_ (IsS90.ge HI0.out)|refine below_set ?_ GE422.out|refine below_set ?_ GE423.out)|exact HB.out)) hb)
    clear HO1_1
    clear HO438
    clear HO428
    clear HI0
    clear BK422
    clear BK423
    clear HK
    clear HB
    have HO1_1:=n0_
    have HO438:=n1_
    have HO428:=n2_
    have HO433:=n3_
    have HI0:=n4_
    have BK422:=n5_
    have BK423:=n6_
    have HK:=n7_
    have HB:=n8_
    clear n0_ n1_ n2_ n3_ n4_ n5_ n6_ n7_ n8_
    clear hb ho18
    refine hK.out _ _ ⟨(blk_cell BK422.out 0).trans rfl,(blk_cell BK422.out 1).trans rfl⟩ (fun hHeld => ?_)
    clear hK K
    refine norm_ (a':=?_) ?_ ?_
    rotate_left
    ·show Act.put _ (some 14) _ = _
     simp only [Act.put,List.setIfInBounds_toArray,List.set_cons_zero,List.set_cons_succ,i64_w,i32_w]
     rfl
    refine one_ (i:=9) (N:=some 18) #[true,true,true,true,true,true,true,true,true,true,false,false] rfl rfl (one_of HT_.out (by kernel_rfl)) (by decide) (fun K hK => ?_)
    refine Kd.R_append_rows_step (Kd.int .i64) w.heap.size (by rfl) (.tmp 14) (.tmp 17) 24 3 (.int .i64 0) 8 rfl Try.underlying24 info3 rfl (by decide) (by omega) v432 y431 y434 _ _ _ (fun k_ => (w.heap.size ≤ k_) ∧ some k_ ≠ (.slice Ao15 y426.length co15 : Value).ownBlock) (fun _ => False) rfl rfl ?aO ?aR (fun _ _ h => h) (fun _ h => h.elim) ?aF (Below.refl _ _) ?aS ?aL ?_
    (case aR => repeat (first|exact (Kd.V_reads' HO438.out).2.2|(with_reducible refine Kd.C_alloc ?_ _)|(with_reducible refine Kd.C_drewN ?_ _)|(with_reducible refine Kd.C_drew ?_)))
    (case aF => exact (fun k_ hk => ⟨(Nat.le_trans (keep_size (w:=w) (g:=g) (row:=none) (ke2_ HK.out GW422.out GW423.out)) hk),Kd.fresh' (Kd.R_lt (pr_ HO428.out)) k_ hk⟩))
    (case aO => exact (by refine pr_ ?_;exact Kd.R_mono HO433.out (fun _ hk => ⟨hk.1.1,hk.2⟩)))
    (case aS => exact (keep_size (w:=w) (g:=g) (row:=none) (ke2_ HK.out GW422.out GW423.out)))
    (case aL => have:=LMc7.out;omega)
    intro v440 w19 ho hb hg hat
    rw [← Ny439.out] at ho
    have n0_:=Aside0.mk (IsS90.grown (by repeat (first|(with_reducible first|exact HI0.out|apply IsS90.alloc|apply IsS90.drewN|apply IsS90.drew|apply IsS90.set_1|refine IsS90.far ?_ NB0_422.out _|refine IsS90.far ?_ NB0_423.out _)|exact HI0.out)) hg (IsS90.own_ne HI0.out HO433.out (by decide)))
    have n1_:=Aside0.mk (Kd.V_afterv (ok:=(fun k_ => (P1_1_ k_ ∨ w.heap.size ≤ k_) ∧ some k_ ≠ (.slice Ao15 y426.length co15 : Value).ownBlock ∧ k_ ≠ g ∧ k_ ≠ gb422 ∧ k_ ≠ gb423)) (by refine pv_ ?_;exact Kd.V_mono HO1_1.out (fun _ hk => ⟨⟨hk.1.1.1.1.1,⟨hk.1.2,⟨hk.1.1.1.1.2,⟨hk.1.1.1.2,hk.1.1.2⟩⟩⟩⟩,hk.2⟩)) hg hat)
    have n2_:=Aside0.mk (blk_grown (g:=gb422) (o:=.cells #[.int .i64 a1_0,.slice A1_1 l1_1.length c1_1] 28 (0,0)) (pe_ BK422.out) hg (Kd.R_ne HO433.out BK422.out (by decide)))
    have n3_:=Aside0.mk (blk_grown (g:=gb423) (o:=.cells #[.int .i64 0,.slice none 0 0] 28 (0,0)) (pe_ BK423.out) hg (Kd.R_ne HO433.out BK423.out (by decide)))
    have n4_:=Aside0.mk (Kd.V_afterv (ok:=(fun k_ => (P1_1_ k_ ∨ w.heap.size ≤ k_) ∧ some k_ ≠ (.slice Ao15 y426.length co15 : Value).ownBlock ∧ k_ ≠ g ∧ k_ ≠ gb422 ∧ k_ ≠ gb423)) (by refine pv_ ?_;exact Kd.V_mono HO438.out (fun _ hk => ⟨⟨hk.1.1.1.1.1,⟨hk.1.2,⟨hk.1.1.1.1.2,⟨hk.1.1.1.2,hk.1.1.2⟩⟩⟩⟩,hk.2⟩)) hg hat)
    have n5_:=Aside0.mk (Kd.R_after (ok:=(fun k_ => (w.heap.size ≤ k_))) (by refine pr_ ?_;exact Kd.R_mono HO428.out (fun _ hk => ⟨hk.1.1,hk.2⟩)) hg hat)
    have n6_:=Aside0.mk (below_weaken (by repeat (first|(with_reducible first|exact HB.out|apply below_alloc|apply pw_below_drewN|apply below_drew1|refine below_set ?_ (IsS90.ge HI0.out)|refine below_set ?_ GE422.out|refine below_set ?_ GE423.out)|exact HB.out)) HL.out hb)
    have n7_:=Aside0.mk (KeepBut.trans (ke2_ HK.out GW422.out GW423.out) (KeepBut.of_grown hg g) (Kd.R_base2 HO433.out))
    have n8_:=Aside0.mk (ho)
    clear HI0
    clear HO1_1
    clear BK422
    clear BK423
    clear HO438
    clear HO428
    clear HB
    clear HK
    clear HO433
    have HI0:=n0_
    have HO1_1:=n1_
    have BK422:=n2_
    have BK423:=n3_
    have HO438:=n4_
    have HO428:=n5_
    have HB:=n6_
    have HK:=n7_
    have HO441:=n8_
    clear n0_ n1_ n2_ n3_ n4_ n5_ n6_ n7_ n8_
    clear ho hb hg hat
    obtain ⟨Ao20,co20,eo20⟩:=Kd.R_slice HO441.out
    (first|subst eo20|(injection eo20 with f1_ f2_ f3_;have f4_:=f1_.symm;have f5_:=f3_.symm;clear f1_ f2_ f3_;subst f4_;subst f5_))
    refine hK.out _ _ ⟨(blk_cell BK422.out 0).trans rfl,(blk_cell BK422.out 1).trans rfl⟩ (fun hHeld => ?_)
    clear hK K
    refine norm_ (a':=?_) ?_ ?_
    rotate_left
    ·show Act.put _ (some 18) _ = _
     simp only [Act.put,List.setIfInBounds_toArray,List.set_cons_zero,List.set_cons_succ,i64_w,i32_w]
     rfl
    refine pure_ (i:=10) (N:=some 19) (v:=?_) (a':=?_) #[true,true,true,true,true,true,true,true,true,true,true,false] rfl rfl (any_of HT_.out (by kernel_rfl)) (fun _ _ _ h => h) (Or.inl ⟨by rfl,?_⟩) ?_ ?_
    rotate_left
    ·intro w'
     go_simp
     with_reducible rfl
    rotate_left
    ·simp only [Act.put,List.setIfInBounds_toArray,List.set_cons_zero,List.set_cons_succ,i64_w,i32_w]
     rfl
    refine one_ (i:=11) (N:=none) #[true,true,true,true,true,true,true,true,true,true,true,true] rfl rfl (one_of HT_.out (by kernel_rfl)) (by decide) (fun K hK => ?_)
    have hs21 : w19.cell? ⟨gb423,0,none⟩ = some (.int .i64 0):=(blk_cell BK423.out 0).trans rfl
    have hfs21:=blk_frozen BK423.out 0
    have hns21_0:=NB422_423.out
    have hms21_0:=NB423_422.out
    have hs22 : w19.cell? ⟨gb423,1,none⟩ = some (.slice none 0 0):=(blk_cell BK423.out 1).trans rfl
    have hfs22:=blk_frozen BK423.out 1
    have hns22_0:=NB422_423.out
    have hms22_0:=NB423_422.out
    refine skip_ (w1:=?_) (by rfl) rfl ?_ ?_
    rotate_left
    ·go_simp
     rfl
    refine hK.out _ _ ⟨((cell_far (p:=⟨gb423,_,none⟩) NB422_423.out _).trans (((cell_far (p:=⟨gb423,_,none⟩) NB422_423.out _).trans (hHeld.1)))),((cell_far (p:=⟨gb423,_,none⟩) NB422_423.out _).trans (((cell_far (p:=⟨gb423,_,none⟩) NB422_423.out _).trans (hHeld.2))))⟩ (fun hHeld => ?_)
    clear hK K
    refine done_ (done_of HT_.out (by kernel_rfl)) ?_
    try go_wp2
    refine bodyPost_ret (results_cell_row rfl _ _ gb423 28 #[.int .i64 a1_0,.slice Ao20 y439.length co20] (0,0) _ rfl (by refine pe_ ?_;refine blk_put (cs:=#[.int .i64 a1_0,.slice none 0 0]) ?_ 1 _ rfl;refine pe_ ?_;refine blk_put (cs:=#[.int .i64 0,.slice none 0 0]) ?_ 0 _ rfl;refine pe_ ?_;exact BK423.out) Try.underlying28 rfl (by kernel_rfl)) rfl ?_
    exact ⟨_,by first|rfl|(simp [errW_none,errW_some] <;> rfl)|(simp [*,errW_none,errW_some] <;> rfl),Kd.V_mono (Kd.R_V (by refine pr_ ?_;exact Kd.R_mono (Kd.R_far (p:=⟨gb423,1,none⟩) (Kd.R_far (p:=⟨gb423,0,none⟩) (Kd.R_types HO441.out BK423.out (by decide)) (fun _ hk => hk.2) (.int .i64 a1_0)) (fun _ hk => hk.2) (.slice Ao20 y439.length co20)) (fun _ hk => hk.1.1))) (fun k_ hk => by first|exact ⟨(.inr (hk.1)),hk.2⟩|exact (.inr (hk))),by repeat (first|(with_reducible first|exact HI0.out|apply IsS90.alloc|apply IsS90.drewN|apply IsS90.drew|apply IsS90.set_1|refine IsS90.far ?_ NB0_422.out _|refine IsS90.far ?_ NB0_423.out _)|exact HI0.out),by repeat (first|(with_reducible first|exact HB.out|apply below_alloc|apply pw_below_drewN|apply below_drew1|refine below_set ?_ (IsS90.ge HI0.out)|refine below_set ?_ GE422.out|refine below_set ?_ GE423.out)|exact HB.out),ke2_ HK.out GW422.out GW423.out⟩
   ·rw [if_neg c7] at H
    exact absurd H (by simp)
  ·rw [if_neg c6] at H
   exact absurd H (by simp)
 ·rw [if_neg c4] at H
  have c4b0 : (t424 == 0) = false:=beq_eq_false_iff_ne.mpr c4
  have c4b1 : (t424 != 0) = true:=bne_iff_ne.mpr c4
  by_cases c23 : t424 = 1
  ·rw [if_pos c23] at H
   have c23b0 : (t424 == 1) = true:=beq_iff_eq.mpr c23
   have c23b1 : (t424 != 1) = false:=bne_eq_false_iff_eq.mpr c23
   clear c23
   obtain ⟨y442,hy442⟩ : ∃ y_ : List Int,y_ = (([0,5,1] : List Int)):=⟨_,rfl⟩
   replace H : ((spec_l13Rd_num.f k s0_0 t425 y442).bind fun bt445 => (some (bt445.1,l1_1,bt445.2))) = some (r1,r2,r3):=by first|(rw [hy442];with_reducible exact H)|(have H2_:=(Option.bind_some _ _).symm.trans H;rw [hy442];with_reducible exact H2_)|(have H2_:=(Option.bind_some _ _).symm.trans H;with_reducible exact H2_)|with_reducible exact H|(rw [hy442];exact H)|exact H
   have Ny442:=Aside0.mk hy442
   clear hy442
   replace H:=Option.bind_eq_some_iff.mp H
   obtain ⟨⟨t445,t446⟩,A240,H⟩:=H
   replace H : (some (t445,l1_1,t446)) = some (r1,r2,r3):=H
   have A24:=Aside0.mk A240
   clear A240
   simp only [Option.some.injEq,Prod.mk.injEq] at H
   obtain ⟨rfl,rfl,rfl⟩:=H
   go_enter Try.func77,Try.ntmps77
   try go_wp2_with (first|((with_reducible refine gate_dst (N:=3) rfl ?_);refine box_event ?hg (N:=3) ?hd (cs:=#[.int .i64 a1_0,.slice A1_1 l1_1.length c1_1]) (t:=28) ?hr ?_;(case hd => rfl);(case hg => rfl);(case hr => first|(go_simp;done)|(go_simp;rfl));intro gb422 hg w25 hbox hb;have n0_:=Aside0.mk (Kd.V_below (Kd.V_elderB (pv_ HO1_1.out) gb422 (Nat.le_of_eq hg.symm)) hb);have n1_:=Aside0.mk (IsS90.below (by repeat (first|(with_reducible first|exact HI0.out|apply IsS90.alloc|apply IsS90.drewN|apply IsS90.drew|apply IsS90.set_1)|exact HI0.out)) hb);have n2_:=Aside0.mk (KeepBut.trans (ke0_ HK.out) (KeepBut.of_below hb g none) (.inl rfl));have n3_:=Aside0.mk (below_step (by repeat (first|(with_reducible first|exact HB.out|apply below_alloc|apply pw_below_drewN|apply below_drew1|refine below_set ?_ (IsS90.ge HI0.out))|exact HB.out)) hb);have n4_:=Aside0.mk (hbox);have n5_:=Aside0.mk ((by rw [hg];exact (keep_size (w:=w) (g:=g) (row:=none) (ke0_ HK.out)) : w.heap.size ≤ gb422));have n6_:=Aside0.mk ((Nat.le_trans HW0.out (by rw [hg];exact (keep_size (w:=w) (g:=g) (row:=none) (ke0_ HK.out)) : w.heap.size ≤ gb422) : w0.heap.size ≤ gb422));have n7_:=Aside0.mk ((by rw [hg];exact Nat.ne_of_lt (IsS90.lt (show IsS90 w0 _ g s0_0 s0_1 from by repeat (first|(with_reducible first|exact HI0.out|apply IsS90.alloc|apply IsS90.drewN|apply IsS90.drew|apply IsS90.set_1)|exact HI0.out))) : g ≠ gb422));have n8_:=Aside0.mk ((by rw [hg];exact Nat.ne_of_gt (IsS90.lt (show IsS90 w0 _ g s0_0 s0_1 from by repeat (first|(with_reducible first|exact HI0.out|apply IsS90.alloc|apply IsS90.drewN|apply IsS90.drew|apply IsS90.set_1)|exact HI0.out))) : gb422 ≠ g));clear HO1_1;clear HI0;clear HK;clear HB;have HO1_1:=n0_;have HI0:=n1_;have HK:=n2_;have HB:=n3_;have BK422:=n4_;have GW422:=n5_;have GE422:=n6_;have NB0_422:=n7_;have NB422_0:=n8_;clear n0_ n1_ n2_ n3_ n4_ n5_ n6_ n7_ n8_;clear hb hbox hg)|((with_reducible refine gate_dst (N:=4) rfl ?_);refine box_event ?hg (N:=4) ?hd (cs:=#[.int .i64 0,.slice none 0 0]) (t:=28) ?hr ?_;(case hd => rfl);(case hg => rfl);(case hr => first|(go_simp;done)|(go_simp;rfl));intro gb423 hg w26 hbox hb;have n0_:=Aside0.mk (Kd.V_below (Kd.V_elderB (pv_ HO1_1.out) gb423 (Nat.le_of_eq hg.symm)) hb);have n1_:=Aside0.mk (IsS90.below (by repeat (first|(with_reducible first|exact HI0.out|apply IsS90.alloc|apply IsS90.drewN|apply IsS90.drew|apply IsS90.set_1|refine IsS90.far ?_ NB0_422.out _)|exact HI0.out)) hb);have n2_:=Aside0.mk (blk_below (g:=gb422) (o:=.cells #[.int .i64 a1_0,.slice A1_1 l1_1.length c1_1] 28 (0,0)) (pe_ BK422.out) hb);have n3_:=Aside0.mk (KeepBut.trans (ke1_ HK.out GW422.out) (KeepBut.of_below hb g none) (.inl rfl));have n4_:=Aside0.mk (below_step (by repeat (first|(with_reducible first|exact HB.out|apply below_alloc|apply pw_below_drewN|apply below_drew1|refine below_set ?_ (IsS90.ge HI0.out)|refine below_set ?_ GE422.out)|exact HB.out)) hb);have n5_:=Aside0.mk (hbox);have n6_:=Aside0.mk ((by rw [hg];exact (keep_size (w:=w) (g:=g) (row:=none) (ke1_ HK.out GW422.out)) : w.heap.size ≤ gb423));have n7_:=Aside0.mk ((Nat.le_trans HW0.out (by rw [hg];exact (keep_size (w:=w) (g:=g) (row:=none) (ke1_ HK.out GW422.out)) : w.heap.size ≤ gb423) : w0.heap.size ≤ gb423));have n8_:=Aside0.mk ((by rw [hg];exact Nat.ne_of_lt (blk_lt (g:=gb422) (o:=.cells #[.int .i64 a1_0,.slice A1_1 l1_1.length c1_1] 28 (0,0)) (pe_ BK422.out)) : gb422 ≠ gb423));have n9_:=Aside0.mk ((by rw [hg];exact Nat.ne_of_gt (blk_lt (g:=gb422) (o:=.cells #[.int .i64 a1_0,.slice A1_1 l1_1.length c1_1] 28 (0,0)) (pe_ BK422.out)) : gb423 ≠ gb422));have n10_:=Aside0.mk ((by rw [hg];exact Nat.ne_of_lt (IsS90.lt (show IsS90 w0 _ g s0_0 s0_1 from by repeat (first|(with_reducible first|exact HI0.out|apply IsS90.alloc|apply IsS90.drewN|apply IsS90.drew|apply IsS90.set_1|refine IsS90.far ?_ NB0_422.out _)|exact HI0.out))) : g ≠ gb423));have n11_:=Aside0.mk ((by rw [hg];exact Nat.ne_of_gt (IsS90.lt (show IsS90 w0 _ g s0_0 s0_1 from by repeat (first|(with_reducible first|exact HI0.out|apply IsS90.alloc|apply IsS90.drewN|apply IsS90.drew|apply IsS90.set_1|refine IsS90.far ?_ NB0_422.out _)|exact HI0.out))) : gb423 ≠ g));clear HO1_1;clear HI0;clear BK422;clear HK;clear HB;have HO1_1:=n0_;have HI0:=n1_;have BK422:=n2_;have HK:=n3_;have HB:=n4_;have BK423:=n5_;have GW423:=n6_;have GE423:=n7_;have NB422_423:=n8_;have NB423_422:=n9_;have NB0_423:=n10_;have NB423_0:=n11_;clear n0_ n1_ n2_ n3_ n4_ n5_ n6_ n7_ n8_ n9_ n10_ n11_;clear hb hbox hg)|((with_reducible refine gate_callee (f:=76) rfl ?_);refine goesL_ (some 6) rfl rfl Try.func76 (by kernel_rfl) rfl #[.pointer (some ⟨g,0,none⟩),.int .i64 24] rfl lp_ ?_;(with_reducible refine (spec_l13Rd_pick.calls k g s0_0 s0_1 24 t424 t425 w0 _ ?side1 ?side2 A3.out).mono ?_);(case side1 => repeat (first|(with_reducible first|exact HI0.out|apply IsS90.alloc|apply IsS90.drewN|apply IsS90.drew|apply IsS90.set_1|refine IsS90.far ?_ NB0_422.out _|refine IsS90.far ?_ NB0_423.out _)|exact HI0.out));(case side2 => repeat (first|(with_reducible first|exact HB.out|apply below_alloc|apply pw_below_drewN|apply below_drew1|refine below_set ?_ (IsS90.ge HI0.out)|refine below_set ?_ GE422.out|refine below_set ?_ GE423.out)|exact HB.out));rintro e w27 ⟨rfl,hi,hb,hk⟩;refine ⟨_,rfl,?_⟩;have n0_:=Aside0.mk (Kd.V_mono (Kd.V_keep (Kd.V_mono (ok:=fun k_ => (((((P1_1_ k_ ∨ w.heap.size ≤ k_)) ∧ k_ ≠ g) ∧ k_ ≠ gb422) ∧ k_ ≠ gb423)) (pv_ HO1_1.out) (fun k_ hk_ => (⟨hk_,hk_.1.1.2⟩ : _ ∧ k_ ≠ g))) hk (fun _ h => h.2)) (fun _ h => h.1));have n1_:=Aside0.mk (KeepBut.blk hk (g':=gb422) (o:=.cells #[.int .i64 a1_0,.slice A1_1 l1_1.length c1_1] 28 (0,0)) (pe_ BK422.out) NB422_0.out (by simp));have n2_:=Aside0.mk (KeepBut.blk hk (g':=gb423) (o:=.cells #[.int .i64 0,.slice none 0 0] 28 (0,0)) (pe_ BK423.out) NB423_0.out (by simp));have n3_:=Aside0.mk (KeepBut.trans (ke2_ HK.out GW422.out GW423.out) hk (.inl rfl));have n4_:=Aside0.mk (hb);have n5_:=Aside0.mk (hi);clear HO1_1;clear BK422;clear BK423;clear HK;clear HB;clear HI0;have HO1_1:=n0_;have BK422:=n1_;have BK423:=n2_;have HK:=n3_;have HB:=n4_;have HI0:=n5_;clear n0_ n1_ n2_ n3_ n4_ n5_;(try clear hb);(try clear hb2);(try clear hk);(try clear hi)))
   have n0_:=Aside0.mk (Kd.V_drew HO1_1.out)
   have n1_:=Aside0.mk (blk_drew BK422.out)
   have n2_:=Aside0.mk (blk_drew BK423.out)
   have n3_:=Aside0.mk (IsS90.drew HI0.out)
   have n4_:=Aside0.mk (keep_drew HK.out)
   have n5_:=Aside0.mk (below_drew1 HB.out)
   clear HO1_1
   clear BK422
   clear BK423
   clear HI0
   clear HK
   clear HB
   have HO1_1:=n0_
   have BK422:=n1_
   have BK423:=n2_
   have HI0:=n3_
   have HK:=n4_
   have HB:=n5_
   clear n0_ n1_ n2_ n3_ n4_ n5_
   refine start_ (n:=7) (S:=fun w' => w'.cell? ⟨gb422,0,none⟩ = some (.int .i64 a1_0) ∧ w'.cell? ⟨gb422,1,none⟩ = some (.slice A1_1 l1_1.length c1_1)) (ds:=[]) #[false,false,false,false,false,false,false] (by kernel_rfl) rfl rfl ⟨(blk_cell BK422.out 0).trans rfl,(blk_cell BK422.out 1).trans rfl⟩ (fun hHeld => ?_)
   generalize w27.drew = w28 at HO1_1 BK422 BK423 HI0 HK HB hHeld ⊢
   refine pure_ (i:=0) (N:=some 22) (v:=?_) (a':=?_) #[true,false,false,false,false,false,false] rfl rfl (by kernel_rfl) (fun _ _ _ h => h) (Or.inl ⟨by rfl,?_⟩) ?_ ?_
   rotate_left
   ·intro w'
    go_simp
    with_reducible rfl
   rotate_left
   ·simp only [Act.put,List.setIfInBounds_toArray,List.set_cons_zero,List.set_cons_succ,i64_w,i32_w]
    rfl
   refine pure_ (i:=3) (N:=some 25) (v:=?_) (a':=?_) #[true,false,false,true,false,false,false] rfl rfl (by kernel_rfl) (fun _ _ _ h => h) (Or.inl ⟨by rfl,?_⟩) ?_ ?_
   rotate_left
   ·intro w'
    go_simp
    with_reducible rfl
   rotate_left
   ·simp only [Act.put,List.setIfInBounds_toArray,List.set_cons_zero,List.set_cons_succ,i64_w,i32_w]
    rfl
   refine take_ (i:=4) (N:=some 26) (v:=?_) (a':=?_) #[true,false,false,true,true,false,false] rfl rfl (by kernel_rfl) (fun _ _ _ h => h) (Or.inl ⟨by rfl,?_⟩) hHeld ?_ ?_
   rotate_left
   ·rintro w' ⟨s0,s1⟩
    go_simp
    with_reducible rfl
   rotate_left
   ·simp only [Act.put,List.setIfInBounds_toArray,List.set_cons_zero,List.set_cons_succ,i64_w,i32_w]
    rfl
   refine one_ (i:=1) (N:=some 23) #[true,true,false,true,true,false,false] rfl rfl (by kernel_rfl) (by decide) (fun K hK => ?_)
   refine Kd.R_lit_step (Kd.int .i64) _ 3 ?hg (N:=23) ?hd (xs:=([0,5,1] : List Int)) (inner:=[.int .i64 0,.int .i64 5,.int .i64 1]) (ok:=fun _ => True) (okp:=fun _ => True) ?hr ?hp (fun _ hk => hk) trivial (Below.refl _ _) (Nat.le_refl _) (by simp) ?_;(case hd => rfl);(case hg => rfl);(case hr => first|(go_simp;done)|(go_simp;rfl));(case hp => exact (Reps.one (show Kd.M (Kd.int .i64) _ _ _ 0 [.int .i64 0] from rfl) (Reps.one (show Kd.M (Kd.int .i64) _ _ _ 5 [.int .i64 5] from rfl) (Reps.one (show Kd.M (Kd.int .i64) _ _ _ 1 [.int .i64 1] from rfl) (Reps.none _ _)))))
   intro v443 w29 ho30 hb hg_ hnew_
   clear hg_ hnew_
   (first|rw [← Ny442.out] at ho30|(simp only [Int.reduceToNat] at ho30;rw [← Ny442.out] at ho30))
   have n0_:=Aside0.mk (Kd.V_elder' (pv_ HO1_1.out) (Kd.R_base ho30) hb)
   have n1_:=Aside0.mk (Kd.R_lower (Kd.R_newM (M:=fun k_ => (w.heap.size ≤ k_)) ho30 (keep_size (w:=w) (g:=g) (row:=none) (ke2_ HK.out GW422.out GW423.out)) (fun k_ h_ => h_)) (keep_size (w:=w) (g:=g) (row:=none) (ke2_ HK.out GW422.out GW423.out)))
   have n2_:=Aside0.mk (IsS90.below (by repeat (first|(with_reducible first|exact HI0.out|apply IsS90.alloc|apply IsS90.drewN|apply IsS90.drew|apply IsS90.set_1|refine IsS90.far ?_ NB0_422.out _|refine IsS90.far ?_ NB0_423.out _)|exact HI0.out)) hb)
   have n3_:=Aside0.mk (blk_below (g:=gb422) (o:=.cells #[.int .i64 a1_0,.slice A1_1 l1_1.length c1_1] 28 (0,0)) (pe_ BK422.out) hb)
   have n4_:=Aside0.mk (blk_below (g:=gb423) (o:=.cells #[.int .i64 0,.slice none 0 0] 28 (0,0)) (pe_ BK423.out) hb)
   have n5_:=Aside0.mk (KeepBut.trans (ke2_ HK.out GW422.out GW423.out) (KeepBut.of_below hb g none) (.inl rfl))
   have n6_:=Aside0.mk (below_step (by repeat (first|(with_reducible first|exact HB.out|apply below_alloc|apply pw_below_drewN|apply below_drew1|refine below_set ?_ (IsS90.ge HI0.out)|refine below_set ?_ GE422.out|refine below_set ?_ GE423.out)|exact HB.out)) hb)
   clear HO1_1
   clear HI0
   clear BK422
   clear BK423
   clear HK
   clear HB
   have HO1_1:=n0_
   have HO444:=n1_
   have HI0:=n2_
   have BK422:=n3_
   have BK423:=n4_
   have HK:=n5_
   have HB:=n6_
   clear n0_ n1_ n2_ n3_ n4_ n5_ n6_
   clear hb ho30
   obtain ⟨Ao31,co31,eo31⟩:=Kd.R_slice HO444.out
   (first|subst eo31|(injection eo31 with f1_ f2_ f3_;have f4_:=f1_.symm;have f5_:=f3_.symm;clear f1_ f2_ f3_;subst f4_;subst f5_))
   refine hK.out _ _ ⟨(blk_cell BK422.out 0).trans rfl,(blk_cell BK422.out 1).trans rfl⟩ (fun hHeld => ?_)
   clear hK K
   refine norm_ (a':=?_) ?_ ?_
   rotate_left
   ·show Act.put _ (some 23) _ = _
    simp only [Act.put,List.setIfInBounds_toArray,List.set_cons_zero,List.set_cons_succ,i64_w,i32_w]
    rfl
   refine one_ (i:=2) (N:=some 24) #[true,true,true,true,true,false,false] rfl rfl (by kernel_rfl) (by decide) (fun K hK => ?_)
   refine goes_ Try.func88 (by kernel_rfl) rfl #[.pointer (some ⟨g,0,none⟩),.slice Ao31 y442.length co31] (by rfl) rfl rfl lp_ ?_
   with_reducible refine (spec_l13Rd_num.calls k g s0_0 t425 _ _ y442 t445 t446 w0 _ ?side1 ?side2 ?side3 ?side4 ?side5 A24.out).mono ?_
   (case side1 => repeat (first|(with_reducible first|exact HI0.out|apply IsS90.alloc|apply IsS90.drewN|apply IsS90.drew|apply IsS90.set_1|refine IsS90.far ?_ NB0_422.out _|refine IsS90.far ?_ NB0_423.out _)|exact HI0.out))
   (case side2 => repeat (first|(with_reducible first|exact HB.out|apply below_alloc|apply pw_below_drewN|apply below_drew1|refine below_set ?_ (IsS90.ge HI0.out)|refine below_set ?_ GE422.out|refine below_set ?_ GE423.out)|exact HB.out))
   (case side3 => repeat (first|exact (Kd.R_reads' HO444.out).2.2|(with_reducible refine Kd.C_alloc ?_ _)|(with_reducible refine Kd.C_drewN ?_ _)|(with_reducible refine Kd.C_drew ?_)))
   (case side4 => exact (Kd.R_reads' HO444.out).2.1)
   (case side5 => exact far_slice (IsS90.own_ne HI0.out HO444.out (by decide)))
   rintro e w32 ⟨rfl,hi,hb,hk⟩
   refine ⟨_,rfl,?_⟩
   have n0_:=Aside0.mk (Kd.V_mono (Kd.V_keep (Kd.V_mono (ok:=fun k_ => ((((((P1_1_ k_ ∨ w.heap.size ≤ k_)) ∧ k_ ≠ g) ∧ k_ ≠ gb422) ∧ k_ ≠ gb423) ∧ some k_ ≠ (.slice Ao31 y442.length co31 : Value).ownBlock)) (pv_ HO1_1.out) (fun k_ hk_ => (⟨hk_,hk_.1.1.1.2⟩ : _ ∧ k_ ≠ g))) hk (fun _ h => h.2)) (fun _ h => h.1))
   have n1_:=Aside0.mk (KeepBut.blk hk (g':=gb422) (o:=.cells #[.int .i64 a1_0,.slice A1_1 l1_1.length c1_1] 28 (0,0)) (pe_ BK422.out) NB422_0.out (by simp))
   have n2_:=Aside0.mk (KeepBut.blk hk (g':=gb423) (o:=.cells #[.int .i64 0,.slice none 0 0] 28 (0,0)) (pe_ BK423.out) NB423_0.out (by simp))
   have n3_:=Aside0.mk (Kd.R_mono (Kd.R_keep (IsS90.apart (show IsS90 w0 _ g s0_0 t425 from by repeat (first|(with_reducible first|exact HI0.out|apply IsS90.alloc|apply IsS90.drewN|apply IsS90.drew|apply IsS90.set_1|refine IsS90.far ?_ NB0_422.out _|refine IsS90.far ?_ NB0_423.out _)|exact HI0.out)) (pr_ HO444.out) (by decide)) hk (fun _ h => h.2)) (fun _ h => h.1))
   have n4_:=Aside0.mk (KeepBut.trans (ke2_ HK.out GW422.out GW423.out) hk (.inl rfl))
   have n5_:=Aside0.mk (hb)
   have n6_:=Aside0.mk (hi)
   clear HO1_1
   clear BK422
   clear BK423
   clear HO444
   clear HK
   clear HB
   clear HI0
   have HO1_1:=n0_
   have BK422:=n1_
   have BK423:=n2_
   have HO444:=n3_
   have HK:=n4_
   have HB:=n5_
   have HI0:=n6_
   clear n0_ n1_ n2_ n3_ n4_ n5_ n6_
   (try clear hb)
   (try clear hb2)
   (try clear hk)
   (try clear hi)
   refine hK.out _ _ ⟨(blk_cell BK422.out 0).trans rfl,(blk_cell BK422.out 1).trans rfl⟩ (fun hHeld => ?_)
   clear hK K
   refine norm_ (a':=?_) ?_ ?_
   rotate_left
   ·show Act.put _ (some 24) _ = _
    simp only [Act.put,List.setIfInBounds_toArray,List.set_cons_zero,List.set_cons_succ,i64_w,i32_w]
    rfl
   refine pure_ (i:=5) (N:=some 27) (v:=?_) (a':=?_) #[true,true,true,true,true,true,false] rfl rfl (by kernel_rfl) (fun _ _ _ h => h) (Or.inl ⟨by rfl,?_⟩) ?_ ?_
   rotate_left
   ·intro w'
    go_simp
    with_reducible rfl
   rotate_left
   ·simp only [Act.put,List.setIfInBounds_toArray,List.set_cons_zero,List.set_cons_succ,i64_w,i32_w]
    rfl
   refine one_ (i:=6) (N:=none) #[true,true,true,true,true,true,true] rfl rfl (by kernel_rfl) (by decide) (fun K hK => ?_)
   have hs33 : w32.cell? ⟨gb423,0,none⟩ = some (.int .i64 0):=(blk_cell BK423.out 0).trans rfl
   have hfs33:=blk_frozen BK423.out 0
   have hns33_0:=NB422_423.out
   have hms33_0:=NB423_422.out
   have hs34 : w32.cell? ⟨gb423,1,none⟩ = some (.slice none 0 0):=(blk_cell BK423.out 1).trans rfl
   have hfs34:=blk_frozen BK423.out 1
   have hns34_0:=NB422_423.out
   have hms34_0:=NB423_422.out
   refine skip_ (w1:=?_) (by rfl) rfl ?_ ?_
   rotate_left
   ·go_simp
    rfl
   refine hK.out _ _ ⟨((cell_far (p:=⟨gb423,_,none⟩) NB422_423.out _).trans (((cell_far (p:=⟨gb423,_,none⟩) NB422_423.out _).trans (hHeld.1)))),((cell_far (p:=⟨gb423,_,none⟩) NB422_423.out _).trans (((cell_far (p:=⟨gb423,_,none⟩) NB422_423.out _).trans (hHeld.2))))⟩ (fun hHeld => ?_)
   clear hK K
   refine done_ (by kernel_rfl) ?_
   try go_wp2
   refine bodyPost_ret (results_cell_row rfl _ _ gb423 28 #[.int .i64 t445,.slice A1_1 l1_1.length c1_1] (0,0) _ rfl (by refine pe_ ?_;refine blk_put (cs:=#[.int .i64 t445,.slice none 0 0]) ?_ 1 _ rfl;refine pe_ ?_;refine blk_put (cs:=#[.int .i64 0,.slice none 0 0]) ?_ 0 _ rfl;refine pe_ ?_;exact BK423.out) Try.underlying28 rfl (by kernel_rfl)) rfl ?_
   exact ⟨_,by first|rfl|(simp [errW_none,errW_some] <;> rfl)|(simp [*,errW_none,errW_some] <;> rfl),by refine pv_ ?_;exact Kd.V_mono (Kd.V_far (p:=⟨gb423,1,none⟩) (Kd.V_far (p:=⟨gb423,0,none⟩) (Kd.V_mono HO1_1.out (fun k_ hk => (⟨hk,hk.1.2⟩ : _ ∧ k_ ≠ gb423))) (fun _ hk => hk.2) (.int .i64 t445)) (fun _ hk => hk.2) (.slice A1_1 l1_1.length c1_1)) (fun _ hk => hk.1.1.1.1.1),by repeat (first|(with_reducible first|exact HI0.out|apply IsS90.alloc|apply IsS90.drewN|apply IsS90.drew|apply IsS90.set_1|refine IsS90.far ?_ NB0_422.out _|refine IsS90.far ?_ NB0_423.out _)|exact HI0.out),by repeat (first|(with_reducible first|exact HB.out|apply below_alloc|apply pw_below_drewN|apply below_drew1|refine below_set ?_ (IsS90.ge HI0.out)|refine below_set ?_ GE422.out|refine below_set ?_ GE423.out)|exact HB.out),ke2_ HK.out GW422.out GW423.out⟩
  ·rw [if_neg c23] at H
   have c23b0 : (t424 == 1) = false:=beq_eq_false_iff_ne.mpr c23
   have c23b1 : (t424 != 1) = true:=bne_iff_ne.mpr c23
   simp only [Option.some.injEq,Prod.mk.injEq] at H
   obtain ⟨rfl,rfl,rfl⟩:=H
   go_enter Try.func77,Try.ntmps77
   go_wp2_with (first|((with_reducible refine gate_dst (N:=3) rfl ?_);refine box_event ?hg (N:=3) ?hd (cs:=#[.int .i64 a1_0,.slice A1_1 l1_1.length c1_1]) (t:=28) ?hr ?_;(case hd => rfl);(case hg => rfl);(case hr => first|(go_simp;done)|(go_simp;rfl));intro gb422 hg w35 hbox hb;have n0_:=Aside0.mk (Kd.V_below (Kd.V_elderB (pv_ HO1_1.out) gb422 (Nat.le_of_eq hg.symm)) hb);have n1_:=Aside0.mk (IsS90.below (by repeat (first|(with_reducible first|exact HI0.out|apply IsS90.alloc|apply IsS90.drewN|apply IsS90.drew|apply IsS90.set_1)|exact HI0.out)) hb);have n2_:=Aside0.mk (KeepBut.trans (ke0_ HK.out) (KeepBut.of_below hb g none) (.inl rfl));have n3_:=Aside0.mk (below_step (by repeat (first|(with_reducible first|exact HB.out|apply below_alloc|apply pw_below_drewN|apply below_drew1|refine below_set ?_ (IsS90.ge HI0.out))|exact HB.out)) hb);have n4_:=Aside0.mk (hbox);have n5_:=Aside0.mk ((by rw [hg];exact (keep_size (w:=w) (g:=g) (row:=none) (ke0_ HK.out)) : w.heap.size ≤ gb422));have n6_:=Aside0.mk ((Nat.le_trans HW0.out (by rw [hg];exact (keep_size (w:=w) (g:=g) (row:=none) (ke0_ HK.out)) : w.heap.size ≤ gb422) : w0.heap.size ≤ gb422));have n7_:=Aside0.mk ((by rw [hg];exact Nat.ne_of_lt (IsS90.lt (show IsS90 w0 _ g s0_0 s0_1 from by repeat (first|(with_reducible first|exact HI0.out|apply IsS90.alloc|apply IsS90.drewN|apply IsS90.drew|apply IsS90.set_1)|exact HI0.out))) : g ≠ gb422));have n8_:=Aside0.mk ((by rw [hg];exact Nat.ne_of_gt (IsS90.lt (show IsS90 w0 _ g s0_0 s0_1 from by repeat (first|(with_reducible first|exact HI0.out|apply IsS90.alloc|apply IsS90.drewN|apply IsS90.drew|apply IsS90.set_1)|exact HI0.out))) : gb422 ≠ g));clear HO1_1;clear HI0;clear HK;clear HB;have HO1_1:=n0_;have HI0:=n1_;have HK:=n2_;have HB:=n3_;have BK422:=n4_;have GW422:=n5_;have GE422:=n6_;have NB0_422:=n7_;have NB422_0:=n8_;clear n0_ n1_ n2_ n3_ n4_ n5_ n6_ n7_ n8_;clear hb hbox hg)|((with_reducible refine gate_dst (N:=4) rfl ?_);refine box_event ?hg (N:=4) ?hd (cs:=#[.int .i64 0,.slice none 0 0]) (t:=28) ?hr ?_;(case hd => rfl);(case hg => rfl);(case hr => first|(go_simp;done)|(go_simp;rfl));intro gb423 hg w36 hbox hb;have n0_:=Aside0.mk (Kd.V_below (Kd.V_elderB (pv_ HO1_1.out) gb423 (Nat.le_of_eq hg.symm)) hb);have n1_:=Aside0.mk (IsS90.below (by repeat (first|(with_reducible first|exact HI0.out|apply IsS90.alloc|apply IsS90.drewN|apply IsS90.drew|apply IsS90.set_1|refine IsS90.far ?_ NB0_422.out _)|exact HI0.out)) hb);have n2_:=Aside0.mk (blk_below (g:=gb422) (o:=.cells #[.int .i64 a1_0,.slice A1_1 l1_1.length c1_1] 28 (0,0)) (pe_ BK422.out) hb);have n3_:=Aside0.mk (KeepBut.trans (ke1_ HK.out GW422.out) (KeepBut.of_below hb g none) (.inl rfl));have n4_:=Aside0.mk (below_step (by repeat (first|(with_reducible first|exact HB.out|apply below_alloc|apply pw_below_drewN|apply below_drew1|refine below_set ?_ (IsS90.ge HI0.out)|refine below_set ?_ GE422.out)|exact HB.out)) hb);have n5_:=Aside0.mk (hbox);have n6_:=Aside0.mk ((by rw [hg];exact (keep_size (w:=w) (g:=g) (row:=none) (ke1_ HK.out GW422.out)) : w.heap.size ≤ gb423));have n7_:=Aside0.mk ((Nat.le_trans HW0.out (by rw [hg];exact (keep_size (w:=w) (g:=g) (row:=none) (ke1_ HK.out GW422.out)) : w.heap.size ≤ gb423) : w0.heap.size ≤ gb423));have n8_:=Aside0.mk ((by rw [hg];exact Nat.ne_of_lt (blk_lt (g:=gb422) (o:=.cells #[.int .i64 a1_0,.slice A1_1 l1_1.length c1_1] 28 (0,0)) (pe_ BK422.out)) : gb422 ≠ gb423));have n9_:=Aside0.mk ((by rw [hg];exact Nat.ne_of_gt (blk_lt (g:=gb422) (o:=.cells #[.int .i64 a1_0,.slice A1_1 l1_1.length c1_1] 28 (0,0)) (pe_ BK422.out)) : gb423 ≠ gb422));have n10_:=Aside0.mk ((by rw [hg];exact Nat.ne_of_lt (IsS90.lt (show IsS90 w0 _ g s0_0 s0_1 from by repeat (first|(with_reducible first|exact HI0.out|apply IsS90.alloc|apply IsS90.drewN|apply IsS90.drew|apply IsS90.set_1|refine IsS90.far ?_ NB0_422.out _)|exact HI0.out))) : g ≠ gb423));have n11_:=Aside0.mk ((by rw [hg];exact Nat.ne_of_gt (IsS90.lt (show IsS90 w0 _ g s0_0 s0_1 from by repeat (first|(with_reducible first|exact HI0.out|apply IsS90.alloc|apply IsS90.drewN|apply IsS90.drew|apply IsS90.set_1|refine IsS90.far ?_ NB0_422.out _)|exact HI0.out))) : gb423 ≠ g));clear HO1_1;clear HI0;clear BK422;clear HK;clear HB;have HO1_1:=n0_;have HI0:=n1_;have BK422:=n2_;have HK:=n3_;have HB:=n4_;have BK423:=n5_;have GW423:=n6_;have GE423:=n7_;have NB422_423:=n8_;have NB423_422:=n9_;have NB0_423:=n10_;have NB423_0:=n11_;clear n0_ n1_ n2_ n3_ n4_ n5_ n6_ n7_ n8_ n9_ n10_ n11_;clear hb hbox hg)|((with_reducible refine gate_callee (f:=76) rfl ?_);refine goesL_ (some 6) rfl rfl Try.func76 (by kernel_rfl) rfl #[.pointer (some ⟨g,0,none⟩),.int .i64 24] rfl lp_ ?_;(with_reducible refine (spec_l13Rd_pick.calls k g s0_0 s0_1 24 t424 t425 w0 _ ?side1 ?side2 A3.out).mono ?_);(case side1 => repeat (first|(with_reducible first|exact HI0.out|apply IsS90.alloc|apply IsS90.drewN|apply IsS90.drew|apply IsS90.set_1|refine IsS90.far ?_ NB0_422.out _|refine IsS90.far ?_ NB0_423.out _)|exact HI0.out));(case side2 => repeat (first|(with_reducible first|exact HB.out|apply below_alloc|apply pw_below_drewN|apply below_drew1|refine below_set ?_ (IsS90.ge HI0.out)|refine below_set ?_ GE422.out|refine below_set ?_ GE423.out)|exact HB.out));rintro e w37 ⟨rfl,hi,hb,hk⟩;refine ⟨_,rfl,?_⟩;have n0_:=Aside0.mk (Kd.V_mono (Kd.V_keep (Kd.V_mono (ok:=fun k_ => (((((P1_1_ k_ ∨ w.heap.size ≤ k_)) ∧ k_ ≠ g) ∧ k_ ≠ gb422) ∧ k_ ≠ gb423)) (pv_ HO1_1.out) (fun k_ hk_ => (⟨hk_,hk_.1.1.2⟩ : _ ∧ k_ ≠ g))) hk (fun _ h => h.2)) (fun _ h => h.1));have n1_:=Aside0.mk (KeepBut.blk hk (g':=gb422) (o:=.cells #[.int .i64 a1_0,.slice A1_1 l1_1.length c1_1] 28 (0,0)) (pe_ BK422.out) NB422_0.out (by simp));have n2_:=Aside0.mk (KeepBut.blk hk (g':=gb423) (o:=.cells #[.int .i64 0,.slice none 0 0] 28 (0,0)) (pe_ BK423.out) NB423_0.out (by simp));have n3_:=Aside0.mk (KeepBut.trans (ke2_ HK.out GW422.out GW423.out) hk (.inl rfl));have n4_:=Aside0.mk (hb);have n5_:=Aside0.mk (hi);clear HO1_1;clear BK422;clear BK423;clear HK;clear HB;clear HI0;have HO1_1:=n0_;have BK422:=n1_;have BK423:=n2_;have HK:=n3_;have HB:=n4_;have HI0:=n5_;clear n0_ n1_ n2_ n3_ n4_ n5_;(try clear hb);(try clear hb2);(try clear hk);(try clear hi);have hnb38:=NB422_423.out;have hnc38:=NB423_422.out;have hnb39:=NB422_0.out;have hnc39:=NB0_422.out;have hcz40_0 : w37.cell? ⟨gb422,0,none⟩ = some (.int .i64 a1_0):=(blk_cell BK422.out 0).trans rfl;have hcz40_1 : w37.cell? ⟨gb422,1,none⟩ = some (.slice A1_1 l1_1.length c1_1):=(blk_cell BK422.out 1).trans rfl;have hfz40_0:=blk_frozen BK422.out 0;have hfz40_1:=blk_frozen BK422.out 1;have hnb41:=NB423_0.out;have hnc41:=NB0_423.out;have hcz42_0 : w37.cell? ⟨gb423,0,none⟩ = some (.int .i64 0):=(blk_cell BK423.out 0).trans rfl;have hcz42_1 : w37.cell? ⟨gb423,1,none⟩ = some (.slice none 0 0):=(blk_cell BK423.out 1).trans rfl;have hfz42_0:=blk_frozen BK423.out 0;have hfz42_1:=blk_frozen BK423.out 1))
   refine bodyPost_ret (results_cell_row rfl _ _ gb423 28 #[.int .i64 a1_0,.slice A1_1 l1_1.length c1_1] (0,0) _ rfl (by refine pe_ ?_;refine blk_put (cs:=#[.int .i64 a1_0,.slice none 0 0]) ?_ 1 _ rfl;refine pe_ ?_;refine blk_put (cs:=#[.int .i64 0,.slice none 0 0]) ?_ 0 _ rfl;refine pe_ ?_;exact BK423.out) Try.underlying28 rfl (by kernel_rfl)) rfl ?_
   exact ⟨_,by first|rfl|(simp [errW_none,errW_some] <;> rfl)|(simp [*,errW_none,errW_some] <;> rfl),by refine pv_ ?_;exact Kd.V_mono (Kd.V_far (p:=⟨gb423,1,none⟩) (Kd.V_far (p:=⟨gb423,0,none⟩) (Kd.V_mono HO1_1.out (fun k_ hk => (⟨hk,hk.2⟩ : _ ∧ k_ ≠ gb423))) (fun _ hk => hk.2) (.int .i64 a1_0)) (fun _ hk => hk.2) (.slice A1_1 l1_1.length c1_1)) (fun _ hk => hk.1.1.1.1),by repeat (first|(with_reducible first|exact HI0.out|apply IsS90.alloc|apply IsS90.drewN|apply IsS90.drew|apply IsS90.set_1|refine IsS90.far ?_ NB0_422.out _|refine IsS90.far ?_ NB0_423.out _)|exact HI0.out),by repeat (first|(with_reducible first|exact HB.out|apply below_alloc|apply pw_below_drewN|apply below_drew1|refine below_set ?_ (IsS90.ge HI0.out)|refine below_set ?_ GE422.out|refine below_set ?_ GE423.out)|exact HB.out),ke2_ HK.out GW422.out GW423.out⟩
end Go.Proofs.Ytengegdaiphfeaa.X
end
section
namespace Go.Proofs.Ytengegdaiphfeaa.X
open Go.RowKit Go.Proofs.YtengegdaiphfeaaW.PrintWords Go.Proofs.YtengegdaiphfeaaW.PrintLast Go.Proofs.YtengegdaiphfeaaW.PrintMore
attribute [local go_sem] max2_int min2_int max_two min_two max_three min_three max_four min_four
set_option linter.unusedVariables false
set_option linter.unusedSimpArgs false
def spec_l6Draw.l0 : Nat → Int → Int → List Int → Int → Int → List Int → Option (Int × List Int × Int)
 | 0,_,_,_,_,_,_ => none
 | k + 1,x10,x11,x1000,x1001,x449000,x449001 => if x11 < x10 then ((spec_l13Rd_num.f k x1000 x1001 (([3,0,1,3,2,1,0] : List Int))).bind fun bt452 => (if x449001.length < 17592186044416 then (spec_l6Draw.l0 k x10 (wrap64 (x11 + 1)) x1000 bt452.2 x449000 (x449001 ++ [bt452.1])) else (none))) else (some (x449000,x449001,x1001))
def spec_l6Draw.f (k : Nat) (s0_0 : List Int) (s0_1 : Int) (a1 : Int) : Option (Int × List Int × Int):=spec_l6Draw.l0 k (wrap64 (a1 * a1)) 0 s0_0 s0_1 a1 ([] : List Int)
theorem spec_l6Draw.mono_l : ∀ k,(∀ y0 y1 y2 y3 y4 y5,LeO (spec_l6Draw.l0 k y0 y1 y2 y3 y4 y5) (spec_l6Draw.l0 (k + 1) y0 y1 y2 y3 y4 y5))
 | 0 => fun _ _ _ _ _ _ r h => by simp [spec_l6Draw.l0] at h
 | k + 1 => by
  have ih0:=spec_l6Draw.mono_l k
  ·intro y0 y1 y2 y3 y4 y5
   unfold spec_l6Draw.l0
   repeat' first
   | (with_reducible exact ih0 _ _ _ _ _ _)
   | (with_reducible exact spec_l13Rd_num.mono _ _ _ _)
   | (with_reducible exact LeO.refl _)
   | (with_reducible exact LeO.none _)
   | (with_reducible refine LeO.ite ?_ ?_)
   | (with_reducible refine LeO.bind ?_ (fun _ => ?_))
   | exact ih0 _ _ _ _ _ _
   | exact spec_l13Rd_num.mono _ _ _ _
   | exact LeO.none _
   | refine LeO.ite ?_ ?_
   | refine LeO.bind ?_ (fun _ => ?_)
theorem spec_l6Draw.mono : ∀ a0 a1 a2 k,LeO (spec_l6Draw.f k a0 a1 a2) (spec_l6Draw.f (k + 1) a0 a1 a2):=by
 intro a0 a1 a2 k
 have ih0:=spec_l6Draw.mono_l k
 unfold spec_l6Draw.f
 repeat' first
   | (with_reducible exact ih0 _ _ _ _ _ _)
   | (with_reducible exact spec_l13Rd_num.mono _ _ _ _)
   | (with_reducible exact LeO.refl _)
   | (with_reducible exact LeO.none _)
   | (with_reducible refine LeO.ite ?_ ?_)
   | (with_reducible refine LeO.bind ?_ (fun _ => ?_))
   | exact ih0 _ _ _ _ _ _
   | exact spec_l13Rd_num.mono _ _ _ _
   | exact LeO.none _
   | refine LeO.ite ?_ ?_
   | refine LeO.bind ?_ (fun _ => ?_)
def spec_l6Draw.T4 : Bool × List (List Nat × List Nat):=(true,[([],[]),([0],[0]),([],[]),([],[]),([2,3],[2,3]),([4],[4]),([1,5,4],[1,5]),([0,1,2,3,4,5,6],[]),([7,6,6,0,1,2,3,4,5,6],[6,7])])
def spec_l6Draw.B4 : List Nat:=[0,1,0,0,12,28,63,127,255]
theorem spec_l6Draw.tab4 : rtab .any (opsOf Try.f78 4) = spec_l6Draw.T4:=by kernel_rfl
theorem spec_l6Draw.bits4 : waitsOk spec_l6Draw.T4.2 spec_l6Draw.B4 = true:=by kernel_rfl
set_option maxHeartbeats 8000000 in
set_option maxRecDepth 100000 in
theorem spec_l6Draw.calls (k : Nat) (g : Nat) (s0_0 : List Int) (s0_1 : Int) (a1 : Int) (r1 : Int) (r2 : List Int) (r3 : Int) (w0 w : World) (hI : IsS90 w0 w g s0_0 s0_1) (hB : Below w0.heap.size w0 w) (h : spec_l6Draw.f k s0_0 s0_1 a1 = some (r1,r2,r3)) :
  Calls Try.prog 78 #[.pointer (some ⟨g,0,none⟩),.int .i64 a1] w fun e w' => ∃ v1_ : Value,e = .returned (.agg #[.int .i64 r1,v1_]) ∧ Kd.R (Kd.int .i64) 3 w' w.heap.size (fun _ => True) v1_ r2 ∧ IsS90 w0 w' g s0_0 r3 ∧ Below w0.heap.size w0 w' ∧ KeepBut w w' g none:=by
 have hu28:=Try.underlying28
 have HI0:=Aside0.mk hI
 have HK:=Aside0.mk (KeepBut.refl w g none)
 have HL:=Aside0.mk hB.size
 clear hI
 have HW0:=Aside0.mk hB.size
 have HB:=Aside0.mk hB
 clear hB
 have H : (spec_l6Draw.l0 k (wrap64 (a1 * a1)) 0 s0_0 s0_1 a1 ([] : List Int)) = some (r1,r2,r3):=h
 clear h
 have H':=Aside0.mk H
 clear H
 go_enter Try.func78,Try.ntmps78
 go_wp2_with (first|((with_reducible refine gate_dst (N:=4) rfl ?_);refine box_event ?hg (N:=4) ?hd (cs:=#[.int .i64 0,.slice none 0 0]) (t:=28) ?hr ?_;(case hd => rfl);(case hg => rfl);(case hr => first|(go_simp;done)|(go_simp;rfl));intro gb447 hg w3 hbox hb;have n0_:=Aside0.mk (IsS90.below (by repeat (first|(with_reducible first|exact HI0.out|apply IsS90.alloc|apply IsS90.drewN|apply IsS90.drew|apply IsS90.set_1)|exact HI0.out)) hb);have n1_:=Aside0.mk (KeepBut.trans (ke0_ HK.out) (KeepBut.of_below hb g none) (.inl rfl));have n2_:=Aside0.mk (below_step (by repeat (first|(with_reducible first|exact HB.out|apply below_alloc|apply pw_below_drewN|apply below_drew1|refine below_set ?_ (IsS90.ge HI0.out))|exact HB.out)) hb);have n3_:=Aside0.mk (hbox);have n4_:=Aside0.mk ((by rw [hg];exact (keep_size (w:=w) (g:=g) (row:=none) (ke0_ HK.out)) : w.heap.size ≤ gb447));have n5_:=Aside0.mk ((Nat.le_trans HW0.out (by rw [hg];exact (keep_size (w:=w) (g:=g) (row:=none) (ke0_ HK.out)) : w.heap.size ≤ gb447) : w0.heap.size ≤ gb447));have n6_:=Aside0.mk ((by rw [hg];exact Nat.ne_of_lt (IsS90.lt (show IsS90 w0 _ g s0_0 s0_1 from by repeat (first|(with_reducible first|exact HI0.out|apply IsS90.alloc|apply IsS90.drewN|apply IsS90.drew|apply IsS90.set_1)|exact HI0.out))) : g ≠ gb447));have n7_:=Aside0.mk ((by rw [hg];exact Nat.ne_of_gt (IsS90.lt (show IsS90 w0 _ g s0_0 s0_1 from by repeat (first|(with_reducible first|exact HI0.out|apply IsS90.alloc|apply IsS90.drewN|apply IsS90.drew|apply IsS90.set_1)|exact HI0.out))) : gb447 ≠ g));clear HI0;clear HK;clear HB;have HI0:=n0_;have HK:=n1_;have HB:=n2_;have BK447:=n3_;have GW447:=n4_;have GE447:=n5_;have NB0_447:=n6_;have NB447_0:=n7_;clear n0_ n1_ n2_ n3_ n4_ n5_ n6_ n7_;clear hb hbox hg)|((with_reducible refine gate_dst (N:=5) rfl ?_);refine box_event ?hg (N:=5) ?hd (cs:=#[.int .i64 0,.slice none 0 0]) (t:=28) ?hr ?_;(case hd => rfl);(case hg => rfl);(case hr => first|(go_simp;done)|(go_simp;rfl));intro gb448 hg w4 hbox hb;have n0_:=Aside0.mk (IsS90.below (by repeat (first|(with_reducible first|exact HI0.out|apply IsS90.alloc|apply IsS90.drewN|apply IsS90.drew|apply IsS90.set_1|refine IsS90.far ?_ NB0_447.out _)|exact HI0.out)) hb);have n1_:=Aside0.mk (blk_below (g:=gb447) (o:=.cells #[.int .i64 0,.slice none 0 0] 28 (0,0)) (pe_ BK447.out) hb);have n2_:=Aside0.mk (KeepBut.trans (ke1_ HK.out GW447.out) (KeepBut.of_below hb g none) (.inl rfl));have n3_:=Aside0.mk (below_step (by repeat (first|(with_reducible first|exact HB.out|apply below_alloc|apply pw_below_drewN|apply below_drew1|refine below_set ?_ (IsS90.ge HI0.out)|refine below_set ?_ GE447.out)|exact HB.out)) hb);have n4_:=Aside0.mk (hbox);have n5_:=Aside0.mk ((by rw [hg];exact (keep_size (w:=w) (g:=g) (row:=none) (ke1_ HK.out GW447.out)) : w.heap.size ≤ gb448));have n6_:=Aside0.mk ((Nat.le_trans HW0.out (by rw [hg];exact (keep_size (w:=w) (g:=g) (row:=none) (ke1_ HK.out GW447.out)) : w.heap.size ≤ gb448) : w0.heap.size ≤ gb448));have n7_:=Aside0.mk ((by rw [hg];exact Nat.ne_of_lt (blk_lt (g:=gb447) (o:=.cells #[.int .i64 0,.slice none 0 0] 28 (0,0)) (pe_ BK447.out)) : gb447 ≠ gb448));have n8_:=Aside0.mk ((by rw [hg];exact Nat.ne_of_gt (blk_lt (g:=gb447) (o:=.cells #[.int .i64 0,.slice none 0 0] 28 (0,0)) (pe_ BK447.out)) : gb448 ≠ gb447));have n9_:=Aside0.mk ((by rw [hg];exact Nat.ne_of_lt (IsS90.lt (show IsS90 w0 _ g s0_0 s0_1 from by repeat (first|(with_reducible first|exact HI0.out|apply IsS90.alloc|apply IsS90.drewN|apply IsS90.drew|apply IsS90.set_1|refine IsS90.far ?_ NB0_447.out _)|exact HI0.out))) : g ≠ gb448));have n10_:=Aside0.mk ((by rw [hg];exact Nat.ne_of_gt (IsS90.lt (show IsS90 w0 _ g s0_0 s0_1 from by repeat (first|(with_reducible first|exact HI0.out|apply IsS90.alloc|apply IsS90.drewN|apply IsS90.drew|apply IsS90.set_1|refine IsS90.far ?_ NB0_447.out _)|exact HI0.out))) : gb448 ≠ g));clear HI0;clear BK447;clear HK;clear HB;have HI0:=n0_;have BK447:=n1_;have HK:=n2_;have HB:=n3_;have BK448:=n4_;have GW448:=n5_;have GE448:=n6_;have NB447_448:=n7_;have NB448_447:=n8_;have NB0_448:=n9_;have NB448_0:=n10_;clear n0_ n1_ n2_ n3_ n4_ n5_ n6_ n7_ n8_ n9_ n10_;clear hb hbox hg;have hnb5:=NB448_447.out;have hnc5:=NB447_448.out;have hnb6:=NB448_0.out;have hnc6:=NB0_448.out;have hcz7_0 : w4.cell? ⟨gb448,0,none⟩ = some (.int .i64 0):=(blk_cell BK448.out 0).trans rfl;have hcz7_1 : w4.cell? ⟨gb448,1,none⟩ = some (.slice none 0 0):=(blk_cell BK448.out 1).trans rfl;have hfz7_0:=blk_frozen BK448.out 0;have hfz7_1:=blk_frozen BK448.out 1))
 go_loopg [11] k (fun kq v11 w' => ∃ (x11_1 : Int) (x1001_1 : Int) (x449001_1 : List Int) (u449001 : Value),v11 = .int .i64 x11_1 ∧ Aside0 (spec_l6Draw.l0 kq (wrap64 (a1 * a1)) x11_1 s0_0 x1001_1 a1 x449001_1 = some (r1,r2,r3)) ∧ Aside0 (kq ≤ k) ∧ Aside0 (Kd.R (Kd.int .i64) 3 w' w.heap.size (fun _ => True) u449001 x449001_1) ∧ Aside0 (w'.heap[gb447]? = some (.cells #[.int .i64 0,(.slice none 0 0)] 28 (0,0))) ∧ Aside0 (w'.heap[gb448]? = some (.cells #[.int .i64 a1,u449001] 28 (0,0))) ∧ Aside0 (IsS90 w0 w' g s0_0 x1001_1) ∧ Aside0 (KeepBut w w' g none) ∧ Aside0 (Below w0.heap.size w0 w'))
 case atStart => exact ⟨(0),(s0_1),(([] : List Int)),(.slice none 0 0),(by first|rfl|(simp;done)|(simp [*];done)),H',⟨Nat.le_refl _⟩,⟨by first|exact Kd.R_nil _ _ _ _ _|exact Kd.N_nil _ _ _ _ _|exact Kd.V_nil _ _ _ _ _|exact Kd.Q_nil _ _ _ _ _|exact Kd.S_nil _ _ _ _ _⟩,⟨by refine pe_ ?_;refine blk_far ?_ NB447_448.out _;refine pe_ ?_;refine blk_far ?_ NB447_448.out _;refine pe_ ?_;exact BK447.out⟩,⟨by refine pe_ ?_;refine blk_put (cs:=#[.int .i64 a1,.slice none 0 0]) ?_ 1 _ rfl;refine pe_ ?_;refine blk_put (cs:=#[.int .i64 0,.slice none 0 0]) ?_ 0 _ rfl;refine pe_ ?_;exact BK448.out⟩,⟨by repeat (first|(with_reducible first|exact HI0.out|apply IsS90.alloc|apply IsS90.drewN|apply IsS90.drew|apply IsS90.set_1|refine IsS90.far ?_ NB0_447.out _|refine IsS90.far ?_ NB0_448.out _)|exact HI0.out)⟩,⟨ke2_ HK.out GW447.out GW448.out⟩,⟨by repeat (first|(with_reducible first|exact HB.out|apply below_alloc|apply pw_below_drewN|apply below_drew1|refine below_set ?_ (IsS90.ge HI0.out)|refine below_set ?_ GE447.out|refine below_set ?_ GE448.out)|exact HB.out)⟩⟩
 case round =>
  clear H'
  try clear p2
  try clear c5
  try clear c6
  try clear p6
  try clear c7
  try clear hcz7_0
  try clear hcz7_1
  try clear hfz7_0
  try clear hfz7_1
  obtain ⟨x11_1,x1001_1,x449001_1,u449001,rfl,HA,HK1,HO_449001,BK447,BK448,HI0,HK,HB⟩:=hrel
  cases gk with
  | zero => exact absurd HA.out (by simp [spec_l6Draw.l0])
  | succ k1 =>
   have H:=HA.out
   clear HA
   simp only [spec_l6Draw.l0] at H
   by_cases c8 : x11_1 < (wrap64 (a1 * a1))
   ·rw [if_pos c8] at H
    have c8b0 : decide (x11_1 < (wrap64 (a1 * a1))) = true:=decide_eq_true c8
    clear c8
    obtain ⟨y449,hy449⟩ : ∃ y_ : List Int,y_ = (([3,0,1,3,2,1,0] : List Int)):=⟨_,rfl⟩
    replace H : ((spec_l13Rd_num.f k1 s0_0 x1001_1 y449).bind fun bt452 => (if x449001_1.length < 17592186044416 then (spec_l6Draw.l0 k1 (wrap64 (a1 * a1)) (wrap64 (x11_1 + 1)) s0_0 bt452.2 a1 (x449001_1 ++ [bt452.1])) else (none))) = some (r1,r2,r3):=by first|(rw [hy449];with_reducible exact H)|(have H2_:=(Option.bind_some _ _).symm.trans H;rw [hy449];with_reducible exact H2_)|(have H2_:=(Option.bind_some _ _).symm.trans H;with_reducible exact H2_)|with_reducible exact H|(rw [hy449];exact H)|exact H
    have Ny449:=Aside0.mk hy449
    clear hy449
    replace H:=Option.bind_eq_some_iff.mp H
    obtain ⟨⟨t452,t453⟩,A90,H⟩:=H
    replace H : (if x449001_1.length < 17592186044416 then (spec_l6Draw.l0 k1 (wrap64 (a1 * a1)) (wrap64 (x11_1 + 1)) s0_0 t453 a1 (x449001_1 ++ [t452])) else (none)) = some (r1,r2,r3):=H
    have A9:=Aside0.mk A90
    clear A90
    by_cases c10 : x449001_1.length < 17592186044416
    ·rw [if_pos c10] at H
     have LMc10:=Aside0.mk c10
     clear c10
     obtain ⟨y454,hy454⟩ : ∃ y_ : List Int,y_ = (x449001_1 ++ [t452]):=⟨_,rfl⟩
     replace H : (spec_l6Draw.l0 k1 (wrap64 (a1 * a1)) (wrap64 (x11_1 + 1)) s0_0 t453 a1 y454) = some (r1,r2,r3):=by first|(rw [hy454];with_reducible exact H)|(have H2_:=(Option.bind_some _ _).symm.trans H;rw [hy454];with_reducible exact H2_)|(have H2_:=(Option.bind_some _ _).symm.trans H;with_reducible exact H2_)|with_reducible exact H|(rw [hy454];exact H)|exact H
     have Ny454:=Aside0.mk hy454
     clear hy454
     have H':=Aside0.mk H
     clear H
     try go_wp2
     have n0_:=Aside0.mk (Kd.R_drew HO_449001.out)
     have n1_:=Aside0.mk (blk_drew BK447.out)
     have n2_:=Aside0.mk (blk_drew BK448.out)
     have n3_:=Aside0.mk (IsS90.drew HI0.out)
     have n4_:=Aside0.mk (keep_drew HK.out)
     have n5_:=Aside0.mk (below_drew1 HB.out)
     clear HO_449001
     clear BK447
     clear BK448
     clear HI0
     clear HK
     clear HB
     have HO_449001:=n0_
     have BK447:=n1_
     have BK448:=n2_
     have HI0:=n3_
     have HK:=n4_
     have HB:=n5_
     clear n0_ n1_ n2_ n3_ n4_ n5_
     refine start_ (n:=9) (S:=fun w' => w'.cell? ⟨gb448,0,none⟩ = some (.int .i64 a1) ∧ w'.cell? ⟨gb448,1,none⟩ = some (u449001)) (ds:=[8]) #[false,false,false,false,false,false,false,false,false] (by kernel_rfl) rfl rfl ⟨(blk_cell BK448.out 0).trans rfl,(blk_cell BK448.out 1).trans rfl⟩ (fun hHeld => ?_);refine with_tabW spec_l6Draw.tab4 spec_l6Draw.bits4 (fun HT_ HW_ => ?_)
     generalize wr.drew = w11 at HO_449001 BK447 BK448 HI0 HK HB hHeld ⊢
     refine pure_ (i:=0) (N:=some 13) (v:=?_) (a':=?_) #[true,false,false,false,false,false,false,false,false] rfl rfl (any_of HT_.out (by kernel_rfl)) (fun _ _ _ h => h) (Or.inl ⟨by rfl,?_⟩) ?_ ?_
     rotate_left
     ·intro w'
      go_simp
      with_reducible rfl
     rotate_left
     ·simp only [Act.put,List.setIfInBounds_toArray,List.set_cons_zero,List.set_cons_succ,i64_w,i32_w]
      rfl
     refine pure_ (i:=2) (N:=some 15) (v:=?_) (a':=?_) #[true,false,true,false,false,false,false,false,false] rfl rfl (any_of HT_.out (by kernel_rfl)) (fun _ _ _ h => h) (Or.inl ⟨by rfl,?_⟩) ?_ ?_
     rotate_left
     ·intro w'
      go_simp
      with_reducible rfl
     rotate_left
     ·simp only [Act.put,List.setIfInBounds_toArray,List.set_cons_zero,List.set_cons_succ,i64_w,i32_w]
      rfl
     refine take_ (i:=1) (N:=some 14) (v:=?_) (a':=?_) #[true,true,true,false,false,false,false,false,false] rfl rfl (take_ofW HT_.out HW_.out (by kernel_rfl)) (fun _ _ _ h => h) (Or.inl ⟨by rfl,?_⟩) hHeld ?_ ?_
     rotate_left
     ·rintro w' ⟨s0,s1⟩
      go_simp
      with_reducible rfl
     rotate_left
     ·simp only [Act.put,List.setIfInBounds_toArray,List.set_cons_zero,List.set_cons_succ,i64_w,i32_w]
      rfl
     refine one_ (i:=3) (N:=some 16) #[true,true,true,true,false,false,false,false,false] rfl rfl (one_of HT_.out (by kernel_rfl)) (by decide) (fun K hK => ?_)
     refine Kd.R_lit_step (Kd.int .i64) _ 3 ?hg (N:=16) ?hd (xs:=([3,0,1,3,2,1,0] : List Int)) (inner:=[.int .i64 3,.int .i64 0,.int .i64 1,.int .i64 3,.int .i64 2,.int .i64 1,.int .i64 0]) (ok:=fun _ => True) (okp:=fun _ => True) ?hr ?hp (fun _ hk => hk) trivial (Below.refl _ _) (Nat.le_refl _) (by simp) ?_;(case hd => rfl);(case hg => rfl);(case hr => first|(go_simp;done)|(go_simp;rfl));(case hp => exact (Reps.one (show Kd.M (Kd.int .i64) _ _ _ 3 [.int .i64 3] from rfl) (Reps.one (show Kd.M (Kd.int .i64) _ _ _ 0 [.int .i64 0] from rfl) (Reps.one (show Kd.M (Kd.int .i64) _ _ _ 1 [.int .i64 1] from rfl) (Reps.one (show Kd.M (Kd.int .i64) _ _ _ 3 [.int .i64 3] from rfl) (Reps.one (show Kd.M (Kd.int .i64) _ _ _ 2 [.int .i64 2] from rfl) (Reps.one (show Kd.M (Kd.int .i64) _ _ _ 1 [.int .i64 1] from rfl) (Reps.one (show Kd.M (Kd.int .i64) _ _ _ 0 [.int .i64 0] from rfl) (Reps.none _ _)))))))))
     intro v450 w12 ho13 hb hg_ hnew_
     clear hg_ hnew_
     (first|rw [← Ny449.out] at ho13|(simp only [Int.reduceToNat] at ho13;rw [← Ny449.out] at ho13))
     have n0_:=Aside0.mk (Kd.R_elder' (pr_ HO_449001.out) (Kd.R_base ho13) hb)
     have n1_:=Aside0.mk (Kd.R_lower (Kd.R_new' ho13 (Kd.R_lt (pr_ HO_449001.out))) (keep_size (w:=w) (g:=g) (row:=none) (ke2_ HK.out GW447.out GW448.out)))
     have n2_:=Aside0.mk (blk_below (g:=gb447) (o:=.cells #[.int .i64 0,.slice none 0 0] 28 (0,0)) (pe_ BK447.out) hb)
     have n3_:=Aside0.mk (blk_below (g:=gb448) (o:=.cells #[.int .i64 a1,u449001] 28 (0,0)) (pe_ BK448.out) hb)
     have n4_:=Aside0.mk (IsS90.below (by repeat (first|(with_reducible first|exact HI0.out|apply IsS90.alloc|apply IsS90.drewN|apply IsS90.drew|apply IsS90.set_1|refine IsS90.far ?_ NB0_447.out _|refine IsS90.far ?_ NB0_448.out _)|exact HI0.out)) hb)
     have n5_:=Aside0.mk (KeepBut.trans (ke2_ HK.out GW447.out GW448.out) (KeepBut.of_below hb g none) (.inl rfl))
     have n6_:=Aside0.mk (below_step (by repeat (first|(with_reducible first|exact HB.out|apply below_alloc|apply pw_below_drewN|apply below_drew1|refine below_set ?_ (IsS90.ge HI0.out)|refine below_set ?_ GE447.out|refine below_set ?_ GE448.out)|exact HB.out)) hb)
     clear HO_449001
     clear BK447
     clear BK448
     clear HI0
     clear HK
     clear HB
     have HO_449001:=n0_
     have HO451:=n1_
     have BK447:=n2_
     have BK448:=n3_
     have HI0:=n4_
     have HK:=n5_
     have HB:=n6_
     clear n0_ n1_ n2_ n3_ n4_ n5_ n6_
     clear hb ho13
     obtain ⟨Ao14,co14,eo14⟩:=Kd.R_slice HO451.out
     (first|subst eo14|(injection eo14 with f1_ f2_ f3_;have f4_:=f1_.symm;have f5_:=f3_.symm;clear f1_ f2_ f3_;subst f4_;subst f5_))
     refine hK.out _ _ ⟨(blk_cell BK448.out 0).trans rfl,(blk_cell BK448.out 1).trans rfl⟩ (fun hHeld => ?_)
     clear hK K
     refine norm_ (a':=?_) ?_ ?_
     rotate_left
     ·show Act.put _ (some 16) _ = _
      simp only [Act.put,List.setIfInBounds_toArray,List.set_cons_zero,List.set_cons_succ,i64_w,i32_w]
      rfl
     refine one_ (i:=4) (N:=some 17) #[true,true,true,true,true,false,false,false,false] rfl rfl (one_of HT_.out (by kernel_rfl)) (by decide) (fun K hK => ?_)
     refine goes_ Try.func88 (by kernel_rfl) rfl #[.pointer (some ⟨g,0,none⟩),.slice Ao14 y449.length co14] (by rfl) rfl rfl lp_ ?_
     with_reducible refine (spec_l13Rd_num.calls k1 g s0_0 x1001_1 _ _ y449 t452 t453 w0 _ ?side1 ?side2 ?side3 ?side4 ?side5 A9.out).mono ?_
     (case side1 => repeat (first|(with_reducible first|exact HI0.out|apply IsS90.alloc|apply IsS90.drewN|apply IsS90.drew|apply IsS90.set_1|refine IsS90.far ?_ NB0_447.out _|refine IsS90.far ?_ NB0_448.out _)|exact HI0.out))
     (case side2 => repeat (first|(with_reducible first|exact HB.out|apply below_alloc|apply pw_below_drewN|apply below_drew1|refine below_set ?_ (IsS90.ge HI0.out)|refine below_set ?_ GE447.out|refine below_set ?_ GE448.out)|exact HB.out))
     (case side3 => repeat (first|exact (Kd.R_reads' HO451.out).2.2|(with_reducible refine Kd.C_alloc ?_ _)|(with_reducible refine Kd.C_drewN ?_ _)|(with_reducible refine Kd.C_drew ?_)))
     (case side4 => exact (Kd.R_reads' HO451.out).2.1)
     (case side5 => exact far_slice (IsS90.own_ne HI0.out HO451.out (by decide)))
     rintro e w15 ⟨rfl,hi,hb,hk⟩
     refine ⟨_,rfl,?_⟩
     have n0_:=Aside0.mk (Kd.R_mono (Kd.R_keep (IsS90.apart (show IsS90 w0 _ g s0_0 x1001_1 from by repeat (first|(with_reducible first|exact HI0.out|apply IsS90.alloc|apply IsS90.drewN|apply IsS90.drew|apply IsS90.set_1|refine IsS90.far ?_ NB0_447.out _|refine IsS90.far ?_ NB0_448.out _)|exact HI0.out)) (pr_ HO_449001.out) (by decide)) hk (fun _ h => h.2)) (fun _ h => h.1))
     have n1_:=Aside0.mk (KeepBut.blk hk (g':=gb447) (o:=.cells #[.int .i64 0,.slice none 0 0] 28 (0,0)) (pe_ BK447.out) NB447_0.out (by simp))
     have n2_:=Aside0.mk (KeepBut.blk hk (g':=gb448) (o:=.cells #[.int .i64 a1,u449001] 28 (0,0)) (pe_ BK448.out) NB448_0.out (by simp))
     have n3_:=Aside0.mk (Kd.R_mono (Kd.R_keep (IsS90.apart (show IsS90 w0 _ g s0_0 x1001_1 from by repeat (first|(with_reducible first|exact HI0.out|apply IsS90.alloc|apply IsS90.drewN|apply IsS90.drew|apply IsS90.set_1|refine IsS90.far ?_ NB0_447.out _|refine IsS90.far ?_ NB0_448.out _)|exact HI0.out)) (pr_ HO451.out) (by decide)) hk (fun _ h => h.2)) (fun _ h => h.1))
     have n4_:=Aside0.mk (KeepBut.trans (ke2_ HK.out GW447.out GW448.out) hk (.inl rfl))
     have n5_:=Aside0.mk (hb)
     have n6_:=Aside0.mk (hi)
     clear HO_449001
     clear BK447
     clear BK448
     clear HO451
     clear HK
     clear HB
     clear HI0
     have HO_449001:=n0_
     have BK447:=n1_
     have BK448:=n2_
     have HO451:=n3_
     have HK:=n4_
     have HB:=n5_
     have HI0:=n6_
     clear n0_ n1_ n2_ n3_ n4_ n5_ n6_
     (try clear hb)
     (try clear hb2)
     (try clear hk)
     (try clear hi)
     refine hK.out _ _ ⟨(blk_cell BK448.out 0).trans rfl,(blk_cell BK448.out 1).trans rfl⟩ (fun hHeld => ?_)
     clear hK K
     refine norm_ (a':=?_) ?_ ?_
     rotate_left
     ·show Act.put _ (some 17) _ = _
      simp only [Act.put,List.setIfInBounds_toArray,List.set_cons_zero,List.set_cons_succ,i64_w,i32_w]
      rfl
     refine one_ (i:=5) (N:=some 18) #[true,true,true,true,true,true,false,false,false] rfl rfl (one_of HT_.out (by kernel_rfl)) (by decide) (fun K hK => ?_)
     refine value_ (w1:=?_) (v:=?_) (by rfl) rfl ?_ ?_
     rotate_left 2
     ·go_simp
      constructor
      ·rfl
      ·rfl
     refine hK.out _ _ ⟨(blk_cell (blk_alloc BK448.out _) 0).trans rfl,(blk_cell (blk_alloc BK448.out _) 1).trans rfl⟩ (fun hHeld => ?_)
     clear hK K
     refine norm_ (a':=?_) ?_ ?_
     rotate_left
     ·show Act.put _ (some 18) _ = _
      simp only [Act.put,List.setIfInBounds_toArray,List.set_cons_zero,List.set_cons_succ,i64_w,i32_w]
      rfl
     refine one_ (i:=6) (N:=some 19) #[true,true,true,true,true,true,true,false,false] rfl rfl (one_of HT_.out (by kernel_rfl)) (by decide) (fun K hK => ?_)
     refine Kd.R_append_step (Kd.int .i64) w.heap.size (by rfl) (.tmp 14) (.tmp 18) 24 3 (.int .i64 0) 8 rfl Try.underlying24 info3 rfl (by decide) (by omega) u449001 x449001_1 t452 [.int .i64 t452] (fun k_ => some k_ ≠ (.slice Ao14 y449.length co14 : Value).ownBlock) (fun _ => False) rfl rfl ?aP (fun _ hk => hk.elim) ?aF ?aO (Below.refl _ _) ?aS ?aL ?_
     (case aP => exact rfl)
     (case aF => exact (fun k_ hk => Kd.fresh' (Kd.R_lt (pr_ HO451.out)) k_ hk))
     (case aO => exact (by refine pr_ ?_;exact Kd.R_mono HO_449001.out (fun _ hk => hk.2)))
     (case aS => exact (keep_size (w:=w) (g:=g) (row:=none) (ke2_ HK.out GW447.out GW448.out)))
     (case aL => have:=LMc10.out;omega)
     intro v455 w16 ho hb hg hat
     rw [← Ny454.out] at ho
     have n0_:=Aside0.mk (blk_grown (g:=gb447) (o:=.cells #[.int .i64 0,.slice none 0 0] 28 (0,0)) (pe_ BK447.out) hg (Kd.R_ne HO_449001.out BK447.out (by decide)))
     have n1_:=Aside0.mk (blk_grown (g:=gb448) (o:=.cells #[.int .i64 a1,u449001] 28 (0,0)) (pe_ BK448.out) hg (Kd.R_ne HO_449001.out BK448.out (by decide)))
     have n2_:=Aside0.mk (IsS90.grown (by repeat (first|(with_reducible first|exact HI0.out|apply IsS90.alloc|apply IsS90.drewN|apply IsS90.drew|apply IsS90.set_1|refine IsS90.far ?_ NB0_447.out _|refine IsS90.far ?_ NB0_448.out _)|exact HI0.out)) hg (IsS90.own_ne HI0.out HO_449001.out (by decide)))
     have n3_:=Aside0.mk (Kd.R_after (ok:=(fun _ => True)) (pr_ HO451.out) hg hat)
     have n4_:=Aside0.mk (below_weaken (by repeat (first|(with_reducible first|exact HB.out|apply below_alloc|apply pw_below_drewN|apply below_drew1|refine below_set ?_ (IsS90.ge HI0.out)|refine below_set ?_ GE447.out|refine below_set ?_ GE448.out)|exact HB.out)) HL.out hb)
     have n5_:=Aside0.mk (KeepBut.trans (ke2_ HK.out GW447.out GW448.out) (KeepBut.of_grown hg g) (Kd.R_base2 HO_449001.out))
     have n6_:=Aside0.mk (ho)
     clear BK447
     clear BK448
     clear HI0
     clear HO451
     clear HB
     clear HK
     clear HO_449001
     have BK447:=n0_
     have BK448:=n1_
     have HI0:=n2_
     have HO451:=n3_
     have HB:=n4_
     have HK:=n5_
     have HO456:=n6_
     clear n0_ n1_ n2_ n3_ n4_ n5_ n6_
     clear ho hb hg hat
     obtain ⟨Ao17,co17,eo17⟩:=Kd.R_slice HO456.out
     (first|subst eo17|(injection eo17 with f1_ f2_ f3_;have f4_:=f1_.symm;have f5_:=f3_.symm;clear f1_ f2_ f3_;subst f4_;subst f5_))
     refine hK.out _ _ ⟨(blk_cell BK448.out 0).trans rfl,(blk_cell BK448.out 1).trans rfl⟩ (fun hHeld => ?_)
     clear hK K
     refine norm_ (a':=?_) ?_ ?_
     rotate_left
     ·show Act.put _ (some 19) _ = _
      simp only [Act.put,List.setIfInBounds_toArray,List.set_cons_zero,List.set_cons_succ,i64_w,i32_w]
      rfl
     refine pure_ (i:=7) (N:=some 20) (v:=?_) (a':=?_) #[true,true,true,true,true,true,true,true,false] rfl rfl (any_of HT_.out (by kernel_rfl)) (fun _ _ _ h => h) (Or.inl ⟨by rfl,?_⟩) ?_ ?_
     rotate_left
     ·intro w'
      go_simp
      with_reducible rfl
     rotate_left
     ·simp only [Act.put,List.setIfInBounds_toArray,List.set_cons_zero,List.set_cons_succ,i64_w,i32_w]
      rfl
     refine last_ (i:=8) (N:=none) #[true,true,true,true,true,true,true,true,true] rfl rfl (one_of HT_.out (by kernel_rfl)) (by decide) (fun K hK => ?_)
     have hs18 : w16.cell? ⟨gb448,1,none⟩ = some (u449001):=(blk_cell BK448.out 1).trans rfl
     have hfs18:=blk_frozen BK448.out 1
     have hns18_0:=NB447_448.out
     have hms18_0:=NB448_447.out
     refine skip_ (w1:=?_) (by rfl) rfl ?_ ?_
     rotate_left
     ·go_simp
      rfl
     refine hK.out _ _ ?_
     clear hK K
     refine done_ (done_of HT_.out (by kernel_rfl)) ?_
     try go_wp2
     go_roundg k1
     case measure => have:=HK1.out;omega
     case rel => exact ⟨(wrap64 (x11_1 + 1)),(t453),(y454),(.slice Ao17 y454.length co17),(by first|rfl|(simp;done)|(simp [*];done)),H',⟨by have:=HK1.out;omega⟩,⟨by refine pr_ ?_;exact Kd.R_mono (Kd.R_far (p:=⟨gb448,1,none⟩) (Kd.R_types HO456.out BK448.out (by decide)) (fun _ hk => hk.2) (.slice Ao17 y454.length co17)) (fun _ hk => trivial)⟩,⟨by refine pe_ ?_;refine blk_far ?_ NB447_448.out _;refine pe_ ?_;exact BK447.out⟩,⟨by refine pe_ ?_;refine blk_put (cs:=#[.int .i64 a1,u449001]) ?_ 1 _ rfl;refine pe_ ?_;exact BK448.out⟩,⟨by repeat (first|(with_reducible first|exact HI0.out|apply IsS90.alloc|apply IsS90.drewN|apply IsS90.drew|apply IsS90.set_1|refine IsS90.far ?_ NB0_447.out _|refine IsS90.far ?_ NB0_448.out _)|exact HI0.out)⟩,⟨ke2_ HK.out GW447.out GW448.out⟩,⟨by repeat (first|(with_reducible first|exact HB.out|apply below_alloc|apply pw_below_drewN|apply below_drew1|refine below_set ?_ (IsS90.ge HI0.out)|refine below_set ?_ GE447.out|refine below_set ?_ GE448.out)|exact HB.out)⟩⟩
    ·rw [if_neg c10] at H
     exact absurd H (by simp)
   ·rw [if_neg c8] at H
    have c8b0 : decide (x11_1 < (wrap64 (a1 * a1))) = false:=decide_eq_false c8
    clear c8
    simp only [Option.some.injEq,Prod.mk.injEq] at H
    obtain ⟨rfl,rfl,rfl⟩:=H
    have hnb19:=NB448_447.out
    have hnc19:=NB447_448.out
    have hnb20:=NB448_0.out
    have hnc20:=NB0_448.out
    have hcz21_0 : wr.cell? ⟨gb448,0,none⟩ = some (.int .i64 a1):=(blk_cell BK448.out 0).trans rfl
    have hcz21_1 : wr.cell? ⟨gb448,1,none⟩ = some (u449001):=(blk_cell BK448.out 1).trans rfl
    have hfz21_0:=blk_frozen BK448.out 0
    have hfz21_1:=blk_frozen BK448.out 1
    have hnb22:=NB447_0.out
    have hnc22:=NB0_447.out
    have hcz23_0 : wr.cell? ⟨gb447,0,none⟩ = some (.int .i64 0):=(blk_cell BK447.out 0).trans rfl
    have hcz23_1 : wr.cell? ⟨gb447,1,none⟩ = some (.slice none 0 0):=(blk_cell BK447.out 1).trans rfl
    have hfz23_0:=blk_frozen BK447.out 0
    have hfz23_1:=blk_frozen BK447.out 1
    obtain ⟨Ao24,co24,eo24⟩:=Kd.R_slice HO_449001.out
    subst eo24
    go_wp2
    refine bodyPost_ret (results_cell_row rfl _ _ gb447 28 #[.int .i64 a1,.slice Ao24 x449001_1.length co24] (0,0) _ rfl (by refine pe_ ?_;refine blk_put (cs:=#[.int .i64 a1,.slice none 0 0]) ?_ 1 _ rfl;refine pe_ ?_;refine blk_put (cs:=#[.int .i64 0,.slice none 0 0]) ?_ 0 _ rfl;refine pe_ ?_;exact BK447.out) Try.underlying28 rfl (by kernel_rfl)) rfl ?_
    exact ⟨_,by first|rfl|(simp [errW_none,errW_some] <;> rfl)|(simp [*,errW_none,errW_some] <;> rfl),by refine pr_ ?_;exact Kd.R_mono (Kd.R_far (p:=⟨gb447,1,none⟩) (Kd.R_far (p:=⟨gb447,0,none⟩) (Kd.R_types HO_449001.out BK447.out (by decide)) (fun _ hk => hk.2) (.int .i64 a1)) (fun _ hk => hk.2) (.slice Ao24 x449001_1.length co24)) (fun _ hk => trivial),by repeat (first|(with_reducible first|exact HI0.out|apply IsS90.alloc|apply IsS90.drewN|apply IsS90.drew|apply IsS90.set_1|refine IsS90.far ?_ NB0_447.out _|refine IsS90.far ?_ NB0_448.out _)|exact HI0.out),by repeat (first|(with_reducible first|exact HB.out|apply below_alloc|apply pw_below_drewN|apply below_drew1|refine below_set ?_ (IsS90.ge HI0.out)|refine below_set ?_ GE447.out|refine below_set ?_ GE448.out)|exact HB.out),ke2_ HK.out GW447.out GW448.out⟩
end Go.Proofs.Ytengegdaiphfeaa.X
end
section
namespace Go.Proofs.Ytengegdaiphfeaa.X
open Go.RowKit Go.Proofs.YtengegdaiphfeaaW.PrintWords Go.Proofs.YtengegdaiphfeaaW.PrintLast Go.Proofs.YtengegdaiphfeaaW.PrintMore
attribute [local go_sem] max2_int min2_int max_two min_two max_three min_three max_four min_four
set_option linter.unusedVariables false
set_option linter.unusedSimpArgs false
def spec_l6Some.f (k : Nat) (s0_0 : List Int) (s0_1 : Int) : Option (Int × List Int × Int):=(spec_l13Rd_pick.f k s0_0 s0_1 4).bind fun bt458 => ((spec_l6Draw.f k s0_0 bt458.2 (wrap64 (1 + bt458.1))).bind fun bt460 => ((spec_l6Bad.f k s0_0 bt460.2.2 bt460.1 bt460.2.1).bind fun bt465 => (some (bt465.1,bt465.2.1,bt465.2.2))))
theorem spec_l6Some.mono : ∀ a0 a1 k,LeO (spec_l6Some.f k a0 a1) (spec_l6Some.f (k + 1) a0 a1):=by
 intro a0 a1 k
 unfold spec_l6Some.f
 repeat' first
   | (with_reducible exact spec_l13Rd_pick.mono _ _ _ _)
   | (with_reducible exact spec_l6Bad.mono _ _ _ _ _)
   | (with_reducible exact spec_l6Draw.mono _ _ _ _)
   | (with_reducible exact LeO.refl _)
   | (with_reducible exact LeO.none _)
   | (with_reducible refine LeO.ite ?_ ?_)
   | (with_reducible refine LeO.bind ?_ (fun _ => ?_))
   | exact spec_l13Rd_pick.mono _ _ _ _
   | exact spec_l6Bad.mono _ _ _ _ _
   | exact spec_l6Draw.mono _ _ _ _
   | exact LeO.none _
   | refine LeO.ite ?_ ?_
   | refine LeO.bind ?_ (fun _ => ?_)
set_option maxHeartbeats 8000000 in
set_option maxRecDepth 100000 in
theorem spec_l6Some.calls (k : Nat) (g : Nat) (s0_0 : List Int) (s0_1 : Int) (r1 : Int) (r2 : List Int) (r3 : Int) (w0 w : World) (hI : IsS90 w0 w g s0_0 s0_1) (hB : Below w0.heap.size w0 w) (h : spec_l6Some.f k s0_0 s0_1 = some (r1,r2,r3)) :
  Calls Try.prog 70 #[.pointer (some ⟨g,0,none⟩)] w fun e w' => ∃ v1_ : Value,e = .returned (.agg #[.int .i64 r1,v1_]) ∧ Kd.V (Kd.int .i64) 3 w' w.heap.size (fun k_ => (w.heap.size ≤ k_)) v1_ r2 ∧ IsS90 w0 w' g s0_0 r3 ∧ Below w0.heap.size w0 w' ∧ KeepBut w w' g none:=by
 have hu28:=Try.underlying28
 have HI0:=Aside0.mk hI
 have HK:=Aside0.mk (KeepBut.refl w g none)
 have HL:=Aside0.mk hB.size
 clear hI
 have HW0:=Aside0.mk hB.size
 have HB:=Aside0.mk hB
 clear hB
 have H : ((spec_l13Rd_pick.f k s0_0 s0_1 4).bind fun bt458 => ((spec_l6Draw.f k s0_0 bt458.2 (wrap64 (1 + bt458.1))).bind fun bt460 => ((spec_l6Bad.f k s0_0 bt460.2.2 bt460.1 bt460.2.1).bind fun bt465 => (some (bt465.1,bt465.2.1,bt465.2.2))))) = some (r1,r2,r3):=h
 clear h
 replace H:=Option.bind_eq_some_iff.mp H
 obtain ⟨⟨t458,t459⟩,A20,H⟩:=H
 replace H : ((spec_l6Draw.f k s0_0 t459 (wrap64 (1 + t458))).bind fun bt460 => ((spec_l6Bad.f k s0_0 bt460.2.2 bt460.1 bt460.2.1).bind fun bt465 => (some (bt465.1,bt465.2.1,bt465.2.2)))) = some (r1,r2,r3):=H
 have A2:=Aside0.mk A20
 clear A20
 replace H:=Option.bind_eq_some_iff.mp H
 obtain ⟨⟨t460,t461,t464⟩,A30,H⟩:=H
 replace H : ((spec_l6Bad.f k s0_0 t464 t460 t461).bind fun bt465 => (some (bt465.1,bt465.2.1,bt465.2.2))) = some (r1,r2,r3):=H
 have A3:=Aside0.mk A30
 clear A30
 replace H:=Option.bind_eq_some_iff.mp H
 obtain ⟨⟨t465,t466,t469⟩,A40,H⟩:=H
 replace H : (some (t465,t466,t469)) = some (r1,r2,r3):=H
 have A4:=Aside0.mk A40
 clear A40
 simp only [Option.some.injEq,Prod.mk.injEq] at H
 obtain ⟨rfl,rfl,rfl⟩:=H
 go_enter Try.func70,Try.ntmps70
 go_wp2_with (first|((with_reducible refine gate_dst (N:=2) rfl ?_);refine box_event ?hg (N:=2) ?hd (cs:=#[.int .i64 0,.slice none 0 0]) (t:=28) ?hr ?_;(case hd => rfl);(case hg => rfl);(case hr => first|(go_simp;done)|(go_simp;rfl));intro gb457 hg w5 hbox hb;have n0_:=Aside0.mk (IsS90.below (by repeat (first|(with_reducible first|exact HI0.out|apply IsS90.alloc|apply IsS90.drewN|apply IsS90.drew|apply IsS90.set_1)|exact HI0.out)) hb);have n1_:=Aside0.mk (KeepBut.trans (ke0_ HK.out) (KeepBut.of_below hb g none) (.inl rfl));have n2_:=Aside0.mk (below_step (by repeat (first|(with_reducible first|exact HB.out|apply below_alloc|apply pw_below_drewN|apply below_drew1|refine below_set ?_ (IsS90.ge HI0.out))|exact HB.out)) hb);have n3_:=Aside0.mk (hbox);have n4_:=Aside0.mk ((by rw [hg];exact (keep_size (w:=w) (g:=g) (row:=none) (ke0_ HK.out)) : w.heap.size ≤ gb457));have n5_:=Aside0.mk ((Nat.le_trans HW0.out (by rw [hg];exact (keep_size (w:=w) (g:=g) (row:=none) (ke0_ HK.out)) : w.heap.size ≤ gb457) : w0.heap.size ≤ gb457));have n6_:=Aside0.mk ((by rw [hg];exact Nat.ne_of_lt (IsS90.lt (show IsS90 w0 _ g s0_0 s0_1 from by repeat (first|(with_reducible first|exact HI0.out|apply IsS90.alloc|apply IsS90.drewN|apply IsS90.drew|apply IsS90.set_1)|exact HI0.out))) : g ≠ gb457));have n7_:=Aside0.mk ((by rw [hg];exact Nat.ne_of_gt (IsS90.lt (show IsS90 w0 _ g s0_0 s0_1 from by repeat (first|(with_reducible first|exact HI0.out|apply IsS90.alloc|apply IsS90.drewN|apply IsS90.drew|apply IsS90.set_1)|exact HI0.out))) : gb457 ≠ g));clear HI0;clear HK;clear HB;have HI0:=n0_;have HK:=n1_;have HB:=n2_;have BK457:=n3_;have GW457:=n4_;have GE457:=n5_;have NB0_457:=n6_;have NB457_0:=n7_;clear n0_ n1_ n2_ n3_ n4_ n5_ n6_ n7_;clear hb hbox hg)|((with_reducible refine gate_callee (f:=76) rfl ?_);refine goesL_ (some 6) rfl rfl Try.func76 (by kernel_rfl) rfl #[.pointer (some ⟨g,0,none⟩),.int .i64 4] rfl lp_ ?_;(with_reducible refine (spec_l13Rd_pick.calls k g s0_0 s0_1 4 t458 t459 w0 _ ?side1 ?side2 A2.out).mono ?_);(case side1 => repeat (first|(with_reducible first|exact HI0.out|apply IsS90.alloc|apply IsS90.drewN|apply IsS90.drew|apply IsS90.set_1|refine IsS90.far ?_ NB0_457.out _)|exact HI0.out));(case side2 => repeat (first|(with_reducible first|exact HB.out|apply below_alloc|apply pw_below_drewN|apply below_drew1|refine below_set ?_ (IsS90.ge HI0.out)|refine below_set ?_ GE457.out)|exact HB.out));rintro e w6 ⟨rfl,hi,hb,hk⟩;refine ⟨_,rfl,?_⟩;have n0_:=Aside0.mk (KeepBut.blk hk (g':=gb457) (o:=.cells #[.int .i64 0,.slice none 0 0] 28 (0,0)) (pe_ BK457.out) NB457_0.out (by simp));have n1_:=Aside0.mk (KeepBut.trans (ke1_ HK.out GW457.out) hk (.inl rfl));have n2_:=Aside0.mk (hb);have n3_:=Aside0.mk (hi);clear BK457;clear HK;clear HB;clear HI0;have BK457:=n0_;have HK:=n1_;have HB:=n2_;have HI0:=n3_;clear n0_ n1_ n2_ n3_;(try clear hb);(try clear hb2);(try clear hk);(try clear hi))|((with_reducible refine gate_callee (f:=78) rfl ?_);refine goesL_ (some 8) rfl rfl Try.func78 (by kernel_rfl) rfl #[.pointer (some ⟨g,0,none⟩),.int .i64 (wrap64 (1 + t458))] rfl lp_ ?_;(with_reducible refine (spec_l6Draw.calls k g s0_0 t459 (wrap64 (1 + t458)) t460 t461 t464 w0 _ ?side1 ?side2 A3.out).mono ?_);(case side1 => repeat (first|(with_reducible first|exact HI0.out|apply IsS90.alloc|apply IsS90.drewN|apply IsS90.drew|apply IsS90.set_1|refine IsS90.far ?_ NB0_457.out _)|exact HI0.out));(case side2 => repeat (first|(with_reducible first|exact HB.out|apply below_alloc|apply pw_below_drewN|apply below_drew1|refine below_set ?_ (IsS90.ge HI0.out)|refine below_set ?_ GE457.out)|exact HB.out));rintro e w7 ⟨v462,rfl,ho0,hi,hb,hk⟩;refine ⟨_,rfl,?_⟩;have n0_:=Aside0.mk (KeepBut.blk hk (g':=gb457) (o:=.cells #[.int .i64 0,.slice none 0 0] 28 (0,0)) (pe_ BK457.out) NB457_0.out (by simp));have n1_:=Aside0.mk (Kd.R_lower (Kd.R_newM (M:=fun k_ => (w.heap.size ≤ k_)) ho0 (keep_size (w:=w) (g:=g) (row:=none) (ke1_ HK.out GW457.out)) (fun k_ h_ => h_)) (keep_size (w:=w) (g:=g) (row:=none) (ke1_ HK.out GW457.out)));have n2_:=Aside0.mk (KeepBut.trans (ke1_ HK.out GW457.out) hk (.inl rfl));have n3_:=Aside0.mk (hb);have n4_:=Aside0.mk (hi);clear BK457;clear HK;clear HB;clear HI0;have BK457:=n0_;have HO463:=n1_;have HK:=n2_;have HB:=n3_;have HI0:=n4_;clear n0_ n1_ n2_ n3_ n4_;(try clear hb);(try clear hb2);(try clear hk);(try clear hi);(try clear ho0);obtain ⟨Ao8,co8,eo8⟩:=Kd.R_slice HO463.out;subst eo8)|((with_reducible refine gate_callee (f:=77) rfl ?_);refine goesL_ (some 9) rfl rfl Try.func77 (by kernel_rfl) rfl #[.pointer (some ⟨g,0,none⟩),.agg #[.int .i64 t460,.slice Ao8 t461.length co8]] rfl lp_ ?_;(with_reducible refine (spec_l6Bad.calls k g s0_0 t464 t460 (fun k_ => some k_ = (.slice Ao8 t461.length co8 : Value).ownBlock) _ _ t461 t465 t466 t469 w0 _ ?side1 ?side2 ?side3 A4.out).mono ?_);(case side1 => repeat (first|(with_reducible first|exact HI0.out|apply IsS90.alloc|apply IsS90.drewN|apply IsS90.drew|apply IsS90.set_1|refine IsS90.far ?_ NB0_457.out _)|exact HI0.out));(case side2 => repeat (first|(with_reducible first|exact HB.out|apply below_alloc|apply pw_below_drewN|apply below_drew1|refine below_set ?_ (IsS90.ge HI0.out)|refine below_set ?_ GE457.out)|exact HB.out));(case side3 => exact Kd.V_mono (Kd.R_V (Kd.R_tight rfl (IsS90.apart HI0.out (Kd.R_types (HO463.out) BK457.out (by decide)) (by decide)))) (fun k_ hk_ => ⟨hk_,((IsS90.apart HI0.out (Kd.R_types (HO463.out) BK457.out (by decide)) (by decide)).1 k_ hk_.symm).2⟩));rintro e w9 ⟨v467,rfl,ho0,hi,hb,hk⟩;refine ⟨_,rfl,?_⟩;have n0_:=Aside0.mk (KeepBut.blk hk (g':=gb457) (o:=.cells #[.int .i64 0,.slice none 0 0] 28 (0,0)) (pe_ BK457.out) NB457_0.out (by simp));have n1_:=Aside0.mk (Kd.R_mono (Kd.R_keep (IsS90.apart (show IsS90 w0 _ g s0_0 t464 from by repeat (first|(with_reducible first|exact HI0.out|apply IsS90.alloc|apply IsS90.drewN|apply IsS90.drew|apply IsS90.set_1|refine IsS90.far ?_ NB0_457.out _)|exact HI0.out)) (pr_ HO463.out) (by decide)) hk (fun _ h => h.2)) (fun _ h => h.1));have n2_:=Aside0.mk (Kd.V_lower (Kd.V_mono (ok':=fun k_ => (w.heap.size ≤ k_) ∧ k_ ≠ gb457 ∧ k_ ≠ g) ho0 (fun k_ hk_ => ⟨Or.elim hk_ (fun hs_ => ((IsS90.apart HI0.out (Kd.R_types (HO463.out) BK457.out (by decide)) (by decide)).1 k_ hs_.symm).1.1.1) (fun hn_ => (Nat.le_trans (keep_size (w:=w) (g:=g) (row:=none) (ke1_ HK.out GW457.out)) hn_)),Or.elim hk_ (fun hs_ => ((IsS90.apart HI0.out (Kd.R_types (HO463.out) BK457.out (by decide)) (by decide)).1 k_ hs_.symm).1.2) (fun hn_ => (Kd.freshB (g:=gb457) (o:=.cells #[.int .i64 0,.slice none 0 0] 28 (0,0)) (pe_ BK457.out) k_ hn_)),Or.elim hk_ (fun hs_ => ((IsS90.apart HI0.out (Kd.R_types (HO463.out) BK457.out (by decide)) (by decide)).1 k_ hs_.symm).2) (fun hn_ => (IsS90.fresh (by repeat (first|(with_reducible first|exact HI0.out|apply IsS90.alloc|apply IsS90.drewN|apply IsS90.drew|apply IsS90.set_1|refine IsS90.far ?_ NB0_457.out _)|exact HI0.out)) k_ hn_))⟩)) (keep_size (w:=w) (g:=g) (row:=none) (ke1_ HK.out GW457.out)));have n3_:=Aside0.mk (KeepBut.trans (ke1_ HK.out GW457.out) hk (.inl rfl));have n4_:=Aside0.mk (hb);have n5_:=Aside0.mk (hi);clear BK457;clear HO463;clear HK;clear HB;clear HI0;have BK457:=n0_;have HO463:=n1_;have HO468:=n2_;have HK:=n3_;have HB:=n4_;have HI0:=n5_;clear n0_ n1_ n2_ n3_ n4_ n5_;(try clear hb);(try clear hb2);(try clear hk);(try clear hi);(try clear ho0);have hnb10:=NB457_0.out;have hnc10:=NB0_457.out;have hcz11_0 : w9.cell? ⟨gb457,0,none⟩ = some (.int .i64 0):=(blk_cell BK457.out 0).trans rfl;have hcz11_1 : w9.cell? ⟨gb457,1,none⟩ = some (.slice none 0 0):=(blk_cell BK457.out 1).trans rfl;have hfz11_0:=blk_frozen BK457.out 0;have hfz11_1:=blk_frozen BK457.out 1;obtain ⟨Ao12,co12,eo12⟩:=Kd.V_slice HO468.out;subst eo12))
 refine bodyPost_ret (results_cell_row rfl _ _ gb457 28 #[.int .i64 t465,.slice Ao12 t466.length co12] (0,0) _ rfl (by refine pe_ ?_;refine blk_put (cs:=#[.int .i64 t465,.slice none 0 0]) ?_ 1 _ rfl;refine pe_ ?_;refine blk_put (cs:=#[.int .i64 0,.slice none 0 0]) ?_ 0 _ rfl;refine pe_ ?_;exact BK457.out) Try.underlying28 rfl (by kernel_rfl)) rfl ?_
 exact ⟨_,by first|rfl|(simp [errW_none,errW_some] <;> rfl)|(simp [*,errW_none,errW_some] <;> rfl),by refine pv_ ?_;exact Kd.V_mono (Kd.V_far (p:=⟨gb457,1,none⟩) (Kd.V_far (p:=⟨gb457,0,none⟩) (Kd.V_mono HO468.out (fun k_ hk => (⟨hk,hk.2.1⟩ : _ ∧ k_ ≠ gb457))) (fun _ hk => hk.2) (.int .i64 t465)) (fun _ hk => hk.2) (.slice Ao12 t466.length co12)) (fun _ hk => hk.1.1),by repeat (first|(with_reducible first|exact HI0.out|apply IsS90.alloc|apply IsS90.drewN|apply IsS90.drew|apply IsS90.set_1|refine IsS90.far ?_ NB0_457.out _)|exact HI0.out),by repeat (first|(with_reducible first|exact HB.out|apply below_alloc|apply pw_below_drewN|apply below_drew1|refine below_set ?_ (IsS90.ge HI0.out)|refine below_set ?_ GE457.out)|exact HB.out),ke1_ HK.out GW457.out⟩
end Go.Proofs.Ytengegdaiphfeaa.X
end
