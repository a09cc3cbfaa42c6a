import Derived.Test.YtengegdaiphfeaaKFnExpand1
import Derived.Test.YtengegdaiphfeaaKFnExpand2
section
namespace Go.Proofs.Ytengegdaiphfeaa.X
open Go.RowKit Go.Proofs.YtengegdaiphfeaaW.PrintWords Go.Proofs.YtengegdaiphfeaaW.PrintLast Go.Proofs.YtengegdaiphfeaaW.PrintMore
attribute [local go_sem] max2_int min2_int max_two min_two max_three min_three max_four min_four
set_option linter.unusedVariables false
set_option linter.unusedSimpArgs false
def spec_l6Bad.f (k : Nat) (s0_0 : List Int) (s0_1 : Int) (a1_0 : Int) (l1_1 : List Int) : Option (Int × List Int × Int):=(spec_l13Rd_pick.f k s0_0 s0_1 24).bind fun bt424 => (if bt424.1 = 0 then ((spec_l13Rd_num.f k s0_0 bt424.2 (([4,(-1),1000000] : List Int))).bind fun bt429 => ((some (([bt429.1] : List Int) : List Int)).bind fun y431 => (if 1 ≤ (l1_1.length : Int) then ((some (l1_1.drop 1 : List Int)).bind fun y434 => (if y431.length + y434.length < 17592186044416 then (some (a1_0,(y431 ++ y434),bt429.2)) else (none))) else (none)))) else (if bt424.1 = 1 then ((spec_l13Rd_num.f k s0_0 bt424.2 (([0,5,1] : List Int))).bind fun bt445 => (some (bt445.1,l1_1,bt445.2))) else (some (a1_0,l1_1,bt424.2))))
theorem spec_l6Bad.mono : ∀ a0 a1 a2 a3 k,LeO (spec_l6Bad.f k a0 a1 a2 a3) (spec_l6Bad.f (k + 1) a0 a1 a2 a3):=by
 intro a0 a1 a2 a3 k
 unfold spec_l6Bad.f
 repeat' first
   | (with_reducible exact spec_l13Rd_num.mono _ _ _ _)
   | (with_reducible exact spec_l13Rd_pick.mono _ _ _ _)
   | (with_reducible exact LeO.refl _)
   | (with_reducible exact LeO.none _)
   | (with_reducible refine LeO.ite ?_ ?_)
   | (with_reducible refine LeO.bind ?_ (fun _ => ?_))
   | exact spec_l13Rd_num.mono _ _ _ _
   | exact spec_l13Rd_pick.mono _ _ _ _
   | exact LeO.none _
   | refine LeO.ite ?_ ?_
   | refine LeO.bind ?_ (fun _ => ?_)
def spec_l6Bad.T3 : Bool × List (List Nat × List Nat):=(true,[([],[]),([0],[0]),([],[]),([],[]),([2,3],[2,3]),([4],[4]),([],[]),([6],[6]),([7],[7]),([5,8,4],[5,8]),([1,9],[1,9]),([10,9,0,1,2,3,4,5,6,7,8,9,10],[10])])
def spec_l6Bad.B3 : List Nat:=[0,1,0,0,12,28,0,64,192,508,1023,2047]
theorem spec_l6Bad.tab3 : rtab .any (opsOf Try.f77 3) = spec_l6Bad.T3:=by kernel_rfl
theorem spec_l6Bad.bits3 : waitsOk spec_l6Bad.T3.2 spec_l6Bad.B3 = true:=by kernel_rfl
set_option maxHeartbeats 8000000 in
set_option maxRecDepth 100000 in
theorem spec_l6Bad.calls (k : Nat) (g : Nat) (s0_0 : List Int) (s0_1 : Int) (a1_0 : Int) (P1_1_ : Nat → Prop) (A1_1 : Option Addr) (c1_1 : Nat) (l1_1 : List Int) (r1 : Int) (r2 : List Int) (r3 : Int) (w0 w : World) (hI : IsS90 w0 w g s0_0 s0_1) (hB : Below w0.heap.size w0 w) (hs1_1 : Kd.V (Kd.int .i64) 3 w w.heap.size (fun k_ => P1_1_ k_ ∧ k_ ≠ g) (.slice A1_1 l1_1.length c1_1) l1_1) (h : spec_l6Bad.f k s0_0 s0_1 a1_0 l1_1 = some (r1,r2,r3)) :
  Calls Try.prog 77 #[.pointer (some ⟨g,0,none⟩),.agg #[.int .i64 a1_0,.slice A1_1 l1_1.length c1_1]] w fun e w' => ∃ v1_ : Value,e = .returned (.agg #[.int .i64 r1,v1_]) ∧ Kd.V (Kd.int .i64) 3 w' w.heap.size (fun k_ => (P1_1_ k_ ∨ w.heap.size ≤ k_)) v1_ r2 ∧ IsS90 w0 w' g s0_0 r3 ∧ Below w0.heap.size w0 w' ∧ KeepBut w w' g none:=by
 have hu28:=Try.underlying28
 have HO1_1:=Aside0.mk (show Kd.V (Kd.int .i64) 3 w w.heap.size (fun k_ => (P1_1_ k_ ∨ w.heap.size ≤ k_) ∧ k_ ≠ g) (.slice A1_1 l1_1.length c1_1) l1_1 from Kd.V_mono hs1_1 (fun k_ hk => ⟨.inl hk.1,hk.2⟩))
 have HI0:=Aside0.mk hI
 have HK:=Aside0.mk (KeepBut.refl w g none)
 have HL:=Aside0.mk hB.size
 clear hI
 have HW0:=Aside0.mk hB.size
 have HB:=Aside0.mk hB
 clear hB
 have H : ((spec_l13Rd_pick.f k s0_0 s0_1 24).bind fun bt424 => (if bt424.1 = 0 then ((spec_l13Rd_num.f k s0_0 bt424.2 (([4,(-1),1000000] : List Int))).bind fun bt429 => ((some (([bt429.1] : List Int) : List Int)).bind fun y431 => (if 1 ≤ (l1_1.length : Int) then ((some (l1_1.drop 1 : List Int)).bind fun y434 => (if y431.length + y434.length < 17592186044416 then (some (a1_0,(y431 ++ y434),bt429.2)) else (none))) else (none)))) else (if bt424.1 = 1 then ((spec_l13Rd_num.f k s0_0 bt424.2 (([0,5,1] : List Int))).bind fun bt445 => (some (bt445.1,l1_1,bt445.2))) else (some (a1_0,l1_1,bt424.2))))) = some (r1,r2,r3):=h
 clear h
 replace H:=Option.bind_eq_some_iff.mp H
 obtain ⟨⟨t424,t425⟩,A30,H⟩:=H
 replace H : (if t424 = 0 then ((spec_l13Rd_num.f k s0_0 t425 (([4,(-1),1000000] : List Int))).bind fun bt429 => ((some (([bt429.1] : List Int) : List Int)).bind fun y431 => (if 1 ≤ (l1_1.length : Int) then ((some (l1_1.drop 1 : List Int)).bind fun y434 => (if y431.length + y434.length < 17592186044416 then (some (a1_0,(y431 ++ y434),bt429.2)) else (none))) else (none)))) else (if t424 = 1 then ((spec_l13Rd_num.f k s0_0 t425 (([0,5,1] : List Int))).bind fun bt445 => (some (bt445.1,l1_1,bt445.2))) else (some (a1_0,l1_1,t425)))) = some (r1,r2,r3):=H
 have A3:=Aside0.mk A30
 clear A30
 by_cases c4 : t424 = 0
 ·rw [if_pos c4] at H
  have c4b0 : (t424 == 0) = true:=beq_iff_eq.mpr c4
  have c4b1 : (t424 != 0) = false:=bne_eq_false_iff_eq.mpr c4
  clear c4
  obtain ⟨y426,hy426⟩ : ∃ y_ : List Int,y_ = (([4,(-1),1000000] : List Int)):=⟨_,rfl⟩
  replace H : ((spec_l13Rd_num.f k s0_0 t425 y426).bind fun bt429 => ((some (([bt429.1] : List Int) : List Int)).bind fun y431 => (if 1 ≤ (l1_1.length : Int) then ((some (l1_1.drop 1 : List Int)).bind fun y434 => (if y431.length + y434.length < 17592186044416 then (some (a1_0,(y431 ++ y434),bt429.2)) else (none))) else (none)))) = some (r1,r2,r3):=by first|(rw [hy426];with_reducible exact H)|(have H2_:=(Option.bind_some _ _).symm.trans H;rw [hy426];with_reducible exact H2_)|(have H2_:=(Option.bind_some _ _).symm.trans H;with_reducible exact H2_)|with_reducible exact H|(rw [hy426];exact H)|exact H
  have Ny426:=Aside0.mk hy426
  clear hy426
  replace H:=Option.bind_eq_some_iff.mp H
  obtain ⟨⟨t429,t430⟩,A50,H⟩:=H
  replace H : ((some (([t429] : List Int) : List Int)).bind fun y431 => (if 1 ≤ (l1_1.length : Int) then ((some (l1_1.drop 1 : List Int)).bind fun y434 => (if y431.length + y434.length < 17592186044416 then (some (a1_0,(y431 ++ y434),t430)) else (none))) else (none))) = some (r1,r2,r3):=H
  have A5:=Aside0.mk A50
  clear A50
  obtain ⟨y431,hy431⟩ : ∃ y_ : List Int,y_ = (([t429] : List Int)):=⟨_,rfl⟩
  replace H : (if 1 ≤ (l1_1.length : Int) then ((some (l1_1.drop 1 : List Int)).bind fun y434 => (if y431.length + y434.length < 17592186044416 then (some (a1_0,(y431 ++ y434),t430)) else (none))) else (none)) = some (r1,r2,r3):=by first|(rw [hy431];with_reducible exact H)|(have H2_:=(Option.bind_some _ _).symm.trans H;rw [hy431];with_reducible exact H2_)|(have H2_:=(Option.bind_some _ _).symm.trans H;with_reducible exact H2_)|with_reducible exact H|(rw [hy431];exact H)|exact H
  have Ny431:=Aside0.mk hy431
  clear hy431
  by_cases c6 : 1 ≤ (l1_1.length : Int)
  ·rw [if_pos c6] at H
   have c6b0:=eq_true c6
   have c6b1 : decide (1 ≤ (l1_1.length : Int)) = true:=decide_eq_true c6
   clear c6
   obtain ⟨y434,hy434⟩ : ∃ y_ : List Int,y_ = (l1_1.drop 1):=⟨_,rfl⟩
   replace H : (if y431.length + y434.length < 17592186044416 then (some (a1_0,(y431 ++ y434),t430)) else (none)) = some (r1,r2,r3):=by first|(rw [hy434];with_reducible exact H)|(have H2_:=(Option.bind_some _ _).symm.trans H;rw [hy434];with_reducible exact H2_)|(have H2_:=(Option.bind_some _ _).symm.trans H;with_reducible exact H2_)|with_reducible exact H|(rw [hy434];exact H)|exact H
   have Ny434:=Aside0.mk hy434
   clear hy434
   by_cases c7 : y431.length + y434.length < 17592186044416
   ·rw [if_pos c7] at H
    have LMc7:=Aside0.mk c7
    clear c7
    obtain ⟨y439,hy439⟩ : ∃ y_ : List Int,y_ = (y431 ++ y434):=⟨_,rfl⟩
    replace H : (some (a1_0,y439,t430)) = some (r1,r2,r3):=by first|(rw [hy439];with_reducible exact H)|(have H2_:=(Option.bind_some _ _).symm.trans H;rw [hy439];with_reducible exact H2_)|(have H2_:=(Option.bind_some _ _).symm.trans H;with_reducible exact H2_)|with_reducible exact H|(rw [hy439];exact H)|exact H
    have Ny439:=Aside0.mk hy439
    clear hy439
    simp only [Option.some.injEq,Prod.mk.injEq] at H
    obtain ⟨rfl,rfl,rfl⟩:=H
    go_enter Try.func77,Try.ntmps77
    try go_wp2_with (first|((with_reducible refine gate_dst (N:=3) rfl ?_);refine box_event ?hg (N:=3) ?hd (cs:=#[.int .i64 a1_0,.slice A1_1 l1_1.length c1_1]) (t:=28) ?hr ?_;(case hd => rfl);(case hg => rfl);(case hr => first|(go_simp;done)|(go_simp;rfl));intro gb422 hg w8 hbox hb;have n0_:=Aside0.mk (Kd.V_below (Kd.V_elderB (pv_ HO1_1.out) gb422 (Nat.le_of_eq hg.symm)) hb);have n1_:=Aside0.mk (IsS90.below (by repeat (first|(with_reducible first|exact HI0.out|apply IsS90.alloc|apply IsS90.drewN|apply IsS90.drew|apply IsS90.set_1)|exact HI0.out)) hb);have n2_:=Aside0.mk (KeepBut.trans (ke0_ HK.out) (KeepBut.of_below hb g none) (.inl rfl));have n3_:=Aside0.mk (below_step (by repeat (first|(with_reducible first|exact HB.out|apply below_alloc|apply pw_below_drewN|apply below_drew1|refine below_set ?_ (IsS90.ge HI0.out))|exact HB.out)) hb);have n4_:=Aside0.mk (hbox);have n5_:=Aside0.mk ((by rw [hg];exact (keep_size (w:=w) (g:=g) (row:=none) (ke0_ HK.out)) : w.heap.size ≤ gb422));have n6_:=Aside0.mk ((Nat.le_trans HW0.out (by rw [hg];exact (keep_size (w:=w) (g:=g) (row:=none) (ke0_ HK.out)) : w.heap.size ≤ gb422) : w0.heap.size ≤ gb422));have n7_:=Aside0.mk ((by rw [hg];exact Nat.ne_of_lt (IsS90.lt (show IsS90 w0 _ g s0_0 s0_1 from by repeat (first|(with_reducible first|exact HI0.out|apply IsS90.alloc|apply IsS90.drewN|apply IsS90.drew|apply IsS90.set_1)|exact HI0.out))) : g ≠ gb422));have n8_:=Aside0.mk ((by rw [hg];exact Nat.ne_of_gt (IsS90.lt (show IsS90 w0 _ g s0_0 s0_1 from by repeat (first|(with_reducible first|exact HI0.out|apply IsS90.alloc|apply IsS90.drewN|apply IsS90.drew|apply IsS90.set_1)|exact HI0.out))) : gb422 ≠ g));clear HO1_1;clear HI0;clear HK;clear HB;have HO1_1:=n0_;have HI0:=n1_;have HK:=n2_;have HB:=n3_;have BK422:=n4_;have GW422:=n5_;have GE422:=n6_;have NB0_422:=n7_;have NB422_0:=n8_;clear n0_ n1_ n2_ n3_ n4_ n5_ n6_ n7_ n8_;clear hb hbox hg)|((with_reducible refine gate_dst (N:=4) rfl ?_);refine box_event ?hg (N:=4) ?hd (cs:=#[.int .i64 0,.slice none 0 0]) (t:=28) ?hr ?_;(case hd => rfl);(case hg => rfl);(case hr => first|(go_simp;done)|(go_simp;rfl));intro gb423 hg w9 hbox hb;have n0_:=Aside0.mk (Kd.V_below (Kd.V_elderB (pv_ HO1_1.out) gb423 (Nat.le_of_eq hg.symm)) hb);have n1_:=Aside0.mk (IsS90.below (by repeat (first|(with_reducible first|exact HI0.out|apply IsS90.alloc|apply IsS90.drewN|apply IsS90.drew|apply IsS90.set_1|refine IsS90.far ?_ NB0_422.out _)|exact HI0.out)) hb);have n2_:=Aside0.mk (blk_below (g:=gb422) (o:=.cells #[.int .i64 a1_0,.slice A1_1 l1_1.length c1_1] 28 (0,0)) (pe_ BK422.out) hb);have n3_:=Aside0.mk (KeepBut.trans (ke1_ HK.out GW422.out) (KeepBut.of_below hb g none) (.inl rfl));have n4_:=Aside0.mk (below_step (by repeat (first|(with_reducible first|exact HB.out|apply below_alloc|apply pw_below_drewN|apply below_drew1|refine below_set ?_ (IsS90.ge HI0.out)|refine below_set ?_ GE422.out)|exact HB.out)) hb);have n5_:=Aside0.mk (hbox);have n6_:=Aside0.mk ((by rw [hg];exact (keep_size (w:=w) (g:=g) (row:=none) (ke1_ HK.out GW422.out)) : w.heap.size ≤ gb423));have n7_:=Aside0.mk ((Nat.le_trans HW0.out (by rw [hg];exact (keep_size (w:=w) (g:=g) (row:=none) (ke1_ HK.out GW422.out)) : w.heap.size ≤ gb423) : w0.heap.size ≤ gb423));have n8_:=Aside0.mk ((by rw [hg];exact Nat.ne_of_lt (blk_lt (g:=gb422) (o:=.cells #[.int .i64 a1_0,.slice A1_1 l1_1.length c1_1] 28 (0,0)) (pe_ BK422.out)) : gb422 ≠ gb423));have n9_:=Aside0.mk ((by rw [hg];exact Nat.ne_of_gt (blk_lt (g:=gb422) (o:=.cells #[.int .i64 a1_0,.slice A1_1 l1_1.length c1_1] 28 (0,0)) (pe_ BK422.out)) : gb423 ≠ gb422));have n10_:=Aside0.mk ((by rw [hg];exact Nat.ne_of_lt (IsS90.lt (show IsS90 w0 _ g s0_0 s0_1 from by repeat (first|(with_reducible first|exact HI0.out|apply IsS90.alloc|apply IsS90.drewN|apply IsS90.drew|apply IsS90.set_1|refine IsS90.far ?_ NB0_422.out _)|exact HI0.out))) : g ≠ gb423));have n11_:=Aside0.mk ((by rw [hg];exact Nat.ne_of_gt (IsS90.lt (show IsS90 w0 _ g s0_0 s0_1 from by repeat (first|(with_reducible first|exact HI0.out|apply IsS90.alloc|apply IsS90.drewN|apply IsS90.drew|apply IsS90.set_1|refine IsS90.far ?_ NB0_422.out _)|exact HI0.out))) : gb423 ≠ g));clear HO1_1;clear HI0;clear BK422;clear HK;clear HB;have HO1_1:=n0_;have HI0:=n1_;have BK422:=n2_;have HK:=n3_;have HB:=n4_;have BK423:=n5_;have GW423:=n6_;have GE423:=n7_;have NB422_423:=n8_;have NB423_422:=n9_;have NB0_423:=n10_;have NB423_0:=n11_;clear n0_ n1_ n2_ n3_ n4_ n5_ n6_ n7_ n8_ n9_ n10_ n11_;clear hb hbox hg)|((with_reducible refine gate_callee (f:=76) rfl ?_);refine goesL_ (some 6) rfl rfl Try.func76 (by kernel_rfl) rfl #[.pointer (some ⟨g,0,none⟩),.int .i64 24] rfl lp_ ?_;(with_reducible refine (spec_l13Rd_pick.calls k g s0_0 s0_1 24 t424 t425 w0 _ ?side1 ?side2 A3.out).mono ?_);(case side1 => repeat (first|(with_reducible first|exact HI0.out|apply IsS90.alloc|apply IsS90.drewN|apply IsS90.drew|apply IsS90.set_1|refine IsS90.far ?_ NB0_422.out _|refine IsS90.far ?_ NB0_423.out _)|exact HI0.out));(case side2 => repeat (first|(with_reducible first|exact HB.out|apply below_alloc|apply pw_below_drewN|apply below_drew1|refine below_set ?_ (IsS90.ge HI0.out)|refine below_set ?_ GE422.out|refine below_set ?_ GE423.out)|exact HB.out));rintro e w10 ⟨rfl,hi,hb,hk⟩;refine ⟨_,rfl,?_⟩;have n0_:=Aside0.mk (Kd.V_mono (Kd.V_keep (Kd.V_mono (ok:=fun k_ => (((((P1_1_ k_ ∨ w.heap.size ≤ k_)) ∧ k_ ≠ g) ∧ k_ ≠ gb422) ∧ k_ ≠ gb423)) (pv_ HO1_1.out) (fun k_ hk_ => (⟨hk_,hk_.1.1.2⟩ : _ ∧ k_ ≠ g))) hk (fun _ h => h.2)) (fun _ h => h.1));have n1_:=Aside0.mk (KeepBut.blk hk (g':=gb422) (o:=.cells #[.int .i64 a1_0,.slice A1_1 l1_1.length c1_1] 28 (0,0)) (pe_ BK422.out) NB422_0.out (by simp));have n2_:=Aside0.mk (KeepBut.blk hk (g':=gb423) (o:=.cells #[.int .i64 0,.slice none 0 0] 28 (0,0)) (pe_ BK423.out) NB423_0.out (by simp));have n3_:=Aside0.mk (KeepBut.trans (ke2_ HK.out GW422.out GW423.out) hk (.inl rfl));have n4_:=Aside0.mk (hb);have n5_:=Aside0.mk (hi);clear HO1_1;clear BK422;clear BK423;clear HK;clear HB;clear HI0;have HO1_1:=n0_;have BK422:=n1_;have BK423:=n2_;have HK:=n3_;have HB:=n4_;have HI0:=n5_;clear n0_ n1_ n2_ n3_ n4_ n5_;(try clear hb);(try clear hb2);(try clear hk);(try clear hi)))
    have n0_:=Aside0.mk (Kd.V_drew HO1_1.out)
    have n1_:=Aside0.mk (blk_drew BK422.out)
    have n2_:=Aside0.mk (blk_drew BK423.out)
    have n3_:=Aside0.mk (IsS90.drew HI0.out)
    have n4_:=Aside0.mk (keep_drew HK.out)
    have n5_:=Aside0.mk (below_drew1 HB.out)
    clear HO1_1
    clear BK422
    clear BK423
    clear HI0
    clear HK
    clear HB
    have HO1_1:=n0_
    have BK422:=n1_
    have BK423:=n2_
    have HI0:=n3_
    have HK:=n4_
    have HB:=n5_
    clear n0_ n1_ n2_ n3_ n4_ n5_
    have q12 : (1 : Int) ≤ ((l1_1.length : Int) : Int):=of_decide_eq_true (by first|(with_reducible assumption)|assumption)
    obtain ⟨i012,hi012,_,hsz12,_⟩:=info_parts info3
    have hroom12 : l1_1.length ≤ c1_1:=(Kd.V_reads' HO1_1.out).2.1
    have hC12 : Kd.F (Kd.int .i64) _ _ A1_1 l1_1.length l1_1:=(Kd.V_at (base:=w.heap.size) HO1_1.out).2.2
    have hcut12:=cut_from (P:=Try.prog) 24 3 .i64 Try.underlying24 hi012 1 hsz12 A1_1 l1_1.length c1_1 1 (by omega) q12
    have hr12:=Kd.F_cut (m:=(1 : Int).toNat) (c:=c1_1) hC12 (by omega) hroom12
    obtain ⟨A12,hA12⟩ : ∃ A1,A1 = (if c1_1 = (1 : Int).toNat then A1_1 else (A1_1 : Option Addr).map (·.add ((1 : Int).toNat * 1))):=⟨_,rfl⟩
    obtain ⟨c12,hc12⟩ : ∃ c1,c1 = c1_1 - (1 : Int).toNat:=⟨_,rfl⟩
    have hy12 : y434.length = l1_1.length - (1 : Int).toNat:=(by rw [Ny434.out,List.length_drop] <;> omega)
    rw [show (l1_1).drop (1 : Int).toNat = y434 from Ny434.out.symm] at hr12
    replace hr12 : Kd.F (Kd.int .i64) _ _ A12 y434.length y434:=(by rw [hA12];exact hr12)
    rw [← hy12,← hA12,← hc12] at hcut12
    have HO438:=Aside0.mk (show Kd.V (Kd.int .i64) 3 _ w.heap.size _ (.slice A12 y434.length c12) y434 from Kd.V_mk (by rw [hy12,hc12];exact Nat.sub_le_sub_right hroom12 _) hr12)
    have HC438:=Aside0.mk (show y434.length ≤ c12 from by rw [hy12,hc12];exact Nat.sub_le_sub_right hroom12 _)
    clear hr12 hC12 hroom12 hi012 hsz12 hc12
    have KY12:=Aside0.mk hy12
    have KA12:=Aside0.mk hA12
    clear hy12 hA12
    replace q12:=eq_true q12
    refine start_ (n:=12) (S:=fun w' => w'.cell? ⟨gb422,0,none⟩ = some (.int .i64 a1_0) ∧ w'.cell? ⟨gb422,1,none⟩ = some (.slice A1_1 l1_1.length c1_1)) (ds:=[]) #[false,false,false,false,false,false,false,false,false,false,false,false] (by kernel_rfl) rfl rfl ⟨(blk_cell BK422.out 0).trans rfl,(blk_cell BK422.out 1).trans rfl⟩ (fun hHeld => ?_);refine with_tabW spec_l6Bad.tab3 spec_l6Bad.bits3 (fun HT_ HW_ => ?_)
    generalize w10.drew = w11 at HO1_1 BK422 BK423 HI0 HK HB HO438 hHeld ⊢
    refine pure_ (i:=0) (N:=some 9) (v:=?_) (a':=?_) #[true,false,false,false,false,false,false,false,false,false,false,false] rfl rfl (any_of HT_.out (by kernel_rfl)) (fun _ _ _ h => h) (Or.inl ⟨by rfl,?_⟩) ?_ ?_
    rotate_left
    ·intro w'
     go_simp
     with_reducible rfl
    rotate_left
    ·simp only [Act.put,List.setIfInBounds_toArray,List.set_cons_zero,List.set_cons_succ,i64_w,i32_w]
     rfl
    refine pure_ (i:=2) (N:=some 11) (v:=?_) (a':=?_) #[true,false,true,false,false,false,false,false,false,false,false,false] rfl rfl (any_of HT_.out (by kernel_rfl)) (fun _ _ _ h => h) (Or.inl ⟨by rfl,?_⟩) ?_ ?_
    rotate_left
    ·intro w'
     go_simp
     with_reducible rfl
    rotate_left
    ·simp only [Act.put,List.setIfInBounds_toArray,List.set_cons_zero,List.set_cons_succ,i64_w,i32_w]
     rfl
    refine pure_ (i:=6) (N:=some 15) (v:=?_) (a':=?_) #[true,false,true,false,false,false,true,false,false,false,false,false] rfl rfl (any_of HT_.out (by kernel_rfl)) (fun _ _ _ h => h) (Or.inl ⟨by rfl,?_⟩) ?_ ?_
    rotate_left
    ·intro w'
     go_simp
     with_reducible rfl
    rotate_left
    ·simp only [Act.put,List.setIfInBounds_toArray,List.set_cons_zero,List.set_cons_succ,i64_w,i32_w]
     rfl
    refine take_ (i:=1) (N:=some 10) (v:=?_) (a':=?_) #[true,true,true,false,false,false,true,false,false,false,false,false] rfl rfl (take_ofW HT_.out HW_.out (by kernel_rfl)) (fun _ _ _ h => h) (Or.inl ⟨by rfl,?_⟩) hHeld ?_ ?_
    rotate_left
    ·rintro w' ⟨s0,s1⟩
     go_simp
     with_reducible rfl
    rotate_left
    ·simp only [Act.put,List.setIfInBounds_toArray,List.set_cons_zero,List.set_cons_succ,i64_w,i32_w]
     rfl
    refine take_ (i:=7) (N:=some 16) (v:=?_) (a':=?_) #[true,true,true,false,false,false,true,true,false,false,false,false] rfl rfl (take_ofW HT_.out HW_.out (by kernel_rfl)) (fun _ _ _ h => h) (Or.inl ⟨by rfl,?_⟩) hHeld ?_ ?_
    rotate_left
    ·rintro w' ⟨s0,s1⟩
     go_simp
     with_reducible rfl
    rotate_left
    ·simp only [Act.put,List.setIfInBounds_toArray,List.set_cons_zero,List.set_cons_succ,i64_w,i32_w]
     rfl
    refine pure_ (i:=8) (N:=some 17) (v:=?_) (a':=?_) #[true,true,true,false,false,false,true,true,true,false,false,false] rfl rfl (any_of HT_.out (by kernel_rfl)) (fun _ _ _ h => h) (Or.inl ⟨by rfl,?_⟩) ?_ ?_
    rotate_left
    ·intro w'
     go_simp
     with_reducible rfl
    rotate_left
    ·simp only [Act.put,List.setIfInBounds_toArray,List.set_cons_zero,List.set_cons_succ,i64_w,i32_w]
     rfl
    refine one_ (i:=3) (N:=some 12) #[true,true,true,true,false,false,true,true,true,false,false,false] rfl rfl (one_of HT_.out (by kernel_rfl)) (by decide) (fun K hK => ?_)
    refine Kd.R_lit_step (Kd.int .i64) _ 3 ?hg (N:=12) ?hd (xs:=([4,(-1),1000000] : List Int)) (inner:=[.int .i64 4,.int .i64 (-1),.int .i64 1000000]) (ok:=fun _ => True) (okp:=fun _ => True) ?hr ?hp (fun _ hk => hk) trivial (Below.refl _ _) (Nat.le_refl _) (by simp) ?_;(case hd => rfl);(case hg => rfl);(case hr => first|(go_simp;done)|(go_simp;rfl));(case hp => exact (Reps.one (show Kd.M (Kd.int .i64) _ _ _ 4 [.int .i64 4] from rfl) (Reps.one (show Kd.M (Kd.int .i64) _ _ _ (-1) [.int .i64 (-1)] from rfl) (Reps.one (show Kd.M (Kd.int .i64) _ _ _ 1000000 [.int .i64 1000000] from rfl) (Reps.none _ _)))))
    intro v427 w13 ho14 hb hg_ hnew_
    clear hg_ hnew_
    (first|rw [← Ny426.out] at ho14|(simp only [Int.reduceToNat] at ho14;rw [← Ny426.out] at ho14))
    have n0_:=Aside0.mk (Kd.V_elder' (pv_ HO1_1.out) (Kd.R_base ho14) hb)
    have n1_:=Aside0.mk (Kd.V_elder' (pv_ HO438.out) (Kd.R_base ho14) hb)
    have n2_:=Aside0.mk (Kd.R_lower (Kd.R_newM (M:=fun k_ => (w.heap.size ≤ k_)) ho14 (keep_size (w:=w) (g:=g) (row:=none) (ke2_ HK.out GW422.out GW423.out)) (fun k_ h_ => h_)) (keep_size (w:=w) (g:=g) (row:=none) (ke2_ HK.out GW422.out GW423.out)))
    have n3_:=Aside0.mk (IsS90.below (by repeat (first|(with_reducible first|exact HI0.out|apply IsS90.alloc|apply IsS90.drewN|apply IsS90.drew|apply IsS90.set_1|refine IsS90.far ?_ NB0_422.out _|refine IsS90.far ?_ NB0_423.out _)|exact HI0.out)) hb)
    have n4_:=Aside0.mk (blk_below (g:=gb422) (o:=.cells #[.int .i64 a1_0,.slice A1_1 l1_1.length c1_1] 28 (0,0)) (pe_ BK422.out) hb)
    have n5_:=Aside0.mk (blk_below (g:=gb423) (o:=.cells #[.int .i64 0,.slice none 0 0] 28 (0,0)) (pe_ BK423.out) hb)
    have n6_:=Aside0.mk (KeepBut.trans (ke2_ HK.out GW422.out GW423.out) (KeepBut.of_below hb g none) (.inl rfl))
    have n7_:=Aside0.mk (below_step (by repeat (first|(with_reducible first|exact HB.out|apply below_alloc|apply pw_below_drewN|apply below_drew1|refine below_set ?_ (IsS90.ge HI0.out)|refine below_set ?_ GE422.out|refine below_set ?_ GE423.out)|exact HB.out)) hb)
    clear HO1_1
    clear HO438
    clear HI0
    clear BK422
    clear BK423
    clear HK
    clear HB
    have HO1_1:=n0_
    have HO438:=n1_
    have HO428:=n2_
    have HI0:=n3_
    have BK422:=n4_
    have BK423:=n5_
    have HK:=n6_
    have HB:=n7_
    clear n0_ n1_ n2_ n3_ n4_ n5_ n6_ n7_
    clear hb ho14
    obtain ⟨Ao15,co15,eo15⟩:=Kd.R_slice HO428.out
    (first|subst eo15|(injection eo15 with f1_ f2_ f3_;have f4_:=f1_.symm;have f5_:=f3_.symm;clear f1_ f2_ f3_;subst f4_;subst f5_))
    refine hK.out _ _ ⟨(blk_cell BK422.out 0).trans rfl,(blk_cell BK422.out 1).trans rfl⟩ (fun hHeld => ?_)
    clear hK K
    refine norm_ (a':=?_) ?_ ?_
    rotate_left
    ·show Act.put _ (some 12) _ = _
     simp only [Act.put,List.setIfInBounds_toArray,List.set_cons_zero,List.set_cons_succ,i64_w,i32_w]
     rfl
    refine one_ (i:=4) (N:=some 13) #[true,true,true,true,true,false,true,true,true,false,false,false] rfl rfl (one_of HT_.out (by kernel_rfl)) (by decide) (fun K hK => ?_)
    refine goes_ Try.func88 (by kernel_rfl) rfl #[.pointer (some ⟨g,0,none⟩),.slice Ao15 y426.length co15] (by rfl) rfl rfl lp_ ?_
    with_reducible refine (spec_l13Rd_num.calls k g s0_0 t425 _ _ y426 t429 t430 w0 _ ?side1 ?side2 ?side3 ?side4 ?side5 A5.out).mono ?_
    (case side1 => repeat (first|(with_reducible first|exact HI0.out|apply IsS90.alloc|apply IsS90.drewN|apply IsS90.drew|apply IsS90.set_1|refine IsS90.far ?_ NB0_422.out _|refine IsS90.far ?_ NB0_423.out _)|exact HI0.out))
    (case side2 => repeat (first|(with_reducible first|exact HB.out|apply below_alloc|apply pw_below_drewN|apply below_drew1|refine below_set ?_ (IsS90.ge HI0.out)|refine below_set ?_ GE422.out|refine below_set ?_ GE423.out)|exact HB.out))
    (case side3 => repeat (first|exact (Kd.R_reads' HO428.out).2.2|(with_reducible refine Kd.C_alloc ?_ _)|(with_reducible refine Kd.C_drewN ?_ _)|(with_reducible refine Kd.C_drew ?_)))
    (case side4 => exact (Kd.R_reads' HO428.out).2.1)
    (case side5 => exact far_slice (IsS90.own_ne HI0.out HO428.out (by decide)))
    rintro e w16 ⟨rfl,hi,hb,hk⟩
    refine ⟨_,rfl,?_⟩
    have n0_:=Aside0.mk (Kd.V_mono (Kd.V_keep (Kd.V_mono (ok:=fun k_ => ((((((P1_1_ k_ ∨ w.heap.size ≤ k_)) ∧ k_ ≠ g) ∧ k_ ≠ gb422) ∧ k_ ≠ gb423) ∧ some k_ ≠ (.slice Ao15 y426.length co15 : Value).ownBlock)) (pv_ HO1_1.out) (fun k_ hk_ => (⟨hk_,hk_.1.1.1.2⟩ : _ ∧ k_ ≠ g))) hk (fun _ h => h.2)) (fun _ h => h.1))
    have n1_:=Aside0.mk (KeepBut.blk hk (g':=gb422) (o:=.cells #[.int .i64 a1_0,.slice A1_1 l1_1.length c1_1] 28 (0,0)) (pe_ BK422.out) NB422_0.out (by simp))
    have n2_:=Aside0.mk (KeepBut.blk hk (g':=gb423) (o:=.cells #[.int .i64 0,.slice none 0 0] 28 (0,0)) (pe_ BK423.out) NB423_0.out (by simp))
    have n3_:=Aside0.mk (Kd.V_mono (Kd.V_keep (Kd.V_mono (ok:=fun k_ => ((((((P1_1_ k_ ∨ w.heap.size ≤ k_)) ∧ k_ ≠ g) ∧ k_ ≠ gb422) ∧ k_ ≠ gb423) ∧ some k_ ≠ (.slice Ao15 y426.length co15 : Value).ownBlock)) (pv_ HO438.out) (fun k_ hk_ => (⟨hk_,hk_.1.1.1.2⟩ : _ ∧ k_ ≠ g))) hk (fun _ h => h.2)) (fun _ h => h.1))
    have n4_:=Aside0.mk (Kd.R_mono (Kd.R_keep (IsS90.apart (show IsS90 w0 _ g s0_0 t425 from by repeat (first|(with_reducible first|exact HI0.out|apply IsS90.alloc|apply IsS90.drewN|apply IsS90.drew|apply IsS90.set_1|refine IsS90.far ?_ NB0_422.out _|refine IsS90.far ?_ NB0_423.out _)|exact HI0.out)) (pr_ HO428.out) (by decide)) hk (fun _ h => h.2)) (fun _ h => h.1))
    have n5_:=Aside0.mk (KeepBut.trans (ke2_ HK.out GW422.out GW423.out) hk (.inl rfl))
    have n6_:=Aside0.mk (hb)
    have n7_:=Aside0.mk (hi)
    clear HO1_1
    clear BK422
    clear BK423
    clear HO438
    clear HO428
    clear HK
    clear HB
    clear HI0
    have HO1_1:=n0_
    have BK422:=n1_
    have BK423:=n2_
    have HO438:=n3_
    have HO428:=n4_
    have HK:=n5_
    have HB:=n6_
    have HI0:=n7_
    clear n0_ n1_ n2_ n3_ n4_ n5_ n6_ n7_
    (try clear hb)
    (try clear hb2)
    (try clear hk)
    (try clear hi)
    refine hK.out _ _ ⟨(blk_cell BK422.out 0).trans rfl,(blk_cell BK422.out 1).trans rfl⟩ (fun hHeld => ?_)
    clear hK K
    refine norm_ (a':=?_) ?_ ?_
    rotate_left
    ·show Act.put _ (some 13) _ = _
     simp only [Act.put,List.setIfInBounds_toArray,List.set_cons_zero,List.set_cons_succ,i64_w,i32_w]
     rfl
    refine one_ (i:=5) (N:=some 14) #[true,true,true,true,true,true,true,true,true,false,false,false] rfl rfl (one_of HT_.out (by kernel_rfl)) (by decide) (fun K hK => ?_)
    refine Kd.R_lit_step (Kd.int .i64) _ 3 ?hg (N:=14) ?hd (xs:=([t429] : List Int)) (inner:=[.int .i64 t429]) (ok:=fun _ => True) (okp:=fun _ => True) ?hr ?hp (fun _ hk => hk) trivial (Below.refl _ _) (Nat.le_refl _) (by simp) ?_;(case hd => rfl);(case hg => rfl);(case hr => first|(go_simp;done)|(go_simp;rfl));(case hp => exact (Reps.one (show Kd.M (Kd.int .i64) _ _ _ t429 [.int .i64 t429] from rfl) (Reps.none _ _)))
    intro v432 w17 ho18 hb hg_ hnew_
    clear hg_ hnew_
    (first|rw [← Ny431.out] at ho18|(simp only [Int.reduceToNat] at ho18;rw [← Ny431.out] at ho18))
    have n0_:=Aside0.mk (Kd.V_elder' (pv_ HO1_1.out) (Kd.R_base ho18) hb)
    have n1_:=Aside0.mk (Kd.V_elder' (pv_ HO438.out) (Kd.R_base ho18) hb)
    have n2_:=Aside0.mk (Kd.R_elder' (pr_ HO428.out) (Kd.R_base ho18) hb)
    have n3_:=Aside0.mk (Kd.R_lower (Kd.R_new' (Kd.R_newM (M:=fun k_ => (w.heap.size ≤ k_)) ho18 (keep_size (w:=w) (g:=g) (row:=none) (ke2_ HK.out GW422.out GW423.out)) (fun k_ h_ => h_)) (Kd.R_lt (pr_ HO428.out))) (keep_size (w:=w) (g:=g) (row:=none) (ke2_ HK.out GW422.out GW423.out)))
    have n4_:=Aside0.mk (IsS90.below (by repeat (first|(with_reducible first|exact HI0.out|apply IsS90.alloc|apply IsS90.drewN|apply IsS90.drew|apply IsS90.set_1|refine IsS90.far ?_ NB0_422.out _|refine IsS90.far ?_ NB0_423.out _)|exact HI0.out)) hb)
    have n5_:=Aside0.mk (blk_below (g:=gb422) (o:=.cells #[.int .i64 a1_0,.slice A1_1 l1_1.length c1_1] 28 (0,0)) (pe_ BK422.out) hb)
    have n6_:=Aside0.mk (blk_below (g:=gb423) (o:=.cells #[.int .i64 0,.slice none 0 0] 28 (0,0)) (pe_ BK423.out) hb)
    have n7_:=Aside0.mk (KeepBut.trans (ke2_ HK.out GW422.out GW423.out) (KeepBut.of_below hb g none) (.inl rfl))
    have n8_:=Aside0.mk (below_step (by repeat (first|(with_reducible first|exact HB.out|apply below_alloc|apply pw_below_drewN|apply below_drew1|refine below_set ?_ (IsS90.ge HI0.out)|refine below_set ?_ GE422.out|refine below_set ?_ GE423.out)|exact HB.out)) hb)
    clear HO1_1
    clear HO438
    clear HO428
    clear HI0
    clear BK422
    clear BK423
    clear HK
    clear HB
    have HO1_1:=n0_
    have HO438:=n1_
    have HO428:=n2_
    have HO433:=n3_
    have HI0:=n4_
    have BK422:=n5_
    have BK423:=n6_
    have HK:=n7_
    have HB:=n8_
    clear n0_ n1_ n2_ n3_ n4_ n5_ n6_ n7_ n8_
    clear hb ho18
    refine hK.out _ _ ⟨(blk_cell BK422.out 0).trans rfl,(blk_cell BK422.out 1).trans rfl⟩ (fun hHeld => ?_)
    clear hK K
    refine norm_ (a':=?_) ?_ ?_
    rotate_left
    ·show Act.put _ (some 14) _ = _
     simp only [Act.put,List.setIfInBounds_toArray,List.set_cons_zero,List.set_cons_succ,i64_w,i32_w]
     rfl
    refine one_ (i:=9) (N:=some 18) #[true,true,true,true,true,true,true,true,true,true,false,false] rfl rfl (one_of HT_.out (by kernel_rfl)) (by decide) (fun K hK => ?_)
    refine Kd.R_append_rows_step (Kd.int .i64) w.heap.size (by rfl) (.tmp 14) (.tmp 17) 24 3 (.int .i64 0) 8 rfl Try.underlying24 info3 rfl (by decide) (by omega) v432 y431 y434 _ _ _ (fun k_ => (w.heap.size ≤ k_) ∧ some k_ ≠ (.slice Ao15 y426.length co15 : Value).ownBlock) (fun _ => False) rfl rfl ?aO ?aR (fun _ _ h => h) (fun _ h => h.elim) ?aF (Below.refl _ _) ?aS ?aL ?_
    (case aR => repeat (first|exact (Kd.V_reads' HO438.out).2.2|(with_reducible refine Kd.C_alloc ?_ _)|(with_reducible refine Kd.C_drewN ?_ _)|(with_reducible refine Kd.C_drew ?_)))
    (case aF => exact (fun k_ hk => ⟨(Nat.le_trans (keep_size (w:=w) (g:=g) (row:=none) (ke2_ HK.out GW422.out GW423.out)) hk),Kd.fresh' (Kd.R_lt (pr_ HO428.out)) k_ hk⟩))
    (case aO => exact (by refine pr_ ?_;exact Kd.R_mono HO433.out (fun _ hk => ⟨hk.1.1,hk.2⟩)))
    (case aS => exact (keep_size (w:=w) (g:=g) (row:=none) (ke2_ HK.out GW422.out GW423.out)))
    (case aL => have:=LMc7.out;omega)
    intro v440 w19 ho hb hg hat
    rw [← Ny439.out] at ho
    have n0_:=Aside0.mk (IsS90.grown (by repeat (first|(with_reducible first|exact HI0.out|apply IsS90.alloc|apply IsS90.drewN|apply IsS90.drew|apply IsS90.set_1|refine IsS90.far ?_ NB0_422.out _|refine IsS90.far ?_ NB0_423.out _)|exact HI0.out)) hg (IsS90.own_ne HI0.out HO433.out (by decide)))
    have n1_:=Aside0.mk (Kd.V_afterv (ok:=(fun k_ => (P1_1_ k_ ∨ w.heap.size ≤ k_) ∧ some k_ ≠ (.slice Ao15 y426.length co15 : Value).ownBlock ∧ k_ ≠ g ∧ k_ ≠ gb422 ∧ k_ ≠ gb423)) (by refine pv_ ?_;exact Kd.V_mono HO1_1.out (fun _ hk => ⟨⟨hk.1.1.1.1.1,⟨hk.1.2,⟨hk.1.1.1.1.2,⟨hk.1.1.1.2,hk.1.1.2⟩⟩⟩⟩,hk.2⟩)) hg hat)
    have n2_:=Aside0.mk (blk_grown (g:=gb422) (o:=.cells #[.int .i64 a1_0,.slice A1_1 l1_1.length c1_1] 28 (0,0)) (pe_ BK422.out) hg (Kd.R_ne HO433.out BK422.out (by decide)))
    have n3_:=Aside0.mk (blk_grown (g:=gb423) (o:=.cells #[.int .i64 0,.slice none 0 0] 28 (0,0)) (pe_ BK423.out) hg (Kd.R_ne HO433.out BK423.out (by decide)))
    have n4_:=Aside0.mk (Kd.V_afterv (ok:=(fun k_ => (P1_1_ k_ ∨ w.heap.size ≤ k_) ∧ some k_ ≠ (.slice Ao15 y426.length co15 : Value).ownBlock ∧ k_ ≠ g ∧ k_ ≠ gb422 ∧ k_ ≠ gb423)) (by refine pv_ ?_;exact Kd.V_mono HO438.out (fun _ hk => ⟨⟨hk.1.1.1.1.1,⟨hk.1.2,⟨hk.1.1.1.1.2,⟨hk.1.1.1.2,hk.1.1.2⟩⟩⟩⟩,hk.2⟩)) hg hat)
    have n5_:=Aside0.mk (Kd.R_after (ok:=(fun k_ => (w.heap.size ≤ k_))) (by refine pr_ ?_;exact Kd.R_mono HO428.out (fun _ hk => ⟨hk.1.1,hk.2⟩)) hg hat)
    have n6_:=Aside0.mk (below_weaken (by repeat (first|(with_reducible first|exact HB.out|apply below_alloc|apply pw_below_drewN|apply below_drew1|refine below_set ?_ (IsS90.ge HI0.out)|refine below_set ?_ GE422.out|refine below_set ?_ GE423.out)|exact HB.out)) HL.out hb)
    have n7_:=Aside0.mk (KeepBut.trans (ke2_ HK.out GW422.out GW423.out) (KeepBut.of_grown hg g) (Kd.R_base2 HO433.out))
    have n8_:=Aside0.mk (ho)
    clear HI0
    clear HO1_1
    clear BK422
    clear BK423
    clear HO438
    clear HO428
    clear HB
    clear HK
    clear HO433
    have HI0:=n0_
    have HO1_1:=n1_
    have BK422:=n2_
    have BK423:=n3_
    have HO438:=n4_
    have HO428:=n5_
    have HB:=n6_
    have HK:=n7_
    have HO441:=n8_
    clear n0_ n1_ n2_ n3_ n4_ n5_ n6_ n7_ n8_
    clear ho hb hg hat
    obtain ⟨Ao20,co20,eo20⟩:=Kd.R_slice HO441.out
    (first|subst eo20|(injection eo20 with f1_ f2_ f3_;have f4_:=f1_.symm;have f5_:=f3_.symm;clear f1_ f2_ f3_;subst f4_;subst f5_))
    refine hK.out _ _ ⟨(blk_cell BK422.out 0).trans rfl,(blk_cell BK422.out 1).trans rfl⟩ (fun hHeld => ?_)
    clear hK K
    refine norm_ (a':=?_) ?_ ?_
    rotate_left
    ·show Act.put _ (some 18) _ = _
     simp only [Act.put,List.setIfInBounds_toArray,List.set_cons_zero,List.set_cons_succ,i64_w,i32_w]
     rfl
    refine pure_ (i:=10) (N:=some 19) (v:=?_) (a':=?_) #[true,true,true,true,true,true,true,true,true,true,true,false] rfl rfl (any_of HT_.out (by kernel_rfl)) (fun _ _ _ h => h) (Or.inl ⟨by rfl,?_⟩) ?_ ?_
    rotate_left
    ·intro w'
     go_simp
     with_reducible rfl
    rotate_left
    ·simp only [Act.put,List.setIfInBounds_toArray,List.set_cons_zero,List.set_cons_succ,i64_w,i32_w]
     rfl
    refine one_ (i:=11) (N:=none) #[true,true,true,true,true,true,true,true,true,true,true,true] rfl rfl (one_of HT_.out (by kernel_rfl)) (by decide) (fun K hK => ?_)
    have hs21 : w19.cell? ⟨gb423,0,none⟩ = some (.int .i64 0):=(blk_cell BK423.out 0).trans rfl
    have hfs21:=blk_frozen BK423.out 0
    have hns21_0:=NB422_423.out
    have hms21_0:=NB423_422.out
    have hs22 : w19.cell? ⟨gb423,1,none⟩ = some (.slice none 0 0):=(blk_cell BK423.out 1).trans rfl
    have hfs22:=blk_frozen BK423.out 1
    have hns22_0:=NB422_423.out
    have hms22_0:=NB423_422.out
    refine skip_ (w1:=?_) (by rfl) rfl ?_ ?_
    rotate_left
    ·go_simp
     rfl
    refine hK.out _ _ ⟨((cell_far (p:=⟨gb423,_,none⟩) NB422_423.out _).trans (((cell_far (p:=⟨gb423,_,none⟩) NB422_423.out _).trans (hHeld.1)))),((cell_far (p:=⟨gb423,_,none⟩) NB422_423.out _).trans (((cell_far (p:=⟨gb423,_,none⟩) NB422_423.out _).trans (hHeld.2))))⟩ (fun hHeld => ?_)
    clear hK K
    refine done_ (done_of HT_.out (by kernel_rfl)) ?_
    try go_wp2
    refine bodyPost_ret (results_cell_row rfl _ _ gb423 28 #[.int .i64 a1_0,.slice Ao20 y439.length co20] (0,0) _ rfl (by refine pe_ ?_;refine blk_put (cs:=#[.int .i64 a1_0,.slice none 0 0]) ?_ 1 _ rfl;refine pe_ ?_;refine blk_put (cs:=#[.int .i64 0,.slice none 0 0]) ?_ 0 _ rfl;refine pe_ ?_;exact BK423.out) Try.underlying28 rfl (by kernel_rfl)) rfl ?_
    exact ⟨_,by first|rfl|(simp [errW_none,errW_some] <;> rfl)|(simp [*,errW_none,errW_some] <;> rfl),Kd.V_mono (Kd.R_V (by refine pr_ ?_;exact Kd.R_mono (Kd.R_far (p:=⟨gb423,1,none⟩) (Kd.R_far (p:=⟨gb423,0,none⟩) (Kd.R_types HO441.out BK423.out (by decide)) (fun _ hk => hk.2) (.int .i64 a1_0)) (fun _ hk => hk.2) (.slice Ao20 y439.length co20)) (fun _ hk => hk.1.1))) (fun k_ hk => by first|exact ⟨(.inr (hk.1)),hk.2⟩|exact (.inr (hk))),by repeat (first|(with_reducible first|exact HI0.out|apply IsS90.alloc|apply IsS90.drewN|apply IsS90.drew|apply IsS90.set_1|refine IsS90.far ?_ NB0_422.out _|refine IsS90.far ?_ NB0_423.out _)|exact HI0.out),by repeat (first|(with_reducible first|exact HB.out|apply below_alloc|apply pw_below_drewN|apply below_drew1|refine below_set ?_ (IsS90.ge HI0.out)|refine below_set ?_ GE422.out|refine below_set ?_ GE423.out)|exact HB.out),ke2_ HK.out GW422.out GW423.out⟩
   ·rw [if_neg c7] at H
    exact absurd H (by simp)
  ·rw [if_neg c6] at H
   exact absurd H (by simp)
 ·rw [if_neg c4] at H
  have c4b0 : (t424 == 0) = false:=beq_eq_false_iff_ne.mpr c4
  have c4b1 : (t424 != 0) = true:=bne_iff_ne.mpr c4
  by_cases c23 : t424 = 1
  ·rw [if_pos c23] at H
   have c23b0 : (t424 == 1) = true:=beq_iff_eq.mpr c23
   have c23b1 : (t424 != 1) = false:=bne_eq_false_iff_eq.mpr c23
   clear c23
   obtain ⟨y442,hy442⟩ : ∃ y_ : List Int,y_ = (([0,5,1] : List Int)):=⟨_,rfl⟩
   replace H : ((spec_l13Rd_num.f k s0_0 t425 y442).bind fun bt445 => (some (bt445.1,l1_1,bt445.2))) = some (r1,r2,r3):=by first|(rw [hy442];with_reducible exact H)|(have H2_:=(Option.bind_some _ _).symm.trans H;rw [hy442];with_reducible exact H2_)|(have H2_:=(Option.bind_some _ _).symm.trans H;with_reducible exact H2_)|with_reducible exact H|(rw [hy442];exact H)|exact H
   have Ny442:=Aside0.mk hy442
   clear hy442
   replace H:=Option.bind_eq_some_iff.mp H
   obtain ⟨⟨t445,t446⟩,A240,H⟩:=H
   replace H : (some (t445,l1_1,t446)) = some (r1,r2,r3):=H
   have A24:=Aside0.mk A240
   clear A240
   simp only [Option.some.injEq,Prod.mk.injEq] at H
   obtain ⟨rfl,rfl,rfl⟩:=H
   go_enter Try.func77,Try.ntmps77
   try go_wp2_with (first|((with_reducible refine gate_dst (N:=3) rfl ?_);refine box_event ?hg (N:=3) ?hd (cs:=#[.int .i64 a1_0,.slice A1_1 l1_1.length c1_1]) (t:=28) ?hr ?_;(case hd => rfl);(case hg => rfl);(case hr => first|(go_simp;done)|(go_simp;rfl));intro gb422 hg w25 hbox hb;have n0_:=Aside0.mk (Kd.V_below (Kd.V_elderB (pv_ HO1_1.out) gb422 (Nat.le_of_eq hg.symm)) hb);have n1_:=Aside0.mk (IsS90.below (by repeat (first|(with_reducible first|exact HI0.out|apply IsS90.alloc|apply IsS90.drewN|apply IsS90.drew|apply IsS90.set_1)|exact HI0.out)) hb);have n2_:=Aside0.mk (KeepBut.trans (ke0_ HK.out) (KeepBut.of_below hb g none) (.inl rfl));have n3_:=Aside0.mk (below_step (by repeat (first|(with_reducible first|exact HB.out|apply below_alloc|apply pw_below_drewN|apply below_drew1|refine below_set ?_ (IsS90.ge HI0.out))|exact HB.out)) hb);have n4_:=Aside0.mk (hbox);have n5_:=Aside0.mk ((by rw [hg];exact (keep_size (w:=w) (g:=g) (row:=none) (ke0_ HK.out)) : w.heap.size ≤ gb422));have n6_:=Aside0.mk ((Nat.le_trans HW0.out (by rw [hg];exact (keep_size (w:=w) (g:=g) (row:=none) (ke0_ HK.out)) : w.heap.size ≤ gb422) : w0.heap.size ≤ gb422));have n7_:=Aside0.mk ((by rw [hg];exact Nat.ne_of_lt (IsS90.lt (show IsS90 w0 _ g s0_0 s0_1 from by repeat (first|(with_reducible first|exact HI0.out|apply IsS90.alloc|apply IsS90.drewN|apply IsS90.drew|apply IsS90.set_1)|exact HI0.out))) : g ≠ gb422));have n8_:=Aside0.mk ((by rw [hg];exact Nat.ne_of_gt (IsS90.lt (show IsS90 w0 _ g s0_0 s0_1 from by repeat (first|(with_reducible first|exact HI0.out|apply IsS90.alloc|apply IsS90.drewN|apply IsS90.drew|apply IsS90.set_1)|exact HI0.out))) : gb422 ≠ g));clear HO1_1;clear HI0;clear HK;clear HB;have HO1_1:=n0_;have HI0:=n1_;have HK:=n2_;have HB:=n3_;have BK422:=n4_;have GW422:=n5_;have GE422:=n6_;have NB0_422:=n7_;have NB422_0:=n8_;clear n0_ n1_ n2_ n3_ n4_ n5_ n6_ n7_ n8_;clear hb hbox hg)|((with_reducible refine gate_dst (N:=4) rfl ?_);refine box_event ?hg (N:=4) ?hd (cs:=#[.int .i64 0,.slice none 0 0]) (t:=28) ?hr ?_;(case hd => rfl);(case hg => rfl);(case hr => first|(go_simp;done)|(go_simp;rfl));intro gb423 hg w26 hbox hb;have n0_:=Aside0.mk (Kd.V_below (Kd.V_elderB (pv_ HO1_1.out) gb423 (Nat.le_of_eq hg.symm)) hb);have n1_:=Aside0.mk (IsS90.below (by repeat (first|(with_reducible first|exact HI0.out|apply IsS90.alloc|apply IsS90.drewN|apply IsS90.drew|apply IsS90.set_1|refine IsS90.far ?_ NB0_422.out _)|exact HI0.out)) hb);have n2_:=Aside0.mk (blk_below (g:=gb422) (o:=.cells #[.int .i64 a1_0,.slice A1_1 l1_1.length c1_1] 28 (0,0)) (pe_ BK422.out) hb);have n3_:=Aside0.mk (KeepBut.trans (ke1_ HK.out GW422.out) (KeepBut.of_below hb g none) (.inl rfl));have n4_:=Aside0.mk (below_step (by repeat (first|(with_reducible first|exact HB.out|apply below_alloc|apply pw_below_drewN|apply below_drew1|refine below_set ?_ (IsS90.ge HI0.out)|refine below_set ?_ GE422.out)|exact HB.out)) hb);have n5_:=Aside0.mk (hbox);have n6_:=Aside0.mk ((by rw [hg];exact (keep_size (w:=w) (g:=g) (row:=none) (ke1_ HK.out GW422.out)) : w.heap.size ≤ gb423));have n7_:=Aside0.mk ((Nat.le_trans HW0.out (by rw [hg];exact (keep_size (w:=w) (g:=g) (row:=none) (ke1_ HK.out GW422.out)) : w.heap.size ≤ gb423) : w0.heap.size ≤ gb423));have n8_:=Aside0.mk ((by rw [hg];exact Nat.ne_of_lt (blk_lt (g:=gb422) (o:=.cells #[.int .i64 a1_0,.slice A1_1 l1_1.length c1_1] 28 (0,0)) (pe_ BK422.out)) : gb422 ≠ gb423));have n9_:=Aside0.mk ((by rw [hg];exact Nat.ne_of_gt (blk_lt (g:=gb422) (o:=.cells #[.int .i64 a1_0,.slice A1_1 l1_1.length c1_1] 28 (0,0)) (pe_ BK422.out)) : gb423 ≠ gb422));have n10_:=Aside0.mk ((by rw [hg];exact Nat.ne_of_lt (IsS90.lt (show IsS90 w0 _ g s0_0 s0_1 from by repeat (first|(with_reducible first|exact HI0.out|apply IsS90.alloc|apply IsS90.drewN|apply IsS90.drew|apply IsS90.set_1|refine IsS90.far ?_ NB0_422.out _)|exact HI0.out))) : g ≠ gb423));have n11_:=Aside0.mk ((by rw [hg];exact Nat.ne_of_gt (IsS90.lt (show IsS90 w0 _ g s0_0 s0_1 from by repeat (first|(with_reducible first|exact HI0.out|apply IsS90.alloc|apply IsS90.drewN|apply IsS90.drew|apply IsS90.set_1|refine IsS90.far ?_ NB0_422.out _)|exact HI0.out))) : gb423 ≠ g));clear HO1_1;clear HI0;clear BK422;clear HK;clear HB;have HO1_1:=n0_;have HI0:=n1_;have BK422:=n2_;have HK:=n3_;have HB:=n4_;have BK423:=n5_;have GW423:=n6_;have GE423:=n7_;have NB422_423:=n8_;have NB423_422:=n9_;have NB0_423:=n10_;have NB423_0:=n11_;clear n0_ n1_ n2_ n3_ n4_ n5_ n6_ n7_ n8_ n9_ n10_ n11_;clear hb hbox hg)|((with_reducible refine gate_callee (f:=76) rfl ?_);refine goesL_ (some 6) rfl rfl Try.func76 (by kernel_rfl) rfl #[.pointer (some ⟨g,0,none⟩),.int .i64 24] rfl lp_ ?_;(with_reducible refine (spec_l13Rd_pick.calls k g s0_0 s0_1 24 t424 t425 w0 _ ?side1 ?side2 A3.out).mono ?_);(case side1 => repeat (first|(with_reducible first|exact HI0.out|apply IsS90.alloc|apply IsS90.drewN|apply IsS90.drew|apply IsS90.set_1|refine IsS90.far ?_ NB0_422.out _|refine IsS90.far ?_ NB0_423.out _)|exact HI0.out));(case side2 => repeat (first|(with_reducible first|exact HB.out|apply below_alloc|apply pw_below_drewN|apply below_drew1|refine below_set ?_ (IsS90.ge HI0.out)|refine below_set ?_ GE422.out|refine below_set ?_ GE423.out)|exact HB.out));rintro e w27 ⟨rfl,hi,hb,hk⟩;refine ⟨_,rfl,?_⟩;have n0_:=Aside0.mk (Kd.V_mono (Kd.V_keep (Kd.V_mono (ok:=fun k_ => (((((P1_1_ k_ ∨ w.heap.size ≤ k_)) ∧ k_ ≠ g) ∧ k_ ≠ gb422) ∧ k_ ≠ gb423)) (pv_ HO1_1.out) (fun k_ hk_ => (⟨hk_,hk_.1.1.2⟩ : _ ∧ k_ ≠ g))) hk (fun _ h => h.2)) (fun _ h => h.1));have n1_:=Aside0.mk (KeepBut.blk hk (g':=gb422) (o:=.cells #[.int .i64 a1_0,.slice A1_1 l1_1.length c1_1] 28 (0,0)) (pe_ BK422.out) NB422_0.out (by simp));have n2_:=Aside0.mk (KeepBut.blk hk (g':=gb423) (o:=.cells #[.int .i64 0,.slice none 0 0] 28 (0,0)) (pe_ BK423.out) NB423_0.out (by simp));have n3_:=Aside0.mk (KeepBut.trans (ke2_ HK.out GW422.out GW423.out) hk (.inl rfl));have n4_:=Aside0.mk (hb);have n5_:=Aside0.mk (hi);clear HO1_1;clear BK422;clear BK423;clear HK;clear HB;clear HI0;have HO1_1:=n0_;have BK422:=n1_;have BK423:=n2_;have HK:=n3_;have HB:=n4_;have HI0:=n5_;clear n0_ n1_ n2_ n3_ n4_ n5_;(try clear hb);(try clear hb2);(try clear hk);(try clear hi)))
   have n0_:=Aside0.mk (Kd.V_drew HO1_1.out)
   have n1_:=Aside0.mk (blk_drew BK422.out)
   have n2_:=Aside0.mk (blk_drew BK423.out)
   have n3_:=Aside0.mk (IsS90.drew HI0.out)
   have n4_:=Aside0.mk (keep_drew HK.out)
   have n5_:=Aside0.mk (below_drew1 HB.out)
   clear HO1_1
   clear BK422
   clear BK423
   clear HI0
   clear HK
   clear HB
   have HO1_1:=n0_
   have BK422:=n1_
   have BK423:=n2_
   have HI0:=n3_
   have HK:=n4_
   have HB:=n5_
   clear n0_ n1_ n2_ n3_ n4_ n5_
   refine start_ (n:=7) (S:=fun w' => w'.cell? ⟨gb422,0,none⟩ = some (.int .i64 a1_0) ∧ w'.cell? ⟨gb422,1,none⟩ = some (.slice A1_1 l1_1.length c1_1)) (ds:=[]) #[false,false,false,false,false,false,false] (by kernel_rfl) rfl rfl ⟨(blk_cell BK422.out 0).trans rfl,(blk_cell BK422.out 1).trans rfl⟩ (fun hHeld => ?_)
   generalize w27.drew = w28 at HO1_1 BK422 BK423 HI0 HK HB hHeld ⊢
   refine pure_ (i:=0) (N:=some 22) (v:=?_) (a':=?_) #[true,false,false,false,false,false,false] rfl rfl (by kernel_rfl) (fun _ _ _ h => h) (Or.inl ⟨by rfl,?_⟩) ?_ ?_
   rotate_left
   ·intro w'
    go_simp
    with_reducible rfl
   rotate_left
   ·simp only [Act.put,List.setIfInBounds_toArray,List.set_cons_zero,List.set_cons_succ,i64_w,i32_w]
    rfl
   refine pure_ (i:=3) (N:=some 25) (v:=?_) (a':=?_) #[true,false,false,true,false,false,false] rfl rfl (by kernel_rfl) (fun _ _ _ h => h) (Or.inl ⟨by rfl,?_⟩) ?_ ?_
   rotate_left
   ·intro w'
    go_simp
    with_reducible rfl
   rotate_left
   ·simp only [Act.put,List.setIfInBounds_toArray,List.set_cons_zero,List.set_cons_succ,i64_w,i32_w]
    rfl
   refine take_ (i:=4) (N:=some 26) (v:=?_) (a':=?_) #[true,false,false,true,true,false,false] rfl rfl (by kernel_rfl) (fun _ _ _ h => h) (Or.inl ⟨by rfl,?_⟩) hHeld ?_ ?_
   rotate_left
   ·rintro w' ⟨s0,s1⟩
    go_simp
    with_reducible rfl
   rotate_left
   ·simp only [Act.put,List.setIfInBounds_toArray,List.set_cons_zero,List.set_cons_succ,i64_w,i32_w]
    rfl
   refine one_ (i:=1) (N:=some 23) #[true,true,false,true,true,false,false] rfl rfl (by kernel_rfl) (by decide) (fun K hK => ?_)
   refine Kd.R_lit_step (Kd.int .i64) _ 3 ?hg (N:=23) ?hd (xs:=([0,5,1] : List Int)) (inner:=[.int .i64 0,.int .i64 5,.int .i64 1]) (ok:=fun _ => True) (okp:=fun _ => True) ?hr ?hp (fun _ hk => hk) trivial (Below.refl _ _) (Nat.le_refl _) (by simp) ?_;(case hd => rfl);(case hg => rfl);(case hr => first|(go_simp;done)|(go_simp;rfl));(case hp => exact (Reps.one (show Kd.M (Kd.int .i64) _ _ _ 0 [.int .i64 0] from rfl) (Reps.one (show Kd.M (Kd.int .i64) _ _ _ 5 [.int .i64 5] from rfl) (Reps.one (show Kd.M (Kd.int .i64) _ _ _ 1 [.int .i64 1] from rfl) (Reps.none _ _)))))
   intro v443 w29 ho30 hb hg_ hnew_
   clear hg_ hnew_
   (first|rw [← Ny442.out] at ho30|(simp only [Int.reduceToNat] at ho30;rw [← Ny442.out] at ho30))
   have n0_:=Aside0.mk (Kd.V_elder' (pv_ HO1_1.out) (Kd.R_base ho30) hb)
   have n1_:=Aside0.mk (Kd.R_lower (Kd.R_newM (M:=fun k_ => (w.heap.size ≤ k_)) ho30 (keep_size (w:=w) (g:=g) (row:=none) (ke2_ HK.out GW422.out GW423.out)) (fun k_ h_ => h_)) (keep_size (w:=w) (g:=g) (row:=none) (ke2_ HK.out GW422.out GW423.out)))
   have n2_:=Aside0.mk (IsS90.below (by repeat (first|(with_reducible first|exact HI0.out|apply IsS90.alloc|apply IsS90.drewN|apply IsS90.drew|apply IsS90.set_1|refine IsS90.far ?_ NB0_422.out _|refine IsS90.far ?_ NB0_423.out _)|exact HI0.out)) hb)
   have n3_:=Aside0.mk (blk_below (g:=gb422) (o:=.cells #[.int .i64 a1_0,.slice A1_1 l1_1.length c1_1] 28 (0,0)) (pe_ BK422.out) hb)
   have n4_:=Aside0.mk (blk_below (g:=gb423) (o:=.cells #[.int .i64 0,.slice none 0 0] 28 (0,0)) (pe_ BK423.out) hb)
   have n5_:=Aside0.mk (KeepBut.trans (ke2_ HK.out GW422.out GW423.out) (KeepBut.of_below hb g none) (.inl rfl))
   have n6_:=Aside0.mk (below_step (by repeat (first|(with_reducible first|exact HB.out|apply below_alloc|apply pw_below_drewN|apply below_drew1|refine below_set ?_ (IsS90.ge HI0.out)|refine below_set ?_ GE422.out|refine below_set ?_ GE423.out)|exact HB.out)) hb)
   clear HO1_1
   clear HI0
   clear BK422
   clear BK423
   clear HK
   clear HB
   have HO1_1:=n0_
   have HO444:=n1_
   have HI0:=n2_
   have BK422:=n3_
   have BK423:=n4_
   have HK:=n5_
   have HB:=n6_
   clear n0_ n1_ n2_ n3_ n4_ n5_ n6_
   clear hb ho30
   obtain ⟨Ao31,co31,eo31⟩:=Kd.R_slice HO444.out
   (first|subst eo31|(injection eo31 with f1_ f2_ f3_;have f4_:=f1_.symm;have f5_:=f3_.symm;clear f1_ f2_ f3_;subst f4_;subst f5_))
   refine hK.out _ _ ⟨(blk_cell BK422.out 0).trans rfl,(blk_cell BK422.out 1).trans rfl⟩ (fun hHeld => ?_)
   clear hK K
   refine norm_ (a':=?_) ?_ ?_
   rotate_left
   ·show Act.put _ (some 23) _ = _
    simp only [Act.put,List.setIfInBounds_toArray,List.set_cons_zero,List.set_cons_succ,i64_w,i32_w]
    rfl
   refine one_ (i:=2) (N:=some 24) #[true,true,true,true,true,false,false] rfl rfl (by kernel_rfl) (by decide) (fun K hK => ?_)
   refine goes_ Try.func88 (by kernel_rfl) rfl #[.pointer (some ⟨g,0,none⟩),.slice Ao31 y442.length co31] (by rfl) rfl rfl lp_ ?_
   with_reducible refine (spec_l13Rd_num.calls k g s0_0 t425 _ _ y442 t445 t446 w0 _ ?side1 ?side2 ?side3 ?side4 ?side5 A24.out).mono ?_
   (case side1 => repeat (first|(with_reducible first|exact HI0.out|apply IsS90.alloc|apply IsS90.drewN|apply IsS90.drew|apply IsS90.set_1|refine IsS90.far ?_ NB0_422.out _|refine IsS90.far ?_ NB0_423.out _)|exact HI0.out))
   (case side2 => repeat (first|(with_reducible first|exact HB.out|apply below_alloc|apply pw_below_drewN|apply below_drew1|refine below_set ?_ (IsS90.ge HI0.out)|refine below_set ?_ GE422.out|refine below_set ?_ GE423.out)|exact HB.out))
   (case side3 => repeat (first|exact (Kd.R_reads' HO444.out).2.2|(with_reducible refine Kd.C_alloc ?_ _)|(with_reducible refine Kd.C_drewN ?_ _)|(with_reducible refine Kd.C_drew ?_)))
   (case side4 => exact (Kd.R_reads' HO444.out).2.1)
   (case side5 => exact far_slice (IsS90.own_ne HI0.out HO444.out (by decide)))
   rintro e w32 ⟨rfl,hi,hb,hk⟩
   refine ⟨_,rfl,?_⟩
   have n0_:=Aside0.mk (Kd.V_mono (Kd.V_keep (Kd.V_mono (ok:=fun k_ => ((((((P1_1_ k_ ∨ w.heap.size ≤ k_)) ∧ k_ ≠ g) ∧ k_ ≠ gb422) ∧ k_ ≠ gb423) ∧ some k_ ≠ (.slice Ao31 y442.length co31 : Value).ownBlock)) (pv_ HO1_1.out) (fun k_ hk_ => (⟨hk_,hk_.1.1.1.2⟩ : _ ∧ k_ ≠ g))) hk (fun _ h => h.2)) (fun _ h => h.1))
   have n1_:=Aside0.mk (KeepBut.blk hk (g':=gb422) (o:=.cells #[.int .i64 a1_0,.slice A1_1 l1_1.length c1_1] 28 (0,0)) (pe_ BK422.out) NB422_0.out (by simp))
   have n2_:=Aside0.mk (KeepBut.blk hk (g':=gb423) (o:=.cells #[.int .i64 0,.slice none 0 0] 28 (0,0)) (pe_ BK423.out) NB423_0.out (by simp))
   have n3_:=Aside0.mk (Kd.R_mono (Kd.R_keep (IsS90.apart (show IsS90 w0 _ g s0_0 t425 from by repeat (first|(with_reducible first|exact HI0.out|apply IsS90.alloc|apply IsS90.drewN|apply IsS90.drew|apply IsS90.set_1|refine IsS90.far ?_ NB0_422.out _|refine IsS90.far ?_ NB0_423.out _)|exact HI0.out)) (pr_ HO444.out) (by decide)) hk (fun _ h => h.2)) (fun _ h => h.1))
   have n4_:=Aside0.mk (KeepBut.trans (ke2_ HK.out GW422.out GW423.out) hk (.inl rfl))
   have n5_:=Aside0.mk (hb)
   have n6_:=Aside0.mk (hi)
   clear HO1_1
   clear BK422
   clear BK423
   clear HO444
   clear HK
   clear HB
   clear HI0
   have HO1_1:=n0_
   have BK422:=n1_
   have BK423:=n2_
   have HO444:=n3_
   have HK:=n4_
   have HB:=n5_
   have HI0:=n6_
   clear n0_ n1_ n2_ n3_ n4_ n5_ n6_
   (try clear hb)
   (try clear hb2)
   (try clear hk)
   (try clear hi)
   refine hK.out _ _ ⟨(blk_cell BK422.out 0).trans rfl,(blk_cell BK422.out 1).trans rfl⟩ (fun hHeld => ?_)
   clear hK K
   refine norm_ (a':=?_) ?_ ?_
   rotate_left
   ·show Act.put _ (some 24) _ = _
    simp only [Act.put,List.setIfInBounds_toArray,List.set_cons_zero,List.set_cons_succ,i64_w,i32_w]
    rfl
   refine pure_ (i:=5) (N:=some 27) (v:=?_) (a':=?_) #[true,true,true,true,true,true,false] rfl rfl (by kernel_rfl) (fun _ _ _ h => h) (Or.inl ⟨by rfl,?_⟩) ?_ ?_
   rotate_left
   ·intro w'
    go_simp
    with_reducible rfl
   rotate_left
   ·simp only [Act.put,List.setIfInBounds_toArray,List.set_cons_zero,List.set_cons_succ,i64_w,i32_w]
    rfl
   refine one_ (i:=6) (N:=none) #[true,true,true,true,true,true,true] rfl rfl (by kernel_rfl) (by decide) (fun K hK => ?_)
   have hs33 : w32.cell? ⟨gb423,0,none⟩ = some (.int .i64 0):=(blk_cell BK423.out 0).trans rfl
   have hfs33:=blk_frozen BK423.out 0
   have hns33_0:=NB422_423.out
   have hms33_0:=NB423_422.out
   have hs34 : w32.cell? ⟨gb423,1,none⟩ = some (.slice none 0 0):=(blk_cell BK423.out 1).trans rfl
   have hfs34:=blk_frozen BK423.out 1
   have hns34_0:=NB422_423.out
   have hms34_0:=NB423_422.out
   refine skip_ (w1:=?_) (by rfl) rfl ?_ ?_
   rotate_left
   ·go_simp
    rfl
   refine hK.out _ _ ⟨((cell_far (p:=⟨gb423,_,none⟩) NB422_423.out _).trans (((cell_far (p:=⟨gb423,_,none⟩) NB422_423.out _).trans (hHeld.1)))),((cell_far (p:=⟨gb423,_,none⟩) NB422_423.out _).trans (((cell_far (p:=⟨gb423,_,none⟩) NB422_423.out _).trans (hHeld.2))))⟩ (fun hHeld => ?_)
   clear hK K
   refine done_ (by kernel_rfl) ?_
   try go_wp2
   refine bodyPost_ret (results_cell_row rfl _ _ gb423 28 #[.int .i64 t445,.slice A1_1 l1_1.length c1_1] (0,0) _ rfl (by refine pe_ ?_;refine blk_put (cs:=#[.int .i64 t445,.slice none 0 0]) ?_ 1 _ rfl;refine pe_ ?_;refine blk_put (cs:=#[.int .i64 0,.slice none 0 0]) ?_ 0 _ rfl;refine pe_ ?_;exact BK423.out) Try.underlying28 rfl (by kernel_rfl)) rfl ?_
   exact ⟨_,by first|rfl|(simp [errW_none,errW_some] <;> rfl)|(simp [*,errW_none,errW_some] <;> rfl),by refine pv_ ?_;exact Kd.V_mono (Kd.V_far (p:=⟨gb423,1,none⟩) (Kd.V_far (p:=⟨gb423,0,none⟩) (Kd.V_mono HO1_1.out (fun k_ hk => (⟨hk,hk.1.2⟩ : _ ∧ k_ ≠ gb423))) (fun _ hk => hk.2) (.int .i64 t445)) (fun _ hk => hk.2) (.slice A1_1 l1_1.length c1_1)) (fun _ hk => hk.1.1.1.1.1),by repeat (first|(with_reducible first|exact HI0.out|apply IsS90.alloc|apply IsS90.drewN|apply IsS90.drew|apply IsS90.set_1|refine IsS90.far ?_ NB0_422.out _|refine IsS90.far ?_ NB0_423.out _)|exact HI0.out),by repeat (first|(with_reducible first|exact HB.out|apply below_alloc|apply pw_below_drewN|apply below_drew1|refine below_set ?_ (IsS90.ge HI0.out)|refine below_set ?_ GE422.out|refine below_set ?_ GE423.out)|exact HB.out),ke2_ HK.out GW422.out GW423.out⟩
  ·rw [if_neg c23] at H
   have c23b0 : (t424 == 1) = false:=beq_eq_false_iff_ne.mpr c23
   have c23b1 : (t424 != 1) = true:=bne_iff_ne.mpr c23
   simp only [Option.some.injEq,Prod.mk.injEq] at H
   obtain ⟨rfl,rfl,rfl⟩:=H
   go_enter Try.func77,Try.ntmps77
   go_wp2_with (first|((with_reducible refine gate_dst (N:=3) rfl ?_);refine box_event ?hg (N:=3) ?hd (cs:=#[.int .i64 a1_0,.slice A1_1 l1_1.length c1_1]) (t:=28) ?hr ?_;(case hd => rfl);(case hg => rfl);(case hr => first|(go_simp;done)|(go_simp;rfl));intro gb422 hg w35 hbox hb;have n0_:=Aside0.mk (Kd.V_below (Kd.V_elderB (pv_ HO1_1.out) gb422 (Nat.le_of_eq hg.symm)) hb);have n1_:=Aside0.mk (IsS90.below (by repeat (first|(with_reducible first|exact HI0.out|apply IsS90.alloc|apply IsS90.drewN|apply IsS90.drew|apply IsS90.set_1)|exact HI0.out)) hb);have n2_:=Aside0.mk (KeepBut.trans (ke0_ HK.out) (KeepBut.of_below hb g none) (.inl rfl));have n3_:=Aside0.mk (below_step (by repeat (first|(with_reducible first|exact HB.out|apply below_alloc|apply pw_below_drewN|apply below_drew1|refine below_set ?_ (IsS90.ge HI0.out))|exact HB.out)) hb);have n4_:=Aside0.mk (hbox);have n5_:=Aside0.mk ((by rw [hg];exact (keep_size (w:=w) (g:=g) (row:=none) (ke0_ HK.out)) : w.heap.size ≤ gb422));have n6_:=Aside0.mk ((Nat.le_trans HW0.out (by rw [hg];exact (keep_size (w:=w) (g:=g) (row:=none) (ke0_ HK.out)) : w.heap.size ≤ gb422) : w0.heap.size ≤ gb422));have n7_:=Aside0.mk ((by rw [hg];exact Nat.ne_of_lt (IsS90.lt (show IsS90 w0 _ g s0_0 s0_1 from by repeat (first|(with_reducible first|exact HI0.out|apply IsS90.alloc|apply IsS90.drewN|apply IsS90.drew|apply IsS90.set_1)|exact HI0.out))) : g ≠ gb422));have n8_:=Aside0.mk ((by rw [hg];exact Nat.ne_of_gt (IsS90.lt (show IsS90 w0 _ g s0_0 s0_1 from by repeat (first|(with_reducible first|exact HI0.out|apply IsS90.alloc|apply IsS90.drewN|apply IsS90.drew|apply IsS90.set_1)|exact HI0.out))) : gb422 ≠ g));clear HO1_1;clear HI0;clear HK;clear HB;have HO1_1:=n0_;have HI0:=n1_;have HK:=n2_;have HB:=n3_;have BK422:=n4_;have GW422:=n5_;have GE422:=n6_;have NB0_422:=n7_;have NB422_0:=n8_;clear n0_ n1_ n2_ n3_ n4_ n5_ n6_ n7_ n8_;clear hb hbox hg)|((with_reducible refine gate_dst (N:=4) rfl ?_);refine box_event ?hg (N:=4) ?hd (cs:=#[.int .i64 0,.slice none 0 0]) (t:=28) ?hr ?_;(case hd => rfl);(case hg => rfl);(case hr => first|(go_simp;done)|(go_simp;rfl));intro gb423 hg w36 hbox hb;have n0_:=Aside0.mk (Kd.V_below (Kd.V_elderB (pv_ HO1_1.out) gb423 (Nat.le_of_eq hg.symm)) hb);have n1_:=Aside0.mk (IsS90.below (by repeat (first|(with_reducible first|exact HI0.out|apply IsS90.alloc|apply IsS90.drewN|apply IsS90.drew|apply IsS90.set_1|refine IsS90.far ?_ NB0_422.out _)|exact HI0.out)) hb);have n2_:=Aside0.mk (blk_below (g:=gb422) (o:=.cells #[.int .i64 a1_0,.slice A1_1 l1_1.length c1_1] 28 (0,0)) (pe_ BK422.out) hb);have n3_:=Aside0.mk (KeepBut.trans (ke1_ HK.out GW422.out) (KeepBut.of_below hb g none) (.inl rfl));have n4_:=Aside0.mk (below_step (by repeat (first|(with_reducible first|exact HB.out|apply below_alloc|apply pw_below_drewN|apply below_drew1|refine below_set ?_ (IsS90.ge HI0.out)|refine below_set ?_ GE422.out)|exact HB.out)) hb);have n5_:=Aside0.mk (hbox);have n6_:=Aside0.mk ((by rw [hg];exact (keep_size (w:=w) (g:=g) (row:=none) (ke1_ HK.out GW422.out)) : w.heap.size ≤ gb423));have n7_:=Aside0.mk ((Nat.le_trans HW0.out (by rw [hg];exact (keep_size (w:=w) (g:=g) (row:=none) (ke1_ HK.out GW422.out)) : w.heap.size ≤ gb423) : w0.heap.size ≤ gb423));have n8_:=Aside0.mk ((by rw [hg];exact Nat.ne_of_lt (blk_lt (g:=gb422) (o:=.cells #[.int .i64 a1_0,.slice A1_1 l1_1.length c1_1] 28 (0,0)) (pe_ BK422.out)) : gb422 ≠ gb423));have n9_:=Aside0.mk ((by rw [hg];exact Nat.ne_of_gt (blk_lt (g:=gb422) (o:=.cells #[.int .i64 a1_0,.slice A1_1 l1_1.length c1_1] 28 (0,0)) (pe_ BK422.out)) : gb423 ≠ gb422));have n10_:=Aside0.mk ((by rw [hg];exact Nat.ne_of_lt (IsS90.lt (show IsS90 w0 _ g s0_0 s0_1 from by repeat (first|(with_reducible first|exact HI0.out|apply IsS90.alloc|apply IsS90.drewN|apply IsS90.drew|apply IsS90.set_1|refine IsS90.far ?_ NB0_422.out _)|exact HI0.out))) : g ≠ gb423));have n11_:=Aside0.mk ((by rw [hg];exact Nat.ne_of_gt (IsS90.lt (show IsS90 w0 _ g s0_0 s0_1 from by repeat (first|(with_reducible first|exact HI0.out|apply IsS90.alloc|apply IsS90.drewN|apply IsS90.drew|apply IsS90.set_1|refine IsS90.far ?_ NB0_422.out _)|exact HI0.out))) : gb423 ≠ g));clear HO1_1;clear HI0;clear BK422;clear HK;clear HB;have HO1_1:=n0_;have HI0:=n1_;have BK422:=n2_;have HK:=n3_;have HB:=n4_;have BK423:=n5_;have GW423:=n6_;have GE423:=n7_;have NB422_423:=n8_;have NB423_422:=n9_;have NB0_423:=n10_;have NB423_0:=n11_;clear n0_ n1_ n2_ n3_ n4_ n5_ n6_ n7_ n8_ n9_ n10_ n11_;clear hb hbox hg)|((with_reducible refine gate_callee (f:=76) rfl ?_);refine goesL_ (some 6) rfl rfl Try.func76 (by kernel_rfl) rfl #[.pointer (some ⟨g,0,none⟩),.int .i64 24] rfl lp_ ?_;(with_reducible refine (spec_l13Rd_pick.calls k g s0_0 s0_1 24 t424 t425 w0 _ ?side1 ?side2 A3.out).mono ?_);(case side1 => repeat (first|(with_reducible first|exact HI0.out|apply IsS90.alloc|apply IsS90.drewN|apply IsS90.drew|apply IsS90.set_1|refine IsS90.far ?_ NB0_422.out _|refine IsS90.far ?_ NB0_423.out _)|exact HI0.out));(case side2 => repeat (first|(with_reducible first|exact HB.out|apply below_alloc|apply pw_below_drewN|apply below_drew1|refine below_set ?_ (IsS90.ge HI0.out)|refine below_set ?_ GE422.out|refine below_set ?_ GE423.out)|exact HB.out));rintro e w37 ⟨rfl,hi,hb,hk⟩;refine ⟨_,rfl,?_⟩;have n0_:=Aside0.mk (Kd.V_mono (Kd.V_keep (Kd.V_mono (ok:=fun k_ => (((((P1_1_ k_ ∨ w.heap.size ≤ k_)) ∧ k_ ≠ g) ∧ k_ ≠ gb422) ∧ k_ ≠ gb423)) (pv_ HO1_1.out) (fun k_ hk_ => (⟨hk_,hk_.1.1.2⟩ : _ ∧ k_ ≠ g))) hk (fun _ h => h.2)) (fun _ h => h.1));have n1_:=Aside0.mk (KeepBut.blk hk (g':=gb422) (o:=.cells #[.int .i64 a1_0,.slice A1_1 l1_1.length c1_1] 28 (0,0)) (pe_ BK422.out) NB422_0.out (by simp));have n2_:=Aside0.mk (KeepBut.blk hk (g':=gb423) (o:=.cells #[.int .i64 0,.slice none 0 0] 28 (0,0)) (pe_ BK423.out) NB423_0.out (by simp));have n3_:=Aside0.mk (KeepBut.trans (ke2_ HK.out GW422.out GW423.out) hk (.inl rfl));have n4_:=Aside0.mk (hb);have n5_:=Aside0.mk (hi);clear HO1_1;clear BK422;clear BK423;clear HK;clear HB;clear HI0;have HO1_1:=n0_;have BK422:=n1_;have BK423:=n2_;have HK:=n3_;have HB:=n4_;have HI0:=n5_;clear n0_ n1_ n2_ n3_ n4_ n5_;(try clear hb);(try clear hb2);(try clear hk);(try clear hi);have hnb38:=NB422_423.out;have hnc38:=NB423_422.out;have hnb39:=NB422_0.out;have hnc39:=NB0_422.out;have hcz40_0 : w37.cell? ⟨gb422,0,none⟩ = some (.int .i64 a1_0):=(blk_cell BK422.out 0).trans rfl;have hcz40_1 : w37.cell? ⟨gb422,1,none⟩ = some (.slice A1_1 l1_1.length c1_1):=(blk_cell BK422.out 1).trans rfl;have hfz40_0:=blk_frozen BK422.out 0;have hfz40_1:=blk_frozen BK422.out 1;have hnb41:=NB423_0.out;have hnc41:=NB0_423.out;have hcz42_0 : w37.cell? ⟨gb423,0,none⟩ = some (.int .i64 0):=(blk_cell BK423.out 0).trans rfl;have hcz42_1 : w37.cell? ⟨gb423,1,none⟩ = some (.slice none 0 0):=(blk_cell BK423.out 1).trans rfl;have hfz42_0:=blk_frozen BK423.out 0;have hfz42_1:=blk_frozen BK423.out 1))
   refine bodyPost_ret (results_cell_row rfl _ _ gb423 28 #[.int .i64 a1_0,.slice A1_1 l1_1.length c1_1] (0,0) _ rfl (by refine pe_ ?_;refine blk_put (cs:=#[.int .i64 a1_0,.slice none 0 0]) ?_ 1 _ rfl;refine pe_ ?_;refine blk_put (cs:=#[.int .i64 0,.slice none 0 0]) ?_ 0 _ rfl;refine pe_ ?_;exact BK423.out) Try.underlying28 rfl (by kernel_rfl)) rfl ?_
   exact ⟨_,by first|rfl|(simp [errW_none,errW_some] <;> rfl)|(simp [*,errW_none,errW_some] <;> rfl),by refine pv_ ?_;exact Kd.V_mono (Kd.V_far (p:=⟨gb423,1,none⟩) (Kd.V_far (p:=⟨gb423,0,none⟩) (Kd.V_mono HO1_1.out (fun k_ hk => (⟨hk,hk.2⟩ : _ ∧ k_ ≠ gb423))) (fun _ hk => hk.2) (.int .i64 a1_0)) (fun _ hk => hk.2) (.slice A1_1 l1_1.length c1_1)) (fun _ hk => hk.1.1.1.1),by repeat (first|(with_reducible first|exact HI0.out|apply IsS90.alloc|apply IsS90.drewN|apply IsS90.drew|apply IsS90.set_1|refine IsS90.far ?_ NB0_422.out _|refine IsS90.far ?_ NB0_423.out _)|exact HI0.out),by repeat (first|(with_reducible first|exact HB.out|apply below_alloc|apply pw_below_drewN|apply below_drew1|refine below_set ?_ (IsS90.ge HI0.out)|refine below_set ?_ GE422.out|refine below_set ?_ GE423.out)|exact HB.out),ke2_ HK.out GW422.out GW423.out⟩
end Go.Proofs.Ytengegdaiphfeaa.X
end
section
namespace Go.Proofs.Ytengegdaiphfeaa.X
open Go.RowKit Go.Proofs.YtengegdaiphfeaaW.PrintWords Go.Proofs.YtengegdaiphfeaaW.PrintLast Go.Proofs.YtengegdaiphfeaaW.PrintMore
attribute [local go_sem] max2_int min2_int max_two min_two max_three min_three max_four min_four
set_option linter.unusedVariables false
set_option linter.unusedSimpArgs false
def spec_l6Draw.l0 : Nat → Int → Int → List Int → Int → Int → List Int → Option (Int × List Int × Int)
 | 0,_,_,_,_,_,_ => none
 | k + 1,x10,x11,x1000,x1001,x449000,x449001 => if x11 < x10 then ((spec_l13Rd_num.f k x1000 x1001 (([3,0,1,3,2,1,0] : List Int))).bind fun bt452 => (if x449001.length < 17592186044416 then (spec_l6Draw.l0 k x10 (wrap64 (x11 + 1)) x1000 bt452.2 x449000 (x449001 ++ [bt452.1])) else (none))) else (some (x449000,x449001,x1001))
def spec_l6Draw.f (k : Nat) (s0_0 : List Int) (s0_1 : Int) (a1 : Int) : Option (Int × List Int × Int):=spec_l6Draw.l0 k (wrap64 (a1 * a1)) 0 s0_0 s0_1 a1 ([] : List Int)
theorem spec_l6Draw.mono_l : ∀ k,(∀ y0 y1 y2 y3 y4 y5,LeO (spec_l6Draw.l0 k y0 y1 y2 y3 y4 y5) (spec_l6Draw.l0 (k + 1) y0 y1 y2 y3 y4 y5))
 | 0 => fun _ _ _ _ _ _ r h => by simp [spec_l6Draw.l0] at h
 | k + 1 => by
  have ih0:=spec_l6Draw.mono_l k
  ·intro y0 y1 y2 y3 y4 y5
   unfold spec_l6Draw.l0
   repeat' first
   | (with_reducible exact ih0 _ _ _ _ _ _)
   | (with_reducible exact spec_l13Rd_num.mono _ _ _ _)
   | (with_reducible exact LeO.refl _)
   | (with_reducible exact LeO.none _)
   | (with_reducible refine LeO.ite ?_ ?_)
   | (with_reducible refine LeO.bind ?_ (fun _ => ?_))
   | exact ih0 _ _ _ _ _ _
   | exact spec_l13Rd_num.mono _ _ _ _
   | exact LeO.none _
   | refine LeO.ite ?_ ?_
   | refine LeO.bind ?_ (fun _ => ?_)
theorem spec_l6Draw.mono : ∀ a0 a1 a2 k,LeO (spec_l6Draw.f k a0 a1 a2) (spec_l6Draw.f (k + 1) a0 a1 a2):=by
 intro a0 a1 a2 k
 have ih0:=spec_l6Draw.mono_l k
 unfold spec_l6Draw.f
 repeat' first
   | (with_reducible exact ih0 _ _ _ _ _ _)
   | (with_reducible exact spec_l13Rd_num.mono _ _ _ _)
   | (with_reducible exact LeO.refl _)
   | (with_reducible exact LeO.none _)
   | (with_reducible refine LeO.ite ?_ ?_)
   | (with_reducible refine LeO.bind ?_ (fun _ => ?_))
   | exact ih0 _ _ _ _ _ _
   | exact spec_l13Rd_num.mono _ _ _ _
   | exact LeO.none _
   | refine LeO.ite ?_ ?_
   | refine LeO.bind ?_ (fun _ => ?_)
def spec_l6Draw.T4 : Bool × List (List Nat × List Nat):=(true,[([],[]),([0],[0]),([],[]),([],[]),([2,3],[2,3]),([4],[4]),([1,5,4],[1,5]),([0,1,2,3,4,5,6],[]),([7,6,6,0,1,2,3,4,5,6],[6,7])])
def spec_l6Draw.B4 : List Nat:=[0,1,0,0,12,28,63,127,255]
theorem spec_l6Draw.tab4 : rtab .any (opsOf Try.f78 4) = spec_l6Draw.T4:=by kernel_rfl
theorem spec_l6Draw.bits4 : waitsOk spec_l6Draw.T4.2 spec_l6Draw.B4 = true:=by kernel_rfl
set_option maxHeartbeats 8000000 in
set_option maxRecDepth 100000 in
theorem spec_l6Draw.calls (k : Nat) (g : Nat) (s0_0 : List Int) (s0_1 : Int) (a1 : Int) (r1 : Int) (r2 : List Int) (r3 : Int) (w0 w : World) (hI : IsS90 w0 w g s0_0 s0_1) (hB : Below w0.heap.size w0 w) (h : spec_l6Draw.f k s0_0 s0_1 a1 = some (r1,r2,r3)) :
  Calls Try.prog 78 #[.pointer (some ⟨g,0,none⟩),.int .i64 a1] w fun e w' => ∃ v1_ : Value,e = .returned (.agg #[.int .i64 r1,v1_]) ∧ Kd.R (Kd.int .i64) 3 w' w.heap.size (fun _ => True) v1_ r2 ∧ IsS90 w0 w' g s0_0 r3 ∧ Below w0.heap.size w0 w' ∧ KeepBut w w' g none:=by
 have hu28:=Try.underlying28
 have HI0:=Aside0.mk hI
 have HK:=Aside0.mk (KeepBut.refl w g none)
 have HL:=Aside0.mk hB.size
 clear hI
 have HW0:=Aside0.mk hB.size
 have HB:=Aside0.mk hB
 clear hB
 have H : (spec_l6Draw.l0 k (wrap64 (a1 * a1)) 0 s0_0 s0_1 a1 ([] : List Int)) = some (r1,r2,r3):=h
 clear h
 have H':=Aside0.mk H
 clear H
 go_enter Try.func78,Try.ntmps78
 go_wp2_with (first|((with_reducible refine gate_dst (N:=4) rfl ?_);refine box_event ?hg (N:=4) ?hd (cs:=#[.int .i64 0,.slice none 0 0]) (t:=28) ?hr ?_;(case hd => rfl);(case hg => rfl);(case hr => first|(go_simp;done)|(go_simp;rfl));intro gb447 hg w3 hbox hb;have n0_:=Aside0.mk (IsS90.below (by repeat (first|(with_reducible first|exact HI0.out|apply IsS90.alloc|apply IsS90.drewN|apply IsS90.drew|apply IsS90.set_1)|exact HI0.out)) hb);have n1_:=Aside0.mk (KeepBut.trans (ke0_ HK.out) (KeepBut.of_below hb g none) (.inl rfl));have n2_:=Aside0.mk (below_step (by repeat (first|(with_reducible first|exact HB.out|apply below_alloc|apply pw_below_drewN|apply below_drew1|refine below_set ?_ (IsS90.ge HI0.out))|exact HB.out)) hb);have n3_:=Aside0.mk (hbox);have n4_:=Aside0.mk ((by rw [hg];exact (keep_size (w:=w) (g:=g) (row:=none) (ke0_ HK.out)) : w.heap.size ≤ gb447));have n5_:=Aside0.mk ((Nat.le_trans HW0.out (by rw [hg];exact (keep_size (w:=w) (g:=g) (row:=none) (ke0_ HK.out)) : w.heap.size ≤ gb447) : w0.heap.size ≤ gb447));have n6_:=Aside0.mk ((by rw [hg];exact Nat.ne_of_lt (IsS90.lt (show IsS90 w0 _ g s0_0 s0_1 from by repeat (first|(with_reducible first|exact HI0.out|apply IsS90.alloc|apply IsS90.drewN|apply IsS90.drew|apply IsS90.set_1)|exact HI0.out))) : g ≠ gb447));have n7_:=Aside0.mk ((by rw [hg];exact Nat.ne_of_gt (IsS90.lt (show IsS90 w0 _ g s0_0 s0_1 from by repeat (first|(with_reducible first|exact HI0.out|apply IsS90.alloc|apply IsS90.drewN|apply IsS90.drew|apply IsS90.set_1)|exact HI0.out))) : gb447 ≠ g));clear HI0;clear HK;clear HB;have HI0:=n0_;have HK:=n1_;have HB:=n2_;have BK447:=n3_;have GW447:=n4_;have GE447:=n5_;have NB0_447:=n6_;have NB447_0:=n7_;clear n0_ n1_ n2_ n3_ n4_ n5_ n6_ n7_;clear hb hbox hg)|((with_reducible refine gate_dst (N:=5) rfl ?_);refine box_event ?hg (N:=5) ?hd (cs:=#[.int .i64 0,.slice none 0 0]) (t:=28) ?hr ?_;(case hd => rfl);(case hg => rfl);(case hr => first|(go_simp;done)|(go_simp;rfl));intro gb448 hg w4 hbox hb;have n0_:=Aside0.mk (IsS90.below (by repeat (first|(with_reducible first|exact HI0.out|apply IsS90.alloc|apply IsS90.drewN|apply IsS90.drew|apply IsS90.set_1|refine IsS90.far ?_ NB0_447.out _)|exact HI0.out)) hb);have n1_:=Aside0.mk (blk_below (g:=gb447) (o:=.cells #[.int .i64 0,.slice none 0 0] 28 (0,0)) (pe_ BK447.out) hb);have n2_:=Aside0.mk (KeepBut.trans (ke1_ HK.out GW447.out) (KeepBut.of_below hb g none) (.inl rfl));have n3_:=Aside0.mk (below_step (by repeat (first|(with_reducible first|exact HB.out|apply below_alloc|apply pw_below_drewN|apply below_drew1|refine below_set ?_ (IsS90.ge HI0.out)|refine below_set ?_ GE447.out)|exact HB.out)) hb);have n4_:=Aside0.mk (hbox);have n5_:=Aside0.mk ((by rw [hg];exact (keep_size (w:=w) (g:=g) (row:=none) (ke1_ HK.out GW447.out)) : w.heap.size ≤ gb448));have n6_:=Aside0.mk ((Nat.le_trans HW0.out (by rw [hg];exact (keep_size (w:=w) (g:=g) (row:=none) (ke1_ HK.out GW447.out)) : w.heap.size ≤ gb448) : w0.heap.size ≤ gb448));have n7_:=Aside0.mk ((by rw [hg];exact Nat.ne_of_lt (blk_lt (g:=gb447) (o:=.cells #[.int .i64 0,.slice none 0 0] 28 (0,0)) (pe_ BK447.out)) : gb447 ≠ gb448));have n8_:=Aside0.mk ((by rw [hg];exact Nat.ne_of_gt (blk_lt (g:=gb447) (o:=.cells #[.int .i64 0,.slice none 0 0] 28 (0,0)) (pe_ BK447.out)) : gb448 ≠ gb447));have n9_:=Aside0.mk ((by rw [hg];exact Nat.ne_of_lt (IsS90.lt (show IsS90 w0 _ g s0_0 s0_1 from by repeat (first|(with_reducible first|exact HI0.out|apply IsS90.alloc|apply IsS90.drewN|apply IsS90.drew|apply IsS90.set_1|refine IsS90.far ?_ NB0_447.out _)|exact HI0.out))) : g ≠ gb448));have n10_:=Aside0.mk ((by rw [hg];exact Nat.ne_of_gt (IsS90.lt (show IsS90 w0 _ g s0_0 s0_1 from by repeat (first|(with_reducible first|exact HI0.out|apply IsS90.alloc|apply IsS90.drewN|apply IsS90.drew|apply IsS90.set_1|refine IsS90.far ?_ NB0_447.out _)|exact HI0.out))) : gb448 ≠ g));clear HI0;clear BK447;clear HK;clear HB;have HI0:=n0_;have BK447:=n1_;have HK:=n2_;have HB:=n3_;have BK448:=n4_;have GW448:=n5_;have GE448:=n6_;have NB447_448:=n7_;have NB448_447:=n8_;have NB0_448:=n9_;have NB448_0:=n10_;clear n0_ n1_ n2_ n3_ n4_ n5_ n6_ n7_ n8_ n9_ n10_;clear hb hbox hg;have hnb5:=NB448_447.out;have hnc5:=NB447_448.out;have hnb6:=NB448_0.out;have hnc6:=NB0_448.out;have hcz7_0 : w4.cell? ⟨gb448,0,none⟩ = some (.int .i64 0):=(blk_cell BK448.out 0).trans rfl;have hcz7_1 : w4.cell? ⟨gb448,1,none⟩ = some (.slice none 0 0):=(blk_cell BK448.out 1).trans rfl;have hfz7_0:=blk_frozen BK448.out 0;have hfz7_1:=blk_frozen BK448.out 1))
 go_loopg [11] k (fun kq v11 w' => ∃ (x11_1 : Int) (x1001_1 : Int) (x449001_1 : List Int) (u449001 : Value),v11 = .int .i64 x11_1 ∧ Aside0 (spec_l6Draw.l0 kq (wrap64 (a1 * a1)) x11_1 s0_0 x1001_1 a1 x449001_1 = some (r1,r2,r3)) ∧ Aside0 (kq ≤ k) ∧ Aside0 (Kd.R (Kd.int .i64) 3 w' w.heap.size (fun _ => True) u449001 x449001_1) ∧ Aside0 (w'.heap[gb447]? = some (.cells #[.int .i64 0,(.slice none 0 0)] 28 (0,0))) ∧ Aside0 (w'.heap[gb448]? = some (.cells #[.int .i64 a1,u449001] 28 (0,0))) ∧ Aside0 (IsS90 w0 w' g s0_0 x1001_1) ∧ Aside0 (KeepBut w w' g none) ∧ Aside0 (Below w0.heap.size w0 w'))
 case atStart => exact ⟨(0),(s0_1),(([] : List Int)),(.slice none 0 0),(by first|rfl|(simp;done)|(simp [*];done)),H',⟨Nat.le_refl _⟩,⟨by first|exact Kd.R_nil _ _ _ _ _|exact Kd.N_nil _ _ _ _ _|exact Kd.V_nil _ _ _ _ _|exact Kd.Q_nil _ _ _ _ _|exact Kd.S_nil _ _ _ _ _⟩,⟨by refine pe_ ?_;refine blk_far ?_ NB447_448.out _;refine pe_ ?_;refine blk_far ?_ NB447_448.out _;refine pe_ ?_;exact BK447.out⟩,⟨by refine pe_ ?_;refine blk_put (cs:=#[.int .i64 a1,.slice none 0 0]) ?_ 1 _ rfl;refine pe_ ?_;refine blk_put (cs:=#[.int .i64 0,.slice none 0 0]) ?_ 0 _ rfl;refine pe_ ?_;exact BK448.out⟩,⟨by repeat (first|(with_reducible first|exact HI0.out|apply IsS90.alloc|apply IsS90.drewN|apply IsS90.drew|apply IsS90.set_1|refine IsS90.far ?_ NB0_447.out _|refine IsS90.far ?_ NB0_448.out _)|exact HI0.out)⟩,⟨ke2_ HK.out GW447.out GW448.out⟩,⟨by repeat (first|(with_reducible first|exact HB.out|apply below_alloc|apply pw_below_drewN|apply below_drew1|refine below_set ?_ (IsS90.ge HI0.out)|refine below_set ?_ GE447.out|refine below_set ?_ GE448.out)|exact HB.out)⟩⟩
 case round =>
  clear H'
  try clear p2
  try clear c5
  try clear c6
  try clear p6
  try clear c7
  try clear hcz7_0
  try clear hcz7_1
  try clear hfz7_0
  try clear hfz7_1
  obtain ⟨x11_1,x1001_1,x449001_1,u449001,rfl,HA,HK1,HO_449001,BK447,BK448,HI0,HK,HB⟩:=hrel
  cases gk with
  | zero => exact absurd HA.out (by simp [spec_l6Draw.l0])
  | succ k1 =>
   have H:=HA.out
   clear HA
   simp only [spec_l6Draw.l0] at H
   by_cases c8 : x11_1 < (wrap64 (a1 * a1))
   ·rw [if_pos c8] at H
    have c8b0 : decide (x11_1 < (wrap64 (a1 * a1))) = true:=decide_eq_true c8
    clear c8
    obtain ⟨y449,hy449⟩ : ∃ y_ : List Int,y_ = (([3,0,1,3,2,1,0] : List Int)):=⟨_,rfl⟩
    replace H : ((spec_l13Rd_num.f k1 s0_0 x1001_1 y449).bind fun bt452 => (if x449001_1.length < 17592186044416 then (spec_l6Draw.l0 k1 (wrap64 (a1 * a1)) (wrap64 (x11_1 + 1)) s0_0 bt452.2 a1 (x449001_1 ++ [bt452.1])) else (none))) = some (r1,r2,r3):=by first|(rw [hy449];with_reducible exact H)|(have H2_:=(Option.bind_some _ _).symm.trans H;rw [hy449];with_reducible exact H2_)|(have H2_:=(Option.bind_some _ _).symm.trans H;with_reducible exact H2_)|with_reducible exact H|(rw [hy449];exact H)|exact H
    have Ny449:=Aside0.mk hy449
    clear hy449
    replace H:=Option.bind_eq_some_iff.mp H
    obtain ⟨⟨t452,t453⟩,A90,H⟩:=H
    replace H : (if x449001_1.length < 17592186044416 then (spec_l6Draw.l0 k1 (wrap64 (a1 * a1)) (wrap64 (x11_1 + 1)) s0_0 t453 a1 (x449001_1 ++ [t452])) else (none)) = some (r1,r2,r3):=H
    have A9:=Aside0.mk A90
    clear A90
    by_cases c10 : x449001_1.length < 17592186044416
    ·rw [if_pos c10] at H
     have LMc10:=Aside0.mk c10
     clear c10
     obtain ⟨y454,hy454⟩ : ∃ y_ : List Int,y_ = (x449001_1 ++ [t452]):=⟨_,rfl⟩
     replace H : (spec_l6Draw.l0 k1 (wrap64 (a1 * a1)) (wrap64 (x11_1 + 1)) s0_0 t453 a1 y454) = some (r1,r2,r3):=by first|(rw [hy454];with_reducible exact H)|(have H2_:=(Option.bind_some _ _).symm.trans H;rw [hy454];with_reducible exact H2_)|(have H2_:=(Option.bind_some _ _).symm.trans H;with_reducible exact H2_)|with_reducible exact H|(rw [hy454];exact H)|exact H
     have Ny454:=Aside0.mk hy454
     clear hy454
     have H':=Aside0.mk H
     clear H
     try go_wp2
     have n0_:=Aside0.mk (Kd.R_drew HO_449001.out)
     have n1_:=Aside0.mk (blk_drew BK447.out)
     have n2_:=Aside0.mk (blk_drew BK448.out)
     have n3_:=Aside0.mk (IsS90.drew HI0.out)
     have n4_:=Aside0.mk (keep_drew HK.out)
     have n5_:=Aside0.mk (below_drew1 HB.out)
     clear HO_449001
     clear BK447
     clear BK448
     clear HI0
     clear HK
     clear HB
     have HO_449001:=n0_
     have BK447:=n1_
     have BK448:=n2_
     have HI0:=n3_
     have HK:=n4_
     have HB:=n5_
     clear n0_ n1_ n2_ n3_ n4_ n5_
     refine start_ (n:=9) (S:=fun w' => w'.cell? ⟨gb448,0,none⟩ = some (.int .i64 a1) ∧ w'.cell? ⟨gb448,1,none⟩ = some (u449001)) (ds:=[8]) #[false,false,false,false,false,false,false,false,false] (by kernel_rfl) rfl rfl ⟨(blk_cell BK448.out 0).trans rfl,(blk_cell BK448.out 1).trans rfl⟩ (fun hHeld => ?_);refine with_tabW spec_l6Draw.tab4 spec_l6Draw.bits4 (fun HT_ HW_ => ?_)
     generalize wr.drew = w11 at HO_449001 BK447 BK448 HI0 HK HB hHeld ⊢
     refine pure_ (i:=0) (N:=some 13) (v:=?_) (a':=?_) #[true,false,false,false,false,false,false,false,false] rfl rfl (any_of HT_.out (by kernel_rfl)) (fun _ _ _ h => h) (Or.inl ⟨by rfl,?_⟩) ?_ ?_
     rotate_left
     ·intro w'
      go_simp
      with_reducible rfl
     rotate_left
     ·simp only [Act.put,List.setIfInBounds_toArray,List.set_cons_zero,List.set_cons_succ,i64_w,i32_w]
      rfl
     refine pure_ (i:=2) (N:=some 15) (v:=?_) (a':=?_) #[true,false,true,false,false,false,false,false,false] rfl rfl (any_of HT_.out (by kernel_rfl)) (fun _ _ _ h => h) (Or.inl ⟨by rfl,?_⟩) ?_ ?_
     rotate_left
     ·intro w'
      go_simp
      with_reducible rfl
     rotate_left
     ·simp only [Act.put,List.setIfInBounds_toArray,List.set_cons_zero,List.set_cons_succ,i64_w,i32_w]
      rfl
     refine take_ (i:=1) (N:=some 14) (v:=?_) (a':=?_) #[true,true,true,false,false,false,false,false,false] rfl rfl (take_ofW HT_.out HW_.out (by kernel_rfl)) (fun _ _ _ h => h) (Or.inl ⟨by rfl,?_⟩) hHeld ?_ ?_
     rotate_left
     ·rintro w' ⟨s0,s1⟩
      go_simp
      with_reducible rfl
     rotate_left
     ·simp only [Act.put,List.setIfInBounds_toArray,List.set_cons_zero,List.set_cons_succ,i64_w,i32_w]
      rfl
     refine one_ (i:=3) (N:=some 16) #[true,true,true,true,false,false,false,false,false] rfl rfl (one_of HT_.out (by kernel_rfl)) (by decide) (fun K hK => ?_)
     refine Kd.R_lit_step (Kd.int .i64) _ 3 ?hg (N:=16) ?hd (xs:=([3,0,1,3,2,1,0] : List Int)) (inner:=[.int .i64 3,.int .i64 0,.int .i64 1,.int .i64 3,.int .i64 2,.int .i64 1,.int .i64 0]) (ok:=fun _ => True) (okp:=fun _ => True) ?hr ?hp (fun _ hk => hk) trivial (Below.refl _ _) (Nat.le_refl _) (by simp) ?_;(case hd => rfl);(case hg => rfl);(case hr => first|(go_simp;done)|(go_simp;rfl));(case hp => exact (Reps.one (show Kd.M (Kd.int .i64) _ _ _ 3 [.int .i64 3] from rfl) (Reps.one (show Kd.M (Kd.int .i64) _ _ _ 0 [.int .i64 0] from rfl) (Reps.one (show Kd.M (Kd.int .i64) _ _ _ 1 [.int .i64 1] from rfl) (Reps.one (show Kd.M (Kd.int .i64) _ _ _ 3 [.int .i64 3] from rfl) (Reps.one (show Kd.M (Kd.int .i64) _ _ _ 2 [.int .i64 2] from rfl) (Reps.one (show Kd.M (Kd.int .i64) _ _ _ 1 [.int .i64 1] from rfl) (Reps.one (show Kd.M (Kd.int .i64) _ _ _ 0 [.int .i64 0] from rfl) (Reps.none _ _)))))))))
     intro v450 w12 ho13 hb hg_ hnew_
     clear hg_ hnew_
     (first|rw [← Ny449.out] at ho13|(simp only [Int.reduceToNat] at ho13;rw [← Ny449.out] at ho13))
     have n0_:=Aside0.mk (Kd.R_elder' (pr_ HO_449001.out) (Kd.R_base ho13) hb)
     have n1_:=Aside0.mk (Kd.R_lower (Kd.R_new' ho13 (Kd.R_lt (pr_ HO_449001.out))) (keep_size (w:=w) (g:=g) (row:=none) (ke2_ HK.out GW447.out GW448.out)))
     have n2_:=Aside0.mk (blk_below (g:=gb447) (o:=.cells #[.int .i64 0,.slice none 0 0] 28 (0,0)) (pe_ BK447.out) hb)
     have n3_:=Aside0.mk (blk_below (g:=gb448) (o:=.cells #[.int .i64 a1,u449001] 28 (0,0)) (pe_ BK448.out) hb)
     have n4_:=Aside0.mk (IsS90.below (by repeat (first|(with_reducible first|exact HI0.out|apply IsS90.alloc|apply IsS90.drewN|apply IsS90.drew|apply IsS90.set_1|refine IsS90.far ?_ NB0_447.out _|refine IsS90.far ?_ NB0_448.out _)|exact HI0.out)) hb)
     have n5_:=Aside0.mk (KeepBut.trans (ke2_ HK.out GW447.out GW448.out) (KeepBut.of_below hb g none) (.inl rfl))
     have n6_:=Aside0.mk (below_step (by repeat (first|(with_reducible first|exact HB.out|apply below_alloc|apply pw_below_drewN|apply below_drew1|refine below_set ?_ (IsS90.ge HI0.out)|refine below_set ?_ GE447.out|refine below_set ?_ GE448.out)|exact HB.out)) hb)
     clear HO_449001
     clear BK447
     clear BK448
     clear HI0
     clear HK
     clear HB
     have HO_449001:=n0_
     have HO451:=n1_
     have BK447:=n2_
     have BK448:=n3_
     have HI0:=n4_
     have HK:=n5_
     have HB:=n6_
     clear n0_ n1_ n2_ n3_ n4_ n5_ n6_
     clear hb ho13
     obtain ⟨Ao14,co14,eo14⟩:=Kd.R_slice HO451.out
     (first|subst eo14|(injection eo14 with f1_ f2_ f3_;have f4_:=f1_.symm;have f5_:=f3_.symm;clear f1_ f2_ f3_;subst f4_;subst f5_))
     refine hK.out _ _ ⟨(blk_cell BK448.out 0).trans rfl,(blk_cell BK448.out 1).trans rfl⟩ (fun hHeld => ?_)
     clear hK K
     refine norm_ (a':=?_) ?_ ?_
     rotate_left
     ·show Act.put _ (some 16) _ = _
      simp only [Act.put,List.setIfInBounds_toArray,List.set_cons_zero,List.set_cons_succ,i64_w,i32_w]
      rfl
     refine one_ (i:=4) (N:=some 17) #[true,true,true,true,true,false,false,false,false] rfl rfl (one_of HT_.out (by kernel_rfl)) (by decide) (fun K hK => ?_)
     refine goes_ Try.func88 (by kernel_rfl) rfl #[.pointer (some ⟨g,0,none⟩),.slice Ao14 y449.length co14] (by rfl) rfl rfl lp_ ?_
     with_reducible refine (spec_l13Rd_num.calls k1 g s0_0 x1001_1 _ _ y449 t452 t453 w0 _ ?side1 ?side2 ?side3 ?side4 ?side5 A9.out).mono ?_
     (case side1 => repeat (first|(with_reducible first|exact HI0.out|apply IsS90.alloc|apply IsS90.drewN|apply IsS90.drew|apply IsS90.set_1|refine IsS90.far ?_ NB0_447.out _|refine IsS90.far ?_ NB0_448.out _)|exact HI0.out))
     (case side2 => repeat (first|(with_reducible first|exact HB.out|apply below_alloc|apply pw_below_drewN|apply below_drew1|refine below_set ?_ (IsS90.ge HI0.out)|refine below_set ?_ GE447.out|refine below_set ?_ GE448.out)|exact HB.out))
     (case side3 => repeat (first|exact (Kd.R_reads' HO451.out).2.2|(with_reducible refine Kd.C_alloc ?_ _)|(with_reducible refine Kd.C_drewN ?_ _)|(with_reducible refine Kd.C_drew ?_)))
     (case side4 => exact (Kd.R_reads' HO451.out).2.1)
     (case side5 => exact far_slice (IsS90.own_ne HI0.out HO451.out (by decide)))
     rintro e w15 ⟨rfl,hi,hb,hk⟩
     refine ⟨_,rfl,?_⟩
     have n0_:=Aside0.mk (Kd.R_mono (Kd.R_keep (IsS90.apart (show IsS90 w0 _ g s0_0 x1001_1 from by repeat (first|(with_reducible first|exact HI0.out|apply IsS90.alloc|apply IsS90.drewN|apply IsS90.drew|apply IsS90.set_1|refine IsS90.far ?_ NB0_447.out _|refine IsS90.far ?_ NB0_448.out _)|exact HI0.out)) (pr_ HO_449001.out) (by decide)) hk (fun _ h => h.2)) (fun _ h => h.1))
     have n1_:=Aside0.mk (KeepBut.blk hk (g':=gb447) (o:=.cells #[.int .i64 0,.slice none 0 0] 28 (0,0)) (pe_ BK447.out) NB447_0.out (by simp))
     have n2_:=Aside0.mk (KeepBut.blk hk (g':=gb448) (o:=.cells #[.int .i64 a1,u449001] 28 (0,0)) (pe_ BK448.out) NB448_0.out (by simp))
     have n3_:=Aside0.mk (Kd.R_mono (Kd.R_keep (IsS90.apart (show IsS90 w0 _ g s0_0 x1001_1 from by repeat (first|(with_reducible first|exact HI0.out|apply IsS90.alloc|apply IsS90.drewN|apply IsS90.drew|apply IsS90.set_1|refine IsS90.far ?_ NB0_447.out _|refine IsS90.far ?_ NB0_448.out _)|exact HI0.out)) (pr_ HO451.out) (by decide)) hk (fun _ h => h.2)) (fun _ h => h.1))
     have n4_:=Aside0.mk (KeepBut.trans (ke2_ HK.out GW447.out GW448.out) hk (.inl rfl))
     have n5_:=Aside0.mk (hb)
     have n6_:=Aside0.mk (hi)
     clear HO_449001
     clear BK447
     clear BK448
     clear HO451
     clear HK
     clear HB
     clear HI0
     have HO_449001:=n0_
     have BK447:=n1_
     have BK448:=n2_
     have HO451:=n3_
     have HK:=n4_
     have HB:=n5_
     have HI0:=n6_
     clear n0_ n1_ n2_ n3_ n4_ n5_ n6_
     (try clear hb)
     (try clear hb2)
     (try clear hk)
     (try clear hi)
     refine hK.out _ _ ⟨(blk_cell BK448.out 0).trans rfl,(blk_cell BK448.out 1).trans rfl⟩ (fun hHeld => ?_)
     clear hK K
     refine norm_ (a':=?_) ?_ ?_
     rotate_left
     ·show Act.put _ (some 17) _ = _
      simp only [Act.put,List.setIfInBounds_toArray,List.set_cons_zero,List.set_cons_succ,i64_w,i32_w]
      rfl
     refine one_ (i:=5) (N:=some 18) #[true,true,true,true,true,true,false,false,false] rfl rfl (one_of HT_.out (by kernel_rfl)) (by decide) (fun K hK => ?_)
     refine value_ (w1:=?_) (v:=?_) (by rfl) rfl ?_ ?_
     rotate_left 2
     ·go_simp
      constructor
      ·rfl
      ·rfl
     refine hK.out _ _ ⟨(blk_cell (blk_alloc BK448.out _) 0).trans rfl,(blk_cell (blk_alloc BK448.out _) 1).trans rfl⟩ (fun hHeld => ?_)
     clear hK K
     refine norm_ (a':=?_) ?_ ?_
     rotate_left
     ·show Act.put _ (some 18) _ = _
      simp only [Act.put,List.setIfInBounds_toArray,List.set_cons_zero,List.set_cons_succ,i64_w,i32_w]
      rfl
     refine one_ (i:=6) (N:=some 19) #[true,true,true,true,true,true,true,false,false] rfl rfl (one_of HT_.out (by kernel_rfl)) (by decide) (fun K hK => ?_)
     refine Kd.R_append_step (Kd.int .i64) w.heap.size (by rfl) (.tmp 14) (.tmp 18) 24 3 (.int .i64 0) 8 rfl Try.underlying24 info3 rfl (by decide) (by omega) u449001 x449001_1 t452 [.int .i64 t452] (fun k_ => some k_ ≠ (.slice Ao14 y449.length co14 : Value).ownBlock) (fun _ => False) rfl rfl ?aP (fun _ hk => hk.elim) ?aF ?aO (Below.refl _ _) ?aS ?aL ?_
     (case aP => exact rfl)
     (case aF => exact (fun k_ hk => Kd.fresh' (Kd.R_lt (pr_ HO451.out)) k_ hk))
     (case aO => exact (by refine pr_ ?_;exact Kd.R_mono HO_449001.out (fun _ hk => hk.2)))
     (case aS => exact (keep_size (w:=w) (g:=g) (row:=none) (ke2_ HK.out GW447.out GW448.out)))
     (case aL => have:=LMc10.out;omega)
     intro v455 w16 ho hb hg hat
     rw [← Ny454.out] at ho
     have n0_:=Aside0.mk (blk_grown (g:=gb447) (o:=.cells #[.int .i64 0,.slice none 0 0] 28 (0,0)) (pe_ BK447.out) hg (Kd.R_ne HO_449001.out BK447.out (by decide)))
     have n1_:=Aside0.mk (blk_grown (g:=gb448) (o:=.cells #[.int .i64 a1,u449001] 28 (0,0)) (pe_ BK448.out) hg (Kd.R_ne HO_449001.out BK448.out (by decide)))
     have n2_:=Aside0.mk (IsS90.grown (by repeat (first|(with_reducible first|exact HI0.out|apply IsS90.alloc|apply IsS90.drewN|apply IsS90.drew|apply IsS90.set_1|refine IsS90.far ?_ NB0_447.out _|refine IsS90.far ?_ NB0_448.out _)|exact HI0.out)) hg (IsS90.own_ne HI0.out HO_449001.out (by decide)))
     have n3_:=Aside0.mk (Kd.R_after (ok:=(fun _ => True)) (pr_ HO451.out) hg hat)
     have n4_:=Aside0.mk (below_weaken (by repeat (first|(with_reducible first|exact HB.out|apply below_alloc|apply pw_below_drewN|apply below_drew1|refine below_set ?_ (IsS90.ge HI0.out)|refine below_set ?_ GE447.out|refine below_set ?_ GE448.out)|exact HB.out)) HL.out hb)
     have n5_:=Aside0.mk (KeepBut.trans (ke2_ HK.out GW447.out GW448.out) (KeepBut.of_grown hg g) (Kd.R_base2 HO_449001.out))
     have n6_:=Aside0.mk (ho)
     clear BK447
     clear BK448
     clear HI0
     clear HO451
     clear HB
     clear HK
     clear HO_449001
     have BK447:=n0_
     have BK448:=n1_
     have HI0:=n2_
     have HO451:=n3_
     have HB:=n4_
     have HK:=n5_
     have HO456:=n6_
     clear n0_ n1_ n2_ n3_ n4_ n5_ n6_
     clear ho hb hg hat
     obtain ⟨Ao17,co17,eo17⟩:=Kd.R_slice HO456.out
     (first|subst eo17|(injection eo17 with f1_ f2_ f3_;have f4_:=f1_.symm;have f5_:=f3_.symm;clear f1_ f2_ f3_;subst f4_;subst f5_))
     refine hK.out _ _ ⟨(blk_cell BK448.out 0).trans rfl,(blk_cell BK448.out 1).trans rfl⟩ (fun hHeld => ?_)
     clear hK K
     refine norm_ (a':=?_) ?_ ?_
     rotate_left
     ·show Act.put _ (some 19) _ = _
      simp only [Act.put,List.setIfInBounds_toArray,List.set_cons_zero,List.set_cons_succ,i64_w,i32_w]
      rfl
     refine pure_ (i:=7) (N:=some 20) (v:=?_) (a':=?_) #[true,true,true,true,true,true,true,true,false] rfl rfl (any_of HT_.out (by kernel_rfl)) (fun _ _ _ h => h) (Or.inl ⟨by rfl,?_⟩) ?_ ?_
     rotate_left
     ·intro w'
      go_simp
      with_reducible rfl
     rotate_left
     ·simp only [Act.put,List.setIfInBounds_toArray,List.set_cons_zero,List.set_cons_succ,i64_w,i32_w]
      rfl
     refine last_ (i:=8) (N:=none) #[true,true,true,true,true,true,true,true,true] rfl rfl (one_of HT_.out (by kernel_rfl)) (by decide) (fun K hK => ?_)
     have hs18 : w16.cell? ⟨gb448,1,none⟩ = some (u449001):=(blk_cell BK448.out 1).trans rfl
     have hfs18:=blk_frozen BK448.out 1
     have hns18_0:=NB447_448.out
     have hms18_0:=NB448_447.out
     refine skip_ (w1:=?_) (by rfl) rfl ?_ ?_
     rotate_left
     ·go_simp
      rfl
     refine hK.out _ _ ?_
     clear hK K
     refine done_ (done_of HT_.out (by kernel_rfl)) ?_
     try go_wp2
     go_roundg k1
     case measure => have:=HK1.out;omega
     case rel => exact ⟨(wrap64 (x11_1 + 1)),(t453),(y454),(.slice Ao17 y454.length co17),(by first|rfl|(simp;done)|(simp [*];done)),H',⟨by have:=HK1.out;omega⟩,⟨by refine pr_ ?_;exact Kd.R_mono (Kd.R_far (p:=⟨gb448,1,none⟩) (Kd.R_types HO456.out BK448.out (by decide)) (fun _ hk => hk.2) (.slice Ao17 y454.length co17)) (fun _ hk => trivial)⟩,⟨by refine pe_ ?_;refine blk_far ?_ NB447_448.out _;refine pe_ ?_;exact BK447.out⟩,⟨by refine pe_ ?_;refine blk_put (cs:=#[.int .i64 a1,u449001]) ?_ 1 _ rfl;refine pe_ ?_;exact BK448.out⟩,⟨by repeat (first|(with_reducible first|exact HI0.out|apply IsS90.alloc|apply IsS90.drewN|apply IsS90.drew|apply IsS90.set_1|refine IsS90.far ?_ NB0_447.out _|refine IsS90.far ?_ NB0_448.out _)|exact HI0.out)⟩,⟨ke2_ HK.out GW447.out GW448.out⟩,⟨by repeat (first|(with_reducible first|exact HB.out|apply below_alloc|apply pw_below_drewN|apply below_drew1|refine below_set ?_ (IsS90.ge HI0.out)|refine below_set ?_ GE447.out|refine below_set ?_ GE448.out)|exact HB.out)⟩⟩
    ·rw [if_neg c10] at H
     exact absurd H (by simp)
   ·rw [if_neg c8] at H
    have c8b0 : decide (x11_1 < (wrap64 (a1 * a1))) = false:=decide_eq_false c8
    clear c8
    simp only [Option.some.injEq,Prod.mk.injEq] at H
    obtain ⟨rfl,rfl,rfl⟩:=H
    have hnb19:=NB448_447.out
    have hnc19:=NB447_448.out
    have hnb20:=NB448_0.out
    have hnc20:=NB0_448.out
    have hcz21_0 : wr.cell? ⟨gb448,0,none⟩ = some (.int .i64 a1):=(blk_cell BK448.out 0).trans rfl
    have hcz21_1 : wr.cell? ⟨gb448,1,none⟩ = some (u449001):=(blk_cell BK448.out 1).trans rfl
    have hfz21_0:=blk_frozen BK448.out 0
    have hfz21_1:=blk_frozen BK448.out 1
    have hnb22:=NB447_0.out
    have hnc22:=NB0_447.out
    have hcz23_0 : wr.cell? ⟨gb447,0,none⟩ = some (.int .i64 0):=(blk_cell BK447.out 0).trans rfl
    have hcz23_1 : wr.cell? ⟨gb447,1,none⟩ = some (.slice none 0 0):=(blk_cell BK447.out 1).trans rfl
    have hfz23_0:=blk_frozen BK447.out 0
    have hfz23_1:=blk_frozen BK447.out 1
    obtain ⟨Ao24,co24,eo24⟩:=Kd.R_slice HO_449001.out
    subst eo24
    go_wp2
    refine bodyPost_ret (results_cell_row rfl _ _ gb447 28 #[.int .i64 a1,.slice Ao24 x449001_1.length co24] (0,0) _ rfl (by refine pe_ ?_;refine blk_put (cs:=#[.int .i64 a1,.slice none 0 0]) ?_ 1 _ rfl;refine pe_ ?_;refine blk_put (cs:=#[.int .i64 0,.slice none 0 0]) ?_ 0 _ rfl;refine pe_ ?_;exact BK447.out) Try.underlying28 rfl (by kernel_rfl)) rfl ?_
    exact ⟨_,by first|rfl|(simp [errW_none,errW_some] <;> rfl)|(simp [*,errW_none,errW_some] <;> rfl),by refine pr_ ?_;exact Kd.R_mono (Kd.R_far (p:=⟨gb447,1,none⟩) (Kd.R_far (p:=⟨gb447,0,none⟩) (Kd.R_types HO_449001.out BK447.out (by decide)) (fun _ hk => hk.2) (.int .i64 a1)) (fun _ hk => hk.2) (.slice Ao24 x449001_1.length co24)) (fun _ hk => trivial),by repeat (first|(with_reducible first|exact HI0.out|apply IsS90.alloc|apply IsS90.drewN|apply IsS90.drew|apply IsS90.set_1|refine IsS90.far ?_ NB0_447.out _|refine IsS90.far ?_ NB0_448.out _)|exact HI0.out),by repeat (first|(with_reducible first|exact HB.out|apply below_alloc|apply pw_below_drewN|apply below_drew1|refine below_set ?_ (IsS90.ge HI0.out)|refine below_set ?_ GE447.out|refine below_set ?_ GE448.out)|exact HB.out),ke2_ HK.out GW447.out GW448.out⟩
end Go.Proofs.Ytengegdaiphfeaa.X
end
section
namespace Go.Proofs.Ytengegdaiphfeaa.X
open Go.RowKit Go.Proofs.YtengegdaiphfeaaW.PrintWords Go.Proofs.YtengegdaiphfeaaW.PrintLast Go.Proofs.YtengegdaiphfeaaW.PrintMore
attribute [local go_sem] max2_int min2_int max_two min_two max_three min_three max_four min_four
set_option linter.unusedVariables false
set_option linter.unusedSimpArgs false
def spec_l6Some.f (k : Nat) (s0_0 : List Int) (s0_1 : Int) : Option (Int × List Int × Int):=(spec_l13Rd_pick.f k s0_0 s0_1 4).bind fun bt458 => ((spec_l6Draw.f k s0_0 bt458.2 (wrap64 (1 + bt458.1))).bind fun bt460 => ((spec_l6Bad.f k s0_0 bt460.2.2 bt460.1 bt460.2.1).bind fun bt465 => (some (bt465.1,bt465.2.1,bt465.2.2))))
theorem spec_l6Some.mono : ∀ a0 a1 k,LeO (spec_l6Some.f k a0 a1) (spec_l6Some.f (k + 1) a0 a1):=by
 intro a0 a1 k
 unfold spec_l6Some.f
 repeat' first
   | (with_reducible exact spec_l13Rd_pick.mono _ _ _ _)
   | (with_reducible exact spec_l6Bad.mono _ _ _ _ _)
   | (with_reducible exact spec_l6Draw.mono _ _ _ _)
   | (with_reducible exact LeO.refl _)
   | (with_reducible exact LeO.none _)
   | (with_reducible refine LeO.ite ?_ ?_)
   | (with_reducible refine LeO.bind ?_ (fun _ => ?_))
   | exact spec_l13Rd_pick.mono _ _ _ _
   | exact spec_l6Bad.mono _ _ _ _ _
   | exact spec_l6Draw.mono _ _ _ _
   | exact LeO.none _
   | refine LeO.ite ?_ ?_
   | refine LeO.bind ?_ (fun _ => ?_)
set_option maxHeartbeats 8000000 in
set_option maxRecDepth 100000 in
theorem spec_l6Some.calls (k : Nat) (g : Nat) (s0_0 : List Int) (s0_1 : Int) (r1 : Int) (r2 : List Int) (r3 : Int) (w0 w : World) (hI : IsS90 w0 w g s0_0 s0_1) (hB : Below w0.heap.size w0 w) (h : spec_l6Some.f k s0_0 s0_1 = some (r1,r2,r3)) :
  Calls Try.prog 70 #[.pointer (some ⟨g,0,none⟩)] w fun e w' => ∃ v1_ : Value,e = .returned (.agg #[.int .i64 r1,v1_]) ∧ Kd.V (Kd.int .i64) 3 w' w.heap.size (fun k_ => (w.heap.size ≤ k_)) v1_ r2 ∧ IsS90 w0 w' g s0_0 r3 ∧ Below w0.heap.size w0 w' ∧ KeepBut w w' g none:=by
 have hu28:=Try.underlying28
 have HI0:=Aside0.mk hI
 have HK:=Aside0.mk (KeepBut.refl w g none)
 have HL:=Aside0.mk hB.size
 clear hI
 have HW0:=Aside0.mk hB.size
 have HB:=Aside0.mk hB
 clear hB
 have H : ((spec_l13Rd_pick.f k s0_0 s0_1 4).bind fun bt458 => ((spec_l6Draw.f k s0_0 bt458.2 (wrap64 (1 + bt458.1))).bind fun bt460 => ((spec_l6Bad.f k s0_0 bt460.2.2 bt460.1 bt460.2.1).bind fun bt465 => (some (bt465.1,bt465.2.1,bt465.2.2))))) = some (r1,r2,r3):=h
 clear h
 replace H:=Option.bind_eq_some_iff.mp H
 obtain ⟨⟨t458,t459⟩,A20,H⟩:=H
 replace H : ((spec_l6Draw.f k s0_0 t459 (wrap64 (1 + t458))).bind fun bt460 => ((spec_l6Bad.f k s0_0 bt460.2.2 bt460.1 bt460.2.1).bind fun bt465 => (some (bt465.1,bt465.2.1,bt465.2.2)))) = some (r1,r2,r3):=H
 have A2:=Aside0.mk A20
 clear A20
 replace H:=Option.bind_eq_some_iff.mp H
 obtain ⟨⟨t460,t461,t464⟩,A30,H⟩:=H
 replace H : ((spec_l6Bad.f k s0_0 t464 t460 t461).bind fun bt465 => (some (bt465.1,bt465.2.1,bt465.2.2))) = some (r1,r2,r3):=H
 have A3:=Aside0.mk A30
 clear A30
 replace H:=Option.bind_eq_some_iff.mp H
 obtain ⟨⟨t465,t466,t469⟩,A40,H⟩:=H
 replace H : (some (t465,t466,t469)) = some (r1,r2,r3):=H
 have A4:=Aside0.mk A40
 clear A40
 simp only [Option.some.injEq,Prod.mk.injEq] at H
 obtain ⟨rfl,rfl,rfl⟩:=H
 go_enter Try.func70,Try.ntmps70
 go_wp2_with (first|((with_reducible refine gate_dst (N:=2) rfl ?_);refine box_event ?hg (N:=2) ?hd (cs:=#[.int .i64 0,.slice none 0 0]) (t:=28) ?hr ?_;(case hd => rfl);(case hg => rfl);(case hr => first|(go_simp;done)|(go_simp;rfl));intro gb457 hg w5 hbox hb;have n0_:=Aside0.mk (IsS90.below (by repeat (first|(with_reducible first|exact HI0.out|apply IsS90.alloc|apply IsS90.drewN|apply IsS90.drew|apply IsS90.set_1)|exact HI0.out)) hb);have n1_:=Aside0.mk (KeepBut.trans (ke0_ HK.out) (KeepBut.of_below hb g none) (.inl rfl));have n2_:=Aside0.mk (below_step (by repeat (first|(with_reducible first|exact HB.out|apply below_alloc|apply pw_below_drewN|apply below_drew1|refine below_set ?_ (IsS90.ge HI0.out))|exact HB.out)) hb);have n3_:=Aside0.mk (hbox);have n4_:=Aside0.mk ((by rw [hg];exact (keep_size (w:=w) (g:=g) (row:=none) (ke0_ HK.out)) : w.heap.size ≤ gb457));have n5_:=Aside0.mk ((Nat.le_trans HW0.out (by rw [hg];exact (keep_size (w:=w) (g:=g) (row:=none) (ke0_ HK.out)) : w.heap.size ≤ gb457) : w0.heap.size ≤ gb457));have n6_:=Aside0.mk ((by rw [hg];exact Nat.ne_of_lt (IsS90.lt (show IsS90 w0 _ g s0_0 s0_1 from by repeat (first|(with_reducible first|exact HI0.out|apply IsS90.alloc|apply IsS90.drewN|apply IsS90.drew|apply IsS90.set_1)|exact HI0.out))) : g ≠ gb457));have n7_:=Aside0.mk ((by rw [hg];exact Nat.ne_of_gt (IsS90.lt (show IsS90 w0 _ g s0_0 s0_1 from by repeat (first|(with_reducible first|exact HI0.out|apply IsS90.alloc|apply IsS90.drewN|apply IsS90.drew|apply IsS90.set_1)|exact HI0.out))) : gb457 ≠ g));clear HI0;clear HK;clear HB;have HI0:=n0_;have HK:=n1_;have HB:=n2_;have BK457:=n3_;have GW457:=n4_;have GE457:=n5_;have NB0_457:=n6_;have NB457_0:=n7_;clear n0_ n1_ n2_ n3_ n4_ n5_ n6_ n7_;clear hb hbox hg)|((with_reducible refine gate_callee (f:=76) rfl ?_);refine goesL_ (some 6) rfl rfl Try.func76 (by kernel_rfl) rfl #[.pointer (some ⟨g,0,none⟩),.int .i64 4] rfl lp_ ?_;(with_reducible refine (spec_l13Rd_pick.calls k g s0_0 s0_1 4 t458 t459 w0 _ ?side1 ?side2 A2.out).mono ?_);(case side1 => repeat (first|(with_reducible first|exact HI0.out|apply IsS90.alloc|apply IsS90.drewN|apply IsS90.drew|apply IsS90.set_1|refine IsS90.far ?_ NB0_457.out _)|exact HI0.out));(case side2 => repeat (first|(with_reducible first|exact HB.out|apply below_alloc|apply pw_below_drewN|apply below_drew1|refine below_set ?_ (IsS90.ge HI0.out)|refine below_set ?_ GE457.out)|exact HB.out));rintro e w6 ⟨rfl,hi,hb,hk⟩;refine ⟨_,rfl,?_⟩;have n0_:=Aside0.mk (KeepBut.blk hk (g':=gb457) (o:=.cells #[.int .i64 0,.slice none 0 0] 28 (0,0)) (pe_ BK457.out) NB457_0.out (by simp));have n1_:=Aside0.mk (KeepBut.trans (ke1_ HK.out GW457.out) hk (.inl rfl));have n2_:=Aside0.mk (hb);have n3_:=Aside0.mk (hi);clear BK457;clear HK;clear HB;clear HI0;have BK457:=n0_;have HK:=n1_;have HB:=n2_;have HI0:=n3_;clear n0_ n1_ n2_ n3_;(try clear hb);(try clear hb2);(try clear hk);(try clear hi))|((with_reducible refine gate_callee (f:=78) rfl ?_);refine goesL_ (some 8) rfl rfl Try.func78 (by kernel_rfl) rfl #[.pointer (some ⟨g,0,none⟩),.int .i64 (wrap64 (1 + t458))] rfl lp_ ?_;(with_reducible refine (spec_l6Draw.calls k g s0_0 t459 (wrap64 (1 + t458)) t460 t461 t464 w0 _ ?side1 ?side2 A3.out).mono ?_);(case side1 => repeat (first|(with_reducible first|exact HI0.out|apply IsS90.alloc|apply IsS90.drewN|apply IsS90.drew|apply IsS90.set_1|refine IsS90.far ?_ NB0_457.out _)|exact HI0.out));(case side2 => repeat (first|(with_reducible first|exact HB.out|apply below_alloc|apply pw_below_drewN|apply below_drew1|refine below_set ?_ (IsS90.ge HI0.out)|refine below_set ?_ GE457.out)|exact HB.out));rintro e w7 ⟨v462,rfl,ho0,hi,hb,hk⟩;refine ⟨_,rfl,?_⟩;have n0_:=Aside0.mk (KeepBut.blk hk (g':=gb457) (o:=.cells #[.int .i64 0,.slice none 0 0] 28 (0,0)) (pe_ BK457.out) NB457_0.out (by simp));have n1_:=Aside0.mk (Kd.R_lower (Kd.R_newM (M:=fun k_ => (w.heap.size ≤ k_)) ho0 (keep_size (w:=w) (g:=g) (row:=none) (ke1_ HK.out GW457.out)) (fun k_ h_ => h_)) (keep_size (w:=w) (g:=g) (row:=none) (ke1_ HK.out GW457.out)));have n2_:=Aside0.mk (KeepBut.trans (ke1_ HK.out GW457.out) hk (.inl rfl));have n3_:=Aside0.mk (hb);have n4_:=Aside0.mk (hi);clear BK457;clear HK;clear HB;clear HI0;have BK457:=n0_;have HO463:=n1_;have HK:=n2_;have HB:=n3_;have HI0:=n4_;clear n0_ n1_ n2_ n3_ n4_;(try clear hb);(try clear hb2);(try clear hk);(try clear hi);(try clear ho0);obtain ⟨Ao8,co8,eo8⟩:=Kd.R_slice HO463.out;subst eo8)|((with_reducible refine gate_callee (f:=77) rfl ?_);refine goesL_ (some 9) rfl rfl Try.func77 (by kernel_rfl) rfl #[.pointer (some ⟨g,0,none⟩),.agg #[.int .i64 t460,.slice Ao8 t461.length co8]] rfl lp_ ?_;(with_reducible refine (spec_l6Bad.calls k g s0_0 t464 t460 (fun k_ => some k_ = (.slice Ao8 t461.length co8 : Value).ownBlock) _ _ t461 t465 t466 t469 w0 _ ?side1 ?side2 ?side3 A4.out).mono ?_);(case side1 => repeat (first|(with_reducible first|exact HI0.out|apply IsS90.alloc|apply IsS90.drewN|apply IsS90.drew|apply IsS90.set_1|refine IsS90.far ?_ NB0_457.out _)|exact HI0.out));(case side2 => repeat (first|(with_reducible first|exact HB.out|apply below_alloc|apply pw_below_drewN|apply below_drew1|refine below_set ?_ (IsS90.ge HI0.out)|refine below_set ?_ GE457.out)|exact HB.out));(case side3 => exact Kd.V_mono (Kd.R_V (Kd.R_tight rfl (IsS90.apart HI0.out (Kd.R_types (HO463.out) BK457.out (by decide)) (by decide)))) (fun k_ hk_ => ⟨hk_,((IsS90.apart HI0.out (Kd.R_types (HO463.out) BK457.out (by decide)) (by decide)).1 k_ hk_.symm).2⟩));rintro e w9 ⟨v467,rfl,ho0,hi,hb,hk⟩;refine ⟨_,rfl,?_⟩;have n0_:=Aside0.mk (KeepBut.blk hk (g':=gb457) (o:=.cells #[.int .i64 0,.slice none 0 0] 28 (0,0)) (pe_ BK457.out) NB457_0.out (by simp));have n1_:=Aside0.mk (Kd.R_mono (Kd.R_keep (IsS90.apart (show IsS90 w0 _ g s0_0 t464 from by repeat (first|(with_reducible first|exact HI0.out|apply IsS90.alloc|apply IsS90.drewN|apply IsS90.drew|apply IsS90.set_1|refine IsS90.far ?_ NB0_457.out _)|exact HI0.out)) (pr_ HO463.out) (by decide)) hk (fun _ h => h.2)) (fun _ h => h.1));have n2_:=Aside0.mk (Kd.V_lower (Kd.V_mono (ok':=fun k_ => (w.heap.size ≤ k_) ∧ k_ ≠ gb457 ∧ k_ ≠ g) ho0 (fun k_ hk_ => ⟨Or.elim hk_ (fun hs_ => ((IsS90.apart HI0.out (Kd.R_types (HO463.out) BK457.out (by decide)) (by decide)).1 k_ hs_.symm).1.1.1) (fun hn_ => (Nat.le_trans (keep_size (w:=w) (g:=g) (row:=none) (ke1_ HK.out GW457.out)) hn_)),Or.elim hk_ (fun hs_ => ((IsS90.apart HI0.out (Kd.R_types (HO463.out) BK457.out (by decide)) (by decide)).1 k_ hs_.symm).1.2) (fun hn_ => (Kd.freshB (g:=gb457) (o:=.cells #[.int .i64 0,.slice none 0 0] 28 (0,0)) (pe_ BK457.out) k_ hn_)),Or.elim hk_ (fun hs_ => ((IsS90.apart HI0.out (Kd.R_types (HO463.out) BK457.out (by decide)) (by decide)).1 k_ hs_.symm).2) (fun hn_ => (IsS90.fresh (by repeat (first|(with_reducible first|exact HI0.out|apply IsS90.alloc|apply IsS90.drewN|apply IsS90.drew|apply IsS90.set_1|refine IsS90.far ?_ NB0_457.out _)|exact HI0.out)) k_ hn_))⟩)) (keep_size (w:=w) (g:=g) (row:=none) (ke1_ HK.out GW457.out)));have n3_:=Aside0.mk (KeepBut.trans (ke1_ HK.out GW457.out) hk (.inl rfl));have n4_:=Aside0.mk (hb);have n5_:=Aside0.mk (hi);clear BK457;clear HO463;clear HK;clear HB;clear HI0;have BK457:=n0_;have HO463:=n1_;have HO468:=n2_;have HK:=n3_;have HB:=n4_;have HI0:=n5_;clear n0_ n1_ n2_ n3_ n4_ n5_;(try clear hb);(try clear hb2);(try clear hk);(try clear hi);(try clear ho0);have hnb10:=NB457_0.out;have hnc10:=NB0_457.out;have hcz11_0 : w9.cell? ⟨gb457,0,none⟩ = some (.int .i64 0):=(blk_cell BK457.out 0).trans rfl;have hcz11_1 : w9.cell? ⟨gb457,1,none⟩ = some (.slice none 0 0):=(blk_cell BK457.out 1).trans rfl;have hfz11_0:=blk_frozen BK457.out 0;have hfz11_1:=blk_frozen BK457.out 1;obtain ⟨Ao12,co12,eo12⟩:=Kd.V_slice HO468.out;subst eo12))
 refine bodyPost_ret (results_cell_row rfl _ _ gb457 28 #[.int .i64 t465,.slice Ao12 t466.length co12] (0,0) _ rfl (by refine pe_ ?_;refine blk_put (cs:=#[.int .i64 t465,.slice none 0 0]) ?_ 1 _ rfl;refine pe_ ?_;refine blk_put (cs:=#[.int .i64 0,.slice none 0 0]) ?_ 0 _ rfl;refine pe_ ?_;exact BK457.out) Try.underlying28 rfl (by kernel_rfl)) rfl ?_
 exact ⟨_,by first|rfl|(simp [errW_none,errW_some] <;> rfl)|(simp [*,errW_none,errW_some] <;> rfl),by refine pv_ ?_;exact Kd.V_mono (Kd.V_far (p:=⟨gb457,1,none⟩) (Kd.V_far (p:=⟨gb457,0,none⟩) (Kd.V_mono HO468.out (fun k_ hk => (⟨hk,hk.2.1⟩ : _ ∧ k_ ≠ gb457))) (fun _ hk => hk.2) (.int .i64 t465)) (fun _ hk => hk.2) (.slice Ao12 t466.length co12)) (fun _ hk => hk.1.1),by repeat (first|(with_reducible first|exact HI0.out|apply IsS90.alloc|apply IsS90.drewN|apply IsS90.drew|apply IsS90.set_1|refine IsS90.far ?_ NB0_457.out _)|exact HI0.out),by repeat (first|(with_reducible first|exact HB.out|apply below_alloc|apply pw_below_drewN|apply below_drew1|refine below_set ?_ (IsS90.ge HI0.out)|refine below_set ?_ GE457.out)|exact HB.out),ke1_ HK.out GW457.out⟩
end Go.Proofs.Ytengegdaiphfeaa.X
end
section
namespace Go.Proofs.Ytengegdaiphfeaa.X
open Go.RowKit Go.Proofs.YtengegdaiphfeaaW.PrintWords Go.Proofs.YtengegdaiphfeaaW.PrintLast Go.Proofs.YtengegdaiphfeaaW.PrintMore
attribute [local go_sem] max2_int min2_int max_two min_two max_three min_three max_four min_four
set_option linter.unusedVariables false
set_option linter.unusedSimpArgs false
def spec_DrawIdempotentOf.f (k : Nat) (l0 : List Int) : Option (Int × List Int):=(spec_l13Open.f l0).bind fun bt474 => ((spec_l6Some.f k bt474.1 bt474.2).bind fun bt477 => (some (bt477.1,bt477.2.1)))
theorem spec_DrawIdempotentOf.mono : ∀ a0 k,LeO (spec_DrawIdempotentOf.f k a0) (spec_DrawIdempotentOf.f (k + 1) a0):=by
 intro a0 k
 unfold spec_DrawIdempotentOf.f
 repeat' first
   | (with_reducible exact spec_l6Some.mono _ _ _)
   | (with_reducible exact LeO.refl _)
   | (with_reducible exact LeO.none _)
   | (with_reducible refine LeO.ite ?_ ?_)
   | (with_reducible refine LeO.bind ?_ (fun _ => ?_))
   | exact spec_l6Some.mono _ _ _
   | exact LeO.none _
   | refine LeO.ite ?_ ?_
   | refine LeO.bind ?_ (fun _ => ?_)
set_option maxHeartbeats 8000000 in
set_option maxRecDepth 100000 in
theorem spec_DrawIdempotentOf.calls (k : Nat) (A0 : Option Addr) (c0 : Nat) (l0 : List Int) (r1 : Int) (r2 : List Int) (w : World) (hr0 : Kd.C (Kd.int .u8) w A0 l0.length l0) (hc0 : l0.length ≤ c0) (h : spec_DrawIdempotentOf.f k l0 = some (r1,r2)) :
  Calls Try.prog 28 #[.slice A0 l0.length c0] w fun e w' => ∃ v1_ : Value,e = .returned (.agg #[.int .i64 r1,v1_]) ∧ Kd.V (Kd.int .i64) 3 w' w.heap.size (fun k_ => (w.heap.size ≤ k_)) v1_ r2 ∧ Below w.heap.size w w':=by
 have hu28:=Try.underlying28
 have HR0:=Aside0.mk hr0
 have HC0:=Aside0.mk hc0
 clear hr0 hc0
 have HB:=Aside0.mk (Below.refl w.heap.size w)
 have H : ((spec_l13Open.f l0).bind fun bt474 => ((spec_l6Some.f k bt474.1 bt474.2).bind fun bt477 => (some (bt477.1,bt477.2.1)))) = some (r1,r2):=h
 clear h
 replace H:=Option.bind_eq_some_iff.mp H
 obtain ⟨⟨t474,t475⟩,A20,H⟩:=H
 replace H : ((spec_l6Some.f k t474 t475).bind fun bt477 => (some (bt477.1,bt477.2.1))) = some (r1,r2):=H
 have A2:=Aside0.mk A20
 clear A20
 replace H:=Option.bind_eq_some_iff.mp H
 obtain ⟨⟨t477,t478,t481⟩,A30,H⟩:=H
 replace H : (some (t477,t478)) = some (r1,r2):=H
 have A3:=Aside0.mk A30
 clear A30
 simp only [Option.some.injEq,Prod.mk.injEq] at H
 obtain ⟨rfl,rfl⟩:=H
 go_enter Try.func28,Try.ntmps28
 go_wp2_with (first|((with_reducible refine gate_dst (N:=2) rfl ?_);refine box_event ?hg (N:=2) ?hd (cs:=#[.int .i64 0,.slice none 0 0]) (t:=28) ?hr ?_;(case hd => rfl);(case hg => rfl);(case hr => first|(go_simp;done)|(go_simp;rfl));intro gb473 hg w4 hbox hb;have n0_:=Aside0.mk (below_step (be0_ HB.out) hb);have n1_:=Aside0.mk (hbox);have n2_:=Aside0.mk ((by rw [hg];exact (below_size (be0_ HB.out)) : w.heap.size ≤ gb473));have n3_:=Aside0.mk ((by rw [hg];exact (below_size (be0_ HB.out)) : w.heap.size ≤ gb473));clear HB;have HB:=n0_;have BK473:=n1_;have GW473:=n2_;have GE473:=n3_;clear n0_ n1_ n2_ n3_;clear hb hbox hg)|((with_reducible refine gate_callee (f:=71) rfl ?_);refine goesL_ (some 4) rfl rfl Try.func71 (by kernel_rfl) rfl #[.slice A0 l0.length c0] rfl lp_ ?_;(with_reducible refine (spec_l13Open.calls _ _ l0 t474 t475 w _ ?side1 ?side2 ?side3 A2.out).mono ?_);(case side1 => repeat (first|(with_reducible first|exact HB.out|apply below_alloc|apply pw_below_drewN|apply below_drew1|refine below_set ?_ GE473.out)|exact HB.out));(case side2 => exact HR0.out);(case side3 => exact HC0.out);rintro e w5 ⟨g476,rfl,hi,hb,hb2⟩;refine ⟨_,rfl,?_⟩;have n0_:=Aside0.mk (blk_below (g:=gb473) (o:=.cells #[.int .i64 0,.slice none 0 0] 28 (0,0)) (pe_ BK473.out) hb2);have n1_:=Aside0.mk (hb);have n2_:=Aside0.mk (hi);have n3_:=Aside0.mk (IsS90.ne_blk hi (blk_below (g:=gb473) (o:=.cells #[.int .i64 0,.slice none 0 0] 28 (0,0)) (pe_ BK473.out) hb2) (by decide));have n4_:=Aside0.mk (Ne.symm (IsS90.ne_blk hi (blk_below (g:=gb473) (o:=.cells #[.int .i64 0,.slice none 0 0] 28 (0,0)) (pe_ BK473.out) hb2) (by decide)));clear BK473;clear HB;have BK473:=n0_;have HB:=n1_;have HI476:=n2_;have NB476_473:=n3_;have NB473_476:=n4_;clear n0_ n1_ n2_ n3_ n4_;(try clear hb);(try clear hb2);(try clear hk);(try clear hi))|((with_reducible refine gate_callee (f:=70) rfl ?_);refine goesL_ (some 5) rfl rfl Try.func70 (by kernel_rfl) rfl #[.pointer (some ⟨g476,0,none⟩)] rfl lp_ ?_;(with_reducible refine (spec_l6Some.calls k g476 t474 t475 t477 t478 t481 w _ ?side1 ?side2 A3.out).mono ?_);(case side1 => repeat (first|(with_reducible first|exact HI476.out|apply IsS90.alloc|apply IsS90.drewN|apply IsS90.drew|apply IsS90.set_1|refine IsS90.far ?_ NB476_473.out _)|exact HI476.out));(case side2 => repeat (first|(with_reducible first|exact HB.out|apply below_alloc|apply pw_below_drewN|apply below_drew1|refine below_set ?_ (IsS90.ge HI476.out)|refine below_set ?_ GE473.out)|exact HB.out));rintro e w6 ⟨v479,rfl,ho0,hi,hb,hk⟩;refine ⟨_,rfl,?_⟩;have n0_:=Aside0.mk (KeepBut.blk hk (g':=gb473) (o:=.cells #[.int .i64 0,.slice none 0 0] 28 (0,0)) (pe_ BK473.out) NB473_476.out (by simp));have n1_:=Aside0.mk (Kd.V_lower (Kd.V_mono (ok':=fun k_ => (w.heap.size ≤ k_) ∧ k_ ≠ gb473 ∧ k_ ≠ g476) ho0 (fun k_ hk_ => ⟨(Nat.le_trans (below_size (by repeat (first|(with_reducible first|exact HB.out|apply below_alloc|apply pw_below_drewN|apply below_drew1|refine below_set ?_ (IsS90.ge HI476.out)|refine below_set ?_ GE473.out)|exact HB.out))) hk_),(Kd.freshB (g:=gb473) (o:=.cells #[.int .i64 0,.slice none 0 0] 28 (0,0)) (pe_ BK473.out) k_ hk_),(IsS90.fresh (by repeat (first|(with_reducible first|exact HI476.out|apply IsS90.alloc|apply IsS90.drewN|apply IsS90.drew|apply IsS90.set_1|refine IsS90.far ?_ NB476_473.out _)|exact HI476.out)) k_ hk_)⟩)) (below_size (by repeat (first|(with_reducible first|exact HB.out|apply below_alloc|apply pw_below_drewN|apply below_drew1|refine below_set ?_ (IsS90.ge HI476.out)|refine below_set ?_ GE473.out)|exact HB.out))));have n2_:=Aside0.mk (hb);have n3_:=Aside0.mk (hi);clear BK473;clear HB;clear HI476;have BK473:=n0_;have HO480:=n1_;have HB:=n2_;have HI476:=n3_;clear n0_ n1_ n2_ n3_;(try clear hb);(try clear hb2);(try clear hk);(try clear hi);(try clear ho0);have hnb7:=NB473_476.out;have hnc7:=NB476_473.out;have hcz8_0 : w6.cell? ⟨gb473,0,none⟩ = some (.int .i64 0):=(blk_cell BK473.out 0).trans rfl;have hcz8_1 : w6.cell? ⟨gb473,1,none⟩ = some (.slice none 0 0):=(blk_cell BK473.out 1).trans rfl;have hfz8_0:=blk_frozen BK473.out 0;have hfz8_1:=blk_frozen BK473.out 1;obtain ⟨Ao9,co9,eo9⟩:=Kd.V_slice HO480.out;subst eo9))
 refine bodyPost_ret (results_cell_row rfl _ _ gb473 28 #[.int .i64 t477,.slice Ao9 t478.length co9] (0,0) _ rfl (by refine pe_ ?_;refine blk_put (cs:=#[.int .i64 t477,.slice none 0 0]) ?_ 1 _ rfl;refine pe_ ?_;refine blk_put (cs:=#[.int .i64 0,.slice none 0 0]) ?_ 0 _ rfl;refine pe_ ?_;exact BK473.out) Try.underlying28 rfl (by kernel_rfl)) rfl ?_
 exact ⟨_,by first|rfl|(simp [errW_none,errW_some] <;> rfl)|(simp [*,errW_none,errW_some] <;> rfl),by refine pv_ ?_;exact Kd.V_mono (Kd.V_far (p:=⟨gb473,1,none⟩) (Kd.V_far (p:=⟨gb473,0,none⟩) (Kd.V_mono HO480.out (fun k_ hk => (⟨hk,hk.2.1⟩ : _ ∧ k_ ≠ gb473))) (fun _ hk => hk.2) (.int .i64 t477)) (fun _ hk => hk.2) (.slice Ao9 t478.length co9)) (fun _ hk => hk.1.1),by repeat (first|(with_reducible first|exact HB.out|apply below_alloc|apply pw_below_drewN|apply below_drew1|refine below_set ?_ (IsS90.ge HI476.out)|refine below_set ?_ GE473.out)|exact HB.out)⟩
end Go.Proofs.Ytengegdaiphfeaa.X
end
section
namespace Go.Proofs.Ytengegdaiphfeaa.X
open Go.RowKit Go.Proofs.YtengegdaiphfeaaW.PrintWords Go.Proofs.YtengegdaiphfeaaW.PrintLast Go.Proofs.YtengegdaiphfeaaW.PrintMore
attribute [local go_sem] max2_int min2_int max_two min_two max_three min_three max_four min_four
set_option linter.unusedVariables false
set_option linter.unusedSimpArgs false
mutual
def impl_filled.l0 (p1 : Int → Int → Option (Int)) : Nat → Int → Int → Int → Int → List Int → Option (Int × List Int)
 | 0,_,_,_,_,_ => none
 | k + 1,x0,x10,x11,x196000,x196001 => if x11 < x10 then (impl_filled.l1 p1 k x0 x11 x10 x11 x0 0 x196000 x196001) else (some (x196000,x196001))
def impl_filled.l1 (p1 : Int → Int → Option (Int)) : Nat → Int → Int → Int → Int → Int → Int → Int → List Int → Option (Int × List Int)
 | 0,_,_,_,_,_,_,_,_ => none
 | k + 1,x0,x6,x10,x11,x14,x15,x196000,x196001 => if x15 < x14 then ((p1 x6 x15).bind fun t196 => (if x196001.length < 17592186044416 then (impl_filled.l1 p1 k x0 x6 x10 x11 x14 (wrap64 (x15 + 1)) x196000 (x196001 ++ [t196])) else (none))) else (impl_filled.l0 p1 k x0 x10 (wrap64 (x11 + 1)) x196000 x196001)
end
def impl_filled.f (p1 : Int → Int → Option (Int)) (k : Nat) (a0 : Int)  : Option (Int × List Int):=impl_filled.l0 p1 k a0 a0 0 a0 ([] : List Int)
theorem impl_filled.mono_l (p1 : Int → Int → Option (Int)) : ∀ k,(∀ y0 y1 y2 y3 y4,LeO (impl_filled.l0 p1 k y0 y1 y2 y3 y4) (impl_filled.l0 p1 (k + 1) y0 y1 y2 y3 y4)) ∧ (∀ y0 y1 y2 y3 y4 y5 y6 y7,LeO (impl_filled.l1 p1 k y0 y1 y2 y3 y4 y5 y6 y7) (impl_filled.l1 p1 (k + 1) y0 y1 y2 y3 y4 y5 y6 y7))
 | 0 => ⟨fun _ _ _ _ _ r h => by simp [impl_filled.l0] at h,fun _ _ _ _ _ _ _ _ r h => by simp [impl_filled.l1] at h⟩
 | k + 1 => by
  obtain ⟨ih0,ih1⟩:=impl_filled.mono_l p1 k
  refine ⟨?_,?_⟩
  ·intro y0 y1 y2 y3 y4
   unfold impl_filled.l0
   repeat' first
   | (with_reducible exact ih0 _ _ _ _ _)
   | (with_reducible exact ih1 _ _ _ _ _ _ _ _)
   | (with_reducible exact LeO.refl _)
   | (with_reducible exact LeO.none _)
   | (with_reducible refine LeO.ite ?_ ?_)
   | (with_reducible refine LeO.bind ?_ (fun _ => ?_))
   | exact ih0 _ _ _ _ _
   | exact ih1 _ _ _ _ _ _ _ _
   | exact LeO.none _
   | refine LeO.ite ?_ ?_
   | refine LeO.bind ?_ (fun _ => ?_)
  ·intro y0 y1 y2 y3 y4 y5 y6 y7
   unfold impl_filled.l1
   repeat' first
   | (with_reducible exact ih0 _ _ _ _ _)
   | (with_reducible exact ih1 _ _ _ _ _ _ _ _)
   | (with_reducible exact LeO.refl _)
   | (with_reducible exact LeO.none _)
   | (with_reducible refine LeO.ite ?_ ?_)
   | (with_reducible refine LeO.bind ?_ (fun _ => ?_))
   | exact ih0 _ _ _ _ _
   | exact ih1 _ _ _ _ _ _ _ _
   | exact LeO.none _
   | refine LeO.ite ?_ ?_
   | refine LeO.bind ?_ (fun _ => ?_)
theorem impl_filled.mono (p1 : Int → Int → Option (Int)) : ∀ a0 k,LeO (impl_filled.f p1 k a0) (impl_filled.f p1 (k + 1) a0):=by
 intro a0 k
 obtain ⟨ih0,ih1⟩:=impl_filled.mono_l p1 k
 unfold impl_filled.f
 repeat' first
   | (with_reducible exact ih0 _ _ _ _ _)
   | (with_reducible exact ih1 _ _ _ _ _ _ _ _)
   | (with_reducible exact LeO.refl _)
   | (with_reducible exact LeO.none _)
   | (with_reducible refine LeO.ite ?_ ?_)
   | (with_reducible refine LeO.bind ?_ (fun _ => ?_))
   | exact ih0 _ _ _ _ _
   | exact ih1 _ _ _ _ _ _ _ _
   | exact LeO.none _
   | refine LeO.ite ?_ ?_
   | refine LeO.bind ?_ (fun _ => ?_)
def impl_filled.T8 : Bool × List (List Nat × List Nat):=(true,[([],[]),([0],[0]),([],[]),([],[]),([],[]),([2,3,4],[2,3,4]),([5],[5]),([1,6,5],[1,6]),([0,1,2,3,4,5,6,7],[]),([8,7,7,0,1,2,3,4,5,6,7],[7,8])])
def impl_filled.B8 : List Nat:=[0,1,0,0,0,28,60,127,255,511]
theorem impl_filled.tab8 : rtab .any (opsOf Try.f59 8) = impl_filled.T8:=by kernel_rfl
theorem impl_filled.bits8 : waitsOk impl_filled.T8.2 impl_filled.B8 = true:=by kernel_rfl
set_option maxHeartbeats 8000000 in
set_option maxRecDepth 100000 in
theorem impl_filled.calls (k : Nat) (a0 : Int) (q1 : FuncId) (F1 C1 : Array Value) (p1 : Int → Int → Option (Int)) (r1 : Int) (r2 : List Int) (w : World) (hq1 : FnAt Try.prog q1) (hp1 : ∀ (ay0 : Int) (ay1 : Int) (z0 : Int) (W_ : World),Below w.heap.size w W_ → p1 ay0 ay1 = some z0 → Calls Try.prog q1 (F1 ++ #[.int .i64 ay0,.int .i64 ay1] ++ C1) W_ fun e w' => e = .returned (.int .i64 z0) ∧ Below W_.heap.size W_ w') (h : impl_filled.f p1 k a0 = some (r1,r2)) :
  Calls Try.prog 59 #[.int .i64 a0,.func (.func q1) F1 C1] w fun e w' => ∃ v1_ : Value,e = .returned (.agg #[.int .i64 r1,v1_]) ∧ Kd.R (Kd.int .i64) 3 w' w.heap.size (fun _ => True) v1_ r2 ∧ Below w.heap.size w w':=by
 have hu28:=Try.underlying28
 have HQ1:=Aside0.mk hq1
 have HP1:=Aside0.mk hp1
 clear hq1 hp1
 have HB:=Aside0.mk (Below.refl w.heap.size w)
 have H : (impl_filled.l0 p1 k a0 a0 0 a0 ([] : List Int)) = some (r1,r2):=h
 clear h
 have H':=Aside0.mk H
 clear H
 go_enter Try.func59,Try.ntmps59
 go_wp2_with (first|((with_reducible refine gate_dst (N:=4) rfl ?_);refine box_event ?hg (N:=4) ?hd (cs:=#[.int .i64 0,.slice none 0 0]) (t:=28) ?hr ?_;(case hd => rfl);(case hg => rfl);(case hr => first|(go_simp;done)|(go_simp;rfl));intro gb194 hg w3 hbox hb;have n0_:=Aside0.mk (below_step (be0_ HB.out) hb);have n1_:=Aside0.mk (hbox);have n2_:=Aside0.mk ((by rw [hg];exact (below_size (be0_ HB.out)) : w.heap.size ≤ gb194));have n3_:=Aside0.mk ((by rw [hg];exact (below_size (be0_ HB.out)) : w.heap.size ≤ gb194));clear HB;have HB:=n0_;have BK194:=n1_;have GW194:=n2_;have GE194:=n3_;clear n0_ n1_ n2_ n3_;clear hb hbox hg)|((with_reducible refine gate_dst (N:=5) rfl ?_);refine box_event ?hg (N:=5) ?hd (cs:=#[.int .i64 0,.slice none 0 0]) (t:=28) ?hr ?_;(case hd => rfl);(case hg => rfl);(case hr => first|(go_simp;done)|(go_simp;rfl));intro gb195 hg w4 hbox hb;have n0_:=Aside0.mk (blk_below (g:=gb194) (o:=.cells #[.int .i64 0,.slice none 0 0] 28 (0,0)) (pe_ BK194.out) hb);have n1_:=Aside0.mk (below_step (be1_ HB.out GE194.out) hb);have n2_:=Aside0.mk (hbox);have n3_:=Aside0.mk ((by rw [hg];exact (below_size (be1_ HB.out GE194.out)) : w.heap.size ≤ gb195));have n4_:=Aside0.mk ((by rw [hg];exact (below_size (be1_ HB.out GE194.out)) : w.heap.size ≤ gb195));have n5_:=Aside0.mk ((by rw [hg];exact Nat.ne_of_lt (blk_lt (g:=gb194) (o:=.cells #[.int .i64 0,.slice none 0 0] 28 (0,0)) (pe_ BK194.out)) : gb194 ≠ gb195));have n6_:=Aside0.mk ((by rw [hg];exact Nat.ne_of_gt (blk_lt (g:=gb194) (o:=.cells #[.int .i64 0,.slice none 0 0] 28 (0,0)) (pe_ BK194.out)) : gb195 ≠ gb194));clear BK194;clear HB;have BK194:=n0_;have HB:=n1_;have BK195:=n2_;have GW195:=n3_;have GE195:=n4_;have NB194_195:=n5_;have NB195_194:=n6_;clear n0_ n1_ n2_ n3_ n4_ n5_ n6_;clear hb hbox hg;have hnb5:=NB195_194.out;have hnc5:=NB194_195.out;have hcz6_0 : w4.cell? ⟨gb195,0,none⟩ = some (.int .i64 0):=(blk_cell BK195.out 0).trans rfl;have hcz6_1 : w4.cell? ⟨gb195,1,none⟩ = some (.slice none 0 0):=(blk_cell BK195.out 1).trans rfl;have hfz6_0:=blk_frozen BK195.out 0;have hfz6_1:=blk_frozen BK195.out 1))
 go_loopg [11] k (fun kq v11 w' => ∃ (x11_1 : Int) (x196001_1 : List Int) (u196001 : Value),v11 = .int .i64 x11_1 ∧ Aside0 (impl_filled.l0 p1 kq a0 a0 x11_1 a0 x196001_1 = some (r1,r2)) ∧ Aside0 (kq ≤ k) ∧ Aside0 (Kd.R (Kd.int .i64) 3 w' w.heap.size (fun _ => True) u196001 x196001_1) ∧ Aside0 (w'.heap[gb194]? = some (.cells #[.int .i64 0,(.slice none 0 0)] 28 (0,0))) ∧ Aside0 (w'.heap[gb195]? = some (.cells #[.int .i64 a0,u196001] 28 (0,0))) ∧ Aside0 (Below w.heap.size w w'))
 case atStart => exact ⟨(0),(([] : List Int)),(.slice none 0 0),(by first|rfl|(simp;done)|(simp [*];done)),H',⟨Nat.le_refl _⟩,⟨by first|exact Kd.R_nil _ _ _ _ _|exact Kd.N_nil _ _ _ _ _|exact Kd.V_nil _ _ _ _ _|exact Kd.Q_nil _ _ _ _ _|exact Kd.S_nil _ _ _ _ _⟩,⟨by refine pe_ ?_;refine blk_far ?_ NB194_195.out _;refine pe_ ?_;refine blk_far ?_ NB194_195.out _;refine pe_ ?_;exact BK194.out⟩,⟨by refine pe_ ?_;refine blk_put (cs:=#[.int .i64 a0,.slice none 0 0]) ?_ 1 _ rfl;refine pe_ ?_;refine blk_put (cs:=#[.int .i64 0,.slice none 0 0]) ?_ 0 _ rfl;refine pe_ ?_;exact BK195.out⟩,⟨be2_ HB.out GE194.out GE195.out⟩⟩
 case round =>
  clear H'
  try clear p1
  try clear q1
  try clear p2
  try clear c5
  try clear hcz6_0
  try clear hcz6_1
  try clear hfz6_0
  try clear hfz6_1
  obtain ⟨x11_1,x196001_1,u196001,rfl,HA,HK1,HO_196001,BK194,BK195,HB⟩:=hrel
  cases gk with
  | zero => exact absurd HA.out (by simp [impl_filled.l0])
  | succ k1 =>
   have H:=HA.out
   clear HA
   simp only [impl_filled.l0] at H
   by_cases c7 : x11_1 < a0
   ·rw [if_pos c7] at H
    have c7b0 : decide (x11_1 < a0) = true:=decide_eq_true c7
    clear c7
    have H':=Aside0.mk H
    clear H
    go_wp2
    go_loopg [15] k1 (fun kq v15 w' => ∃ (x15_2 : Int) (x196001_2 : List Int) (u196001 : Value),v15 = .int .i64 x15_2 ∧ Aside0 (impl_filled.l1 p1 kq a0 x11_1 a0 x11_1 a0 x15_2 a0 x196001_2 = some (r1,r2)) ∧ Aside0 (kq ≤ k1) ∧ Aside0 (Kd.R (Kd.int .i64) 3 w' w.heap.size (fun _ => True) u196001 x196001_2) ∧ Aside0 (w'.heap[gb194]? = some (.cells #[.int .i64 0,(.slice none 0 0)] 28 (0,0))) ∧ Aside0 (w'.heap[gb195]? = some (.cells #[.int .i64 a0,u196001] 28 (0,0))) ∧ Aside0 (Below w.heap.size w w'))
    case atStart => exact ⟨(0),(x196001_1),(u196001),(by first|rfl|(simp;done)|(simp [*];done)),H',⟨Nat.le_refl _⟩,⟨pr_ HO_196001.out⟩,⟨pe_ BK194.out⟩,⟨pe_ BK195.out⟩,⟨be2_ HB.out GE194.out GE195.out⟩⟩
    case round =>
     clear H'
     try clear p1
     try clear q1
     try clear p2
     try clear c5
     try clear c7
     try clear c7b0
     try clear hcz6_0
     try clear hcz6_1
     try clear hfz6_0
     try clear hfz6_1
     try clear p1
     try clear p2
     try clear q1
     obtain ⟨x15_2,x196001_2,u196001,rfl,HA,HK2,HO_196001,BK194,BK195,HB⟩:=hrel
     cases gk with
     | zero => exact absurd HA.out (by simp [impl_filled.l1])
     | succ k2 =>
      have H:=HA.out
      clear HA
      simp only [impl_filled.l1] at H
      by_cases c8 : x15_2 < a0
      ·rw [if_pos c8] at H
       have c8b0 : decide (x15_2 < a0) = true:=decide_eq_true c8
       clear c8
       replace H:=Option.bind_eq_some_iff.mp H
       obtain ⟨t196,A90,H⟩:=H
       replace H : (if x196001_2.length < 17592186044416 then (impl_filled.l1 p1 k2 a0 x11_1 a0 x11_1 a0 (wrap64 (x15_2 + 1)) a0 (x196001_2 ++ [t196])) else (none)) = some (r1,r2):=H
       have A9:=Aside0.mk A90
       clear A90
       by_cases c10 : x196001_2.length < 17592186044416
       ·rw [if_pos c10] at H
        have LMc10:=Aside0.mk c10
        clear c10
        obtain ⟨y197,hy197⟩ : ∃ y_ : List Int,y_ = (x196001_2 ++ [t196]):=⟨_,rfl⟩
        replace H : (impl_filled.l1 p1 k2 a0 x11_1 a0 x11_1 a0 (wrap64 (x15_2 + 1)) a0 y197) = some (r1,r2):=by first|(rw [hy197];with_reducible exact H)|(have H2_:=(Option.bind_some _ _).symm.trans H;rw [hy197];with_reducible exact H2_)|(have H2_:=(Option.bind_some _ _).symm.trans H;with_reducible exact H2_)|with_reducible exact H|(rw [hy197];exact H)|exact H
        have Ny197:=Aside0.mk hy197
        clear hy197
        have H':=Aside0.mk H
        clear H
        try go_wp2
        have n0_:=Aside0.mk (Kd.R_drew HO_196001.out)
        have n1_:=Aside0.mk (blk_drew BK194.out)
        have n2_:=Aside0.mk (blk_drew BK195.out)
        have n3_:=Aside0.mk (below_drew1 HB.out)
        clear HO_196001
        clear BK194
        clear BK195
        clear HB
        have HO_196001:=n0_
        have BK194:=n1_
        have BK195:=n2_
        have HB:=n3_
        clear n0_ n1_ n2_ n3_
        refine start_ (n:=10) (S:=fun w' => w'.cell? ⟨gb195,0,none⟩ = some (.int .i64 a0) ∧ w'.cell? ⟨gb195,1,none⟩ = some (u196001)) (ds:=[9]) #[false,false,false,false,false,false,false,false,false,false] (by kernel_rfl) rfl rfl ⟨(blk_cell BK195.out 0).trans rfl,(blk_cell BK195.out 1).trans rfl⟩ (fun hHeld => ?_);refine with_tabW impl_filled.tab8 impl_filled.bits8 (fun HT_ HW_ => ?_)
        generalize wr.drew = w11 at HO_196001 BK194 BK195 HB hHeld ⊢
        refine pure_ (i:=0) (N:=some 18) (v:=?_) (a':=?_) #[true,false,false,false,false,false,false,false,false,false] rfl rfl (any_of HT_.out (by kernel_rfl)) (fun _ _ _ h => h) (Or.inl ⟨by rfl,?_⟩) ?_ ?_
        rotate_left
        ·intro w'
         go_simp
         with_reducible rfl
        rotate_left
        ·simp only [Act.put,List.setIfInBounds_toArray,List.set_cons_zero,List.set_cons_succ,i64_w,i32_w]
         rfl
        refine pure_ (i:=2) (N:=some 20) (v:=?_) (a':=?_) #[true,false,true,false,false,false,false,false,false,false] rfl rfl (any_of HT_.out (by kernel_rfl)) (fun _ _ _ h => h) (Or.inl ⟨by rfl,?_⟩) ?_ ?_
        rotate_left
        ·intro w'
         go_simp
         with_reducible rfl
        rotate_left
        ·simp only [Act.put,List.setIfInBounds_toArray,List.set_cons_zero,List.set_cons_succ,i64_w,i32_w]
         rfl
        refine pure_ (i:=3) (N:=some 21) (v:=?_) (a':=?_) #[true,false,true,true,false,false,false,false,false,false] rfl rfl (any_of HT_.out (by kernel_rfl)) (fun _ _ _ h => h) (Or.inl ⟨by rfl,?_⟩) ?_ ?_
        rotate_left
        ·intro w'
         go_simp
         with_reducible rfl
        rotate_left
        ·simp only [Act.put,List.setIfInBounds_toArray,List.set_cons_zero,List.set_cons_succ,i64_w,i32_w]
         rfl
        refine pure_ (i:=4) (N:=some 22) (v:=?_) (a':=?_) #[true,false,true,true,true,false,false,false,false,false] rfl rfl (any_of HT_.out (by kernel_rfl)) (fun _ _ _ h => h) (Or.inl ⟨by rfl,?_⟩) ?_ ?_
        rotate_left
        ·intro w'
         go_simp
         with_reducible rfl
        rotate_left
        ·simp only [Act.put,List.setIfInBounds_toArray,List.set_cons_zero,List.set_cons_succ,i64_w,i32_w]
         rfl
        refine take_ (i:=1) (N:=some 19) (v:=?_) (a':=?_) #[true,true,true,true,true,false,false,false,false,false] rfl rfl (take_ofW HT_.out HW_.out (by kernel_rfl)) (fun _ _ _ h => h) (Or.inl ⟨by rfl,?_⟩) hHeld ?_ ?_
        rotate_left
        ·rintro w' ⟨s0,s1⟩
         go_simp
         with_reducible rfl
        rotate_left
        ·simp only [Act.put,List.setIfInBounds_toArray,List.set_cons_zero,List.set_cons_succ,i64_w,i32_w]
         rfl
        refine one_ (i:=5) (N:=some 23) #[true,true,true,true,true,true,false,false,false,false] rfl rfl (one_of HT_.out (by kernel_rfl)) (by decide) (fun K hK => ?_)
        refine goesD_ HQ1.out #[.int .i64 x11_1,.int .i64 x15_2] (by rfl) rfl rfl rfl lp_ ?_
        with_reducible refine (HP1.out x11_1 x15_2 t196 _ ?side1 A9.out).mono ?_
        (case side1 => repeat (first|(with_reducible first|exact HB.out|apply below_alloc|apply pw_below_drewN|apply below_drew1|refine below_set ?_ GE194.out|refine below_set ?_ GE195.out)|exact HB.out))
        rintro e w12 ⟨rfl,hb⟩
        refine ⟨_,rfl,?_⟩
        have n0_:=Aside0.mk (Kd.R_below (pr_ HO_196001.out) hb)
        have n1_:=Aside0.mk (blk_below (g:=gb194) (o:=.cells #[.int .i64 0,.slice none 0 0] 28 (0,0)) (pe_ BK194.out) hb)
        have n2_:=Aside0.mk (blk_below (g:=gb195) (o:=.cells #[.int .i64 a0,u196001] 28 (0,0)) (pe_ BK195.out) hb)
        have n3_:=Aside0.mk (below_step (be2_ HB.out GE194.out GE195.out) hb)
        clear HO_196001
        clear BK194
        clear BK195
        clear HB
        have HO_196001:=n0_
        have BK194:=n1_
        have BK195:=n2_
        have HB:=n3_
        clear n0_ n1_ n2_ n3_
        (try clear hb)
        (try clear hb2)
        (try clear hk)
        (try clear hi)
        refine hK.out _ _ ⟨(blk_cell BK195.out 0).trans rfl,(blk_cell BK195.out 1).trans rfl⟩ (fun hHeld => ?_)
        clear hK K
        refine norm_ (a':=?_) ?_ ?_
        rotate_left
        ·show Act.put _ (some 23) _ = _
         simp only [Act.put,List.setIfInBounds_toArray,List.set_cons_zero,List.set_cons_succ,i64_w,i32_w]
         rfl
        refine one_ (i:=6) (N:=some 24) #[true,true,true,true,true,true,true,false,false,false] rfl rfl (one_of HT_.out (by kernel_rfl)) (by decide) (fun K hK => ?_)
        refine value_ (w1:=?_) (v:=?_) (by rfl) rfl ?_ ?_
        rotate_left 2
        ·go_simp
         constructor
         ·rfl
         ·rfl
        refine hK.out _ _ ⟨(blk_cell (blk_alloc BK195.out _) 0).trans rfl,(blk_cell (blk_alloc BK195.out _) 1).trans rfl⟩ (fun hHeld => ?_)
        clear hK K
        refine norm_ (a':=?_) ?_ ?_
        rotate_left
        ·show Act.put _ (some 24) _ = _
         simp only [Act.put,List.setIfInBounds_toArray,List.set_cons_zero,List.set_cons_succ,i64_w,i32_w]
         rfl
        refine one_ (i:=7) (N:=some 25) #[true,true,true,true,true,true,true,true,false,false] rfl rfl (one_of HT_.out (by kernel_rfl)) (by decide) (fun K hK => ?_)
        refine Kd.R_append_step (Kd.int .i64) (w0:=w) w.heap.size (by rfl) (.tmp 19) (.tmp 24) 24 3 (.int .i64 0) 8 rfl Try.underlying24 info3 rfl (by decide) (by omega) u196001 x196001_2 t196 [.int .i64 t196] (fun _ => True) (fun _ => False) rfl rfl ?aP (fun _ hk => hk.elim) ?aF ?aO ?aB ?aS ?aL ?_
        (case aP => exact rfl)
        (case aB => exact (be2_ HB.out GE194.out GE195.out))
        (case aF => exact (fun _ _ => trivial))
        (case aO => exact (pr_ HO_196001.out))
        (case aS => exact (below_size (be2_ HB.out GE194.out GE195.out)))
        (case aL => have:=LMc10.out;omega)
        intro v198 w13 ho hb hg hat
        rw [← Ny197.out] at ho
        have n0_:=Aside0.mk (blk_grown (g:=gb194) (o:=.cells #[.int .i64 0,.slice none 0 0] 28 (0,0)) (pe_ BK194.out) hg (Kd.R_ne HO_196001.out BK194.out (by decide)))
        have n1_:=Aside0.mk (blk_grown (g:=gb195) (o:=.cells #[.int .i64 a0,u196001] 28 (0,0)) (pe_ BK195.out) hg (Kd.R_ne HO_196001.out BK195.out (by decide)))
        have n2_:=Aside0.mk (hb)
        have n3_:=Aside0.mk (ho)
        clear BK194
        clear BK195
        clear HB
        clear HO_196001
        have BK194:=n0_
        have BK195:=n1_
        have HB:=n2_
        have HO199:=n3_
        clear n0_ n1_ n2_ n3_
        clear ho hb hg hat
        obtain ⟨Ao14,co14,eo14⟩:=Kd.R_slice HO199.out
        (first|subst eo14|(injection eo14 with f1_ f2_ f3_;have f4_:=f1_.symm;have f5_:=f3_.symm;clear f1_ f2_ f3_;subst f4_;subst f5_))
        refine hK.out _ _ ⟨(blk_cell BK195.out 0).trans rfl,(blk_cell BK195.out 1).trans rfl⟩ (fun hHeld => ?_)
        clear hK K
        refine norm_ (a':=?_) ?_ ?_
        rotate_left
        ·show Act.put _ (some 25) _ = _
         simp only [Act.put,List.setIfInBounds_toArray,List.set_cons_zero,List.set_cons_succ,i64_w,i32_w]
         rfl
        refine pure_ (i:=8) (N:=some 26) (v:=?_) (a':=?_) #[true,true,true,true,true,true,true,true,true,false] rfl rfl (any_of HT_.out (by kernel_rfl)) (fun _ _ _ h => h) (Or.inl ⟨by rfl,?_⟩) ?_ ?_
        rotate_left
        ·intro w'
         go_simp
         with_reducible rfl
        rotate_left
        ·simp only [Act.put,List.setIfInBounds_toArray,List.set_cons_zero,List.set_cons_succ,i64_w,i32_w]
         rfl
        refine last_ (i:=9) (N:=none) #[true,true,true,true,true,true,true,true,true,true] rfl rfl (one_of HT_.out (by kernel_rfl)) (by decide) (fun K hK => ?_)
        have hs15 : w13.cell? ⟨gb195,1,none⟩ = some (u196001):=(blk_cell BK195.out 1).trans rfl
        have hfs15:=blk_frozen BK195.out 1
        have hns15_0:=NB194_195.out
        have hms15_0:=NB195_194.out
        refine skip_ (w1:=?_) (by rfl) rfl ?_ ?_
        rotate_left
        ·go_simp
         rfl
        refine hK.out _ _ ?_
        clear hK K
        refine done_ (done_of HT_.out (by kernel_rfl)) ?_
        try go_wp2
        go_roundg k2
        case measure => have:=HK1.out;have:=HK2.out;omega
        case rel => exact ⟨(wrap64 (x15_2 + 1)),(y197),(.slice Ao14 y197.length co14),(by first|rfl|(simp;done)|(simp [*];done)),H',⟨by have:=HK1.out;have:=HK2.out;omega⟩,⟨by refine pr_ ?_;exact Kd.R_mono (Kd.R_far (p:=⟨gb195,1,none⟩) (Kd.R_types HO199.out BK195.out (by decide)) (fun _ hk => hk.2) (.slice Ao14 y197.length co14)) (fun _ hk => trivial)⟩,⟨by refine pe_ ?_;refine blk_far ?_ NB194_195.out _;refine pe_ ?_;exact BK194.out⟩,⟨by refine pe_ ?_;refine blk_put (cs:=#[.int .i64 a0,u196001]) ?_ 1 _ rfl;refine pe_ ?_;exact BK195.out⟩,⟨be2_ HB.out GE194.out GE195.out⟩⟩
       ·rw [if_neg c10] at H
        exact absurd H (by simp)
      ·rw [if_neg c8] at H
       have c8b0 : decide (x15_2 < a0) = false:=decide_eq_false c8
       clear c8
       have H':=Aside0.mk H
       clear H
       go_wp2
       go_roundg k2
       case measure => have:=HK1.out;have:=HK2.out;omega
       case rel => exact ⟨(wrap64 (x11_1 + 1)),(x196001_2),(u196001),(by first|rfl|(simp;done)|(simp [*];done)),H',⟨by have:=HK1.out;have:=HK2.out;omega⟩,⟨pr_ HO_196001.out⟩,⟨pe_ BK194.out⟩,⟨pe_ BK195.out⟩,⟨be2_ HB.out GE194.out GE195.out⟩⟩
   ·rw [if_neg c7] at H
    have c7b0 : decide (x11_1 < a0) = false:=decide_eq_false c7
    clear c7
    simp only [Option.some.injEq,Prod.mk.injEq] at H
    obtain ⟨rfl,rfl⟩:=H
    have hnb16:=NB195_194.out
    have hnc16:=NB194_195.out
    have hcz17_0 : wr.cell? ⟨gb195,0,none⟩ = some (.int .i64 a0):=(blk_cell BK195.out 0).trans rfl
    have hcz17_1 : wr.cell? ⟨gb195,1,none⟩ = some (u196001):=(blk_cell BK195.out 1).trans rfl
    have hfz17_0:=blk_frozen BK195.out 0
    have hfz17_1:=blk_frozen BK195.out 1
    have hcz18_0 : wr.cell? ⟨gb194,0,none⟩ = some (.int .i64 0):=(blk_cell BK194.out 0).trans rfl
    have hcz18_1 : wr.cell? ⟨gb194,1,none⟩ = some (.slice none 0 0):=(blk_cell BK194.out 1).trans rfl
    have hfz18_0:=blk_frozen BK194.out 0
    have hfz18_1:=blk_frozen BK194.out 1
    obtain ⟨Ao19,co19,eo19⟩:=Kd.R_slice HO_196001.out
    subst eo19
    go_wp2
    refine bodyPost_ret (results_cell_row rfl _ _ gb194 28 #[.int .i64 a0,.slice Ao19 x196001_1.length co19] (0,0) _ rfl (by refine pe_ ?_;refine blk_put (cs:=#[.int .i64 a0,.slice none 0 0]) ?_ 1 _ rfl;refine pe_ ?_;refine blk_put (cs:=#[.int .i64 0,.slice none 0 0]) ?_ 0 _ rfl;refine pe_ ?_;exact BK194.out) Try.underlying28 rfl (by kernel_rfl)) rfl ?_
    exact ⟨_,by first|rfl|(simp [errW_none,errW_some] <;> rfl)|(simp [*,errW_none,errW_some] <;> rfl),by refine pr_ ?_;exact Kd.R_mono (Kd.R_far (p:=⟨gb194,1,none⟩) (Kd.R_far (p:=⟨gb194,0,none⟩) (Kd.R_types HO_196001.out BK194.out (by decide)) (fun _ hk => hk.2) (.int .i64 a0)) (fun _ hk => hk.2) (.slice Ao19 x196001_1.length co19)) (fun _ hk => trivial),be2_ HB.out GE194.out GE195.out⟩
theorem impl_filled.monoP_l {p p' : Int → Int → Option (Int)} (hp : ∀ y0 y1,LeO (p y0 y1) (p' y0 y1)) : ∀ k,(∀ y0 y1 y2 y3 y4,LeO (impl_filled.l0 p k y0 y1 y2 y3 y4) (impl_filled.l0 p' k y0 y1 y2 y3 y4)) ∧ (∀ y0 y1 y2 y3 y4 y5 y6 y7,LeO (impl_filled.l1 p k y0 y1 y2 y3 y4 y5 y6 y7) (impl_filled.l1 p' k y0 y1 y2 y3 y4 y5 y6 y7))
 | 0 => by
  refine ⟨?_,?_⟩
  all_goals (intros;intro r h;first|(simp [impl_filled.l0,impl_filled.l1] at h;done)|(unfold impl_filled.l0 at h;simp at h;done))
 | k + 1 => by
  have ih:=impl_filled.monoP_l hp k
  obtain ⟨ih0,ih1⟩:=ih
  refine ⟨?_,?_⟩
  ·intro y0 y1 y2 y3 y4
   unfold impl_filled.l0
   repeat'
    first
    | (with_reducible exact LeO.refl _)
    | (with_reducible exact LeO.none _)
    | (with_reducible exact ih0 _ _ _ _ _)
    | (with_reducible exact ih1 _ _ _ _ _ _ _ _)
    | (with_reducible exact hp _ _)
    | (with_reducible refine LeO.ite ?_ ?_)
    | (with_reducible refine LeO.bind ?_ (fun _ => ?_))
    | exact hp _ _
    | exact LeO.refl _
  ·intro y0 y1 y2 y3 y4 y5 y6 y7
   unfold impl_filled.l1
   repeat'
    first
    | (with_reducible exact LeO.refl _)
    | (with_reducible exact LeO.none _)
    | (with_reducible exact ih0 _ _ _ _ _)
    | (with_reducible exact ih1 _ _ _ _ _ _ _ _)
    | (with_reducible exact hp _ _)
    | (with_reducible refine LeO.ite ?_ ?_)
    | (with_reducible refine LeO.bind ?_ (fun _ => ?_))
    | exact hp _ _
    | exact LeO.refl _
theorem impl_filled.monoP {p p' : Int → Int → Option (Int)} (hp : ∀ y0 y1,LeO (p y0 y1) (p' y0 y1)) : ∀ a0 k,LeO (impl_filled.f p k a0) (impl_filled.f p' (k + 1) a0):=by
 intro a0 k
 refine LeO.trans ?_ (impl_filled.mono p' a0 k)
 have ih:=impl_filled.monoP_l hp k
 obtain ⟨ih0,ih1⟩:=ih
 unfold impl_filled.f
 repeat'
  first
  | (with_reducible exact LeO.refl _)
  | (with_reducible exact LeO.none _)
  | (with_reducible exact ih0 _ _ _ _ _)
  | (with_reducible exact ih1 _ _ _ _ _ _ _ _)
  | (with_reducible exact hp _ _)
  | (with_reducible refine LeO.ite ?_ ?_)
  | (with_reducible refine LeO.bind ?_ (fun _ => ?_))
  | exact hp _ _
  | exact LeO.refl _
end Go.Proofs.Ytengegdaiphfeaa.X
end
section
namespace Go.Proofs.Ytengegdaiphfeaa.X
open Go.RowKit Go.Proofs.YtengegdaiphfeaaW.PrintWords Go.Proofs.YtengegdaiphfeaaW.PrintLast Go.Proofs.YtengegdaiphfeaaW.PrintMore
attribute [local go_sem] max2_int min2_int max_two min_two max_three min_three max_four min_four
set_option linter.unusedVariables false
set_option linter.unusedSimpArgs false
def impl_Matrix_at.f (a0_0 : Int) (l0_1 : List Int) (a1 : Int) (a2 : Int) : Option (Int):=if 0 ≤ (wrap64 ((wrap64 (a1 * a0_0)) + a2)) then (if (wrap64 ((wrap64 (a1 * a0_0)) + a2)) < (l0_1.length : Int) then (some (rd l0_1 (wrap64 ((wrap64 (a1 * a0_0)) + a2)))) else (none)) else (none)
set_option maxHeartbeats 8000000 in
set_option maxRecDepth 100000 in
theorem impl_Matrix_at.calls (a0_0 : Int) (A0_1 : Option Addr) (c0_1 : Nat) (l0_1 : List Int) (a1 : Int) (a2 : Int) (r : Int) (w : World) (hr0_1 : Kd.C (Kd.int .i64) w A0_1 l0_1.length l0_1) (hc0_1 : l0_1.length ≤ c0_1) (h : impl_Matrix_at.f a0_0 l0_1 a1 a2 = some r) :
  Calls Try.prog 61 #[.agg #[.int .i64 a0_0,.slice A0_1 l0_1.length c0_1],.int .i64 a1,.int .i64 a2] w fun e w' => e = .returned (.int .i64 r) ∧ Below w.heap.size w w':=by
 have hu28:=Try.underlying28
 have HR0_1:=Aside0.mk hr0_1
 have HC0_1:=Aside0.mk hc0_1
 clear hr0_1 hc0_1
 have HB:=Aside0.mk (Below.refl w.heap.size w)
 have H : (if 0 ≤ (wrap64 ((wrap64 (a1 * a0_0)) + a2)) then (if (wrap64 ((wrap64 (a1 * a0_0)) + a2)) < (l0_1.length : Int) then (some (rd l0_1 (wrap64 ((wrap64 (a1 * a0_0)) + a2)))) else (none)) else (none)) = some r:=h
 clear h
 obtain ⟨ji4,hji4⟩ : ∃ j_ : Int,(wrap64 ((wrap64 (a1 * a0_0)) + a2)) = j_:=⟨_,rfl⟩
 replace H : (if 0 ≤ (ji4) then (if (ji4) < (l0_1.length : Int) then (some (rd l0_1 (ji4))) else (none)) else (none)) = some r:=by first|(rw [hji4] at H;exact H)|(simp only [hji4] at H ⊢;exact H)
 have hji4w : (IntKind.i64.wrap ((wrap64 (a1 * a0_0)) + a2)) = ji4:=(i64_w _).trans hji4
 by_cases c5 : 0 ≤ (ji4)
 ·rw [if_pos c5] at H
  have c5b0 : decide (0 ≤ (ji4)) = true:=decide_eq_true c5
  clear c5
  by_cases c6 : (ji4) < (l0_1.length : Int)
  ·rw [if_pos c6] at H
   have c6b0 : decide ((ji4) < (l0_1.length : Int)) = true:=decide_eq_true c6
   clear c6
   obtain rfl:=Option.some.inj H
   go_enter Try.func61,Try.ntmps61
   go_wp2_with (first|((with_reducible refine gate_dst (N:=3) rfl ?_);refine box_event ?hg (N:=3) ?hd (cs:=#[.int .i64 a0_0,.slice A0_1 l0_1.length c0_1]) (t:=28) ?hr ?_;(case hd => rfl);(case hg => rfl);(case hr => first|(go_simp;done)|(go_simp;rfl));intro gb200 hg w7 hbox hb;have n0_:=Aside0.mk (below_step (be0_ HB.out) hb);have n1_:=Aside0.mk (hbox);have n2_:=Aside0.mk ((by rw [hg];exact (below_size (be0_ HB.out)) : w.heap.size ≤ gb200));have n3_:=Aside0.mk ((by rw [hg];exact (below_size (be0_ HB.out)) : w.heap.size ≤ gb200));clear HB;have HB:=n0_;have BK200:=n1_;have GW200:=n2_;have GE200:=n3_;clear n0_ n1_ n2_ n3_;clear hb hbox hg;have hcz8_0 : w7.cell? ⟨gb200,0,none⟩ = some (.int .i64 a0_0):=(blk_cell BK200.out 0).trans rfl;have hcz8_1 : w7.cell? ⟨gb200,1,none⟩ = some (.slice A0_1 l0_1.length c0_1):=(blk_cell BK200.out 1).trans rfl;have hfz8_0:=blk_frozen BK200.out 0;have hfz8_1:=blk_frozen BK200.out 1;have p201 : 0 ≤ ((ji4) : Int):=of_decide_eq_true (by first|(with_reducible assumption)|assumption);have q201 : (ji4) < (l0_1.length : Int):=of_decide_eq_true (by first|(with_reducible assumption)|assumption);obtain ⟨ad201,e201,hx201_0⟩:=Kd.at_int HR0_1.out (ji4) p201 q201;cases e201;replace hx201_0:=(HB.out.cell (World.block_lt_of_cell? w _ hx201_0)).trans hx201_0;replace p201:=eq_true p201;replace q201:=eq_true q201))
   go_ret
   exact ⟨by first|rfl|(simp [errW_none,errW_some] <;> rfl)|(simp only [← hji4];first|rfl|(simp [errW_none,errW_some] <;> rfl))|(simp [*,errW_none,errW_some] <;> rfl),be1_ HB.out GE200.out⟩
  ·rw [if_neg c6] at H
   exact absurd H (by simp)
 ·rw [if_neg c5] at H
  exact absurd H (by simp)
end Go.Proofs.Ytengegdaiphfeaa.X
end
section
namespace Go.Proofs.Ytengegdaiphfeaa.X
open Go.RowKit Go.Proofs.YtengegdaiphfeaaW.PrintWords Go.Proofs.YtengegdaiphfeaaW.PrintLast Go.Proofs.YtengegdaiphfeaaW.PrintMore
attribute [local go_sem] max2_int min2_int max_two min_two max_three min_three max_four min_four
set_option linter.unusedVariables false
set_option linter.unusedSimpArgs false
def impl_MulGrades_1.l0 : Nat → Int → Int → Int → Int → Int → Int → List Int → Int → List Int → Option (Int)
 | 0,_,_,_,_,_,_,_,_,_ => none
 | k + 1,x0,x1,x7,x10,x11,x3000,x3001,x4000,x4001 => if x11 < x10 then ((impl_Matrix_at.f x3000 x3001 x0 x11).bind fun t296 => ((impl_Matrix_at.f x4000 x4001 x11 x1).bind fun t297 => (impl_MulGrades_1.l0 k x0 x1 (mn x7 (mx t296 t297)) x10 (wrap64 (x11 + 1)) x3000 x3001 x4000 x4001))) else (some x7)
def impl_MulGrades_1.f (k : Nat) (a0 : Int) (a1 : Int) (a2_0 : Int) (l2_1 : List Int) (a3_0 : Int) (l3_1 : List Int) : Option (Int):=impl_MulGrades_1.l0 k a0 a1 3 a2_0 0 a2_0 l2_1 a3_0 l3_1
theorem impl_MulGrades_1.mono_l : ∀ k,(∀ y0 y1 y2 y3 y4 y5 y6 y7 y8,LeO (impl_MulGrades_1.l0 k y0 y1 y2 y3 y4 y5 y6 y7 y8) (impl_MulGrades_1.l0 (k + 1) y0 y1 y2 y3 y4 y5 y6 y7 y8))
 | 0 => fun _ _ _ _ _ _ _ _ _ r h => by simp [impl_MulGrades_1.l0] at h
 | k + 1 => by
  have ih0:=impl_MulGrades_1.mono_l k
  ·intro y0 y1 y2 y3 y4 y5 y6 y7 y8
   unfold impl_MulGrades_1.l0
   repeat' first
   | (with_reducible exact ih0 _ _ _ _ _ _ _ _ _)
   | (with_reducible exact LeO.refl _)
   | (with_reducible exact LeO.none _)
   | (with_reducible refine LeO.ite ?_ ?_)
   | (with_reducible refine LeO.bind ?_ (fun _ => ?_))
   | exact ih0 _ _ _ _ _ _ _ _ _
   | exact LeO.none _
   | refine LeO.ite ?_ ?_
   | refine LeO.bind ?_ (fun _ => ?_)
theorem impl_MulGrades_1.mono : ∀ a0 a1 a2 a3 a4 a5 k,LeO (impl_MulGrades_1.f k a0 a1 a2 a3 a4 a5) (impl_MulGrades_1.f (k + 1) a0 a1 a2 a3 a4 a5):=by
 intro a0 a1 a2 a3 a4 a5 k
 have ih0:=impl_MulGrades_1.mono_l k
 unfold impl_MulGrades_1.f
 repeat' first
   | (with_reducible exact ih0 _ _ _ _ _ _ _ _ _)
   | (with_reducible exact LeO.refl _)
   | (with_reducible exact LeO.none _)
   | (with_reducible refine LeO.ite ?_ ?_)
   | (with_reducible refine LeO.bind ?_ (fun _ => ?_))
   | exact ih0 _ _ _ _ _ _ _ _ _
   | exact LeO.none _
   | refine LeO.ite ?_ ?_
   | refine LeO.bind ?_ (fun _ => ?_)
def impl_MulGrades_1.T5 : Bool × List (List Nat × List Nat):=(true,[([],[]),([],[]),([],[]),([],[]),([1,2,3],[1,2,3]),([],[]),([],[]),([],[]),([5,6,7,4],[5,6,7]),([4,8],[4,8]),([0,9],[0,9]),([10,8,0,1,2,3,4,5,6,7,8,9,10],[0,10])])
def impl_MulGrades_1.B5 : List Nat:=[0,0,0,0,14,0,0,0,254,510,1023,2047]
theorem impl_MulGrades_1.tab5 : rtab .any (opsOf Try.f69 5) = impl_MulGrades_1.T5:=by kernel_rfl
theorem impl_MulGrades_1.bits5 : waitsOk impl_MulGrades_1.T5.2 impl_MulGrades_1.B5 = true:=by kernel_rfl
set_option maxHeartbeats 8000000 in
set_option maxRecDepth 100000 in
theorem impl_MulGrades_1.calls (k : Nat) (a0 : Int) (a1 : Int) (g2 : Nat) (a2_0 : Int) (A2_1 : Option Addr) (c2_1 : Nat) (l2_1 : List Int) (g3 : Nat) (a3_0 : Int) (A3_1 : Option Addr) (c3_1 : Nat) (l3_1 : List Int) (r : Int) (w : World) (hr2_1 : Kd.C (Kd.int .i64) w A2_1 l2_1.length l2_1) (hc2_1 : l2_1.length ≤ c2_1) (hr3_1 : Kd.C (Kd.int .i64) w A3_1 l3_1.length l3_1) (hc3_1 : l3_1.length ≤ c3_1) (hb2 : w.heap[g2]? = some (.cells #[.int .i64 a2_0,.slice A2_1 l2_1.length c2_1] 28 (0,0))) (hb3 : w.heap[g3]? = some (.cells #[.int .i64 a3_0,.slice A3_1 l3_1.length c3_1] 28 (0,0))) (h : impl_MulGrades_1.f k a0 a1 a2_0 l2_1 a3_0 l3_1 = some r) :
  Calls Try.prog 69 #[.int .i64 a0,.int .i64 a1,.pointer (some ⟨g2,0,none⟩),.pointer (some ⟨g3,0,none⟩)] w fun e w' => e = .returned (.int .i64 r) ∧ Below w.heap.size w w':=by
 have hu28:=Try.underlying28
 have HR2_1:=Aside0.mk hr2_1
 have HC2_1:=Aside0.mk hc2_1
 clear hr2_1 hc2_1
 have HR3_1:=Aside0.mk hr3_1
 have HC3_1:=Aside0.mk hc3_1
 clear hr3_1 hc3_1
 have BK2:=Aside0.mk hb2
 clear hb2
 have BK3:=Aside0.mk hb3
 clear hb3
 have HB:=Aside0.mk (Below.refl w.heap.size w)
 have H : (impl_MulGrades_1.l0 k a0 a1 3 a2_0 0 a2_0 l2_1 a3_0 l3_1) = some r:=h
 clear h
 have H':=Aside0.mk H
 clear H
 have hcz5_0 : w.cell? ⟨g2,0,none⟩ = some (.int .i64 a2_0):=(blk_cell BK2.out 0).trans rfl
 have hcz5_1 : w.cell? ⟨g2,1,none⟩ = some (.slice A2_1 l2_1.length c2_1):=(blk_cell BK2.out 1).trans rfl
 have hfz5_0:=blk_frozen BK2.out 0
 have hfz5_1:=blk_frozen BK2.out 1
 go_enter Try.func69,Try.ntmps69
 go_wp2
 go_loopg [7,11] k (fun kq v7 v11 w' => ∃ (x7_1 : Int) (x11_1 : Int),v7 = .int .i64 x7_1 ∧ v11 = .int .i64 x11_1 ∧ Aside0 (impl_MulGrades_1.l0 kq a0 a1 x7_1 a2_0 x11_1 a2_0 l2_1 a3_0 l3_1 = some r) ∧ Aside0 (kq ≤ k) ∧ Aside0 (w'.heap[g2]? = some (.cells #[.int .i64 a2_0,(.slice A2_1 l2_1.length c2_1)] 28 (0,0))) ∧ Aside0 (w'.heap[g3]? = some (.cells #[.int .i64 a3_0,(.slice A3_1 l3_1.length c3_1)] 28 (0,0))) ∧ Aside0 (Below w.heap.size w w'))
 case atStart => exact ⟨(3),(0),(by first|rfl|(simp;done)|(simp [*];done)),(by first|rfl|(simp;done)|(simp [*];done)),H',⟨Nat.le_refl _⟩,⟨pe_ BK2.out⟩,⟨pe_ BK3.out⟩,⟨be0_ HB.out⟩⟩
 case round =>
  clear H'
  try clear c2
  try clear p2
  try clear c3
  try clear hcz5_0
  try clear hcz5_1
  try clear hfz5_0
  try clear hfz5_1
  obtain ⟨x7_1,x11_1,rfl,rfl,HA,HK1,BK2,BK3,HB⟩:=hrel
  cases gk with
  | zero => exact absurd HA.out (by simp [impl_MulGrades_1.l0])
  | succ k1 =>
   have H:=HA.out
   clear HA
   simp only [impl_MulGrades_1.l0] at H
   by_cases c6 : x11_1 < a2_0
   ·rw [if_pos c6] at H
    have c6b0 : decide (x11_1 < a2_0) = true:=decide_eq_true c6
    clear c6
    replace H:=Option.bind_eq_some_iff.mp H
    obtain ⟨t296,A70,H⟩:=H
    replace H : ((impl_Matrix_at.f a3_0 l3_1 x11_1 a1).bind fun t297 => (impl_MulGrades_1.l0 k1 a0 a1 (mn x7_1 (mx t296 t297)) a2_0 (wrap64 (x11_1 + 1)) a2_0 l2_1 a3_0 l3_1)) = some r:=H
    have A7:=Aside0.mk A70
    clear A70
    replace H:=Option.bind_eq_some_iff.mp H
    obtain ⟨t297,A80,H⟩:=H
    replace H : (impl_MulGrades_1.l0 k1 a0 a1 (mn x7_1 (mx t296 t297)) a2_0 (wrap64 (x11_1 + 1)) a2_0 l2_1 a3_0 l3_1) = some r:=H
    have A8:=Aside0.mk A80
    clear A80
    obtain ⟨ji9,hji9⟩ : ∃ j_ : Int,(mx t296 t297) = j_:=⟨_,rfl⟩
    replace H : (impl_MulGrades_1.l0 k1 a0 a1 (mn x7_1 (ji9)) a2_0 (wrap64 (x11_1 + 1)) a2_0 l2_1 a3_0 l3_1) = some r:=by first|(rw [hji9] at H;exact H)|(simp only [hji9] at H ⊢;exact H)
    (try rw [hji9] at A7)
    (try rw [hji9] at A8)
    have hji9_ : (if t296 < t297 then t297 else t296) = ji9:=hji9
    obtain ⟨ji10,hji10⟩ : ∃ j_ : Int,(mn x7_1 (ji9)) = j_:=⟨_,rfl⟩
    replace H : (impl_MulGrades_1.l0 k1 a0 a1 ji10 a2_0 (wrap64 (x11_1 + 1)) a2_0 l2_1 a3_0 l3_1) = some r:=by first|(rw [hji10] at H;exact H)|(simp only [hji10] at H ⊢;exact H)
    (try rw [hji10] at A7)
    (try rw [hji10] at A8)
    have hji10_ : (if (ji9) < x7_1 then (ji9) else x7_1) = ji10:=hji10
    have H':=Aside0.mk H
    clear H
    try go_wp2
    have n0_:=Aside0.mk (blk_drew BK2.out)
    have n1_:=Aside0.mk (blk_drew BK3.out)
    have n2_:=Aside0.mk (below_drew1 HB.out)
    clear BK2
    clear BK3
    clear HB
    have BK2:=n0_
    have BK3:=n1_
    have HB:=n2_
    clear n0_ n1_ n2_
    refine start_ (n:=12) (S:=fun w' => w'.cell? ⟨g2,0,none⟩ = some (.int .i64 a2_0) ∧ w'.cell? ⟨g2,1,none⟩ = some (.slice A2_1 l2_1.length c2_1) ∧ w'.cell? ⟨g3,0,none⟩ = some (.int .i64 a3_0) ∧ w'.cell? ⟨g3,1,none⟩ = some (.slice A3_1 l3_1.length c3_1)) (ds:=[]) #[false,false,false,false,false,false,false,false,false,false,false,false] (by kernel_rfl) rfl rfl ⟨(blk_cell BK2.out 0).trans rfl,(blk_cell BK2.out 1).trans rfl,(blk_cell BK3.out 0).trans rfl,(blk_cell BK3.out 1).trans rfl⟩ (fun hHeld => ?_);refine with_tabW impl_MulGrades_1.tab5 impl_MulGrades_1.bits5 (fun HT_ HW_ => ?_)
    generalize wr.drew = w11 at BK2 BK3 HB hHeld ⊢
    refine pure_ (i:=0) (N:=some 14) (v:=?_) (a':=?_) #[true,false,false,false,false,false,false,false,false,false,false,false] rfl rfl (any_of HT_.out (by kernel_rfl)) (fun _ _ _ h => h) (Or.inl ⟨by rfl,?_⟩) ?_ ?_
    rotate_left
    ·intro w'
     go_simp
     with_reducible rfl
    rotate_left
    ·simp only [Act.put,List.setIfInBounds_toArray,List.set_cons_zero,List.set_cons_succ,i64_w,i32_w]
     rfl
    refine pure_ (i:=2) (N:=some 16) (v:=?_) (a':=?_) #[true,false,true,false,false,false,false,false,false,false,false,false] rfl rfl (any_of HT_.out (by kernel_rfl)) (fun _ _ _ h => h) (Or.inl ⟨by rfl,?_⟩) ?_ ?_
    rotate_left
    ·intro w'
     go_simp
     with_reducible rfl
    rotate_left
    ·simp only [Act.put,List.setIfInBounds_toArray,List.set_cons_zero,List.set_cons_succ,i64_w,i32_w]
     rfl
    refine pure_ (i:=3) (N:=some 17) (v:=?_) (a':=?_) #[true,false,true,true,false,false,false,false,false,false,false,false] rfl rfl (any_of HT_.out (by kernel_rfl)) (fun _ _ _ h => h) (Or.inl ⟨by rfl,?_⟩) ?_ ?_
    rotate_left
    ·intro w'
     go_simp
     with_reducible rfl
    rotate_left
    ·simp only [Act.put,List.setIfInBounds_toArray,List.set_cons_zero,List.set_cons_succ,i64_w,i32_w]
     rfl
    refine pure_ (i:=6) (N:=some 20) (v:=?_) (a':=?_) #[true,false,true,true,false,false,true,false,false,false,false,false] rfl rfl (any_of HT_.out (by kernel_rfl)) (fun _ _ _ h => h) (Or.inl ⟨by rfl,?_⟩) ?_ ?_
    rotate_left
    ·intro w'
     go_simp
     with_reducible rfl
    rotate_left
    ·simp only [Act.put,List.setIfInBounds_toArray,List.set_cons_zero,List.set_cons_succ,i64_w,i32_w]
     rfl
    refine pure_ (i:=7) (N:=some 21) (v:=?_) (a':=?_) #[true,false,true,true,false,false,true,true,false,false,false,false] rfl rfl (any_of HT_.out (by kernel_rfl)) (fun _ _ _ h => h) (Or.inl ⟨by rfl,?_⟩) ?_ ?_
    rotate_left
    ·intro w'
     go_simp
     with_reducible rfl
    rotate_left
    ·simp only [Act.put,List.setIfInBounds_toArray,List.set_cons_zero,List.set_cons_succ,i64_w,i32_w]
     rfl
    refine take_ (i:=1) (N:=some 15) (v:=?_) (a':=?_) #[true,true,true,true,false,false,true,true,false,false,false,false] rfl rfl (take_ofW HT_.out HW_.out (by kernel_rfl)) (fun _ _ _ h => h) (Or.inl ⟨by rfl,?_⟩) hHeld ?_ ?_
    rotate_left
    ·rintro w' ⟨s0,s1,s2,s3⟩
     go_simp
     with_reducible rfl
    rotate_left
    ·simp only [Act.put,List.setIfInBounds_toArray,List.set_cons_zero,List.set_cons_succ,i64_w,i32_w]
     rfl
    refine take_ (i:=5) (N:=some 19) (v:=?_) (a':=?_) #[true,true,true,true,false,true,true,true,false,false,false,false] rfl rfl (take_ofW HT_.out HW_.out (by kernel_rfl)) (fun _ _ _ h => h) (Or.inl ⟨by rfl,?_⟩) hHeld ?_ ?_
    rotate_left
    ·rintro w' ⟨s0,s1,s2,s3⟩
     go_simp
     with_reducible rfl
    rotate_left
    ·simp only [Act.put,List.setIfInBounds_toArray,List.set_cons_zero,List.set_cons_succ,i64_w,i32_w]
     rfl
    refine one_ (i:=4) (N:=some 18) #[true,true,true,true,true,true,true,true,false,false,false,false] rfl rfl (one_of HT_.out (by kernel_rfl)) (by decide) (fun K hK => ?_)
    refine goes_ Try.func61 (by kernel_rfl) rfl #[.agg #[.int .i64 a2_0,.slice A2_1 l2_1.length c2_1],.int .i64 a0,.int .i64 x11_1] (by rfl) rfl rfl lp_ ?_
    with_reducible refine (impl_Matrix_at.calls a2_0 _ _ l2_1 a0 x11_1 t296 _ ?side1 ?side2 A7.out).mono ?_
    (case side1 => repeat (first|exact (Kd.C_below HR2_1.out HB.out)|(with_reducible refine Kd.C_alloc ?_ _)|(with_reducible refine Kd.C_drewN ?_ _)|(with_reducible refine Kd.C_drew ?_)))
    (case side2 => exact HC2_1.out)
    rintro e w12 ⟨rfl,hb⟩
    refine ⟨_,rfl,?_⟩
    have n0_:=Aside0.mk (blk_below (g:=g2) (o:=.cells #[.int .i64 a2_0,.slice A2_1 l2_1.length c2_1] 28 (0,0)) (pe_ BK2.out) hb)
    have n1_:=Aside0.mk (blk_below (g:=g3) (o:=.cells #[.int .i64 a3_0,.slice A3_1 l3_1.length c3_1] 28 (0,0)) (pe_ BK3.out) hb)
    have n2_:=Aside0.mk (below_step (be0_ HB.out) hb)
    clear BK2
    clear BK3
    clear HB
    have BK2:=n0_
    have BK3:=n1_
    have HB:=n2_
    clear n0_ n1_ n2_
    (try clear hb)
    (try clear hb2)
    (try clear hk)
    (try clear hi)
    refine hK.out _ _ ⟨(blk_cell BK2.out 0).trans rfl,(blk_cell BK2.out 1).trans rfl,(blk_cell BK3.out 0).trans rfl,(blk_cell BK3.out 1).trans rfl⟩ (fun hHeld => ?_)
    clear hK K
    refine norm_ (a':=?_) ?_ ?_
    rotate_left
    ·show Act.put _ (some 18) _ = _
     simp only [Act.put,List.setIfInBounds_toArray,List.set_cons_zero,List.set_cons_succ,i64_w,i32_w]
     rfl
    refine one_ (i:=8) (N:=some 22) #[true,true,true,true,true,true,true,true,true,false,false,false] rfl rfl (one_of HT_.out (by kernel_rfl)) (by decide) (fun K hK => ?_)
    refine goes_ Try.func61 (by kernel_rfl) rfl #[.agg #[.int .i64 a3_0,.slice A3_1 l3_1.length c3_1],.int .i64 x11_1,.int .i64 a1] (by rfl) rfl rfl lp_ ?_
    with_reducible refine (impl_Matrix_at.calls a3_0 _ _ l3_1 x11_1 a1 t297 _ ?side1 ?side2 A8.out).mono ?_
    (case side1 => repeat (first|exact (Kd.C_below HR3_1.out HB.out)|(with_reducible refine Kd.C_alloc ?_ _)|(with_reducible refine Kd.C_drewN ?_ _)|(with_reducible refine Kd.C_drew ?_)))
    (case side2 => exact HC3_1.out)
    rintro e w13 ⟨rfl,hb⟩
    refine ⟨_,rfl,?_⟩
    have n0_:=Aside0.mk (blk_below (g:=g2) (o:=.cells #[.int .i64 a2_0,.slice A2_1 l2_1.length c2_1] 28 (0,0)) (pe_ BK2.out) hb)
    have n1_:=Aside0.mk (blk_below (g:=g3) (o:=.cells #[.int .i64 a3_0,.slice A3_1 l3_1.length c3_1] 28 (0,0)) (pe_ BK3.out) hb)
    have n2_:=Aside0.mk (below_step (be0_ HB.out) hb)
    clear BK2
    clear BK3
    clear HB
    have BK2:=n0_
    have BK3:=n1_
    have HB:=n2_
    clear n0_ n1_ n2_
    (try clear hb)
    (try clear hb2)
    (try clear hk)
    (try clear hi)
    refine hK.out _ _ ⟨(blk_cell BK2.out 0).trans rfl,(blk_cell BK2.out 1).trans rfl,(blk_cell BK3.out 0).trans rfl,(blk_cell BK3.out 1).trans rfl⟩ (fun hHeld => ?_)
    clear hK K
    refine norm_ (a':=?_) ?_ ?_
    rotate_left
    ·show Act.put _ (some 22) _ = _
     simp only [Act.put,List.setIfInBounds_toArray,List.set_cons_zero,List.set_cons_succ,i64_w,i32_w]
     rfl
    refine pure_ (i:=9) (N:=some 23) (v:=?_) (a':=?_) #[true,true,true,true,true,true,true,true,true,true,false,false] rfl rfl (any_of HT_.out (by kernel_rfl)) (fun _ _ _ h => h) (Or.inl ⟨by rfl,?_⟩) ?_ ?_
    rotate_left
    ·intro w'
     go_simp
     with_reducible rfl
    rotate_left
    ·simp only [Act.put,List.setIfInBounds_toArray,List.set_cons_zero,List.set_cons_succ,i64_w,i32_w]
     rfl
    refine pure_ (i:=10) (N:=some 24) (v:=?_) (a':=?_) #[true,true,true,true,true,true,true,true,true,true,true,false] rfl rfl (any_of HT_.out (by kernel_rfl)) (fun _ _ _ h => h) (Or.inl ⟨by rfl,?_⟩) ?_ ?_
    rotate_left
    ·intro w'
     go_simp
     with_reducible rfl
    rotate_left
    ·simp only [Act.put,List.setIfInBounds_toArray,List.set_cons_zero,List.set_cons_succ,i64_w,i32_w]
     rfl
    refine pure_ (i:=11) (N:=some 7) (v:=?_) (a':=?_) #[true,true,true,true,true,true,true,true,true,true,true,true] rfl rfl (any_of HT_.out (by kernel_rfl)) (fun _ _ _ h => h) (Or.inl ⟨by rfl,?_⟩) ?_ ?_
    rotate_left
    ·intro w'
     go_simp
     with_reducible rfl
    rotate_left
    ·simp only [Act.put,List.setIfInBounds_toArray,List.set_cons_zero,List.set_cons_succ,i64_w,i32_w]
     rfl
    refine done_ (done_of HT_.out (by kernel_rfl)) ?_
    try go_wp2
    go_roundg k1
    case measure => have:=HK1.out;omega
    case rel => exact ⟨(ji10),(wrap64 (x11_1 + 1)),(by first|rfl|(simp;done)|(simp only [← hji10] <;> (first|rfl|simp))|(simp [*];done)),(by first|rfl|(simp;done)|(simp [*];done)),H',⟨by have:=HK1.out;omega⟩,⟨pe_ BK2.out⟩,⟨pe_ BK3.out⟩,⟨be0_ HB.out⟩⟩
   ·rw [if_neg c6] at H
    have c6b0 : decide (x11_1 < a2_0) = false:=decide_eq_false c6
    clear c6
    obtain rfl:=Option.some.inj H
    go_wp2
    go_ret
    exact ⟨by first|rfl|(simp [errW_none,errW_some] <;> rfl)|(simp [*,errW_none,errW_some] <;> rfl),be0_ HB.out⟩
end Go.Proofs.Ytengegdaiphfeaa.X
end
section
namespace Go.Proofs.Ytengegdaiphfeaa.X
open Go.RowKit Go.Proofs.YtengegdaiphfeaaW.PrintWords Go.Proofs.YtengegdaiphfeaaW.PrintLast Go.Proofs.YtengegdaiphfeaaW.PrintMore
attribute [local go_sem] max2_int min2_int max_two min_two max_three min_three max_four min_four
set_option linter.unusedVariables false
set_option linter.unusedSimpArgs false
def impl_filled__impl_MulGrades_1.f (k : Nat) (a0 : Int) (a1_0 : Int) (l1_1 : List Int) (a2_0 : Int) (l2_1 : List Int) : Option (Int × List Int):=impl_filled.f (fun y0 y1 => impl_MulGrades_1.f k  y0 y1 a1_0 l1_1 a2_0 l2_1) k a0
theorem impl_filled__impl_MulGrades_1.mono : ∀ b0 b1 b2 b3 b4 k,LeO (impl_filled__impl_MulGrades_1.f k b0 b1 b2 b3 b4) (impl_filled__impl_MulGrades_1.f (k + 1) b0 b1 b2 b3 b4):=by
 intro b0 b1 b2 b3 b4 k
 exact impl_filled.monoP (fun _ _ => impl_MulGrades_1.mono _ _ _ _ _ _ _) _ k
set_option maxHeartbeats 2000000 in
theorem impl_filled__impl_MulGrades_1.calls (k : Nat) (a0 : Int) (g1 : Nat) (a1_0 : Int) (A1_1 : Option Addr) (c1_1 : Nat) (l1_1 : List Int) (g2 : Nat) (a2_0 : Int) (A2_1 : Option Addr) (c2_1 : Nat) (l2_1 : List Int) (r1 : Int) (r2 : List Int) (w : World) (hr1_1 : Kd.C (Kd.int .i64) w A1_1 l1_1.length l1_1) (hc1_1 : l1_1.length ≤ c1_1) (hr2_1 : Kd.C (Kd.int .i64) w A2_1 l2_1.length l2_1) (hc2_1 : l2_1.length ≤ c2_1) (hb1 : w.heap[g1]? = some (.cells #[.int .i64 a1_0,.slice A1_1 l1_1.length c1_1] 28 (0,0))) (hb2 : w.heap[g2]? = some (.cells #[.int .i64 a2_0,.slice A2_1 l2_1.length c2_1] 28 (0,0))) (h : impl_filled__impl_MulGrades_1.f k a0 a1_0 l1_1 a2_0 l2_1 = some (r1,r2)) :
  Calls Try.prog 59 #[.int .i64 a0,.func (.func 69) #[] #[.pointer (some ⟨g1,0,none⟩),.pointer (some ⟨g2,0,none⟩)]] w fun e w' => ∃ v1_ : Value,e = .returned (.agg #[.int .i64 r1,v1_]) ∧ Kd.R (Kd.int .i64) 3 w' w.heap.size (fun _ => True) v1_ r2 ∧ Below w.heap.size w w':=by
 refine impl_filled.calls k a0 69 #[] #[.pointer (some ⟨g1,0,none⟩),.pointer (some ⟨g2,0,none⟩)] (fun y0 y1 => impl_MulGrades_1.f k  y0 y1 a1_0 l1_1 a2_0 l2_1) r1 r2 w  ⟨_,Try.func69,rfl,rfl⟩ ?_ h
 intro ay0 ay1 z0 W_ hB_  h_
 refine calls_of_args (args':=#[.int .i64 ay0,.int .i64 ay1,.pointer (some ⟨g1,0,none⟩),.pointer (some ⟨g2,0,none⟩)]) (by simp) ?_
 refine (impl_MulGrades_1.calls k ay0 ay1 g1 a1_0 A1_1 c1_1 l1_1 g2 a2_0 A2_1 c2_1 l2_1 z0 W_ (Kd.C_below hr1_1 hB_) hc1_1 (Kd.C_below hr2_1 hB_) hc2_1 (blk_below hb1 hB_) (blk_below hb2 hB_) h_).mono ?_
 exact fun e w' h => h
end Go.Proofs.Ytengegdaiphfeaa.X
end
section
namespace Go.Proofs.Ytengegdaiphfeaa.X
open Go.RowKit Go.Proofs.YtengegdaiphfeaaW.PrintWords Go.Proofs.YtengegdaiphfeaaW.PrintLast Go.Proofs.YtengegdaiphfeaaW.PrintMore
attribute [local go_sem] max2_int min2_int max_two min_two max_three min_three max_four min_four
set_option linter.unusedVariables false
set_option linter.unusedSimpArgs false
def impl_CostValid.f (a0 : Int) : Option (Bool):=if a0 ≥ 0 then (some (decide (a0 ≤ 1000000))) else (some false)
set_option maxHeartbeats 8000000 in
set_option maxRecDepth 100000 in
theorem impl_CostValid.calls (a0 : Int) (r : Bool) (w : World) (h : impl_CostValid.f a0 = some r) :
  Calls Try.prog 100 #[.int .i64 a0] w fun e w' => e = .returned (.bool r) ∧ Drawn0 w w':=by
 have H : (if a0 ≥ 0 then (some (decide (a0 ≤ 1000000))) else (some false)) = some r:=h
 clear h
 by_cases c2 : a0 ≥ 0
 ·rw [if_pos c2] at H
  have c2b0 : decide (0 ≤ a0) = true:=decide_eq_true c2
  clear c2
  obtain rfl:=Option.some.inj H
  go_enter Try.func100,Try.ntmps100
  go_wp2
  go_ret
  exact ⟨by first|rfl|(simp;done)|(simp [*];done),by repeat (first|exact Drawn0.refl _|apply Drawn0.step)⟩
 ·rw [if_neg c2] at H
  have c2b0 : decide (0 ≤ a0) = false:=decide_eq_false c2
  clear c2
  obtain rfl:=Option.some.inj H
  go_enter Try.func100,Try.ntmps100
  go_wp2
  go_ret
  exact ⟨by first|rfl|(simp;done)|(simp [*];done),by repeat (first|exact Drawn0.refl _|apply Drawn0.step)⟩
end Go.Proofs.Ytengegdaiphfeaa.X
end
section
namespace Go.Proofs.Ytengegdaiphfeaa.X
open Go.RowKit Go.Proofs.YtengegdaiphfeaaW.PrintWords Go.Proofs.YtengegdaiphfeaaW.PrintLast Go.Proofs.YtengegdaiphfeaaW.PrintMore
attribute [local go_sem] max2_int min2_int max_two min_two max_three min_three max_four min_four
set_option linter.unusedVariables false
set_option linter.unusedSimpArgs false
def impl_MatrixValid_1.f (a0 : Int) : Option (Bool):=(impl_CostValid.f a0).bind fun t191 => (some (!t191))
set_option maxHeartbeats 8000000 in
set_option maxRecDepth 100000 in
theorem impl_MatrixValid_1.calls (a0 : Int) (r : Bool) (w : World) (h : impl_MatrixValid_1.f a0 = some r) :
  Calls Try.prog 99 #[.int .i64 a0] w fun e w' => e = .returned (.bool r) ∧ Drawn0 w w':=by
 have H : ((impl_CostValid.f a0).bind fun t191 => (some (!t191))) = some r:=h
 clear h
 replace H:=Option.bind_eq_some_iff.mp H
 obtain ⟨t191,A20,H⟩:=H
 replace H : (some (!t191)) = some r:=H
 have A2:=Aside0.mk A20
 clear A20
 obtain rfl:=Option.some.inj H
 go_enter Try.func99,Try.ntmps99
 go_wp2_with (first|((with_reducible refine gate_callee (f:=100) rfl ?_);refine goesL_ (some 4) rfl rfl Try.func100 (by kernel_rfl) rfl #[.int .i64 a0] rfl lp_ ?_;(with_reducible refine (impl_CostValid.calls a0 t191 _ A2.out).mono ?_);rintro e w' ⟨rfl,⟨nd,rfl⟩⟩;refine ⟨_,rfl,?_⟩))
 go_ret
 exact ⟨by first|rfl|(simp;done)|(simp [*];done),by repeat (first|exact Drawn0.refl _|apply Drawn0.step)⟩
end Go.Proofs.Ytengegdaiphfeaa.X
end
section
namespace Go.Proofs.Ytengegdaiphfeaa.X
open Go.RowKit Go.Proofs.YtengegdaiphfeaaW.PrintWords Go.Proofs.YtengegdaiphfeaaW.PrintLast Go.Proofs.YtengegdaiphfeaaW.PrintMore
attribute [local go_sem] max2_int min2_int max_two min_two max_three min_three max_four min_four
set_option linter.unusedVariables false
set_option linter.unusedSimpArgs false
def slices_IndexFunc_int_int.l0 (p1 : Int → Option (Bool)) : Nat → List Int → Int → Int → Option (Int)
 | 0,_,_,_ => none
 | k + 1,x0,x7,x8 => if x8 < x7 then (if 0 ≤ x8 then (if x8 < (x0.length : Int) then ((p1 (rd x0 x8)).bind fun t190 => (if t190 = true then (some x8) else (slices_IndexFunc_int_int.l0 p1 k x0 x7 (wrap64 (x8 + 1))))) else (none)) else (none)) else (some (-1))
def slices_IndexFunc_int_int.f (p1 : Int → Option (Bool)) (k : Nat) (l0 : List Int)  : Option (Int):=slices_IndexFunc_int_int.l0 p1 k l0 (l0.length : Int) 0
theorem slices_IndexFunc_int_int.mono_l (p1 : Int → Option (Bool)) : ∀ k,(∀ y0 y1 y2,LeO (slices_IndexFunc_int_int.l0 p1 k y0 y1 y2) (slices_IndexFunc_int_int.l0 p1 (k + 1) y0 y1 y2))
 | 0 => fun _ _ _ r h => by simp [slices_IndexFunc_int_int.l0] at h
 | k + 1 => by
  have ih0:=slices_IndexFunc_int_int.mono_l p1 k
  ·intro y0 y1 y2
   unfold slices_IndexFunc_int_int.l0
   repeat' first
   | (with_reducible exact ih0 _ _ _)
   | (with_reducible exact LeO.refl _)
   | (with_reducible exact LeO.none _)
   | (with_reducible refine LeO.ite ?_ ?_)
   | (with_reducible refine LeO.bind ?_ (fun _ => ?_))
   | exact ih0 _ _ _
   | exact LeO.none _
   | refine LeO.ite ?_ ?_
   | refine LeO.bind ?_ (fun _ => ?_)
theorem slices_IndexFunc_int_int.mono (p1 : Int → Option (Bool)) : ∀ a0 k,LeO (slices_IndexFunc_int_int.f p1 k a0) (slices_IndexFunc_int_int.f p1 (k + 1) a0):=by
 intro a0 k
 have ih0:=slices_IndexFunc_int_int.mono_l p1 k
 unfold slices_IndexFunc_int_int.f
 repeat' first
   | (with_reducible exact ih0 _ _ _)
   | (with_reducible exact LeO.refl _)
   | (with_reducible exact LeO.none _)
   | (with_reducible refine LeO.ite ?_ ?_)
   | (with_reducible refine LeO.bind ?_ (fun _ => ?_))
   | exact ih0 _ _ _
   | exact LeO.none _
   | refine LeO.ite ?_ ?_
   | refine LeO.bind ?_ (fun _ => ?_)
set_option maxHeartbeats 8000000 in
set_option maxRecDepth 100000 in
theorem slices_IndexFunc_int_int.calls (k : Nat) (A0 : Option Addr) (c0 : Nat) (l0 : List Int) (q1 : FuncId) (F1 C1 : Array Value) (p1 : Int → Option (Bool)) (r : Int) (w : World) (hr0 : Kd.C (Kd.int .i64) w A0 l0.length l0) (hc0 : l0.length ≤ c0) (hq1 : FnAt Try.prog q1) (hp1 : ∀ (ay0 : Int) (z0 : Bool) (W_ : World),Below w.heap.size w W_ → p1 ay0 = some z0 → Calls Try.prog q1 (F1 ++ #[.int .i64 ay0] ++ C1) W_ fun e w' => e = .returned (.bool z0) ∧ Below W_.heap.size W_ w') (h : slices_IndexFunc_int_int.f p1 k l0 = some r) :
  Calls Try.prog 104 #[.slice A0 l0.length c0,.func (.func q1) F1 C1] w fun e w' => e = .returned (.int .i64 r) ∧ Below w.heap.size w w':=by
 have HR0:=Aside0.mk hr0
 have HC0:=Aside0.mk hc0
 clear hr0 hc0
 have HQ1:=Aside0.mk hq1
 have HP1:=Aside0.mk hp1
 clear hq1 hp1
 have HB:=Aside0.mk (Below.refl w.heap.size w)
 have H : (slices_IndexFunc_int_int.l0 p1 k l0 (l0.length : Int) 0) = some r:=h
 clear h
 have H':=Aside0.mk H
 clear H
 go_enter Try.func104,Try.ntmps104
 go_wp2
 go_loopg [8] k (fun kq v8 w' => ∃ (x8_1 : Int),v8 = .int .i64 x8_1 ∧ Aside0 (slices_IndexFunc_int_int.l0 p1 kq l0 (l0.length : Int) x8_1 = some r) ∧ Aside0 (kq ≤ k) ∧ Aside0 (Below w.heap.size w w'))
 case atStart => exact ⟨(0),(by first|rfl|(simp;done)|(simp [*];done)),H',⟨Nat.le_refl _⟩,⟨be0_ HB.out⟩⟩
 case round =>
  clear H'
  try clear c1
  try clear p1
  try clear q1
  try clear p2
  obtain ⟨x8_1,rfl,HA,HK1,HB⟩:=hrel
  cases gk with
  | zero => exact absurd HA.out (by simp [slices_IndexFunc_int_int.l0])
  | succ k1 =>
   have H:=HA.out
   clear HA
   simp only [slices_IndexFunc_int_int.l0] at H
   by_cases c3 : x8_1 < (l0.length : Int)
   ·rw [if_pos c3] at H
    have c3b0 : decide (x8_1 < (l0.length : Int)) = true:=decide_eq_true c3
    clear c3
    by_cases c4 : 0 ≤ x8_1
    ·rw [if_pos c4] at H
     have c4b0 : decide (0 ≤ x8_1) = true:=decide_eq_true c4
     clear c4
     by_cases c5 : x8_1 < (l0.length : Int)
     ·rw [if_pos c5] at H
      have c5b0 : decide (x8_1 < (l0.length : Int)) = true:=decide_eq_true c5
      clear c5
      replace H:=Option.bind_eq_some_iff.mp H
      obtain ⟨t190,A60,H⟩:=H
      replace H : (if t190 = true then (some x8_1) else (slices_IndexFunc_int_int.l0 p1 k1 l0 (l0.length : Int) (wrap64 (x8_1 + 1)))) = some r:=H
      have A6:=Aside0.mk A60
      clear A60
      by_cases c7 : t190 = true
      ·subst c7
       have H1 : (some x8_1) = some r:=by rw [if_pos rfl] at H;exact H
       clear H
       have H:=H1
       clear H1
       obtain rfl:=Option.some.inj H
       have p189 : 0 ≤ (x8_1 : Int):=of_decide_eq_true (by first|(with_reducible assumption)|assumption)
       have q189 : x8_1 < (l0.length : Int):=of_decide_eq_true (by first|(with_reducible assumption)|assumption)
       obtain ⟨ad189,e189,hx189_0⟩:=Kd.at_int HR0.out x8_1 p189 q189
       cases e189
       replace hx189_0:=(HB.out.cell (World.block_lt_of_cell? w _ hx189_0)).trans hx189_0
       replace p189:=eq_true p189
       replace q189:=eq_true q189
       go_wp2_with (first|((with_reducible refine gate_dyn rfl ?_);refine goesLD_ (some 16) rfl rfl HQ1.out #[.int .i64 (rd l0 x8_1)] rfl rfl lp_ ?_;(with_reducible refine (HP1.out (rd l0 x8_1) true _ ?side1 A6.out).mono ?_);(case side1 => repeat (first|(with_reducible first|exact HB.out|apply below_alloc|apply pw_below_drewN|apply below_drew1)|exact HB.out));rintro e w8 ⟨rfl,hb⟩;refine ⟨_,rfl,?_⟩;have n0_:=Aside0.mk (below_step (be0_ HB.out) hb);clear HB;have HB:=n0_;clear n0_;(try clear hb);(try clear hb2);(try clear hk);(try clear hi)))
       go_ret
       exact ⟨by first|rfl|(simp [errW_none,errW_some] <;> rfl)|(simp [*,errW_none,errW_some] <;> rfl),be0_ HB.out⟩
      ·replace c7:=Bool.eq_false_iff.mpr c7
       subst c7
       have H1 : (slices_IndexFunc_int_int.l0 p1 k1 l0 (l0.length : Int) (wrap64 (x8_1 + 1))) = some r:=by rw [if_neg (show ¬ (false = true) by decide)] at H;exact H
       clear H
       have H:=H1
       clear H1
       have H':=Aside0.mk H
       clear H
       have p189 : 0 ≤ (x8_1 : Int):=of_decide_eq_true (by first|(with_reducible assumption)|assumption)
       have q189 : x8_1 < (l0.length : Int):=of_decide_eq_true (by first|(with_reducible assumption)|assumption)
       obtain ⟨ad189,e189,hx189_0⟩:=Kd.at_int HR0.out x8_1 p189 q189
       cases e189
       replace hx189_0:=(HB.out.cell (World.block_lt_of_cell? w _ hx189_0)).trans hx189_0
       replace p189:=eq_true p189
       replace q189:=eq_true q189
       go_wp2_with (first|((with_reducible refine gate_dyn rfl ?_);refine goesLD_ (some 16) rfl rfl HQ1.out #[.int .i64 (rd l0 x8_1)] rfl rfl lp_ ?_;(with_reducible refine (HP1.out (rd l0 x8_1) false _ ?side1 A6.out).mono ?_);(case side1 => repeat (first|(with_reducible first|exact HB.out|apply below_alloc|apply pw_below_drewN|apply below_drew1)|exact HB.out));rintro e w9 ⟨rfl,hb⟩;refine ⟨_,rfl,?_⟩;have n0_:=Aside0.mk (below_step (be0_ HB.out) hb);clear HB;have HB:=n0_;clear n0_;(try clear hb);(try clear hb2);(try clear hk);(try clear hi)))
       go_roundg k1
       case measure => have:=HK1.out;omega
       case rel => exact ⟨(wrap64 (x8_1 + 1)),(by first|rfl|(simp;done)|(simp [*];done)),H',⟨by have:=HK1.out;omega⟩,⟨be0_ HB.out⟩⟩
     ·rw [if_neg c5] at H
      exact absurd H (by simp)
    ·rw [if_neg c4] at H
     exact absurd H (by simp)
   ·rw [if_neg c3] at H
    have c3b0 : decide (x8_1 < (l0.length : Int)) = false:=decide_eq_false c3
    clear c3
    obtain rfl:=Option.some.inj H
    go_wp2
    go_ret
    exact ⟨by first|rfl|(simp [errW_none,errW_some] <;> rfl)|(simp [*,errW_none,errW_some] <;> rfl),be0_ HB.out⟩
theorem slices_IndexFunc_int_int.monoP_l {p p' : Int → Option (Bool)} (hp : ∀ y0,LeO (p y0) (p' y0)) : ∀ k,(∀ y0 y1 y2,LeO (slices_IndexFunc_int_int.l0 p k y0 y1 y2) (slices_IndexFunc_int_int.l0 p' k y0 y1 y2))
 | 0 => by
  skip
  all_goals (intros;intro r h;first|(simp [slices_IndexFunc_int_int.l0] at h;done)|(unfold slices_IndexFunc_int_int.l0 at h;simp at h;done))
 | k + 1 => by
  have ih:=slices_IndexFunc_int_int.monoP_l hp k
  have ih0:=ih
  ·intro y0 y1 y2
   unfold slices_IndexFunc_int_int.l0
   repeat'
    first
    | (with_reducible exact LeO.refl _)
    | (with_reducible exact LeO.none _)
    | (with_reducible exact ih0 _ _ _)
    | (with_reducible exact hp _)
    | (with_reducible refine LeO.ite ?_ ?_)
    | (with_reducible refine LeO.bind ?_ (fun _ => ?_))
    | exact hp _
    | exact LeO.refl _
theorem slices_IndexFunc_int_int.monoP {p p' : Int → Option (Bool)} (hp : ∀ y0,LeO (p y0) (p' y0)) : ∀ a0 k,LeO (slices_IndexFunc_int_int.f p k a0) (slices_IndexFunc_int_int.f p' (k + 1) a0):=by
 intro a0 k
 refine LeO.trans ?_ (slices_IndexFunc_int_int.mono p' a0 k)
 have ih:=slices_IndexFunc_int_int.monoP_l hp k
 have ih0:=ih
 unfold slices_IndexFunc_int_int.f
 repeat'
  first
  | (with_reducible exact LeO.refl _)
  | (with_reducible exact LeO.none _)
  | (with_reducible exact ih0 _ _ _)
  | (with_reducible exact hp _)
  | (with_reducible refine LeO.ite ?_ ?_)
  | (with_reducible refine LeO.bind ?_ (fun _ => ?_))
  | exact hp _
  | exact LeO.refl _
end Go.Proofs.Ytengegdaiphfeaa.X
end
section
namespace Go.Proofs.Ytengegdaiphfeaa.X
open Go.RowKit Go.Proofs.YtengegdaiphfeaaW.PrintWords Go.Proofs.YtengegdaiphfeaaW.PrintLast Go.Proofs.YtengegdaiphfeaaW.PrintMore
attribute [local go_sem] max2_int min2_int max_two min_two max_three min_three max_four min_four
set_option linter.unusedVariables false
set_option linter.unusedSimpArgs false
def slices_ContainsFunc_int_int.f (p1 : Int → Option (Bool)) (k : Nat) (l0 : List Int) : Option (Bool):=(slices_IndexFunc_int_int.f p1 k l0).bind fun t => some (decide (t ≥ 0))
theorem slices_ContainsFunc_int_int.mono (p1 : Int → Option (Bool)) : ∀ a0 k,LeO (slices_ContainsFunc_int_int.f p1 k a0) (slices_ContainsFunc_int_int.f p1 (k + 1) a0):=by
 intro a0 k
 unfold slices_ContainsFunc_int_int.f
 exact LeO.bind (slices_IndexFunc_int_int.mono p1 _ _) (fun _ => LeO.refl _)
theorem slices_ContainsFunc_int_int.monoP {p p' : Int → Option (Bool)} (hp : ∀ y0,LeO (p y0) (p' y0)) : ∀ a0 k,LeO (slices_ContainsFunc_int_int.f p k a0) (slices_ContainsFunc_int_int.f p' (k + 1) a0):=by
 intro a0 k
 unfold slices_ContainsFunc_int_int.f
 exact LeO.bind (slices_IndexFunc_int_int.monoP hp _ _) (fun _ => LeO.refl _)
set_option maxHeartbeats 8000000 in
theorem slices_ContainsFunc_int_int.calls (k : Nat) (A0 : Option Addr) (c0 : Nat) (l0 : List Int) (q1 : FuncId) (F1 C1 : Array Value) (p1 : Int → Option (Bool)) (r : Bool) (w : World) (hr0 : Kd.C (Kd.int .i64) w A0 l0.length l0) (hc0 : l0.length ≤ c0) (hq1 : FnAt Try.prog q1) (hp1 : ∀ (ay0 : Int) (z0 : Bool) (W_ : World),Below w.heap.size w W_ → p1 ay0 = some z0 → Calls Try.prog q1 (F1 ++ #[.int .i64 ay0] ++ C1) W_ fun e w' => e = .returned (.bool z0) ∧ Below W_.heap.size W_ w') (h : slices_ContainsFunc_int_int.f p1 k l0 = some r) :
  Calls Try.prog 80 #[.slice A0 l0.length c0,.func (.func q1) F1 C1] w fun e w' => e = .returned (.bool r) ∧ Below w.heap.size w w':=by
 obtain ⟨t,h1,h2⟩:=Option.bind_eq_some_iff.mp h
 have C:=Aside0.mk (slices_IndexFunc_int_int.calls k A0 c0 l0 q1 F1 C1 p1 t w hr0 hc0 hq1 hp1 h1)
 clear h hr0 hc0 hq1 hp1 h1
 obtain rfl:=Option.some.inj h2
 clear h2
 go_enter Try.func80,Try.ntmps80
 go_wp2_with (first|((with_reducible refine gate_callee (f:=104) rfl ?_);refine goesL_ (some 7) rfl rfl Try.func104 (by kernel_rfl) rfl #[.slice A0 l0.length c0,.func (.func q1) F1 C1] rfl (by (try simp only [List.map_toArray,List.map_cons,List.map_nil]);first|done|rfl) ?_;refine C.out.mono ?_;rintro e w' ⟨rfl,hb⟩;have HB:=Aside0.mk hb;clear hb;refine ⟨_,rfl,?_⟩))
 go_ret
 exact ⟨by first|rfl|(simp;done)|(simp [*];done),HB.out⟩
end Go.Proofs.Ytengegdaiphfeaa.X
end
section
namespace Go.Proofs.Ytengegdaiphfeaa.X
open Go.RowKit Go.Proofs.YtengegdaiphfeaaW.PrintWords Go.Proofs.YtengegdaiphfeaaW.PrintLast Go.Proofs.YtengegdaiphfeaaW.PrintMore
attribute [local go_sem] max2_int min2_int max_two min_two max_three min_three max_four min_four
set_option linter.unusedVariables false
set_option linter.unusedSimpArgs false
def slices_ContainsFunc_int_int__impl_MatrixValid_1.f (k : Nat) (l0 : List Int) : Option (Bool):=slices_ContainsFunc_int_int.f (fun y0 => impl_MatrixValid_1.f  y0 ) k l0
theorem slices_ContainsFunc_int_int__impl_MatrixValid_1.mono : ∀ b0 k,LeO (slices_ContainsFunc_int_int__impl_MatrixValid_1.f k b0) (slices_ContainsFunc_int_int__impl_MatrixValid_1.f (k + 1) b0):=by
 intro b0 k
 exact slices_ContainsFunc_int_int.monoP (fun _ => LeO.refl _) _ k
set_option maxHeartbeats 2000000 in
theorem slices_ContainsFunc_int_int__impl_MatrixValid_1.calls (k : Nat) (A0 : Option Addr) (c0 : Nat) (l0 : List Int) (r : Bool) (w : World) (hr0 : Kd.C (Kd.int .i64) w A0 l0.length l0) (hc0 : l0.length ≤ c0) (h : slices_ContainsFunc_int_int__impl_MatrixValid_1.f k l0 = some r) :
  Calls Try.prog 80 #[.slice A0 l0.length c0,.func (.func 99) #[] #[]] w fun e w' => e = .returned (.bool r) ∧ Below w.heap.size w w':=by
 refine slices_ContainsFunc_int_int.calls k A0 c0 l0 99 #[] #[] (fun y0 => impl_MatrixValid_1.f  y0 ) r w hr0 hc0 ⟨_,Try.func99,rfl,rfl⟩ ?_ h
 intro ay0 z0 W_ hB_  h_
 refine calls_of_args (args':=#[.int .i64 ay0]) (by simp) ?_
 refine (impl_MatrixValid_1.calls ay0 z0 W_  h_).mono ?_
 rintro e w' ⟨rfl,hd⟩
 exact ⟨rfl,hd.below⟩
end Go.Proofs.Ytengegdaiphfeaa.X
end
section
namespace Go.Proofs.Ytengegdaiphfeaa.X
open Go.RowKit Go.Proofs.YtengegdaiphfeaaW.PrintWords Go.Proofs.YtengegdaiphfeaaW.PrintLast Go.Proofs.YtengegdaiphfeaaW.PrintMore
attribute [local go_sem] max2_int min2_int max_two min_two max_three min_three max_four min_four
set_option linter.unusedVariables false
set_option linter.unusedSimpArgs false
def impl_MatrixValid.f (k : Nat) (a0_0 : Int) (l0_1 : List Int) : Option (Bool):=if a0_0 < 1 then (some false) else (if a0_0 > 4 then (some false) else (if (l0_1.length : Int) = (wrap64 (a0_0 * a0_0)) then ((slices_ContainsFunc_int_int__impl_MatrixValid_1.f k l0_1).bind fun t193 => (some (!t193))) else (some false)))
theorem impl_MatrixValid.mono : ∀ a0 a1 k,LeO (impl_MatrixValid.f k a0 a1) (impl_MatrixValid.f (k + 1) a0 a1):=by
 intro a0 a1 k
 unfold impl_MatrixValid.f
 repeat' first
   | (with_reducible exact slices_ContainsFunc_int_int__impl_MatrixValid_1.mono _ _)
   | (with_reducible exact LeO.refl _)
   | (with_reducible exact LeO.none _)
   | (with_reducible refine LeO.ite ?_ ?_)
   | (with_reducible refine LeO.bind ?_ (fun _ => ?_))
   | exact slices_ContainsFunc_int_int__impl_MatrixValid_1.mono _ _
   | exact LeO.none _
   | refine LeO.ite ?_ ?_
   | refine LeO.bind ?_ (fun _ => ?_)
set_option maxHeartbeats 8000000 in
set_option maxRecDepth 100000 in
theorem impl_MatrixValid.calls (k : Nat) (a0_0 : Int) (A0_1 : Option Addr) (c0_1 : Nat) (l0_1 : List Int) (r : Bool) (w : World) (hr0_1 : Kd.C (Kd.int .i64) w A0_1 l0_1.length l0_1) (hc0_1 : l0_1.length ≤ c0_1) (h : impl_MatrixValid.f k a0_0 l0_1 = some r) :
  Calls Try.prog 58 #[.agg #[.int .i64 a0_0,.slice A0_1 l0_1.length c0_1]] w fun e w' => e = .returned (.bool r) ∧ Below w.heap.size w w':=by
 have hu28:=Try.underlying28
 have HR0_1:=Aside0.mk hr0_1
 have HC0_1:=Aside0.mk hc0_1
 clear hr0_1 hc0_1
 have HB:=Aside0.mk (Below.refl w.heap.size w)
 have H : (if a0_0 < 1 then (some false) else (if a0_0 > 4 then (some false) else (if (l0_1.length : Int) = (wrap64 (a0_0 * a0_0)) then ((slices_ContainsFunc_int_int__impl_MatrixValid_1.f k l0_1).bind fun t193 => (some (!t193))) else (some false)))) = some r:=h
 clear h
 by_cases c2 : a0_0 < 1
 ·rw [if_pos c2] at H
  have c2b0 : decide (a0_0 < 1) = true:=decide_eq_true c2
  clear c2
  obtain rfl:=Option.some.inj H
  go_enter Try.func58,Try.ntmps58
  go_wp2_with (first|((with_reducible refine gate_dst (N:=1) rfl ?_);(try (refine gate_guard (by rfl) ?_;dsimp only));refine box_event ?hg (N:=1) ?hd (cs:=#[.int .i64 a0_0,.slice A0_1 l0_1.length c0_1]) (t:=28) ?hr ?_;(case hd => rfl);(case hg => rfl);(case hr => first|(go_simp;done)|(go_simp;rfl));intro gb192 hg w3 hbox hb;have n0_:=Aside0.mk (below_step (be0_ HB.out) hb);have n1_:=Aside0.mk (hbox);have n2_:=Aside0.mk ((by rw [hg];exact (below_size (be0_ HB.out)) : w.heap.size ≤ gb192));have n3_:=Aside0.mk ((by rw [hg];exact (below_size (be0_ HB.out)) : w.heap.size ≤ gb192));clear HB;have HB:=n0_;have BK192:=n1_;have GW192:=n2_;have GE192:=n3_;clear n0_ n1_ n2_ n3_;clear hb hbox hg;have hcz4_0 : w3.cell? ⟨gb192,0,none⟩ = some (.int .i64 a0_0):=(blk_cell BK192.out 0).trans rfl;have hcz4_1 : w3.cell? ⟨gb192,1,none⟩ = some (.slice A0_1 l0_1.length c0_1):=(blk_cell BK192.out 1).trans rfl;have hfz4_0:=blk_frozen BK192.out 0;have hfz4_1:=blk_frozen BK192.out 1))
  go_ret
  exact ⟨by first|rfl|(simp [errW_none,errW_some] <;> rfl)|(simp [*,errW_none,errW_some] <;> rfl),be1_ HB.out GE192.out⟩
 ·rw [if_neg c2] at H
  have c2b0 : decide (a0_0 < 1) = false:=decide_eq_false c2
  clear c2
  by_cases c5 : a0_0 > 4
  ·rw [if_pos c5] at H
   have c5b0 : decide (4 < a0_0) = true:=decide_eq_true c5
   clear c5
   obtain rfl:=Option.some.inj H
   go_enter Try.func58,Try.ntmps58
   go_wp2_with (first|((with_reducible refine gate_dst (N:=1) rfl ?_);(try (refine gate_guard (by rfl) ?_;dsimp only));refine box_event ?hg (N:=1) ?hd (cs:=#[.int .i64 a0_0,.slice A0_1 l0_1.length c0_1]) (t:=28) ?hr ?_;(case hd => rfl);(case hg => rfl);(case hr => first|(go_simp;done)|(go_simp;rfl));intro gb192 hg w6 hbox hb;have n0_:=Aside0.mk (below_step (be0_ HB.out) hb);have n1_:=Aside0.mk (hbox);have n2_:=Aside0.mk ((by rw [hg];exact (below_size (be0_ HB.out)) : w.heap.size ≤ gb192));have n3_:=Aside0.mk ((by rw [hg];exact (below_size (be0_ HB.out)) : w.heap.size ≤ gb192));clear HB;have HB:=n0_;have BK192:=n1_;have GW192:=n2_;have GE192:=n3_;clear n0_ n1_ n2_ n3_;clear hb hbox hg;have hcz7_0 : w6.cell? ⟨gb192,0,none⟩ = some (.int .i64 a0_0):=(blk_cell BK192.out 0).trans rfl;have hcz7_1 : w6.cell? ⟨gb192,1,none⟩ = some (.slice A0_1 l0_1.length c0_1):=(blk_cell BK192.out 1).trans rfl;have hfz7_0:=blk_frozen BK192.out 0;have hfz7_1:=blk_frozen BK192.out 1))
   go_ret
   exact ⟨by first|rfl|(simp [errW_none,errW_some] <;> rfl)|(simp [*,errW_none,errW_some] <;> rfl),be1_ HB.out GE192.out⟩
  ·rw [if_neg c5] at H
   have c5b0 : decide (4 < a0_0) = false:=decide_eq_false c5
   clear c5
   by_cases c8 : (l0_1.length : Int) = (wrap64 (a0_0 * a0_0))
   ·rw [if_pos c8] at H
    have c8b0 : ((l0_1.length : Int) == (wrap64 (a0_0 * a0_0))) = true:=beq_iff_eq.mpr c8
    have c8b1 : ((l0_1.length : Int) != (wrap64 (a0_0 * a0_0))) = false:=bne_eq_false_iff_eq.mpr c8
    clear c8
    replace H:=Option.bind_eq_some_iff.mp H
    obtain ⟨t193,A90,H⟩:=H
    replace H : (some (!t193)) = some r:=H
    have A9:=Aside0.mk A90
    clear A90
    obtain rfl:=Option.some.inj H
    go_enter Try.func58,Try.ntmps58
    go_wp2_with (first|((with_reducible refine gate_dst (N:=1) rfl ?_);(try (refine gate_guard (by rfl) ?_;dsimp only));refine box_event ?hg (N:=1) ?hd (cs:=#[.int .i64 a0_0,.slice A0_1 l0_1.length c0_1]) (t:=28) ?hr ?_;(case hd => rfl);(case hg => rfl);(case hr => first|(go_simp;done)|(go_simp;rfl));intro gb192 hg w10 hbox hb;have n0_:=Aside0.mk (below_step (be0_ HB.out) hb);have n1_:=Aside0.mk (hbox);have n2_:=Aside0.mk ((by rw [hg];exact (below_size (be0_ HB.out)) : w.heap.size ≤ gb192));have n3_:=Aside0.mk ((by rw [hg];exact (below_size (be0_ HB.out)) : w.heap.size ≤ gb192));clear HB;have HB:=n0_;have BK192:=n1_;have GW192:=n2_;have GE192:=n3_;clear n0_ n1_ n2_ n3_;clear hb hbox hg;have hcz11_0 : w10.cell? ⟨gb192,0,none⟩ = some (.int .i64 a0_0):=(blk_cell BK192.out 0).trans rfl;have hcz11_1 : w10.cell? ⟨gb192,1,none⟩ = some (.slice A0_1 l0_1.length c0_1):=(blk_cell BK192.out 1).trans rfl;have hfz11_0:=blk_frozen BK192.out 0;have hfz11_1:=blk_frozen BK192.out 1)|((with_reducible refine gate_callee (f:=80) rfl ?_);refine goesL_ (some 24) rfl rfl Try.func80 (by kernel_rfl) rfl #[.slice A0_1 l0_1.length c0_1,.func (.func 99) #[] #[]] rfl lp_ ?_;(with_reducible refine (slices_ContainsFunc_int_int__impl_MatrixValid_1.calls k _ _ l0_1 t193 _ ?side1 ?side2 A9.out).mono ?_);(case side1 => repeat (first|exact (Kd.C_below HR0_1.out HB.out)|(with_reducible refine Kd.C_alloc ?_ _)|(with_reducible refine Kd.C_drewN ?_ _)|(with_reducible refine Kd.C_drew ?_)));(case side2 => exact HC0_1.out);rintro e w12 ⟨rfl,hb⟩;refine ⟨_,rfl,?_⟩;have n0_:=Aside0.mk (blk_below (g:=gb192) (o:=.cells #[.int .i64 a0_0,.slice A0_1 l0_1.length c0_1] 28 (0,0)) (pe_ BK192.out) hb);have n1_:=Aside0.mk (below_step (be1_ HB.out GE192.out) hb);clear BK192;clear HB;have BK192:=n0_;have HB:=n1_;clear n0_ n1_;(try clear hb);(try clear hb2);(try clear hk);(try clear hi)))
    go_ret
    exact ⟨by first|rfl|(simp [errW_none,errW_some] <;> rfl)|(simp [*,errW_none,errW_some] <;> rfl),be1_ HB.out GE192.out⟩
   ·rw [if_neg c8] at H
    have c8b0 : ((l0_1.length : Int) == (wrap64 (a0_0 * a0_0))) = false:=beq_eq_false_iff_ne.mpr c8
    have c8b1 : ((l0_1.length : Int) != (wrap64 (a0_0 * a0_0))) = true:=bne_iff_ne.mpr c8
    obtain rfl:=Option.some.inj H
    go_enter Try.func58,Try.ntmps58
    go_wp2_with (first|((with_reducible refine gate_dst (N:=1) rfl ?_);(try (refine gate_guard (by rfl) ?_;dsimp only));refine box_event ?hg (N:=1) ?hd (cs:=#[.int .i64 a0_0,.slice A0_1 l0_1.length c0_1]) (t:=28) ?hr ?_;(case hd => rfl);(case hg => rfl);(case hr => first|(go_simp;done)|(go_simp;rfl));intro gb192 hg w13 hbox hb;have n0_:=Aside0.mk (below_step (be0_ HB.out) hb);have n1_:=Aside0.mk (hbox);have n2_:=Aside0.mk ((by rw [hg];exact (below_size (be0_ HB.out)) : w.heap.size ≤ gb192));have n3_:=Aside0.mk ((by rw [hg];exact (below_size (be0_ HB.out)) : w.heap.size ≤ gb192));clear HB;have HB:=n0_;have BK192:=n1_;have GW192:=n2_;have GE192:=n3_;clear n0_ n1_ n2_ n3_;clear hb hbox hg;have hcz14_0 : w13.cell? ⟨gb192,0,none⟩ = some (.int .i64 a0_0):=(blk_cell BK192.out 0).trans rfl;have hcz14_1 : w13.cell? ⟨gb192,1,none⟩ = some (.slice A0_1 l0_1.length c0_1):=(blk_cell BK192.out 1).trans rfl;have hfz14_0:=blk_frozen BK192.out 0;have hfz14_1:=blk_frozen BK192.out 1))
    go_ret
    exact ⟨by first|rfl|(simp [errW_none,errW_some] <;> rfl)|(simp [*,errW_none,errW_some] <;> rfl),be1_ HB.out GE192.out⟩
end Go.Proofs.Ytengegdaiphfeaa.X
end
section
namespace Go.Proofs.Ytengegdaiphfeaa.X
open Go.RowKit Go.Proofs.YtengegdaiphfeaaW.PrintWords Go.Proofs.YtengegdaiphfeaaW.PrintLast Go.Proofs.YtengegdaiphfeaaW.PrintMore
attribute [local go_sem] max2_int min2_int max_two min_two max_three min_three max_four min_four
set_option linter.unusedVariables false
set_option linter.unusedSimpArgs false
def impl_GradesValid_1.f (a0 : Int) : Option (Bool):=some (decide (a0 > 3))
set_option maxHeartbeats 8000000 in
set_option maxRecDepth 100000 in
theorem impl_GradesValid_1.calls (a0 : Int) (r : Bool) (w : World) (h : impl_GradesValid_1.f a0 = some r) :
  Calls Try.prog 81 #[.int .i64 a0] w fun e w' => e = .returned (.bool r) ∧ Drawn0 w w':=by
 have H : (some (decide (a0 > 3))) = some r:=h
 clear h
 obtain rfl:=Option.some.inj H
 go_enter Try.func81,Try.ntmps81
 go_wp2
 go_ret
 exact ⟨by first|rfl|(simp;done)|(simp [*];done),by repeat (first|exact Drawn0.refl _|apply Drawn0.step)⟩
end Go.Proofs.Ytengegdaiphfeaa.X
end
section
namespace Go.Proofs.Ytengegdaiphfeaa.X
open Go.RowKit Go.Proofs.YtengegdaiphfeaaW.PrintWords Go.Proofs.YtengegdaiphfeaaW.PrintLast Go.Proofs.YtengegdaiphfeaaW.PrintMore
attribute [local go_sem] max2_int min2_int max_two min_two max_three min_three max_four min_four
set_option linter.unusedVariables false
set_option linter.unusedSimpArgs false
def slices_ContainsFunc_int_int__impl_GradesValid_1.f (k : Nat) (l0 : List Int) : Option (Bool):=slices_ContainsFunc_int_int.f (fun y0 => impl_GradesValid_1.f  y0 ) k l0
theorem slices_ContainsFunc_int_int__impl_GradesValid_1.mono : ∀ b0 k,LeO (slices_ContainsFunc_int_int__impl_GradesValid_1.f k b0) (slices_ContainsFunc_int_int__impl_GradesValid_1.f (k + 1) b0):=by
 intro b0 k
 exact slices_ContainsFunc_int_int.monoP (fun _ => LeO.refl _) _ k
set_option maxHeartbeats 2000000 in
theorem slices_ContainsFunc_int_int__impl_GradesValid_1.calls (k : Nat) (A0 : Option Addr) (c0 : Nat) (l0 : List Int) (r : Bool) (w : World) (hr0 : Kd.C (Kd.int .i64) w A0 l0.length l0) (hc0 : l0.length ≤ c0) (h : slices_ContainsFunc_int_int__impl_GradesValid_1.f k l0 = some r) :
  Calls Try.prog 80 #[.slice A0 l0.length c0,.func (.func 81) #[] #[]] w fun e w' => e = .returned (.bool r) ∧ Below w.heap.size w w':=by
 refine slices_ContainsFunc_int_int.calls k A0 c0 l0 81 #[] #[] (fun y0 => impl_GradesValid_1.f  y0 ) r w hr0 hc0 ⟨_,Try.func81,rfl,rfl⟩ ?_ h
 intro ay0 z0 W_ hB_  h_
 refine calls_of_args (args':=#[.int .i64 ay0]) (by simp) ?_
 refine (impl_GradesValid_1.calls ay0 z0 W_  h_).mono ?_
 rintro e w' ⟨rfl,hd⟩
 exact ⟨rfl,hd.below⟩
end Go.Proofs.Ytengegdaiphfeaa.X
end
section
namespace Go.Proofs.Ytengegdaiphfeaa.X
open Go.RowKit Go.Proofs.YtengegdaiphfeaaW.PrintWords Go.Proofs.YtengegdaiphfeaaW.PrintLast Go.Proofs.YtengegdaiphfeaaW.PrintMore
attribute [local go_sem] max2_int min2_int max_two min_two max_three min_three max_four min_four
set_option linter.unusedVariables false
set_option linter.unusedSimpArgs false
def impl_GradesValid.f (k : Nat) (a0_0 : Int) (l0_1 : List Int) : Option (Bool):=(impl_MatrixValid.f k a0_0 l0_1).bind fun t294 => (if t294 = true then ((slices_ContainsFunc_int_int__impl_GradesValid_1.f k l0_1).bind fun t295 => (some (!t295))) else (some false))
theorem impl_GradesValid.mono : ∀ a0 a1 k,LeO (impl_GradesValid.f k a0 a1) (impl_GradesValid.f (k + 1) a0 a1):=by
 intro a0 a1 k
 unfold impl_GradesValid.f
 repeat' first
   | (with_reducible exact impl_MatrixValid.mono _ _ _)
   | (with_reducible exact slices_ContainsFunc_int_int__impl_GradesValid_1.mono _ _)
   | (with_reducible exact LeO.refl _)
   | (with_reducible exact LeO.none _)
   | (with_reducible refine LeO.ite ?_ ?_)
   | (with_reducible refine LeO.bind ?_ (fun _ => ?_))
   | exact impl_MatrixValid.mono _ _ _
   | exact slices_ContainsFunc_int_int__impl_GradesValid_1.mono _ _
   | exact LeO.none _
   | refine LeO.ite ?_ ?_
   | refine LeO.bind ?_ (fun _ => ?_)
set_option maxHeartbeats 8000000 in
set_option maxRecDepth 100000 in
theorem impl_GradesValid.calls (k : Nat) (a0_0 : Int) (A0_1 : Option Addr) (c0_1 : Nat) (l0_1 : List Int) (r : Bool) (w : World) (hr0_1 : Kd.C (Kd.int .i64) w A0_1 l0_1.length l0_1) (hc0_1 : l0_1.length ≤ c0_1) (h : impl_GradesValid.f k a0_0 l0_1 = some r) :
  Calls Try.prog 36 #[.agg #[.int .i64 a0_0,.slice A0_1 l0_1.length c0_1]] w fun e w' => e = .returned (.bool r) ∧ Below w.heap.size w w':=by
 have hu28:=Try.underlying28
 have HR0_1:=Aside0.mk hr0_1
 have HC0_1:=Aside0.mk hc0_1
 clear hr0_1 hc0_1
 have HB:=Aside0.mk (Below.refl w.heap.size w)
 have H : ((impl_MatrixValid.f k a0_0 l0_1).bind fun t294 => (if t294 = true then ((slices_ContainsFunc_int_int__impl_GradesValid_1.f k l0_1).bind fun t295 => (some (!t295))) else (some false))) = some r:=h
 clear h
 replace H:=Option.bind_eq_some_iff.mp H
 obtain ⟨t294,A20,H⟩:=H
 replace H : (if t294 = true then ((slices_ContainsFunc_int_int__impl_GradesValid_1.f k l0_1).bind fun t295 => (some (!t295))) else (some false)) = some r:=H
 have A2:=Aside0.mk A20
 clear A20
 by_cases c3 : t294 = true
 ·subst c3
  have H1 : ((slices_ContainsFunc_int_int__impl_GradesValid_1.f k l0_1).bind fun t295 => (some (!t295))) = some r:=by rw [if_pos rfl] at H;exact H
  clear H
  have H:=H1
  clear H1
  replace H:=Option.bind_eq_some_iff.mp H
  obtain ⟨t295,A40,H⟩:=H
  replace H : (some (!t295)) = some r:=H
  have A4:=Aside0.mk A40
  clear A40
  obtain rfl:=Option.some.inj H
  go_enter Try.func36,Try.ntmps36
  go_wp2_with (first|((with_reducible refine gate_dst (N:=1) rfl ?_);refine box_event ?hg (N:=1) ?hd (cs:=#[.int .i64 a0_0,.slice A0_1 l0_1.length c0_1]) (t:=28) ?hr ?_;(case hd => rfl);(case hg => rfl);(case hr => first|(go_simp;done)|(go_simp;rfl));intro gb293 hg w5 hbox hb;have n0_:=Aside0.mk (below_step (be0_ HB.out) hb);have n1_:=Aside0.mk (hbox);have n2_:=Aside0.mk ((by rw [hg];exact (below_size (be0_ HB.out)) : w.heap.size ≤ gb293));have n3_:=Aside0.mk ((by rw [hg];exact (below_size (be0_ HB.out)) : w.heap.size ≤ gb293));clear HB;have HB:=n0_;have BK293:=n1_;have GW293:=n2_;have GE293:=n3_;clear n0_ n1_ n2_ n3_;clear hb hbox hg;have hcz6_0 : w5.cell? ⟨gb293,0,none⟩ = some (.int .i64 a0_0):=(blk_cell BK293.out 0).trans rfl;have hcz6_1 : w5.cell? ⟨gb293,1,none⟩ = some (.slice A0_1 l0_1.length c0_1):=(blk_cell BK293.out 1).trans rfl;have hfz6_0:=blk_frozen BK293.out 0;have hfz6_1:=blk_frozen BK293.out 1)|((with_reducible refine gate_callee (f:=58) rfl ?_);refine goesL_ (some 4) rfl rfl Try.func58 (by kernel_rfl) rfl #[.agg #[.int .i64 a0_0,.slice A0_1 l0_1.length c0_1]] rfl lp_ ?_;(with_reducible refine (impl_MatrixValid.calls k a0_0 _ _ l0_1 true _ ?side1 ?side2 A2.out).mono ?_);(case side1 => repeat (first|exact (Kd.C_below HR0_1.out HB.out)|(with_reducible refine Kd.C_alloc ?_ _)|(with_reducible refine Kd.C_drewN ?_ _)|(with_reducible refine Kd.C_drew ?_)));(case side2 => exact HC0_1.out);rintro e w7 ⟨rfl,hb⟩;refine ⟨_,rfl,?_⟩;have n0_:=Aside0.mk (blk_below (g:=gb293) (o:=.cells #[.int .i64 a0_0,.slice A0_1 l0_1.length c0_1] 28 (0,0)) (pe_ BK293.out) hb);have n1_:=Aside0.mk (below_step (be1_ HB.out GE293.out) hb);clear BK293;clear HB;have BK293:=n0_;have HB:=n1_;clear n0_ n1_;(try clear hb);(try clear hb2);(try clear hk);(try clear hi);have hcz8_0 : w7.cell? ⟨gb293,0,none⟩ = some (.int .i64 a0_0):=(blk_cell BK293.out 0).trans rfl;have hcz8_1 : w7.cell? ⟨gb293,1,none⟩ = some (.slice A0_1 l0_1.length c0_1):=(blk_cell BK293.out 1).trans rfl;have hfz8_0:=blk_frozen BK293.out 0;have hfz8_1:=blk_frozen BK293.out 1)|(go_at_call 80;(with_reducible refine (slices_ContainsFunc_int_int__impl_GradesValid_1.calls k _ _ l0_1 t295 _ ?side1 ?side2 A4.out).mono ?_);(case side1 => repeat (first|exact (Kd.C_below HR0_1.out HB.out)|(with_reducible refine Kd.C_alloc ?_ _)|(with_reducible refine Kd.C_drewN ?_ _)|(with_reducible refine Kd.C_drew ?_)));(case side2 => exact HC0_1.out);rintro e w9 ⟨rfl,hb⟩;have n0_:=Aside0.mk (blk_below (g:=gb293) (o:=.cells #[.int .i64 a0_0,.slice A0_1 l0_1.length c0_1] 28 (0,0)) (pe_ BK293.out) hb);have n1_:=Aside0.mk (below_step (be1_ HB.out GE293.out) hb);clear BK293;clear HB;have BK293:=n0_;have HB:=n1_;clear n0_ n1_;(try clear hb);(try clear hb2);(try clear hk);(try clear hi)))
  go_ret
  exact ⟨by first|rfl|(simp [errW_none,errW_some] <;> rfl)|(simp [*,errW_none,errW_some] <;> rfl),be1_ HB.out GE293.out⟩
 ·replace c3:=Bool.eq_false_iff.mpr c3
  subst c3
  have H1 : (some false) = some r:=by rw [if_neg (show ¬ (false = true) by decide)] at H;exact H
  clear H
  have H:=H1
  clear H1
  obtain rfl:=Option.some.inj H
  go_enter Try.func36,Try.ntmps36
  go_wp2_with (first|((with_reducible refine gate_dst (N:=1) rfl ?_);refine box_event ?hg (N:=1) ?hd (cs:=#[.int .i64 a0_0,.slice A0_1 l0_1.length c0_1]) (t:=28) ?hr ?_;(case hd => rfl);(case hg => rfl);(case hr => first|(go_simp;done)|(go_simp;rfl));intro gb293 hg w10 hbox hb;have n0_:=Aside0.mk (below_step (be0_ HB.out) hb);have n1_:=Aside0.mk (hbox);have n2_:=Aside0.mk ((by rw [hg];exact (below_size (be0_ HB.out)) : w.heap.size ≤ gb293));have n3_:=Aside0.mk ((by rw [hg];exact (below_size (be0_ HB.out)) : w.heap.size ≤ gb293));clear HB;have HB:=n0_;have BK293:=n1_;have GW293:=n2_;have GE293:=n3_;clear n0_ n1_ n2_ n3_;clear hb hbox hg;have hcz11_0 : w10.cell? ⟨gb293,0,none⟩ = some (.int .i64 a0_0):=(blk_cell BK293.out 0).trans rfl;have hcz11_1 : w10.cell? ⟨gb293,1,none⟩ = some (.slice A0_1 l0_1.length c0_1):=(blk_cell BK293.out 1).trans rfl;have hfz11_0:=blk_frozen BK293.out 0;have hfz11_1:=blk_frozen BK293.out 1)|((with_reducible refine gate_callee (f:=58) rfl ?_);refine goesL_ (some 4) rfl rfl Try.func58 (by kernel_rfl) rfl #[.agg #[.int .i64 a0_0,.slice A0_1 l0_1.length c0_1]] rfl lp_ ?_;(with_reducible refine (impl_MatrixValid.calls k a0_0 _ _ l0_1 false _ ?side1 ?side2 A2.out).mono ?_);(case side1 => repeat (first|exact (Kd.C_below HR0_1.out HB.out)|(with_reducible refine Kd.C_alloc ?_ _)|(with_reducible refine Kd.C_drewN ?_ _)|(with_reducible refine Kd.C_drew ?_)));(case side2 => exact HC0_1.out);rintro e w12 ⟨rfl,hb⟩;refine ⟨_,rfl,?_⟩;have n0_:=Aside0.mk (blk_below (g:=gb293) (o:=.cells #[.int .i64 a0_0,.slice A0_1 l0_1.length c0_1] 28 (0,0)) (pe_ BK293.out) hb);have n1_:=Aside0.mk (below_step (be1_ HB.out GE293.out) hb);clear BK293;clear HB;have BK293:=n0_;have HB:=n1_;clear n0_ n1_;(try clear hb);(try clear hb2);(try clear hk);(try clear hi)))
  go_ret
  exact ⟨by first|rfl|(simp [errW_none,errW_some] <;> rfl)|(simp [*,errW_none,errW_some] <;> rfl),be1_ HB.out GE293.out⟩
end Go.Proofs.Ytengegdaiphfeaa.X
end
section
namespace Go.Proofs.Ytengegdaiphfeaa.X
open Go.RowKit Go.Proofs.YtengegdaiphfeaaW.PrintWords Go.Proofs.YtengegdaiphfeaaW.PrintLast Go.Proofs.YtengegdaiphfeaaW.PrintMore
attribute [local go_sem] max2_int min2_int max_two min_two max_three min_three max_four min_four
set_option linter.unusedVariables false
set_option linter.unusedSimpArgs false
def impl_MulGrades.f (k : Nat) (a0_0 : Int) (l0_1 : List Int) (a1_0 : Int) (l1_1 : List Int) : Option (Int × List Int × Bool):=(impl_GradesValid.f k a0_0 l0_1).bind fun t301 => (if t301 = true then ((impl_GradesValid.f k a1_0 l1_1).bind fun t302 => (if t302 = true then (if a0_0 = a1_0 then ((impl_filled__impl_MulGrades_1.f k a0_0 a0_0 l0_1 a1_0 l1_1).bind fun bt303 => (some (bt303.1,bt303.2,true))) else (some (0,([] : List Int),false))) else (some (0,([] : List Int),false)))) else (some (0,([] : List Int),false)))
theorem impl_MulGrades.mono : ∀ a0 a1 a2 a3 k,LeO (impl_MulGrades.f k a0 a1 a2 a3) (impl_MulGrades.f (k + 1) a0 a1 a2 a3):=by
 intro a0 a1 a2 a3 k
 unfold impl_MulGrades.f
 repeat' first
   | (with_reducible exact impl_GradesValid.mono _ _ _)
   | (with_reducible exact impl_filled__impl_MulGrades_1.mono _ _ _ _ _ _)
   | (with_reducible exact LeO.refl _)
   | (with_reducible exact LeO.none _)
   | (with_reducible refine LeO.ite ?_ ?_)
   | (with_reducible refine LeO.bind ?_ (fun _ => ?_))
   | exact impl_GradesValid.mono _ _ _
   | exact impl_filled__impl_MulGrades_1.mono _ _ _ _ _ _
   | exact LeO.none _
   | refine LeO.ite ?_ ?_
   | refine LeO.bind ?_ (fun _ => ?_)
set_option maxHeartbeats 8000000 in
set_option maxRecDepth 100000 in
theorem impl_MulGrades.calls (k : Nat) (a0_0 : Int) (A0_1 : Option Addr) (c0_1 : Nat) (l0_1 : List Int) (a1_0 : Int) (A1_1 : Option Addr) (c1_1 : Nat) (l1_1 : List Int) (r1 : Int) (r2 : List Int) (r3 : Bool) (w : World) (hr0_1 : Kd.C (Kd.int .i64) w A0_1 l0_1.length l0_1) (hc0_1 : l0_1.length ≤ c0_1) (hr1_1 : Kd.C (Kd.int .i64) w A1_1 l1_1.length l1_1) (hc1_1 : l1_1.length ≤ c1_1) (h : impl_MulGrades.f k a0_0 l0_1 a1_0 l1_1 = some (r1,r2,r3)) :
  Calls Try.prog 27 #[.agg #[.int .i64 a0_0,.slice A0_1 l0_1.length c0_1],.agg #[.int .i64 a1_0,.slice A1_1 l1_1.length c1_1]] w fun e w' => ∃ v1_ : Value,e = .returned (.tuple #[.agg #[.int .i64 r1,v1_],.bool r3]) ∧ Kd.R (Kd.int .i64) 3 w' w.heap.size (fun _ => True) v1_ r2 ∧ Below w.heap.size w w':=by
 have hu28:=Try.underlying28
 have HR0_1:=Aside0.mk hr0_1
 have HC0_1:=Aside0.mk hc0_1
 clear hr0_1 hc0_1
 have HR1_1:=Aside0.mk hr1_1
 have HC1_1:=Aside0.mk hc1_1
 clear hr1_1 hc1_1
 have HB:=Aside0.mk (Below.refl w.heap.size w)
 have H : ((impl_GradesValid.f k a0_0 l0_1).bind fun t301 => (if t301 = true then ((impl_GradesValid.f k a1_0 l1_1).bind fun t302 => (if t302 = true then (if a0_0 = a1_0 then ((impl_filled__impl_MulGrades_1.f k a0_0 a0_0 l0_1 a1_0 l1_1).bind fun bt303 => (some (bt303.1,bt303.2,true))) else (some (0,([] : List Int),false))) else (some (0,([] : List Int),false)))) else (some (0,([] : List Int),false)))) = some (r1,r2,r3):=h
 clear h
 replace H:=Option.bind_eq_some_iff.mp H
 obtain ⟨t301,A30,H⟩:=H
 replace H : (if t301 = true then ((impl_GradesValid.f k a1_0 l1_1).bind fun t302 => (if t302 = true then (if a0_0 = a1_0 then ((impl_filled__impl_MulGrades_1.f k a0_0 a0_0 l0_1 a1_0 l1_1).bind fun bt303 => (some (bt303.1,bt303.2,true))) else (some (0,([] : List Int),false))) else (some (0,([] : List Int),false)))) else (some (0,([] : List Int),false))) = some (r1,r2,r3):=H
 have A3:=Aside0.mk A30
 clear A30
 by_cases c4 : t301 = true
 ·subst c4
  have H1 : ((impl_GradesValid.f k a1_0 l1_1).bind fun t302 => (if t302 = true then (if a0_0 = a1_0 then ((impl_filled__impl_MulGrades_1.f k a0_0 a0_0 l0_1 a1_0 l1_1).bind fun bt303 => (some (bt303.1,bt303.2,true))) else (some (0,([] : List Int),false))) else (some (0,([] : List Int),false)))) = some (r1,r2,r3):=by rw [if_pos rfl] at H;exact H
  clear H
  have H:=H1
  clear H1
  replace H:=Option.bind_eq_some_iff.mp H
  obtain ⟨t302,A50,H⟩:=H
  replace H : (if t302 = true then (if a0_0 = a1_0 then ((impl_filled__impl_MulGrades_1.f k a0_0 a0_0 l0_1 a1_0 l1_1).bind fun bt303 => (some (bt303.1,bt303.2,true))) else (some (0,([] : List Int),false))) else (some (0,([] : List Int),false))) = some (r1,r2,r3):=H
  have A5:=Aside0.mk A50
  clear A50
  by_cases c6 : t302 = true
  ·subst c6
   have H1 : (if a0_0 = a1_0 then ((impl_filled__impl_MulGrades_1.f k a0_0 a0_0 l0_1 a1_0 l1_1).bind fun bt303 => (some (bt303.1,bt303.2,true))) else (some (0,([] : List Int),false))) = some (r1,r2,r3):=by rw [if_pos rfl] at H;exact H
   clear H
   have H:=H1
   clear H1
   by_cases c7 : a0_0 = a1_0
   ·rw [if_pos c7] at H
    have c7b0 : (a0_0 == a1_0) = true:=beq_iff_eq.mpr c7
    have c7b1 : (a0_0 != a1_0) = false:=bne_eq_false_iff_eq.mpr c7
    clear c7
    replace H:=Option.bind_eq_some_iff.mp H
    obtain ⟨⟨t303,t304⟩,A80,H⟩:=H
    replace H : (some (t303,t304,true)) = some (r1,r2,r3):=H
    have A8:=Aside0.mk A80
    clear A80
    simp only [Option.some.injEq,Prod.mk.injEq] at H
    obtain ⟨rfl,rfl,rfl⟩:=H
    go_enter Try.func27,Try.ntmps27
    go_wp2_with (first|((with_reducible refine gate_dst (N:=2) rfl ?_);refine box_event ?hg (N:=2) ?hd (cs:=#[.int .i64 a0_0,.slice A0_1 l0_1.length c0_1]) (t:=28) ?hr ?_;(case hd => rfl);(case hg => rfl);(case hr => first|(go_simp;done)|(go_simp;rfl));intro gb298 hg w9 hbox hb;have n0_:=Aside0.mk (below_step (be0_ HB.out) hb);have n1_:=Aside0.mk (hbox);have n2_:=Aside0.mk ((by rw [hg];exact (below_size (be0_ HB.out)) : w.heap.size ≤ gb298));have n3_:=Aside0.mk ((by rw [hg];exact (below_size (be0_ HB.out)) : w.heap.size ≤ gb298));clear HB;have HB:=n0_;have BK298:=n1_;have GW298:=n2_;have GE298:=n3_;clear n0_ n1_ n2_ n3_;clear hb hbox hg)|((with_reducible refine gate_dst (N:=3) rfl ?_);refine box_event ?hg (N:=3) ?hd (cs:=#[.int .i64 a1_0,.slice A1_1 l1_1.length c1_1]) (t:=28) ?hr ?_;(case hd => rfl);(case hg => rfl);(case hr => first|(go_simp;done)|(go_simp;rfl));intro gb299 hg w10 hbox hb;have n0_:=Aside0.mk (blk_below (g:=gb298) (o:=.cells #[.int .i64 a0_0,.slice A0_1 l0_1.length c0_1] 28 (0,0)) (pe_ BK298.out) hb);have n1_:=Aside0.mk (below_step (be1_ HB.out GE298.out) hb);have n2_:=Aside0.mk (hbox);have n3_:=Aside0.mk ((by rw [hg];exact (below_size (be1_ HB.out GE298.out)) : w.heap.size ≤ gb299));have n4_:=Aside0.mk ((by rw [hg];exact (below_size (be1_ HB.out GE298.out)) : w.heap.size ≤ gb299));have n5_:=Aside0.mk ((by rw [hg];exact Nat.ne_of_lt (blk_lt (g:=gb298) (o:=.cells #[.int .i64 a0_0,.slice A0_1 l0_1.length c0_1] 28 (0,0)) (pe_ BK298.out)) : gb298 ≠ gb299));have n6_:=Aside0.mk ((by rw [hg];exact Nat.ne_of_gt (blk_lt (g:=gb298) (o:=.cells #[.int .i64 a0_0,.slice A0_1 l0_1.length c0_1] 28 (0,0)) (pe_ BK298.out)) : gb299 ≠ gb298));clear BK298;clear HB;have BK298:=n0_;have HB:=n1_;have BK299:=n2_;have GW299:=n3_;have GE299:=n4_;have NB298_299:=n5_;have NB299_298:=n6_;clear n0_ n1_ n2_ n3_ n4_ n5_ n6_;clear hb hbox hg)|((with_reducible refine gate_dst (N:=4) rfl ?_);refine box_event ?hg (N:=4) ?hd (cs:=#[.int .i64 0,.slice none 0 0]) (t:=28) ?hr ?_;(case hd => rfl);(case hg => rfl);(case hr => first|(go_simp;done)|(go_simp;rfl));intro gb300 hg w11 hbox hb;have n0_:=Aside0.mk (blk_below (g:=gb298) (o:=.cells #[.int .i64 a0_0,.slice A0_1 l0_1.length c0_1] 28 (0,0)) (pe_ BK298.out) hb);have n1_:=Aside0.mk (blk_below (g:=gb299) (o:=.cells #[.int .i64 a1_0,.slice A1_1 l1_1.length c1_1] 28 (0,0)) (pe_ BK299.out) hb);have n2_:=Aside0.mk (below_step (be2_ HB.out GE298.out GE299.out) hb);have n3_:=Aside0.mk (hbox);have n4_:=Aside0.mk ((by rw [hg];exact (below_size (be2_ HB.out GE298.out GE299.out)) : w.heap.size ≤ gb300));have n5_:=Aside0.mk ((by rw [hg];exact (below_size (be2_ HB.out GE298.out GE299.out)) : w.heap.size ≤ gb300));have n6_:=Aside0.mk ((by rw [hg];exact Nat.ne_of_lt (blk_lt (g:=gb298) (o:=.cells #[.int .i64 a0_0,.slice A0_1 l0_1.length c0_1] 28 (0,0)) (pe_ BK298.out)) : gb298 ≠ gb300));have n7_:=Aside0.mk ((by rw [hg];exact Nat.ne_of_gt (blk_lt (g:=gb298) (o:=.cells #[.int .i64 a0_0,.slice A0_1 l0_1.length c0_1] 28 (0,0)) (pe_ BK298.out)) : gb300 ≠ gb298));have n8_:=Aside0.mk ((by rw [hg];exact Nat.ne_of_lt (blk_lt (g:=gb299) (o:=.cells #[.int .i64 a1_0,.slice A1_1 l1_1.length c1_1] 28 (0,0)) (pe_ BK299.out)) : gb299 ≠ gb300));have n9_:=Aside0.mk ((by rw [hg];exact Nat.ne_of_gt (blk_lt (g:=gb299) (o:=.cells #[.int .i64 a1_0,.slice A1_1 l1_1.length c1_1] 28 (0,0)) (pe_ BK299.out)) : gb300 ≠ gb299));clear BK298;clear BK299;clear HB;have BK298:=n0_;have BK299:=n1_;have HB:=n2_;have BK300:=n3_;have GW300:=n4_;have GE300:=n5_;have NB298_300:=n6_;have NB300_298:=n7_;have NB299_300:=n8_;have NB300_299:=n9_;clear n0_ n1_ n2_ n3_ n4_ n5_ n6_ n7_ n8_ n9_;clear hb hbox hg;have hnb12:=NB298_299.out;have hnc12:=NB299_298.out;have hnb13:=NB298_300.out;have hnc13:=NB300_298.out;have hcz14_0 : w11.cell? ⟨gb298,0,none⟩ = some (.int .i64 a0_0):=(blk_cell BK298.out 0).trans rfl;have hcz14_1 : w11.cell? ⟨gb298,1,none⟩ = some (.slice A0_1 l0_1.length c0_1):=(blk_cell BK298.out 1).trans rfl;have hfz14_0:=blk_frozen BK298.out 0;have hfz14_1:=blk_frozen BK298.out 1)|((with_reducible refine gate_callee (f:=36) rfl ?_);refine goesL_ (some 7) rfl rfl Try.func36 (by kernel_rfl) rfl #[.agg #[.int .i64 a0_0,.slice A0_1 l0_1.length c0_1]] rfl lp_ ?_;(with_reducible refine (impl_GradesValid.calls k a0_0 _ _ l0_1 true _ ?side1 ?side2 A3.out).mono ?_);(case side1 => repeat (first|exact (Kd.C_below HR0_1.out HB.out)|(with_reducible refine Kd.C_alloc ?_ _)|(with_reducible refine Kd.C_drewN ?_ _)|(with_reducible refine Kd.C_drew ?_)));(case side2 => exact HC0_1.out);rintro e w15 ⟨rfl,hb⟩;refine ⟨_,rfl,?_⟩;have n0_:=Aside0.mk (blk_below (g:=gb298) (o:=.cells #[.int .i64 a0_0,.slice A0_1 l0_1.length c0_1] 28 (0,0)) (pe_ BK298.out) hb);have n1_:=Aside0.mk (blk_below (g:=gb299) (o:=.cells #[.int .i64 a1_0,.slice A1_1 l1_1.length c1_1] 28 (0,0)) (pe_ BK299.out) hb);have n2_:=Aside0.mk (blk_below (g:=gb300) (o:=.cells #[.int .i64 0,.slice none 0 0] 28 (0,0)) (pe_ BK300.out) hb);have n3_:=Aside0.mk (below_step (be3_ HB.out GE298.out GE299.out GE300.out) hb);clear BK298;clear BK299;clear BK300;clear HB;have BK298:=n0_;have BK299:=n1_;have BK300:=n2_;have HB:=n3_;clear n0_ n1_ n2_ n3_;(try clear hb);(try clear hb2);(try clear hk);(try clear hi);have hnb16:=NB299_300.out;have hnc16:=NB300_299.out;have hcz17_0 : w15.cell? ⟨gb299,0,none⟩ = some (.int .i64 a1_0):=(blk_cell BK299.out 0).trans rfl;have hcz17_1 : w15.cell? ⟨gb299,1,none⟩ = some (.slice A1_1 l1_1.length c1_1):=(blk_cell BK299.out 1).trans rfl;have hfz17_0:=blk_frozen BK299.out 0;have hfz17_1:=blk_frozen BK299.out 1)|(go_at_call 36;(with_reducible refine (impl_GradesValid.calls k a1_0 _ _ l1_1 true _ ?side1 ?side2 A5.out).mono ?_);(case side1 => repeat (first|exact (Kd.C_below HR1_1.out HB.out)|(with_reducible refine Kd.C_alloc ?_ _)|(with_reducible refine Kd.C_drewN ?_ _)|(with_reducible refine Kd.C_drew ?_)));(case side2 => exact HC1_1.out);rintro e w18 ⟨rfl,hb⟩;have n0_:=Aside0.mk (blk_below (g:=gb298) (o:=.cells #[.int .i64 a0_0,.slice A0_1 l0_1.length c0_1] 28 (0,0)) (pe_ BK298.out) hb);have n1_:=Aside0.mk (blk_below (g:=gb299) (o:=.cells #[.int .i64 a1_0,.slice A1_1 l1_1.length c1_1] 28 (0,0)) (pe_ BK299.out) hb);have n2_:=Aside0.mk (blk_below (g:=gb300) (o:=.cells #[.int .i64 0,.slice none 0 0] 28 (0,0)) (pe_ BK300.out) hb);have n3_:=Aside0.mk (below_step (be3_ HB.out GE298.out GE299.out GE300.out) hb);clear BK298;clear BK299;clear BK300;clear HB;have BK298:=n0_;have BK299:=n1_;have BK300:=n2_;have HB:=n3_;clear n0_ n1_ n2_ n3_;(try clear hb);(try clear hb2);(try clear hk);(try clear hi);have hcz19_0 : w18.cell? ⟨gb298,0,none⟩ = some (.int .i64 a0_0):=(blk_cell BK298.out 0).trans rfl;have hcz19_1 : w18.cell? ⟨gb298,1,none⟩ = some (.slice A0_1 l0_1.length c0_1):=(blk_cell BK298.out 1).trans rfl;have hfz19_0:=blk_frozen BK298.out 0;have hfz19_1:=blk_frozen BK298.out 1;have hcz20_0 : w18.cell? ⟨gb299,0,none⟩ = some (.int .i64 a1_0):=(blk_cell BK299.out 0).trans rfl;have hcz20_1 : w18.cell? ⟨gb299,1,none⟩ = some (.slice A1_1 l1_1.length c1_1):=(blk_cell BK299.out 1).trans rfl;have hfz20_0:=blk_frozen BK299.out 0;have hfz20_1:=blk_frozen BK299.out 1)|((with_reducible refine gate_callee (f:=59) rfl ?_);refine goesL_ (some 25) rfl rfl Try.func59 (by kernel_rfl) rfl #[.int .i64 a0_0,.func (.func 69) #[] #[.pointer (some ⟨gb298,0,none⟩),.pointer (some ⟨gb299,0,none⟩)]] rfl lp_ ?_;(with_reducible refine (impl_filled__impl_MulGrades_1.calls k a0_0 gb298 a0_0 A0_1 c0_1 l0_1 gb299 a1_0 A1_1 c1_1 l1_1 t303 t304 _ ?side1 ?side2 ?side3 ?side4 ?side5 ?side6 A8.out).mono ?_);(case side1 => repeat (first|exact (Kd.C_below HR0_1.out HB.out)|(with_reducible refine Kd.C_alloc ?_ _)|(with_reducible refine Kd.C_drewN ?_ _)|(with_reducible refine Kd.C_drew ?_)));(case side2 => exact HC0_1.out);(case side3 => repeat (first|exact (Kd.C_below HR1_1.out HB.out)|(with_reducible refine Kd.C_alloc ?_ _)|(with_reducible refine Kd.C_drewN ?_ _)|(with_reducible refine Kd.C_drew ?_)));(case side4 => exact HC1_1.out);(case side5 => refine pe_ ?_;exact BK298.out);(case side6 => refine pe_ ?_;exact BK299.out);rintro e w21 ⟨v305,rfl,ho0,hb⟩;refine ⟨_,rfl,?_⟩;have n0_:=Aside0.mk (Kd.R_lower ho0 (below_size (be3_ HB.out GE298.out GE299.out GE300.out)));have n1_:=Aside0.mk (blk_below (g:=gb298) (o:=.cells #[.int .i64 a0_0,.slice A0_1 l0_1.length c0_1] 28 (0,0)) (pe_ BK298.out) hb);have n2_:=Aside0.mk (blk_below (g:=gb299) (o:=.cells #[.int .i64 a1_0,.slice A1_1 l1_1.length c1_1] 28 (0,0)) (pe_ BK299.out) hb);have n3_:=Aside0.mk (blk_below (g:=gb300) (o:=.cells #[.int .i64 0,.slice none 0 0] 28 (0,0)) (pe_ BK300.out) hb);have n4_:=Aside0.mk (below_step (be3_ HB.out GE298.out GE299.out GE300.out) hb);clear BK298;clear BK299;clear BK300;clear HB;have HO306:=n0_;have BK298:=n1_;have BK299:=n2_;have BK300:=n3_;have HB:=n4_;clear n0_ n1_ n2_ n3_ n4_;(try clear hb);(try clear hb2);(try clear hk);(try clear hi);(try clear ho0);have hcz22_0 : w21.cell? ⟨gb300,0,none⟩ = some (.int .i64 0):=(blk_cell BK300.out 0).trans rfl;have hcz22_1 : w21.cell? ⟨gb300,1,none⟩ = some (.slice none 0 0):=(blk_cell BK300.out 1).trans rfl;have hfz22_0:=blk_frozen BK300.out 0;have hfz22_1:=blk_frozen BK300.out 1;obtain ⟨Ao23,co23,eo23⟩:=Kd.R_slice HO306.out;subst eo23))
    refine bodyPost_ret (results_ct rfl _ _ gb300 28 #[.int .i64 t303,.slice Ao23 t304.length co23] (0,0) _ rfl (by refine pe_ ?_;refine blk_put (cs:=#[.int .i64 t303,.slice none 0 0]) ?_ 1 _ rfl;refine pe_ ?_;refine blk_put (cs:=#[.int .i64 0,.slice none 0 0]) ?_ 0 _ rfl;refine pe_ ?_;exact BK300.out) Try.underlying28 rfl (by kernel_rfl)) rfl ?_
    exact ⟨_,by first|rfl|(simp [errW_none,errW_some] <;> rfl)|(simp [*,errW_none,errW_some] <;> rfl),by refine pr_ ?_;exact Kd.R_mono (Kd.R_far (p:=⟨gb300,1,none⟩) (Kd.R_far (p:=⟨gb300,0,none⟩) (Kd.R_types HO306.out BK300.out (by decide)) (fun _ hk => hk.2) (.int .i64 t303)) (fun _ hk => hk.2) (.slice Ao23 t304.length co23)) (fun _ hk => trivial),be3_ HB.out GE298.out GE299.out GE300.out⟩
   ·rw [if_neg c7] at H
    have c7b0 : (a0_0 == a1_0) = false:=beq_eq_false_iff_ne.mpr c7
    have c7b1 : (a0_0 != a1_0) = true:=bne_iff_ne.mpr c7
    simp only [Option.some.injEq,Prod.mk.injEq] at H
    obtain ⟨rfl,rfl,rfl⟩:=H
    go_enter Try.func27,Try.ntmps27
    go_wp2_with (first|((with_reducible refine gate_dst (N:=2) rfl ?_);refine box_event ?hg (N:=2) ?hd (cs:=#[.int .i64 a0_0,.slice A0_1 l0_1.length c0_1]) (t:=28) ?hr ?_;(case hd => rfl);(case hg => rfl);(case hr => first|(go_simp;done)|(go_simp;rfl));intro gb298 hg w24 hbox hb;have n0_:=Aside0.mk (below_step (be0_ HB.out) hb);have n1_:=Aside0.mk (hbox);have n2_:=Aside0.mk ((by rw [hg];exact (below_size (be0_ HB.out)) : w.heap.size ≤ gb298));have n3_:=Aside0.mk ((by rw [hg];exact (below_size (be0_ HB.out)) : w.heap.size ≤ gb298));clear HB;have HB:=n0_;have BK298:=n1_;have GW298:=n2_;have GE298:=n3_;clear n0_ n1_ n2_ n3_;clear hb hbox hg)|((with_reducible refine gate_dst (N:=3) rfl ?_);refine box_event ?hg (N:=3) ?hd (cs:=#[.int .i64 a1_0,.slice A1_1 l1_1.length c1_1]) (t:=28) ?hr ?_;(case hd => rfl);(case hg => rfl);(case hr => first|(go_simp;done)|(go_simp;rfl));intro gb299 hg w25 hbox hb;have n0_:=Aside0.mk (blk_below (g:=gb298) (o:=.cells #[.int .i64 a0_0,.slice A0_1 l0_1.length c0_1] 28 (0,0)) (pe_ BK298.out) hb);have n1_:=Aside0.mk (below_step (be1_ HB.out GE298.out) hb);have n2_:=Aside0.mk (hbox);have n3_:=Aside0.mk ((by rw [hg];exact (below_size (be1_ HB.out GE298.out)) : w.heap.size ≤ gb299));have n4_:=Aside0.mk ((by rw [hg];exact (below_size (be1_ HB.out GE298.out)) : w.heap.size ≤ gb299));have n5_:=Aside0.mk ((by rw [hg];exact Nat.ne_of_lt (blk_lt (g:=gb298) (o:=.cells #[.int .i64 a0_0,.slice A0_1 l0_1.length c0_1] 28 (0,0)) (pe_ BK298.out)) : gb298 ≠ gb299));have n6_:=Aside0.mk ((by rw [hg];exact Nat.ne_of_gt (blk_lt (g:=gb298) (o:=.cells #[.int .i64 a0_0,.slice A0_1 l0_1.length c0_1] 28 (0,0)) (pe_ BK298.out)) : gb299 ≠ gb298));clear BK298;clear HB;have BK298:=n0_;have HB:=n1_;have BK299:=n2_;have GW299:=n3_;have GE299:=n4_;have NB298_299:=n5_;have NB299_298:=n6_;clear n0_ n1_ n2_ n3_ n4_ n5_ n6_;clear hb hbox hg)|((with_reducible refine gate_dst (N:=4) rfl ?_);refine box_event ?hg (N:=4) ?hd (cs:=#[.int .i64 0,.slice none 0 0]) (t:=28) ?hr ?_;(case hd => rfl);(case hg => rfl);(case hr => first|(go_simp;done)|(go_simp;rfl));intro gb300 hg w26 hbox hb;have n0_:=Aside0.mk (blk_below (g:=gb298) (o:=.cells #[.int .i64 a0_0,.slice A0_1 l0_1.length c0_1] 28 (0,0)) (pe_ BK298.out) hb);have n1_:=Aside0.mk (blk_below (g:=gb299) (o:=.cells #[.int .i64 a1_0,.slice A1_1 l1_1.length c1_1] 28 (0,0)) (pe_ BK299.out) hb);have n2_:=Aside0.mk (below_step (be2_ HB.out GE298.out GE299.out) hb);have n3_:=Aside0.mk (hbox);have n4_:=Aside0.mk ((by rw [hg];exact (below_size (be2_ HB.out GE298.out GE299.out)) : w.heap.size ≤ gb300));have n5_:=Aside0.mk ((by rw [hg];exact (below_size (be2_ HB.out GE298.out GE299.out)) : w.heap.size ≤ gb300));have n6_:=Aside0.mk ((by rw [hg];exact Nat.ne_of_lt (blk_lt (g:=gb298) (o:=.cells #[.int .i64 a0_0,.slice A0_1 l0_1.length c0_1] 28 (0,0)) (pe_ BK298.out)) : gb298 ≠ gb300));have n7_:=Aside0.mk ((by rw [hg];exact Nat.ne_of_gt (blk_lt (g:=gb298) (o:=.cells #[.int .i64 a0_0,.slice A0_1 l0_1.length c0_1] 28 (0,0)) (pe_ BK298.out)) : gb300 ≠ gb298));have n8_:=Aside0.mk ((by rw [hg];exact Nat.ne_of_lt (blk_lt (g:=gb299) (o:=.cells #[.int .i64 a1_0,.slice A1_1 l1_1.length c1_1] 28 (0,0)) (pe_ BK299.out)) : gb299 ≠ gb300));have n9_:=Aside0.mk ((by rw [hg];exact Nat.ne_of_gt (blk_lt (g:=gb299) (o:=.cells #[.int .i64 a1_0,.slice A1_1 l1_1.length c1_1] 28 (0,0)) (pe_ BK299.out)) : gb300 ≠ gb299));clear BK298;clear BK299;clear HB;have BK298:=n0_;have BK299:=n1_;have HB:=n2_;have BK300:=n3_;have GW300:=n4_;have GE300:=n5_;have NB298_300:=n6_;have NB300_298:=n7_;have NB299_300:=n8_;have NB300_299:=n9_;clear n0_ n1_ n2_ n3_ n4_ n5_ n6_ n7_ n8_ n9_;clear hb hbox hg;have hnb27:=NB298_299.out;have hnc27:=NB299_298.out;have hnb28:=NB298_300.out;have hnc28:=NB300_298.out;have hcz29_0 : w26.cell? ⟨gb298,0,none⟩ = some (.int .i64 a0_0):=(blk_cell BK298.out 0).trans rfl;have hcz29_1 : w26.cell? ⟨gb298,1,none⟩ = some (.slice A0_1 l0_1.length c0_1):=(blk_cell BK298.out 1).trans rfl;have hfz29_0:=blk_frozen BK298.out 0;have hfz29_1:=blk_frozen BK298.out 1)|((with_reducible refine gate_callee (f:=36) rfl ?_);refine goesL_ (some 7) rfl rfl Try.func36 (by kernel_rfl) rfl #[.agg #[.int .i64 a0_0,.slice A0_1 l0_1.length c0_1]] rfl lp_ ?_;(with_reducible refine (impl_GradesValid.calls k a0_0 _ _ l0_1 true _ ?side1 ?side2 A3.out).mono ?_);(case side1 => repeat (first|exact (Kd.C_below HR0_1.out HB.out)|(with_reducible refine Kd.C_alloc ?_ _)|(with_reducible refine Kd.C_drewN ?_ _)|(with_reducible refine Kd.C_drew ?_)));(case side2 => exact HC0_1.out);rintro e w30 ⟨rfl,hb⟩;refine ⟨_,rfl,?_⟩;have n0_:=Aside0.mk (blk_below (g:=gb298) (o:=.cells #[.int .i64 a0_0,.slice A0_1 l0_1.length c0_1] 28 (0,0)) (pe_ BK298.out) hb);have n1_:=Aside0.mk (blk_below (g:=gb299) (o:=.cells #[.int .i64 a1_0,.slice A1_1 l1_1.length c1_1] 28 (0,0)) (pe_ BK299.out) hb);have n2_:=Aside0.mk (blk_below (g:=gb300) (o:=.cells #[.int .i64 0,.slice none 0 0] 28 (0,0)) (pe_ BK300.out) hb);have n3_:=Aside0.mk (below_step (be3_ HB.out GE298.out GE299.out GE300.out) hb);clear BK298;clear BK299;clear BK300;clear HB;have BK298:=n0_;have BK299:=n1_;have BK300:=n2_;have HB:=n3_;clear n0_ n1_ n2_ n3_;(try clear hb);(try clear hb2);(try clear hk);(try clear hi);have hnb31:=NB299_300.out;have hnc31:=NB300_299.out;have hcz32_0 : w30.cell? ⟨gb299,0,none⟩ = some (.int .i64 a1_0):=(blk_cell BK299.out 0).trans rfl;have hcz32_1 : w30.cell? ⟨gb299,1,none⟩ = some (.slice A1_1 l1_1.length c1_1):=(blk_cell BK299.out 1).trans rfl;have hfz32_0:=blk_frozen BK299.out 0;have hfz32_1:=blk_frozen BK299.out 1)|(go_at_call 36;(with_reducible refine (impl_GradesValid.calls k a1_0 _ _ l1_1 true _ ?side1 ?side2 A5.out).mono ?_);(case side1 => repeat (first|exact (Kd.C_below HR1_1.out HB.out)|(with_reducible refine Kd.C_alloc ?_ _)|(with_reducible refine Kd.C_drewN ?_ _)|(with_reducible refine Kd.C_drew ?_)));(case side2 => exact HC1_1.out);rintro e w33 ⟨rfl,hb⟩;have n0_:=Aside0.mk (blk_below (g:=gb298) (o:=.cells #[.int .i64 a0_0,.slice A0_1 l0_1.length c0_1] 28 (0,0)) (pe_ BK298.out) hb);have n1_:=Aside0.mk (blk_below (g:=gb299) (o:=.cells #[.int .i64 a1_0,.slice A1_1 l1_1.length c1_1] 28 (0,0)) (pe_ BK299.out) hb);have n2_:=Aside0.mk (blk_below (g:=gb300) (o:=.cells #[.int .i64 0,.slice none 0 0] 28 (0,0)) (pe_ BK300.out) hb);have n3_:=Aside0.mk (below_step (be3_ HB.out GE298.out GE299.out GE300.out) hb);clear BK298;clear BK299;clear BK300;clear HB;have BK298:=n0_;have BK299:=n1_;have BK300:=n2_;have HB:=n3_;clear n0_ n1_ n2_ n3_;(try clear hb);(try clear hb2);(try clear hk);(try clear hi);have hcz34_0 : w33.cell? ⟨gb298,0,none⟩ = some (.int .i64 a0_0):=(blk_cell BK298.out 0).trans rfl;have hcz34_1 : w33.cell? ⟨gb298,1,none⟩ = some (.slice A0_1 l0_1.length c0_1):=(blk_cell BK298.out 1).trans rfl;have hfz34_0:=blk_frozen BK298.out 0;have hfz34_1:=blk_frozen BK298.out 1;have hcz35_0 : w33.cell? ⟨gb299,0,none⟩ = some (.int .i64 a1_0):=(blk_cell BK299.out 0).trans rfl;have hcz35_1 : w33.cell? ⟨gb299,1,none⟩ = some (.slice A1_1 l1_1.length c1_1):=(blk_cell BK299.out 1).trans rfl;have hfz35_0:=blk_frozen BK299.out 0;have hfz35_1:=blk_frozen BK299.out 1;have hcz36_0 : w33.cell? ⟨gb300,0,none⟩ = some (.int .i64 0):=(blk_cell BK300.out 0).trans rfl;have hcz36_1 : w33.cell? ⟨gb300,1,none⟩ = some (.slice none 0 0):=(blk_cell BK300.out 1).trans rfl;have hfz36_0:=blk_frozen BK300.out 0;have hfz36_1:=blk_frozen BK300.out 1))
    refine bodyPost_ret (results_ct rfl _ _ gb300 28 #[.int .i64 0,.slice none 0 0] (0,0) _ rfl (by refine pe_ ?_;refine blk_put (cs:=#[.int .i64 0,.slice none 0 0]) ?_ 1 _ rfl;refine pe_ ?_;refine blk_put (cs:=#[.int .i64 0,.slice none 0 0]) ?_ 0 _ rfl;refine pe_ ?_;exact BK300.out) Try.underlying28 rfl (by kernel_rfl)) rfl ?_
    exact ⟨_,by first|rfl|(simp [errW_none,errW_some] <;> rfl)|(simp [*,errW_none,errW_some] <;> rfl),by first|exact Kd.R_nil _ _ _ _ _|exact Kd.N_nil _ _ _ _ _|exact Kd.V_nil _ _ _ _ _|exact Kd.Q_nil _ _ _ _ _|exact Kd.S_nil _ _ _ _ _,be3_ HB.out GE298.out GE299.out GE300.out⟩
  ·replace c6:=Bool.eq_false_iff.mpr c6
   subst c6
   have H1 : (some (0,([] : List Int),false)) = some (r1,r2,r3):=by rw [if_neg (show ¬ (false = true) by decide)] at H;exact H
   clear H
   have H:=H1
   clear H1
   simp only [Option.some.injEq,Prod.mk.injEq] at H
   obtain ⟨rfl,rfl,rfl⟩:=H
   go_enter Try.func27,Try.ntmps27
   go_wp2_with (first|((with_reducible refine gate_dst (N:=2) rfl ?_);refine box_event ?hg (N:=2) ?hd (cs:=#[.int .i64 a0_0,.slice A0_1 l0_1.length c0_1]) (t:=28) ?hr ?_;(case hd => rfl);(case hg => rfl);(case hr => first|(go_simp;done)|(go_simp;rfl));intro gb298 hg w37 hbox hb;have n0_:=Aside0.mk (below_step (be0_ HB.out) hb);have n1_:=Aside0.mk (hbox);have n2_:=Aside0.mk ((by rw [hg];exact (below_size (be0_ HB.out)) : w.heap.size ≤ gb298));have n3_:=Aside0.mk ((by rw [hg];exact (below_size (be0_ HB.out)) : w.heap.size ≤ gb298));clear HB;have HB:=n0_;have BK298:=n1_;have GW298:=n2_;have GE298:=n3_;clear n0_ n1_ n2_ n3_;clear hb hbox hg)|((with_reducible refine gate_dst (N:=3) rfl ?_);refine box_event ?hg (N:=3) ?hd (cs:=#[.int .i64 a1_0,.slice A1_1 l1_1.length c1_1]) (t:=28) ?hr ?_;(case hd => rfl);(case hg => rfl);(case hr => first|(go_simp;done)|(go_simp;rfl));intro gb299 hg w38 hbox hb;have n0_:=Aside0.mk (blk_below (g:=gb298) (o:=.cells #[.int .i64 a0_0,.slice A0_1 l0_1.length c0_1] 28 (0,0)) (pe_ BK298.out) hb);have n1_:=Aside0.mk (below_step (be1_ HB.out GE298.out) hb);have n2_:=Aside0.mk (hbox);have n3_:=Aside0.mk ((by rw [hg];exact (below_size (be1_ HB.out GE298.out)) : w.heap.size ≤ gb299));have n4_:=Aside0.mk ((by rw [hg];exact (below_size (be1_ HB.out GE298.out)) : w.heap.size ≤ gb299));have n5_:=Aside0.mk ((by rw [hg];exact Nat.ne_of_lt (blk_lt (g:=gb298) (o:=.cells #[.int .i64 a0_0,.slice A0_1 l0_1.length c0_1] 28 (0,0)) (pe_ BK298.out)) : gb298 ≠ gb299));have n6_:=Aside0.mk ((by rw [hg];exact Nat.ne_of_gt (blk_lt (g:=gb298) (o:=.cells #[.int .i64 a0_0,.slice A0_1 l0_1.length c0_1] 28 (0,0)) (pe_ BK298.out)) : gb299 ≠ gb298));clear BK298;clear HB;have BK298:=n0_;have HB:=n1_;have BK299:=n2_;have GW299:=n3_;have GE299:=n4_;have NB298_299:=n5_;have NB299_298:=n6_;clear n0_ n1_ n2_ n3_ n4_ n5_ n6_;clear hb hbox hg)|((with_reducible refine gate_dst (N:=4) rfl ?_);refine box_event ?hg (N:=4) ?hd (cs:=#[.int .i64 0,.slice none 0 0]) (t:=28) ?hr ?_;(case hd => rfl);(case hg => rfl);(case hr => first|(go_simp;done)|(go_simp;rfl));intro gb300 hg w39 hbox hb;have n0_:=Aside0.mk (blk_below (g:=gb298) (o:=.cells #[.int .i64 a0_0,.slice A0_1 l0_1.length c0_1] 28 (0,0)) (pe_ BK298.out) hb);have n1_:=Aside0.mk (blk_below (g:=gb299) (o:=.cells #[.int .i64 a1_0,.slice A1_1 l1_1.length c1_1] 28 (0,0)) (pe_ BK299.out) hb);have n2_:=Aside0.mk (below_step (be2_ HB.out GE298.out GE299.out) hb);have n3_:=Aside0.mk (hbox);have n4_:=Aside0.mk ((by rw [hg];exact (below_size (be2_ HB.out GE298.out GE299.out)) : w.heap.size ≤ gb300));have n5_:=Aside0.mk ((by rw [hg];exact (below_size (be2_ HB.out GE298.out GE299.out)) : w.heap.size ≤ gb300));have n6_:=Aside0.mk ((by rw [hg];exact Nat.ne_of_lt (blk_lt (g:=gb298) (o:=.cells #[.int .i64 a0_0,.slice A0_1 l0_1.length c0_1] 28 (0,0)) (pe_ BK298.out)) : gb298 ≠ gb300));have n7_:=Aside0.mk ((by rw [hg];exact Nat.ne_of_gt (blk_lt (g:=gb298) (o:=.cells #[.int .i64 a0_0,.slice A0_1 l0_1.length c0_1] 28 (0,0)) (pe_ BK298.out)) : gb300 ≠ gb298));have n8_:=Aside0.mk ((by rw [hg];exact Nat.ne_of_lt (blk_lt (g:=gb299) (o:=.cells #[.int .i64 a1_0,.slice A1_1 l1_1.length c1_1] 28 (0,0)) (pe_ BK299.out)) : gb299 ≠ gb300));have n9_:=Aside0.mk ((by rw [hg];exact Nat.ne_of_gt (blk_lt (g:=gb299) (o:=.cells #[.int .i64 a1_0,.slice A1_1 l1_1.length c1_1] 28 (0,0)) (pe_ BK299.out)) : gb300 ≠ gb299));clear BK298;clear BK299;clear HB;have BK298:=n0_;have BK299:=n1_;have HB:=n2_;have BK300:=n3_;have GW300:=n4_;have GE300:=n5_;have NB298_300:=n6_;have NB300_298:=n7_;have NB299_300:=n8_;have NB300_299:=n9_;clear n0_ n1_ n2_ n3_ n4_ n5_ n6_ n7_ n8_ n9_;clear hb hbox hg;have hnb40:=NB298_299.out;have hnc40:=NB299_298.out;have hnb41:=NB298_300.out;have hnc41:=NB300_298.out;have hcz42_0 : w39.cell? ⟨gb298,0,none⟩ = some (.int .i64 a0_0):=(blk_cell BK298.out 0).trans rfl;have hcz42_1 : w39.cell? ⟨gb298,1,none⟩ = some (.slice A0_1 l0_1.length c0_1):=(blk_cell BK298.out 1).trans rfl;have hfz42_0:=blk_frozen BK298.out 0;have hfz42_1:=blk_frozen BK298.out 1)|((with_reducible refine gate_callee (f:=36) rfl ?_);refine goesL_ (some 7) rfl rfl Try.func36 (by kernel_rfl) rfl #[.agg #[.int .i64 a0_0,.slice A0_1 l0_1.length c0_1]] rfl lp_ ?_;(with_reducible refine (impl_GradesValid.calls k a0_0 _ _ l0_1 true _ ?side1 ?side2 A3.out).mono ?_);(case side1 => repeat (first|exact (Kd.C_below HR0_1.out HB.out)|(with_reducible refine Kd.C_alloc ?_ _)|(with_reducible refine Kd.C_drewN ?_ _)|(with_reducible refine Kd.C_drew ?_)));(case side2 => exact HC0_1.out);rintro e w43 ⟨rfl,hb⟩;refine ⟨_,rfl,?_⟩;have n0_:=Aside0.mk (blk_below (g:=gb298) (o:=.cells #[.int .i64 a0_0,.slice A0_1 l0_1.length c0_1] 28 (0,0)) (pe_ BK298.out) hb);have n1_:=Aside0.mk (blk_below (g:=gb299) (o:=.cells #[.int .i64 a1_0,.slice A1_1 l1_1.length c1_1] 28 (0,0)) (pe_ BK299.out) hb);have n2_:=Aside0.mk (blk_below (g:=gb300) (o:=.cells #[.int .i64 0,.slice none 0 0] 28 (0,0)) (pe_ BK300.out) hb);have n3_:=Aside0.mk (below_step (be3_ HB.out GE298.out GE299.out GE300.out) hb);clear BK298;clear BK299;clear BK300;clear HB;have BK298:=n0_;have BK299:=n1_;have BK300:=n2_;have HB:=n3_;clear n0_ n1_ n2_ n3_;(try clear hb);(try clear hb2);(try clear hk);(try clear hi);have hnb44:=NB299_300.out;have hnc44:=NB300_299.out;have hcz45_0 : w43.cell? ⟨gb299,0,none⟩ = some (.int .i64 a1_0):=(blk_cell BK299.out 0).trans rfl;have hcz45_1 : w43.cell? ⟨gb299,1,none⟩ = some (.slice A1_1 l1_1.length c1_1):=(blk_cell BK299.out 1).trans rfl;have hfz45_0:=blk_frozen BK299.out 0;have hfz45_1:=blk_frozen BK299.out 1)|(go_at_call 36;(with_reducible refine (impl_GradesValid.calls k a1_0 _ _ l1_1 false _ ?side1 ?side2 A5.out).mono ?_);(case side1 => repeat (first|exact (Kd.C_below HR1_1.out HB.out)|(with_reducible refine Kd.C_alloc ?_ _)|(with_reducible refine Kd.C_drewN ?_ _)|(with_reducible refine Kd.C_drew ?_)));(case side2 => exact HC1_1.out);rintro e w46 ⟨rfl,hb⟩;have n0_:=Aside0.mk (blk_below (g:=gb298) (o:=.cells #[.int .i64 a0_0,.slice A0_1 l0_1.length c0_1] 28 (0,0)) (pe_ BK298.out) hb);have n1_:=Aside0.mk (blk_below (g:=gb299) (o:=.cells #[.int .i64 a1_0,.slice A1_1 l1_1.length c1_1] 28 (0,0)) (pe_ BK299.out) hb);have n2_:=Aside0.mk (blk_below (g:=gb300) (o:=.cells #[.int .i64 0,.slice none 0 0] 28 (0,0)) (pe_ BK300.out) hb);have n3_:=Aside0.mk (below_step (be3_ HB.out GE298.out GE299.out GE300.out) hb);clear BK298;clear BK299;clear BK300;clear HB;have BK298:=n0_;have BK299:=n1_;have BK300:=n2_;have HB:=n3_;clear n0_ n1_ n2_ n3_;(try clear hb);(try clear hb2);(try clear hk);(try clear hi);have hcz47_0 : w46.cell? ⟨gb300,0,none⟩ = some (.int .i64 0):=(blk_cell BK300.out 0).trans rfl;have hcz47_1 : w46.cell? ⟨gb300,1,none⟩ = some (.slice none 0 0):=(blk_cell BK300.out 1).trans rfl;have hfz47_0:=blk_frozen BK300.out 0;have hfz47_1:=blk_frozen BK300.out 1))
   refine bodyPost_ret (results_ct rfl _ _ gb300 28 #[.int .i64 0,.slice none 0 0] (0,0) _ rfl (by refine pe_ ?_;refine blk_put (cs:=#[.int .i64 0,.slice none 0 0]) ?_ 1 _ rfl;refine pe_ ?_;refine blk_put (cs:=#[.int .i64 0,.slice none 0 0]) ?_ 0 _ rfl;refine pe_ ?_;exact BK300.out) Try.underlying28 rfl (by kernel_rfl)) rfl ?_
   exact ⟨_,by first|rfl|(simp [errW_none,errW_some] <;> rfl)|(simp [*,errW_none,errW_some] <;> rfl),by first|exact Kd.R_nil _ _ _ _ _|exact Kd.N_nil _ _ _ _ _|exact Kd.V_nil _ _ _ _ _|exact Kd.Q_nil _ _ _ _ _|exact Kd.S_nil _ _ _ _ _,be3_ HB.out GE298.out GE299.out GE300.out⟩
 ·replace c4:=Bool.eq_false_iff.mpr c4
  subst c4
  have H1 : (some (0,([] : List Int),false)) = some (r1,r2,r3):=by rw [if_neg (show ¬ (false = true) by decide)] at H;exact H
  clear H
  have H:=H1
  clear H1
  simp only [Option.some.injEq,Prod.mk.injEq] at H
  obtain ⟨rfl,rfl,rfl⟩:=H
  go_enter Try.func27,Try.ntmps27
  go_wp2_with (first|((with_reducible refine gate_dst (N:=2) rfl ?_);refine box_event ?hg (N:=2) ?hd (cs:=#[.int .i64 a0_0,.slice A0_1 l0_1.length c0_1]) (t:=28) ?hr ?_;(case hd => rfl);(case hg => rfl);(case hr => first|(go_simp;done)|(go_simp;rfl));intro gb298 hg w48 hbox hb;have n0_:=Aside0.mk (below_step (be0_ HB.out) hb);have n1_:=Aside0.mk (hbox);have n2_:=Aside0.mk ((by rw [hg];exact (below_size (be0_ HB.out)) : w.heap.size ≤ gb298));have n3_:=Aside0.mk ((by rw [hg];exact (below_size (be0_ HB.out)) : w.heap.size ≤ gb298));clear HB;have HB:=n0_;have BK298:=n1_;have GW298:=n2_;have GE298:=n3_;clear n0_ n1_ n2_ n3_;clear hb hbox hg)|((with_reducible refine gate_dst (N:=3) rfl ?_);refine box_event ?hg (N:=3) ?hd (cs:=#[.int .i64 a1_0,.slice A1_1 l1_1.length c1_1]) (t:=28) ?hr ?_;(case hd => rfl);(case hg => rfl);(case hr => first|(go_simp;done)|(go_simp;rfl));intro gb299 hg w49 hbox hb;have n0_:=Aside0.mk (blk_below (g:=gb298) (o:=.cells #[.int .i64 a0_0,.slice A0_1 l0_1.length c0_1] 28 (0,0)) (pe_ BK298.out) hb);have n1_:=Aside0.mk (below_step (be1_ HB.out GE298.out) hb);have n2_:=Aside0.mk (hbox);have n3_:=Aside0.mk ((by rw [hg];exact (below_size (be1_ HB.out GE298.out)) : w.heap.size ≤ gb299));have n4_:=Aside0.mk ((by rw [hg];exact (below_size (be1_ HB.out GE298.out)) : w.heap.size ≤ gb299));have n5_:=Aside0.mk ((by rw [hg];exact Nat.ne_of_lt (blk_lt (g:=gb298) (o:=.cells #[.int .i64 a0_0,.slice A0_1 l0_1.length c0_1] 28 (0,0)) (pe_ BK298.out)) : gb298 ≠ gb299));have n6_:=Aside0.mk ((by rw [hg];exact Nat.ne_of_gt (blk_lt (g:=gb298) (o:=.cells #[.int .i64 a0_0,.slice A0_1 l0_1.length c0_1] 28 (0,0)) (pe_ BK298.out)) : gb299 ≠ gb298));clear BK298;clear HB;have BK298:=n0_;have HB:=n1_;have BK299:=n2_;have GW299:=n3_;have GE299:=n4_;have NB298_299:=n5_;have NB299_298:=n6_;clear n0_ n1_ n2_ n3_ n4_ n5_ n6_;clear hb hbox hg)|((with_reducible refine gate_dst (N:=4) rfl ?_);refine box_event ?hg (N:=4) ?hd (cs:=#[.int .i64 0,.slice none 0 0]) (t:=28) ?hr ?_;(case hd => rfl);(case hg => rfl);(case hr => first|(go_simp;done)|(go_simp;rfl));intro gb300 hg w50 hbox hb;have n0_:=Aside0.mk (blk_below (g:=gb298) (o:=.cells #[.int .i64 a0_0,.slice A0_1 l0_1.length c0_1] 28 (0,0)) (pe_ BK298.out) hb);have n1_:=Aside0.mk (blk_below (g:=gb299) (o:=.cells #[.int .i64 a1_0,.slice A1_1 l1_1.length c1_1] 28 (0,0)) (pe_ BK299.out) hb);have n2_:=Aside0.mk (below_step (be2_ HB.out GE298.out GE299.out) hb);have n3_:=Aside0.mk (hbox);have n4_:=Aside0.mk ((by rw [hg];exact (below_size (be2_ HB.out GE298.out GE299.out)) : w.heap.size ≤ gb300));have n5_:=Aside0.mk ((by rw [hg];exact (below_size (be2_ HB.out GE298.out GE299.out)) : w.heap.size ≤ gb300));have n6_:=Aside0.mk ((by rw [hg];exact Nat.ne_of_lt (blk_lt (g:=gb298) (o:=.cells #[.int .i64 a0_0,.slice A0_1 l0_1.length c0_1] 28 (0,0)) (pe_ BK298.out)) : gb298 ≠ gb300));have n7_:=Aside0.mk ((by rw [hg];exact Nat.ne_of_gt (blk_lt (g:=gb298) (o:=.cells #[.int .i64 a0_0,.slice A0_1 l0_1.length c0_1] 28 (0,0)) (pe_ BK298.out)) : gb300 ≠ gb298));have n8_:=Aside0.mk ((by rw [hg];exact Nat.ne_of_lt (blk_lt (g:=gb299) (o:=.cells #[.int .i64 a1_0,.slice A1_1 l1_1.length c1_1] 28 (0,0)) (pe_ BK299.out)) : gb299 ≠ gb300));have n9_:=Aside0.mk ((by rw [hg];exact Nat.ne_of_gt (blk_lt (g:=gb299) (o:=.cells #[.int .i64 a1_0,.slice A1_1 l1_1.length c1_1] 28 (0,0)) (pe_ BK299.out)) : gb300 ≠ gb299));clear BK298;clear BK299;clear HB;have BK298:=n0_;have BK299:=n1_;have HB:=n2_;have BK300:=n3_;have GW300:=n4_;have GE300:=n5_;have NB298_300:=n6_;have NB300_298:=n7_;have NB299_300:=n8_;have NB300_299:=n9_;clear n0_ n1_ n2_ n3_ n4_ n5_ n6_ n7_ n8_ n9_;clear hb hbox hg;have hnb51:=NB298_299.out;have hnc51:=NB299_298.out;have hnb52:=NB298_300.out;have hnc52:=NB300_298.out;have hcz53_0 : w50.cell? ⟨gb298,0,none⟩ = some (.int .i64 a0_0):=(blk_cell BK298.out 0).trans rfl;have hcz53_1 : w50.cell? ⟨gb298,1,none⟩ = some (.slice A0_1 l0_1.length c0_1):=(blk_cell BK298.out 1).trans rfl;have hfz53_0:=blk_frozen BK298.out 0;have hfz53_1:=blk_frozen BK298.out 1)|((with_reducible refine gate_callee (f:=36) rfl ?_);refine goesL_ (some 7) rfl rfl Try.func36 (by kernel_rfl) rfl #[.agg #[.int .i64 a0_0,.slice A0_1 l0_1.length c0_1]] rfl lp_ ?_;(with_reducible refine (impl_GradesValid.calls k a0_0 _ _ l0_1 false _ ?side1 ?side2 A3.out).mono ?_);(case side1 => repeat (first|exact (Kd.C_below HR0_1.out HB.out)|(with_reducible refine Kd.C_alloc ?_ _)|(with_reducible refine Kd.C_drewN ?_ _)|(with_reducible refine Kd.C_drew ?_)));(case side2 => exact HC0_1.out);rintro e w54 ⟨rfl,hb⟩;refine ⟨_,rfl,?_⟩;have n0_:=Aside0.mk (blk_below (g:=gb298) (o:=.cells #[.int .i64 a0_0,.slice A0_1 l0_1.length c0_1] 28 (0,0)) (pe_ BK298.out) hb);have n1_:=Aside0.mk (blk_below (g:=gb299) (o:=.cells #[.int .i64 a1_0,.slice A1_1 l1_1.length c1_1] 28 (0,0)) (pe_ BK299.out) hb);have n2_:=Aside0.mk (blk_below (g:=gb300) (o:=.cells #[.int .i64 0,.slice none 0 0] 28 (0,0)) (pe_ BK300.out) hb);have n3_:=Aside0.mk (below_step (be3_ HB.out GE298.out GE299.out GE300.out) hb);clear BK298;clear BK299;clear BK300;clear HB;have BK298:=n0_;have BK299:=n1_;have BK300:=n2_;have HB:=n3_;clear n0_ n1_ n2_ n3_;(try clear hb);(try clear hb2);(try clear hk);(try clear hi);have hnb55:=NB300_299.out;have hnc55:=NB299_300.out;have hcz56_0 : w54.cell? ⟨gb300,0,none⟩ = some (.int .i64 0):=(blk_cell BK300.out 0).trans rfl;have hcz56_1 : w54.cell? ⟨gb300,1,none⟩ = some (.slice none 0 0):=(blk_cell BK300.out 1).trans rfl;have hfz56_0:=blk_frozen BK300.out 0;have hfz56_1:=blk_frozen BK300.out 1))
  refine bodyPost_ret (results_ct rfl _ _ gb300 28 #[.int .i64 0,.slice none 0 0] (0,0) _ rfl (by refine pe_ ?_;refine blk_put (cs:=#[.int .i64 0,.slice none 0 0]) ?_ 1 _ rfl;refine pe_ ?_;refine blk_put (cs:=#[.int .i64 0,.slice none 0 0]) ?_ 0 _ rfl;refine pe_ ?_;exact BK300.out) Try.underlying28 rfl (by kernel_rfl)) rfl ?_
  exact ⟨_,by first|rfl|(simp [errW_none,errW_some] <;> rfl)|(simp [*,errW_none,errW_some] <;> rfl),by first|exact Kd.R_nil _ _ _ _ _|exact Kd.N_nil _ _ _ _ _|exact Kd.V_nil _ _ _ _ _|exact Kd.Q_nil _ _ _ _ _|exact Kd.S_nil _ _ _ _ _,be3_ HB.out GE298.out GE299.out GE300.out⟩
end Go.Proofs.Ytengegdaiphfeaa.X
end
