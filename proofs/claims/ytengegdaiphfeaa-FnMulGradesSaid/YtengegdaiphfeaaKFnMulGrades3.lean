import Derived.Test.YtengegdaiphfeaaKFnMulGrades1
import Derived.Test.YtengegdaiphfeaaKFnMulGrades2
section
namespace Go.Proofs.Ytengegdaiphfeaa.X
open Go.RowKit Go.Proofs.YtengegdaiphfeaaW.PrintWords Go.Proofs.YtengegdaiphfeaaW.PrintLast Go.Proofs.YtengegdaiphfeaaW.PrintMore
attribute [local go_sem] max2_int min2_int max_two min_two max_three min_three max_four min_four
set_option linter.unusedVariables false
set_option linter.unusedSimpArgs false
def spec_l6Idem.f (k : Nat) (s0_0 : List Int) (s0_1 : Int) : Option (Int × List Int × Int):=(spec_l6Some.f k s0_0 s0_1).bind fun bt629 => ((spec_l13Rd_pick.f k s0_0 bt629.2.2 4).bind fun bt635 => (if bt635.1 > 0 then ((spec_IdempotentOf.f k bt629.1 bt629.2.1).bind fun bt637 => (if bt637.2.2.2 = true then (some (bt637.1,bt637.2.1,bt635.2)) else (some (bt629.1,bt629.2.1,bt635.2)))) else (some (bt629.1,bt629.2.1,bt635.2))))
theorem spec_l6Idem.mono : ∀ a0 a1 k,LeO (spec_l6Idem.f k a0 a1) (spec_l6Idem.f (k + 1) a0 a1):=by
 intro a0 a1 k
 unfold spec_l6Idem.f
 repeat' first
   | (with_reducible exact spec_IdempotentOf.mono _ _ _)
   | (with_reducible exact spec_l13Rd_pick.mono _ _ _ _)
   | (with_reducible exact spec_l6Some.mono _ _ _)
   | (with_reducible exact LeO.refl _)
   | (with_reducible exact LeO.none _)
   | (with_reducible refine LeO.ite ?_ ?_)
   | (with_reducible refine LeO.bind ?_ (fun _ => ?_))
   | exact spec_IdempotentOf.mono _ _ _
   | exact spec_l13Rd_pick.mono _ _ _ _
   | exact spec_l6Some.mono _ _ _
   | exact LeO.none _
   | refine LeO.ite ?_ ?_
   | refine LeO.bind ?_ (fun _ => ?_)
set_option maxHeartbeats 8000000 in
set_option maxRecDepth 100000 in
theorem spec_l6Idem.calls (k : Nat) (g : Nat) (s0_0 : List Int) (s0_1 : Int) (r1 : Int) (r2 : List Int) (r3 : Int) (w0 w : World) (hI : IsS90 w0 w g s0_0 s0_1) (hB : Below w0.heap.size w0 w) (h : spec_l6Idem.f k s0_0 s0_1 = some (r1,r2,r3)) :
  Calls Try.prog 79 #[.pointer (some ⟨g,0,none⟩)] w fun e w' => ∃ v1_ : Value,e = .returned (.agg #[.int .i64 r1,v1_]) ∧ Kd.V (Kd.int .i64) 3 w' w.heap.size (fun k_ => (w.heap.size ≤ k_)) v1_ r2 ∧ IsS90 w0 w' g s0_0 r3 ∧ Below w0.heap.size w0 w' ∧ KeepBut w w' g none:=by
 have hu28:=Try.underlying28
 have HI0:=Aside0.mk hI
 have HK:=Aside0.mk (KeepBut.refl w g none)
 have HL:=Aside0.mk hB.size
 clear hI
 have HW0:=Aside0.mk hB.size
 have HB:=Aside0.mk hB
 clear hB
 have H : ((spec_l6Some.f k s0_0 s0_1).bind fun bt629 => ((spec_l13Rd_pick.f k s0_0 bt629.2.2 4).bind fun bt635 => (if bt635.1 > 0 then ((spec_IdempotentOf.f k bt629.1 bt629.2.1).bind fun bt637 => (if bt637.2.2.2 = true then (some (bt637.1,bt637.2.1,bt635.2)) else (some (bt629.1,bt629.2.1,bt635.2)))) else (some (bt629.1,bt629.2.1,bt635.2))))) = some (r1,r2,r3):=h
 clear h
 replace H:=Option.bind_eq_some_iff.mp H
 obtain ⟨⟨t629,t630,t633⟩,A20,H⟩:=H
 replace H : ((spec_l13Rd_pick.f k s0_0 t633 4).bind fun bt635 => (if bt635.1 > 0 then ((spec_IdempotentOf.f k t629 t630).bind fun bt637 => (if bt637.2.2.2 = true then (some (bt637.1,bt637.2.1,bt635.2)) else (some (t629,t630,bt635.2)))) else (some (t629,t630,bt635.2)))) = some (r1,r2,r3):=H
 have A2:=Aside0.mk A20
 clear A20
 replace H:=Option.bind_eq_some_iff.mp H
 obtain ⟨⟨t635,t636⟩,A30,H⟩:=H
 replace H : (if t635 > 0 then ((spec_IdempotentOf.f k t629 t630).bind fun bt637 => (if bt637.2.2.2 = true then (some (bt637.1,bt637.2.1,t636)) else (some (t629,t630,t636)))) else (some (t629,t630,t636))) = some (r1,r2,r3):=H
 have A3:=Aside0.mk A30
 clear A30
 by_cases c4 : t635 > 0
 ·rw [if_pos c4] at H
  have c4b0 : decide (0 < t635) = true:=decide_eq_true c4
  clear c4
  replace H:=Option.bind_eq_some_iff.mp H
  obtain ⟨⟨t637,t638,t641,t642⟩,A50,H⟩:=H
  replace H : (if t642 = true then (some (t637,t638,t636)) else (some (t629,t630,t636))) = some (r1,r2,r3):=H
  have A5:=Aside0.mk A50
  clear A50
  by_cases c6 : t642 = true
  ·subst c6
   have H1 : (some (t637,t638,t636)) = some (r1,r2,r3):=by rw [if_pos rfl] at H;exact H
   clear H
   have H:=H1
   clear H1
   simp only [Option.some.injEq,Prod.mk.injEq] at H
   obtain ⟨rfl,rfl,rfl⟩:=H
   go_enter Try.func79,Try.ntmps79
   go_wp2_with (first|((with_reducible refine gate_dst (N:=2) rfl ?_);refine box_event ?hg (N:=2) ?hd (cs:=#[.int .i64 0,.slice none 0 0]) (t:=28) ?hr ?_;(case hd => rfl);(case hg => rfl);(case hr => first|(go_simp;done)|(go_simp;rfl));intro gb628 hg w7 hbox hb;have n0_:=Aside0.mk (IsS90.below (by repeat (first|(with_reducible first|exact HI0.out|apply IsS90.alloc|apply IsS90.drewN|apply IsS90.drew|apply IsS90.set_1)|exact HI0.out)) hb);have n1_:=Aside0.mk (KeepBut.trans (ke0_ HK.out) (KeepBut.of_below hb g none) (.inl rfl));have n2_:=Aside0.mk (below_step (by repeat (first|(with_reducible first|exact HB.out|apply below_alloc|apply pw_below_drewN|apply below_drew1|refine below_set ?_ (IsS90.ge HI0.out))|exact HB.out)) hb);have n3_:=Aside0.mk (hbox);have n4_:=Aside0.mk ((by rw [hg];exact (keep_size (w:=w) (g:=g) (row:=none) (ke0_ HK.out)) : w.heap.size ≤ gb628));have n5_:=Aside0.mk ((Nat.le_trans HW0.out (by rw [hg];exact (keep_size (w:=w) (g:=g) (row:=none) (ke0_ HK.out)) : w.heap.size ≤ gb628) : w0.heap.size ≤ gb628));have n6_:=Aside0.mk ((by rw [hg];exact Nat.ne_of_lt (IsS90.lt (show IsS90 w0 _ g s0_0 s0_1 from by repeat (first|(with_reducible first|exact HI0.out|apply IsS90.alloc|apply IsS90.drewN|apply IsS90.drew|apply IsS90.set_1)|exact HI0.out))) : g ≠ gb628));have n7_:=Aside0.mk ((by rw [hg];exact Nat.ne_of_gt (IsS90.lt (show IsS90 w0 _ g s0_0 s0_1 from by repeat (first|(with_reducible first|exact HI0.out|apply IsS90.alloc|apply IsS90.drewN|apply IsS90.drew|apply IsS90.set_1)|exact HI0.out))) : gb628 ≠ g));clear HI0;clear HK;clear HB;have HI0:=n0_;have HK:=n1_;have HB:=n2_;have BK628:=n3_;have GW628:=n4_;have GE628:=n5_;have NB0_628:=n6_;have NB628_0:=n7_;clear n0_ n1_ n2_ n3_ n4_ n5_ n6_ n7_;clear hb hbox hg)|((with_reducible refine gate_callee (f:=70) rfl ?_);refine goesL_ (some 8) rfl rfl Try.func70 (by kernel_rfl) rfl #[.pointer (some ⟨g,0,none⟩)] rfl lp_ ?_;(with_reducible refine (spec_l6Some.calls k g s0_0 s0_1 t629 t630 t633 w0 _ ?side1 ?side2 A2.out).mono ?_);(case side1 => repeat (first|(with_reducible first|exact HI0.out|apply IsS90.alloc|apply IsS90.drewN|apply IsS90.drew|apply IsS90.set_1|refine IsS90.far ?_ NB0_628.out _)|exact HI0.out));(case side2 => repeat (first|(with_reducible first|exact HB.out|apply below_alloc|apply pw_below_drewN|apply below_drew1|refine below_set ?_ (IsS90.ge HI0.out)|refine below_set ?_ GE628.out)|exact HB.out));rintro e w8 ⟨v631,rfl,ho0,hi,hb,hk⟩;refine ⟨_,rfl,?_⟩;have n0_:=Aside0.mk (KeepBut.blk hk (g':=gb628) (o:=.cells #[.int .i64 0,.slice none 0 0] 28 (0,0)) (pe_ BK628.out) NB628_0.out (by simp));have n1_:=Aside0.mk (Kd.V_lower (Kd.V_mono (ok':=fun k_ => (w.heap.size ≤ k_) ∧ k_ ≠ gb628 ∧ k_ ≠ g) ho0 (fun k_ hk_ => ⟨(Nat.le_trans (keep_size (w:=w) (g:=g) (row:=none) (ke1_ HK.out GW628.out)) hk_),(Kd.freshB (g:=gb628) (o:=.cells #[.int .i64 0,.slice none 0 0] 28 (0,0)) (pe_ BK628.out) k_ hk_),(IsS90.fresh (by repeat (first|(with_reducible first|exact HI0.out|apply IsS90.alloc|apply IsS90.drewN|apply IsS90.drew|apply IsS90.set_1|refine IsS90.far ?_ NB0_628.out _)|exact HI0.out)) k_ hk_)⟩)) (keep_size (w:=w) (g:=g) (row:=none) (ke1_ HK.out GW628.out)));have n2_:=Aside0.mk (KeepBut.trans (ke1_ HK.out GW628.out) hk (.inl rfl));have n3_:=Aside0.mk (hb);have n4_:=Aside0.mk (hi);clear BK628;clear HK;clear HB;clear HI0;have BK628:=n0_;have HO632:=n1_;have HK:=n2_;have HB:=n3_;have HI0:=n4_;clear n0_ n1_ n2_ n3_ n4_;(try clear hb);(try clear hb2);(try clear hk);(try clear hi);(try clear ho0))|((with_reducible refine gate_dst (N:=3) rfl ?_);refine box_event ?hg (N:=3) ?hd (cs:=#[.int .i64 0,.slice none 0 0]) (t:=28) ?hr ?_;(case hd => rfl);(case hg => rfl);(case hr => first|(go_simp;done)|(go_simp;rfl));intro gb634 hg w9 hbox hb;have n0_:=Aside0.mk (Kd.V_below (Kd.V_elderB (pv_ HO632.out) gb634 (Nat.le_of_eq hg.symm)) hb);have n1_:=Aside0.mk (IsS90.below (by repeat (first|(with_reducible first|exact HI0.out|apply IsS90.alloc|apply IsS90.drewN|apply IsS90.drew|apply IsS90.set_1|refine IsS90.far ?_ NB0_628.out _)|exact HI0.out)) hb);have n2_:=Aside0.mk (blk_below (g:=gb628) (o:=.cells #[.int .i64 0,.slice none 0 0] 28 (0,0)) (pe_ BK628.out) hb);have n3_:=Aside0.mk (KeepBut.trans (ke1_ HK.out GW628.out) (KeepBut.of_below hb g none) (.inl rfl));have n4_:=Aside0.mk (below_step (by repeat (first|(with_reducible first|exact HB.out|apply below_alloc|apply pw_below_drewN|apply below_drew1|refine below_set ?_ (IsS90.ge HI0.out)|refine below_set ?_ GE628.out)|exact HB.out)) hb);have n5_:=Aside0.mk (hbox);have n6_:=Aside0.mk ((by rw [hg];exact (keep_size (w:=w) (g:=g) (row:=none) (ke1_ HK.out GW628.out)) : w.heap.size ≤ gb634));have n7_:=Aside0.mk ((Nat.le_trans HW0.out (by rw [hg];exact (keep_size (w:=w) (g:=g) (row:=none) (ke1_ HK.out GW628.out)) : w.heap.size ≤ gb634) : w0.heap.size ≤ gb634));have n8_:=Aside0.mk ((by rw [hg];exact Nat.ne_of_lt (blk_lt (g:=gb628) (o:=.cells #[.int .i64 0,.slice none 0 0] 28 (0,0)) (pe_ BK628.out)) : gb628 ≠ gb634));have n9_:=Aside0.mk ((by rw [hg];exact Nat.ne_of_gt (blk_lt (g:=gb628) (o:=.cells #[.int .i64 0,.slice none 0 0] 28 (0,0)) (pe_ BK628.out)) : gb634 ≠ gb628));have n10_:=Aside0.mk ((by rw [hg];exact Nat.ne_of_lt (IsS90.lt (show IsS90 w0 _ g s0_0 t633 from by repeat (first|(with_reducible first|exact HI0.out|apply IsS90.alloc|apply IsS90.drewN|apply IsS90.drew|apply IsS90.set_1|refine IsS90.far ?_ NB0_628.out _)|exact HI0.out))) : g ≠ gb634));have n11_:=Aside0.mk ((by rw [hg];exact Nat.ne_of_gt (IsS90.lt (show IsS90 w0 _ g s0_0 t633 from by repeat (first|(with_reducible first|exact HI0.out|apply IsS90.alloc|apply IsS90.drewN|apply IsS90.drew|apply IsS90.set_1|refine IsS90.far ?_ NB0_628.out _)|exact HI0.out))) : gb634 ≠ g));clear HO632;clear HI0;clear BK628;clear HK;clear HB;have HO632:=n0_;have HI0:=n1_;have BK628:=n2_;have HK:=n3_;have HB:=n4_;have BK634:=n5_;have GW634:=n6_;have GE634:=n7_;have NB628_634:=n8_;have NB634_628:=n9_;have NB0_634:=n10_;have NB634_0:=n11_;clear n0_ n1_ n2_ n3_ n4_ n5_ n6_ n7_ n8_ n9_ n10_ n11_;clear hb hbox hg;have hnb10:=NB634_628.out;have hnc10:=NB628_634.out;have hnb11:=NB634_0.out;have hnc11:=NB0_634.out;have hcz12_0 : w9.cell? ⟨gb634,0,none⟩ = some (.int .i64 0):=(blk_cell BK634.out 0).trans rfl;have hcz12_1 : w9.cell? ⟨gb634,1,none⟩ = some (.slice none 0 0):=(blk_cell BK634.out 1).trans rfl;have hfz12_0:=blk_frozen BK634.out 0;have hfz12_1:=blk_frozen BK634.out 1;obtain ⟨Ao13,co13,eo13⟩:=Kd.V_slice HO632.out;subst eo13)|((with_reducible refine gate_callee (f:=76) rfl ?_);refine goesL_ (some 10) rfl rfl Try.func76 (by kernel_rfl) rfl #[.pointer (some ⟨g,0,none⟩),.int .i64 4] rfl lp_ ?_;(with_reducible refine (spec_l13Rd_pick.calls k g s0_0 t633 4 t635 t636 w0 _ ?side1 ?side2 A3.out).mono ?_);(case side1 => repeat (first|(with_reducible first|exact HI0.out|apply IsS90.alloc|apply IsS90.drewN|apply IsS90.drew|apply IsS90.set_1|refine IsS90.far ?_ NB0_628.out _|refine IsS90.far ?_ NB0_634.out _)|exact HI0.out));(case side2 => repeat (first|(with_reducible first|exact HB.out|apply below_alloc|apply pw_below_drewN|apply below_drew1|refine below_set ?_ (IsS90.ge HI0.out)|refine below_set ?_ GE628.out|refine below_set ?_ GE634.out)|exact HB.out));rintro e w14 ⟨rfl,hi,hb,hk⟩;refine ⟨_,rfl,?_⟩;have n0_:=Aside0.mk (KeepBut.blk hk (g':=gb628) (o:=.cells #[.int .i64 0,.slice none 0 0] 28 (0,0)) (by refine pe_ ?_;refine blk_far ?_ NB628_634.out _;refine pe_ ?_;refine blk_far ?_ NB628_634.out _;refine pe_ ?_;exact BK628.out) NB628_0.out (by simp));have n1_:=Aside0.mk (Kd.V_mono (Kd.V_keep (Kd.V_mono (ok:=fun k_ => ((((w.heap.size ≤ k_)) ∧ (k_ ≠ gb628 ∧ k_ ≠ g)) ∧ k_ ≠ gb634)) (by refine pv_ ?_;exact (Kd.V_mono (Kd.V_far (p:=⟨gb634,1,none⟩) (Kd.V_far (p:=⟨gb634,0,none⟩) (Kd.V_mono HO632.out (fun k_ hk => (⟨hk,hk.2⟩ : _ ∧ k_ ≠ gb634))) (fun _ hk => hk.2) (.int .i64 t629)) (fun _ hk => hk.2) (.slice Ao13 t630.length co13)) (fun _ h_ => h_.1))) (fun k_ hk_ => (⟨hk_,hk_.1.2.2⟩ : _ ∧ k_ ≠ g))) hk (fun _ h => h.2)) (fun _ h => h.1));have n2_:=Aside0.mk (KeepBut.blk hk (g':=gb634) (o:=.cells #[.int .i64 t629,.slice Ao13 t630.length co13] 28 (0,0)) (by refine pe_ ?_;refine blk_put (cs:=#[.int .i64 t629,.slice none 0 0]) ?_ 1 _ rfl;refine pe_ ?_;refine blk_put (cs:=#[.int .i64 0,.slice none 0 0]) ?_ 0 _ rfl;refine pe_ ?_;exact BK634.out) NB634_0.out (by simp));have n3_:=Aside0.mk (KeepBut.trans (ke2_ HK.out GW628.out GW634.out) hk (.inl rfl));have n4_:=Aside0.mk (hb);have n5_:=Aside0.mk (hi);clear BK628;clear HO632;clear BK634;clear HK;clear HB;clear HI0;have BK628:=n0_;have HO632:=n1_;have BK634:=n2_;have HK:=n3_;have HB:=n4_;have HI0:=n5_;clear n0_ n1_ n2_ n3_ n4_ n5_;(try clear hb);(try clear hb2);(try clear hk);(try clear hi);have hcz15_0 : w14.cell? ⟨gb634,0,none⟩ = some (.int .i64 t629):=(blk_cell BK634.out 0).trans rfl;have hcz15_1 : w14.cell? ⟨gb634,1,none⟩ = some (.slice Ao13 t630.length co13):=(blk_cell BK634.out 1).trans rfl;have hfz15_0:=blk_frozen BK634.out 0;have hfz15_1:=blk_frozen BK634.out 1)|((with_reducible refine gate_callee (f:=30) rfl ?_);refine goesL_ (some 14) rfl rfl Try.func30 (by kernel_rfl) rfl #[.agg #[.int .i64 t629,.slice Ao13 t630.length co13]] rfl lp_ ?_;(with_reducible refine (spec_IdempotentOf.calls k t629 _ _ t630 t637 t638 t641 true _ ?side1 ?side2 A5.out).mono ?_);(case side1 => repeat (first|exact (Kd.V_reads' HO632.out).2.2|(with_reducible refine Kd.C_alloc ?_ _)|(with_reducible refine Kd.C_drewN ?_ _)|(with_reducible refine Kd.C_drew ?_)));(case side2 => exact (Kd.V_reads' HO632.out).2.1);rintro e w16 ⟨v639,rfl,ho0,hb⟩;refine ⟨_,rfl,?_⟩;have n0_:=Aside0.mk (Kd.V_elder' (pv_ HO632.out) (Kd.R_base ho0) hb);have n1_:=Aside0.mk (Kd.R_lower (Kd.R_newM (M:=fun k_ => (w.heap.size ≤ k_)) ho0 (keep_size (w:=w) (g:=g) (row:=none) (ke2_ HK.out GW628.out GW634.out)) (fun k_ h_ => h_)) (keep_size (w:=w) (g:=g) (row:=none) (ke2_ HK.out GW628.out GW634.out)));have n2_:=Aside0.mk (IsS90.below (by repeat (first|(with_reducible first|exact HI0.out|apply IsS90.alloc|apply IsS90.drewN|apply IsS90.drew|apply IsS90.set_1|refine IsS90.far ?_ NB0_628.out _|refine IsS90.far ?_ NB0_634.out _)|exact HI0.out)) hb);have n3_:=Aside0.mk (blk_below (g:=gb628) (o:=.cells #[.int .i64 0,.slice none 0 0] 28 (0,0)) (pe_ BK628.out) hb);have n4_:=Aside0.mk (blk_below (g:=gb634) (o:=.cells #[.int .i64 t629,.slice Ao13 t630.length co13] 28 (0,0)) (pe_ BK634.out) hb);have n5_:=Aside0.mk (KeepBut.trans (ke2_ HK.out GW628.out GW634.out) (KeepBut.of_below hb g none) (.inl rfl));have n6_:=Aside0.mk (below_step (by repeat (first|(with_reducible first|exact HB.out|apply below_alloc|apply pw_below_drewN|apply below_drew1|refine below_set ?_ (IsS90.ge HI0.out)|refine below_set ?_ GE628.out|refine below_set ?_ GE634.out)|exact HB.out)) hb);clear HO632;clear HI0;clear BK628;clear BK634;clear HK;clear HB;have HO632:=n0_;have HO640:=n1_;have HI0:=n2_;have BK628:=n3_;have BK634:=n4_;have HK:=n5_;have HB:=n6_;clear n0_ n1_ n2_ n3_ n4_ n5_ n6_;(try clear hb);(try clear hb2);(try clear hk);(try clear hi);(try clear ho0))|((with_reducible refine gate_dst (N:=4) rfl ?_);refine box_event ?hg (N:=4) ?hd (cs:=#[.int .i64 0,.slice none 0 0]) (t:=28) ?hr ?_;(case hd => rfl);(case hg => rfl);(case hr => first|(go_simp;done)|(go_simp;rfl));intro gb643 hg w17 hbox hb;have n0_:=Aside0.mk (Kd.V_below (Kd.V_elderB (pv_ HO632.out) gb643 (Nat.le_of_eq hg.symm)) hb);have n1_:=Aside0.mk (Kd.R_below (pr_ HO640.out) hb);have n2_:=Aside0.mk (IsS90.below (by repeat (first|(with_reducible first|exact HI0.out|apply IsS90.alloc|apply IsS90.drewN|apply IsS90.drew|apply IsS90.set_1|refine IsS90.far ?_ NB0_628.out _|refine IsS90.far ?_ NB0_634.out _)|exact HI0.out)) hb);have n3_:=Aside0.mk (blk_below (g:=gb628) (o:=.cells #[.int .i64 0,.slice none 0 0] 28 (0,0)) (pe_ BK628.out) hb);have n4_:=Aside0.mk (blk_below (g:=gb634) (o:=.cells #[.int .i64 t629,.slice Ao13 t630.length co13] 28 (0,0)) (pe_ BK634.out) hb);have n5_:=Aside0.mk (KeepBut.trans (ke2_ HK.out GW628.out GW634.out) (KeepBut.of_below hb g none) (.inl rfl));have n6_:=Aside0.mk (below_step (by repeat (first|(with_reducible first|exact HB.out|apply below_alloc|apply pw_below_drewN|apply below_drew1|refine below_set ?_ (IsS90.ge HI0.out)|refine below_set ?_ GE628.out|refine below_set ?_ GE634.out)|exact HB.out)) hb);have n7_:=Aside0.mk (hbox);have n8_:=Aside0.mk ((by rw [hg];exact (keep_size (w:=w) (g:=g) (row:=none) (ke2_ HK.out GW628.out GW634.out)) : w.heap.size ≤ gb643));have n9_:=Aside0.mk ((Nat.le_trans HW0.out (by rw [hg];exact (keep_size (w:=w) (g:=g) (row:=none) (ke2_ HK.out GW628.out GW634.out)) : w.heap.size ≤ gb643) : w0.heap.size ≤ gb643));have n10_:=Aside0.mk ((by rw [hg];exact Nat.ne_of_lt (blk_lt (g:=gb628) (o:=.cells #[.int .i64 0,.slice none 0 0] 28 (0,0)) (pe_ BK628.out)) : gb628 ≠ gb643));have n11_:=Aside0.mk ((by rw [hg];exact Nat.ne_of_gt (blk_lt (g:=gb628) (o:=.cells #[.int .i64 0,.slice none 0 0] 28 (0,0)) (pe_ BK628.out)) : gb643 ≠ gb628));have n12_:=Aside0.mk ((by rw [hg];exact Nat.ne_of_lt (blk_lt (g:=gb634) (o:=.cells #[.int .i64 t629,.slice Ao13 t630.length co13] 28 (0,0)) (pe_ BK634.out)) : gb634 ≠ gb643));have n13_:=Aside0.mk ((by rw [hg];exact Nat.ne_of_gt (blk_lt (g:=gb634) (o:=.cells #[.int .i64 t629,.slice Ao13 t630.length co13] 28 (0,0)) (pe_ BK634.out)) : gb643 ≠ gb634));have n14_:=Aside0.mk ((by rw [hg];exact Nat.ne_of_lt (IsS90.lt (show IsS90 w0 _ g s0_0 t636 from by repeat (first|(with_reducible first|exact HI0.out|apply IsS90.alloc|apply IsS90.drewN|apply IsS90.drew|apply IsS90.set_1|refine IsS90.far ?_ NB0_628.out _|refine IsS90.far ?_ NB0_634.out _)|exact HI0.out))) : g ≠ gb643));have n15_:=Aside0.mk ((by rw [hg];exact Nat.ne_of_gt (IsS90.lt (show IsS90 w0 _ g s0_0 t636 from by repeat (first|(with_reducible first|exact HI0.out|apply IsS90.alloc|apply IsS90.drewN|apply IsS90.drew|apply IsS90.set_1|refine IsS90.far ?_ NB0_628.out _|refine IsS90.far ?_ NB0_634.out _)|exact HI0.out))) : gb643 ≠ g));clear HO632;clear HO640;clear HI0;clear BK628;clear BK634;clear HK;clear HB;have HO632:=n0_;have HO640:=n1_;have HI0:=n2_;have BK628:=n3_;have BK634:=n4_;have HK:=n5_;have HB:=n6_;have BK643:=n7_;have GW643:=n8_;have GE643:=n9_;have NB628_643:=n10_;have NB643_628:=n11_;have NB634_643:=n12_;have NB643_634:=n13_;have NB0_643:=n14_;have NB643_0:=n15_;clear n0_ n1_ n2_ n3_ n4_ n5_ n6_ n7_ n8_ n9_ n10_ n11_ n12_ n13_ n14_ n15_;clear hb hbox hg;have hnb18:=NB643_628.out;have hnc18:=NB628_643.out;have hnb19:=NB643_634.out;have hnc19:=NB634_643.out;have hnb20:=NB643_0.out;have hnc20:=NB0_643.out;have hcz21_0 : w17.cell? ⟨gb643,0,none⟩ = some (.int .i64 0):=(blk_cell BK643.out 0).trans rfl;have hcz21_1 : w17.cell? ⟨gb643,1,none⟩ = some (.slice none 0 0):=(blk_cell BK643.out 1).trans rfl;have hfz21_0:=blk_frozen BK643.out 0;have hfz21_1:=blk_frozen BK643.out 1;obtain ⟨Ao22,co22,eo22⟩:=Kd.R_slice HO640.out;subst eo22;have hnb23:=NB628_0.out;have hnc23:=NB0_628.out;have hcz24_0 : w17.cell? ⟨gb628,0,none⟩ = some (.int .i64 0):=(blk_cell BK628.out 0).trans rfl;have hcz24_1 : w17.cell? ⟨gb628,1,none⟩ = some (.slice none 0 0):=(blk_cell BK628.out 1).trans rfl;have hfz24_0:=blk_frozen BK628.out 0;have hfz24_1:=blk_frozen BK628.out 1))
   refine bodyPost_ret (results_cell_row rfl _ _ gb628 28 #[.int .i64 t637,.slice Ao22 t638.length co22] (0,0) _ rfl (by refine pe_ ?_;refine blk_put (cs:=#[.int .i64 t637,.slice none 0 0]) ?_ 1 _ rfl;refine pe_ ?_;refine blk_put (cs:=#[.int .i64 0,.slice none 0 0]) ?_ 0 _ rfl;refine pe_ ?_;refine blk_far ?_ NB628_643.out _;refine pe_ ?_;refine blk_far ?_ NB628_643.out _;refine pe_ ?_;exact BK628.out) Try.underlying28 rfl (by kernel_rfl)) rfl ?_
   exact ⟨_,by first|rfl|(simp [errW_none,errW_some] <;> rfl)|(simp [*,errW_none,errW_some] <;> rfl),Kd.R_V (by refine pr_ ?_;exact Kd.R_mono (Kd.R_far (p:=⟨gb628,1,none⟩) (Kd.R_far (p:=⟨gb628,0,none⟩) (Kd.R_far (p:=⟨gb643,1,none⟩) (Kd.R_far (p:=⟨gb643,0,none⟩) (Kd.R_types (Kd.R_types HO640.out BK643.out (by decide)) BK628.out (by decide)) (fun _ hk => hk.1.2) (.int .i64 t637)) (fun _ hk => hk.1.2) (.slice Ao22 t638.length co22)) (fun _ hk => hk.2) (.int .i64 t637)) (fun _ hk => hk.2) (.slice Ao22 t638.length co22)) (fun _ hk => hk.1.1.1)),by repeat (first|(with_reducible first|exact HI0.out|apply IsS90.alloc|apply IsS90.drewN|apply IsS90.drew|apply IsS90.set_1|refine IsS90.far ?_ NB0_628.out _|refine IsS90.far ?_ NB0_634.out _|refine IsS90.far ?_ NB0_643.out _)|exact HI0.out),by repeat (first|(with_reducible first|exact HB.out|apply below_alloc|apply pw_below_drewN|apply below_drew1|refine below_set ?_ (IsS90.ge HI0.out)|refine below_set ?_ GE628.out|refine below_set ?_ GE634.out|refine below_set ?_ GE643.out)|exact HB.out),ke3_ HK.out GW628.out GW634.out GW643.out⟩
  ·replace c6:=Bool.eq_false_iff.mpr c6
   subst c6
   have H1 : (some (t629,t630,t636)) = some (r1,r2,r3):=by rw [if_neg (show ¬ (false = true) by decide)] at H;exact H
   clear H
   have H:=H1
   clear H1
   simp only [Option.some.injEq,Prod.mk.injEq] at H
   obtain ⟨rfl,rfl,rfl⟩:=H
   go_enter Try.func79,Try.ntmps79
   go_wp2_with (first|((with_reducible refine gate_dst (N:=2) rfl ?_);refine box_event ?hg (N:=2) ?hd (cs:=#[.int .i64 0,.slice none 0 0]) (t:=28) ?hr ?_;(case hd => rfl);(case hg => rfl);(case hr => first|(go_simp;done)|(go_simp;rfl));intro gb628 hg w25 hbox hb;have n0_:=Aside0.mk (IsS90.below (by repeat (first|(with_reducible first|exact HI0.out|apply IsS90.alloc|apply IsS90.drewN|apply IsS90.drew|apply IsS90.set_1)|exact HI0.out)) hb);have n1_:=Aside0.mk (KeepBut.trans (ke0_ HK.out) (KeepBut.of_below hb g none) (.inl rfl));have n2_:=Aside0.mk (below_step (by repeat (first|(with_reducible first|exact HB.out|apply below_alloc|apply pw_below_drewN|apply below_drew1|refine below_set ?_ (IsS90.ge HI0.out))|exact HB.out)) hb);have n3_:=Aside0.mk (hbox);have n4_:=Aside0.mk ((by rw [hg];exact (keep_size (w:=w) (g:=g) (row:=none) (ke0_ HK.out)) : w.heap.size ≤ gb628));have n5_:=Aside0.mk ((Nat.le_trans HW0.out (by rw [hg];exact (keep_size (w:=w) (g:=g) (row:=none) (ke0_ HK.out)) : w.heap.size ≤ gb628) : w0.heap.size ≤ gb628));have n6_:=Aside0.mk ((by rw [hg];exact Nat.ne_of_lt (IsS90.lt (show IsS90 w0 _ g s0_0 s0_1 from by repeat (first|(with_reducible first|exact HI0.out|apply IsS90.alloc|apply IsS90.drewN|apply IsS90.drew|apply IsS90.set_1)|exact HI0.out))) : g ≠ gb628));have n7_:=Aside0.mk ((by rw [hg];exact Nat.ne_of_gt (IsS90.lt (show IsS90 w0 _ g s0_0 s0_1 from by repeat (first|(with_reducible first|exact HI0.out|apply IsS90.alloc|apply IsS90.drewN|apply IsS90.drew|apply IsS90.set_1)|exact HI0.out))) : gb628 ≠ g));clear HI0;clear HK;clear HB;have HI0:=n0_;have HK:=n1_;have HB:=n2_;have BK628:=n3_;have GW628:=n4_;have GE628:=n5_;have NB0_628:=n6_;have NB628_0:=n7_;clear n0_ n1_ n2_ n3_ n4_ n5_ n6_ n7_;clear hb hbox hg)|((with_reducible refine gate_callee (f:=70) rfl ?_);refine goesL_ (some 8) rfl rfl Try.func70 (by kernel_rfl) rfl #[.pointer (some ⟨g,0,none⟩)] rfl lp_ ?_;(with_reducible refine (spec_l6Some.calls k g s0_0 s0_1 t629 t630 t633 w0 _ ?side1 ?side2 A2.out).mono ?_);(case side1 => repeat (first|(with_reducible first|exact HI0.out|apply IsS90.alloc|apply IsS90.drewN|apply IsS90.drew|apply IsS90.set_1|refine IsS90.far ?_ NB0_628.out _)|exact HI0.out));(case side2 => repeat (first|(with_reducible first|exact HB.out|apply below_alloc|apply pw_below_drewN|apply below_drew1|refine below_set ?_ (IsS90.ge HI0.out)|refine below_set ?_ GE628.out)|exact HB.out));rintro e w26 ⟨v631,rfl,ho0,hi,hb,hk⟩;refine ⟨_,rfl,?_⟩;have n0_:=Aside0.mk (KeepBut.blk hk (g':=gb628) (o:=.cells #[.int .i64 0,.slice none 0 0] 28 (0,0)) (pe_ BK628.out) NB628_0.out (by simp));have n1_:=Aside0.mk (Kd.V_lower (Kd.V_mono (ok':=fun k_ => (w.heap.size ≤ k_) ∧ k_ ≠ gb628 ∧ k_ ≠ g) ho0 (fun k_ hk_ => ⟨(Nat.le_trans (keep_size (w:=w) (g:=g) (row:=none) (ke1_ HK.out GW628.out)) hk_),(Kd.freshB (g:=gb628) (o:=.cells #[.int .i64 0,.slice none 0 0] 28 (0,0)) (pe_ BK628.out) k_ hk_),(IsS90.fresh (by repeat (first|(with_reducible first|exact HI0.out|apply IsS90.alloc|apply IsS90.drewN|apply IsS90.drew|apply IsS90.set_1|refine IsS90.far ?_ NB0_628.out _)|exact HI0.out)) k_ hk_)⟩)) (keep_size (w:=w) (g:=g) (row:=none) (ke1_ HK.out GW628.out)));have n2_:=Aside0.mk (KeepBut.trans (ke1_ HK.out GW628.out) hk (.inl rfl));have n3_:=Aside0.mk (hb);have n4_:=Aside0.mk (hi);clear BK628;clear HK;clear HB;clear HI0;have BK628:=n0_;have HO632:=n1_;have HK:=n2_;have HB:=n3_;have HI0:=n4_;clear n0_ n1_ n2_ n3_ n4_;(try clear hb);(try clear hb2);(try clear hk);(try clear hi);(try clear ho0))|((with_reducible refine gate_dst (N:=3) rfl ?_);refine box_event ?hg (N:=3) ?hd (cs:=#[.int .i64 0,.slice none 0 0]) (t:=28) ?hr ?_;(case hd => rfl);(case hg => rfl);(case hr => first|(go_simp;done)|(go_simp;rfl));intro gb634 hg w27 hbox hb;have n0_:=Aside0.mk (Kd.V_below (Kd.V_elderB (pv_ HO632.out) gb634 (Nat.le_of_eq hg.symm)) hb);have n1_:=Aside0.mk (IsS90.below (by repeat (first|(with_reducible first|exact HI0.out|apply IsS90.alloc|apply IsS90.drewN|apply IsS90.drew|apply IsS90.set_1|refine IsS90.far ?_ NB0_628.out _)|exact HI0.out)) hb);have n2_:=Aside0.mk (blk_below (g:=gb628) (o:=.cells #[.int .i64 0,.slice none 0 0] 28 (0,0)) (pe_ BK628.out) hb);have n3_:=Aside0.mk (KeepBut.trans (ke1_ HK.out GW628.out) (KeepBut.of_below hb g none) (.inl rfl));have n4_:=Aside0.mk (below_step (by repeat (first|(with_reducible first|exact HB.out|apply below_alloc|apply pw_below_drewN|apply below_drew1|refine below_set ?_ (IsS90.ge HI0.out)|refine below_set ?_ GE628.out)|exact HB.out)) hb);have n5_:=Aside0.mk (hbox);have n6_:=Aside0.mk ((by rw [hg];exact (keep_size (w:=w) (g:=g) (row:=none) (ke1_ HK.out GW628.out)) : w.heap.size ≤ gb634));have n7_:=Aside0.mk ((Nat.le_trans HW0.out (by rw [hg];exact (keep_size (w:=w) (g:=g) (row:=none) (ke1_ HK.out GW628.out)) : w.heap.size ≤ gb634) : w0.heap.size ≤ gb634));have n8_:=Aside0.mk ((by rw [hg];exact Nat.ne_of_lt (blk_lt (g:=gb628) (o:=.cells #[.int .i64 0,.slice none 0 0] 28 (0,0)) (pe_ BK628.out)) : gb628 ≠ gb634));have n9_:=Aside0.mk ((by rw [hg];exact Nat.ne_of_gt (blk_lt (g:=gb628) (o:=.cells #[.int .i64 0,.slice none 0 0] 28 (0,0)) (pe_ BK628.out)) : gb634 ≠ gb628));have n10_:=Aside0.mk ((by rw [hg];exact Nat.ne_of_lt (IsS90.lt (show IsS90 w0 _ g s0_0 t633 from by repeat (first|(with_reducible first|exact HI0.out|apply IsS90.alloc|apply IsS90.drewN|apply IsS90.drew|apply IsS90.set_1|refine IsS90.far ?_ NB0_628.out _)|exact HI0.out))) : g ≠ gb634));have n11_:=Aside0.mk ((by rw [hg];exact Nat.ne_of_gt (IsS90.lt (show IsS90 w0 _ g s0_0 t633 from by repeat (first|(with_reducible first|exact HI0.out|apply IsS90.alloc|apply IsS90.drewN|apply IsS90.drew|apply IsS90.set_1|refine IsS90.far ?_ NB0_628.out _)|exact HI0.out))) : gb634 ≠ g));clear HO632;clear HI0;clear BK628;clear HK;clear HB;have HO632:=n0_;have HI0:=n1_;have BK628:=n2_;have HK:=n3_;have HB:=n4_;have BK634:=n5_;have GW634:=n6_;have GE634:=n7_;have NB628_634:=n8_;have NB634_628:=n9_;have NB0_634:=n10_;have NB634_0:=n11_;clear n0_ n1_ n2_ n3_ n4_ n5_ n6_ n7_ n8_ n9_ n10_ n11_;clear hb hbox hg;have hnb28:=NB634_628.out;have hnc28:=NB628_634.out;have hnb29:=NB634_0.out;have hnc29:=NB0_634.out;have hcz30_0 : w27.cell? ⟨gb634,0,none⟩ = some (.int .i64 0):=(blk_cell BK634.out 0).trans rfl;have hcz30_1 : w27.cell? ⟨gb634,1,none⟩ = some (.slice none 0 0):=(blk_cell BK634.out 1).trans rfl;have hfz30_0:=blk_frozen BK634.out 0;have hfz30_1:=blk_frozen BK634.out 1;obtain ⟨Ao31,co31,eo31⟩:=Kd.V_slice HO632.out;subst eo31)|((with_reducible refine gate_callee (f:=76) rfl ?_);refine goesL_ (some 10) rfl rfl Try.func76 (by kernel_rfl) rfl #[.pointer (some ⟨g,0,none⟩),.int .i64 4] rfl lp_ ?_;(with_reducible refine (spec_l13Rd_pick.calls k g s0_0 t633 4 t635 t636 w0 _ ?side1 ?side2 A3.out).mono ?_);(case side1 => repeat (first|(with_reducible first|exact HI0.out|apply IsS90.alloc|apply IsS90.drewN|apply IsS90.drew|apply IsS90.set_1|refine IsS90.far ?_ NB0_628.out _|refine IsS90.far ?_ NB0_634.out _)|exact HI0.out));(case side2 => repeat (first|(with_reducible first|exact HB.out|apply below_alloc|apply pw_below_drewN|apply below_drew1|refine below_set ?_ (IsS90.ge HI0.out)|refine below_set ?_ GE628.out|refine below_set ?_ GE634.out)|exact HB.out));rintro e w32 ⟨rfl,hi,hb,hk⟩;refine ⟨_,rfl,?_⟩;have n0_:=Aside0.mk (KeepBut.blk hk (g':=gb628) (o:=.cells #[.int .i64 0,.slice none 0 0] 28 (0,0)) (by refine pe_ ?_;refine blk_far ?_ NB628_634.out _;refine pe_ ?_;refine blk_far ?_ NB628_634.out _;refine pe_ ?_;exact BK628.out) NB628_0.out (by simp));have n1_:=Aside0.mk (Kd.V_mono (Kd.V_keep (Kd.V_mono (ok:=fun k_ => ((((w.heap.size ≤ k_)) ∧ (k_ ≠ gb628 ∧ k_ ≠ g)) ∧ k_ ≠ gb634)) (by refine pv_ ?_;exact (Kd.V_mono (Kd.V_far (p:=⟨gb634,1,none⟩) (Kd.V_far (p:=⟨gb634,0,none⟩) (Kd.V_mono HO632.out (fun k_ hk => (⟨hk,hk.2⟩ : _ ∧ k_ ≠ gb634))) (fun _ hk => hk.2) (.int .i64 t629)) (fun _ hk => hk.2) (.slice Ao31 t630.length co31)) (fun _ h_ => h_.1))) (fun k_ hk_ => (⟨hk_,hk_.1.2.2⟩ : _ ∧ k_ ≠ g))) hk (fun _ h => h.2)) (fun _ h => h.1));have n2_:=Aside0.mk (KeepBut.blk hk (g':=gb634) (o:=.cells #[.int .i64 t629,.slice Ao31 t630.length co31] 28 (0,0)) (by refine pe_ ?_;refine blk_put (cs:=#[.int .i64 t629,.slice none 0 0]) ?_ 1 _ rfl;refine pe_ ?_;refine blk_put (cs:=#[.int .i64 0,.slice none 0 0]) ?_ 0 _ rfl;refine pe_ ?_;exact BK634.out) NB634_0.out (by simp));have n3_:=Aside0.mk (KeepBut.trans (ke2_ HK.out GW628.out GW634.out) hk (.inl rfl));have n4_:=Aside0.mk (hb);have n5_:=Aside0.mk (hi);clear BK628;clear HO632;clear BK634;clear HK;clear HB;clear HI0;have BK628:=n0_;have HO632:=n1_;have BK634:=n2_;have HK:=n3_;have HB:=n4_;have HI0:=n5_;clear n0_ n1_ n2_ n3_ n4_ n5_;(try clear hb);(try clear hb2);(try clear hk);(try clear hi);have hcz33_0 : w32.cell? ⟨gb634,0,none⟩ = some (.int .i64 t629):=(blk_cell BK634.out 0).trans rfl;have hcz33_1 : w32.cell? ⟨gb634,1,none⟩ = some (.slice Ao31 t630.length co31):=(blk_cell BK634.out 1).trans rfl;have hfz33_0:=blk_frozen BK634.out 0;have hfz33_1:=blk_frozen BK634.out 1)|((with_reducible refine gate_callee (f:=30) rfl ?_);refine goesL_ (some 14) rfl rfl Try.func30 (by kernel_rfl) rfl #[.agg #[.int .i64 t629,.slice Ao31 t630.length co31]] rfl lp_ ?_;(with_reducible refine (spec_IdempotentOf.calls k t629 _ _ t630 t637 t638 t641 false _ ?side1 ?side2 A5.out).mono ?_);(case side1 => repeat (first|exact (Kd.V_reads' HO632.out).2.2|(with_reducible refine Kd.C_alloc ?_ _)|(with_reducible refine Kd.C_drewN ?_ _)|(with_reducible refine Kd.C_drew ?_)));(case side2 => exact (Kd.V_reads' HO632.out).2.1);rintro e w34 ⟨v639,rfl,ho0,hb⟩;refine ⟨_,rfl,?_⟩;have n0_:=Aside0.mk (Kd.V_elder' (pv_ HO632.out) (Kd.R_base ho0) hb);have n1_:=Aside0.mk (Kd.R_lower (Kd.R_newM (M:=fun k_ => (w.heap.size ≤ k_)) ho0 (keep_size (w:=w) (g:=g) (row:=none) (ke2_ HK.out GW628.out GW634.out)) (fun k_ h_ => h_)) (keep_size (w:=w) (g:=g) (row:=none) (ke2_ HK.out GW628.out GW634.out)));have n2_:=Aside0.mk (IsS90.below (by repeat (first|(with_reducible first|exact HI0.out|apply IsS90.alloc|apply IsS90.drewN|apply IsS90.drew|apply IsS90.set_1|refine IsS90.far ?_ NB0_628.out _|refine IsS90.far ?_ NB0_634.out _)|exact HI0.out)) hb);have n3_:=Aside0.mk (blk_below (g:=gb628) (o:=.cells #[.int .i64 0,.slice none 0 0] 28 (0,0)) (pe_ BK628.out) hb);have n4_:=Aside0.mk (blk_below (g:=gb634) (o:=.cells #[.int .i64 t629,.slice Ao31 t630.length co31] 28 (0,0)) (pe_ BK634.out) hb);have n5_:=Aside0.mk (KeepBut.trans (ke2_ HK.out GW628.out GW634.out) (KeepBut.of_below hb g none) (.inl rfl));have n6_:=Aside0.mk (below_step (by repeat (first|(with_reducible first|exact HB.out|apply below_alloc|apply pw_below_drewN|apply below_drew1|refine below_set ?_ (IsS90.ge HI0.out)|refine below_set ?_ GE628.out|refine below_set ?_ GE634.out)|exact HB.out)) hb);clear HO632;clear HI0;clear BK628;clear BK634;clear HK;clear HB;have HO632:=n0_;have HO640:=n1_;have HI0:=n2_;have BK628:=n3_;have BK634:=n4_;have HK:=n5_;have HB:=n6_;clear n0_ n1_ n2_ n3_ n4_ n5_ n6_;(try clear hb);(try clear hb2);(try clear hk);(try clear hi);(try clear ho0))|((with_reducible refine gate_dst (N:=4) rfl ?_);refine box_event ?hg (N:=4) ?hd (cs:=#[.int .i64 0,.slice none 0 0]) (t:=28) ?hr ?_;(case hd => rfl);(case hg => rfl);(case hr => first|(go_simp;done)|(go_simp;rfl));intro gb643 hg w35 hbox hb;have n0_:=Aside0.mk (Kd.V_below (Kd.V_elderB (pv_ HO632.out) gb643 (Nat.le_of_eq hg.symm)) hb);have n1_:=Aside0.mk (Kd.R_below (pr_ HO640.out) hb);have n2_:=Aside0.mk (IsS90.below (by repeat (first|(with_reducible first|exact HI0.out|apply IsS90.alloc|apply IsS90.drewN|apply IsS90.drew|apply IsS90.set_1|refine IsS90.far ?_ NB0_628.out _|refine IsS90.far ?_ NB0_634.out _)|exact HI0.out)) hb);have n3_:=Aside0.mk (blk_below (g:=gb628) (o:=.cells #[.int .i64 0,.slice none 0 0] 28 (0,0)) (pe_ BK628.out) hb);have n4_:=Aside0.mk (blk_below (g:=gb634) (o:=.cells #[.int .i64 t629,.slice Ao31 t630.length co31] 28 (0,0)) (pe_ BK634.out) hb);have n5_:=Aside0.mk (KeepBut.trans (ke2_ HK.out GW628.out GW634.out) (KeepBut.of_below hb g none) (.inl rfl));have n6_:=Aside0.mk (below_step (by repeat (first|(with_reducible first|exact HB.out|apply below_alloc|apply pw_below_drewN|apply below_drew1|refine below_set ?_ (IsS90.ge HI0.out)|refine below_set ?_ GE628.out|refine below_set ?_ GE634.out)|exact HB.out)) hb);have n7_:=Aside0.mk (hbox);have n8_:=Aside0.mk ((by rw [hg];exact (keep_size (w:=w) (g:=g) (row:=none) (ke2_ HK.out GW628.out GW634.out)) : w.heap.size ≤ gb643));have n9_:=Aside0.mk ((Nat.le_trans HW0.out (by rw [hg];exact (keep_size (w:=w) (g:=g) (row:=none) (ke2_ HK.out GW628.out GW634.out)) : w.heap.size ≤ gb643) : w0.heap.size ≤ gb643));have n10_:=Aside0.mk ((by rw [hg];exact Nat.ne_of_lt (blk_lt (g:=gb628) (o:=.cells #[.int .i64 0,.slice none 0 0] 28 (0,0)) (pe_ BK628.out)) : gb628 ≠ gb643));have n11_:=Aside0.mk ((by rw [hg];exact Nat.ne_of_gt (blk_lt (g:=gb628) (o:=.cells #[.int .i64 0,.slice none 0 0] 28 (0,0)) (pe_ BK628.out)) : gb643 ≠ gb628));have n12_:=Aside0.mk ((by rw [hg];exact Nat.ne_of_lt (blk_lt (g:=gb634) (o:=.cells #[.int .i64 t629,.slice Ao31 t630.length co31] 28 (0,0)) (pe_ BK634.out)) : gb634 ≠ gb643));have n13_:=Aside0.mk ((by rw [hg];exact Nat.ne_of_gt (blk_lt (g:=gb634) (o:=.cells #[.int .i64 t629,.slice Ao31 t630.length co31] 28 (0,0)) (pe_ BK634.out)) : gb643 ≠ gb634));have n14_:=Aside0.mk ((by rw [hg];exact Nat.ne_of_lt (IsS90.lt (show IsS90 w0 _ g s0_0 t636 from by repeat (first|(with_reducible first|exact HI0.out|apply IsS90.alloc|apply IsS90.drewN|apply IsS90.drew|apply IsS90.set_1|refine IsS90.far ?_ NB0_628.out _|refine IsS90.far ?_ NB0_634.out _)|exact HI0.out))) : g ≠ gb643));have n15_:=Aside0.mk ((by rw [hg];exact Nat.ne_of_gt (IsS90.lt (show IsS90 w0 _ g s0_0 t636 from by repeat (first|(with_reducible first|exact HI0.out|apply IsS90.alloc|apply IsS90.drewN|apply IsS90.drew|apply IsS90.set_1|refine IsS90.far ?_ NB0_628.out _|refine IsS90.far ?_ NB0_634.out _)|exact HI0.out))) : gb643 ≠ g));clear HO632;clear HO640;clear HI0;clear BK628;clear BK634;clear HK;clear HB;have HO632:=n0_;have HO640:=n1_;have HI0:=n2_;have BK628:=n3_;have BK634:=n4_;have HK:=n5_;have HB:=n6_;have BK643:=n7_;have GW643:=n8_;have GE643:=n9_;have NB628_643:=n10_;have NB643_628:=n11_;have NB634_643:=n12_;have NB643_634:=n13_;have NB0_643:=n14_;have NB643_0:=n15_;clear n0_ n1_ n2_ n3_ n4_ n5_ n6_ n7_ n8_ n9_ n10_ n11_ n12_ n13_ n14_ n15_;clear hb hbox hg;have hnb36:=NB643_628.out;have hnc36:=NB628_643.out;have hnb37:=NB643_634.out;have hnc37:=NB634_643.out;have hnb38:=NB643_0.out;have hnc38:=NB0_643.out;have hcz39_0 : w35.cell? ⟨gb643,0,none⟩ = some (.int .i64 0):=(blk_cell BK643.out 0).trans rfl;have hcz39_1 : w35.cell? ⟨gb643,1,none⟩ = some (.slice none 0 0):=(blk_cell BK643.out 1).trans rfl;have hfz39_0:=blk_frozen BK643.out 0;have hfz39_1:=blk_frozen BK643.out 1;obtain ⟨Ao40,co40,eo40⟩:=Kd.R_slice HO640.out;subst eo40;have hcz41_0 : w35.cell? ⟨gb634,0,none⟩ = some (.int .i64 t629):=(blk_cell BK634.out 0).trans rfl;have hcz41_1 : w35.cell? ⟨gb634,1,none⟩ = some (.slice Ao31 t630.length co31):=(blk_cell BK634.out 1).trans rfl;have hfz41_0:=blk_frozen BK634.out 0;have hfz41_1:=blk_frozen BK634.out 1;have hnb42:=NB628_0.out;have hnc42:=NB0_628.out;have hcz43_0 : w35.cell? ⟨gb628,0,none⟩ = some (.int .i64 0):=(blk_cell BK628.out 0).trans rfl;have hcz43_1 : w35.cell? ⟨gb628,1,none⟩ = some (.slice none 0 0):=(blk_cell BK628.out 1).trans rfl;have hfz43_0:=blk_frozen BK628.out 0;have hfz43_1:=blk_frozen BK628.out 1))
   refine bodyPost_ret (results_cell_row rfl _ _ gb628 28 #[.int .i64 t629,.slice Ao31 t630.length co31] (0,0) _ rfl (by refine pe_ ?_;refine blk_put (cs:=#[.int .i64 t629,.slice none 0 0]) ?_ 1 _ rfl;refine pe_ ?_;refine blk_put (cs:=#[.int .i64 0,.slice none 0 0]) ?_ 0 _ rfl;refine pe_ ?_;refine blk_far ?_ NB628_643.out _;refine pe_ ?_;refine blk_far ?_ NB628_643.out _;refine pe_ ?_;exact BK628.out) Try.underlying28 rfl (by kernel_rfl)) rfl ?_
   exact ⟨_,by first|rfl|(simp [errW_none,errW_some] <;> rfl)|(simp [*,errW_none,errW_some] <;> rfl),by refine pv_ ?_;exact Kd.V_mono (Kd.V_far (p:=⟨gb628,1,none⟩) (Kd.V_far (p:=⟨gb628,0,none⟩) (Kd.V_far (p:=⟨gb643,1,none⟩) (Kd.V_far (p:=⟨gb643,0,none⟩) (Kd.V_mono (Kd.V_mono HO632.out (fun k_ hk => (⟨hk,hk.2⟩ : _ ∧ k_ ≠ gb643))) (fun k_ hk => (⟨hk,hk.1.1.1.1.2.1⟩ : _ ∧ k_ ≠ gb628))) (fun _ hk => hk.1.2) (.int .i64 t637)) (fun _ hk => hk.1.2) (.slice Ao40 t638.length co40)) (fun _ hk => hk.2) (.int .i64 t629)) (fun _ hk => hk.2) (.slice Ao31 t630.length co31)) (fun _ hk => hk.1.1.1.1.1.1),by repeat (first|(with_reducible first|exact HI0.out|apply IsS90.alloc|apply IsS90.drewN|apply IsS90.drew|apply IsS90.set_1|refine IsS90.far ?_ NB0_628.out _|refine IsS90.far ?_ NB0_634.out _|refine IsS90.far ?_ NB0_643.out _)|exact HI0.out),by repeat (first|(with_reducible first|exact HB.out|apply below_alloc|apply pw_below_drewN|apply below_drew1|refine below_set ?_ (IsS90.ge HI0.out)|refine below_set ?_ GE628.out|refine below_set ?_ GE634.out|refine below_set ?_ GE643.out)|exact HB.out),ke3_ HK.out GW628.out GW634.out GW643.out⟩
 ·rw [if_neg c4] at H
  have c4b0 : decide (0 < t635) = false:=decide_eq_false c4
  clear c4
  simp only [Option.some.injEq,Prod.mk.injEq] at H
  obtain ⟨rfl,rfl,rfl⟩:=H
  go_enter Try.func79,Try.ntmps79
  go_wp2_with (first|((with_reducible refine gate_dst (N:=2) rfl ?_);refine box_event ?hg (N:=2) ?hd (cs:=#[.int .i64 0,.slice none 0 0]) (t:=28) ?hr ?_;(case hd => rfl);(case hg => rfl);(case hr => first|(go_simp;done)|(go_simp;rfl));intro gb628 hg w44 hbox hb;have n0_:=Aside0.mk (IsS90.below (by repeat (first|(with_reducible first|exact HI0.out|apply IsS90.alloc|apply IsS90.drewN|apply IsS90.drew|apply IsS90.set_1)|exact HI0.out)) hb);have n1_:=Aside0.mk (KeepBut.trans (ke0_ HK.out) (KeepBut.of_below hb g none) (.inl rfl));have n2_:=Aside0.mk (below_step (by repeat (first|(with_reducible first|exact HB.out|apply below_alloc|apply pw_below_drewN|apply below_drew1|refine below_set ?_ (IsS90.ge HI0.out))|exact HB.out)) hb);have n3_:=Aside0.mk (hbox);have n4_:=Aside0.mk ((by rw [hg];exact (keep_size (w:=w) (g:=g) (row:=none) (ke0_ HK.out)) : w.heap.size ≤ gb628));have n5_:=Aside0.mk ((Nat.le_trans HW0.out (by rw [hg];exact (keep_size (w:=w) (g:=g) (row:=none) (ke0_ HK.out)) : w.heap.size ≤ gb628) : w0.heap.size ≤ gb628));have n6_:=Aside0.mk ((by rw [hg];exact Nat.ne_of_lt (IsS90.lt (show IsS90 w0 _ g s0_0 s0_1 from by repeat (first|(with_reducible first|exact HI0.out|apply IsS90.alloc|apply IsS90.drewN|apply IsS90.drew|apply IsS90.set_1)|exact HI0.out))) : g ≠ gb628));have n7_:=Aside0.mk ((by rw [hg];exact Nat.ne_of_gt (IsS90.lt (show IsS90 w0 _ g s0_0 s0_1 from by repeat (first|(with_reducible first|exact HI0.out|apply IsS90.alloc|apply IsS90.drewN|apply IsS90.drew|apply IsS90.set_1)|exact HI0.out))) : gb628 ≠ g));clear HI0;clear HK;clear HB;have HI0:=n0_;have HK:=n1_;have HB:=n2_;have BK628:=n3_;have GW628:=n4_;have GE628:=n5_;have NB0_628:=n6_;have NB628_0:=n7_;clear n0_ n1_ n2_ n3_ n4_ n5_ n6_ n7_;clear hb hbox hg)|((with_reducible refine gate_callee (f:=70) rfl ?_);refine goesL_ (some 8) rfl rfl Try.func70 (by kernel_rfl) rfl #[.pointer (some ⟨g,0,none⟩)] rfl lp_ ?_;(with_reducible refine (spec_l6Some.calls k g s0_0 s0_1 t629 t630 t633 w0 _ ?side1 ?side2 A2.out).mono ?_);(case side1 => repeat (first|(with_reducible first|exact HI0.out|apply IsS90.alloc|apply IsS90.drewN|apply IsS90.drew|apply IsS90.set_1|refine IsS90.far ?_ NB0_628.out _)|exact HI0.out));(case side2 => repeat (first|(with_reducible first|exact HB.out|apply below_alloc|apply pw_below_drewN|apply below_drew1|refine below_set ?_ (IsS90.ge HI0.out)|refine below_set ?_ GE628.out)|exact HB.out));rintro e w45 ⟨v631,rfl,ho0,hi,hb,hk⟩;refine ⟨_,rfl,?_⟩;have n0_:=Aside0.mk (KeepBut.blk hk (g':=gb628) (o:=.cells #[.int .i64 0,.slice none 0 0] 28 (0,0)) (pe_ BK628.out) NB628_0.out (by simp));have n1_:=Aside0.mk (Kd.V_lower (Kd.V_mono (ok':=fun k_ => (w.heap.size ≤ k_) ∧ k_ ≠ gb628 ∧ k_ ≠ g) ho0 (fun k_ hk_ => ⟨(Nat.le_trans (keep_size (w:=w) (g:=g) (row:=none) (ke1_ HK.out GW628.out)) hk_),(Kd.freshB (g:=gb628) (o:=.cells #[.int .i64 0,.slice none 0 0] 28 (0,0)) (pe_ BK628.out) k_ hk_),(IsS90.fresh (by repeat (first|(with_reducible first|exact HI0.out|apply IsS90.alloc|apply IsS90.drewN|apply IsS90.drew|apply IsS90.set_1|refine IsS90.far ?_ NB0_628.out _)|exact HI0.out)) k_ hk_)⟩)) (keep_size (w:=w) (g:=g) (row:=none) (ke1_ HK.out GW628.out)));have n2_:=Aside0.mk (KeepBut.trans (ke1_ HK.out GW628.out) hk (.inl rfl));have n3_:=Aside0.mk (hb);have n4_:=Aside0.mk (hi);clear BK628;clear HK;clear HB;clear HI0;have BK628:=n0_;have HO632:=n1_;have HK:=n2_;have HB:=n3_;have HI0:=n4_;clear n0_ n1_ n2_ n3_ n4_;(try clear hb);(try clear hb2);(try clear hk);(try clear hi);(try clear ho0))|((with_reducible refine gate_dst (N:=3) rfl ?_);refine box_event ?hg (N:=3) ?hd (cs:=#[.int .i64 0,.slice none 0 0]) (t:=28) ?hr ?_;(case hd => rfl);(case hg => rfl);(case hr => first|(go_simp;done)|(go_simp;rfl));intro gb634 hg w46 hbox hb;have n0_:=Aside0.mk (Kd.V_below (Kd.V_elderB (pv_ HO632.out) gb634 (Nat.le_of_eq hg.symm)) hb);have n1_:=Aside0.mk (IsS90.below (by repeat (first|(with_reducible first|exact HI0.out|apply IsS90.alloc|apply IsS90.drewN|apply IsS90.drew|apply IsS90.set_1|refine IsS90.far ?_ NB0_628.out _)|exact HI0.out)) hb);have n2_:=Aside0.mk (blk_below (g:=gb628) (o:=.cells #[.int .i64 0,.slice none 0 0] 28 (0,0)) (pe_ BK628.out) hb);have n3_:=Aside0.mk (KeepBut.trans (ke1_ HK.out GW628.out) (KeepBut.of_below hb g none) (.inl rfl));have n4_:=Aside0.mk (below_step (by repeat (first|(with_reducible first|exact HB.out|apply below_alloc|apply pw_below_drewN|apply below_drew1|refine below_set ?_ (IsS90.ge HI0.out)|refine below_set ?_ GE628.out)|exact HB.out)) hb);have n5_:=Aside0.mk (hbox);have n6_:=Aside0.mk ((by rw [hg];exact (keep_size (w:=w) (g:=g) (row:=none) (ke1_ HK.out GW628.out)) : w.heap.size ≤ gb634));have n7_:=Aside0.mk ((Nat.le_trans HW0.out (by rw [hg];exact (keep_size (w:=w) (g:=g) (row:=none) (ke1_ HK.out GW628.out)) : w.heap.size ≤ gb634) : w0.heap.size ≤ gb634));have n8_:=Aside0.mk ((by rw [hg];exact Nat.ne_of_lt (blk_lt (g:=gb628) (o:=.cells #[.int .i64 0,.slice none 0 0] 28 (0,0)) (pe_ BK628.out)) : gb628 ≠ gb634));have n9_:=Aside0.mk ((by rw [hg];exact Nat.ne_of_gt (blk_lt (g:=gb628) (o:=.cells #[.int .i64 0,.slice none 0 0] 28 (0,0)) (pe_ BK628.out)) : gb634 ≠ gb628));have n10_:=Aside0.mk ((by rw [hg];exact Nat.ne_of_lt (IsS90.lt (show IsS90 w0 _ g s0_0 t633 from by repeat (first|(with_reducible first|exact HI0.out|apply IsS90.alloc|apply IsS90.drewN|apply IsS90.drew|apply IsS90.set_1|refine IsS90.far ?_ NB0_628.out _)|exact HI0.out))) : g ≠ gb634));have n11_:=Aside0.mk ((by rw [hg];exact Nat.ne_of_gt (IsS90.lt (show IsS90 w0 _ g s0_0 t633 from by repeat (first|(with_reducible first|exact HI0.out|apply IsS90.alloc|apply IsS90.drewN|apply IsS90.drew|apply IsS90.set_1|refine IsS90.far ?_ NB0_628.out _)|exact HI0.out))) : gb634 ≠ g));clear HO632;clear HI0;clear BK628;clear HK;clear HB;have HO632:=n0_;have HI0:=n1_;have BK628:=n2_;have HK:=n3_;have HB:=n4_;have BK634:=n5_;have GW634:=n6_;have GE634:=n7_;have NB628_634:=n8_;have NB634_628:=n9_;have NB0_634:=n10_;have NB634_0:=n11_;clear n0_ n1_ n2_ n3_ n4_ n5_ n6_ n7_ n8_ n9_ n10_ n11_;clear hb hbox hg;have hnb47:=NB634_628.out;have hnc47:=NB628_634.out;have hnb48:=NB634_0.out;have hnc48:=NB0_634.out;have hcz49_0 : w46.cell? ⟨gb634,0,none⟩ = some (.int .i64 0):=(blk_cell BK634.out 0).trans rfl;have hcz49_1 : w46.cell? ⟨gb634,1,none⟩ = some (.slice none 0 0):=(blk_cell BK634.out 1).trans rfl;have hfz49_0:=blk_frozen BK634.out 0;have hfz49_1:=blk_frozen BK634.out 1;obtain ⟨Ao50,co50,eo50⟩:=Kd.V_slice HO632.out;subst eo50)|((with_reducible refine gate_callee (f:=76) rfl ?_);refine goesL_ (some 10) rfl rfl Try.func76 (by kernel_rfl) rfl #[.pointer (some ⟨g,0,none⟩),.int .i64 4] rfl lp_ ?_;(with_reducible refine (spec_l13Rd_pick.calls k g s0_0 t633 4 t635 t636 w0 _ ?side1 ?side2 A3.out).mono ?_);(case side1 => repeat (first|(with_reducible first|exact HI0.out|apply IsS90.alloc|apply IsS90.drewN|apply IsS90.drew|apply IsS90.set_1|refine IsS90.far ?_ NB0_628.out _|refine IsS90.far ?_ NB0_634.out _)|exact HI0.out));(case side2 => repeat (first|(with_reducible first|exact HB.out|apply below_alloc|apply pw_below_drewN|apply below_drew1|refine below_set ?_ (IsS90.ge HI0.out)|refine below_set ?_ GE628.out|refine below_set ?_ GE634.out)|exact HB.out));rintro e w51 ⟨rfl,hi,hb,hk⟩;refine ⟨_,rfl,?_⟩;have n0_:=Aside0.mk (KeepBut.blk hk (g':=gb628) (o:=.cells #[.int .i64 0,.slice none 0 0] 28 (0,0)) (by refine pe_ ?_;refine blk_far ?_ NB628_634.out _;refine pe_ ?_;refine blk_far ?_ NB628_634.out _;refine pe_ ?_;exact BK628.out) NB628_0.out (by simp));have n1_:=Aside0.mk (Kd.V_mono (Kd.V_keep (Kd.V_mono (ok:=fun k_ => ((((w.heap.size ≤ k_)) ∧ (k_ ≠ gb628 ∧ k_ ≠ g)) ∧ k_ ≠ gb634)) (by refine pv_ ?_;exact (Kd.V_mono (Kd.V_far (p:=⟨gb634,1,none⟩) (Kd.V_far (p:=⟨gb634,0,none⟩) (Kd.V_mono HO632.out (fun k_ hk => (⟨hk,hk.2⟩ : _ ∧ k_ ≠ gb634))) (fun _ hk => hk.2) (.int .i64 t629)) (fun _ hk => hk.2) (.slice Ao50 t630.length co50)) (fun _ h_ => h_.1))) (fun k_ hk_ => (⟨hk_,hk_.1.2.2⟩ : _ ∧ k_ ≠ g))) hk (fun _ h => h.2)) (fun _ h => h.1));have n2_:=Aside0.mk (KeepBut.blk hk (g':=gb634) (o:=.cells #[.int .i64 t629,.slice Ao50 t630.length co50] 28 (0,0)) (by refine pe_ ?_;refine blk_put (cs:=#[.int .i64 t629,.slice none 0 0]) ?_ 1 _ rfl;refine pe_ ?_;refine blk_put (cs:=#[.int .i64 0,.slice none 0 0]) ?_ 0 _ rfl;refine pe_ ?_;exact BK634.out) NB634_0.out (by simp));have n3_:=Aside0.mk (KeepBut.trans (ke2_ HK.out GW628.out GW634.out) hk (.inl rfl));have n4_:=Aside0.mk (hb);have n5_:=Aside0.mk (hi);clear BK628;clear HO632;clear BK634;clear HK;clear HB;clear HI0;have BK628:=n0_;have HO632:=n1_;have BK634:=n2_;have HK:=n3_;have HB:=n4_;have HI0:=n5_;clear n0_ n1_ n2_ n3_ n4_ n5_;(try clear hb);(try clear hb2);(try clear hk);(try clear hi);have hcz52_0 : w51.cell? ⟨gb634,0,none⟩ = some (.int .i64 t629):=(blk_cell BK634.out 0).trans rfl;have hcz52_1 : w51.cell? ⟨gb634,1,none⟩ = some (.slice Ao50 t630.length co50):=(blk_cell BK634.out 1).trans rfl;have hfz52_0:=blk_frozen BK634.out 0;have hfz52_1:=blk_frozen BK634.out 1;have hnb53:=NB628_0.out;have hnc53:=NB0_628.out;have hcz54_0 : w51.cell? ⟨gb628,0,none⟩ = some (.int .i64 0):=(blk_cell BK628.out 0).trans rfl;have hcz54_1 : w51.cell? ⟨gb628,1,none⟩ = some (.slice none 0 0):=(blk_cell BK628.out 1).trans rfl;have hfz54_0:=blk_frozen BK628.out 0;have hfz54_1:=blk_frozen BK628.out 1))
  refine bodyPost_ret (results_cell_row rfl _ _ gb628 28 #[.int .i64 t629,.slice Ao50 t630.length co50] (0,0) _ rfl (by refine pe_ ?_;refine blk_put (cs:=#[.int .i64 t629,.slice none 0 0]) ?_ 1 _ rfl;refine pe_ ?_;refine blk_put (cs:=#[.int .i64 0,.slice none 0 0]) ?_ 0 _ rfl;refine pe_ ?_;exact BK628.out) Try.underlying28 rfl (by kernel_rfl)) rfl ?_
  exact ⟨_,by first|rfl|(simp [errW_none,errW_some] <;> rfl)|(simp [*,errW_none,errW_some] <;> rfl),by refine pv_ ?_;exact Kd.V_mono (Kd.V_far (p:=⟨gb628,1,none⟩) (Kd.V_far (p:=⟨gb628,0,none⟩) (Kd.V_mono HO632.out (fun k_ hk => (⟨hk,hk.1.2.1⟩ : _ ∧ k_ ≠ gb628))) (fun _ hk => hk.2) (.int .i64 t629)) (fun _ hk => hk.2) (.slice Ao50 t630.length co50)) (fun _ hk => hk.1.1.1),by repeat (first|(with_reducible first|exact HI0.out|apply IsS90.alloc|apply IsS90.drewN|apply IsS90.drew|apply IsS90.set_1|refine IsS90.far ?_ NB0_628.out _|refine IsS90.far ?_ NB0_634.out _)|exact HI0.out),by repeat (first|(with_reducible first|exact HB.out|apply below_alloc|apply pw_below_drewN|apply below_drew1|refine below_set ?_ (IsS90.ge HI0.out)|refine below_set ?_ GE628.out|refine below_set ?_ GE634.out)|exact HB.out),ke2_ HK.out GW628.out GW634.out⟩
end Go.Proofs.Ytengegdaiphfeaa.X
end
section
namespace Go.Proofs.Ytengegdaiphfeaa.X
open Go.RowKit Go.Proofs.YtengegdaiphfeaaW.PrintWords Go.Proofs.YtengegdaiphfeaaW.PrintLast Go.Proofs.YtengegdaiphfeaaW.PrintMore
attribute [local go_sem] max2_int min2_int max_two min_two max_three min_three max_four min_four
set_option linter.unusedVariables false
set_option linter.unusedSimpArgs false
def spec_DrawIsIdempotent.f (k : Nat) (l0 : List Int) : Option (Int × List Int):=(spec_l13Open.f l0).bind fun bt645 => ((spec_l6Idem.f k bt645.1 bt645.2).bind fun bt648 => (some (bt648.1,bt648.2.1)))
theorem spec_DrawIsIdempotent.mono : ∀ a0 k,LeO (spec_DrawIsIdempotent.f k a0) (spec_DrawIsIdempotent.f (k + 1) a0):=by
 intro a0 k
 unfold spec_DrawIsIdempotent.f
 repeat' first
   | (with_reducible exact spec_l6Idem.mono _ _ _)
   | (with_reducible exact LeO.refl _)
   | (with_reducible exact LeO.none _)
   | (with_reducible refine LeO.ite ?_ ?_)
   | (with_reducible refine LeO.bind ?_ (fun _ => ?_))
   | exact spec_l6Idem.mono _ _ _
   | exact LeO.none _
   | refine LeO.ite ?_ ?_
   | refine LeO.bind ?_ (fun _ => ?_)
set_option maxHeartbeats 8000000 in
set_option maxRecDepth 100000 in
theorem spec_DrawIsIdempotent.calls (k : Nat) (A0 : Option Addr) (c0 : Nat) (l0 : List Int) (r1 : Int) (r2 : List Int) (w : World) (hr0 : Kd.C (Kd.int .u8) w A0 l0.length l0) (hc0 : l0.length ≤ c0) (h : spec_DrawIsIdempotent.f k l0 = some (r1,r2)) :
  Calls Try.prog 35 #[.slice A0 l0.length c0] w fun e w' => ∃ v1_ : Value,e = .returned (.agg #[.int .i64 r1,v1_]) ∧ Kd.V (Kd.int .i64) 3 w' w.heap.size (fun k_ => (w.heap.size ≤ k_)) v1_ r2 ∧ Below w.heap.size w w':=by
 have hu28:=Try.underlying28
 have HR0:=Aside0.mk hr0
 have HC0:=Aside0.mk hc0
 clear hr0 hc0
 have HB:=Aside0.mk (Below.refl w.heap.size w)
 have H : ((spec_l13Open.f l0).bind fun bt645 => ((spec_l6Idem.f k bt645.1 bt645.2).bind fun bt648 => (some (bt648.1,bt648.2.1)))) = some (r1,r2):=h
 clear h
 replace H:=Option.bind_eq_some_iff.mp H
 obtain ⟨⟨t645,t646⟩,A20,H⟩:=H
 replace H : ((spec_l6Idem.f k t645 t646).bind fun bt648 => (some (bt648.1,bt648.2.1))) = some (r1,r2):=H
 have A2:=Aside0.mk A20
 clear A20
 replace H:=Option.bind_eq_some_iff.mp H
 obtain ⟨⟨t648,t649,t652⟩,A30,H⟩:=H
 replace H : (some (t648,t649)) = some (r1,r2):=H
 have A3:=Aside0.mk A30
 clear A30
 simp only [Option.some.injEq,Prod.mk.injEq] at H
 obtain ⟨rfl,rfl⟩:=H
 go_enter Try.func35,Try.ntmps35
 go_wp2_with (first|((with_reducible refine gate_dst (N:=2) rfl ?_);refine box_event ?hg (N:=2) ?hd (cs:=#[.int .i64 0,.slice none 0 0]) (t:=28) ?hr ?_;(case hd => rfl);(case hg => rfl);(case hr => first|(go_simp;done)|(go_simp;rfl));intro gb644 hg w4 hbox hb;have n0_:=Aside0.mk (below_step (be0_ HB.out) hb);have n1_:=Aside0.mk (hbox);have n2_:=Aside0.mk ((by rw [hg];exact (below_size (be0_ HB.out)) : w.heap.size ≤ gb644));have n3_:=Aside0.mk ((by rw [hg];exact (below_size (be0_ HB.out)) : w.heap.size ≤ gb644));clear HB;have HB:=n0_;have BK644:=n1_;have GW644:=n2_;have GE644:=n3_;clear n0_ n1_ n2_ n3_;clear hb hbox hg)|((with_reducible refine gate_callee (f:=71) rfl ?_);refine goesL_ (some 4) rfl rfl Try.func71 (by kernel_rfl) rfl #[.slice A0 l0.length c0] rfl lp_ ?_;(with_reducible refine (spec_l13Open.calls _ _ l0 t645 t646 w _ ?side1 ?side2 ?side3 A2.out).mono ?_);(case side1 => repeat (first|(with_reducible first|exact HB.out|apply below_alloc|apply pw_below_drewN|apply below_drew1|refine below_set ?_ GE644.out)|exact HB.out));(case side2 => exact HR0.out);(case side3 => exact HC0.out);rintro e w5 ⟨g647,rfl,hi,hb,hb2⟩;refine ⟨_,rfl,?_⟩;have n0_:=Aside0.mk (blk_below (g:=gb644) (o:=.cells #[.int .i64 0,.slice none 0 0] 28 (0,0)) (pe_ BK644.out) hb2);have n1_:=Aside0.mk (hb);have n2_:=Aside0.mk (hi);have n3_:=Aside0.mk (IsS90.ne_blk hi (blk_below (g:=gb644) (o:=.cells #[.int .i64 0,.slice none 0 0] 28 (0,0)) (pe_ BK644.out) hb2) (by decide));have n4_:=Aside0.mk (Ne.symm (IsS90.ne_blk hi (blk_below (g:=gb644) (o:=.cells #[.int .i64 0,.slice none 0 0] 28 (0,0)) (pe_ BK644.out) hb2) (by decide)));clear BK644;clear HB;have BK644:=n0_;have HB:=n1_;have HI647:=n2_;have NB647_644:=n3_;have NB644_647:=n4_;clear n0_ n1_ n2_ n3_ n4_;(try clear hb);(try clear hb2);(try clear hk);(try clear hi))|((with_reducible refine gate_callee (f:=79) rfl ?_);refine goesL_ (some 5) rfl rfl Try.func79 (by kernel_rfl) rfl #[.pointer (some ⟨g647,0,none⟩)] rfl lp_ ?_;(with_reducible refine (spec_l6Idem.calls k g647 t645 t646 t648 t649 t652 w _ ?side1 ?side2 A3.out).mono ?_);(case side1 => repeat (first|(with_reducible first|exact HI647.out|apply IsS90.alloc|apply IsS90.drewN|apply IsS90.drew|apply IsS90.set_1|refine IsS90.far ?_ NB647_644.out _)|exact HI647.out));(case side2 => repeat (first|(with_reducible first|exact HB.out|apply below_alloc|apply pw_below_drewN|apply below_drew1|refine below_set ?_ (IsS90.ge HI647.out)|refine below_set ?_ GE644.out)|exact HB.out));rintro e w6 ⟨v650,rfl,ho0,hi,hb,hk⟩;refine ⟨_,rfl,?_⟩;have n0_:=Aside0.mk (KeepBut.blk hk (g':=gb644) (o:=.cells #[.int .i64 0,.slice none 0 0] 28 (0,0)) (pe_ BK644.out) NB644_647.out (by simp));have n1_:=Aside0.mk (Kd.V_lower (Kd.V_mono (ok':=fun k_ => (w.heap.size ≤ k_) ∧ k_ ≠ gb644 ∧ k_ ≠ g647) ho0 (fun k_ hk_ => ⟨(Nat.le_trans (below_size (by repeat (first|(with_reducible first|exact HB.out|apply below_alloc|apply pw_below_drewN|apply below_drew1|refine below_set ?_ (IsS90.ge HI647.out)|refine below_set ?_ GE644.out)|exact HB.out))) hk_),(Kd.freshB (g:=gb644) (o:=.cells #[.int .i64 0,.slice none 0 0] 28 (0,0)) (pe_ BK644.out) k_ hk_),(IsS90.fresh (by repeat (first|(with_reducible first|exact HI647.out|apply IsS90.alloc|apply IsS90.drewN|apply IsS90.drew|apply IsS90.set_1|refine IsS90.far ?_ NB647_644.out _)|exact HI647.out)) k_ hk_)⟩)) (below_size (by repeat (first|(with_reducible first|exact HB.out|apply below_alloc|apply pw_below_drewN|apply below_drew1|refine below_set ?_ (IsS90.ge HI647.out)|refine below_set ?_ GE644.out)|exact HB.out))));have n2_:=Aside0.mk (hb);have n3_:=Aside0.mk (hi);clear BK644;clear HB;clear HI647;have BK644:=n0_;have HO651:=n1_;have HB:=n2_;have HI647:=n3_;clear n0_ n1_ n2_ n3_;(try clear hb);(try clear hb2);(try clear hk);(try clear hi);(try clear ho0);have hnb7:=NB644_647.out;have hnc7:=NB647_644.out;have hcz8_0 : w6.cell? ⟨gb644,0,none⟩ = some (.int .i64 0):=(blk_cell BK644.out 0).trans rfl;have hcz8_1 : w6.cell? ⟨gb644,1,none⟩ = some (.slice none 0 0):=(blk_cell BK644.out 1).trans rfl;have hfz8_0:=blk_frozen BK644.out 0;have hfz8_1:=blk_frozen BK644.out 1;obtain ⟨Ao9,co9,eo9⟩:=Kd.V_slice HO651.out;subst eo9))
 refine bodyPost_ret (results_cell_row rfl _ _ gb644 28 #[.int .i64 t648,.slice Ao9 t649.length co9] (0,0) _ rfl (by refine pe_ ?_;refine blk_put (cs:=#[.int .i64 t648,.slice none 0 0]) ?_ 1 _ rfl;refine pe_ ?_;refine blk_put (cs:=#[.int .i64 0,.slice none 0 0]) ?_ 0 _ rfl;refine pe_ ?_;exact BK644.out) Try.underlying28 rfl (by kernel_rfl)) rfl ?_
 exact ⟨_,by first|rfl|(simp [errW_none,errW_some] <;> rfl)|(simp [*,errW_none,errW_some] <;> rfl),by refine pv_ ?_;exact Kd.V_mono (Kd.V_far (p:=⟨gb644,1,none⟩) (Kd.V_far (p:=⟨gb644,0,none⟩) (Kd.V_mono HO651.out (fun k_ hk => (⟨hk,hk.2.1⟩ : _ ∧ k_ ≠ gb644))) (fun _ hk => hk.2) (.int .i64 t648)) (fun _ hk => hk.2) (.slice Ao9 t649.length co9)) (fun _ hk => hk.1.1),by repeat (first|(with_reducible first|exact HB.out|apply below_alloc|apply pw_below_drewN|apply below_drew1|refine below_set ?_ (IsS90.ge HI647.out)|refine below_set ?_ GE644.out)|exact HB.out)⟩
end Go.Proofs.Ytengegdaiphfeaa.X
end
section
namespace Go.Proofs.Ytengegdaiphfeaa.X
open Go.RowKit Go.Proofs.YtengegdaiphfeaaW.PrintWords Go.Proofs.YtengegdaiphfeaaW.PrintLast Go.Proofs.YtengegdaiphfeaaW.PrintMore
attribute [local go_sem] max2_int min2_int max_two min_two max_three min_three max_four min_four
set_option linter.unusedVariables false
set_option linter.unusedSimpArgs false
def spec_DrawMulGrades.f (k : Nat) (l0 : List Int) : Option (Int × List Int × Int × List Int):=(spec_l13Open.f l0).bind fun bt598 => ((spec_l13Rd_pick.f k bt598.1 bt598.2 4).bind fun bt601 => ((spec_l6Draw.f k bt598.1 bt601.2 (wrap64 (1 + bt601.1))).bind fun bt603 => ((spec_l6Bad.f k bt598.1 bt603.2.2 bt603.1 bt603.2.1).bind fun bt608 => ((spec_l13Rd_pick.f k bt598.1 bt608.2.2 16).bind fun bt614 => (if bt614.1 = 0 then ((spec_l13Rd_pick.f k bt598.1 bt614.2 4).bind fun bt616 => ((spec_l6Draw.f k bt598.1 bt616.2 (wrap64 (1 + bt616.1))).bind fun bt618 => (some (bt608.1,bt608.2.1,bt618.1,bt618.2.1)))) else ((spec_l6Draw.f k bt598.1 bt614.2 (wrap64 (1 + bt601.1))).bind fun bt623 => (some (bt608.1,bt608.2.1,bt623.1,bt623.2.1))))))))
theorem spec_DrawMulGrades.mono : ∀ a0 k,LeO (spec_DrawMulGrades.f k a0) (spec_DrawMulGrades.f (k + 1) a0):=by
 intro a0 k
 unfold spec_DrawMulGrades.f
 repeat' first
   | (with_reducible exact spec_l13Rd_pick.mono _ _ _ _)
   | (with_reducible exact spec_l6Bad.mono _ _ _ _ _)
   | (with_reducible exact spec_l6Draw.mono _ _ _ _)
   | (with_reducible exact LeO.refl _)
   | (with_reducible exact LeO.none _)
   | (with_reducible refine LeO.ite ?_ ?_)
   | (with_reducible refine LeO.bind ?_ (fun _ => ?_))
   | exact spec_l13Rd_pick.mono _ _ _ _
   | exact spec_l6Bad.mono _ _ _ _ _
   | exact spec_l6Draw.mono _ _ _ _
   | exact LeO.none _
   | refine LeO.ite ?_ ?_
   | refine LeO.bind ?_ (fun _ => ?_)
set_option maxHeartbeats 8000000 in
set_option maxRecDepth 100000 in
theorem spec_DrawMulGrades.calls (k : Nat) (A0 : Option Addr) (c0 : Nat) (l0 : List Int) (r1 : Int) (r2 : List Int) (r3 : Int) (r4 : List Int) (w : World) (hr0 : Kd.C (Kd.int .u8) w A0 l0.length l0) (hc0 : l0.length ≤ c0) (h : spec_DrawMulGrades.f k l0 = some (r1,r2,r3,r4)) :
  Calls Try.prog 34 #[.slice A0 l0.length c0] w fun e w' => ∃ v1_ v3_ : Value,e = .returned (.tuple #[.agg #[.int .i64 r1,v1_],.agg #[.int .i64 r3,v3_]]) ∧ Kd.V (Kd.int .i64) 3 w' w.heap.size (fun k_ => (w.heap.size ≤ k_) ∧ some k_ ≠ (v3_ : Value).ownBlock) v1_ r2 ∧ Kd.R (Kd.int .i64) 3 w' w.heap.size (fun k_ => (w.heap.size ≤ k_)) v3_ r4 ∧ Below w.heap.size w w':=by
 have hu28:=Try.underlying28
 have HR0:=Aside0.mk hr0
 have HC0:=Aside0.mk hc0
 clear hr0 hc0
 have HB:=Aside0.mk (Below.refl w.heap.size w)
 have H : ((spec_l13Open.f l0).bind fun bt598 => ((spec_l13Rd_pick.f k bt598.1 bt598.2 4).bind fun bt601 => ((spec_l6Draw.f k bt598.1 bt601.2 (wrap64 (1 + bt601.1))).bind fun bt603 => ((spec_l6Bad.f k bt598.1 bt603.2.2 bt603.1 bt603.2.1).bind fun bt608 => ((spec_l13Rd_pick.f k bt598.1 bt608.2.2 16).bind fun bt614 => (if bt614.1 = 0 then ((spec_l13Rd_pick.f k bt598.1 bt614.2 4).bind fun bt616 => ((spec_l6Draw.f k bt598.1 bt616.2 (wrap64 (1 + bt616.1))).bind fun bt618 => (some (bt608.1,bt608.2.1,bt618.1,bt618.2.1)))) else ((spec_l6Draw.f k bt598.1 bt614.2 (wrap64 (1 + bt601.1))).bind fun bt623 => (some (bt608.1,bt608.2.1,bt623.1,bt623.2.1))))))))) = some (r1,r2,r3,r4):=h
 clear h
 replace H:=Option.bind_eq_some_iff.mp H
 obtain ⟨⟨t598,t599⟩,A20,H⟩:=H
 replace H : ((spec_l13Rd_pick.f k t598 t599 4).bind fun bt601 => ((spec_l6Draw.f k t598 bt601.2 (wrap64 (1 + bt601.1))).bind fun bt603 => ((spec_l6Bad.f k t598 bt603.2.2 bt603.1 bt603.2.1).bind fun bt608 => ((spec_l13Rd_pick.f k t598 bt608.2.2 16).bind fun bt614 => (if bt614.1 = 0 then ((spec_l13Rd_pick.f k t598 bt614.2 4).bind fun bt616 => ((spec_l6Draw.f k t598 bt616.2 (wrap64 (1 + bt616.1))).bind fun bt618 => (some (bt608.1,bt608.2.1,bt618.1,bt618.2.1)))) else ((spec_l6Draw.f k t598 bt614.2 (wrap64 (1 + bt601.1))).bind fun bt623 => (some (bt608.1,bt608.2.1,bt623.1,bt623.2.1)))))))) = some (r1,r2,r3,r4):=H
 have A2:=Aside0.mk A20
 clear A20
 replace H:=Option.bind_eq_some_iff.mp H
 obtain ⟨⟨t601,t602⟩,A30,H⟩:=H
 replace H : ((spec_l6Draw.f k t598 t602 (wrap64 (1 + t601))).bind fun bt603 => ((spec_l6Bad.f k t598 bt603.2.2 bt603.1 bt603.2.1).bind fun bt608 => ((spec_l13Rd_pick.f k t598 bt608.2.2 16).bind fun bt614 => (if bt614.1 = 0 then ((spec_l13Rd_pick.f k t598 bt614.2 4).bind fun bt616 => ((spec_l6Draw.f k t598 bt616.2 (wrap64 (1 + bt616.1))).bind fun bt618 => (some (bt608.1,bt608.2.1,bt618.1,bt618.2.1)))) else ((spec_l6Draw.f k t598 bt614.2 (wrap64 (1 + t601))).bind fun bt623 => (some (bt608.1,bt608.2.1,bt623.1,bt623.2.1))))))) = some (r1,r2,r3,r4):=H
 have A3:=Aside0.mk A30
 clear A30
 replace H:=Option.bind_eq_some_iff.mp H
 obtain ⟨⟨t603,t604,t607⟩,A40,H⟩:=H
 replace H : ((spec_l6Bad.f k t598 t607 t603 t604).bind fun bt608 => ((spec_l13Rd_pick.f k t598 bt608.2.2 16).bind fun bt614 => (if bt614.1 = 0 then ((spec_l13Rd_pick.f k t598 bt614.2 4).bind fun bt616 => ((spec_l6Draw.f k t598 bt616.2 (wrap64 (1 + bt616.1))).bind fun bt618 => (some (bt608.1,bt608.2.1,bt618.1,bt618.2.1)))) else ((spec_l6Draw.f k t598 bt614.2 (wrap64 (1 + t601))).bind fun bt623 => (some (bt608.1,bt608.2.1,bt623.1,bt623.2.1)))))) = some (r1,r2,r3,r4):=H
 have A4:=Aside0.mk A40
 clear A40
 replace H:=Option.bind_eq_some_iff.mp H
 obtain ⟨⟨t608,t609,t612⟩,A50,H⟩:=H
 replace H : ((spec_l13Rd_pick.f k t598 t612 16).bind fun bt614 => (if bt614.1 = 0 then ((spec_l13Rd_pick.f k t598 bt614.2 4).bind fun bt616 => ((spec_l6Draw.f k t598 bt616.2 (wrap64 (1 + bt616.1))).bind fun bt618 => (some (t608,t609,bt618.1,bt618.2.1)))) else ((spec_l6Draw.f k t598 bt614.2 (wrap64 (1 + t601))).bind fun bt623 => (some (t608,t609,bt623.1,bt623.2.1))))) = some (r1,r2,r3,r4):=H
 have A5:=Aside0.mk A50
 clear A50
 replace H:=Option.bind_eq_some_iff.mp H
 obtain ⟨⟨t614,t615⟩,A60,H⟩:=H
 replace H : (if t614 = 0 then ((spec_l13Rd_pick.f k t598 t615 4).bind fun bt616 => ((spec_l6Draw.f k t598 bt616.2 (wrap64 (1 + bt616.1))).bind fun bt618 => (some (t608,t609,bt618.1,bt618.2.1)))) else ((spec_l6Draw.f k t598 t615 (wrap64 (1 + t601))).bind fun bt623 => (some (t608,t609,bt623.1,bt623.2.1)))) = some (r1,r2,r3,r4):=H
 have A6:=Aside0.mk A60
 clear A60
 by_cases c7 : t614 = 0
 ·rw [if_pos c7] at H
  have c7b0 : (t614 == 0) = true:=beq_iff_eq.mpr c7
  have c7b1 : (t614 != 0) = false:=bne_eq_false_iff_eq.mpr c7
  clear c7
  replace H:=Option.bind_eq_some_iff.mp H
  obtain ⟨⟨t616,t617⟩,A80,H⟩:=H
  replace H : ((spec_l6Draw.f k t598 t617 (wrap64 (1 + t616))).bind fun bt618 => (some (t608,t609,bt618.1,bt618.2.1))) = some (r1,r2,r3,r4):=H
  have A8:=Aside0.mk A80
  clear A80
  replace H:=Option.bind_eq_some_iff.mp H
  obtain ⟨⟨t618,t619,t622⟩,A90,H⟩:=H
  replace H : (some (t608,t609,t618,t619)) = some (r1,r2,r3,r4):=H
  have A9:=Aside0.mk A90
  clear A90
  simp only [Option.some.injEq,Prod.mk.injEq] at H
  obtain ⟨rfl,rfl,rfl,rfl⟩:=H
  go_enter Try.func34,Try.ntmps34
  try go_wp2_with (first|((with_reducible refine gate_dst (N:=2) rfl ?_);refine box_event ?hg (N:=2) ?hd (cs:=#[.int .i64 0,.slice none 0 0]) (t:=28) ?hr ?_;(case hd => rfl);(case hg => rfl);(case hr => first|(go_simp;done)|(go_simp;rfl));intro gb596 hg w10 hbox hb;have n0_:=Aside0.mk (below_step (be0_ HB.out) hb);have n1_:=Aside0.mk (hbox);have n2_:=Aside0.mk ((by rw [hg];exact (below_size (be0_ HB.out)) : w.heap.size ≤ gb596));have n3_:=Aside0.mk ((by rw [hg];exact (below_size (be0_ HB.out)) : w.heap.size ≤ gb596));clear HB;have HB:=n0_;have BK596:=n1_;have GW596:=n2_;have GE596:=n3_;clear n0_ n1_ n2_ n3_;clear hb hbox hg)|((with_reducible refine gate_dst (N:=3) rfl ?_);refine box_event ?hg (N:=3) ?hd (cs:=#[.int .i64 0,.slice none 0 0]) (t:=28) ?hr ?_;(case hd => rfl);(case hg => rfl);(case hr => first|(go_simp;done)|(go_simp;rfl));intro gb597 hg w11 hbox hb;have n0_:=Aside0.mk (blk_below (g:=gb596) (o:=.cells #[.int .i64 0,.slice none 0 0] 28 (0,0)) (pe_ BK596.out) hb);have n1_:=Aside0.mk (below_step (be1_ HB.out GE596.out) hb);have n2_:=Aside0.mk (hbox);have n3_:=Aside0.mk ((by rw [hg];exact (below_size (be1_ HB.out GE596.out)) : w.heap.size ≤ gb597));have n4_:=Aside0.mk ((by rw [hg];exact (below_size (be1_ HB.out GE596.out)) : w.heap.size ≤ gb597));have n5_:=Aside0.mk ((by rw [hg];exact Nat.ne_of_lt (blk_lt (g:=gb596) (o:=.cells #[.int .i64 0,.slice none 0 0] 28 (0,0)) (pe_ BK596.out)) : gb596 ≠ gb597));have n6_:=Aside0.mk ((by rw [hg];exact Nat.ne_of_gt (blk_lt (g:=gb596) (o:=.cells #[.int .i64 0,.slice none 0 0] 28 (0,0)) (pe_ BK596.out)) : gb597 ≠ gb596));clear BK596;clear HB;have BK596:=n0_;have HB:=n1_;have BK597:=n2_;have GW597:=n3_;have GE597:=n4_;have NB596_597:=n5_;have NB597_596:=n6_;clear n0_ n1_ n2_ n3_ n4_ n5_ n6_;clear hb hbox hg)|((with_reducible refine gate_callee (f:=71) rfl ?_);refine goesL_ (some 8) rfl rfl Try.func71 (by kernel_rfl) rfl #[.slice A0 l0.length c0] rfl lp_ ?_;(with_reducible refine (spec_l13Open.calls _ _ l0 t598 t599 w _ ?side1 ?side2 ?side3 A2.out).mono ?_);(case side1 => repeat (first|(with_reducible first|exact HB.out|apply below_alloc|apply pw_below_drewN|apply below_drew1|refine below_set ?_ GE596.out|refine below_set ?_ GE597.out)|exact HB.out));(case side2 => exact HR0.out);(case side3 => exact HC0.out);rintro e w12 ⟨g600,rfl,hi,hb,hb2⟩;refine ⟨_,rfl,?_⟩;have n0_:=Aside0.mk (blk_below (g:=gb596) (o:=.cells #[.int .i64 0,.slice none 0 0] 28 (0,0)) (pe_ BK596.out) hb2);have n1_:=Aside0.mk (blk_below (g:=gb597) (o:=.cells #[.int .i64 0,.slice none 0 0] 28 (0,0)) (pe_ BK597.out) hb2);have n2_:=Aside0.mk (hb);have n3_:=Aside0.mk (hi);have n4_:=Aside0.mk (IsS90.ne_blk hi (blk_below (g:=gb596) (o:=.cells #[.int .i64 0,.slice none 0 0] 28 (0,0)) (pe_ BK596.out) hb2) (by decide));have n5_:=Aside0.mk (Ne.symm (IsS90.ne_blk hi (blk_below (g:=gb596) (o:=.cells #[.int .i64 0,.slice none 0 0] 28 (0,0)) (pe_ BK596.out) hb2) (by decide)));have n6_:=Aside0.mk (IsS90.ne_blk hi (blk_below (g:=gb597) (o:=.cells #[.int .i64 0,.slice none 0 0] 28 (0,0)) (pe_ BK597.out) hb2) (by decide));have n7_:=Aside0.mk (Ne.symm (IsS90.ne_blk hi (blk_below (g:=gb597) (o:=.cells #[.int .i64 0,.slice none 0 0] 28 (0,0)) (pe_ BK597.out) hb2) (by decide)));clear BK596;clear BK597;clear HB;have BK596:=n0_;have BK597:=n1_;have HB:=n2_;have HI600:=n3_;have NB600_596:=n4_;have NB596_600:=n5_;have NB600_597:=n6_;have NB597_600:=n7_;clear n0_ n1_ n2_ n3_ n4_ n5_ n6_ n7_;(try clear hb);(try clear hb2);(try clear hk);(try clear hi))|((with_reducible refine gate_callee (f:=76) rfl ?_);refine goesL_ (some 10) rfl rfl Try.func76 (by kernel_rfl) rfl #[.pointer (some ⟨g600,0,none⟩),.int .i64 4] rfl lp_ ?_;(with_reducible refine (spec_l13Rd_pick.calls k g600 t598 t599 4 t601 t602 w _ ?side1 ?side2 A3.out).mono ?_);(case side1 => repeat (first|(with_reducible first|exact HI600.out|apply IsS90.alloc|apply IsS90.drewN|apply IsS90.drew|apply IsS90.set_1|refine IsS90.far ?_ NB600_596.out _|refine IsS90.far ?_ NB600_597.out _)|exact HI600.out));(case side2 => repeat (first|(with_reducible first|exact HB.out|apply below_alloc|apply pw_below_drewN|apply below_drew1|refine below_set ?_ (IsS90.ge HI600.out)|refine below_set ?_ GE596.out|refine below_set ?_ GE597.out)|exact HB.out));rintro e w13 ⟨rfl,hi,hb,hk⟩;refine ⟨_,rfl,?_⟩;have n0_:=Aside0.mk (KeepBut.blk hk (g':=gb596) (o:=.cells #[.int .i64 0,.slice none 0 0] 28 (0,0)) (pe_ BK596.out) NB596_600.out (by simp));have n1_:=Aside0.mk (KeepBut.blk hk (g':=gb597) (o:=.cells #[.int .i64 0,.slice none 0 0] 28 (0,0)) (pe_ BK597.out) NB597_600.out (by simp));have n2_:=Aside0.mk (hb);have n3_:=Aside0.mk (hi);clear BK596;clear BK597;clear HB;clear HI600;have BK596:=n0_;have BK597:=n1_;have HB:=n2_;have HI600:=n3_;clear n0_ n1_ n2_ n3_;(try clear hb);(try clear hb2);(try clear hk);(try clear hi))|((with_reducible refine gate_callee (f:=78) rfl ?_);refine goesL_ (some 15) rfl rfl Try.func78 (by kernel_rfl) rfl #[.pointer (some ⟨g600,0,none⟩),.int .i64 (wrap64 (1 + t601))] rfl lp_ ?_;(with_reducible refine (spec_l6Draw.calls k g600 t598 t602 (wrap64 (1 + t601)) t603 t604 t607 w _ ?side1 ?side2 A4.out).mono ?_);(case side1 => repeat (first|(with_reducible first|exact HI600.out|apply IsS90.alloc|apply IsS90.drewN|apply IsS90.drew|apply IsS90.set_1|refine IsS90.far ?_ NB600_596.out _|refine IsS90.far ?_ NB600_597.out _)|exact HI600.out));(case side2 => repeat (first|(with_reducible first|exact HB.out|apply below_alloc|apply pw_below_drewN|apply below_drew1|refine below_set ?_ (IsS90.ge HI600.out)|refine below_set ?_ GE596.out|refine below_set ?_ GE597.out)|exact HB.out));rintro e w14 ⟨v605,rfl,ho0,hi,hb,hk⟩;refine ⟨_,rfl,?_⟩;have n0_:=Aside0.mk (KeepBut.blk hk (g':=gb596) (o:=.cells #[.int .i64 0,.slice none 0 0] 28 (0,0)) (pe_ BK596.out) NB596_600.out (by simp));have n1_:=Aside0.mk (KeepBut.blk hk (g':=gb597) (o:=.cells #[.int .i64 0,.slice none 0 0] 28 (0,0)) (pe_ BK597.out) NB597_600.out (by simp));have n2_:=Aside0.mk (Kd.R_lower (Kd.R_newM (M:=fun k_ => (w.heap.size ≤ k_)) ho0 (below_size (by repeat (first|(with_reducible first|exact HB.out|apply below_alloc|apply pw_below_drewN|apply below_drew1|refine below_set ?_ (IsS90.ge HI600.out)|refine below_set ?_ GE596.out|refine below_set ?_ GE597.out)|exact HB.out))) (fun k_ h_ => h_)) (below_size (by repeat (first|(with_reducible first|exact HB.out|apply below_alloc|apply pw_below_drewN|apply below_drew1|refine below_set ?_ (IsS90.ge HI600.out)|refine below_set ?_ GE596.out|refine below_set ?_ GE597.out)|exact HB.out))));have n3_:=Aside0.mk (hb);have n4_:=Aside0.mk (hi);clear BK596;clear BK597;clear HB;clear HI600;have BK596:=n0_;have BK597:=n1_;have HO606:=n2_;have HB:=n3_;have HI600:=n4_;clear n0_ n1_ n2_ n3_ n4_;(try clear hb);(try clear hb2);(try clear hk);(try clear hi);(try clear ho0);obtain ⟨Ao15,co15,eo15⟩:=Kd.R_slice HO606.out;subst eo15)|((with_reducible refine gate_callee (f:=77) rfl ?_);refine goesL_ (some 16) rfl rfl Try.func77 (by kernel_rfl) rfl #[.pointer (some ⟨g600,0,none⟩),.agg #[.int .i64 t603,.slice Ao15 t604.length co15]] rfl lp_ ?_;(with_reducible refine (spec_l6Bad.calls k g600 t598 t607 t603 (fun k_ => some k_ = (.slice Ao15 t604.length co15 : Value).ownBlock) _ _ t604 t608 t609 t612 w _ ?side1 ?side2 ?side3 A5.out).mono ?_);(case side1 => repeat (first|(with_reducible first|exact HI600.out|apply IsS90.alloc|apply IsS90.drewN|apply IsS90.drew|apply IsS90.set_1|refine IsS90.far ?_ NB600_596.out _|refine IsS90.far ?_ NB600_597.out _)|exact HI600.out));(case side2 => repeat (first|(with_reducible first|exact HB.out|apply below_alloc|apply pw_below_drewN|apply below_drew1|refine below_set ?_ (IsS90.ge HI600.out)|refine below_set ?_ GE596.out|refine below_set ?_ GE597.out)|exact HB.out));(case side3 => exact Kd.V_mono (Kd.R_V (Kd.R_tight rfl (IsS90.apart HI600.out (Kd.R_types (Kd.R_types (HO606.out) BK596.out (by decide)) BK597.out (by decide)) (by decide)))) (fun k_ hk_ => ⟨hk_,((IsS90.apart HI600.out (Kd.R_types (Kd.R_types (HO606.out) BK596.out (by decide)) BK597.out (by decide)) (by decide)).1 k_ hk_.symm).2⟩));rintro e w16 ⟨v610,rfl,ho0,hi,hb,hk⟩;refine ⟨_,rfl,?_⟩;have n0_:=Aside0.mk (KeepBut.blk hk (g':=gb596) (o:=.cells #[.int .i64 0,.slice none 0 0] 28 (0,0)) (pe_ BK596.out) NB596_600.out (by simp));have n1_:=Aside0.mk (KeepBut.blk hk (g':=gb597) (o:=.cells #[.int .i64 0,.slice none 0 0] 28 (0,0)) (pe_ BK597.out) NB597_600.out (by simp));have n2_:=Aside0.mk (Kd.R_mono (Kd.R_keep (IsS90.apart (show IsS90 w _ g600 t598 t607 from by repeat (first|(with_reducible first|exact HI600.out|apply IsS90.alloc|apply IsS90.drewN|apply IsS90.drew|apply IsS90.set_1|refine IsS90.far ?_ NB600_596.out _|refine IsS90.far ?_ NB600_597.out _)|exact HI600.out)) (pr_ HO606.out) (by decide)) hk (fun _ h => h.2)) (fun _ h => h.1));have n3_:=Aside0.mk (Kd.V_lower (Kd.V_mono (ok':=fun k_ => (w.heap.size ≤ k_) ∧ k_ ≠ gb596 ∧ k_ ≠ gb597 ∧ k_ ≠ g600) ho0 (fun k_ hk_ => ⟨Or.elim hk_ (fun hs_ => ((IsS90.apart HI600.out (Kd.R_types (Kd.R_types (HO606.out) BK596.out (by decide)) BK597.out (by decide)) (by decide)).1 k_ hs_.symm).1.1.1.1) (fun hn_ => (Nat.le_trans (below_size (by repeat (first|(with_reducible first|exact HB.out|apply below_alloc|apply pw_below_drewN|apply below_drew1|refine below_set ?_ (IsS90.ge HI600.out)|refine below_set ?_ GE596.out|refine below_set ?_ GE597.out)|exact HB.out))) hn_)),Or.elim hk_ (fun hs_ => ((IsS90.apart HI600.out (Kd.R_types (Kd.R_types (HO606.out) BK596.out (by decide)) BK597.out (by decide)) (by decide)).1 k_ hs_.symm).1.1.2) (fun hn_ => (Kd.freshB (g:=gb596) (o:=.cells #[.int .i64 0,.slice none 0 0] 28 (0,0)) (pe_ BK596.out) k_ hn_)),Or.elim hk_ (fun hs_ => ((IsS90.apart HI600.out (Kd.R_types (Kd.R_types (HO606.out) BK596.out (by decide)) BK597.out (by decide)) (by decide)).1 k_ hs_.symm).1.2) (fun hn_ => (Kd.freshB (g:=gb597) (o:=.cells #[.int .i64 0,.slice none 0 0] 28 (0,0)) (pe_ BK597.out) k_ hn_)),Or.elim hk_ (fun hs_ => ((IsS90.apart HI600.out (Kd.R_types (Kd.R_types (HO606.out) BK596.out (by decide)) BK597.out (by decide)) (by decide)).1 k_ hs_.symm).2) (fun hn_ => (IsS90.fresh (by repeat (first|(with_reducible first|exact HI600.out|apply IsS90.alloc|apply IsS90.drewN|apply IsS90.drew|apply IsS90.set_1|refine IsS90.far ?_ NB600_596.out _|refine IsS90.far ?_ NB600_597.out _)|exact HI600.out)) k_ hn_))⟩)) (below_size (by repeat (first|(with_reducible first|exact HB.out|apply below_alloc|apply pw_below_drewN|apply below_drew1|refine below_set ?_ (IsS90.ge HI600.out)|refine below_set ?_ GE596.out|refine below_set ?_ GE597.out)|exact HB.out))));have n4_:=Aside0.mk (hb);have n5_:=Aside0.mk (hi);clear BK596;clear BK597;clear HO606;clear HB;clear HI600;have BK596:=n0_;have BK597:=n1_;have HO606:=n2_;have HO611:=n3_;have HB:=n4_;have HI600:=n5_;clear n0_ n1_ n2_ n3_ n4_ n5_;(try clear hb);(try clear hb2);(try clear hk);(try clear hi);(try clear ho0))|((with_reducible refine gate_dst (N:=6) rfl ?_);refine box_event ?hg (N:=6) ?hd (cs:=#[.int .i64 0,.slice none 0 0]) (t:=28) ?hr ?_;(case hd => rfl);(case hg => rfl);(case hr => first|(go_simp;done)|(go_simp;rfl));intro gb613 hg w17 hbox hb;have n0_:=Aside0.mk (Kd.R_below (pr_ HO606.out) hb);have n1_:=Aside0.mk (Kd.V_below (Kd.V_elderB (pv_ HO611.out) gb613 (Nat.le_of_eq hg.symm)) hb);have n2_:=Aside0.mk (blk_below (g:=gb596) (o:=.cells #[.int .i64 0,.slice none 0 0] 28 (0,0)) (pe_ BK596.out) hb);have n3_:=Aside0.mk (blk_below (g:=gb597) (o:=.cells #[.int .i64 0,.slice none 0 0] 28 (0,0)) (pe_ BK597.out) hb);have n4_:=Aside0.mk (IsS90.below (by repeat (first|(with_reducible first|exact HI600.out|apply IsS90.alloc|apply IsS90.drewN|apply IsS90.drew|apply IsS90.set_1|refine IsS90.far ?_ NB600_596.out _|refine IsS90.far ?_ NB600_597.out _)|exact HI600.out)) hb);have n5_:=Aside0.mk (below_step (by repeat (first|(with_reducible first|exact HB.out|apply below_alloc|apply pw_below_drewN|apply below_drew1|refine below_set ?_ (IsS90.ge HI600.out)|refine below_set ?_ GE596.out|refine below_set ?_ GE597.out)|exact HB.out)) hb);have n6_:=Aside0.mk (hbox);have n7_:=Aside0.mk ((by rw [hg];exact (below_size (by repeat (first|(with_reducible first|exact HB.out|apply below_alloc|apply pw_below_drewN|apply below_drew1|refine below_set ?_ (IsS90.ge HI600.out)|refine below_set ?_ GE596.out|refine below_set ?_ GE597.out)|exact HB.out))) : w.heap.size ≤ gb613));have n8_:=Aside0.mk ((by rw [hg];exact (below_size (by repeat (first|(with_reducible first|exact HB.out|apply below_alloc|apply pw_below_drewN|apply below_drew1|refine below_set ?_ (IsS90.ge HI600.out)|refine below_set ?_ GE596.out|refine below_set ?_ GE597.out)|exact HB.out))) : w.heap.size ≤ gb613));have n9_:=Aside0.mk ((by rw [hg];exact Nat.ne_of_lt (blk_lt (g:=gb596) (o:=.cells #[.int .i64 0,.slice none 0 0] 28 (0,0)) (pe_ BK596.out)) : gb596 ≠ gb613));have n10_:=Aside0.mk ((by rw [hg];exact Nat.ne_of_gt (blk_lt (g:=gb596) (o:=.cells #[.int .i64 0,.slice none 0 0] 28 (0,0)) (pe_ BK596.out)) : gb613 ≠ gb596));have n11_:=Aside0.mk ((by rw [hg];exact Nat.ne_of_lt (blk_lt (g:=gb597) (o:=.cells #[.int .i64 0,.slice none 0 0] 28 (0,0)) (pe_ BK597.out)) : gb597 ≠ gb613));have n12_:=Aside0.mk ((by rw [hg];exact Nat.ne_of_gt (blk_lt (g:=gb597) (o:=.cells #[.int .i64 0,.slice none 0 0] 28 (0,0)) (pe_ BK597.out)) : gb613 ≠ gb597));have n13_:=Aside0.mk ((by rw [hg];exact Nat.ne_of_lt (IsS90.lt (show IsS90 w _ g600 t598 t612 from by repeat (first|(with_reducible first|exact HI600.out|apply IsS90.alloc|apply IsS90.drewN|apply IsS90.drew|apply IsS90.set_1|refine IsS90.far ?_ NB600_596.out _|refine IsS90.far ?_ NB600_597.out _)|exact HI600.out))) : g600 ≠ gb613));have n14_:=Aside0.mk ((by rw [hg];exact Nat.ne_of_gt (IsS90.lt (show IsS90 w _ g600 t598 t612 from by repeat (first|(with_reducible first|exact HI600.out|apply IsS90.alloc|apply IsS90.drewN|apply IsS90.drew|apply IsS90.set_1|refine IsS90.far ?_ NB600_596.out _|refine IsS90.far ?_ NB600_597.out _)|exact HI600.out))) : gb613 ≠ g600));clear HO606;clear HO611;clear BK596;clear BK597;clear HI600;clear HB;have HO606:=n0_;have HO611:=n1_;have BK596:=n2_;have BK597:=n3_;have HI600:=n4_;have HB:=n5_;have BK613:=n6_;have GW613:=n7_;have GE613:=n8_;have NB596_613:=n9_;have NB613_596:=n10_;have NB597_613:=n11_;have NB613_597:=n12_;have NB600_613:=n13_;have NB613_600:=n14_;clear n0_ n1_ n2_ n3_ n4_ n5_ n6_ n7_ n8_ n9_ n10_ n11_ n12_ n13_ n14_;clear hb hbox hg;have hnb18:=NB613_596.out;have hnc18:=NB596_613.out;have hnb19:=NB613_597.out;have hnc19:=NB597_613.out;have hnb20:=NB613_600.out;have hnc20:=NB600_613.out;have hcz21_0 : w17.cell? ⟨gb613,0,none⟩ = some (.int .i64 0):=(blk_cell BK613.out 0).trans rfl;have hcz21_1 : w17.cell? ⟨gb613,1,none⟩ = some (.slice none 0 0):=(blk_cell BK613.out 1).trans rfl;have hfz21_0:=blk_frozen BK613.out 0;have hfz21_1:=blk_frozen BK613.out 1;obtain ⟨Ao22,co22,eo22⟩:=Kd.V_slice HO611.out;subst eo22)|((with_reducible refine gate_callee (f:=76) rfl ?_);refine goesL_ (some 18) rfl rfl Try.func76 (by kernel_rfl) rfl #[.pointer (some ⟨g600,0,none⟩),.int .i64 16] rfl lp_ ?_;(with_reducible refine (spec_l13Rd_pick.calls k g600 t598 t612 16 t614 t615 w _ ?side1 ?side2 A6.out).mono ?_);(case side1 => repeat (first|(with_reducible first|exact HI600.out|apply IsS90.alloc|apply IsS90.drewN|apply IsS90.drew|apply IsS90.set_1|refine IsS90.far ?_ NB600_596.out _|refine IsS90.far ?_ NB600_597.out _|refine IsS90.far ?_ NB600_613.out _)|exact HI600.out));(case side2 => repeat (first|(with_reducible first|exact HB.out|apply below_alloc|apply pw_below_drewN|apply below_drew1|refine below_set ?_ (IsS90.ge HI600.out)|refine below_set ?_ GE596.out|refine below_set ?_ GE597.out|refine below_set ?_ GE613.out)|exact HB.out));rintro e w23 ⟨rfl,hi,hb,hk⟩;refine ⟨_,rfl,?_⟩;have n0_:=Aside0.mk (KeepBut.blk hk (g':=gb596) (o:=.cells #[.int .i64 0,.slice none 0 0] 28 (0,0)) (by refine pe_ ?_;refine blk_far ?_ NB596_613.out _;refine pe_ ?_;refine blk_far ?_ NB596_613.out _;refine pe_ ?_;exact BK596.out) NB596_600.out (by simp));have n1_:=Aside0.mk (KeepBut.blk hk (g':=gb597) (o:=.cells #[.int .i64 0,.slice none 0 0] 28 (0,0)) (by refine pe_ ?_;refine blk_far ?_ NB597_613.out _;refine pe_ ?_;refine blk_far ?_ NB597_613.out _;refine pe_ ?_;exact BK597.out) NB597_600.out (by simp));have n2_:=Aside0.mk (Kd.R_mono (Kd.R_keep (IsS90.apart (show IsS90 w _ g600 t598 t612 from by repeat (first|(with_reducible first|exact HI600.out|apply IsS90.alloc|apply IsS90.drewN|apply IsS90.drew|apply IsS90.set_1|refine IsS90.far ?_ NB600_596.out _|refine IsS90.far ?_ NB600_597.out _|refine IsS90.far ?_ NB600_613.out _)|exact HI600.out)) (by refine pr_ ?_;exact (Kd.R_mono (Kd.R_far (p:=⟨gb613,1,none⟩) (Kd.R_far (p:=⟨gb613,0,none⟩) (Kd.R_types HO606.out BK613.out (by decide)) (fun _ hk => hk.2) (.int .i64 t608)) (fun _ hk => hk.2) (.slice Ao22 t609.length co22)) (fun _ h_ => h_.1))) (by decide)) hk (fun _ h => h.2)) (fun _ h => h.1));have n3_:=Aside0.mk (Kd.V_mono (Kd.V_keep (Kd.V_mono (ok:=fun k_ => ((((w.heap.size ≤ k_)) ∧ (k_ ≠ gb596 ∧ (k_ ≠ gb597 ∧ k_ ≠ g600))) ∧ k_ ≠ gb613)) (by refine pv_ ?_;exact (Kd.V_mono (Kd.V_far (p:=⟨gb613,1,none⟩) (Kd.V_far (p:=⟨gb613,0,none⟩) (Kd.V_mono HO611.out (fun k_ hk => (⟨hk,hk.2⟩ : _ ∧ k_ ≠ gb613))) (fun _ hk => hk.2) (.int .i64 t608)) (fun _ hk => hk.2) (.slice Ao22 t609.length co22)) (fun _ h_ => h_.1))) (fun k_ hk_ => (⟨hk_,hk_.1.2.2.2⟩ : _ ∧ k_ ≠ g600))) hk (fun _ h => h.2)) (fun _ h => h.1));have n4_:=Aside0.mk (KeepBut.blk hk (g':=gb613) (o:=.cells #[.int .i64 t608,.slice Ao22 t609.length co22] 28 (0,0)) (by refine pe_ ?_;refine blk_put (cs:=#[.int .i64 t608,.slice none 0 0]) ?_ 1 _ rfl;refine pe_ ?_;refine blk_put (cs:=#[.int .i64 0,.slice none 0 0]) ?_ 0 _ rfl;refine pe_ ?_;exact BK613.out) NB613_600.out (by simp));have n5_:=Aside0.mk (hb);have n6_:=Aside0.mk (hi);clear BK596;clear BK597;clear HO606;clear HO611;clear BK613;clear HB;clear HI600;have BK596:=n0_;have BK597:=n1_;have HO606:=n2_;have HO611:=n3_;have BK613:=n4_;have HB:=n5_;have HI600:=n6_;clear n0_ n1_ n2_ n3_ n4_ n5_ n6_;(try clear hb);(try clear hb2);(try clear hk);(try clear hi))|((with_reducible refine gate_callee (f:=76) rfl ?_);refine goesL_ (some 21) rfl rfl Try.func76 (by kernel_rfl) rfl #[.pointer (some ⟨g600,0,none⟩),.int .i64 4] rfl lp_ ?_;(with_reducible refine (spec_l13Rd_pick.calls k g600 t598 t615 4 t616 t617 w _ ?side1 ?side2 A8.out).mono ?_);(case side1 => repeat (first|(with_reducible first|exact HI600.out|apply IsS90.alloc|apply IsS90.drewN|apply IsS90.drew|apply IsS90.set_1|refine IsS90.far ?_ NB600_596.out _|refine IsS90.far ?_ NB600_597.out _|refine IsS90.far ?_ NB600_613.out _)|exact HI600.out));(case side2 => repeat (first|(with_reducible first|exact HB.out|apply below_alloc|apply pw_below_drewN|apply below_drew1|refine below_set ?_ (IsS90.ge HI600.out)|refine below_set ?_ GE596.out|refine below_set ?_ GE597.out|refine below_set ?_ GE613.out)|exact HB.out));rintro e w24 ⟨rfl,hi,hb,hk⟩;refine ⟨_,rfl,?_⟩;have n0_:=Aside0.mk (KeepBut.blk hk (g':=gb596) (o:=.cells #[.int .i64 0,.slice none 0 0] 28 (0,0)) (pe_ BK596.out) NB596_600.out (by simp));have n1_:=Aside0.mk (KeepBut.blk hk (g':=gb597) (o:=.cells #[.int .i64 0,.slice none 0 0] 28 (0,0)) (pe_ BK597.out) NB597_600.out (by simp));have n2_:=Aside0.mk (Kd.R_mono (Kd.R_keep (IsS90.apart (show IsS90 w _ g600 t598 t615 from by repeat (first|(with_reducible first|exact HI600.out|apply IsS90.alloc|apply IsS90.drewN|apply IsS90.drew|apply IsS90.set_1|refine IsS90.far ?_ NB600_596.out _|refine IsS90.far ?_ NB600_597.out _|refine IsS90.far ?_ NB600_613.out _)|exact HI600.out)) (pr_ HO606.out) (by decide)) hk (fun _ h => h.2)) (fun _ h => h.1));have n3_:=Aside0.mk (Kd.V_mono (Kd.V_keep (Kd.V_mono (ok:=fun k_ => ((((w.heap.size ≤ k_)) ∧ (k_ ≠ gb596 ∧ (k_ ≠ gb597 ∧ k_ ≠ g600))) ∧ k_ ≠ gb613)) (pv_ HO611.out) (fun k_ hk_ => (⟨hk_,hk_.1.2.2.2⟩ : _ ∧ k_ ≠ g600))) hk (fun _ h => h.2)) (fun _ h => h.1));have n4_:=Aside0.mk (KeepBut.blk hk (g':=gb613) (o:=.cells #[.int .i64 t608,.slice Ao22 t609.length co22] 28 (0,0)) (pe_ BK613.out) NB613_600.out (by simp));have n5_:=Aside0.mk (hb);have n6_:=Aside0.mk (hi);clear BK596;clear BK597;clear HO606;clear HO611;clear BK613;clear HB;clear HI600;have BK596:=n0_;have BK597:=n1_;have HO606:=n2_;have HO611:=n3_;have BK613:=n4_;have HB:=n5_;have HI600:=n6_;clear n0_ n1_ n2_ n3_ n4_ n5_ n6_;(try clear hb);(try clear hb2);(try clear hk);(try clear hi)))
  have n0_:=Aside0.mk (Kd.R_drew HO606.out)
  have n1_:=Aside0.mk (Kd.V_drew HO611.out)
  have n2_:=Aside0.mk (blk_drew BK596.out)
  have n3_:=Aside0.mk (blk_drew BK597.out)
  have n4_:=Aside0.mk (blk_drew BK613.out)
  have n5_:=Aside0.mk (IsS90.drew HI600.out)
  have n6_:=Aside0.mk (below_drew1 HB.out)
  clear HO606
  clear HO611
  clear BK596
  clear BK597
  clear BK613
  clear HI600
  clear HB
  have HO606:=n0_
  have HO611:=n1_
  have BK596:=n2_
  have BK597:=n3_
  have BK613:=n4_
  have HI600:=n5_
  have HB:=n6_
  clear n0_ n1_ n2_ n3_ n4_ n5_ n6_
  refine start_ (n:=6) (S:=fun w' => w'.cell? ⟨gb613,0,none⟩ = some (.int .i64 t608) ∧ w'.cell? ⟨gb613,1,none⟩ = some (.slice Ao22 t609.length co22)) (ds:=[]) #[false,false,false,false,false,false] (by kernel_rfl) rfl rfl ⟨(blk_cell BK613.out 0).trans rfl,(blk_cell BK613.out 1).trans rfl⟩ (fun hHeld => ?_)
  generalize w24.drew = w25 at HO606 HO611 BK596 BK597 BK613 HI600 HB hHeld ⊢
  refine pure_ (i:=1) (N:=some 24) (v:=?_) (a':=?_) #[false,true,false,false,false,false] rfl rfl (by kernel_rfl) (fun _ _ _ h => h) (Or.inl ⟨by rfl,?_⟩) ?_ ?_
  rotate_left
  ·intro w'
   go_simp
   with_reducible rfl
  rotate_left
  ·simp only [Act.put,List.setIfInBounds_toArray,List.set_cons_zero,List.set_cons_succ,i64_w,i32_w]
   rfl
  refine pure_ (i:=2) (N:=some 25) (v:=?_) (a':=?_) #[false,true,true,false,false,false] rfl rfl (by kernel_rfl) (fun _ _ _ h => h) (Or.inl ⟨by rfl,?_⟩) ?_ ?_
  rotate_left
  ·intro w'
   go_simp
   with_reducible rfl
  rotate_left
  ·simp only [Act.put,List.setIfInBounds_toArray,List.set_cons_zero,List.set_cons_succ,i64_w,i32_w]
   rfl
  refine take_ (i:=0) (N:=some 23) (v:=?_) (a':=?_) #[true,true,true,false,false,false] rfl rfl (by kernel_rfl) (fun _ _ _ h => h) (Or.inl ⟨by rfl,?_⟩) hHeld ?_ ?_
  rotate_left
  ·rintro w' ⟨s0,s1⟩
   go_simp
   with_reducible rfl
  rotate_left
  ·simp only [Act.put,List.setIfInBounds_toArray,List.set_cons_zero,List.set_cons_succ,i64_w,i32_w]
   rfl
  refine one_ (i:=3) (N:=some 26) #[true,true,true,true,false,false] rfl rfl (by kernel_rfl) (by decide) (fun K hK => ?_)
  refine goes_ Try.func78 (by kernel_rfl) rfl #[.pointer (some ⟨g600,0,none⟩),.int .i64 (wrap64 (1 + t616))] (by rfl) rfl rfl lp_ ?_
  with_reducible refine (spec_l6Draw.calls k g600 t598 t617 (wrap64 (1 + t616)) t618 t619 t622 w _ ?side1 ?side2 A9.out).mono ?_
  (case side1 => repeat (first|(with_reducible first|exact HI600.out|apply IsS90.alloc|apply IsS90.drewN|apply IsS90.drew|apply IsS90.set_1|refine IsS90.far ?_ NB600_596.out _|refine IsS90.far ?_ NB600_597.out _|refine IsS90.far ?_ NB600_613.out _)|exact HI600.out))
  (case side2 => repeat (first|(with_reducible first|exact HB.out|apply below_alloc|apply pw_below_drewN|apply below_drew1|refine below_set ?_ (IsS90.ge HI600.out)|refine below_set ?_ GE596.out|refine below_set ?_ GE597.out|refine below_set ?_ GE613.out)|exact HB.out))
  rintro e w26 ⟨v620,rfl,ho0,hi,hb,hk⟩
  refine ⟨_,rfl,?_⟩
  have n0_:=Aside0.mk (KeepBut.blk hk (g':=gb596) (o:=.cells #[.int .i64 0,.slice none 0 0] 28 (0,0)) (pe_ BK596.out) NB596_600.out (by simp))
  have n1_:=Aside0.mk (KeepBut.blk hk (g':=gb597) (o:=.cells #[.int .i64 0,.slice none 0 0] 28 (0,0)) (pe_ BK597.out) NB597_600.out (by simp))
  have n2_:=Aside0.mk (Kd.R_mono (Kd.R_told (Kd.R_oldK (IsS90.apart (show IsS90 w _ g600 t598 t617 from by repeat (first|(with_reducible first|exact HI600.out|apply IsS90.alloc|apply IsS90.drewN|apply IsS90.drew|apply IsS90.set_1|refine IsS90.far ?_ NB600_596.out _|refine IsS90.far ?_ NB600_597.out _|refine IsS90.far ?_ NB600_613.out _)|exact HI600.out)) (pr_ HO606.out) (by decide)) hk) (Kd.R_base ho0)) (fun _ h_ => h_.1))
  have n3_:=Aside0.mk (Kd.V_mono (Kd.V_told (Kd.V_oldK (Kd.V_mono (ok:=fun k_ => ((((w.heap.size ≤ k_)) ∧ (k_ ≠ gb596 ∧ (k_ ≠ gb597 ∧ k_ ≠ g600))) ∧ k_ ≠ gb613)) (pv_ HO611.out) (fun k_ hk_ => (⟨hk_,hk_.1.2.2.2⟩ : _ ∧ k_ ≠ g600))) hk) (Kd.R_base ho0)) (fun _ h_ => h_.1))
  have n4_:=Aside0.mk (KeepBut.blk hk (g':=gb613) (o:=.cells #[.int .i64 t608,.slice Ao22 t609.length co22] 28 (0,0)) (pe_ BK613.out) NB613_600.out (by simp))
  have n5_:=Aside0.mk (Kd.R_lower (Kd.R_new' (Kd.R_newM (M:=fun k_ => (w.heap.size ≤ k_)) ho0 (below_size (by repeat (first|(with_reducible first|exact HB.out|apply below_alloc|apply pw_below_drewN|apply below_drew1|refine below_set ?_ (IsS90.ge HI600.out)|refine below_set ?_ GE596.out|refine below_set ?_ GE597.out|refine below_set ?_ GE613.out)|exact HB.out))) (fun k_ h_ => h_)) (Kd.R_lt (pr_ HO606.out))) (below_size (by repeat (first|(with_reducible first|exact HB.out|apply below_alloc|apply pw_below_drewN|apply below_drew1|refine below_set ?_ (IsS90.ge HI600.out)|refine below_set ?_ GE596.out|refine below_set ?_ GE597.out|refine below_set ?_ GE613.out)|exact HB.out))))
  have n6_:=Aside0.mk (hb)
  have n7_:=Aside0.mk (hi)
  clear BK596
  clear BK597
  clear HO606
  clear HO611
  clear BK613
  clear HB
  clear HI600
  have BK596:=n0_
  have BK597:=n1_
  have HO606:=n2_
  have HO611:=n3_
  have BK613:=n4_
  have HO621:=n5_
  have HB:=n6_
  have HI600:=n7_
  clear n0_ n1_ n2_ n3_ n4_ n5_ n6_ n7_
  (try clear hb)
  (try clear hb2)
  (try clear hk)
  (try clear hi)
  (try clear ho0)
  obtain ⟨Ao30,co30,eo30⟩:=Kd.R_slice HO621.out
  (first|subst eo30|(injection eo30 with f1_ f2_ f3_;have f4_:=f1_.symm;have f5_:=f3_.symm;clear f1_ f2_ f3_;subst f4_;subst f5_))
  refine hK.out _ _ ⟨(blk_cell BK613.out 0).trans rfl,(blk_cell BK613.out 1).trans rfl⟩ (fun hHeld => ?_)
  clear hK K
  refine norm_ (a':=?_) ?_ ?_
  rotate_left
  ·show Act.put _ (some 26) _ = _
   simp only [Act.put,List.setIfInBounds_toArray,List.set_cons_zero,List.set_cons_succ,i64_w,i32_w]
   rfl
  refine one_ (i:=4) (N:=none) #[true,true,true,true,true,false] rfl rfl (by kernel_rfl) (by decide) (fun K hK => ?_)
  have hs27 : w26.cell? ⟨gb596,0,none⟩ = some (.int .i64 0):=(blk_cell BK596.out 0).trans rfl
  have hfs27:=blk_frozen BK596.out 0
  have hns27_1:=NB597_596.out
  have hns27_2:=NB613_596.out
  have hms27_1:=NB596_597.out
  have hms27_2:=NB596_613.out
  have hs28 : w26.cell? ⟨gb596,1,none⟩ = some (.slice none 0 0):=(blk_cell BK596.out 1).trans rfl
  have hfs28:=blk_frozen BK596.out 1
  have hns28_1:=NB597_596.out
  have hns28_2:=NB613_596.out
  have hms28_1:=NB596_597.out
  have hms28_2:=NB596_613.out
  refine skip_ (w1:=?_) (by rfl) rfl ?_ ?_
  rotate_left
  ·go_simp
   rfl
  refine hK.out _ _ ⟨((cell_far (p:=⟨gb596,_,none⟩) NB613_596.out _).trans (((cell_far (p:=⟨gb596,_,none⟩) NB613_596.out _).trans (hHeld.1)))),((cell_far (p:=⟨gb596,_,none⟩) NB613_596.out _).trans (((cell_far (p:=⟨gb596,_,none⟩) NB613_596.out _).trans (hHeld.2))))⟩ (fun hHeld => ?_)
  clear hK K
  refine one_ (i:=5) (N:=none) #[true,true,true,true,true,true] rfl rfl (by kernel_rfl) (by decide) (fun K hK => ?_)
  have hs29 : w26.cell? ⟨gb597,0,none⟩ = some (.int .i64 0):=(blk_cell BK597.out 0).trans rfl
  have hfs29:=blk_frozen BK597.out 0
  have hns29_0:=NB596_597.out
  have hns29_2:=NB613_597.out
  have hms29_0:=NB597_596.out
  have hms29_2:=NB597_613.out
  have hs31 : w26.cell? ⟨gb597,1,none⟩ = some (.slice none 0 0):=(blk_cell BK597.out 1).trans rfl
  have hfs31:=blk_frozen BK597.out 1
  have hns31_0:=NB596_597.out
  have hns31_2:=NB613_597.out
  have hms31_0:=NB597_596.out
  have hms31_2:=NB597_613.out
  refine skip_ (w1:=?_) (by rfl) rfl ?_ ?_
  rotate_left
  ·go_simp
   rfl
  refine hK.out _ _ ⟨((cell_far (p:=⟨gb597,_,none⟩) NB613_597.out _).trans (((cell_far (p:=⟨gb597,_,none⟩) NB613_597.out _).trans (hHeld.1)))),((cell_far (p:=⟨gb597,_,none⟩) NB613_597.out _).trans (((cell_far (p:=⟨gb597,_,none⟩) NB613_597.out _).trans (hHeld.2))))⟩ (fun hHeld => ?_)
  clear hK K
  refine done_ (by kernel_rfl) ?_
  try go_wp2
  refine bodyPost_ret (results_cc rfl _ _ gb596 gb597 28 28 #[.int .i64 t608,.slice Ao22 t609.length co22] #[.int .i64 t618,.slice Ao30 t619.length co30] (0,0) (0,0) _ _ rfl (by refine pe_ ?_;refine blk_far ?_ NB596_597.out _;refine pe_ ?_;refine blk_far ?_ NB596_597.out _;refine pe_ ?_;refine blk_put (cs:=#[.int .i64 t608,.slice none 0 0]) ?_ 1 _ rfl;refine pe_ ?_;refine blk_put (cs:=#[.int .i64 0,.slice none 0 0]) ?_ 0 _ rfl;refine pe_ ?_;exact BK596.out) Try.underlying28 rfl (by kernel_rfl) rfl (by refine pe_ ?_;refine blk_put (cs:=#[.int .i64 t618,.slice none 0 0]) ?_ 1 _ rfl;refine pe_ ?_;refine blk_put (cs:=#[.int .i64 0,.slice none 0 0]) ?_ 0 _ rfl;refine pe_ ?_;refine blk_far ?_ NB597_596.out _;refine pe_ ?_;refine blk_far ?_ NB597_596.out _;refine pe_ ?_;exact BK597.out) Try.underlying28 rfl (by kernel_rfl)) rfl ?_
  exact ⟨_,_,by first|rfl|(simp [errW_none,errW_some] <;> rfl)|(simp [*,errW_none,errW_some] <;> rfl),by refine pv_ ?_;exact Kd.V_mono (Kd.V_far (p:=⟨gb597,1,none⟩) (Kd.V_far (p:=⟨gb597,0,none⟩) (Kd.V_far (p:=⟨gb596,1,none⟩) (Kd.V_far (p:=⟨gb596,0,none⟩) (Kd.V_mono (Kd.V_mono HO611.out (fun k_ hk => (⟨hk,hk.1.1.2.1⟩ : _ ∧ k_ ≠ gb596))) (fun k_ hk => (⟨hk,hk.1.1.1.2.2.1⟩ : _ ∧ k_ ≠ gb597))) (fun _ hk => hk.1.2) (.int .i64 t608)) (fun _ hk => hk.1.2) (.slice Ao22 t609.length co22)) (fun _ hk => hk.2) (.int .i64 t618)) (fun _ hk => hk.2) (.slice Ao30 t619.length co30)) (fun _ hk => ⟨hk.1.1.1.1.1,hk.1.1.2⟩),by refine pr_ ?_;exact Kd.R_mono (Kd.R_far (p:=⟨gb597,1,none⟩) (Kd.R_far (p:=⟨gb597,0,none⟩) (Kd.R_far (p:=⟨gb596,1,none⟩) (Kd.R_far (p:=⟨gb596,0,none⟩) (Kd.R_types (Kd.R_types HO621.out BK596.out (by decide)) BK597.out (by decide)) (fun _ hk => hk.1.2) (.int .i64 t608)) (fun _ hk => hk.1.2) (.slice Ao22 t609.length co22)) (fun _ hk => hk.2) (.int .i64 t618)) (fun _ hk => hk.2) (.slice Ao30 t619.length co30)) (fun _ hk => hk.1.1.1.1),by repeat (first|(with_reducible first|exact HB.out|apply below_alloc|apply pw_below_drewN|apply below_drew1|refine below_set ?_ (IsS90.ge HI600.out)|refine below_set ?_ GE596.out|refine below_set ?_ GE597.out|refine below_set ?_ GE613.out)|exact HB.out)⟩
 ·rw [if_neg c7] at H
  have c7b0 : (t614 == 0) = false:=beq_eq_false_iff_ne.mpr c7
  have c7b1 : (t614 != 0) = true:=bne_iff_ne.mpr c7
  replace H:=Option.bind_eq_some_iff.mp H
  obtain ⟨⟨t623,t624,t627⟩,A320,H⟩:=H
  replace H : (some (t608,t609,t623,t624)) = some (r1,r2,r3,r4):=H
  have A32:=Aside0.mk A320
  clear A320
  simp only [Option.some.injEq,Prod.mk.injEq] at H
  obtain ⟨rfl,rfl,rfl,rfl⟩:=H
  go_enter Try.func34,Try.ntmps34
  try go_wp2_with (first|((with_reducible refine gate_dst (N:=2) rfl ?_);refine box_event ?hg (N:=2) ?hd (cs:=#[.int .i64 0,.slice none 0 0]) (t:=28) ?hr ?_;(case hd => rfl);(case hg => rfl);(case hr => first|(go_simp;done)|(go_simp;rfl));intro gb596 hg w33 hbox hb;have n0_:=Aside0.mk (below_step (be0_ HB.out) hb);have n1_:=Aside0.mk (hbox);have n2_:=Aside0.mk ((by rw [hg];exact (below_size (be0_ HB.out)) : w.heap.size ≤ gb596));have n3_:=Aside0.mk ((by rw [hg];exact (below_size (be0_ HB.out)) : w.heap.size ≤ gb596));clear HB;have HB:=n0_;have BK596:=n1_;have GW596:=n2_;have GE596:=n3_;clear n0_ n1_ n2_ n3_;clear hb hbox hg)|((with_reducible refine gate_dst (N:=3) rfl ?_);refine box_event ?hg (N:=3) ?hd (cs:=#[.int .i64 0,.slice none 0 0]) (t:=28) ?hr ?_;(case hd => rfl);(case hg => rfl);(case hr => first|(go_simp;done)|(go_simp;rfl));intro gb597 hg w34 hbox hb;have n0_:=Aside0.mk (blk_below (g:=gb596) (o:=.cells #[.int .i64 0,.slice none 0 0] 28 (0,0)) (pe_ BK596.out) hb);have n1_:=Aside0.mk (below_step (be1_ HB.out GE596.out) hb);have n2_:=Aside0.mk (hbox);have n3_:=Aside0.mk ((by rw [hg];exact (below_size (be1_ HB.out GE596.out)) : w.heap.size ≤ gb597));have n4_:=Aside0.mk ((by rw [hg];exact (below_size (be1_ HB.out GE596.out)) : w.heap.size ≤ gb597));have n5_:=Aside0.mk ((by rw [hg];exact Nat.ne_of_lt (blk_lt (g:=gb596) (o:=.cells #[.int .i64 0,.slice none 0 0] 28 (0,0)) (pe_ BK596.out)) : gb596 ≠ gb597));have n6_:=Aside0.mk ((by rw [hg];exact Nat.ne_of_gt (blk_lt (g:=gb596) (o:=.cells #[.int .i64 0,.slice none 0 0] 28 (0,0)) (pe_ BK596.out)) : gb597 ≠ gb596));clear BK596;clear HB;have BK596:=n0_;have HB:=n1_;have BK597:=n2_;have GW597:=n3_;have GE597:=n4_;have NB596_597:=n5_;have NB597_596:=n6_;clear n0_ n1_ n2_ n3_ n4_ n5_ n6_;clear hb hbox hg)|((with_reducible refine gate_callee (f:=71) rfl ?_);refine goesL_ (some 8) rfl rfl Try.func71 (by kernel_rfl) rfl #[.slice A0 l0.length c0] rfl lp_ ?_;(with_reducible refine (spec_l13Open.calls _ _ l0 t598 t599 w _ ?side1 ?side2 ?side3 A2.out).mono ?_);(case side1 => repeat (first|(with_reducible first|exact HB.out|apply below_alloc|apply pw_below_drewN|apply below_drew1|refine below_set ?_ GE596.out|refine below_set ?_ GE597.out)|exact HB.out));(case side2 => exact HR0.out);(case side3 => exact HC0.out);rintro e w35 ⟨g600,rfl,hi,hb,hb2⟩;refine ⟨_,rfl,?_⟩;have n0_:=Aside0.mk (blk_below (g:=gb596) (o:=.cells #[.int .i64 0,.slice none 0 0] 28 (0,0)) (pe_ BK596.out) hb2);have n1_:=Aside0.mk (blk_below (g:=gb597) (o:=.cells #[.int .i64 0,.slice none 0 0] 28 (0,0)) (pe_ BK597.out) hb2);have n2_:=Aside0.mk (hb);have n3_:=Aside0.mk (hi);have n4_:=Aside0.mk (IsS90.ne_blk hi (blk_below (g:=gb596) (o:=.cells #[.int .i64 0,.slice none 0 0] 28 (0,0)) (pe_ BK596.out) hb2) (by decide));have n5_:=Aside0.mk (Ne.symm (IsS90.ne_blk hi (blk_below (g:=gb596) (o:=.cells #[.int .i64 0,.slice none 0 0] 28 (0,0)) (pe_ BK596.out) hb2) (by decide)));have n6_:=Aside0.mk (IsS90.ne_blk hi (blk_below (g:=gb597) (o:=.cells #[.int .i64 0,.slice none 0 0] 28 (0,0)) (pe_ BK597.out) hb2) (by decide));have n7_:=Aside0.mk (Ne.symm (IsS90.ne_blk hi (blk_below (g:=gb597) (o:=.cells #[.int .i64 0,.slice none 0 0] 28 (0,0)) (pe_ BK597.out) hb2) (by decide)));clear BK596;clear BK597;clear HB;have BK596:=n0_;have BK597:=n1_;have HB:=n2_;have HI600:=n3_;have NB600_596:=n4_;have NB596_600:=n5_;have NB600_597:=n6_;have NB597_600:=n7_;clear n0_ n1_ n2_ n3_ n4_ n5_ n6_ n7_;(try clear hb);(try clear hb2);(try clear hk);(try clear hi))|((with_reducible refine gate_callee (f:=76) rfl ?_);refine goesL_ (some 10) rfl rfl Try.func76 (by kernel_rfl) rfl #[.pointer (some ⟨g600,0,none⟩),.int .i64 4] rfl lp_ ?_;(with_reducible refine (spec_l13Rd_pick.calls k g600 t598 t599 4 t601 t602 w _ ?side1 ?side2 A3.out).mono ?_);(case side1 => repeat (first|(with_reducible first|exact HI600.out|apply IsS90.alloc|apply IsS90.drewN|apply IsS90.drew|apply IsS90.set_1|refine IsS90.far ?_ NB600_596.out _|refine IsS90.far ?_ NB600_597.out _)|exact HI600.out));(case side2 => repeat (first|(with_reducible first|exact HB.out|apply below_alloc|apply pw_below_drewN|apply below_drew1|refine below_set ?_ (IsS90.ge HI600.out)|refine below_set ?_ GE596.out|refine below_set ?_ GE597.out)|exact HB.out));rintro e w36 ⟨rfl,hi,hb,hk⟩;refine ⟨_,rfl,?_⟩;have n0_:=Aside0.mk (KeepBut.blk hk (g':=gb596) (o:=.cells #[.int .i64 0,.slice none 0 0] 28 (0,0)) (pe_ BK596.out) NB596_600.out (by simp));have n1_:=Aside0.mk (KeepBut.blk hk (g':=gb597) (o:=.cells #[.int .i64 0,.slice none 0 0] 28 (0,0)) (pe_ BK597.out) NB597_600.out (by simp));have n2_:=Aside0.mk (hb);have n3_:=Aside0.mk (hi);clear BK596;clear BK597;clear HB;clear HI600;have BK596:=n0_;have BK597:=n1_;have HB:=n2_;have HI600:=n3_;clear n0_ n1_ n2_ n3_;(try clear hb);(try clear hb2);(try clear hk);(try clear hi))|((with_reducible refine gate_callee (f:=78) rfl ?_);refine goesL_ (some 15) rfl rfl Try.func78 (by kernel_rfl) rfl #[.pointer (some ⟨g600,0,none⟩),.int .i64 (wrap64 (1 + t601))] rfl lp_ ?_;(with_reducible refine (spec_l6Draw.calls k g600 t598 t602 (wrap64 (1 + t601)) t603 t604 t607 w _ ?side1 ?side2 A4.out).mono ?_);(case side1 => repeat (first|(with_reducible first|exact HI600.out|apply IsS90.alloc|apply IsS90.drewN|apply IsS90.drew|apply IsS90.set_1|refine IsS90.far ?_ NB600_596.out _|refine IsS90.far ?_ NB600_597.out _)|exact HI600.out));(case side2 => repeat (first|(with_reducible first|exact HB.out|apply below_alloc|apply pw_below_drewN|apply below_drew1|refine below_set ?_ (IsS90.ge HI600.out)|refine below_set ?_ GE596.out|refine below_set ?_ GE597.out)|exact HB.out));rintro e w37 ⟨v605,rfl,ho0,hi,hb,hk⟩;refine ⟨_,rfl,?_⟩;have n0_:=Aside0.mk (KeepBut.blk hk (g':=gb596) (o:=.cells #[.int .i64 0,.slice none 0 0] 28 (0,0)) (pe_ BK596.out) NB596_600.out (by simp));have n1_:=Aside0.mk (KeepBut.blk hk (g':=gb597) (o:=.cells #[.int .i64 0,.slice none 0 0] 28 (0,0)) (pe_ BK597.out) NB597_600.out (by simp));have n2_:=Aside0.mk (Kd.R_lower (Kd.R_newM (M:=fun k_ => (w.heap.size ≤ k_)) ho0 (below_size (by repeat (first|(with_reducible first|exact HB.out|apply below_alloc|apply pw_below_drewN|apply below_drew1|refine below_set ?_ (IsS90.ge HI600.out)|refine below_set ?_ GE596.out|refine below_set ?_ GE597.out)|exact HB.out))) (fun k_ h_ => h_)) (below_size (by repeat (first|(with_reducible first|exact HB.out|apply below_alloc|apply pw_below_drewN|apply below_drew1|refine below_set ?_ (IsS90.ge HI600.out)|refine below_set ?_ GE596.out|refine below_set ?_ GE597.out)|exact HB.out))));have n3_:=Aside0.mk (hb);have n4_:=Aside0.mk (hi);clear BK596;clear BK597;clear HB;clear HI600;have BK596:=n0_;have BK597:=n1_;have HO606:=n2_;have HB:=n3_;have HI600:=n4_;clear n0_ n1_ n2_ n3_ n4_;(try clear hb);(try clear hb2);(try clear hk);(try clear hi);(try clear ho0);obtain ⟨Ao38,co38,eo38⟩:=Kd.R_slice HO606.out;subst eo38)|((with_reducible refine gate_callee (f:=77) rfl ?_);refine goesL_ (some 16) rfl rfl Try.func77 (by kernel_rfl) rfl #[.pointer (some ⟨g600,0,none⟩),.agg #[.int .i64 t603,.slice Ao38 t604.length co38]] rfl lp_ ?_;(with_reducible refine (spec_l6Bad.calls k g600 t598 t607 t603 (fun k_ => some k_ = (.slice Ao38 t604.length co38 : Value).ownBlock) _ _ t604 t608 t609 t612 w _ ?side1 ?side2 ?side3 A5.out).mono ?_);(case side1 => repeat (first|(with_reducible first|exact HI600.out|apply IsS90.alloc|apply IsS90.drewN|apply IsS90.drew|apply IsS90.set_1|refine IsS90.far ?_ NB600_596.out _|refine IsS90.far ?_ NB600_597.out _)|exact HI600.out));(case side2 => repeat (first|(with_reducible first|exact HB.out|apply below_alloc|apply pw_below_drewN|apply below_drew1|refine below_set ?_ (IsS90.ge HI600.out)|refine below_set ?_ GE596.out|refine below_set ?_ GE597.out)|exact HB.out));(case side3 => exact Kd.V_mono (Kd.R_V (Kd.R_tight rfl (IsS90.apart HI600.out (Kd.R_types (Kd.R_types (HO606.out) BK596.out (by decide)) BK597.out (by decide)) (by decide)))) (fun k_ hk_ => ⟨hk_,((IsS90.apart HI600.out (Kd.R_types (Kd.R_types (HO606.out) BK596.out (by decide)) BK597.out (by decide)) (by decide)).1 k_ hk_.symm).2⟩));rintro e w39 ⟨v610,rfl,ho0,hi,hb,hk⟩;refine ⟨_,rfl,?_⟩;have n0_:=Aside0.mk (KeepBut.blk hk (g':=gb596) (o:=.cells #[.int .i64 0,.slice none 0 0] 28 (0,0)) (pe_ BK596.out) NB596_600.out (by simp));have n1_:=Aside0.mk (KeepBut.blk hk (g':=gb597) (o:=.cells #[.int .i64 0,.slice none 0 0] 28 (0,0)) (pe_ BK597.out) NB597_600.out (by simp));have n2_:=Aside0.mk (Kd.R_mono (Kd.R_keep (IsS90.apart (show IsS90 w _ g600 t598 t607 from by repeat (first|(with_reducible first|exact HI600.out|apply IsS90.alloc|apply IsS90.drewN|apply IsS90.drew|apply IsS90.set_1|refine IsS90.far ?_ NB600_596.out _|refine IsS90.far ?_ NB600_597.out _)|exact HI600.out)) (pr_ HO606.out) (by decide)) hk (fun _ h => h.2)) (fun _ h => h.1));have n3_:=Aside0.mk (Kd.V_lower (Kd.V_mono (ok':=fun k_ => (w.heap.size ≤ k_) ∧ k_ ≠ gb596 ∧ k_ ≠ gb597 ∧ k_ ≠ g600) ho0 (fun k_ hk_ => ⟨Or.elim hk_ (fun hs_ => ((IsS90.apart HI600.out (Kd.R_types (Kd.R_types (HO606.out) BK596.out (by decide)) BK597.out (by decide)) (by decide)).1 k_ hs_.symm).1.1.1.1) (fun hn_ => (Nat.le_trans (below_size (by repeat (first|(with_reducible first|exact HB.out|apply below_alloc|apply pw_below_drewN|apply below_drew1|refine below_set ?_ (IsS90.ge HI600.out)|refine below_set ?_ GE596.out|refine below_set ?_ GE597.out)|exact HB.out))) hn_)),Or.elim hk_ (fun hs_ => ((IsS90.apart HI600.out (Kd.R_types (Kd.R_types (HO606.out) BK596.out (by decide)) BK597.out (by decide)) (by decide)).1 k_ hs_.symm).1.1.2) (fun hn_ => (Kd.freshB (g:=gb596) (o:=.cells #[.int .i64 0,.slice none 0 0] 28 (0,0)) (pe_ BK596.out) k_ hn_)),Or.elim hk_ (fun hs_ => ((IsS90.apart HI600.out (Kd.R_types (Kd.R_types (HO606.out) BK596.out (by decide)) BK597.out (by decide)) (by decide)).1 k_ hs_.symm).1.2) (fun hn_ => (Kd.freshB (g:=gb597) (o:=.cells #[.int .i64 0,.slice none 0 0] 28 (0,0)) (pe_ BK597.out) k_ hn_)),Or.elim hk_ (fun hs_ => ((IsS90.apart HI600.out (Kd.R_types (Kd.R_types (HO606.out) BK596.out (by decide)) BK597.out (by decide)) (by decide)).1 k_ hs_.symm).2) (fun hn_ => (IsS90.fresh (by repeat (first|(with_reducible first|exact HI600.out|apply IsS90.alloc|apply IsS90.drewN|apply IsS90.drew|apply IsS90.set_1|refine IsS90.far ?_ NB600_596.out _|refine IsS90.far ?_ NB600_597.out _)|exact HI600.out)) k_ hn_))⟩)) (below_size (by repeat (first|(with_reducible first|exact HB.out|apply below_alloc|apply pw_below_drewN|apply below_drew1|refine below_set ?_ (IsS90.ge HI600.out)|refine below_set ?_ GE596.out|refine below_set ?_ GE597.out)|exact HB.out))));have n4_:=Aside0.mk (hb);have n5_:=Aside0.mk (hi);clear BK596;clear BK597;clear HO606;clear HB;clear HI600;have BK596:=n0_;have BK597:=n1_;have HO606:=n2_;have HO611:=n3_;have HB:=n4_;have HI600:=n5_;clear n0_ n1_ n2_ n3_ n4_ n5_;(try clear hb);(try clear hb2);(try clear hk);(try clear hi);(try clear ho0))|((with_reducible refine gate_dst (N:=6) rfl ?_);refine box_event ?hg (N:=6) ?hd (cs:=#[.int .i64 0,.slice none 0 0]) (t:=28) ?hr ?_;(case hd => rfl);(case hg => rfl);(case hr => first|(go_simp;done)|(go_simp;rfl));intro gb613 hg w40 hbox hb;have n0_:=Aside0.mk (Kd.R_below (pr_ HO606.out) hb);have n1_:=Aside0.mk (Kd.V_below (Kd.V_elderB (pv_ HO611.out) gb613 (Nat.le_of_eq hg.symm)) hb);have n2_:=Aside0.mk (blk_below (g:=gb596) (o:=.cells #[.int .i64 0,.slice none 0 0] 28 (0,0)) (pe_ BK596.out) hb);have n3_:=Aside0.mk (blk_below (g:=gb597) (o:=.cells #[.int .i64 0,.slice none 0 0] 28 (0,0)) (pe_ BK597.out) hb);have n4_:=Aside0.mk (IsS90.below (by repeat (first|(with_reducible first|exact HI600.out|apply IsS90.alloc|apply IsS90.drewN|apply IsS90.drew|apply IsS90.set_1|refine IsS90.far ?_ NB600_596.out _|refine IsS90.far ?_ NB600_597.out _)|exact HI600.out)) hb);have n5_:=Aside0.mk (below_step (by repeat (first|(with_reducible first|exact HB.out|apply below_alloc|apply pw_below_drewN|apply below_drew1|refine below_set ?_ (IsS90.ge HI600.out)|refine below_set ?_ GE596.out|refine below_set ?_ GE597.out)|exact HB.out)) hb);have n6_:=Aside0.mk (hbox);have n7_:=Aside0.mk ((by rw [hg];exact (below_size (by repeat (first|(with_reducible first|exact HB.out|apply below_alloc|apply pw_below_drewN|apply below_drew1|refine below_set ?_ (IsS90.ge HI600.out)|refine below_set ?_ GE596.out|refine below_set ?_ GE597.out)|exact HB.out))) : w.heap.size ≤ gb613));have n8_:=Aside0.mk ((by rw [hg];exact (below_size (by repeat (first|(with_reducible first|exact HB.out|apply below_alloc|apply pw_below_drewN|apply below_drew1|refine below_set ?_ (IsS90.ge HI600.out)|refine below_set ?_ GE596.out|refine below_set ?_ GE597.out)|exact HB.out))) : w.heap.size ≤ gb613));have n9_:=Aside0.mk ((by rw [hg];exact Nat.ne_of_lt (blk_lt (g:=gb596) (o:=.cells #[.int .i64 0,.slice none 0 0] 28 (0,0)) (pe_ BK596.out)) : gb596 ≠ gb613));have n10_:=Aside0.mk ((by rw [hg];exact Nat.ne_of_gt (blk_lt (g:=gb596) (o:=.cells #[.int .i64 0,.slice none 0 0] 28 (0,0)) (pe_ BK596.out)) : gb613 ≠ gb596));have n11_:=Aside0.mk ((by rw [hg];exact Nat.ne_of_lt (blk_lt (g:=gb597) (o:=.cells #[.int .i64 0,.slice none 0 0] 28 (0,0)) (pe_ BK597.out)) : gb597 ≠ gb613));have n12_:=Aside0.mk ((by rw [hg];exact Nat.ne_of_gt (blk_lt (g:=gb597) (o:=.cells #[.int .i64 0,.slice none 0 0] 28 (0,0)) (pe_ BK597.out)) : gb613 ≠ gb597));have n13_:=Aside0.mk ((by rw [hg];exact Nat.ne_of_lt (IsS90.lt (show IsS90 w _ g600 t598 t612 from by repeat (first|(with_reducible first|exact HI600.out|apply IsS90.alloc|apply IsS90.drewN|apply IsS90.drew|apply IsS90.set_1|refine IsS90.far ?_ NB600_596.out _|refine IsS90.far ?_ NB600_597.out _)|exact HI600.out))) : g600 ≠ gb613));have n14_:=Aside0.mk ((by rw [hg];exact Nat.ne_of_gt (IsS90.lt (show IsS90 w _ g600 t598 t612 from by repeat (first|(with_reducible first|exact HI600.out|apply IsS90.alloc|apply IsS90.drewN|apply IsS90.drew|apply IsS90.set_1|refine IsS90.far ?_ NB600_596.out _|refine IsS90.far ?_ NB600_597.out _)|exact HI600.out))) : gb613 ≠ g600));clear HO606;clear HO611;clear BK596;clear BK597;clear HI600;clear HB;have HO606:=n0_;have HO611:=n1_;have BK596:=n2_;have BK597:=n3_;have HI600:=n4_;have HB:=n5_;have BK613:=n6_;have GW613:=n7_;have GE613:=n8_;have NB596_613:=n9_;have NB613_596:=n10_;have NB597_613:=n11_;have NB613_597:=n12_;have NB600_613:=n13_;have NB613_600:=n14_;clear n0_ n1_ n2_ n3_ n4_ n5_ n6_ n7_ n8_ n9_ n10_ n11_ n12_ n13_ n14_;clear hb hbox hg;have hnb41:=NB613_596.out;have hnc41:=NB596_613.out;have hnb42:=NB613_597.out;have hnc42:=NB597_613.out;have hnb43:=NB613_600.out;have hnc43:=NB600_613.out;have hcz44_0 : w40.cell? ⟨gb613,0,none⟩ = some (.int .i64 0):=(blk_cell BK613.out 0).trans rfl;have hcz44_1 : w40.cell? ⟨gb613,1,none⟩ = some (.slice none 0 0):=(blk_cell BK613.out 1).trans rfl;have hfz44_0:=blk_frozen BK613.out 0;have hfz44_1:=blk_frozen BK613.out 1;obtain ⟨Ao45,co45,eo45⟩:=Kd.V_slice HO611.out;subst eo45)|((with_reducible refine gate_callee (f:=76) rfl ?_);refine goesL_ (some 18) rfl rfl Try.func76 (by kernel_rfl) rfl #[.pointer (some ⟨g600,0,none⟩),.int .i64 16] rfl lp_ ?_;(with_reducible refine (spec_l13Rd_pick.calls k g600 t598 t612 16 t614 t615 w _ ?side1 ?side2 A6.out).mono ?_);(case side1 => repeat (first|(with_reducible first|exact HI600.out|apply IsS90.alloc|apply IsS90.drewN|apply IsS90.drew|apply IsS90.set_1|refine IsS90.far ?_ NB600_596.out _|refine IsS90.far ?_ NB600_597.out _|refine IsS90.far ?_ NB600_613.out _)|exact HI600.out));(case side2 => repeat (first|(with_reducible first|exact HB.out|apply below_alloc|apply pw_below_drewN|apply below_drew1|refine below_set ?_ (IsS90.ge HI600.out)|refine below_set ?_ GE596.out|refine below_set ?_ GE597.out|refine below_set ?_ GE613.out)|exact HB.out));rintro e w46 ⟨rfl,hi,hb,hk⟩;refine ⟨_,rfl,?_⟩;have n0_:=Aside0.mk (KeepBut.blk hk (g':=gb596) (o:=.cells #[.int .i64 0,.slice none 0 0] 28 (0,0)) (by refine pe_ ?_;refine blk_far ?_ NB596_613.out _;refine pe_ ?_;refine blk_far ?_ NB596_613.out _;refine pe_ ?_;exact BK596.out) NB596_600.out (by simp));have n1_:=Aside0.mk (KeepBut.blk hk (g':=gb597) (o:=.cells #[.int .i64 0,.slice none 0 0] 28 (0,0)) (by refine pe_ ?_;refine blk_far ?_ NB597_613.out _;refine pe_ ?_;refine blk_far ?_ NB597_613.out _;refine pe_ ?_;exact BK597.out) NB597_600.out (by simp));have n2_:=Aside0.mk (Kd.R_mono (Kd.R_keep (IsS90.apart (show IsS90 w _ g600 t598 t612 from by repeat (first|(with_reducible first|exact HI600.out|apply IsS90.alloc|apply IsS90.drewN|apply IsS90.drew|apply IsS90.set_1|refine IsS90.far ?_ NB600_596.out _|refine IsS90.far ?_ NB600_597.out _|refine IsS90.far ?_ NB600_613.out _)|exact HI600.out)) (by refine pr_ ?_;exact (Kd.R_mono (Kd.R_far (p:=⟨gb613,1,none⟩) (Kd.R_far (p:=⟨gb613,0,none⟩) (Kd.R_types HO606.out BK613.out (by decide)) (fun _ hk => hk.2) (.int .i64 t608)) (fun _ hk => hk.2) (.slice Ao45 t609.length co45)) (fun _ h_ => h_.1))) (by decide)) hk (fun _ h => h.2)) (fun _ h => h.1));have n3_:=Aside0.mk (Kd.V_mono (Kd.V_keep (Kd.V_mono (ok:=fun k_ => ((((w.heap.size ≤ k_)) ∧ (k_ ≠ gb596 ∧ (k_ ≠ gb597 ∧ k_ ≠ g600))) ∧ k_ ≠ gb613)) (by refine pv_ ?_;exact (Kd.V_mono (Kd.V_far (p:=⟨gb613,1,none⟩) (Kd.V_far (p:=⟨gb613,0,none⟩) (Kd.V_mono HO611.out (fun k_ hk => (⟨hk,hk.2⟩ : _ ∧ k_ ≠ gb613))) (fun _ hk => hk.2) (.int .i64 t608)) (fun _ hk => hk.2) (.slice Ao45 t609.length co45)) (fun _ h_ => h_.1))) (fun k_ hk_ => (⟨hk_,hk_.1.2.2.2⟩ : _ ∧ k_ ≠ g600))) hk (fun _ h => h.2)) (fun _ h => h.1));have n4_:=Aside0.mk (KeepBut.blk hk (g':=gb613) (o:=.cells #[.int .i64 t608,.slice Ao45 t609.length co45] 28 (0,0)) (by refine pe_ ?_;refine blk_put (cs:=#[.int .i64 t608,.slice none 0 0]) ?_ 1 _ rfl;refine pe_ ?_;refine blk_put (cs:=#[.int .i64 0,.slice none 0 0]) ?_ 0 _ rfl;refine pe_ ?_;exact BK613.out) NB613_600.out (by simp));have n5_:=Aside0.mk (hb);have n6_:=Aside0.mk (hi);clear BK596;clear BK597;clear HO606;clear HO611;clear BK613;clear HB;clear HI600;have BK596:=n0_;have BK597:=n1_;have HO606:=n2_;have HO611:=n3_;have BK613:=n4_;have HB:=n5_;have HI600:=n6_;clear n0_ n1_ n2_ n3_ n4_ n5_ n6_;(try clear hb);(try clear hb2);(try clear hk);(try clear hi)))
  have n0_:=Aside0.mk (Kd.R_drew HO606.out)
  have n1_:=Aside0.mk (Kd.V_drew HO611.out)
  have n2_:=Aside0.mk (blk_drew BK596.out)
  have n3_:=Aside0.mk (blk_drew BK597.out)
  have n4_:=Aside0.mk (blk_drew BK613.out)
  have n5_:=Aside0.mk (IsS90.drew HI600.out)
  have n6_:=Aside0.mk (below_drew1 HB.out)
  clear HO606
  clear HO611
  clear BK596
  clear BK597
  clear BK613
  clear HI600
  clear HB
  have HO606:=n0_
  have HO611:=n1_
  have BK596:=n2_
  have BK597:=n3_
  have BK613:=n4_
  have HI600:=n5_
  have HB:=n6_
  clear n0_ n1_ n2_ n3_ n4_ n5_ n6_
  refine start_ (n:=6) (S:=fun w' => w'.cell? ⟨gb613,0,none⟩ = some (.int .i64 t608) ∧ w'.cell? ⟨gb613,1,none⟩ = some (.slice Ao45 t609.length co45)) (ds:=[]) #[false,false,false,false,false,false] (by kernel_rfl) rfl rfl ⟨(blk_cell BK613.out 0).trans rfl,(blk_cell BK613.out 1).trans rfl⟩ (fun hHeld => ?_)
  generalize w46.drew = w47 at HO606 HO611 BK596 BK597 BK613 HI600 HB hHeld ⊢
  refine pure_ (i:=1) (N:=some 24) (v:=?_) (a':=?_) #[false,true,false,false,false,false] rfl rfl (by kernel_rfl) (fun _ _ _ h => h) (Or.inl ⟨by rfl,?_⟩) ?_ ?_
  rotate_left
  ·intro w'
   go_simp
   with_reducible rfl
  rotate_left
  ·simp only [Act.put,List.setIfInBounds_toArray,List.set_cons_zero,List.set_cons_succ,i64_w,i32_w]
   rfl
  refine pure_ (i:=2) (N:=some 25) (v:=?_) (a':=?_) #[false,true,true,false,false,false] rfl rfl (by kernel_rfl) (fun _ _ _ h => h) (Or.inl ⟨by rfl,?_⟩) ?_ ?_
  rotate_left
  ·intro w'
   go_simp
   with_reducible rfl
  rotate_left
  ·simp only [Act.put,List.setIfInBounds_toArray,List.set_cons_zero,List.set_cons_succ,i64_w,i32_w]
   rfl
  refine take_ (i:=0) (N:=some 23) (v:=?_) (a':=?_) #[true,true,true,false,false,false] rfl rfl (by kernel_rfl) (fun _ _ _ h => h) (Or.inl ⟨by rfl,?_⟩) hHeld ?_ ?_
  rotate_left
  ·rintro w' ⟨s0,s1⟩
   go_simp
   with_reducible rfl
  rotate_left
  ·simp only [Act.put,List.setIfInBounds_toArray,List.set_cons_zero,List.set_cons_succ,i64_w,i32_w]
   rfl
  refine one_ (i:=3) (N:=some 26) #[true,true,true,true,false,false] rfl rfl (by kernel_rfl) (by decide) (fun K hK => ?_)
  refine goes_ Try.func78 (by kernel_rfl) rfl #[.pointer (some ⟨g600,0,none⟩),.int .i64 (wrap64 (1 + t601))] (by rfl) rfl rfl lp_ ?_
  with_reducible refine (spec_l6Draw.calls k g600 t598 t615 (wrap64 (1 + t601)) t623 t624 t627 w _ ?side1 ?side2 A32.out).mono ?_
  (case side1 => repeat (first|(with_reducible first|exact HI600.out|apply IsS90.alloc|apply IsS90.drewN|apply IsS90.drew|apply IsS90.set_1|refine IsS90.far ?_ NB600_596.out _|refine IsS90.far ?_ NB600_597.out _|refine IsS90.far ?_ NB600_613.out _)|exact HI600.out))
  (case side2 => repeat (first|(with_reducible first|exact HB.out|apply below_alloc|apply pw_below_drewN|apply below_drew1|refine below_set ?_ (IsS90.ge HI600.out)|refine below_set ?_ GE596.out|refine below_set ?_ GE597.out|refine below_set ?_ GE613.out)|exact HB.out))
  rintro e w48 ⟨v625,rfl,ho0,hi,hb,hk⟩
  refine ⟨_,rfl,?_⟩
  have n0_:=Aside0.mk (KeepBut.blk hk (g':=gb596) (o:=.cells #[.int .i64 0,.slice none 0 0] 28 (0,0)) (pe_ BK596.out) NB596_600.out (by simp))
  have n1_:=Aside0.mk (KeepBut.blk hk (g':=gb597) (o:=.cells #[.int .i64 0,.slice none 0 0] 28 (0,0)) (pe_ BK597.out) NB597_600.out (by simp))
  have n2_:=Aside0.mk (Kd.R_mono (Kd.R_told (Kd.R_oldK (IsS90.apart (show IsS90 w _ g600 t598 t615 from by repeat (first|(with_reducible first|exact HI600.out|apply IsS90.alloc|apply IsS90.drewN|apply IsS90.drew|apply IsS90.set_1|refine IsS90.far ?_ NB600_596.out _|refine IsS90.far ?_ NB600_597.out _|refine IsS90.far ?_ NB600_613.out _)|exact HI600.out)) (pr_ HO606.out) (by decide)) hk) (Kd.R_base ho0)) (fun _ h_ => h_.1))
  have n3_:=Aside0.mk (Kd.V_mono (Kd.V_told (Kd.V_oldK (Kd.V_mono (ok:=fun k_ => ((((w.heap.size ≤ k_)) ∧ (k_ ≠ gb596 ∧ (k_ ≠ gb597 ∧ k_ ≠ g600))) ∧ k_ ≠ gb613)) (pv_ HO611.out) (fun k_ hk_ => (⟨hk_,hk_.1.2.2.2⟩ : _ ∧ k_ ≠ g600))) hk) (Kd.R_base ho0)) (fun _ h_ => h_.1))
  have n4_:=Aside0.mk (KeepBut.blk hk (g':=gb613) (o:=.cells #[.int .i64 t608,.slice Ao45 t609.length co45] 28 (0,0)) (pe_ BK613.out) NB613_600.out (by simp))
  have n5_:=Aside0.mk (Kd.R_lower (Kd.R_new' (Kd.R_newM (M:=fun k_ => (w.heap.size ≤ k_)) ho0 (below_size (by repeat (first|(with_reducible first|exact HB.out|apply below_alloc|apply pw_below_drewN|apply below_drew1|refine below_set ?_ (IsS90.ge HI600.out)|refine below_set ?_ GE596.out|refine below_set ?_ GE597.out|refine below_set ?_ GE613.out)|exact HB.out))) (fun k_ h_ => h_)) (Kd.R_lt (pr_ HO606.out))) (below_size (by repeat (first|(with_reducible first|exact HB.out|apply below_alloc|apply pw_below_drewN|apply below_drew1|refine below_set ?_ (IsS90.ge HI600.out)|refine below_set ?_ GE596.out|refine below_set ?_ GE597.out|refine below_set ?_ GE613.out)|exact HB.out))))
  have n6_:=Aside0.mk (hb)
  have n7_:=Aside0.mk (hi)
  clear BK596
  clear BK597
  clear HO606
  clear HO611
  clear BK613
  clear HB
  clear HI600
  have BK596:=n0_
  have BK597:=n1_
  have HO606:=n2_
  have HO611:=n3_
  have BK613:=n4_
  have HO626:=n5_
  have HB:=n6_
  have HI600:=n7_
  clear n0_ n1_ n2_ n3_ n4_ n5_ n6_ n7_
  (try clear hb)
  (try clear hb2)
  (try clear hk)
  (try clear hi)
  (try clear ho0)
  obtain ⟨Ao52,co52,eo52⟩:=Kd.R_slice HO626.out
  (first|subst eo52|(injection eo52 with f1_ f2_ f3_;have f4_:=f1_.symm;have f5_:=f3_.symm;clear f1_ f2_ f3_;subst f4_;subst f5_))
  refine hK.out _ _ ⟨(blk_cell BK613.out 0).trans rfl,(blk_cell BK613.out 1).trans rfl⟩ (fun hHeld => ?_)
  clear hK K
  refine norm_ (a':=?_) ?_ ?_
  rotate_left
  ·show Act.put _ (some 26) _ = _
   simp only [Act.put,List.setIfInBounds_toArray,List.set_cons_zero,List.set_cons_succ,i64_w,i32_w]
   rfl
  refine one_ (i:=4) (N:=none) #[true,true,true,true,true,false] rfl rfl (by kernel_rfl) (by decide) (fun K hK => ?_)
  have hs49 : w48.cell? ⟨gb596,0,none⟩ = some (.int .i64 0):=(blk_cell BK596.out 0).trans rfl
  have hfs49:=blk_frozen BK596.out 0
  have hns49_1:=NB597_596.out
  have hns49_2:=NB613_596.out
  have hms49_1:=NB596_597.out
  have hms49_2:=NB596_613.out
  have hs50 : w48.cell? ⟨gb596,1,none⟩ = some (.slice none 0 0):=(blk_cell BK596.out 1).trans rfl
  have hfs50:=blk_frozen BK596.out 1
  have hns50_1:=NB597_596.out
  have hns50_2:=NB613_596.out
  have hms50_1:=NB596_597.out
  have hms50_2:=NB596_613.out
  refine skip_ (w1:=?_) (by rfl) rfl ?_ ?_
  rotate_left
  ·go_simp
   rfl
  refine hK.out _ _ ⟨((cell_far (p:=⟨gb596,_,none⟩) NB613_596.out _).trans (((cell_far (p:=⟨gb596,_,none⟩) NB613_596.out _).trans (hHeld.1)))),((cell_far (p:=⟨gb596,_,none⟩) NB613_596.out _).trans (((cell_far (p:=⟨gb596,_,none⟩) NB613_596.out _).trans (hHeld.2))))⟩ (fun hHeld => ?_)
  clear hK K
  refine one_ (i:=5) (N:=none) #[true,true,true,true,true,true] rfl rfl (by kernel_rfl) (by decide) (fun K hK => ?_)
  have hs51 : w48.cell? ⟨gb597,0,none⟩ = some (.int .i64 0):=(blk_cell BK597.out 0).trans rfl
  have hfs51:=blk_frozen BK597.out 0
  have hns51_0:=NB596_597.out
  have hns51_2:=NB613_597.out
  have hms51_0:=NB597_596.out
  have hms51_2:=NB597_613.out
  have hs53 : w48.cell? ⟨gb597,1,none⟩ = some (.slice none 0 0):=(blk_cell BK597.out 1).trans rfl
  have hfs53:=blk_frozen BK597.out 1
  have hns53_0:=NB596_597.out
  have hns53_2:=NB613_597.out
  have hms53_0:=NB597_596.out
  have hms53_2:=NB597_613.out
  refine skip_ (w1:=?_) (by rfl) rfl ?_ ?_
  rotate_left
  ·go_simp
   rfl
  refine hK.out _ _ ⟨((cell_far (p:=⟨gb597,_,none⟩) NB613_597.out _).trans (((cell_far (p:=⟨gb597,_,none⟩) NB613_597.out _).trans (hHeld.1)))),((cell_far (p:=⟨gb597,_,none⟩) NB613_597.out _).trans (((cell_far (p:=⟨gb597,_,none⟩) NB613_597.out _).trans (hHeld.2))))⟩ (fun hHeld => ?_)
  clear hK K
  refine done_ (by kernel_rfl) ?_
  try go_wp2
  refine bodyPost_ret (results_cc rfl _ _ gb596 gb597 28 28 #[.int .i64 t608,.slice Ao45 t609.length co45] #[.int .i64 t623,.slice Ao52 t624.length co52] (0,0) (0,0) _ _ rfl (by refine pe_ ?_;refine blk_far ?_ NB596_597.out _;refine pe_ ?_;refine blk_far ?_ NB596_597.out _;refine pe_ ?_;refine blk_put (cs:=#[.int .i64 t608,.slice none 0 0]) ?_ 1 _ rfl;refine pe_ ?_;refine blk_put (cs:=#[.int .i64 0,.slice none 0 0]) ?_ 0 _ rfl;refine pe_ ?_;exact BK596.out) Try.underlying28 rfl (by kernel_rfl) rfl (by refine pe_ ?_;refine blk_put (cs:=#[.int .i64 t623,.slice none 0 0]) ?_ 1 _ rfl;refine pe_ ?_;refine blk_put (cs:=#[.int .i64 0,.slice none 0 0]) ?_ 0 _ rfl;refine pe_ ?_;refine blk_far ?_ NB597_596.out _;refine pe_ ?_;refine blk_far ?_ NB597_596.out _;refine pe_ ?_;exact BK597.out) Try.underlying28 rfl (by kernel_rfl)) rfl ?_
  exact ⟨_,_,by first|rfl|(simp [errW_none,errW_some] <;> rfl)|(simp [*,errW_none,errW_some] <;> rfl),by refine pv_ ?_;exact Kd.V_mono (Kd.V_far (p:=⟨gb597,1,none⟩) (Kd.V_far (p:=⟨gb597,0,none⟩) (Kd.V_far (p:=⟨gb596,1,none⟩) (Kd.V_far (p:=⟨gb596,0,none⟩) (Kd.V_mono (Kd.V_mono HO611.out (fun k_ hk => (⟨hk,hk.1.1.2.1⟩ : _ ∧ k_ ≠ gb596))) (fun k_ hk => (⟨hk,hk.1.1.1.2.2.1⟩ : _ ∧ k_ ≠ gb597))) (fun _ hk => hk.1.2) (.int .i64 t608)) (fun _ hk => hk.1.2) (.slice Ao45 t609.length co45)) (fun _ hk => hk.2) (.int .i64 t623)) (fun _ hk => hk.2) (.slice Ao52 t624.length co52)) (fun _ hk => ⟨hk.1.1.1.1.1,hk.1.1.2⟩),by refine pr_ ?_;exact Kd.R_mono (Kd.R_far (p:=⟨gb597,1,none⟩) (Kd.R_far (p:=⟨gb597,0,none⟩) (Kd.R_far (p:=⟨gb596,1,none⟩) (Kd.R_far (p:=⟨gb596,0,none⟩) (Kd.R_types (Kd.R_types HO626.out BK596.out (by decide)) BK597.out (by decide)) (fun _ hk => hk.1.2) (.int .i64 t608)) (fun _ hk => hk.1.2) (.slice Ao45 t609.length co45)) (fun _ hk => hk.2) (.int .i64 t623)) (fun _ hk => hk.2) (.slice Ao52 t624.length co52)) (fun _ hk => hk.1.1.1.1),by repeat (first|(with_reducible first|exact HB.out|apply below_alloc|apply pw_below_drewN|apply below_drew1|refine below_set ?_ (IsS90.ge HI600.out)|refine below_set ?_ GE596.out|refine below_set ?_ GE597.out|refine below_set ?_ GE613.out)|exact HB.out)⟩
end Go.Proofs.Ytengegdaiphfeaa.X
end
section
namespace Go.Proofs.Ytengegdaiphfeaa.X
open Go.RowKit Go.Proofs.YtengegdaiphfeaaW.PrintWords Go.Proofs.YtengegdaiphfeaaW.PrintLast Go.Proofs.YtengegdaiphfeaaW.PrintMore
attribute [local go_sem] max2_int min2_int max_two min_two max_three min_three max_four min_four
set_option linter.unusedVariables false
set_option linter.unusedSimpArgs false
def spec_MulGrades.f (k : Nat) (a0_0 : Int) (l0_1 : List Int) (a1_0 : Int) (l1_1 : List Int) : Option (Int × List Int × Bool):=(spec_GradesValid.f k a0_0 l0_1).bind fun t341 => (if t341 = true then ((spec_GradesValid.f k a1_0 l1_1).bind fun t342 => (if t342 = true then (if a0_0 = a1_0 then ((spec_l6Mul.f k a0_0 l0_1 a1_0 l1_1).bind fun bt343 => (some (bt343.1,bt343.2,true))) else (some (0,([] : List Int),false))) else (some (0,([] : List Int),false)))) else (some (0,([] : List Int),false)))
theorem spec_MulGrades.mono : ∀ a0 a1 a2 a3 k,LeO (spec_MulGrades.f k a0 a1 a2 a3) (spec_MulGrades.f (k + 1) a0 a1 a2 a3):=by
 intro a0 a1 a2 a3 k
 unfold spec_MulGrades.f
 repeat' first
   | (with_reducible exact spec_GradesValid.mono _ _ _)
   | (with_reducible exact spec_l6Mul.mono _ _ _ _ _)
   | (with_reducible exact LeO.refl _)
   | (with_reducible exact LeO.none _)
   | (with_reducible refine LeO.ite ?_ ?_)
   | (with_reducible refine LeO.bind ?_ (fun _ => ?_))
   | exact spec_GradesValid.mono _ _ _
   | exact spec_l6Mul.mono _ _ _ _ _
   | exact LeO.none _
   | refine LeO.ite ?_ ?_
   | refine LeO.bind ?_ (fun _ => ?_)
set_option maxHeartbeats 8000000 in
set_option maxRecDepth 100000 in
theorem spec_MulGrades.calls (k : Nat) (a0_0 : Int) (A0_1 : Option Addr) (c0_1 : Nat) (l0_1 : List Int) (a1_0 : Int) (A1_1 : Option Addr) (c1_1 : Nat) (l1_1 : List Int) (r1 : Int) (r2 : List Int) (r3 : Bool) (w : World) (hr0_1 : Kd.C (Kd.int .i64) w A0_1 l0_1.length l0_1) (hc0_1 : l0_1.length ≤ c0_1) (hr1_1 : Kd.C (Kd.int .i64) w A1_1 l1_1.length l1_1) (hc1_1 : l1_1.length ≤ c1_1) (h : spec_MulGrades.f k a0_0 l0_1 a1_0 l1_1 = some (r1,r2,r3)) :
  Calls Try.prog 26 #[.agg #[.int .i64 a0_0,.slice A0_1 l0_1.length c0_1],.agg #[.int .i64 a1_0,.slice A1_1 l1_1.length c1_1]] w fun e w' => ∃ v1_ : Value,e = .returned (.tuple #[.agg #[.int .i64 r1,v1_],.bool r3]) ∧ Kd.R (Kd.int .i64) 3 w' w.heap.size (fun _ => True) v1_ r2 ∧ Below w.heap.size w w':=by
 have hu28:=Try.underlying28
 have HR0_1:=Aside0.mk hr0_1
 have HC0_1:=Aside0.mk hc0_1
 clear hr0_1 hc0_1
 have HR1_1:=Aside0.mk hr1_1
 have HC1_1:=Aside0.mk hc1_1
 clear hr1_1 hc1_1
 have HB:=Aside0.mk (Below.refl w.heap.size w)
 have H : ((spec_GradesValid.f k a0_0 l0_1).bind fun t341 => (if t341 = true then ((spec_GradesValid.f k a1_0 l1_1).bind fun t342 => (if t342 = true then (if a0_0 = a1_0 then ((spec_l6Mul.f k a0_0 l0_1 a1_0 l1_1).bind fun bt343 => (some (bt343.1,bt343.2,true))) else (some (0,([] : List Int),false))) else (some (0,([] : List Int),false)))) else (some (0,([] : List Int),false)))) = some (r1,r2,r3):=h
 clear h
 replace H:=Option.bind_eq_some_iff.mp H
 obtain ⟨t341,A30,H⟩:=H
 replace H : (if t341 = true then ((spec_GradesValid.f k a1_0 l1_1).bind fun t342 => (if t342 = true then (if a0_0 = a1_0 then ((spec_l6Mul.f k a0_0 l0_1 a1_0 l1_1).bind fun bt343 => (some (bt343.1,bt343.2,true))) else (some (0,([] : List Int),false))) else (some (0,([] : List Int),false)))) else (some (0,([] : List Int),false))) = some (r1,r2,r3):=H
 have A3:=Aside0.mk A30
 clear A30
 by_cases c4 : t341 = true
 ·subst c4
  have H1 : ((spec_GradesValid.f k a1_0 l1_1).bind fun t342 => (if t342 = true then (if a0_0 = a1_0 then ((spec_l6Mul.f k a0_0 l0_1 a1_0 l1_1).bind fun bt343 => (some (bt343.1,bt343.2,true))) else (some (0,([] : List Int),false))) else (some (0,([] : List Int),false)))) = some (r1,r2,r3):=by rw [if_pos rfl] at H;exact H
  clear H
  have H:=H1
  clear H1
  replace H:=Option.bind_eq_some_iff.mp H
  obtain ⟨t342,A50,H⟩:=H
  replace H : (if t342 = true then (if a0_0 = a1_0 then ((spec_l6Mul.f k a0_0 l0_1 a1_0 l1_1).bind fun bt343 => (some (bt343.1,bt343.2,true))) else (some (0,([] : List Int),false))) else (some (0,([] : List Int),false))) = some (r1,r2,r3):=H
  have A5:=Aside0.mk A50
  clear A50
  by_cases c6 : t342 = true
  ·subst c6
   have H1 : (if a0_0 = a1_0 then ((spec_l6Mul.f k a0_0 l0_1 a1_0 l1_1).bind fun bt343 => (some (bt343.1,bt343.2,true))) else (some (0,([] : List Int),false))) = some (r1,r2,r3):=by rw [if_pos rfl] at H;exact H
   clear H
   have H:=H1
   clear H1
   by_cases c7 : a0_0 = a1_0
   ·rw [if_pos c7] at H
    have c7b0 : (a0_0 == a1_0) = true:=beq_iff_eq.mpr c7
    have c7b1 : (a0_0 != a1_0) = false:=bne_eq_false_iff_eq.mpr c7
    clear c7
    replace H:=Option.bind_eq_some_iff.mp H
    obtain ⟨⟨t343,t344⟩,A80,H⟩:=H
    replace H : (some (t343,t344,true)) = some (r1,r2,r3):=H
    have A8:=Aside0.mk A80
    clear A80
    simp only [Option.some.injEq,Prod.mk.injEq] at H
    obtain ⟨rfl,rfl,rfl⟩:=H
    go_enter Try.func26,Try.ntmps26
    go_wp2_with (first|((with_reducible refine gate_dst (N:=2) rfl ?_);refine box_event ?hg (N:=2) ?hd (cs:=#[.int .i64 a0_0,.slice A0_1 l0_1.length c0_1]) (t:=28) ?hr ?_;(case hd => rfl);(case hg => rfl);(case hr => first|(go_simp;done)|(go_simp;rfl));intro gb338 hg w9 hbox hb;have n0_:=Aside0.mk (below_step (be0_ HB.out) hb);have n1_:=Aside0.mk (hbox);have n2_:=Aside0.mk ((by rw [hg];exact (below_size (be0_ HB.out)) : w.heap.size ≤ gb338));have n3_:=Aside0.mk ((by rw [hg];exact (below_size (be0_ HB.out)) : w.heap.size ≤ gb338));clear HB;have HB:=n0_;have BK338:=n1_;have GW338:=n2_;have GE338:=n3_;clear n0_ n1_ n2_ n3_;clear hb hbox hg)|((with_reducible refine gate_dst (N:=3) rfl ?_);refine box_event ?hg (N:=3) ?hd (cs:=#[.int .i64 a1_0,.slice A1_1 l1_1.length c1_1]) (t:=28) ?hr ?_;(case hd => rfl);(case hg => rfl);(case hr => first|(go_simp;done)|(go_simp;rfl));intro gb339 hg w10 hbox hb;have n0_:=Aside0.mk (blk_below (g:=gb338) (o:=.cells #[.int .i64 a0_0,.slice A0_1 l0_1.length c0_1] 28 (0,0)) (pe_ BK338.out) hb);have n1_:=Aside0.mk (below_step (be1_ HB.out GE338.out) hb);have n2_:=Aside0.mk (hbox);have n3_:=Aside0.mk ((by rw [hg];exact (below_size (be1_ HB.out GE338.out)) : w.heap.size ≤ gb339));have n4_:=Aside0.mk ((by rw [hg];exact (below_size (be1_ HB.out GE338.out)) : w.heap.size ≤ gb339));have n5_:=Aside0.mk ((by rw [hg];exact Nat.ne_of_lt (blk_lt (g:=gb338) (o:=.cells #[.int .i64 a0_0,.slice A0_1 l0_1.length c0_1] 28 (0,0)) (pe_ BK338.out)) : gb338 ≠ gb339));have n6_:=Aside0.mk ((by rw [hg];exact Nat.ne_of_gt (blk_lt (g:=gb338) (o:=.cells #[.int .i64 a0_0,.slice A0_1 l0_1.length c0_1] 28 (0,0)) (pe_ BK338.out)) : gb339 ≠ gb338));clear BK338;clear HB;have BK338:=n0_;have HB:=n1_;have BK339:=n2_;have GW339:=n3_;have GE339:=n4_;have NB338_339:=n5_;have NB339_338:=n6_;clear n0_ n1_ n2_ n3_ n4_ n5_ n6_;clear hb hbox hg)|((with_reducible refine gate_dst (N:=4) rfl ?_);refine box_event ?hg (N:=4) ?hd (cs:=#[.int .i64 0,.slice none 0 0]) (t:=28) ?hr ?_;(case hd => rfl);(case hg => rfl);(case hr => first|(go_simp;done)|(go_simp;rfl));intro gb340 hg w11 hbox hb;have n0_:=Aside0.mk (blk_below (g:=gb338) (o:=.cells #[.int .i64 a0_0,.slice A0_1 l0_1.length c0_1] 28 (0,0)) (pe_ BK338.out) hb);have n1_:=Aside0.mk (blk_below (g:=gb339) (o:=.cells #[.int .i64 a1_0,.slice A1_1 l1_1.length c1_1] 28 (0,0)) (pe_ BK339.out) hb);have n2_:=Aside0.mk (below_step (be2_ HB.out GE338.out GE339.out) hb);have n3_:=Aside0.mk (hbox);have n4_:=Aside0.mk ((by rw [hg];exact (below_size (be2_ HB.out GE338.out GE339.out)) : w.heap.size ≤ gb340));have n5_:=Aside0.mk ((by rw [hg];exact (below_size (be2_ HB.out GE338.out GE339.out)) : w.heap.size ≤ gb340));have n6_:=Aside0.mk ((by rw [hg];exact Nat.ne_of_lt (blk_lt (g:=gb338) (o:=.cells #[.int .i64 a0_0,.slice A0_1 l0_1.length c0_1] 28 (0,0)) (pe_ BK338.out)) : gb338 ≠ gb340));have n7_:=Aside0.mk ((by rw [hg];exact Nat.ne_of_gt (blk_lt (g:=gb338) (o:=.cells #[.int .i64 a0_0,.slice A0_1 l0_1.length c0_1] 28 (0,0)) (pe_ BK338.out)) : gb340 ≠ gb338));have n8_:=Aside0.mk ((by rw [hg];exact Nat.ne_of_lt (blk_lt (g:=gb339) (o:=.cells #[.int .i64 a1_0,.slice A1_1 l1_1.length c1_1] 28 (0,0)) (pe_ BK339.out)) : gb339 ≠ gb340));have n9_:=Aside0.mk ((by rw [hg];exact Nat.ne_of_gt (blk_lt (g:=gb339) (o:=.cells #[.int .i64 a1_0,.slice A1_1 l1_1.length c1_1] 28 (0,0)) (pe_ BK339.out)) : gb340 ≠ gb339));clear BK338;clear BK339;clear HB;have BK338:=n0_;have BK339:=n1_;have HB:=n2_;have BK340:=n3_;have GW340:=n4_;have GE340:=n5_;have NB338_340:=n6_;have NB340_338:=n7_;have NB339_340:=n8_;have NB340_339:=n9_;clear n0_ n1_ n2_ n3_ n4_ n5_ n6_ n7_ n8_ n9_;clear hb hbox hg;have hnb12:=NB338_339.out;have hnc12:=NB339_338.out;have hnb13:=NB338_340.out;have hnc13:=NB340_338.out;have hcz14_0 : w11.cell? ⟨gb338,0,none⟩ = some (.int .i64 a0_0):=(blk_cell BK338.out 0).trans rfl;have hcz14_1 : w11.cell? ⟨gb338,1,none⟩ = some (.slice A0_1 l0_1.length c0_1):=(blk_cell BK338.out 1).trans rfl;have hfz14_0:=blk_frozen BK338.out 0;have hfz14_1:=blk_frozen BK338.out 1)|((with_reducible refine gate_callee (f:=65) rfl ?_);refine goesL_ (some 7) rfl rfl Try.func65 (by kernel_rfl) rfl #[.agg #[.int .i64 a0_0,.slice A0_1 l0_1.length c0_1]] rfl lp_ ?_;(with_reducible refine (spec_GradesValid.calls k a0_0 _ _ l0_1 true _ ?side1 ?side2 A3.out).mono ?_);(case side1 => repeat (first|exact (Kd.C_below HR0_1.out HB.out)|(with_reducible refine Kd.C_alloc ?_ _)|(with_reducible refine Kd.C_drewN ?_ _)|(with_reducible refine Kd.C_drew ?_)));(case side2 => exact HC0_1.out);rintro e w15 ⟨rfl,hb⟩;refine ⟨_,rfl,?_⟩;have n0_:=Aside0.mk (blk_below (g:=gb338) (o:=.cells #[.int .i64 a0_0,.slice A0_1 l0_1.length c0_1] 28 (0,0)) (pe_ BK338.out) hb);have n1_:=Aside0.mk (blk_below (g:=gb339) (o:=.cells #[.int .i64 a1_0,.slice A1_1 l1_1.length c1_1] 28 (0,0)) (pe_ BK339.out) hb);have n2_:=Aside0.mk (blk_below (g:=gb340) (o:=.cells #[.int .i64 0,.slice none 0 0] 28 (0,0)) (pe_ BK340.out) hb);have n3_:=Aside0.mk (below_step (be3_ HB.out GE338.out GE339.out GE340.out) hb);clear BK338;clear BK339;clear BK340;clear HB;have BK338:=n0_;have BK339:=n1_;have BK340:=n2_;have HB:=n3_;clear n0_ n1_ n2_ n3_;(try clear hb);(try clear hb2);(try clear hk);(try clear hi);have hnb16:=NB339_340.out;have hnc16:=NB340_339.out;have hcz17_0 : w15.cell? ⟨gb339,0,none⟩ = some (.int .i64 a1_0):=(blk_cell BK339.out 0).trans rfl;have hcz17_1 : w15.cell? ⟨gb339,1,none⟩ = some (.slice A1_1 l1_1.length c1_1):=(blk_cell BK339.out 1).trans rfl;have hfz17_0:=blk_frozen BK339.out 0;have hfz17_1:=blk_frozen BK339.out 1)|(go_at_call 65;(with_reducible refine (spec_GradesValid.calls k a1_0 _ _ l1_1 true _ ?side1 ?side2 A5.out).mono ?_);(case side1 => repeat (first|exact (Kd.C_below HR1_1.out HB.out)|(with_reducible refine Kd.C_alloc ?_ _)|(with_reducible refine Kd.C_drewN ?_ _)|(with_reducible refine Kd.C_drew ?_)));(case side2 => exact HC1_1.out);rintro e w18 ⟨rfl,hb⟩;have n0_:=Aside0.mk (blk_below (g:=gb338) (o:=.cells #[.int .i64 a0_0,.slice A0_1 l0_1.length c0_1] 28 (0,0)) (pe_ BK338.out) hb);have n1_:=Aside0.mk (blk_below (g:=gb339) (o:=.cells #[.int .i64 a1_0,.slice A1_1 l1_1.length c1_1] 28 (0,0)) (pe_ BK339.out) hb);have n2_:=Aside0.mk (blk_below (g:=gb340) (o:=.cells #[.int .i64 0,.slice none 0 0] 28 (0,0)) (pe_ BK340.out) hb);have n3_:=Aside0.mk (below_step (be3_ HB.out GE338.out GE339.out GE340.out) hb);clear BK338;clear BK339;clear BK340;clear HB;have BK338:=n0_;have BK339:=n1_;have BK340:=n2_;have HB:=n3_;clear n0_ n1_ n2_ n3_;(try clear hb);(try clear hb2);(try clear hk);(try clear hi);have hcz19_0 : w18.cell? ⟨gb338,0,none⟩ = some (.int .i64 a0_0):=(blk_cell BK338.out 0).trans rfl;have hcz19_1 : w18.cell? ⟨gb338,1,none⟩ = some (.slice A0_1 l0_1.length c0_1):=(blk_cell BK338.out 1).trans rfl;have hfz19_0:=blk_frozen BK338.out 0;have hfz19_1:=blk_frozen BK338.out 1;have hcz20_0 : w18.cell? ⟨gb339,0,none⟩ = some (.int .i64 a1_0):=(blk_cell BK339.out 0).trans rfl;have hcz20_1 : w18.cell? ⟨gb339,1,none⟩ = some (.slice A1_1 l1_1.length c1_1):=(blk_cell BK339.out 1).trans rfl;have hfz20_0:=blk_frozen BK339.out 0;have hfz20_1:=blk_frozen BK339.out 1)|((with_reducible refine gate_callee (f:=68) rfl ?_);refine goesL_ (some 24) rfl rfl Try.func68 (by kernel_rfl) rfl #[.agg #[.int .i64 a0_0,.slice A0_1 l0_1.length c0_1],.agg #[.int .i64 a1_0,.slice A1_1 l1_1.length c1_1]] rfl lp_ ?_;(with_reducible refine (spec_l6Mul.calls k a0_0 _ _ l0_1 a1_0 _ _ l1_1 t343 t344 _ ?side1 ?side2 ?side3 ?side4 A8.out).mono ?_);(case side1 => repeat (first|exact (Kd.C_below HR0_1.out HB.out)|(with_reducible refine Kd.C_alloc ?_ _)|(with_reducible refine Kd.C_drewN ?_ _)|(with_reducible refine Kd.C_drew ?_)));(case side2 => exact HC0_1.out);(case side3 => repeat (first|exact (Kd.C_below HR1_1.out HB.out)|(with_reducible refine Kd.C_alloc ?_ _)|(with_reducible refine Kd.C_drewN ?_ _)|(with_reducible refine Kd.C_drew ?_)));(case side4 => exact HC1_1.out);rintro e w21 ⟨v345,rfl,ho0,hb⟩;refine ⟨_,rfl,?_⟩;have n0_:=Aside0.mk (Kd.R_lower ho0 (below_size (be3_ HB.out GE338.out GE339.out GE340.out)));have n1_:=Aside0.mk (blk_below (g:=gb338) (o:=.cells #[.int .i64 a0_0,.slice A0_1 l0_1.length c0_1] 28 (0,0)) (pe_ BK338.out) hb);have n2_:=Aside0.mk (blk_below (g:=gb339) (o:=.cells #[.int .i64 a1_0,.slice A1_1 l1_1.length c1_1] 28 (0,0)) (pe_ BK339.out) hb);have n3_:=Aside0.mk (blk_below (g:=gb340) (o:=.cells #[.int .i64 0,.slice none 0 0] 28 (0,0)) (pe_ BK340.out) hb);have n4_:=Aside0.mk (below_step (be3_ HB.out GE338.out GE339.out GE340.out) hb);clear BK338;clear BK339;clear BK340;clear HB;have HO346:=n0_;have BK338:=n1_;have BK339:=n2_;have BK340:=n3_;have HB:=n4_;clear n0_ n1_ n2_ n3_ n4_;(try clear hb);(try clear hb2);(try clear hk);(try clear hi);(try clear ho0);have hcz22_0 : w21.cell? ⟨gb340,0,none⟩ = some (.int .i64 0):=(blk_cell BK340.out 0).trans rfl;have hcz22_1 : w21.cell? ⟨gb340,1,none⟩ = some (.slice none 0 0):=(blk_cell BK340.out 1).trans rfl;have hfz22_0:=blk_frozen BK340.out 0;have hfz22_1:=blk_frozen BK340.out 1;obtain ⟨Ao23,co23,eo23⟩:=Kd.R_slice HO346.out;subst eo23))
    refine bodyPost_ret (results_ct rfl _ _ gb340 28 #[.int .i64 t343,.slice Ao23 t344.length co23] (0,0) _ rfl (by refine pe_ ?_;refine blk_put (cs:=#[.int .i64 t343,.slice none 0 0]) ?_ 1 _ rfl;refine pe_ ?_;refine blk_put (cs:=#[.int .i64 0,.slice none 0 0]) ?_ 0 _ rfl;refine pe_ ?_;exact BK340.out) Try.underlying28 rfl (by kernel_rfl)) rfl ?_
    exact ⟨_,by first|rfl|(simp [errW_none,errW_some] <;> rfl)|(simp [*,errW_none,errW_some] <;> rfl),by refine pr_ ?_;exact Kd.R_mono (Kd.R_far (p:=⟨gb340,1,none⟩) (Kd.R_far (p:=⟨gb340,0,none⟩) (Kd.R_types HO346.out BK340.out (by decide)) (fun _ hk => hk.2) (.int .i64 t343)) (fun _ hk => hk.2) (.slice Ao23 t344.length co23)) (fun _ hk => trivial),be3_ HB.out GE338.out GE339.out GE340.out⟩
   ·rw [if_neg c7] at H
    have c7b0 : (a0_0 == a1_0) = false:=beq_eq_false_iff_ne.mpr c7
    have c7b1 : (a0_0 != a1_0) = true:=bne_iff_ne.mpr c7
    simp only [Option.some.injEq,Prod.mk.injEq] at H
    obtain ⟨rfl,rfl,rfl⟩:=H
    go_enter Try.func26,Try.ntmps26
    go_wp2_with (first|((with_reducible refine gate_dst (N:=2) rfl ?_);refine box_event ?hg (N:=2) ?hd (cs:=#[.int .i64 a0_0,.slice A0_1 l0_1.length c0_1]) (t:=28) ?hr ?_;(case hd => rfl);(case hg => rfl);(case hr => first|(go_simp;done)|(go_simp;rfl));intro gb338 hg w24 hbox hb;have n0_:=Aside0.mk (below_step (be0_ HB.out) hb);have n1_:=Aside0.mk (hbox);have n2_:=Aside0.mk ((by rw [hg];exact (below_size (be0_ HB.out)) : w.heap.size ≤ gb338));have n3_:=Aside0.mk ((by rw [hg];exact (below_size (be0_ HB.out)) : w.heap.size ≤ gb338));clear HB;have HB:=n0_;have BK338:=n1_;have GW338:=n2_;have GE338:=n3_;clear n0_ n1_ n2_ n3_;clear hb hbox hg)|((with_reducible refine gate_dst (N:=3) rfl ?_);refine box_event ?hg (N:=3) ?hd (cs:=#[.int .i64 a1_0,.slice A1_1 l1_1.length c1_1]) (t:=28) ?hr ?_;(case hd => rfl);(case hg => rfl);(case hr => first|(go_simp;done)|(go_simp;rfl));intro gb339 hg w25 hbox hb;have n0_:=Aside0.mk (blk_below (g:=gb338) (o:=.cells #[.int .i64 a0_0,.slice A0_1 l0_1.length c0_1] 28 (0,0)) (pe_ BK338.out) hb);have n1_:=Aside0.mk (below_step (be1_ HB.out GE338.out) hb);have n2_:=Aside0.mk (hbox);have n3_:=Aside0.mk ((by rw [hg];exact (below_size (be1_ HB.out GE338.out)) : w.heap.size ≤ gb339));have n4_:=Aside0.mk ((by rw [hg];exact (below_size (be1_ HB.out GE338.out)) : w.heap.size ≤ gb339));have n5_:=Aside0.mk ((by rw [hg];exact Nat.ne_of_lt (blk_lt (g:=gb338) (o:=.cells #[.int .i64 a0_0,.slice A0_1 l0_1.length c0_1] 28 (0,0)) (pe_ BK338.out)) : gb338 ≠ gb339));have n6_:=Aside0.mk ((by rw [hg];exact Nat.ne_of_gt (blk_lt (g:=gb338) (o:=.cells #[.int .i64 a0_0,.slice A0_1 l0_1.length c0_1] 28 (0,0)) (pe_ BK338.out)) : gb339 ≠ gb338));clear BK338;clear HB;have BK338:=n0_;have HB:=n1_;have BK339:=n2_;have GW339:=n3_;have GE339:=n4_;have NB338_339:=n5_;have NB339_338:=n6_;clear n0_ n1_ n2_ n3_ n4_ n5_ n6_;clear hb hbox hg)|((with_reducible refine gate_dst (N:=4) rfl ?_);refine box_event ?hg (N:=4) ?hd (cs:=#[.int .i64 0,.slice none 0 0]) (t:=28) ?hr ?_;(case hd => rfl);(case hg => rfl);(case hr => first|(go_simp;done)|(go_simp;rfl));intro gb340 hg w26 hbox hb;have n0_:=Aside0.mk (blk_below (g:=gb338) (o:=.cells #[.int .i64 a0_0,.slice A0_1 l0_1.length c0_1] 28 (0,0)) (pe_ BK338.out) hb);have n1_:=Aside0.mk (blk_below (g:=gb339) (o:=.cells #[.int .i64 a1_0,.slice A1_1 l1_1.length c1_1] 28 (0,0)) (pe_ BK339.out) hb);have n2_:=Aside0.mk (below_step (be2_ HB.out GE338.out GE339.out) hb);have n3_:=Aside0.mk (hbox);have n4_:=Aside0.mk ((by rw [hg];exact (below_size (be2_ HB.out GE338.out GE339.out)) : w.heap.size ≤ gb340));have n5_:=Aside0.mk ((by rw [hg];exact (below_size (be2_ HB.out GE338.out GE339.out)) : w.heap.size ≤ gb340));have n6_:=Aside0.mk ((by rw [hg];exact Nat.ne_of_lt (blk_lt (g:=gb338) (o:=.cells #[.int .i64 a0_0,.slice A0_1 l0_1.length c0_1] 28 (0,0)) (pe_ BK338.out)) : gb338 ≠ gb340));have n7_:=Aside0.mk ((by rw [hg];exact Nat.ne_of_gt (blk_lt (g:=gb338) (o:=.cells #[.int .i64 a0_0,.slice A0_1 l0_1.length c0_1] 28 (0,0)) (pe_ BK338.out)) : gb340 ≠ gb338));have n8_:=Aside0.mk ((by rw [hg];exact Nat.ne_of_lt (blk_lt (g:=gb339) (o:=.cells #[.int .i64 a1_0,.slice A1_1 l1_1.length c1_1] 28 (0,0)) (pe_ BK339.out)) : gb339 ≠ gb340));have n9_:=Aside0.mk ((by rw [hg];exact Nat.ne_of_gt (blk_lt (g:=gb339) (o:=.cells #[.int .i64 a1_0,.slice A1_1 l1_1.length c1_1] 28 (0,0)) (pe_ BK339.out)) : gb340 ≠ gb339));clear BK338;clear BK339;clear HB;have BK338:=n0_;have BK339:=n1_;have HB:=n2_;have BK340:=n3_;have GW340:=n4_;have GE340:=n5_;have NB338_340:=n6_;have NB340_338:=n7_;have NB339_340:=n8_;have NB340_339:=n9_;clear n0_ n1_ n2_ n3_ n4_ n5_ n6_ n7_ n8_ n9_;clear hb hbox hg;have hnb27:=NB338_339.out;have hnc27:=NB339_338.out;have hnb28:=NB338_340.out;have hnc28:=NB340_338.out;have hcz29_0 : w26.cell? ⟨gb338,0,none⟩ = some (.int .i64 a0_0):=(blk_cell BK338.out 0).trans rfl;have hcz29_1 : w26.cell? ⟨gb338,1,none⟩ = some (.slice A0_1 l0_1.length c0_1):=(blk_cell BK338.out 1).trans rfl;have hfz29_0:=blk_frozen BK338.out 0;have hfz29_1:=blk_frozen BK338.out 1)|((with_reducible refine gate_callee (f:=65) rfl ?_);refine goesL_ (some 7) rfl rfl Try.func65 (by kernel_rfl) rfl #[.agg #[.int .i64 a0_0,.slice A0_1 l0_1.length c0_1]] rfl lp_ ?_;(with_reducible refine (spec_GradesValid.calls k a0_0 _ _ l0_1 true _ ?side1 ?side2 A3.out).mono ?_);(case side1 => repeat (first|exact (Kd.C_below HR0_1.out HB.out)|(with_reducible refine Kd.C_alloc ?_ _)|(with_reducible refine Kd.C_drewN ?_ _)|(with_reducible refine Kd.C_drew ?_)));(case side2 => exact HC0_1.out);rintro e w30 ⟨rfl,hb⟩;refine ⟨_,rfl,?_⟩;have n0_:=Aside0.mk (blk_below (g:=gb338) (o:=.cells #[.int .i64 a0_0,.slice A0_1 l0_1.length c0_1] 28 (0,0)) (pe_ BK338.out) hb);have n1_:=Aside0.mk (blk_below (g:=gb339) (o:=.cells #[.int .i64 a1_0,.slice A1_1 l1_1.length c1_1] 28 (0,0)) (pe_ BK339.out) hb);have n2_:=Aside0.mk (blk_below (g:=gb340) (o:=.cells #[.int .i64 0,.slice none 0 0] 28 (0,0)) (pe_ BK340.out) hb);have n3_:=Aside0.mk (below_step (be3_ HB.out GE338.out GE339.out GE340.out) hb);clear BK338;clear BK339;clear BK340;clear HB;have BK338:=n0_;have BK339:=n1_;have BK340:=n2_;have HB:=n3_;clear n0_ n1_ n2_ n3_;(try clear hb);(try clear hb2);(try clear hk);(try clear hi);have hnb31:=NB339_340.out;have hnc31:=NB340_339.out;have hcz32_0 : w30.cell? ⟨gb339,0,none⟩ = some (.int .i64 a1_0):=(blk_cell BK339.out 0).trans rfl;have hcz32_1 : w30.cell? ⟨gb339,1,none⟩ = some (.slice A1_1 l1_1.length c1_1):=(blk_cell BK339.out 1).trans rfl;have hfz32_0:=blk_frozen BK339.out 0;have hfz32_1:=blk_frozen BK339.out 1)|(go_at_call 65;(with_reducible refine (spec_GradesValid.calls k a1_0 _ _ l1_1 true _ ?side1 ?side2 A5.out).mono ?_);(case side1 => repeat (first|exact (Kd.C_below HR1_1.out HB.out)|(with_reducible refine Kd.C_alloc ?_ _)|(with_reducible refine Kd.C_drewN ?_ _)|(with_reducible refine Kd.C_drew ?_)));(case side2 => exact HC1_1.out);rintro e w33 ⟨rfl,hb⟩;have n0_:=Aside0.mk (blk_below (g:=gb338) (o:=.cells #[.int .i64 a0_0,.slice A0_1 l0_1.length c0_1] 28 (0,0)) (pe_ BK338.out) hb);have n1_:=Aside0.mk (blk_below (g:=gb339) (o:=.cells #[.int .i64 a1_0,.slice A1_1 l1_1.length c1_1] 28 (0,0)) (pe_ BK339.out) hb);have n2_:=Aside0.mk (blk_below (g:=gb340) (o:=.cells #[.int .i64 0,.slice none 0 0] 28 (0,0)) (pe_ BK340.out) hb);have n3_:=Aside0.mk (below_step (be3_ HB.out GE338.out GE339.out GE340.out) hb);clear BK338;clear BK339;clear BK340;clear HB;have BK338:=n0_;have BK339:=n1_;have BK340:=n2_;have HB:=n3_;clear n0_ n1_ n2_ n3_;(try clear hb);(try clear hb2);(try clear hk);(try clear hi);have hcz34_0 : w33.cell? ⟨gb338,0,none⟩ = some (.int .i64 a0_0):=(blk_cell BK338.out 0).trans rfl;have hcz34_1 : w33.cell? ⟨gb338,1,none⟩ = some (.slice A0_1 l0_1.length c0_1):=(blk_cell BK338.out 1).trans rfl;have hfz34_0:=blk_frozen BK338.out 0;have hfz34_1:=blk_frozen BK338.out 1;have hcz35_0 : w33.cell? ⟨gb339,0,none⟩ = some (.int .i64 a1_0):=(blk_cell BK339.out 0).trans rfl;have hcz35_1 : w33.cell? ⟨gb339,1,none⟩ = some (.slice A1_1 l1_1.length c1_1):=(blk_cell BK339.out 1).trans rfl;have hfz35_0:=blk_frozen BK339.out 0;have hfz35_1:=blk_frozen BK339.out 1;have hcz36_0 : w33.cell? ⟨gb340,0,none⟩ = some (.int .i64 0):=(blk_cell BK340.out 0).trans rfl;have hcz36_1 : w33.cell? ⟨gb340,1,none⟩ = some (.slice none 0 0):=(blk_cell BK340.out 1).trans rfl;have hfz36_0:=blk_frozen BK340.out 0;have hfz36_1:=blk_frozen BK340.out 1))
    refine bodyPost_ret (results_ct rfl _ _ gb340 28 #[.int .i64 0,.slice none 0 0] (0,0) _ rfl (by refine pe_ ?_;refine blk_put (cs:=#[.int .i64 0,.slice none 0 0]) ?_ 1 _ rfl;refine pe_ ?_;refine blk_put (cs:=#[.int .i64 0,.slice none 0 0]) ?_ 0 _ rfl;refine pe_ ?_;exact BK340.out) Try.underlying28 rfl (by kernel_rfl)) rfl ?_
    exact ⟨_,by first|rfl|(simp [errW_none,errW_some] <;> rfl)|(simp [*,errW_none,errW_some] <;> rfl),by first|exact Kd.R_nil _ _ _ _ _|exact Kd.N_nil _ _ _ _ _|exact Kd.V_nil _ _ _ _ _|exact Kd.Q_nil _ _ _ _ _|exact Kd.S_nil _ _ _ _ _,be3_ HB.out GE338.out GE339.out GE340.out⟩
  ·replace c6:=Bool.eq_false_iff.mpr c6
   subst c6
   have H1 : (some (0,([] : List Int),false)) = some (r1,r2,r3):=by rw [if_neg (show ¬ (false = true) by decide)] at H;exact H
   clear H
   have H:=H1
   clear H1
   simp only [Option.some.injEq,Prod.mk.injEq] at H
   obtain ⟨rfl,rfl,rfl⟩:=H
   go_enter Try.func26,Try.ntmps26
   go_wp2_with (first|((with_reducible refine gate_dst (N:=2) rfl ?_);refine box_event ?hg (N:=2) ?hd (cs:=#[.int .i64 a0_0,.slice A0_1 l0_1.length c0_1]) (t:=28) ?hr ?_;(case hd => rfl);(case hg => rfl);(case hr => first|(go_simp;done)|(go_simp;rfl));intro gb338 hg w37 hbox hb;have n0_:=Aside0.mk (below_step (be0_ HB.out) hb);have n1_:=Aside0.mk (hbox);have n2_:=Aside0.mk ((by rw [hg];exact (below_size (be0_ HB.out)) : w.heap.size ≤ gb338));have n3_:=Aside0.mk ((by rw [hg];exact (below_size (be0_ HB.out)) : w.heap.size ≤ gb338));clear HB;have HB:=n0_;have BK338:=n1_;have GW338:=n2_;have GE338:=n3_;clear n0_ n1_ n2_ n3_;clear hb hbox hg)|((with_reducible refine gate_dst (N:=3) rfl ?_);refine box_event ?hg (N:=3) ?hd (cs:=#[.int .i64 a1_0,.slice A1_1 l1_1.length c1_1]) (t:=28) ?hr ?_;(case hd => rfl);(case hg => rfl);(case hr => first|(go_simp;done)|(go_simp;rfl));intro gb339 hg w38 hbox hb;have n0_:=Aside0.mk (blk_below (g:=gb338) (o:=.cells #[.int .i64 a0_0,.slice A0_1 l0_1.length c0_1] 28 (0,0)) (pe_ BK338.out) hb);have n1_:=Aside0.mk (below_step (be1_ HB.out GE338.out) hb);have n2_:=Aside0.mk (hbox);have n3_:=Aside0.mk ((by rw [hg];exact (below_size (be1_ HB.out GE338.out)) : w.heap.size ≤ gb339));have n4_:=Aside0.mk ((by rw [hg];exact (below_size (be1_ HB.out GE338.out)) : w.heap.size ≤ gb339));have n5_:=Aside0.mk ((by rw [hg];exact Nat.ne_of_lt (blk_lt (g:=gb338) (o:=.cells #[.int .i64 a0_0,.slice A0_1 l0_1.length c0_1] 28 (0,0)) (pe_ BK338.out)) : gb338 ≠ gb339));have n6_:=Aside0.mk ((by rw [hg];exact Nat.ne_of_gt (blk_lt (g:=gb338) (o:=.cells #[.int .i64 a0_0,.slice A0_1 l0_1.length c0_1] 28 (0,0)) (pe_ BK338.out)) : gb339 ≠ gb338));clear BK338;clear HB;have BK338:=n0_;have HB:=n1_;have BK339:=n2_;have GW339:=n3_;have GE339:=n4_;have NB338_339:=n5_;have NB339_338:=n6_;clear n0_ n1_ n2_ n3_ n4_ n5_ n6_;clear hb hbox hg)|((with_reducible refine gate_dst (N:=4) rfl ?_);refine box_event ?hg (N:=4) ?hd (cs:=#[.int .i64 0,.slice none 0 0]) (t:=28) ?hr ?_;(case hd => rfl);(case hg => rfl);(case hr => first|(go_simp;done)|(go_simp;rfl));intro gb340 hg w39 hbox hb;have n0_:=Aside0.mk (blk_below (g:=gb338) (o:=.cells #[.int .i64 a0_0,.slice A0_1 l0_1.length c0_1] 28 (0,0)) (pe_ BK338.out) hb);have n1_:=Aside0.mk (blk_below (g:=gb339) (o:=.cells #[.int .i64 a1_0,.slice A1_1 l1_1.length c1_1] 28 (0,0)) (pe_ BK339.out) hb);have n2_:=Aside0.mk (below_step (be2_ HB.out GE338.out GE339.out) hb);have n3_:=Aside0.mk (hbox);have n4_:=Aside0.mk ((by rw [hg];exact (below_size (be2_ HB.out GE338.out GE339.out)) : w.heap.size ≤ gb340));have n5_:=Aside0.mk ((by rw [hg];exact (below_size (be2_ HB.out GE338.out GE339.out)) : w.heap.size ≤ gb340));have n6_:=Aside0.mk ((by rw [hg];exact Nat.ne_of_lt (blk_lt (g:=gb338) (o:=.cells #[.int .i64 a0_0,.slice A0_1 l0_1.length c0_1] 28 (0,0)) (pe_ BK338.out)) : gb338 ≠ gb340));have n7_:=Aside0.mk ((by rw [hg];exact Nat.ne_of_gt (blk_lt (g:=gb338) (o:=.cells #[.int .i64 a0_0,.slice A0_1 l0_1.length c0_1] 28 (0,0)) (pe_ BK338.out)) : gb340 ≠ gb338));have n8_:=Aside0.mk ((by rw [hg];exact Nat.ne_of_lt (blk_lt (g:=gb339) (o:=.cells #[.int .i64 a1_0,.slice A1_1 l1_1.length c1_1] 28 (0,0)) (pe_ BK339.out)) : gb339 ≠ gb340));have n9_:=Aside0.mk ((by rw [hg];exact Nat.ne_of_gt (blk_lt (g:=gb339) (o:=.cells #[.int .i64 a1_0,.slice A1_1 l1_1.length c1_1] 28 (0,0)) (pe_ BK339.out)) : gb340 ≠ gb339));clear BK338;clear BK339;clear HB;have BK338:=n0_;have BK339:=n1_;have HB:=n2_;have BK340:=n3_;have GW340:=n4_;have GE340:=n5_;have NB338_340:=n6_;have NB340_338:=n7_;have NB339_340:=n8_;have NB340_339:=n9_;clear n0_ n1_ n2_ n3_ n4_ n5_ n6_ n7_ n8_ n9_;clear hb hbox hg;have hnb40:=NB338_339.out;have hnc40:=NB339_338.out;have hnb41:=NB338_340.out;have hnc41:=NB340_338.out;have hcz42_0 : w39.cell? ⟨gb338,0,none⟩ = some (.int .i64 a0_0):=(blk_cell BK338.out 0).trans rfl;have hcz42_1 : w39.cell? ⟨gb338,1,none⟩ = some (.slice A0_1 l0_1.length c0_1):=(blk_cell BK338.out 1).trans rfl;have hfz42_0:=blk_frozen BK338.out 0;have hfz42_1:=blk_frozen BK338.out 1)|((with_reducible refine gate_callee (f:=65) rfl ?_);refine goesL_ (some 7) rfl rfl Try.func65 (by kernel_rfl) rfl #[.agg #[.int .i64 a0_0,.slice A0_1 l0_1.length c0_1]] rfl lp_ ?_;(with_reducible refine (spec_GradesValid.calls k a0_0 _ _ l0_1 true _ ?side1 ?side2 A3.out).mono ?_);(case side1 => repeat (first|exact (Kd.C_below HR0_1.out HB.out)|(with_reducible refine Kd.C_alloc ?_ _)|(with_reducible refine Kd.C_drewN ?_ _)|(with_reducible refine Kd.C_drew ?_)));(case side2 => exact HC0_1.out);rintro e w43 ⟨rfl,hb⟩;refine ⟨_,rfl,?_⟩;have n0_:=Aside0.mk (blk_below (g:=gb338) (o:=.cells #[.int .i64 a0_0,.slice A0_1 l0_1.length c0_1] 28 (0,0)) (pe_ BK338.out) hb);have n1_:=Aside0.mk (blk_below (g:=gb339) (o:=.cells #[.int .i64 a1_0,.slice A1_1 l1_1.length c1_1] 28 (0,0)) (pe_ BK339.out) hb);have n2_:=Aside0.mk (blk_below (g:=gb340) (o:=.cells #[.int .i64 0,.slice none 0 0] 28 (0,0)) (pe_ BK340.out) hb);have n3_:=Aside0.mk (below_step (be3_ HB.out GE338.out GE339.out GE340.out) hb);clear BK338;clear BK339;clear BK340;clear HB;have BK338:=n0_;have BK339:=n1_;have BK340:=n2_;have HB:=n3_;clear n0_ n1_ n2_ n3_;(try clear hb);(try clear hb2);(try clear hk);(try clear hi);have hnb44:=NB339_340.out;have hnc44:=NB340_339.out;have hcz45_0 : w43.cell? ⟨gb339,0,none⟩ = some (.int .i64 a1_0):=(blk_cell BK339.out 0).trans rfl;have hcz45_1 : w43.cell? ⟨gb339,1,none⟩ = some (.slice A1_1 l1_1.length c1_1):=(blk_cell BK339.out 1).trans rfl;have hfz45_0:=blk_frozen BK339.out 0;have hfz45_1:=blk_frozen BK339.out 1)|(go_at_call 65;(with_reducible refine (spec_GradesValid.calls k a1_0 _ _ l1_1 false _ ?side1 ?side2 A5.out).mono ?_);(case side1 => repeat (first|exact (Kd.C_below HR1_1.out HB.out)|(with_reducible refine Kd.C_alloc ?_ _)|(with_reducible refine Kd.C_drewN ?_ _)|(with_reducible refine Kd.C_drew ?_)));(case side2 => exact HC1_1.out);rintro e w46 ⟨rfl,hb⟩;have n0_:=Aside0.mk (blk_below (g:=gb338) (o:=.cells #[.int .i64 a0_0,.slice A0_1 l0_1.length c0_1] 28 (0,0)) (pe_ BK338.out) hb);have n1_:=Aside0.mk (blk_below (g:=gb339) (o:=.cells #[.int .i64 a1_0,.slice A1_1 l1_1.length c1_1] 28 (0,0)) (pe_ BK339.out) hb);have n2_:=Aside0.mk (blk_below (g:=gb340) (o:=.cells #[.int .i64 0,.slice none 0 0] 28 (0,0)) (pe_ BK340.out) hb);have n3_:=Aside0.mk (below_step (be3_ HB.out GE338.out GE339.out GE340.out) hb);clear BK338;clear BK339;clear BK340;clear HB;have BK338:=n0_;have BK339:=n1_;have BK340:=n2_;have HB:=n3_;clear n0_ n1_ n2_ n3_;(try clear hb);(try clear hb2);(try clear hk);(try clear hi);have hcz47_0 : w46.cell? ⟨gb340,0,none⟩ = some (.int .i64 0):=(blk_cell BK340.out 0).trans rfl;have hcz47_1 : w46.cell? ⟨gb340,1,none⟩ = some (.slice none 0 0):=(blk_cell BK340.out 1).trans rfl;have hfz47_0:=blk_frozen BK340.out 0;have hfz47_1:=blk_frozen BK340.out 1))
   refine bodyPost_ret (results_ct rfl _ _ gb340 28 #[.int .i64 0,.slice none 0 0] (0,0) _ rfl (by refine pe_ ?_;refine blk_put (cs:=#[.int .i64 0,.slice none 0 0]) ?_ 1 _ rfl;refine pe_ ?_;refine blk_put (cs:=#[.int .i64 0,.slice none 0 0]) ?_ 0 _ rfl;refine pe_ ?_;exact BK340.out) Try.underlying28 rfl (by kernel_rfl)) rfl ?_
   exact ⟨_,by first|rfl|(simp [errW_none,errW_some] <;> rfl)|(simp [*,errW_none,errW_some] <;> rfl),by first|exact Kd.R_nil _ _ _ _ _|exact Kd.N_nil _ _ _ _ _|exact Kd.V_nil _ _ _ _ _|exact Kd.Q_nil _ _ _ _ _|exact Kd.S_nil _ _ _ _ _,be3_ HB.out GE338.out GE339.out GE340.out⟩
 ·replace c4:=Bool.eq_false_iff.mpr c4
  subst c4
  have H1 : (some (0,([] : List Int),false)) = some (r1,r2,r3):=by rw [if_neg (show ¬ (false = true) by decide)] at H;exact H
  clear H
  have H:=H1
  clear H1
  simp only [Option.some.injEq,Prod.mk.injEq] at H
  obtain ⟨rfl,rfl,rfl⟩:=H
  go_enter Try.func26,Try.ntmps26
  go_wp2_with (first|((with_reducible refine gate_dst (N:=2) rfl ?_);refine box_event ?hg (N:=2) ?hd (cs:=#[.int .i64 a0_0,.slice A0_1 l0_1.length c0_1]) (t:=28) ?hr ?_;(case hd => rfl);(case hg => rfl);(case hr => first|(go_simp;done)|(go_simp;rfl));intro gb338 hg w48 hbox hb;have n0_:=Aside0.mk (below_step (be0_ HB.out) hb);have n1_:=Aside0.mk (hbox);have n2_:=Aside0.mk ((by rw [hg];exact (below_size (be0_ HB.out)) : w.heap.size ≤ gb338));have n3_:=Aside0.mk ((by rw [hg];exact (below_size (be0_ HB.out)) : w.heap.size ≤ gb338));clear HB;have HB:=n0_;have BK338:=n1_;have GW338:=n2_;have GE338:=n3_;clear n0_ n1_ n2_ n3_;clear hb hbox hg)|((with_reducible refine gate_dst (N:=3) rfl ?_);refine box_event ?hg (N:=3) ?hd (cs:=#[.int .i64 a1_0,.slice A1_1 l1_1.length c1_1]) (t:=28) ?hr ?_;(case hd => rfl);(case hg => rfl);(case hr => first|(go_simp;done)|(go_simp;rfl));intro gb339 hg w49 hbox hb;have n0_:=Aside0.mk (blk_below (g:=gb338) (o:=.cells #[.int .i64 a0_0,.slice A0_1 l0_1.length c0_1] 28 (0,0)) (pe_ BK338.out) hb);have n1_:=Aside0.mk (below_step (be1_ HB.out GE338.out) hb);have n2_:=Aside0.mk (hbox);have n3_:=Aside0.mk ((by rw [hg];exact (below_size (be1_ HB.out GE338.out)) : w.heap.size ≤ gb339));have n4_:=Aside0.mk ((by rw [hg];exact (below_size (be1_ HB.out GE338.out)) : w.heap.size ≤ gb339));have n5_:=Aside0.mk ((by rw [hg];exact Nat.ne_of_lt (blk_lt (g:=gb338) (o:=.cells #[.int .i64 a0_0,.slice A0_1 l0_1.length c0_1] 28 (0,0)) (pe_ BK338.out)) : gb338 ≠ gb339));have n6_:=Aside0.mk ((by rw [hg];exact Nat.ne_of_gt (blk_lt (g:=gb338) (o:=.cells #[.int .i64 a0_0,.slice A0_1 l0_1.length c0_1] 28 (0,0)) (pe_ BK338.out)) : gb339 ≠ gb338));clear BK338;clear HB;have BK338:=n0_;have HB:=n1_;have BK339:=n2_;have GW339:=n3_;have GE339:=n4_;have NB338_339:=n5_;have NB339_338:=n6_;clear n0_ n1_ n2_ n3_ n4_ n5_ n6_;clear hb hbox hg)|((with_reducible refine gate_dst (N:=4) rfl ?_);refine box_event ?hg (N:=4) ?hd (cs:=#[.int .i64 0,.slice none 0 0]) (t:=28) ?hr ?_;(case hd => rfl);(case hg => rfl);(case hr => first|(go_simp;done)|(go_simp;rfl));intro gb340 hg w50 hbox hb;have n0_:=Aside0.mk (blk_below (g:=gb338) (o:=.cells #[.int .i64 a0_0,.slice A0_1 l0_1.length c0_1] 28 (0,0)) (pe_ BK338.out) hb);have n1_:=Aside0.mk (blk_below (g:=gb339) (o:=.cells #[.int .i64 a1_0,.slice A1_1 l1_1.length c1_1] 28 (0,0)) (pe_ BK339.out) hb);have n2_:=Aside0.mk (below_step (be2_ HB.out GE338.out GE339.out) hb);have n3_:=Aside0.mk (hbox);have n4_:=Aside0.mk ((by rw [hg];exact (below_size (be2_ HB.out GE338.out GE339.out)) : w.heap.size ≤ gb340));have n5_:=Aside0.mk ((by rw [hg];exact (below_size (be2_ HB.out GE338.out GE339.out)) : w.heap.size ≤ gb340));have n6_:=Aside0.mk ((by rw [hg];exact Nat.ne_of_lt (blk_lt (g:=gb338) (o:=.cells #[.int .i64 a0_0,.slice A0_1 l0_1.length c0_1] 28 (0,0)) (pe_ BK338.out)) : gb338 ≠ gb340));have n7_:=Aside0.mk ((by rw [hg];exact Nat.ne_of_gt (blk_lt (g:=gb338) (o:=.cells #[.int .i64 a0_0,.slice A0_1 l0_1.length c0_1] 28 (0,0)) (pe_ BK338.out)) : gb340 ≠ gb338));have n8_:=Aside0.mk ((by rw [hg];exact Nat.ne_of_lt (blk_lt (g:=gb339) (o:=.cells #[.int .i64 a1_0,.slice A1_1 l1_1.length c1_1] 28 (0,0)) (pe_ BK339.out)) : gb339 ≠ gb340));have n9_:=Aside0.mk ((by rw [hg];exact Nat.ne_of_gt (blk_lt (g:=gb339) (o:=.cells #[.int .i64 a1_0,.slice A1_1 l1_1.length c1_1] 28 (0,0)) (pe_ BK339.out)) : gb340 ≠ gb339));clear BK338;clear BK339;clear HB;have BK338:=n0_;have BK339:=n1_;have HB:=n2_;have BK340:=n3_;have GW340:=n4_;have GE340:=n5_;have NB338_340:=n6_;have NB340_338:=n7_;have NB339_340:=n8_;have NB340_339:=n9_;clear n0_ n1_ n2_ n3_ n4_ n5_ n6_ n7_ n8_ n9_;clear hb hbox hg;have hnb51:=NB338_339.out;have hnc51:=NB339_338.out;have hnb52:=NB338_340.out;have hnc52:=NB340_338.out;have hcz53_0 : w50.cell? ⟨gb338,0,none⟩ = some (.int .i64 a0_0):=(blk_cell BK338.out 0).trans rfl;have hcz53_1 : w50.cell? ⟨gb338,1,none⟩ = some (.slice A0_1 l0_1.length c0_1):=(blk_cell BK338.out 1).trans rfl;have hfz53_0:=blk_frozen BK338.out 0;have hfz53_1:=blk_frozen BK338.out 1)|((with_reducible refine gate_callee (f:=65) rfl ?_);refine goesL_ (some 7) rfl rfl Try.func65 (by kernel_rfl) rfl #[.agg #[.int .i64 a0_0,.slice A0_1 l0_1.length c0_1]] rfl lp_ ?_;(with_reducible refine (spec_GradesValid.calls k a0_0 _ _ l0_1 false _ ?side1 ?side2 A3.out).mono ?_);(case side1 => repeat (first|exact (Kd.C_below HR0_1.out HB.out)|(with_reducible refine Kd.C_alloc ?_ _)|(with_reducible refine Kd.C_drewN ?_ _)|(with_reducible refine Kd.C_drew ?_)));(case side2 => exact HC0_1.out);rintro e w54 ⟨rfl,hb⟩;refine ⟨_,rfl,?_⟩;have n0_:=Aside0.mk (blk_below (g:=gb338) (o:=.cells #[.int .i64 a0_0,.slice A0_1 l0_1.length c0_1] 28 (0,0)) (pe_ BK338.out) hb);have n1_:=Aside0.mk (blk_below (g:=gb339) (o:=.cells #[.int .i64 a1_0,.slice A1_1 l1_1.length c1_1] 28 (0,0)) (pe_ BK339.out) hb);have n2_:=Aside0.mk (blk_below (g:=gb340) (o:=.cells #[.int .i64 0,.slice none 0 0] 28 (0,0)) (pe_ BK340.out) hb);have n3_:=Aside0.mk (below_step (be3_ HB.out GE338.out GE339.out GE340.out) hb);clear BK338;clear BK339;clear BK340;clear HB;have BK338:=n0_;have BK339:=n1_;have BK340:=n2_;have HB:=n3_;clear n0_ n1_ n2_ n3_;(try clear hb);(try clear hb2);(try clear hk);(try clear hi);have hnb55:=NB340_339.out;have hnc55:=NB339_340.out;have hcz56_0 : w54.cell? ⟨gb340,0,none⟩ = some (.int .i64 0):=(blk_cell BK340.out 0).trans rfl;have hcz56_1 : w54.cell? ⟨gb340,1,none⟩ = some (.slice none 0 0):=(blk_cell BK340.out 1).trans rfl;have hfz56_0:=blk_frozen BK340.out 0;have hfz56_1:=blk_frozen BK340.out 1))
  refine bodyPost_ret (results_ct rfl _ _ gb340 28 #[.int .i64 0,.slice none 0 0] (0,0) _ rfl (by refine pe_ ?_;refine blk_put (cs:=#[.int .i64 0,.slice none 0 0]) ?_ 1 _ rfl;refine pe_ ?_;refine blk_put (cs:=#[.int .i64 0,.slice none 0 0]) ?_ 0 _ rfl;refine pe_ ?_;exact BK340.out) Try.underlying28 rfl (by kernel_rfl)) rfl ?_
  exact ⟨_,by first|rfl|(simp [errW_none,errW_some] <;> rfl)|(simp [*,errW_none,errW_some] <;> rfl),by first|exact Kd.R_nil _ _ _ _ _|exact Kd.N_nil _ _ _ _ _|exact Kd.V_nil _ _ _ _ _|exact Kd.Q_nil _ _ _ _ _|exact Kd.S_nil _ _ _ _ _,be3_ HB.out GE338.out GE339.out GE340.out⟩
end Go.Proofs.Ytengegdaiphfeaa.X
end
section
namespace Go.Proofs.Ytengegdaiphfeaa.X
open Go.RowKit Go.Proofs.YtengegdaiphfeaaW.PrintWords Go.Proofs.YtengegdaiphfeaaW.PrintLast Go.Proofs.YtengegdaiphfeaaW.PrintMore
attribute [local go_sem] max2_int min2_int max_two min_two max_three min_three max_four min_four
set_option linter.unusedVariables false
set_option linter.unusedSimpArgs false
mutual
def laws_FnMulGrades.j0 : Nat → List Int → List Int → Bool → Option (Bool)
 | 0,_,_,_ => none
 | k + 1,x0,x1,x31 => if x31 = true then (some true) else (laws_FnMulGrades.j1 k x0 x1)
def laws_FnMulGrades.j1 : Nat → List Int → List Int → Option (Bool)
 | 0,_,_ => none
 | k + 1,x0,x1 => (spec_DrawMulGrades.f k x0).bind fun bt658 => ((impl_MulGrades.f k bt658.1 bt658.2.1 bt658.2.2.1 bt658.2.2.2).bind fun bt668 => ((spec_MulGrades.f k bt658.1 bt658.2.1 bt658.2.2.1 bt658.2.2.2).bind fun bt674 => ((laws_daMatrix.f k bt668.1 bt668.2.1 bt674.1 bt674.2.1).bind fun t680 => (if t680 = true then (if (bt668.2.2 != bt674.2.2) = true then (laws_FnMulGrades.j2 k x1 bt668.2.2 bt674.2.2 true bt658.1 bt658.2.1 bt658.2.2.1 bt658.2.2.2 bt668.1 bt668.2.1 bt674.1 bt674.2.1) else (laws_FnMulGrades.j2 k x1 bt668.2.2 bt674.2.2 (!bt668.2.2) bt658.1 bt658.2.1 bt658.2.2.1 bt658.2.2.2 bt668.1 bt668.2.1 bt674.1 bt674.2.1)) else (laws_FnMulGrades.j2 k x1 bt668.2.2 bt674.2.2 true bt658.1 bt658.2.1 bt658.2.2.1 bt658.2.2.2 bt668.1 bt668.2.1 bt674.1 bt674.2.1)))))
def laws_FnMulGrades.j2 : Nat → List Int → Bool → Bool → Bool → Int → List Int → Int → List Int → Int → List Int → Int → List Int → Option (Bool)
 | 0,_,_,_,_,_,_,_,_,_,_,_,_ => none
 | k + 1,x1,x8,x10,x61,x667000,x667001,x668000,x668001,x674000,x674001,x680000,x680001 => if x61 = true then ((laws_daMatrix.f k x674000 x674001 x680000 x680001).bind fun t681 => (if t681 = true then (some (x8 == x10)) else (some false))) else (laws_FnMulGrades.j3 k x1 x667000 x667001 x668000 x668001 x674000 x674001)
def laws_FnMulGrades.j3 : Nat → List Int → Int → List Int → Int → List Int → Int → List Int → Option (Bool)
 | 0,_,_,_,_,_,_,_ => none
 | k + 1,x1,x667000,x667001,x668000,x668001,x674000,x674001 => (spec_DrawIsIdempotent.f k x1).bind fun bt682 => ((impl_GradesValid.f k bt682.1 bt682.2).bind fun t687 => (if t687 = true then (laws_FnMulGrades.j4 k (bt682.1 != x667000) x667000 x667001 x668000 x668001 x674000 x674001 bt682.1 bt682.2) else (laws_FnMulGrades.j4 k true x667000 x667001 x668000 x668001 x674000 x674001 bt682.1 bt682.2)))
def laws_FnMulGrades.j4 : Nat → Bool → Int → List Int → Int → List Int → Int → List Int → Int → List Int → Option (Bool)
 | 0,_,_,_,_,_,_,_,_,_ => none
 | k + 1,x81,x667000,x667001,x668000,x668001,x674000,x674001,x687000,x687001 => if x81 = true then (laws_FnMulGrades.j5 k x667000 x667001 x668000 x668001 x674000 x674001 x668000 x668001) else (laws_FnMulGrades.j5 k x667000 x667001 x668000 x668001 x674000 x674001 x687000 x687001)
def laws_FnMulGrades.j5 : Nat → Int → List Int → Int → List Int → Int → List Int → Int → List Int → Option (Bool)
 | 0,_,_,_,_,_,_,_,_ => none
 | k + 1,x667000,x667001,x668000,x668001,x674000,x674001,x687000,x687001 => (impl_MulGrades.f k x674000 x674001 x687000 x687001).bind fun bt688 => ((impl_MulGrades.f k x668000 x668001 x687000 x687001).bind fun bt694 => ((impl_MulGrades.f k x667000 x667001 bt694.1 bt694.2.1).bind fun bt700 => ((impl_UnitMatrix.f k x667000).bind fun bt706 => ((impl_GradesOf.f k bt706.1 bt706.2.1).bind fun bt712 => ((impl_MulGrades.f k x667000 x667001 bt712.1 bt712.2.1).bind fun bt718 => ((impl_GradesValid.f k x674000 x674001).bind fun t724 => (if t724 = true then ((laws_daMatrix.f k bt688.1 bt688.2.1 bt700.1 bt700.2.1).bind fun t725 => (if t725 = true then ((laws_daMatrix.f k bt718.1 bt718.2.1 x667000 x667001).bind fun t726 => (some t726)) else (some false))) else (some false))))))))
end
def laws_FnMulGrades.f (k : Nat) (l0 : List Int) (l1 : List Int) : Option (Bool):=if (l0.length : Int) > 1048576 then (laws_FnMulGrades.j0 k l0 l1 true) else (laws_FnMulGrades.j0 k l0 l1 (decide ((l1.length : Int) > 1048576)))
theorem laws_FnMulGrades.mono_l : ∀ k,(∀ y0 y1 y2,LeO (laws_FnMulGrades.j0 k y0 y1 y2) (laws_FnMulGrades.j0 (k + 1) y0 y1 y2)) ∧ (∀ y0 y1,LeO (laws_FnMulGrades.j1 k y0 y1) (laws_FnMulGrades.j1 (k + 1) y0 y1)) ∧ (∀ y0 y1 y2 y3 y4 y5 y6 y7 y8 y9 y10 y11,LeO (laws_FnMulGrades.j2 k y0 y1 y2 y3 y4 y5 y6 y7 y8 y9 y10 y11) (laws_FnMulGrades.j2 (k + 1) y0 y1 y2 y3 y4 y5 y6 y7 y8 y9 y10 y11)) ∧ (∀ y0 y1 y2 y3 y4 y5 y6,LeO (laws_FnMulGrades.j3 k y0 y1 y2 y3 y4 y5 y6) (laws_FnMulGrades.j3 (k + 1) y0 y1 y2 y3 y4 y5 y6)) ∧ (∀ y0 y1 y2 y3 y4 y5 y6 y7 y8,LeO (laws_FnMulGrades.j4 k y0 y1 y2 y3 y4 y5 y6 y7 y8) (laws_FnMulGrades.j4 (k + 1) y0 y1 y2 y3 y4 y5 y6 y7 y8)) ∧ (∀ y0 y1 y2 y3 y4 y5 y6 y7,LeO (laws_FnMulGrades.j5 k y0 y1 y2 y3 y4 y5 y6 y7) (laws_FnMulGrades.j5 (k + 1) y0 y1 y2 y3 y4 y5 y6 y7))
 | 0 => ⟨fun _ _ _ r h => by simp [laws_FnMulGrades.j0] at h,fun _ _ r h => by simp [laws_FnMulGrades.j1] at h,fun _ _ _ _ _ _ _ _ _ _ _ _ r h => by simp [laws_FnMulGrades.j2] at h,fun _ _ _ _ _ _ _ r h => by simp [laws_FnMulGrades.j3] at h,fun _ _ _ _ _ _ _ _ _ r h => by simp [laws_FnMulGrades.j4] at h,fun _ _ _ _ _ _ _ _ r h => by simp [laws_FnMulGrades.j5] at h⟩
 | k + 1 => by
  obtain ⟨ih0,ih1,ih2,ih3,ih4,ih5⟩:=laws_FnMulGrades.mono_l k
  refine ⟨?_,?_,?_,?_,?_,?_⟩
  ·intro y0 y1 y2
   unfold laws_FnMulGrades.j0
   repeat' first
   | (with_reducible exact ih0 _ _ _)
   | (with_reducible exact ih1 _ _)
   | (with_reducible exact ih2 _ _ _ _ _ _ _ _ _ _ _ _)
   | (with_reducible exact ih3 _ _ _ _ _ _ _)
   | (with_reducible exact ih4 _ _ _ _ _ _ _ _ _)
   | (with_reducible exact ih5 _ _ _ _ _ _ _ _)
   | (with_reducible exact impl_GradesOf.mono _ _ _)
   | (with_reducible exact impl_GradesValid.mono _ _ _)
   | (with_reducible exact impl_MulGrades.mono _ _ _ _ _)
   | (with_reducible exact impl_UnitMatrix.mono _ _)
   | (with_reducible exact laws_daMatrix.mono _ _ _ _ _)
   | (with_reducible exact spec_DrawIsIdempotent.mono _ _)
   | (with_reducible exact spec_DrawMulGrades.mono _ _)
   | (with_reducible exact spec_MulGrades.mono _ _ _ _ _)
   | (with_reducible exact LeO.refl _)
   | (with_reducible exact LeO.none _)
   | (with_reducible refine LeO.ite ?_ ?_)
   | (with_reducible refine LeO.bind ?_ (fun _ => ?_))
   | exact ih0 _ _ _
   | exact ih1 _ _
   | exact ih2 _ _ _ _ _ _ _ _ _ _ _ _
   | exact ih3 _ _ _ _ _ _ _
   | exact ih4 _ _ _ _ _ _ _ _ _
   | exact ih5 _ _ _ _ _ _ _ _
   | exact impl_GradesOf.mono _ _ _
   | exact impl_GradesValid.mono _ _ _
   | exact impl_MulGrades.mono _ _ _ _ _
   | exact impl_UnitMatrix.mono _ _
   | exact laws_daMatrix.mono _ _ _ _ _
   | exact spec_DrawIsIdempotent.mono _ _
   | exact spec_DrawMulGrades.mono _ _
   | exact spec_MulGrades.mono _ _ _ _ _
   | exact LeO.none _
   | refine LeO.ite ?_ ?_
   | refine LeO.bind ?_ (fun _ => ?_)
  ·intro y0 y1
   unfold laws_FnMulGrades.j1
   repeat' first
   | (with_reducible exact ih0 _ _ _)
   | (with_reducible exact ih1 _ _)
   | (with_reducible exact ih2 _ _ _ _ _ _ _ _ _ _ _ _)
   | (with_reducible exact ih3 _ _ _ _ _ _ _)
   | (with_reducible exact ih4 _ _ _ _ _ _ _ _ _)
   | (with_reducible exact ih5 _ _ _ _ _ _ _ _)
   | (with_reducible exact impl_GradesOf.mono _ _ _)
   | (with_reducible exact impl_GradesValid.mono _ _ _)
   | (with_reducible exact impl_MulGrades.mono _ _ _ _ _)
   | (with_reducible exact impl_UnitMatrix.mono _ _)
   | (with_reducible exact laws_daMatrix.mono _ _ _ _ _)
   | (with_reducible exact spec_DrawIsIdempotent.mono _ _)
   | (with_reducible exact spec_DrawMulGrades.mono _ _)
   | (with_reducible exact spec_MulGrades.mono _ _ _ _ _)
   | (with_reducible exact LeO.refl _)
   | (with_reducible exact LeO.none _)
   | (with_reducible refine LeO.ite ?_ ?_)
   | (with_reducible refine LeO.bind ?_ (fun _ => ?_))
   | exact ih0 _ _ _
   | exact ih1 _ _
   | exact ih2 _ _ _ _ _ _ _ _ _ _ _ _
   | exact ih3 _ _ _ _ _ _ _
   | exact ih4 _ _ _ _ _ _ _ _ _
   | exact ih5 _ _ _ _ _ _ _ _
   | exact impl_GradesOf.mono _ _ _
   | exact impl_GradesValid.mono _ _ _
   | exact impl_MulGrades.mono _ _ _ _ _
   | exact impl_UnitMatrix.mono _ _
   | exact laws_daMatrix.mono _ _ _ _ _
   | exact spec_DrawIsIdempotent.mono _ _
   | exact spec_DrawMulGrades.mono _ _
   | exact spec_MulGrades.mono _ _ _ _ _
   | exact LeO.none _
   | refine LeO.ite ?_ ?_
   | refine LeO.bind ?_ (fun _ => ?_)
  ·intro y0 y1 y2 y3 y4 y5 y6 y7 y8 y9 y10 y11
   unfold laws_FnMulGrades.j2
   repeat' first
   | (with_reducible exact ih0 _ _ _)
   | (with_reducible exact ih1 _ _)
   | (with_reducible exact ih2 _ _ _ _ _ _ _ _ _ _ _ _)
   | (with_reducible exact ih3 _ _ _ _ _ _ _)
   | (with_reducible exact ih4 _ _ _ _ _ _ _ _ _)
   | (with_reducible exact ih5 _ _ _ _ _ _ _ _)
   | (with_reducible exact impl_GradesOf.mono _ _ _)
   | (with_reducible exact impl_GradesValid.mono _ _ _)
   | (with_reducible exact impl_MulGrades.mono _ _ _ _ _)
   | (with_reducible exact impl_UnitMatrix.mono _ _)
   | (with_reducible exact laws_daMatrix.mono _ _ _ _ _)
   | (with_reducible exact spec_DrawIsIdempotent.mono _ _)
   | (with_reducible exact spec_DrawMulGrades.mono _ _)
   | (with_reducible exact spec_MulGrades.mono _ _ _ _ _)
   | (with_reducible exact LeO.refl _)
   | (with_reducible exact LeO.none _)
   | (with_reducible refine LeO.ite ?_ ?_)
   | (with_reducible refine LeO.bind ?_ (fun _ => ?_))
   | exact ih0 _ _ _
   | exact ih1 _ _
   | exact ih2 _ _ _ _ _ _ _ _ _ _ _ _
   | exact ih3 _ _ _ _ _ _ _
   | exact ih4 _ _ _ _ _ _ _ _ _
   | exact ih5 _ _ _ _ _ _ _ _
   | exact impl_GradesOf.mono _ _ _
   | exact impl_GradesValid.mono _ _ _
   | exact impl_MulGrades.mono _ _ _ _ _
   | exact impl_UnitMatrix.mono _ _
   | exact laws_daMatrix.mono _ _ _ _ _
   | exact spec_DrawIsIdempotent.mono _ _
   | exact spec_DrawMulGrades.mono _ _
   | exact spec_MulGrades.mono _ _ _ _ _
   | exact LeO.none _
   | refine LeO.ite ?_ ?_
   | refine LeO.bind ?_ (fun _ => ?_)
  ·intro y0 y1 y2 y3 y4 y5 y6
   unfold laws_FnMulGrades.j3
   repeat' first
   | (with_reducible exact ih0 _ _ _)
   | (with_reducible exact ih1 _ _)
   | (with_reducible exact ih2 _ _ _ _ _ _ _ _ _ _ _ _)
   | (with_reducible exact ih3 _ _ _ _ _ _ _)
   | (with_reducible exact ih4 _ _ _ _ _ _ _ _ _)
   | (with_reducible exact ih5 _ _ _ _ _ _ _ _)
   | (with_reducible exact impl_GradesOf.mono _ _ _)
   | (with_reducible exact impl_GradesValid.mono _ _ _)
   | (with_reducible exact impl_MulGrades.mono _ _ _ _ _)
   | (with_reducible exact impl_UnitMatrix.mono _ _)
   | (with_reducible exact laws_daMatrix.mono _ _ _ _ _)
   | (with_reducible exact spec_DrawIsIdempotent.mono _ _)
   | (with_reducible exact spec_DrawMulGrades.mono _ _)
   | (with_reducible exact spec_MulGrades.mono _ _ _ _ _)
   | (with_reducible exact LeO.refl _)
   | (with_reducible exact LeO.none _)
   | (with_reducible refine LeO.ite ?_ ?_)
   | (with_reducible refine LeO.bind ?_ (fun _ => ?_))
   | exact ih0 _ _ _
   | exact ih1 _ _
   | exact ih2 _ _ _ _ _ _ _ _ _ _ _ _
   | exact ih3 _ _ _ _ _ _ _
   | exact ih4 _ _ _ _ _ _ _ _ _
   | exact ih5 _ _ _ _ _ _ _ _
   | exact impl_GradesOf.mono _ _ _
   | exact impl_GradesValid.mono _ _ _
   | exact impl_MulGrades.mono _ _ _ _ _
   | exact impl_UnitMatrix.mono _ _
   | exact laws_daMatrix.mono _ _ _ _ _
   | exact spec_DrawIsIdempotent.mono _ _
   | exact spec_DrawMulGrades.mono _ _
   | exact spec_MulGrades.mono _ _ _ _ _
   | exact LeO.none _
   | refine LeO.ite ?_ ?_
   | refine LeO.bind ?_ (fun _ => ?_)
  ·intro y0 y1 y2 y3 y4 y5 y6 y7 y8
   unfold laws_FnMulGrades.j4
   repeat' first
   | (with_reducible exact ih0 _ _ _)
   | (with_reducible exact ih1 _ _)
   | (with_reducible exact ih2 _ _ _ _ _ _ _ _ _ _ _ _)
   | (with_reducible exact ih3 _ _ _ _ _ _ _)
   | (with_reducible exact ih4 _ _ _ _ _ _ _ _ _)
   | (with_reducible exact ih5 _ _ _ _ _ _ _ _)
   | (with_reducible exact impl_GradesOf.mono _ _ _)
   | (with_reducible exact impl_GradesValid.mono _ _ _)
   | (with_reducible exact impl_MulGrades.mono _ _ _ _ _)
   | (with_reducible exact impl_UnitMatrix.mono _ _)
   | (with_reducible exact laws_daMatrix.mono _ _ _ _ _)
   | (with_reducible exact spec_DrawIsIdempotent.mono _ _)
   | (with_reducible exact spec_DrawMulGrades.mono _ _)
   | (with_reducible exact spec_MulGrades.mono _ _ _ _ _)
   | (with_reducible exact LeO.refl _)
   | (with_reducible exact LeO.none _)
   | (with_reducible refine LeO.ite ?_ ?_)
   | (with_reducible refine LeO.bind ?_ (fun _ => ?_))
   | exact ih0 _ _ _
   | exact ih1 _ _
   | exact ih2 _ _ _ _ _ _ _ _ _ _ _ _
   | exact ih3 _ _ _ _ _ _ _
   | exact ih4 _ _ _ _ _ _ _ _ _
   | exact ih5 _ _ _ _ _ _ _ _
   | exact impl_GradesOf.mono _ _ _
   | exact impl_GradesValid.mono _ _ _
   | exact impl_MulGrades.mono _ _ _ _ _
   | exact impl_UnitMatrix.mono _ _
   | exact laws_daMatrix.mono _ _ _ _ _
   | exact spec_DrawIsIdempotent.mono _ _
   | exact spec_DrawMulGrades.mono _ _
   | exact spec_MulGrades.mono _ _ _ _ _
   | exact LeO.none _
   | refine LeO.ite ?_ ?_
   | refine LeO.bind ?_ (fun _ => ?_)
  ·intro y0 y1 y2 y3 y4 y5 y6 y7
   unfold laws_FnMulGrades.j5
   repeat' first
   | (with_reducible exact ih0 _ _ _)
   | (with_reducible exact ih1 _ _)
   | (with_reducible exact ih2 _ _ _ _ _ _ _ _ _ _ _ _)
   | (with_reducible exact ih3 _ _ _ _ _ _ _)
   | (with_reducible exact ih4 _ _ _ _ _ _ _ _ _)
   | (with_reducible exact ih5 _ _ _ _ _ _ _ _)
   | (with_reducible exact impl_GradesOf.mono _ _ _)
   | (with_reducible exact impl_GradesValid.mono _ _ _)
   | (with_reducible exact impl_MulGrades.mono _ _ _ _ _)
   | (with_reducible exact impl_UnitMatrix.mono _ _)
   | (with_reducible exact laws_daMatrix.mono _ _ _ _ _)
   | (with_reducible exact spec_DrawIsIdempotent.mono _ _)
   | (with_reducible exact spec_DrawMulGrades.mono _ _)
   | (with_reducible exact spec_MulGrades.mono _ _ _ _ _)
   | (with_reducible exact LeO.refl _)
   | (with_reducible exact LeO.none _)
   | (with_reducible refine LeO.ite ?_ ?_)
   | (with_reducible refine LeO.bind ?_ (fun _ => ?_))
   | exact ih0 _ _ _
   | exact ih1 _ _
   | exact ih2 _ _ _ _ _ _ _ _ _ _ _ _
   | exact ih3 _ _ _ _ _ _ _
   | exact ih4 _ _ _ _ _ _ _ _ _
   | exact ih5 _ _ _ _ _ _ _ _
   | exact impl_GradesOf.mono _ _ _
   | exact impl_GradesValid.mono _ _ _
   | exact impl_MulGrades.mono _ _ _ _ _
   | exact impl_UnitMatrix.mono _ _
   | exact laws_daMatrix.mono _ _ _ _ _
   | exact spec_DrawIsIdempotent.mono _ _
   | exact spec_DrawMulGrades.mono _ _
   | exact spec_MulGrades.mono _ _ _ _ _
   | exact LeO.none _
   | refine LeO.ite ?_ ?_
   | refine LeO.bind ?_ (fun _ => ?_)
theorem laws_FnMulGrades.mono : ∀ a0 a1 k,LeO (laws_FnMulGrades.f k a0 a1) (laws_FnMulGrades.f (k + 1) a0 a1):=by
 intro a0 a1 k
 obtain ⟨ih0,ih1,ih2,ih3,ih4,ih5⟩:=laws_FnMulGrades.mono_l k
 unfold laws_FnMulGrades.f
 repeat' first
   | (with_reducible exact ih0 _ _ _)
   | (with_reducible exact ih1 _ _)
   | (with_reducible exact ih2 _ _ _ _ _ _ _ _ _ _ _ _)
   | (with_reducible exact ih3 _ _ _ _ _ _ _)
   | (with_reducible exact ih4 _ _ _ _ _ _ _ _ _)
   | (with_reducible exact ih5 _ _ _ _ _ _ _ _)
   | (with_reducible exact impl_GradesOf.mono _ _ _)
   | (with_reducible exact impl_GradesValid.mono _ _ _)
   | (with_reducible exact impl_MulGrades.mono _ _ _ _ _)
   | (with_reducible exact impl_UnitMatrix.mono _ _)
   | (with_reducible exact laws_daMatrix.mono _ _ _ _ _)
   | (with_reducible exact spec_DrawIsIdempotent.mono _ _)
   | (with_reducible exact spec_DrawMulGrades.mono _ _)
   | (with_reducible exact spec_MulGrades.mono _ _ _ _ _)
   | (with_reducible exact LeO.refl _)
   | (with_reducible exact LeO.none _)
   | (with_reducible refine LeO.ite ?_ ?_)
   | (with_reducible refine LeO.bind ?_ (fun _ => ?_))
   | exact ih0 _ _ _
   | exact ih1 _ _
   | exact ih2 _ _ _ _ _ _ _ _ _ _ _ _
   | exact ih3 _ _ _ _ _ _ _
   | exact ih4 _ _ _ _ _ _ _ _ _
   | exact ih5 _ _ _ _ _ _ _ _
   | exact impl_GradesOf.mono _ _ _
   | exact impl_GradesValid.mono _ _ _
   | exact impl_MulGrades.mono _ _ _ _ _
   | exact impl_UnitMatrix.mono _ _
   | exact laws_daMatrix.mono _ _ _ _ _
   | exact spec_DrawIsIdempotent.mono _ _
   | exact spec_DrawMulGrades.mono _ _
   | exact spec_MulGrades.mono _ _ _ _ _
   | exact LeO.none _
   | refine LeO.ite ?_ ?_
   | refine LeO.bind ?_ (fun _ => ?_)
end Go.Proofs.Ytengegdaiphfeaa.X
end
