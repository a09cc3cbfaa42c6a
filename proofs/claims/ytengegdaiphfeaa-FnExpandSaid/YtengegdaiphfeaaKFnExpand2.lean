import Derived.Test.YtengegdaiphfeaaKFnExpand1
section
namespace Go.Proofs.Ytengegdaiphfeaa.X
open Go.RowKit Go.Proofs.YtengegdaiphfeaaW.PrintWords Go.Proofs.YtengegdaiphfeaaW.PrintLast Go.Proofs.YtengegdaiphfeaaW.PrintMore
attribute [local go_sem] max2_int min2_int max_two min_two max_three min_three max_four min_four
set_option linter.unusedVariables false
set_option linter.unusedSimpArgs false
def spec_l7Text.f (k : Nat) (s0_0 : List Int) (s0_1 : Int) : Option (ByteArray × Int):=(spec_l13Rd_pick.f k s0_0 s0_1 3).bind fun bt946 => ((spec_l7Draw.f k s0_0 bt946.2 bt946.1).bind fun bt948 => ((spec_l13Rd_pick.f k s0_0 bt948.2 12).bind fun bt950 => (if bt950.1 > 0 then (some (bt948.1,bt950.2)) else ((spec_l13Rd_pick.f k s0_0 bt950.2 (bt948.1.size : Int)).bind fun bt952 => (if 0 ≤ bt952.1 then (if bt952.1 ≤ (bt948.1.size : Int) then ((spec_l13Rd_of.f k s0_0 bt952.2 (([(⟨#[]⟩ : ByteArray),(⟨#[40]⟩ : ByteArray),(⟨#[41]⟩ : ByteArray),(⟨#[35]⟩ : ByteArray),(⟨#[41,35]⟩ : ByteArray),(⟨#[99]⟩ : ByteArray)] : List ByteArray))).bind fun bt957 => (if (bt952.1 : Int).toNat + bt957.1.size ≤ 9223372036854775807 then ((spec_l13Rd_pick.f k s0_0 bt957.2 2).bind fun bt959 => (if 0 ≤ (wrap64 (bt952.1 + bt959.1)) then (if (wrap64 (bt952.1 + bt959.1)) ≤ (bt948.1.size : Int) then (if (bt952.1 : Int).toNat + bt957.1.size + (bt948.1.size - ((wrap64 (bt952.1 + bt959.1)) : Int).toNat) ≤ 9223372036854775807 then (some (((bt948.1.extract 0 (bt952.1 : Int).toNat) ++ bt957.1) ++ (bt948.1.extract ((wrap64 (bt952.1 + bt959.1)) : Int).toNat bt948.1.size),bt959.2)) else (none)) else (none)) else (none))) else (none))) else (none)) else (none))))))
theorem spec_l7Text.mono : ∀ a0 a1 k,LeO (spec_l7Text.f k a0 a1) (spec_l7Text.f (k + 1) a0 a1):=by
 intro a0 a1 k
 unfold spec_l7Text.f
 repeat' first
   | (with_reducible exact spec_l13Rd_of.mono _ _ _ _)
   | (with_reducible exact spec_l13Rd_pick.mono _ _ _ _)
   | (with_reducible exact spec_l7Draw.mono _ _ _ _)
   | (with_reducible exact LeO.refl _)
   | (with_reducible exact LeO.none _)
   | (with_reducible refine LeO.ite ?_ ?_)
   | (with_reducible refine LeO.bind ?_ (fun _ => ?_))
   | exact spec_l13Rd_of.mono _ _ _ _
   | exact spec_l13Rd_pick.mono _ _ _ _
   | exact spec_l7Draw.mono _ _ _ _
   | exact LeO.none _
   | refine LeO.ite ?_ ?_
   | refine LeO.bind ?_ (fun _ => ?_)
def spec_l7Text.T5 : Bool × List (List Nat × List Nat):=(true,[([],[]),([],[]),([0,1],[0,1]),([],[]),([],[]),([3,4],[3,4]),([2,5],[2,5]),([],[]),([],[]),([],[]),([9,5],[9]),([8,10],[8,10]),([7,11],[7,11]),([6,12],[6,12]),([13,10,0,1,2,3,4,5,6,7,8,9,10,11,12,13],[13])])
def spec_l7Text.B5 : List Nat:=[0,0,3,0,0,24,63,0,0,0,568,1848,4024,8191,16383]
theorem spec_l7Text.tab5 : rtab .any (opsOf Try.f87 5) = spec_l7Text.T5:=by kernel_rfl
theorem spec_l7Text.bits5 : waitsOk spec_l7Text.T5.2 spec_l7Text.B5 = true:=by kernel_rfl
set_option maxHeartbeats 8000000 in
set_option maxRecDepth 100000 in
theorem spec_l7Text.calls (k : Nat) (g : Nat) (s0_0 : List Int) (s0_1 : Int) (r1 : ByteArray) (r2 : Int) (w0 w : World) (hI : IsS90 w0 w g s0_0 s0_1) (hB : Below w0.heap.size w0 w) (h : spec_l7Text.f k s0_0 s0_1 = some (r1,r2)) :
  Calls Try.prog 87 #[.pointer (some ⟨g,0,none⟩)] w fun e w' => e = .returned (.string r1) ∧ IsS90 w0 w' g s0_0 r2 ∧ Below w0.heap.size w0 w' ∧ KeepBut w w' g none:=by
 have HI0:=Aside0.mk hI
 have HK:=Aside0.mk (KeepBut.refl w g none)
 have HL:=Aside0.mk hB.size
 clear hI
 have HW0:=Aside0.mk hB.size
 have HB:=Aside0.mk hB
 clear hB
 have H : ((spec_l13Rd_pick.f k s0_0 s0_1 3).bind fun bt946 => ((spec_l7Draw.f k s0_0 bt946.2 bt946.1).bind fun bt948 => ((spec_l13Rd_pick.f k s0_0 bt948.2 12).bind fun bt950 => (if bt950.1 > 0 then (some (bt948.1,bt950.2)) else ((spec_l13Rd_pick.f k s0_0 bt950.2 (bt948.1.size : Int)).bind fun bt952 => (if 0 ≤ bt952.1 then (if bt952.1 ≤ (bt948.1.size : Int) then ((spec_l13Rd_of.f k s0_0 bt952.2 (([(⟨#[]⟩ : ByteArray),(⟨#[40]⟩ : ByteArray),(⟨#[41]⟩ : ByteArray),(⟨#[35]⟩ : ByteArray),(⟨#[41,35]⟩ : ByteArray),(⟨#[99]⟩ : ByteArray)] : List ByteArray))).bind fun bt957 => (if (bt952.1 : Int).toNat + bt957.1.size ≤ 9223372036854775807 then ((spec_l13Rd_pick.f k s0_0 bt957.2 2).bind fun bt959 => (if 0 ≤ (wrap64 (bt952.1 + bt959.1)) then (if (wrap64 (bt952.1 + bt959.1)) ≤ (bt948.1.size : Int) then (if (bt952.1 : Int).toNat + bt957.1.size + (bt948.1.size - ((wrap64 (bt952.1 + bt959.1)) : Int).toNat) ≤ 9223372036854775807 then (some (((bt948.1.extract 0 (bt952.1 : Int).toNat) ++ bt957.1) ++ (bt948.1.extract ((wrap64 (bt952.1 + bt959.1)) : Int).toNat bt948.1.size),bt959.2)) else (none)) else (none)) else (none))) else (none))) else (none)) else (none))))))) = some (r1,r2):=h
 clear h
 replace H:=Option.bind_eq_some_iff.mp H
 obtain ⟨⟨t946,t947⟩,A20,H⟩:=H
 replace H : ((spec_l7Draw.f k s0_0 t947 t946).bind fun bt948 => ((spec_l13Rd_pick.f k s0_0 bt948.2 12).bind fun bt950 => (if bt950.1 > 0 then (some (bt948.1,bt950.2)) else ((spec_l13Rd_pick.f k s0_0 bt950.2 (bt948.1.size : Int)).bind fun bt952 => (if 0 ≤ bt952.1 then (if bt952.1 ≤ (bt948.1.size : Int) then ((spec_l13Rd_of.f k s0_0 bt952.2 (([(⟨#[]⟩ : ByteArray),(⟨#[40]⟩ : ByteArray),(⟨#[41]⟩ : ByteArray),(⟨#[35]⟩ : ByteArray),(⟨#[41,35]⟩ : ByteArray),(⟨#[99]⟩ : ByteArray)] : List ByteArray))).bind fun bt957 => (if (bt952.1 : Int).toNat + bt957.1.size ≤ 9223372036854775807 then ((spec_l13Rd_pick.f k s0_0 bt957.2 2).bind fun bt959 => (if 0 ≤ (wrap64 (bt952.1 + bt959.1)) then (if (wrap64 (bt952.1 + bt959.1)) ≤ (bt948.1.size : Int) then (if (bt952.1 : Int).toNat + bt957.1.size + (bt948.1.size - ((wrap64 (bt952.1 + bt959.1)) : Int).toNat) ≤ 9223372036854775807 then (some (((bt948.1.extract 0 (bt952.1 : Int).toNat) ++ bt957.1) ++ (bt948.1.extract ((wrap64 (bt952.1 + bt959.1)) : Int).toNat bt948.1.size),bt959.2)) else (none)) else (none)) else (none))) else (none))) else (none)) else (none)))))) = some (r1,r2):=H
 have A2:=Aside0.mk A20
 clear A20
 replace H:=Option.bind_eq_some_iff.mp H
 obtain ⟨⟨t948,t949⟩,A30,H⟩:=H
 replace H : ((spec_l13Rd_pick.f k s0_0 t949 12).bind fun bt950 => (if bt950.1 > 0 then (some (t948,bt950.2)) else ((spec_l13Rd_pick.f k s0_0 bt950.2 (t948.size : Int)).bind fun bt952 => (if 0 ≤ bt952.1 then (if bt952.1 ≤ (t948.size : Int) then ((spec_l13Rd_of.f k s0_0 bt952.2 (([(⟨#[]⟩ : ByteArray),(⟨#[40]⟩ : ByteArray),(⟨#[41]⟩ : ByteArray),(⟨#[35]⟩ : ByteArray),(⟨#[41,35]⟩ : ByteArray),(⟨#[99]⟩ : ByteArray)] : List ByteArray))).bind fun bt957 => (if (bt952.1 : Int).toNat + bt957.1.size ≤ 9223372036854775807 then ((spec_l13Rd_pick.f k s0_0 bt957.2 2).bind fun bt959 => (if 0 ≤ (wrap64 (bt952.1 + bt959.1)) then (if (wrap64 (bt952.1 + bt959.1)) ≤ (t948.size : Int) then (if (bt952.1 : Int).toNat + bt957.1.size + (t948.size - ((wrap64 (bt952.1 + bt959.1)) : Int).toNat) ≤ 9223372036854775807 then (some (((t948.extract 0 (bt952.1 : Int).toNat) ++ bt957.1) ++ (t948.extract ((wrap64 (bt952.1 + bt959.1)) : Int).toNat t948.size),bt959.2)) else (none)) else (none)) else (none))) else (none))) else (none)) else (none))))) = some (r1,r2):=H
 have A3:=Aside0.mk A30
 clear A30
 replace H:=Option.bind_eq_some_iff.mp H
 obtain ⟨⟨t950,t951⟩,A40,H⟩:=H
 replace H : (if t950 > 0 then (some (t948,t951)) else ((spec_l13Rd_pick.f k s0_0 t951 (t948.size : Int)).bind fun bt952 => (if 0 ≤ bt952.1 then (if bt952.1 ≤ (t948.size : Int) then ((spec_l13Rd_of.f k s0_0 bt952.2 (([(⟨#[]⟩ : ByteArray),(⟨#[40]⟩ : ByteArray),(⟨#[41]⟩ : ByteArray),(⟨#[35]⟩ : ByteArray),(⟨#[41,35]⟩ : ByteArray),(⟨#[99]⟩ : ByteArray)] : List ByteArray))).bind fun bt957 => (if (bt952.1 : Int).toNat + bt957.1.size ≤ 9223372036854775807 then ((spec_l13Rd_pick.f k s0_0 bt957.2 2).bind fun bt959 => (if 0 ≤ (wrap64 (bt952.1 + bt959.1)) then (if (wrap64 (bt952.1 + bt959.1)) ≤ (t948.size : Int) then (if (bt952.1 : Int).toNat + bt957.1.size + (t948.size - ((wrap64 (bt952.1 + bt959.1)) : Int).toNat) ≤ 9223372036854775807 then (some (((t948.extract 0 (bt952.1 : Int).toNat) ++ bt957.1) ++ (t948.extract ((wrap64 (bt952.1 + bt959.1)) : Int).toNat t948.size),bt959.2)) else (none)) else (none)) else (none))) else (none))) else (none)) else (none)))) = some (r1,r2):=H
 have A4:=Aside0.mk A40
 clear A40
 by_cases c5 : t950 > 0
 ·rw [if_pos c5] at H
  have c5b0 : decide (0 < t950) = true:=decide_eq_true c5
  clear c5
  simp only [Option.some.injEq,Prod.mk.injEq] at H
  obtain ⟨rfl,rfl⟩:=H
  go_enter Try.func87,Try.ntmps87
  go_wp2_with (first|((with_reducible refine gate_callee (f:=76) rfl ?_);refine goesL_ (some 7) rfl rfl Try.func76 (by kernel_rfl) rfl #[.pointer (some ⟨g,0,none⟩),.int .i64 3] rfl lp_ ?_;(with_reducible refine (spec_l13Rd_pick.calls k g s0_0 s0_1 3 t946 t947 w0 _ ?side1 ?side2 A2.out).mono ?_);(case side1 => repeat (first|(with_reducible first|exact HI0.out|apply IsS90.alloc|apply IsS90.drewN|apply IsS90.drew|apply IsS90.set_1)|exact HI0.out));(case side2 => repeat (first|(with_reducible first|exact HB.out|apply below_alloc|apply pw_below_drewN|apply below_drew1|refine below_set ?_ (IsS90.ge HI0.out))|exact HB.out));rintro e w6 ⟨rfl,hi,hb,hk⟩;refine ⟨_,rfl,?_⟩;have n0_:=Aside0.mk (KeepBut.trans (ke0_ HK.out) hk (.inl rfl));have n1_:=Aside0.mk (hb);have n2_:=Aside0.mk (hi);clear HK;clear HB;clear HI0;have HK:=n0_;have HB:=n1_;have HI0:=n2_;clear n0_ n1_ n2_;(try clear hb);(try clear hb2);(try clear hk);(try clear hi))|((with_reducible refine gate_callee (f:=107) rfl ?_);refine goesL_ (some 8) rfl rfl Try.func107 (by kernel_rfl) rfl #[.pointer (some ⟨g,0,none⟩),.int .i64 t946] rfl lp_ ?_;(with_reducible refine (spec_l7Draw.calls k g s0_0 t947 t946 t948 t949 w0 _ ?side1 ?side2 A3.out).mono ?_);(case side1 => repeat (first|(with_reducible first|exact HI0.out|apply IsS90.alloc|apply IsS90.drewN|apply IsS90.drew|apply IsS90.set_1)|exact HI0.out));(case side2 => repeat (first|(with_reducible first|exact HB.out|apply below_alloc|apply pw_below_drewN|apply below_drew1|refine below_set ?_ (IsS90.ge HI0.out))|exact HB.out));rintro e w7 ⟨rfl,hi,hb,hk⟩;refine ⟨_,rfl,?_⟩;have n0_:=Aside0.mk (KeepBut.trans (ke0_ HK.out) hk (.inl rfl));have n1_:=Aside0.mk (hb);have n2_:=Aside0.mk (hi);clear HK;clear HB;clear HI0;have HK:=n0_;have HB:=n1_;have HI0:=n2_;clear n0_ n1_ n2_;(try clear hb);(try clear hb2);(try clear hk);(try clear hi))|((with_reducible refine gate_callee (f:=76) rfl ?_);refine goesL_ (some 10) rfl rfl Try.func76 (by kernel_rfl) rfl #[.pointer (some ⟨g,0,none⟩),.int .i64 12] rfl lp_ ?_;(with_reducible refine (spec_l13Rd_pick.calls k g s0_0 t949 12 t950 t951 w0 _ ?side1 ?side2 A4.out).mono ?_);(case side1 => repeat (first|(with_reducible first|exact HI0.out|apply IsS90.alloc|apply IsS90.drewN|apply IsS90.drew|apply IsS90.set_1)|exact HI0.out));(case side2 => repeat (first|(with_reducible first|exact HB.out|apply below_alloc|apply pw_below_drewN|apply below_drew1|refine below_set ?_ (IsS90.ge HI0.out))|exact HB.out));rintro e w8 ⟨rfl,hi,hb,hk⟩;refine ⟨_,rfl,?_⟩;have n0_:=Aside0.mk (KeepBut.trans (ke0_ HK.out) hk (.inl rfl));have n1_:=Aside0.mk (hb);have n2_:=Aside0.mk (hi);clear HK;clear HB;clear HI0;have HK:=n0_;have HB:=n1_;have HI0:=n2_;clear n0_ n1_ n2_;(try clear hb);(try clear hb2);(try clear hk);(try clear hi)))
  go_ret
  exact ⟨by first|rfl|(simp [errW_none,errW_some] <;> rfl)|(simp [*,errW_none,errW_some] <;> rfl),by repeat (first|(with_reducible first|exact HI0.out|apply IsS90.alloc|apply IsS90.drewN|apply IsS90.drew|apply IsS90.set_1)|exact HI0.out),by repeat (first|(with_reducible first|exact HB.out|apply below_alloc|apply pw_below_drewN|apply below_drew1|refine below_set ?_ (IsS90.ge HI0.out))|exact HB.out),ke0_ HK.out⟩
 ·rw [if_neg c5] at H
  have c5b0 : decide (0 < t950) = false:=decide_eq_false c5
  clear c5
  replace H:=Option.bind_eq_some_iff.mp H
  obtain ⟨⟨t952,t953⟩,A90,H⟩:=H
  replace H : (if 0 ≤ t952 then (if t952 ≤ (t948.size : Int) then ((spec_l13Rd_of.f k s0_0 t953 (([(⟨#[]⟩ : ByteArray),(⟨#[40]⟩ : ByteArray),(⟨#[41]⟩ : ByteArray),(⟨#[35]⟩ : ByteArray),(⟨#[41,35]⟩ : ByteArray),(⟨#[99]⟩ : ByteArray)] : List ByteArray))).bind fun bt957 => (if (t952 : Int).toNat + bt957.1.size ≤ 9223372036854775807 then ((spec_l13Rd_pick.f k s0_0 bt957.2 2).bind fun bt959 => (if 0 ≤ (wrap64 (t952 + bt959.1)) then (if (wrap64 (t952 + bt959.1)) ≤ (t948.size : Int) then (if (t952 : Int).toNat + bt957.1.size + (t948.size - ((wrap64 (t952 + bt959.1)) : Int).toNat) ≤ 9223372036854775807 then (some (((t948.extract 0 (t952 : Int).toNat) ++ bt957.1) ++ (t948.extract ((wrap64 (t952 + bt959.1)) : Int).toNat t948.size),bt959.2)) else (none)) else (none)) else (none))) else (none))) else (none)) else (none)) = some (r1,r2):=H
  have A9:=Aside0.mk A90
  clear A90
  by_cases c10 : 0 ≤ t952
  ·rw [if_pos c10] at H
   have c10b0:=eq_true c10
   have c10b1 : decide (0 ≤ t952) = true:=decide_eq_true c10
   clear c10
   by_cases c11 : t952 ≤ (t948.size : Int)
   ·rw [if_pos c11] at H
    have c11b0:=eq_true c11
    have c11b1 : decide (t952 ≤ (t948.size : Int)) = true:=decide_eq_true c11
    clear c11
    obtain ⟨y954,hy954⟩ : ∃ y_ : List ByteArray,y_ = (([(⟨#[]⟩ : ByteArray),(⟨#[40]⟩ : ByteArray),(⟨#[41]⟩ : ByteArray),(⟨#[35]⟩ : ByteArray),(⟨#[41,35]⟩ : ByteArray),(⟨#[99]⟩ : ByteArray)] : List ByteArray)):=⟨_,rfl⟩
    replace H : ((spec_l13Rd_of.f k s0_0 t953 y954).bind fun bt957 => (if (t952 : Int).toNat + bt957.1.size ≤ 9223372036854775807 then ((spec_l13Rd_pick.f k s0_0 bt957.2 2).bind fun bt959 => (if 0 ≤ (wrap64 (t952 + bt959.1)) then (if (wrap64 (t952 + bt959.1)) ≤ (t948.size : Int) then (if (t952 : Int).toNat + bt957.1.size + (t948.size - ((wrap64 (t952 + bt959.1)) : Int).toNat) ≤ 9223372036854775807 then (some (((t948.extract 0 (t952 : Int).toNat) ++ bt957.1) ++ (t948.extract ((wrap64 (t952 + bt959.1)) : Int).toNat t948.size),bt959.2)) else (none)) else (none)) else (none))) else (none))) = some (r1,r2):=by first|(rw [hy954];with_reducible exact H)|(have H2_:=(Option.bind_some _ _).symm.trans H;rw [hy954];with_reducible exact H2_)|(have H2_:=(Option.bind_some _ _).symm.trans H;with_reducible exact H2_)|with_reducible exact H|(rw [hy954];exact H)|exact H
    have Ny954:=Aside0.mk hy954
    clear hy954
    replace H:=Option.bind_eq_some_iff.mp H
    obtain ⟨⟨t957,t958⟩,A120,H⟩:=H
    replace H : (if (t952 : Int).toNat + t957.size ≤ 9223372036854775807 then ((spec_l13Rd_pick.f k s0_0 t958 2).bind fun bt959 => (if 0 ≤ (wrap64 (t952 + bt959.1)) then (if (wrap64 (t952 + bt959.1)) ≤ (t948.size : Int) then (if (t952 : Int).toNat + t957.size + (t948.size - ((wrap64 (t952 + bt959.1)) : Int).toNat) ≤ 9223372036854775807 then (some (((t948.extract 0 (t952 : Int).toNat) ++ t957) ++ (t948.extract ((wrap64 (t952 + bt959.1)) : Int).toNat t948.size),bt959.2)) else (none)) else (none)) else (none))) else (none)) = some (r1,r2):=H
    have A12:=Aside0.mk A120
    clear A120
    by_cases c13 : (t952 : Int).toNat + t957.size ≤ 9223372036854775807
    ·rw [if_pos c13] at H
     have c13b0:=eq_true c13
     have c13b1 : decide ((t952 : Int).toNat + t957.size ≤ 9223372036854775807) = true:=decide_eq_true c13
     try have c13b2 : (9223372036854775807 < (t952 : Int).toNat + t957.size) = False:=eq_false (Nat.not_lt.2 c13)
     replace H:=Option.bind_eq_some_iff.mp H
     obtain ⟨⟨t959,t960⟩,A140,H⟩:=H
     replace H : (if 0 ≤ (wrap64 (t952 + t959)) then (if (wrap64 (t952 + t959)) ≤ (t948.size : Int) then (if (t952 : Int).toNat + t957.size + (t948.size - ((wrap64 (t952 + t959)) : Int).toNat) ≤ 9223372036854775807 then (some (((t948.extract 0 (t952 : Int).toNat) ++ t957) ++ (t948.extract ((wrap64 (t952 + t959)) : Int).toNat t948.size),t960)) else (none)) else (none)) else (none)) = some (r1,r2):=H
     have A14:=Aside0.mk A140
     clear A140
     obtain ⟨ji15,hji15⟩ : ∃ j_ : Int,(wrap64 (t952 + t959)) = j_:=⟨_,rfl⟩
     replace H : (if 0 ≤ (ji15) then (if (ji15) ≤ (t948.size : Int) then (if (t952 : Int).toNat + t957.size + (t948.size - ((ji15) : Int).toNat) ≤ 9223372036854775807 then (some (((t948.extract 0 (t952 : Int).toNat) ++ t957) ++ (t948.extract ((ji15) : Int).toNat t948.size),t960)) else (none)) else (none)) else (none)) = some (r1,r2):=by first|(rw [hji15] at H;exact H)|(simp only [hji15] at H ⊢;exact H)
     (try rw [hji15] at A2)
     (try rw [hji15] at A3)
     (try rw [hji15] at A4)
     (try rw [hji15] at A9)
     (try rw [hji15] at A12)
     (try rw [hji15] at A14)
     have hji15w : (IntKind.i64.wrap (t952 + t959)) = ji15:=(i64_w _).trans hji15
     by_cases c16 : 0 ≤ (ji15)
     ·rw [if_pos c16] at H
      have c16b0:=eq_true c16
      have c16b1 : decide (0 ≤ (ji15)) = true:=decide_eq_true c16
      clear c16
      by_cases c17 : (ji15) ≤ (t948.size : Int)
      ·rw [if_pos c17] at H
       have c17b0:=eq_true c17
       have c17b1 : decide ((ji15) ≤ (t948.size : Int)) = true:=decide_eq_true c17
       clear c17
       by_cases c18 : (t952 : Int).toNat + t957.size + (t948.size - ((ji15) : Int).toNat) ≤ 9223372036854775807
       ·rw [if_pos c18] at H
        have c18b0:=eq_true c18
        have c18b1 : decide ((t952 : Int).toNat + t957.size + (t948.size - ((ji15) : Int).toNat) ≤ 9223372036854775807) = true:=decide_eq_true c18
        try have c18b2 : (9223372036854775807 < (t952 : Int).toNat + t957.size + (t948.size - ((ji15) : Int).toNat)) = False:=eq_false (Nat.not_lt.2 c18)
        simp only [Option.some.injEq,Prod.mk.injEq] at H
        obtain ⟨rfl,rfl⟩:=H
        go_enter Try.func87,Try.ntmps87
        try go_wp2_with (first|((with_reducible refine gate_callee (f:=76) rfl ?_);refine goesL_ (some 7) rfl rfl Try.func76 (by kernel_rfl) rfl #[.pointer (some ⟨g,0,none⟩),.int .i64 3] rfl lp_ ?_;(with_reducible refine (spec_l13Rd_pick.calls k g s0_0 s0_1 3 t946 t947 w0 _ ?side1 ?side2 A2.out).mono ?_);(case side1 => repeat (first|(with_reducible first|exact HI0.out|apply IsS90.alloc|apply IsS90.drewN|apply IsS90.drew|apply IsS90.set_1)|exact HI0.out));(case side2 => repeat (first|(with_reducible first|exact HB.out|apply below_alloc|apply pw_below_drewN|apply below_drew1|refine below_set ?_ (IsS90.ge HI0.out))|exact HB.out));rintro e w19 ⟨rfl,hi,hb,hk⟩;refine ⟨_,rfl,?_⟩;have n0_:=Aside0.mk (KeepBut.trans (ke0_ HK.out) hk (.inl rfl));have n1_:=Aside0.mk (hb);have n2_:=Aside0.mk (hi);clear HK;clear HB;clear HI0;have HK:=n0_;have HB:=n1_;have HI0:=n2_;clear n0_ n1_ n2_;(try clear hb);(try clear hb2);(try clear hk);(try clear hi))|((with_reducible refine gate_callee (f:=107) rfl ?_);refine goesL_ (some 8) rfl rfl Try.func107 (by kernel_rfl) rfl #[.pointer (some ⟨g,0,none⟩),.int .i64 t946] rfl lp_ ?_;(with_reducible refine (spec_l7Draw.calls k g s0_0 t947 t946 t948 t949 w0 _ ?side1 ?side2 A3.out).mono ?_);(case side1 => repeat (first|(with_reducible first|exact HI0.out|apply IsS90.alloc|apply IsS90.drewN|apply IsS90.drew|apply IsS90.set_1)|exact HI0.out));(case side2 => repeat (first|(with_reducible first|exact HB.out|apply below_alloc|apply pw_below_drewN|apply below_drew1|refine below_set ?_ (IsS90.ge HI0.out))|exact HB.out));rintro e w20 ⟨rfl,hi,hb,hk⟩;refine ⟨_,rfl,?_⟩;have n0_:=Aside0.mk (KeepBut.trans (ke0_ HK.out) hk (.inl rfl));have n1_:=Aside0.mk (hb);have n2_:=Aside0.mk (hi);clear HK;clear HB;clear HI0;have HK:=n0_;have HB:=n1_;have HI0:=n2_;clear n0_ n1_ n2_;(try clear hb);(try clear hb2);(try clear hk);(try clear hi))|((with_reducible refine gate_callee (f:=76) rfl ?_);refine goesL_ (some 10) rfl rfl Try.func76 (by kernel_rfl) rfl #[.pointer (some ⟨g,0,none⟩),.int .i64 12] rfl lp_ ?_;(with_reducible refine (spec_l13Rd_pick.calls k g s0_0 t949 12 t950 t951 w0 _ ?side1 ?side2 A4.out).mono ?_);(case side1 => repeat (first|(with_reducible first|exact HI0.out|apply IsS90.alloc|apply IsS90.drewN|apply IsS90.drew|apply IsS90.set_1)|exact HI0.out));(case side2 => repeat (first|(with_reducible first|exact HB.out|apply below_alloc|apply pw_below_drewN|apply below_drew1|refine below_set ?_ (IsS90.ge HI0.out))|exact HB.out));rintro e w21 ⟨rfl,hi,hb,hk⟩;refine ⟨_,rfl,?_⟩;have n0_:=Aside0.mk (KeepBut.trans (ke0_ HK.out) hk (.inl rfl));have n1_:=Aside0.mk (hb);have n2_:=Aside0.mk (hi);clear HK;clear HB;clear HI0;have HK:=n0_;have HB:=n1_;have HI0:=n2_;clear n0_ n1_ n2_;(try clear hb);(try clear hb2);(try clear hk);(try clear hi))|((with_reducible refine gate_callee (f:=76) rfl ?_);refine goesL_ (some 16) rfl rfl Try.func76 (by kernel_rfl) rfl #[.pointer (some ⟨g,0,none⟩),.int .i64 (t948.size : Int)] rfl lp_ ?_;(with_reducible refine (spec_l13Rd_pick.calls k g s0_0 t951 (t948.size : Int) t952 t953 w0 _ ?side1 ?side2 A9.out).mono ?_);(case side1 => repeat (first|(with_reducible first|exact HI0.out|apply IsS90.alloc|apply IsS90.drewN|apply IsS90.drew|apply IsS90.set_1)|exact HI0.out));(case side2 => repeat (first|(with_reducible first|exact HB.out|apply below_alloc|apply pw_below_drewN|apply below_drew1|refine below_set ?_ (IsS90.ge HI0.out))|exact HB.out));rintro e w22 ⟨rfl,hi,hb,hk⟩;refine ⟨_,rfl,?_⟩;have n0_:=Aside0.mk (KeepBut.trans (ke0_ HK.out) hk (.inl rfl));have n1_:=Aside0.mk (hb);have n2_:=Aside0.mk (hi);clear HK;clear HB;clear HI0;have HK:=n0_;have HB:=n1_;have HI0:=n2_;clear n0_ n1_ n2_;(try clear hb);(try clear hb2);(try clear hk);(try clear hi)))
        have n0_:=Aside0.mk (IsS90.drew HI0.out)
        have n1_:=Aside0.mk (keep_drew HK.out)
        have n2_:=Aside0.mk (below_drew1 HB.out)
        clear HI0
        clear HK
        clear HB
        have HI0:=n0_
        have HK:=n1_
        have HB:=n2_
        clear n0_ n1_ n2_
        refine start_ (n:=15) (S:=fun w' => True) (ds:=[]) #[false,false,false,false,false,false,false,false,false,false,false,false,false,false,false] (by kernel_rfl) rfl rfl trivial (fun hHeld => ?_);refine with_tabW spec_l7Text.tab5 spec_l7Text.bits5 (fun HT_ HW_ => ?_)
        generalize w22.drew = w23 at HI0 HK HB hHeld ⊢
        refine pure_ (i:=0) (N:=some 17) (v:=?_) (a':=?_) #[true,false,false,false,false,false,false,false,false,false,false,false,false,false,false] rfl rfl (any_of HT_.out (by kernel_rfl)) (fun _ _ _ h => h) (Or.inl ⟨by rfl,?_⟩) ?_ ?_
        rotate_left
        ·intro w'
         go_simp
         with_reducible rfl
        rotate_left
        ·simp only [Act.put,List.setIfInBounds_toArray,List.set_cons_zero,List.set_cons_succ,i64_w,i32_w]
         rfl
        refine pure_ (i:=1) (N:=some 18) (v:=?_) (a':=?_) #[true,true,false,false,false,false,false,false,false,false,false,false,false,false,false] rfl rfl (any_of HT_.out (by kernel_rfl)) (fun _ _ _ h => h) (Or.inl ⟨by rfl,?_⟩) ?_ ?_
        rotate_left
        ·intro w'
         go_simp
         with_reducible rfl
        rotate_left
        ·simp only [Act.put,List.setIfInBounds_toArray,List.set_cons_zero,List.set_cons_succ,i64_w,i32_w]
         rfl
        refine pure_ (i:=2) (N:=some 19) (v:=?_) (a':=?_) #[true,true,true,false,false,false,false,false,false,false,false,false,false,false,false] rfl rfl (any_of HT_.out (by kernel_rfl)) (fun _ _ _ h => h) (Or.inl ⟨by rfl,?_⟩) ?_ ?_
        rotate_left
        ·intro w'
         go_simp
         with_reducible rfl
        rotate_left
        ·simp only [Act.put,List.setIfInBounds_toArray,List.set_cons_zero,List.set_cons_succ,i64_w,i32_w]
         rfl
        refine pure_ (i:=3) (N:=some 20) (v:=?_) (a':=?_) #[true,true,true,true,false,false,false,false,false,false,false,false,false,false,false] rfl rfl (any_of HT_.out (by kernel_rfl)) (fun _ _ _ h => h) (Or.inl ⟨by rfl,?_⟩) ?_ ?_
        rotate_left
        ·intro w'
         go_simp
         with_reducible rfl
        rotate_left
        ·simp only [Act.put,List.setIfInBounds_toArray,List.set_cons_zero,List.set_cons_succ,i64_w,i32_w]
         rfl
        refine pure_ (i:=7) (N:=some 24) (v:=?_) (a':=?_) #[true,true,true,true,false,false,false,true,false,false,false,false,false,false,false] rfl rfl (any_of HT_.out (by kernel_rfl)) (fun _ _ _ h => h) (Or.inl ⟨by rfl,?_⟩) ?_ ?_
        rotate_left
        ·intro w'
         go_simp
         with_reducible rfl
        rotate_left
        ·simp only [Act.put,List.setIfInBounds_toArray,List.set_cons_zero,List.set_cons_succ,i64_w,i32_w]
         rfl
        refine pure_ (i:=8) (N:=some 25) (v:=?_) (a':=?_) #[true,true,true,true,false,false,false,true,true,false,false,false,false,false,false] rfl rfl (any_of HT_.out (by kernel_rfl)) (fun _ _ _ h => h) (Or.inl ⟨by rfl,?_⟩) ?_ ?_
        rotate_left
        ·intro w'
         go_simp
         with_reducible rfl
        rotate_left
        ·simp only [Act.put,List.setIfInBounds_toArray,List.set_cons_zero,List.set_cons_succ,i64_w,i32_w]
         rfl
        refine pure_ (i:=9) (N:=some 26) (v:=?_) (a':=?_) #[true,true,true,true,false,false,false,true,true,true,false,false,false,false,false] rfl rfl (any_of HT_.out (by kernel_rfl)) (fun _ _ _ h => h) (Or.inl ⟨by rfl,?_⟩) ?_ ?_
        rotate_left
        ·intro w'
         go_simp
         with_reducible rfl
        rotate_left
        ·simp only [Act.put,List.setIfInBounds_toArray,List.set_cons_zero,List.set_cons_succ,i64_w,i32_w]
         rfl
        refine one_ (i:=4) (N:=some 21) #[true,true,true,true,true,false,false,true,true,true,false,false,false,false,false] rfl rfl (one_of HT_.out (by kernel_rfl)) (by decide) (fun K hK => ?_)
        refine Kd.R_lit_step Kd.string _ 9 ?hg (N:=21) ?hd (xs:=([(⟨#[]⟩ : ByteArray),(⟨#[40]⟩ : ByteArray),(⟨#[41]⟩ : ByteArray),(⟨#[35]⟩ : ByteArray),(⟨#[41,35]⟩ : ByteArray),(⟨#[99]⟩ : ByteArray)] : List ByteArray)) (inner:=[.string (⟨#[]⟩ : ByteArray),.string (⟨#[40]⟩ : ByteArray),.string (⟨#[41]⟩ : ByteArray),.string (⟨#[35]⟩ : ByteArray),.string (⟨#[41,35]⟩ : ByteArray),.string (⟨#[99]⟩ : ByteArray)]) (ok:=fun _ => True) (okp:=fun _ => True) ?hr ?hp (fun _ hk => hk) trivial (Below.refl _ _) (Nat.le_refl _) (by simp) ?_;(case hd => rfl);(case hg => rfl);(case hr => first|(go_simp;done)|(go_simp;rfl));(case hp => exact (Reps.one (show Kd.M Kd.string _ _ _ (⟨#[]⟩ : ByteArray) [.string (⟨#[]⟩ : ByteArray)] from rfl) (Reps.one (show Kd.M Kd.string _ _ _ (⟨#[40]⟩ : ByteArray) [.string (⟨#[40]⟩ : ByteArray)] from rfl) (Reps.one (show Kd.M Kd.string _ _ _ (⟨#[41]⟩ : ByteArray) [.string (⟨#[41]⟩ : ByteArray)] from rfl) (Reps.one (show Kd.M Kd.string _ _ _ (⟨#[35]⟩ : ByteArray) [.string (⟨#[35]⟩ : ByteArray)] from rfl) (Reps.one (show Kd.M Kd.string _ _ _ (⟨#[41,35]⟩ : ByteArray) [.string (⟨#[41,35]⟩ : ByteArray)] from rfl) (Reps.one (show Kd.M Kd.string _ _ _ (⟨#[99]⟩ : ByteArray) [.string (⟨#[99]⟩ : ByteArray)] from rfl) (Reps.none _ _))))))))
        intro v955 w24 ho25 hb hg_ hnew_
        clear hg_ hnew_
        (first|rw [← Ny954.out] at ho25|(simp only [Int.reduceToNat] at ho25;rw [← Ny954.out] at ho25))
        have n0_:=Aside0.mk (Kd.R_lower ho25 (keep_size (w:=w) (g:=g) (row:=none) (ke0_ HK.out)))
        have n1_:=Aside0.mk (IsS90.below (by repeat (first|(with_reducible first|exact HI0.out|apply IsS90.alloc|apply IsS90.drewN|apply IsS90.drew|apply IsS90.set_1)|exact HI0.out)) hb)
        have n2_:=Aside0.mk (KeepBut.trans (ke0_ HK.out) (KeepBut.of_below hb g none) (.inl rfl))
        have n3_:=Aside0.mk (below_step (by repeat (first|(with_reducible first|exact HB.out|apply below_alloc|apply pw_below_drewN|apply below_drew1|refine below_set ?_ (IsS90.ge HI0.out))|exact HB.out)) hb)
        clear HI0
        clear HK
        clear HB
        have HO956:=n0_
        have HI0:=n1_
        have HK:=n2_
        have HB:=n3_
        clear n0_ n1_ n2_ n3_
        clear hb ho25
        obtain ⟨Ao26,co26,eo26⟩:=Kd.R_slice HO956.out
        (first|subst eo26|(injection eo26 with f1_ f2_ f3_;have f4_:=f1_.symm;have f5_:=f3_.symm;clear f1_ f2_ f3_;subst f4_;subst f5_))
        refine hK.out _ _ trivial (fun hHeld => ?_)
        clear hK K
        refine norm_ (a':=?_) ?_ ?_
        rotate_left
        ·show Act.put _ (some 21) _ = _
         simp only [Act.put,List.setIfInBounds_toArray,List.set_cons_zero,List.set_cons_succ,i64_w,i32_w]
         rfl
        refine one_ (i:=5) (N:=some 22) #[true,true,true,true,true,true,false,true,true,true,false,false,false,false,false] rfl rfl (one_of HT_.out (by kernel_rfl)) (by decide) (fun K hK => ?_)
        refine goes_ Try.func108 (by kernel_rfl) rfl #[.pointer (some ⟨g,0,none⟩),.slice Ao26 y954.length co26] (by rfl) rfl rfl lp_ ?_
        with_reducible refine (spec_l13Rd_of.calls k g s0_0 t953 _ _ y954 t957 t958 w0 _ ?side1 ?side2 ?side3 ?side4 ?side5 A12.out).mono ?_
        (case side1 => repeat (first|(with_reducible first|exact HI0.out|apply IsS90.alloc|apply IsS90.drewN|apply IsS90.drew|apply IsS90.set_1)|exact HI0.out))
        (case side2 => repeat (first|(with_reducible first|exact HB.out|apply below_alloc|apply pw_below_drewN|apply below_drew1|refine below_set ?_ (IsS90.ge HI0.out))|exact HB.out))
        (case side3 => repeat (first|exact (Kd.R_reads' HO956.out).2.2|(with_reducible refine Kd.C_alloc ?_ _)|(with_reducible refine Kd.C_drewN ?_ _)|(with_reducible refine Kd.C_drew ?_)))
        (case side4 => exact (Kd.R_reads' HO956.out).2.1)
        (case side5 => exact far_slice (IsS90.own_ne HI0.out HO956.out (by decide)))
        rintro e w27 ⟨rfl,hi,hb,hk⟩
        refine ⟨_,rfl,?_⟩
        have n0_:=Aside0.mk (Kd.R_mono (Kd.R_keep (IsS90.apart (show IsS90 w0 _ g s0_0 t953 from by repeat (first|(with_reducible first|exact HI0.out|apply IsS90.alloc|apply IsS90.drewN|apply IsS90.drew|apply IsS90.set_1)|exact HI0.out)) (pr_ HO956.out) (by decide)) hk (fun _ h => h.2)) (fun _ h => h.1))
        have n1_:=Aside0.mk (KeepBut.trans (ke0_ HK.out) hk (.inl rfl))
        have n2_:=Aside0.mk (hb)
        have n3_:=Aside0.mk (hi)
        clear HO956
        clear HK
        clear HB
        clear HI0
        have HO956:=n0_
        have HK:=n1_
        have HB:=n2_
        have HI0:=n3_
        clear n0_ n1_ n2_ n3_
        (try clear hb)
        (try clear hb2)
        (try clear hk)
        (try clear hi)
        refine hK.out _ _ trivial (fun hHeld => ?_)
        clear hK K
        refine norm_ (a':=?_) ?_ ?_
        rotate_left
        ·show Act.put _ (some 22) _ = _
         simp only [Act.put,List.setIfInBounds_toArray,List.set_cons_zero,List.set_cons_succ,i64_w,i32_w]
         rfl
        refine pure_ (i:=6) (N:=some 23) (v:=?_) (a':=?_) #[true,true,true,true,true,true,true,true,true,true,false,false,false,false,false] rfl rfl (any_of HT_.out (by kernel_rfl)) (fun _ _ _ h => h) (Or.inl ⟨by rfl,?_⟩) ?_ ?_
        rotate_left
        ·intro w'
         go_simp
         with_reducible rfl
        rotate_left
        ·simp only [Act.put,List.setIfInBounds_toArray,List.set_cons_zero,List.set_cons_succ,i64_w,i32_w]
         rfl
        refine one_ (i:=10) (N:=some 27) #[true,true,true,true,true,true,true,true,true,true,true,false,false,false,false] rfl rfl (one_of HT_.out (by kernel_rfl)) (by decide) (fun K hK => ?_)
        refine goes_ Try.func76 (by kernel_rfl) rfl #[.pointer (some ⟨g,0,none⟩),.int .i64 2] (by rfl) rfl rfl lp_ ?_
        with_reducible refine (spec_l13Rd_pick.calls k g s0_0 t958 2 t959 t960 w0 _ ?side1 ?side2 A14.out).mono ?_
        (case side1 => repeat (first|(with_reducible first|exact HI0.out|apply IsS90.alloc|apply IsS90.drewN|apply IsS90.drew|apply IsS90.set_1)|exact HI0.out))
        (case side2 => repeat (first|(with_reducible first|exact HB.out|apply below_alloc|apply pw_below_drewN|apply below_drew1|refine below_set ?_ (IsS90.ge HI0.out))|exact HB.out))
        rintro e w28 ⟨rfl,hi,hb,hk⟩
        refine ⟨_,rfl,?_⟩
        have n0_:=Aside0.mk (Kd.R_mono (Kd.R_keep (IsS90.apart (show IsS90 w0 _ g s0_0 t958 from by repeat (first|(with_reducible first|exact HI0.out|apply IsS90.alloc|apply IsS90.drewN|apply IsS90.drew|apply IsS90.set_1)|exact HI0.out)) (pr_ HO956.out) (by decide)) hk (fun _ h => h.2)) (fun _ h => h.1))
        have n1_:=Aside0.mk (KeepBut.trans (ke0_ HK.out) hk (.inl rfl))
        have n2_:=Aside0.mk (hb)
        have n3_:=Aside0.mk (hi)
        clear HO956
        clear HK
        clear HB
        clear HI0
        have HO956:=n0_
        have HK:=n1_
        have HB:=n2_
        have HI0:=n3_
        clear n0_ n1_ n2_ n3_
        (try clear hb)
        (try clear hb2)
        (try clear hk)
        (try clear hi)
        refine hK.out _ _ trivial (fun hHeld => ?_)
        clear hK K
        refine norm_ (a':=?_) ?_ ?_
        rotate_left
        ·show Act.put _ (some 27) _ = _
         simp only [Act.put,List.setIfInBounds_toArray,List.set_cons_zero,List.set_cons_succ,i64_w,i32_w]
         rfl
        refine pure_ (i:=11) (N:=some 28) (v:=?_) (a':=?_) #[true,true,true,true,true,true,true,true,true,true,true,true,false,false,false] rfl rfl (any_of HT_.out (by kernel_rfl)) (fun _ _ _ h => h) (Or.inl ⟨by rfl,?_⟩) ?_ ?_
        rotate_left
        ·intro w'
         go_simp
         with_reducible rfl
        rotate_left
        ·simp only [Act.put,List.setIfInBounds_toArray,List.set_cons_zero,List.set_cons_succ,i64_w,i32_w]
         rfl
        refine pure_ (i:=12) (N:=some 29) (v:=?_) (a':=?_) #[true,true,true,true,true,true,true,true,true,true,true,true,true,false,false] rfl rfl (any_of HT_.out (by kernel_rfl)) (fun _ _ _ h => h) (Or.inl ⟨by rfl,?_⟩) ?_ ?_
        rotate_left
        ·intro w'
         go_simp
         with_reducible rfl
        rotate_left
        ·simp only [Act.put,List.setIfInBounds_toArray,List.set_cons_zero,List.set_cons_succ,i64_w,i32_w]
         rfl
        refine pure_ (i:=13) (N:=some 30) (v:=?_) (a':=?_) #[true,true,true,true,true,true,true,true,true,true,true,true,true,true,false] rfl rfl (any_of HT_.out (by kernel_rfl)) (fun _ _ _ h => h) (Or.inl ⟨by rfl,?_⟩) ?_ ?_
        rotate_left
        ·intro w'
         go_simp
         with_reducible rfl
        rotate_left
        ·simp only [Act.put,List.setIfInBounds_toArray,List.set_cons_zero,List.set_cons_succ,i64_w,i32_w]
         rfl
        refine pure_ (i:=14) (N:=some 2) (v:=?_) (a':=?_) #[true,true,true,true,true,true,true,true,true,true,true,true,true,true,true] rfl rfl (any_of HT_.out (by kernel_rfl)) (fun _ _ _ h => h) (Or.inl ⟨by rfl,?_⟩) ?_ ?_
        rotate_left
        ·intro w'
         go_simp
         with_reducible rfl
        rotate_left
        ·simp only [Act.put,List.setIfInBounds_toArray,List.set_cons_zero,List.set_cons_succ,i64_w,i32_w]
         rfl
        refine done_ (done_of HT_.out (by kernel_rfl)) ?_
        try go_wp2
        go_ret
        exact ⟨by first|rfl|(simp [errW_none,errW_some] <;> rfl)|(simp only [← hji15];first|rfl|(simp [errW_none,errW_some] <;> rfl))|(simp [*,errW_none,errW_some] <;> rfl),by repeat (first|(with_reducible first|exact HI0.out|apply IsS90.alloc|apply IsS90.drewN|apply IsS90.drew|apply IsS90.set_1)|exact HI0.out),by repeat (first|(with_reducible first|exact HB.out|apply below_alloc|apply pw_below_drewN|apply below_drew1|refine below_set ?_ (IsS90.ge HI0.out))|exact HB.out),ke0_ HK.out⟩
       ·rw [if_neg c18] at H
        exact absurd H (by simp)
      ·rw [if_neg c17] at H
       exact absurd H (by simp)
     ·rw [if_neg c16] at H
      exact absurd H (by simp)
    ·rw [if_neg c13] at H
     exact absurd H (by simp)
   ·rw [if_neg c11] at H
    exact absurd H (by simp)
  ·rw [if_neg c10] at H
   exact absurd H (by simp)
end Go.Proofs.Ytengegdaiphfeaa.X
end
section
namespace Go.Proofs.Ytengegdaiphfeaa.X
open Go.RowKit Go.Proofs.YtengegdaiphfeaaW.PrintWords Go.Proofs.YtengegdaiphfeaaW.PrintLast Go.Proofs.YtengegdaiphfeaaW.PrintMore
attribute [local go_sem] max2_int min2_int max_two min_two max_three min_three max_four min_four
set_option linter.unusedVariables false
set_option linter.unusedSimpArgs false
def spec_DrawDepthOf.f (k : Nat) (l0 : List Int) : Option (ByteArray):=(spec_l13Open.f l0).bind fun bt984 => ((spec_l7Text.f k bt984.1 bt984.2).bind fun bt987 => (some bt987.1))
theorem spec_DrawDepthOf.mono : ∀ a0 k,LeO (spec_DrawDepthOf.f k a0) (spec_DrawDepthOf.f (k + 1) a0):=by
 intro a0 k
 unfold spec_DrawDepthOf.f
 repeat' first
   | (with_reducible exact spec_l7Text.mono _ _ _)
   | (with_reducible exact LeO.refl _)
   | (with_reducible exact LeO.none _)
   | (with_reducible refine LeO.ite ?_ ?_)
   | (with_reducible refine LeO.bind ?_ (fun _ => ?_))
   | exact spec_l7Text.mono _ _ _
   | exact LeO.none _
   | refine LeO.ite ?_ ?_
   | refine LeO.bind ?_ (fun _ => ?_)
set_option maxHeartbeats 8000000 in
set_option maxRecDepth 100000 in
theorem spec_DrawDepthOf.calls (k : Nat) (A0 : Option Addr) (c0 : Nat) (l0 : List Int) (r : ByteArray) (w : World) (hr0 : Kd.C (Kd.int .u8) w A0 l0.length l0) (hc0 : l0.length ≤ c0) (h : spec_DrawDepthOf.f k l0 = some r) :
  Calls Try.prog 48 #[.slice A0 l0.length c0] w fun e w' => e = .returned (.string r) ∧ Below w.heap.size w w':=by
 have HR0:=Aside0.mk hr0
 have HC0:=Aside0.mk hc0
 clear hr0 hc0
 have HB:=Aside0.mk (Below.refl w.heap.size w)
 have H : ((spec_l13Open.f l0).bind fun bt984 => ((spec_l7Text.f k bt984.1 bt984.2).bind fun bt987 => (some bt987.1))) = some r:=h
 clear h
 replace H:=Option.bind_eq_some_iff.mp H
 obtain ⟨⟨t984,t985⟩,A20,H⟩:=H
 replace H : ((spec_l7Text.f k t984 t985).bind fun bt987 => (some bt987.1)) = some r:=H
 have A2:=Aside0.mk A20
 clear A20
 replace H:=Option.bind_eq_some_iff.mp H
 obtain ⟨⟨t987,t988⟩,A30,H⟩:=H
 replace H : (some t987) = some r:=H
 have A3:=Aside0.mk A30
 clear A30
 obtain rfl:=Option.some.inj H
 go_enter Try.func48,Try.ntmps48
 go_wp2_with (first|((with_reducible refine gate_callee (f:=71) rfl ?_);refine goesL_ (some 4) rfl rfl Try.func71 (by kernel_rfl) rfl #[.slice A0 l0.length c0] rfl lp_ ?_;(with_reducible refine (spec_l13Open.calls _ _ l0 t984 t985 w _ ?side1 ?side2 ?side3 A2.out).mono ?_);(case side1 => repeat (first|(with_reducible first|exact HB.out|apply below_alloc|apply pw_below_drewN|apply below_drew1)|exact HB.out));(case side2 => exact HR0.out);(case side3 => exact HC0.out);rintro e w4 ⟨g986,rfl,hi,hb,hb2⟩;refine ⟨_,rfl,?_⟩;have n0_:=Aside0.mk (hb);have n1_:=Aside0.mk (hi);clear HB;have HB:=n0_;have HI986:=n1_;clear n0_ n1_;(try clear hb);(try clear hb2);(try clear hk);(try clear hi))|((with_reducible refine gate_callee (f:=87) rfl ?_);refine goesL_ (some 5) rfl rfl Try.func87 (by kernel_rfl) rfl #[.pointer (some ⟨g986,0,none⟩)] rfl lp_ ?_;(with_reducible refine (spec_l7Text.calls k g986 t984 t985 t987 t988 w _ ?side1 ?side2 A3.out).mono ?_);(case side1 => repeat (first|(with_reducible first|exact HI986.out|apply IsS90.alloc|apply IsS90.drewN|apply IsS90.drew|apply IsS90.set_1)|exact HI986.out));(case side2 => repeat (first|(with_reducible first|exact HB.out|apply below_alloc|apply pw_below_drewN|apply below_drew1|refine below_set ?_ (IsS90.ge HI986.out))|exact HB.out));rintro e w5 ⟨rfl,hi,hb,hk⟩;refine ⟨_,rfl,?_⟩;have n0_:=Aside0.mk (hb);have n1_:=Aside0.mk (hi);clear HB;clear HI986;have HB:=n0_;have HI986:=n1_;clear n0_ n1_;(try clear hb);(try clear hb2);(try clear hk);(try clear hi)))
 go_ret
 exact ⟨by first|rfl|(simp [errW_none,errW_some] <;> rfl)|(simp [*,errW_none,errW_some] <;> rfl),by repeat (first|(with_reducible first|exact HB.out|apply below_alloc|apply pw_below_drewN|apply below_drew1|refine below_set ?_ (IsS90.ge HI986.out))|exact HB.out)⟩
end Go.Proofs.Ytengegdaiphfeaa.X
end
section
namespace Go.Proofs.Ytengegdaiphfeaa.X
open Go.RowKit Go.Proofs.YtengegdaiphfeaaW.PrintWords Go.Proofs.YtengegdaiphfeaaW.PrintLast Go.Proofs.YtengegdaiphfeaaW.PrintMore
attribute [local go_sem] max2_int min2_int max_two min_two max_three min_three max_four min_four
set_option linter.unusedVariables false
set_option linter.unusedSimpArgs false
def spec_l13Rd_num.f (k : Nat) (s0_0 : List Int) (s0_1 : Int) (l1 : List Int) : Option (Int × Int):=(spec_l13Rd_pick.f k s0_0 s0_1 (l1.length : Int)).bind fun bt419 => (if 0 ≤ bt419.1 then (if bt419.1 < (l1.length : Int) then (some (rd l1 bt419.1,bt419.2)) else (none)) else (none))
theorem spec_l13Rd_num.mono : ∀ a0 a1 a2 k,LeO (spec_l13Rd_num.f k a0 a1 a2) (spec_l13Rd_num.f (k + 1) a0 a1 a2):=by
 intro a0 a1 a2 k
 unfold spec_l13Rd_num.f
 repeat' first
   | (with_reducible exact spec_l13Rd_pick.mono _ _ _ _)
   | (with_reducible exact LeO.refl _)
   | (with_reducible exact LeO.none _)
   | (with_reducible refine LeO.ite ?_ ?_)
   | (with_reducible refine LeO.bind ?_ (fun _ => ?_))
   | exact spec_l13Rd_pick.mono _ _ _ _
   | exact LeO.none _
   | refine LeO.ite ?_ ?_
   | refine LeO.bind ?_ (fun _ => ?_)
set_option maxHeartbeats 8000000 in
set_option maxRecDepth 100000 in
theorem spec_l13Rd_num.calls (k : Nat) (g : Nat) (s0_0 : List Int) (s0_1 : Int) (A1 : Option Addr) (c1 : Nat) (l1 : List Int) (r1 : Int) (r2 : Int) (w0 w : World) (hI : IsS90 w0 w g s0_0 s0_1) (hB : Below w0.heap.size w0 w) (hr1 : Kd.C (Kd.int .i64) w A1 l1.length l1) (hc1 : l1.length ≤ c1) (hf1 : ∀ ad,A1 = some ad → 0 < l1.length → ad.block ≠ g) (h : spec_l13Rd_num.f k s0_0 s0_1 l1 = some (r1,r2)) :
  Calls Try.prog 88 #[.pointer (some ⟨g,0,none⟩),.slice A1 l1.length c1] w fun e w' => e = .returned (.int .i64 r1) ∧ IsS90 w0 w' g s0_0 r2 ∧ Below w0.heap.size w0 w' ∧ KeepBut w w' g none:=by
 have HR1:=Aside0.mk hr1
 have HC1:=Aside0.mk hc1
 clear hr1 hc1
 have HI0:=Aside0.mk hI
 have HK:=Aside0.mk (KeepBut.refl w g none)
 have HL:=Aside0.mk hB.size
 clear hI
 have HW0:=Aside0.mk hB.size
 have HB:=Aside0.mk hB
 clear hB
 have H : ((spec_l13Rd_pick.f k s0_0 s0_1 (l1.length : Int)).bind fun bt419 => (if 0 ≤ bt419.1 then (if bt419.1 < (l1.length : Int) then (some (rd l1 bt419.1,bt419.2)) else (none)) else (none))) = some (r1,r2):=h
 clear h
 replace H:=Option.bind_eq_some_iff.mp H
 obtain ⟨⟨t419,t420⟩,A30,H⟩:=H
 replace H : (if 0 ≤ t419 then (if t419 < (l1.length : Int) then (some (rd l1 t419,t420)) else (none)) else (none)) = some (r1,r2):=H
 have A3:=Aside0.mk A30
 clear A30
 by_cases c4 : 0 ≤ t419
 ·rw [if_pos c4] at H
  have c4b0 : decide (0 ≤ t419) = true:=decide_eq_true c4
  clear c4
  by_cases c5 : t419 < (l1.length : Int)
  ·rw [if_pos c5] at H
   have c5b0 : decide (t419 < (l1.length : Int)) = true:=decide_eq_true c5
   clear c5
   simp only [Option.some.injEq,Prod.mk.injEq] at H
   obtain ⟨rfl,rfl⟩:=H
   go_enter Try.func88,Try.ntmps88
   go_wp2_with (first|((with_reducible refine gate_callee (f:=76) rfl ?_);refine goesL_ (some 9) rfl rfl Try.func76 (by kernel_rfl) rfl #[.pointer (some ⟨g,0,none⟩),.int .i64 (l1.length : Int)] rfl lp_ ?_;(with_reducible refine (spec_l13Rd_pick.calls k g s0_0 s0_1 (l1.length : Int) t419 t420 w0 _ ?side1 ?side2 A3.out).mono ?_);(case side1 => repeat (first|(with_reducible first|exact HI0.out|apply IsS90.alloc|apply IsS90.drewN|apply IsS90.drew|apply IsS90.set_1)|exact HI0.out));(case side2 => repeat (first|(with_reducible first|exact HB.out|apply below_alloc|apply pw_below_drewN|apply below_drew1|refine below_set ?_ (IsS90.ge HI0.out))|exact HB.out));rintro e w6 ⟨rfl,hi,hb,hk⟩;refine ⟨_,rfl,?_⟩;have n0_:=Aside0.mk (KeepBut.trans (ke0_ HK.out) hk (.inl rfl));have n1_:=Aside0.mk (hb);have n2_:=Aside0.mk (hi);clear HK;clear HB;clear HI0;have HK:=n0_;have HB:=n1_;have HI0:=n2_;clear n0_ n1_ n2_;(try clear hb);(try clear hb2);(try clear hk);(try clear hi);have p421 : 0 ≤ (t419 : Int):=of_decide_eq_true (by first|(with_reducible assumption)|assumption);have q421 : t419 < (l1.length : Int):=of_decide_eq_true (by first|(with_reducible assumption)|assumption);obtain ⟨ad421,e421,hx421_0⟩:=Kd.at_int HR1.out t419 p421 q421;cases e421;replace hx421_0:=keep_cell HK.out hx421_0 (by first|(rw [add_block];exact hf1 _ rfl (by omega))|exact hf1 _ rfl (by omega)|exact hf1 ad421 rfl (by omega));replace p421:=eq_true p421;replace q421:=eq_true q421))
   go_ret
   exact ⟨by first|rfl|(simp [errW_none,errW_some] <;> rfl)|(simp [*,errW_none,errW_some] <;> rfl),by repeat (first|(with_reducible first|exact HI0.out|apply IsS90.alloc|apply IsS90.drewN|apply IsS90.drew|apply IsS90.set_1)|exact HI0.out),by repeat (first|(with_reducible first|exact HB.out|apply below_alloc|apply pw_below_drewN|apply below_drew1|refine below_set ?_ (IsS90.ge HI0.out))|exact HB.out),ke0_ HK.out⟩
  ·rw [if_neg c5] at H
   exact absurd H (by simp)
 ·rw [if_neg c4] at H
  exact absurd H (by simp)
end Go.Proofs.Ytengegdaiphfeaa.X
end
section
namespace Go.Proofs.Ytengegdaiphfeaa.X
open Go.RowKit Go.Proofs.YtengegdaiphfeaaW.PrintWords Go.Proofs.YtengegdaiphfeaaW.PrintLast Go.Proofs.YtengegdaiphfeaaW.PrintMore
attribute [local go_sem] max2_int min2_int max_two min_two max_three min_three max_four min_four
set_option linter.unusedVariables false
set_option linter.unusedSimpArgs false
def spec_DrawExpandExpression.f (k : Nat) (l0 : List Int) : Option (ByteArray × Int):=(spec_l13Open.f l0).bind fun bt961 => ((spec_l7Text.f k bt961.1 bt961.2).bind fun bt964 => ((spec_l13Rd_num.f k bt961.1 bt964.2 (([1,2,3,0,5,(-1),40,9223372036854775807] : List Int))).bind fun bt969 => (some (bt964.1,bt969.1))))
theorem spec_DrawExpandExpression.mono : ∀ a0 k,LeO (spec_DrawExpandExpression.f k a0) (spec_DrawExpandExpression.f (k + 1) a0):=by
 intro a0 k
 unfold spec_DrawExpandExpression.f
 repeat' first
   | (with_reducible exact spec_l13Rd_num.mono _ _ _ _)
   | (with_reducible exact spec_l7Text.mono _ _ _)
   | (with_reducible exact LeO.refl _)
   | (with_reducible exact LeO.none _)
   | (with_reducible refine LeO.ite ?_ ?_)
   | (with_reducible refine LeO.bind ?_ (fun _ => ?_))
   | exact spec_l13Rd_num.mono _ _ _ _
   | exact spec_l7Text.mono _ _ _
   | exact LeO.none _
   | refine LeO.ite ?_ ?_
   | refine LeO.bind ?_ (fun _ => ?_)
set_option maxHeartbeats 8000000 in
set_option maxRecDepth 100000 in
theorem spec_DrawExpandExpression.calls (k : Nat) (A0 : Option Addr) (c0 : Nat) (l0 : List Int) (r1 : ByteArray) (r2 : Int) (w : World) (hr0 : Kd.C (Kd.int .u8) w A0 l0.length l0) (hc0 : l0.length ≤ c0) (h : spec_DrawExpandExpression.f k l0 = some (r1,r2)) :
  Calls Try.prog 43 #[.slice A0 l0.length c0] w fun e w' => e = .returned (.tuple #[.string r1,.int .i64 r2]) ∧ Below w.heap.size w w':=by
 have HR0:=Aside0.mk hr0
 have HC0:=Aside0.mk hc0
 clear hr0 hc0
 have HB:=Aside0.mk (Below.refl w.heap.size w)
 have H : ((spec_l13Open.f l0).bind fun bt961 => ((spec_l7Text.f k bt961.1 bt961.2).bind fun bt964 => ((spec_l13Rd_num.f k bt961.1 bt964.2 (([1,2,3,0,5,(-1),40,9223372036854775807] : List Int))).bind fun bt969 => (some (bt964.1,bt969.1))))) = some (r1,r2):=h
 clear h
 replace H:=Option.bind_eq_some_iff.mp H
 obtain ⟨⟨t961,t962⟩,A20,H⟩:=H
 replace H : ((spec_l7Text.f k t961 t962).bind fun bt964 => ((spec_l13Rd_num.f k t961 bt964.2 (([1,2,3,0,5,(-1),40,9223372036854775807] : List Int))).bind fun bt969 => (some (bt964.1,bt969.1)))) = some (r1,r2):=H
 have A2:=Aside0.mk A20
 clear A20
 replace H:=Option.bind_eq_some_iff.mp H
 obtain ⟨⟨t964,t965⟩,A30,H⟩:=H
 replace H : ((spec_l13Rd_num.f k t961 t965 (([1,2,3,0,5,(-1),40,9223372036854775807] : List Int))).bind fun bt969 => (some (t964,bt969.1))) = some (r1,r2):=H
 have A3:=Aside0.mk A30
 clear A30
 obtain ⟨y966,hy966⟩ : ∃ y_ : List Int,y_ = (([1,2,3,0,5,(-1),40,9223372036854775807] : List Int)):=⟨_,rfl⟩
 replace H : ((spec_l13Rd_num.f k t961 t965 y966).bind fun bt969 => (some (t964,bt969.1))) = some (r1,r2):=by first|(rw [hy966];with_reducible exact H)|(have H2_:=(Option.bind_some _ _).symm.trans H;rw [hy966];with_reducible exact H2_)|(have H2_:=(Option.bind_some _ _).symm.trans H;with_reducible exact H2_)|with_reducible exact H|(rw [hy966];exact H)|exact H
 have Ny966:=Aside0.mk hy966
 clear hy966
 replace H:=Option.bind_eq_some_iff.mp H
 obtain ⟨⟨t969,t970⟩,A40,H⟩:=H
 replace H : (some (t964,t969)) = some (r1,r2):=H
 have A4:=Aside0.mk A40
 clear A40
 simp only [Option.some.injEq,Prod.mk.injEq] at H
 obtain ⟨rfl,rfl⟩:=H
 go_enter Try.func43,Try.ntmps43
 go_wp2_with (first|((with_reducible refine gate_callee (f:=71) rfl ?_);refine goesL_ (some 7) rfl rfl Try.func71 (by kernel_rfl) rfl #[.slice A0 l0.length c0] rfl lp_ ?_;(with_reducible refine (spec_l13Open.calls _ _ l0 t961 t962 w _ ?side1 ?side2 ?side3 A2.out).mono ?_);(case side1 => repeat (first|(with_reducible first|exact HB.out|apply below_alloc|apply pw_below_drewN|apply below_drew1)|exact HB.out));(case side2 => exact HR0.out);(case side3 => exact HC0.out);rintro e w5 ⟨g963,rfl,hi,hb,hb2⟩;refine ⟨_,rfl,?_⟩;have n0_:=Aside0.mk (hb);have n1_:=Aside0.mk (hi);clear HB;have HB:=n0_;have HI963:=n1_;clear n0_ n1_;(try clear hb);(try clear hb2);(try clear hk);(try clear hi))|((with_reducible refine gate_callee (f:=87) rfl ?_);refine goesL_ (some 9) rfl rfl Try.func87 (by kernel_rfl) rfl #[.pointer (some ⟨g963,0,none⟩)] rfl lp_ ?_;(with_reducible refine (spec_l7Text.calls k g963 t961 t962 t964 t965 w _ ?side1 ?side2 A3.out).mono ?_);(case side1 => repeat (first|(with_reducible first|exact HI963.out|apply IsS90.alloc|apply IsS90.drewN|apply IsS90.drew|apply IsS90.set_1)|exact HI963.out));(case side2 => repeat (first|(with_reducible first|exact HB.out|apply below_alloc|apply pw_below_drewN|apply below_drew1|refine below_set ?_ (IsS90.ge HI963.out))|exact HB.out));rintro e w6 ⟨rfl,hi,hb,hk⟩;refine ⟨_,rfl,?_⟩;have n0_:=Aside0.mk (hb);have n1_:=Aside0.mk (hi);clear HB;clear HI963;have HB:=n0_;have HI963:=n1_;clear n0_ n1_;(try clear hb);(try clear hb2);(try clear hk);(try clear hi))|((with_reducible refine gate_dst (N:=12) rfl ?_);refine Kd.R_lit (Kd.int .i64) _ 3 ?hg (N:=12) ?hd (xs:=([1,2,3,0,5,(-1),40,9223372036854775807] : List Int)) (inner:=[.int .i64 1,.int .i64 2,.int .i64 3,.int .i64 0,.int .i64 5,.int .i64 (-1),.int .i64 40,.int .i64 9223372036854775807]) (ok:=fun _ => True) (okp:=fun _ => True) ?hr ?hp (fun _ hk => hk) trivial (Below.refl _ _) (Nat.le_refl _) (by simp) ?_;(case hd => rfl);(case hg => rfl);(case hr => first|(go_simp;done)|(go_simp;rfl));(case hp => exact (Reps.one (show Kd.M (Kd.int .i64) _ _ _ 1 [.int .i64 1] from rfl) (Reps.one (show Kd.M (Kd.int .i64) _ _ _ 2 [.int .i64 2] from rfl) (Reps.one (show Kd.M (Kd.int .i64) _ _ _ 3 [.int .i64 3] from rfl) (Reps.one (show Kd.M (Kd.int .i64) _ _ _ 0 [.int .i64 0] from rfl) (Reps.one (show Kd.M (Kd.int .i64) _ _ _ 5 [.int .i64 5] from rfl) (Reps.one (show Kd.M (Kd.int .i64) _ _ _ (-1) [.int .i64 (-1)] from rfl) (Reps.one (show Kd.M (Kd.int .i64) _ _ _ 40 [.int .i64 40] from rfl) (Reps.one (show Kd.M (Kd.int .i64) _ _ _ 9223372036854775807 [.int .i64 9223372036854775807] from rfl) (Reps.none _ _))))))))));intro v967 w7 ho8 hb hg_ hnew_;clear hg_ hnew_;(first|rw [← Ny966.out] at ho8|(simp only [Int.reduceToNat] at ho8;rw [← Ny966.out] at ho8));have n0_:=Aside0.mk (Kd.R_lower ho8 (below_size (by repeat (first|(with_reducible first|exact HB.out|apply below_alloc|apply pw_below_drewN|apply below_drew1|refine below_set ?_ (IsS90.ge HI963.out))|exact HB.out))));have n1_:=Aside0.mk (IsS90.below (by repeat (first|(with_reducible first|exact HI963.out|apply IsS90.alloc|apply IsS90.drewN|apply IsS90.drew|apply IsS90.set_1)|exact HI963.out)) hb);have n2_:=Aside0.mk (below_step (by repeat (first|(with_reducible first|exact HB.out|apply below_alloc|apply pw_below_drewN|apply below_drew1|refine below_set ?_ (IsS90.ge HI963.out))|exact HB.out)) hb);clear HI963;clear HB;have HO968:=n0_;have HI963:=n1_;have HB:=n2_;clear n0_ n1_ n2_;clear hb ho8;obtain ⟨Ao9,co9,eo9⟩:=Kd.R_slice HO968.out;subst eo9)|((with_reducible refine gate_callee (f:=88) rfl ?_);refine goesL_ (some 13) rfl rfl Try.func88 (by kernel_rfl) rfl #[.pointer (some ⟨g963,0,none⟩),.slice Ao9 y966.length co9] rfl lp_ ?_;(with_reducible refine (spec_l13Rd_num.calls k g963 t961 t965 _ _ y966 t969 t970 w _ ?side1 ?side2 ?side3 ?side4 ?side5 A4.out).mono ?_);(case side1 => repeat (first|(with_reducible first|exact HI963.out|apply IsS90.alloc|apply IsS90.drewN|apply IsS90.drew|apply IsS90.set_1)|exact HI963.out));(case side2 => repeat (first|(with_reducible first|exact HB.out|apply below_alloc|apply pw_below_drewN|apply below_drew1|refine below_set ?_ (IsS90.ge HI963.out))|exact HB.out));(case side3 => repeat (first|exact (Kd.R_reads' HO968.out).2.2|(with_reducible refine Kd.C_alloc ?_ _)|(with_reducible refine Kd.C_drewN ?_ _)|(with_reducible refine Kd.C_drew ?_)));(case side4 => exact (Kd.R_reads' HO968.out).2.1);(case side5 => exact far_slice (IsS90.own_ne HI963.out HO968.out (by decide)));rintro e w10 ⟨rfl,hi,hb,hk⟩;refine ⟨_,rfl,?_⟩;have n0_:=Aside0.mk (Kd.R_mono (Kd.R_keep (IsS90.apart (show IsS90 w _ g963 t961 t965 from by repeat (first|(with_reducible first|exact HI963.out|apply IsS90.alloc|apply IsS90.drewN|apply IsS90.drew|apply IsS90.set_1)|exact HI963.out)) (pr_ HO968.out) (by decide)) hk (fun _ h => h.2)) (fun _ h => h.1));have n1_:=Aside0.mk (hb);have n2_:=Aside0.mk (hi);clear HO968;clear HB;clear HI963;have HO968:=n0_;have HB:=n1_;have HI963:=n2_;clear n0_ n1_ n2_;(try clear hb);(try clear hb2);(try clear hk);(try clear hi)))
 go_ret2
 exact ⟨by first|rfl|(simp [errW_none,errW_some] <;> rfl)|(simp [*,errW_none,errW_some] <;> rfl),by repeat (first|(with_reducible first|exact HB.out|apply below_alloc|apply pw_below_drewN|apply below_drew1|refine below_set ?_ (IsS90.ge HI963.out))|exact HB.out)⟩
end Go.Proofs.Ytengegdaiphfeaa.X
end
section
namespace Go.Proofs.Ytengegdaiphfeaa.X
open Go.RowKit Go.Proofs.YtengegdaiphfeaaW.PrintWords Go.Proofs.YtengegdaiphfeaaW.PrintLast Go.Proofs.YtengegdaiphfeaaW.PrintMore
attribute [local go_sem] max2_int min2_int max_two min_two max_three min_three max_four min_four
set_option linter.unusedVariables false
set_option linter.unusedSimpArgs false
def spec_l7Next.f (k : Nat) (a0 : ByteArray) : Option (ByteArray × Bool × ByteArray):=if 0 < (a0.size : Int) then (if (bt a0 0) = 40 then ((spec_l7End.f k a0 1).bind fun t103 => (if 1 ≤ t103 then (if t103 ≤ (a0.size : Int) then (if 0 ≤ (wrap64 (t103 + 2)) then (if (wrap64 (t103 + 2)) ≤ (a0.size : Int) then (some (a0.extract 1 (t103 : Int).toNat,true,a0.extract ((wrap64 (t103 + 2)) : Int).toNat a0.size)) else (none)) else (none)) else (none)) else (none))) else (if 0 ≤ 1 then (if 1 ≤ (a0.size : Int) then (some (a0.extract 0 1,false,a0.extract 1 a0.size)) else (none)) else (none))) else (none)
theorem spec_l7Next.mono : ∀ a0 k,LeO (spec_l7Next.f k a0) (spec_l7Next.f (k + 1) a0):=by
 intro a0 k
 unfold spec_l7Next.f
 repeat' first
   | (with_reducible exact spec_l7End.mono _ _ _)
   | (with_reducible exact LeO.refl _)
   | (with_reducible exact LeO.none _)
   | (with_reducible refine LeO.ite ?_ ?_)
   | (with_reducible refine LeO.bind ?_ (fun _ => ?_))
   | exact spec_l7End.mono _ _ _
   | exact LeO.none _
   | refine LeO.ite ?_ ?_
   | refine LeO.bind ?_ (fun _ => ?_)
set_option maxHeartbeats 8000000 in
set_option maxRecDepth 100000 in
theorem spec_l7Next.calls (k : Nat) (a0 : ByteArray) (r1 : ByteArray) (r2 : Bool) (r3 : ByteArray) (w : World) (h : spec_l7Next.f k a0 = some (r1,r2,r3)) :
  Calls Try.prog 91 #[.string a0] w fun e w' => e = .returned (.tuple #[.string r1,.bool r2,.string r3]) ∧ Drawn0 w w':=by
 have H : (if 0 < (a0.size : Int) then (if (bt a0 0) = 40 then ((spec_l7End.f k a0 1).bind fun t103 => (if 1 ≤ t103 then (if t103 ≤ (a0.size : Int) then (if 0 ≤ (wrap64 (t103 + 2)) then (if (wrap64 (t103 + 2)) ≤ (a0.size : Int) then (some (a0.extract 1 (t103 : Int).toNat,true,a0.extract ((wrap64 (t103 + 2)) : Int).toNat a0.size)) else (none)) else (none)) else (none)) else (none))) else (if 0 ≤ 1 then (if 1 ≤ (a0.size : Int) then (some (a0.extract 0 1,false,a0.extract 1 a0.size)) else (none)) else (none))) else (none)) = some (r1,r2,r3):=h
 clear h
 by_cases c2 : 0 < (a0.size : Int)
 ·rw [if_pos c2] at H
  have c2b0 : decide (0 < (a0.size : Int)) = true:=decide_eq_true c2
  have c2b1 : decide (0 < a0.size) = true:=decide_eq_true (by omega)
  clear c2
  by_cases c4 : (bt a0 0) = 40
  ·rw [if_pos c4] at H
   have c4b0 : ((bt a0 0) == 40) = true:=beq_iff_eq.mpr c4
   have c4b1 : ((bt a0 0) != 40) = false:=bne_eq_false_iff_eq.mpr c4
   clear c4
   replace H:=Option.bind_eq_some_iff.mp H
   obtain ⟨t103,A50,H⟩:=H
   replace H : (if 1 ≤ t103 then (if t103 ≤ (a0.size : Int) then (if 0 ≤ (wrap64 (t103 + 2)) then (if (wrap64 (t103 + 2)) ≤ (a0.size : Int) then (some (a0.extract 1 (t103 : Int).toNat,true,a0.extract ((wrap64 (t103 + 2)) : Int).toNat a0.size)) else (none)) else (none)) else (none)) else (none)) = some (r1,r2,r3):=H
   have A5:=Aside0.mk A50
   clear A50
   by_cases c6 : 1 ≤ t103
   ·rw [if_pos c6] at H
    have c6b0:=eq_true c6
    have c6b1 : decide (1 ≤ t103) = true:=decide_eq_true c6
    clear c6
    by_cases c7 : t103 ≤ (a0.size : Int)
    ·rw [if_pos c7] at H
     have c7b0:=eq_true c7
     have c7b1 : decide (t103 ≤ (a0.size : Int)) = true:=decide_eq_true c7
     clear c7
     obtain ⟨ji8,hji8⟩ : ∃ j_ : Int,(wrap64 (t103 + 2)) = j_:=⟨_,rfl⟩
     replace H : (if 0 ≤ (ji8) then (if (ji8) ≤ (a0.size : Int) then (some (a0.extract 1 (t103 : Int).toNat,true,a0.extract ((ji8) : Int).toNat a0.size)) else (none)) else (none)) = some (r1,r2,r3):=by first|(rw [hji8] at H;exact H)|(simp only [hji8] at H ⊢;exact H)
     (try rw [hji8] at A5)
     have hji8w : (IntKind.i64.wrap (t103 + 2)) = ji8:=(i64_w _).trans hji8
     by_cases c9 : 0 ≤ (ji8)
     ·rw [if_pos c9] at H
      have c9b0:=eq_true c9
      have c9b1 : decide (0 ≤ (ji8)) = true:=decide_eq_true c9
      clear c9
      by_cases c10 : (ji8) ≤ (a0.size : Int)
      ·rw [if_pos c10] at H
       have c10b0:=eq_true c10
       have c10b1 : decide ((ji8) ≤ (a0.size : Int)) = true:=decide_eq_true c10
       clear c10
       simp only [Option.some.injEq,Prod.mk.injEq] at H
       obtain ⟨rfl,rfl,rfl⟩:=H
       have p3 : 0 ≤ (0 : Int):=(by omega)
       have q3 : 0 < a0.size:=(by have : (0 : Int) < (a0.size : Int):=of_decide_eq_true (by first|(with_reducible assumption)|assumption);omega)
       have hx3 : ∀ h : 0 < a0.size,((a0[0]'h).toNat : Int) = bt a0 0:=bt_at a0 0
       clear p3
       have qi3 : (0 < (a0.size : Int)) = True:=eq_true (of_decide_eq_true (by first|(with_reducible assumption)|assumption))
       replace q3:=eq_true q3
       go_enter Try.func91,Try.ntmps91
       go_wp2_with (first|(go_at_call 89;(with_reducible refine (spec_l7End.calls k a0 1 t103 _ A5.out).mono ?_);rintro e w' ⟨rfl,⟨nd,rfl⟩⟩;(try first|exact ⟨rfl,_,World.drewN_drewN _ _ _⟩|exact ⟨rfl,_,Eq.trans (World.drewN_drewN _ _ _) (congrArg (World.drewN _) (Nat.add_assoc _ _ _))⟩)))
       repeat (go_quiet (first|(go_at_call 89;(with_reducible refine (spec_l7End.calls k a0 1 t103 _ A5.out).mono ?_);rintro e w' ⟨rfl,⟨nd,rfl⟩⟩;(try first|exact ⟨rfl,_,World.drewN_drewN _ _ _⟩|exact ⟨rfl,_,Eq.trans (World.drewN_drewN _ _ _) (congrArg (World.drewN _) (Nat.add_assoc _ _ _))⟩)));try go_wp2_with (first|(go_at_call 89;(with_reducible refine (spec_l7End.calls k a0 1 t103 _ A5.out).mono ?_);rintro e w' ⟨rfl,⟨nd,rfl⟩⟩;(try first|exact ⟨rfl,_,World.drewN_drewN _ _ _⟩|exact ⟨rfl,_,Eq.trans (World.drewN_drewN _ _ _) (congrArg (World.drewN _) (Nat.add_assoc _ _ _))⟩))))
       go_ret3
       exact ⟨by first|rfl|(simp;done)|(simp only [← hji8] <;> (first|rfl|simp))|(simp [*];done),by repeat (first|exact Drawn0.refl _|apply Drawn0.step)⟩
      ·rw [if_neg c10] at H
       exact absurd H (by simp)
     ·rw [if_neg c9] at H
      exact absurd H (by simp)
    ·rw [if_neg c7] at H
     exact absurd H (by simp)
   ·rw [if_neg c6] at H
    exact absurd H (by simp)
  ·rw [if_neg c4] at H
   have c4b0 : ((bt a0 0) == 40) = false:=beq_eq_false_iff_ne.mpr c4
   have c4b1 : ((bt a0 0) != 40) = true:=bne_iff_ne.mpr c4
   by_cases c11 : 0 ≤ 1
   ·rw [if_pos c11] at H
    have c11b0:=eq_true c11
    have c11b1 : decide (0 ≤ 1) = true:=decide_eq_true c11
    clear c11
    by_cases c12 : 1 ≤ (a0.size : Int)
    ·rw [if_pos c12] at H
     have c12b0:=eq_true c12
     have c12b1 : decide (1 ≤ (a0.size : Int)) = true:=decide_eq_true c12
     clear c12
     have c13b0:=eq_true (of_decide_eq_true (by first|(with_reducible assumption)|assumption) : 1 ≤ (a0.size : Int))
     simp only [Option.some.injEq,Prod.mk.injEq] at H
     obtain ⟨rfl,rfl,rfl⟩:=H
     have p3 : 0 ≤ (0 : Int):=(by omega)
     have q3 : 0 < a0.size:=(by have : (0 : Int) < (a0.size : Int):=of_decide_eq_true (by first|(with_reducible assumption)|assumption);omega)
     have hx3 : ∀ h : 0 < a0.size,((a0[0]'h).toNat : Int) = bt a0 0:=bt_at a0 0
     clear p3
     have qi3 : (0 < (a0.size : Int)) = True:=eq_true (of_decide_eq_true (by first|(with_reducible assumption)|assumption))
     replace q3:=eq_true q3
     go_enter Try.func91,Try.ntmps91
     go_wp2
     repeat (go_quiet (fail);try go_wp2)
     go_ret3
     exact ⟨by first|rfl|(simp;done)|(simp [*];done),by repeat (first|exact Drawn0.refl _|apply Drawn0.step)⟩
    ·rw [if_neg c12] at H
     exact absurd H (by simp)
   ·rw [if_neg c11] at H
    exact absurd H (by simp)
 ·rw [if_neg c2] at H
  exact absurd H (by simp)
end Go.Proofs.Ytengegdaiphfeaa.X
end
section
namespace Go.Proofs.Ytengegdaiphfeaa.X
open Go.RowKit Go.Proofs.YtengegdaiphfeaaW.PrintWords Go.Proofs.YtengegdaiphfeaaW.PrintLast Go.Proofs.YtengegdaiphfeaaW.PrintMore
attribute [local go_sem] max2_int min2_int max_two min_two max_three min_three max_four min_four
set_option linter.unusedVariables false
set_option linter.unusedSimpArgs false
mutual
def spec_l7Expand.l0 : Nat → ByteArray → Int → ByteArray → Option (ByteArray)
 | 0,_,_,_ => none
 | k + 1,x0,x1,x5 => if x0.toList = ([] : List UInt8) then (spec_l7Expand.j1 k x0 x1 x5 false) else (spec_l7Expand.j1 k x0 x1 x5 (decide ((x5.size : Int) ≤ 1000)))
def spec_l7Expand.j1 : Nat → ByteArray → Int → ByteArray → Bool → Option (ByteArray)
 | 0,_,_,_,_ => none
 | k + 1,x0,x1,x5,x18 => if x18 = true then ((spec_l7Next.f k x0).bind fun bt908 => (if bt908.2.1 = true then ((spec_l7Expand.f k bt908.1 x1).bind fun t911 => (spec_l7Expand.j2 k x1 x5 bt908.2.2 t911 x1)) else (spec_l7Expand.j2 k x1 x5 bt908.2.2 bt908.1 1))) else (some x5)
def spec_l7Expand.j2 : Nat → Int → ByteArray → ByteArray → ByteArray → Int → Option (ByteArray)
 | 0,_,_,_,_,_ => none
 | k + 1,x1,x5,x8,x9,x10 => spec_l7Expand.l1 k x1 x5 x8 x9 x10 0
def spec_l7Expand.l1 : Nat → Int → ByteArray → ByteArray → ByteArray → Int → Int → Option (ByteArray)
 | 0,_,_,_,_,_,_ => none
 | k + 1,x1,x5,x8,x9,x10,x11 => if x11 < x10 then (if (x5.size : Int) ≤ 1000 then (if x5.size + x9.size ≤ 9223372036854775807 then (spec_l7Expand.l1 k x1 (x5 ++ x9) x8 x9 x10 (wrap64 (x11 + 1))) else (none)) else (spec_l7Expand.l0 k x8 x1 x5)) else (spec_l7Expand.l0 k x8 x1 x5)
def spec_l7Expand.f : Nat → ByteArray → Int → Option (ByteArray)
 | 0,_,_ => none
 | k + 1,a0,a1 => spec_l7Expand.l0 k a0 a1 (⟨#[]⟩ : ByteArray)
end
theorem spec_l7Expand.mono_l : ∀ k,(∀ y0 y1,LeO (spec_l7Expand.f k y0 y1) (spec_l7Expand.f (k + 1) y0 y1)) ∧ (∀ y0 y1 y2,LeO (spec_l7Expand.l0 k y0 y1 y2) (spec_l7Expand.l0 (k + 1) y0 y1 y2)) ∧ (∀ y0 y1 y2 y3,LeO (spec_l7Expand.j1 k y0 y1 y2 y3) (spec_l7Expand.j1 (k + 1) y0 y1 y2 y3)) ∧ (∀ y0 y1 y2 y3 y4,LeO (spec_l7Expand.j2 k y0 y1 y2 y3 y4) (spec_l7Expand.j2 (k + 1) y0 y1 y2 y3 y4)) ∧ (∀ y0 y1 y2 y3 y4 y5,LeO (spec_l7Expand.l1 k y0 y1 y2 y3 y4 y5) (spec_l7Expand.l1 (k + 1) y0 y1 y2 y3 y4 y5))
 | 0 => ⟨fun _ _ r h => by simp [spec_l7Expand.f] at h,fun _ _ _ r h => by simp [spec_l7Expand.l0] at h,fun _ _ _ _ r h => by simp [spec_l7Expand.j1] at h,fun _ _ _ _ _ r h => by simp [spec_l7Expand.j2] at h,fun _ _ _ _ _ _ r h => by simp [spec_l7Expand.l1] at h⟩
 | k + 1 => by
  obtain ⟨ih0,ih1,ih2,ih3,ih4⟩:=spec_l7Expand.mono_l k
  refine ⟨?_,?_,?_,?_,?_⟩
  ·intro y0 y1
   unfold spec_l7Expand.f
   repeat' first
   | (with_reducible exact ih0 _ _)
   | (with_reducible exact ih1 _ _ _)
   | (with_reducible exact ih2 _ _ _ _)
   | (with_reducible exact ih3 _ _ _ _ _)
   | (with_reducible exact ih4 _ _ _ _ _ _)
   | (with_reducible exact spec_l7Next.mono _ _)
   | (with_reducible exact LeO.refl _)
   | (with_reducible exact LeO.none _)
   | (with_reducible refine LeO.ite ?_ ?_)
   | (with_reducible refine LeO.bind ?_ (fun _ => ?_))
   | exact ih0 _ _
   | exact ih1 _ _ _
   | exact ih2 _ _ _ _
   | exact ih3 _ _ _ _ _
   | exact ih4 _ _ _ _ _ _
   | exact spec_l7Next.mono _ _
   | exact LeO.none _
   | refine LeO.ite ?_ ?_
   | refine LeO.bind ?_ (fun _ => ?_)
  ·intro y0 y1 y2
   unfold spec_l7Expand.l0
   repeat' first
   | (with_reducible exact ih0 _ _)
   | (with_reducible exact ih1 _ _ _)
   | (with_reducible exact ih2 _ _ _ _)
   | (with_reducible exact ih3 _ _ _ _ _)
   | (with_reducible exact ih4 _ _ _ _ _ _)
   | (with_reducible exact spec_l7Next.mono _ _)
   | (with_reducible exact LeO.refl _)
   | (with_reducible exact LeO.none _)
   | (with_reducible refine LeO.ite ?_ ?_)
   | (with_reducible refine LeO.bind ?_ (fun _ => ?_))
   | exact ih0 _ _
   | exact ih1 _ _ _
   | exact ih2 _ _ _ _
   | exact ih3 _ _ _ _ _
   | exact ih4 _ _ _ _ _ _
   | exact spec_l7Next.mono _ _
   | exact LeO.none _
   | refine LeO.ite ?_ ?_
   | refine LeO.bind ?_ (fun _ => ?_)
  ·intro y0 y1 y2 y3
   unfold spec_l7Expand.j1
   repeat' first
   | (with_reducible exact ih0 _ _)
   | (with_reducible exact ih1 _ _ _)
   | (with_reducible exact ih2 _ _ _ _)
   | (with_reducible exact ih3 _ _ _ _ _)
   | (with_reducible exact ih4 _ _ _ _ _ _)
   | (with_reducible exact spec_l7Next.mono _ _)
   | (with_reducible exact LeO.refl _)
   | (with_reducible exact LeO.none _)
   | (with_reducible refine LeO.ite ?_ ?_)
   | (with_reducible refine LeO.bind ?_ (fun _ => ?_))
   | exact ih0 _ _
   | exact ih1 _ _ _
   | exact ih2 _ _ _ _
   | exact ih3 _ _ _ _ _
   | exact ih4 _ _ _ _ _ _
   | exact spec_l7Next.mono _ _
   | exact LeO.none _
   | refine LeO.ite ?_ ?_
   | refine LeO.bind ?_ (fun _ => ?_)
  ·intro y0 y1 y2 y3 y4
   unfold spec_l7Expand.j2
   repeat' first
   | (with_reducible exact ih0 _ _)
   | (with_reducible exact ih1 _ _ _)
   | (with_reducible exact ih2 _ _ _ _)
   | (with_reducible exact ih3 _ _ _ _ _)
   | (with_reducible exact ih4 _ _ _ _ _ _)
   | (with_reducible exact spec_l7Next.mono _ _)
   | (with_reducible exact LeO.refl _)
   | (with_reducible exact LeO.none _)
   | (with_reducible refine LeO.ite ?_ ?_)
   | (with_reducible refine LeO.bind ?_ (fun _ => ?_))
   | exact ih0 _ _
   | exact ih1 _ _ _
   | exact ih2 _ _ _ _
   | exact ih3 _ _ _ _ _
   | exact ih4 _ _ _ _ _ _
   | exact spec_l7Next.mono _ _
   | exact LeO.none _
   | refine LeO.ite ?_ ?_
   | refine LeO.bind ?_ (fun _ => ?_)
  ·intro y0 y1 y2 y3 y4 y5
   unfold spec_l7Expand.l1
   repeat' first
   | (with_reducible exact ih0 _ _)
   | (with_reducible exact ih1 _ _ _)
   | (with_reducible exact ih2 _ _ _ _)
   | (with_reducible exact ih3 _ _ _ _ _)
   | (with_reducible exact ih4 _ _ _ _ _ _)
   | (with_reducible exact spec_l7Next.mono _ _)
   | (with_reducible exact LeO.refl _)
   | (with_reducible exact LeO.none _)
   | (with_reducible refine LeO.ite ?_ ?_)
   | (with_reducible refine LeO.bind ?_ (fun _ => ?_))
   | exact ih0 _ _
   | exact ih1 _ _ _
   | exact ih2 _ _ _ _
   | exact ih3 _ _ _ _ _
   | exact ih4 _ _ _ _ _ _
   | exact spec_l7Next.mono _ _
   | exact LeO.none _
   | refine LeO.ite ?_ ?_
   | refine LeO.bind ?_ (fun _ => ?_)
theorem spec_l7Expand.mono : ∀ a0 a1 k,LeO (spec_l7Expand.f k a0 a1) (spec_l7Expand.f (k + 1) a0 a1):=by
 intro a0 a1 k
 obtain ⟨ih0,ih1,ih2,ih3,ih4⟩:=spec_l7Expand.mono_l k
 exact ih0 a0 a1
set_option maxHeartbeats 8000000 in
set_option maxRecDepth 100000 in
theorem spec_l7Expand.calls (k : Nat) : ∀ (a0 : ByteArray) (a1 : Int) (r : ByteArray) (w : World) (h : spec_l7Expand.f k a0 a1 = some r),
  Calls Try.prog 85 #[.string a0,.int .i64 a1] w fun e w' => e = .returned (.string r) ∧ Drawn0 w w':=by
 induction k using Nat.strongRecOn with
 | _ k ih =>
 intro a0 a1 r w h
 cases k with
 | zero => exact absurd h (by simp [spec_l7Expand.f])
 | succ k =>
 simp only [spec_l7Expand.f] at h
 have H : (spec_l7Expand.l0 k a0 a1 (⟨#[]⟩ : ByteArray)) = some r:=h
 clear h
 have H':=Aside0.mk H
 clear H
 go_enter Try.func85,Try.ntmps85
 go_wp2
 go_loopg [0,5] k (fun kq v0 v5 w' => ∃ (x0_1 : ByteArray) (x5_1 : ByteArray),v0 = .string x0_1 ∧ v5 = .string x5_1 ∧ Aside0 (spec_l7Expand.l0 kq x0_1 a1 x5_1 = some r) ∧ Aside0 (kq ≤ k) ∧ Drawn0 w w')
 case atStart => exact ⟨(a0),((⟨#[]⟩ : ByteArray)),(by first|rfl|(simp;done)|(simp [*];done)),(by first|rfl|(simp;done)|(simp [*];done)),H',⟨Nat.le_refl _⟩,by repeat (first|exact Drawn0.refl _|apply Drawn0.step)⟩
 case round =>
  clear H'
  try clear p2
  obtain ⟨x0_1,x5_1,rfl,rfl,HA,HK1,⟨m1,rfl⟩⟩:=hrel
  cases gk with
  | zero => exact absurd HA.out (by simp [spec_l7Expand.l0])
  | succ k1 =>
   have H:=HA.out
   clear HA
   simp only [spec_l7Expand.l0] at H
   have HC3:=Aside0.mk H
   clear H
   go_upto_region 2 with (fail)
   go_cut [18] (fun v18 wc => ∃ (kq : Nat) (x18_2 : Bool),v18 = .bool x18_2 ∧ Aside0 (spec_l7Expand.j1 kq x0_1 a1 x5_1 x18_2 = some r) ∧ Aside0 (kq ≤ k1) ∧ Drawn0 w wc)
   case first =>
    have H:=HC3.out
    clear HC3
    by_cases c4 : x0_1.toList = ([] : List UInt8)
    ·rw [if_pos c4] at H
     have c4b0 : (x0_1.toList == ([] : List UInt8)) = true:=beq_iff_eq.mpr c4
     have c4b1 : (x0_1.toList != ([] : List UInt8)) = false:=bne_eq_false_iff_eq.mpr c4
     clear c4
     (first|rw [c4b0]|(simp only [i64_w,i32_w];rw [c4b0])|skip)
     have H':=Aside0.mk H
     clear H
     go_wp2
     go_meet
     case rel => exact ⟨_,(false),(by first|rfl|(simp;done)|(simp [*];done)),H',⟨by have:=HK1.out;first|omega|exact Nat.le_refl _⟩,by repeat (first|exact Drawn0.refl _|apply Drawn0.step)⟩
    ·rw [if_neg c4] at H
     have c4b0 : (x0_1.toList == ([] : List UInt8)) = false:=beq_eq_false_iff_ne.mpr c4
     have c4b1 : (x0_1.toList != ([] : List UInt8)) = true:=bne_iff_ne.mpr c4
     (first|rw [c4b0]|(simp only [i64_w,i32_w];rw [c4b0])|skip)
     have H':=Aside0.mk H
     clear H
     go_wp2
     go_meet
     case rel => exact ⟨_,(decide ((x5_1.size : Int) ≤ 1000)),(by first|rfl|(simp;done)|(simp [*];done)),H',⟨by have:=HK1.out;first|omega|exact Nat.le_refl _⟩,by repeat (first|exact Drawn0.refl _|apply Drawn0.step)⟩
   case rest =>
    clear HC3
    try clear p2
    try clear c4
    try clear c4b0
    try clear c4b1
    try clear p2
    obtain ⟨kq,x18_2,rfl,HA,HJ2,⟨mc2,rfl⟩⟩:=hcut
    cases kq with
    | zero => exact absurd HA.out (by simp [spec_l7Expand.j1])
    | succ kj2 =>
     have H:=HA.out
     clear HA
     simp only [spec_l7Expand.j1] at H
     by_cases c5 : x18_2 = true
     ·subst c5
      have H1 : ((spec_l7Next.f kj2 x0_1).bind fun bt908 => (if bt908.2.1 = true then ((spec_l7Expand.f kj2 bt908.1 a1).bind fun t911 => (spec_l7Expand.j2 kj2 a1 x5_1 bt908.2.2 t911 a1)) else (spec_l7Expand.j2 kj2 a1 x5_1 bt908.2.2 bt908.1 1))) = some r:=by rw [if_pos rfl] at H;exact H
      clear H
      have H:=H1
      clear H1
      replace H:=Option.bind_eq_some_iff.mp H
      obtain ⟨⟨t908,t909,t910⟩,A60,H⟩:=H
      replace H : (if t909 = true then ((spec_l7Expand.f kj2 t908 a1).bind fun t911 => (spec_l7Expand.j2 kj2 a1 x5_1 t910 t911 a1)) else (spec_l7Expand.j2 kj2 a1 x5_1 t910 t908 1)) = some r:=H
      have A6:=Aside0.mk A60
      clear A60
      have HC7:=Aside0.mk H
      clear H
      go_upto_if 26 with (first|((with_reducible refine gate_callee (f:=91) rfl ?_);refine goesL_ (some 21) rfl rfl Try.func91 (by kernel_rfl) rfl #[.string x0_1] rfl lp_ ?_;(with_reducible refine (spec_l7Next.calls kj2 x0_1 t908 t909 t910 _ A6.out).mono ?_);rintro e w' ⟨rfl,⟨nd,rfl⟩⟩;refine ⟨_,rfl,?_⟩))
      (try simp only [Act.put,List.setIfInBounds_toArray,List.set_cons_zero,List.set_cons_succ])
      go_cut [9,10] (fun v9 v10 wc => ∃ (kq : Nat) (x9_6 : ByteArray) (x10_6 : Int),v9 = .string x9_6 ∧ v10 = .int .i64 x10_6 ∧ Aside0 (spec_l7Expand.j2 kq a1 x5_1 t910 x9_6 x10_6 = some r) ∧ Aside0 (kq ≤ kj2) ∧ Drawn0 w wc)
      case first =>
       have H:=HC7.out
       clear HC7
       by_cases c8 : t909 = true
       ·subst c8
        have H1 : ((spec_l7Expand.f kj2 t908 a1).bind fun t911 => (spec_l7Expand.j2 kj2 a1 x5_1 t910 t911 a1)) = some r:=by rw [if_pos rfl] at H;exact H
        clear H
        have H:=H1
        clear H1
        replace H:=Option.bind_eq_some_iff.mp H
        obtain ⟨t911,A90,H⟩:=H
        replace H : (spec_l7Expand.j2 kj2 a1 x5_1 t910 t911 a1) = some r:=H
        have A9:=Aside0.mk A90
        clear A90
        have H':=Aside0.mk H
        clear H
        go_wp2_with (first|((with_reducible refine gate_callee (f:=85) rfl ?_);refine goesL_ (some 29) rfl rfl Try.func85 (by kernel_rfl) rfl #[.string t908,.int .i64 a1] rfl lp_ ?_;(with_reducible refine (ih kj2 (by have:=HK1.out;have:=HJ2.out;omega) t908 a1 t911 _ A9.out).mono ?_);rintro e w' ⟨rfl,⟨nd,rfl⟩⟩;refine ⟨_,rfl,?_⟩))
        go_meet
        case rel => exact ⟨_,(t911),(a1),(by first|rfl|(simp;done)|(simp [*];done)),(by first|rfl|(simp;done)|(simp [*];done)),H',⟨by have:=HK1.out;have:=HJ2.out;first|omega|exact Nat.le_refl _⟩,by repeat (first|exact Drawn0.refl _|apply Drawn0.step)⟩
       ·replace c8:=Bool.eq_false_iff.mpr c8
        subst c8
        have H1 : (spec_l7Expand.j2 kj2 a1 x5_1 t910 t908 1) = some r:=by rw [if_neg (show ¬ (false = true) by decide)] at H;exact H
        clear H
        have H:=H1
        clear H1
        have H':=Aside0.mk H
        clear H
        go_wp2
        go_meet
        case rel => exact ⟨_,(t908),(1),(by first|rfl|(simp;done)|(simp [*];done)),(by first|rfl|(simp;done)|(simp [*];done)),H',⟨by have:=HK1.out;have:=HJ2.out;first|omega|exact Nat.le_refl _⟩,by repeat (first|exact Drawn0.refl _|apply Drawn0.step)⟩
      case rest =>
       clear HC7
       try clear c2
       try clear p2
       try clear c4
       try clear c4b0
       try clear c4b1
       try clear c5
       try clear c8
       try clear c9
       try clear p2
       obtain ⟨kq,x9_6,x10_6,rfl,rfl,HA,HJ6,⟨mc6,rfl⟩⟩:=hcut
       cases kq with
       | zero => exact absurd HA.out (by simp [spec_l7Expand.j2])
       | succ kj6 =>
        have H:=HA.out
        clear HA
        simp only [spec_l7Expand.j2] at H
        have H':=Aside0.mk H
        clear H
        go_wp2
        go_loopg [5,11] kj6 (fun kq v5 v11 w' => ∃ (x5_4 : ByteArray) (x11_4 : Int),v5 = .string x5_4 ∧ v11 = .int .i64 x11_4 ∧ Aside0 (spec_l7Expand.l1 kq a1 x5_4 t910 x9_6 x10_6 x11_4 = some r) ∧ Aside0 (kq ≤ kj6) ∧ Drawn0 w w')
        case atStart => exact ⟨(x5_1),(0),(by first|rfl|(simp;done)|(simp [*];done)),(by first|rfl|(simp;done)|(simp [*];done)),H',⟨Nat.le_refl _⟩,by repeat (first|exact Drawn0.refl _|apply Drawn0.step)⟩
        case round =>
         clear H'
         try clear c2
         try clear p2
         try clear c4
         try clear c4b0
         try clear c4b1
         try clear c5
         try clear c6
         try clear c8
         try clear c9
         try clear p2
         obtain ⟨x5_4,x11_4,rfl,rfl,HA,HK4,⟨m4,rfl⟩⟩:=hrel
         cases gk with
         | zero => exact absurd HA.out (by simp [spec_l7Expand.l1])
         | succ k4 =>
          have H:=HA.out
          clear HA
          simp only [spec_l7Expand.l1] at H
          by_cases c10 : x11_4 < x10_6
          ·rw [if_pos c10] at H
           have c10b0 : decide (x11_4 < x10_6) = true:=decide_eq_true c10
           clear c10
           by_cases c11 : (x5_4.size : Int) ≤ 1000
           ·rw [if_pos c11] at H
            have c11b0 : decide ((x5_4.size : Int) ≤ 1000) = true:=decide_eq_true c11
            have c11b1 : decide (x5_4.size ≤ 1000) = true:=decide_eq_true (by omega)
            clear c11
            by_cases c12 : x5_4.size + x9_6.size ≤ 9223372036854775807
            ·rw [if_pos c12] at H
             have c12b0:=eq_true c12
             have c12b1 : decide (x5_4.size + x9_6.size ≤ 9223372036854775807) = true:=decide_eq_true c12
             try have c12b2 : (9223372036854775807 < x5_4.size + x9_6.size) = False:=eq_false (Nat.not_lt.2 c12)
             have H':=Aside0.mk H
             clear H
             go_wp2
             go_roundg k4
             case measure => have:=HK1.out;have:=HJ2.out;have:=HJ6.out;have:=HK4.out;omega
             case rel => exact ⟨(x5_4 ++ x9_6),(wrap64 (x11_4 + 1)),(by first|rfl|(simp;done)|(simp [*];done)),(by first|rfl|(simp;done)|(simp [*];done)),H',⟨by have:=HK1.out;have:=HJ2.out;have:=HJ6.out;have:=HK4.out;omega⟩,by repeat (first|exact Drawn0.refl _|apply Drawn0.step)⟩
            ·rw [if_neg c12] at H
             exact absurd H (by simp)
           ·rw [if_neg c11] at H
            have c11b0 : decide ((x5_4.size : Int) ≤ 1000) = false:=decide_eq_false c11
            have c11b1 : decide (x5_4.size ≤ 1000) = false:=decide_eq_false (by omega)
            clear c11
            have H':=Aside0.mk H
            clear H
            go_wp2
            go_roundg k4
            case measure => have:=HK1.out;have:=HJ2.out;have:=HJ6.out;have:=HK4.out;omega
            case rel => exact ⟨(t910),(x5_4),(by first|rfl|(simp;done)|(simp [*];done)),(by first|rfl|(simp;done)|(simp [*];done)),H',⟨by have:=HK1.out;have:=HJ2.out;have:=HJ6.out;have:=HK4.out;omega⟩,by repeat (first|exact Drawn0.refl _|apply Drawn0.step)⟩
          ·rw [if_neg c10] at H
           have c10b0 : decide (x11_4 < x10_6) = false:=decide_eq_false c10
           clear c10
           have H':=Aside0.mk H
           clear H
           go_wp2
           go_roundg k4
           case measure => have:=HK1.out;have:=HJ2.out;have:=HJ6.out;have:=HK4.out;omega
           case rel => exact ⟨(t910),(x5_4),(by first|rfl|(simp;done)|(simp [*];done)),(by first|rfl|(simp;done)|(simp [*];done)),H',⟨by have:=HK1.out;have:=HJ2.out;have:=HJ6.out;have:=HK4.out;omega⟩,by repeat (first|exact Drawn0.refl _|apply Drawn0.step)⟩
     ·replace c5:=Bool.eq_false_iff.mpr c5
      subst c5
      have H1 : (some x5_1) = some r:=by rw [if_neg (show ¬ (false = true) by decide)] at H;exact H
      clear H
      have H:=H1
      clear H1
      obtain rfl:=Option.some.inj H
      go_wp2
      go_ret
      exact ⟨by first|rfl|(simp;done)|(simp [*];done),by repeat (first|exact Drawn0.refl _|apply Drawn0.step)⟩
end Go.Proofs.Ytengegdaiphfeaa.X
end
section
namespace Go.Proofs.Ytengegdaiphfeaa.X
open Go.RowKit Go.Proofs.YtengegdaiphfeaaW.PrintWords Go.Proofs.YtengegdaiphfeaaW.PrintLast Go.Proofs.YtengegdaiphfeaaW.PrintMore
attribute [local go_sem] max2_int min2_int max_two min_two max_three min_three max_four min_four
set_option linter.unusedVariables false
set_option linter.unusedSimpArgs false
def spec_ExpandExpression.j0 : Nat → ByteArray → Int → Bool → Option (ByteArray × Bool)
 | 0,_,_,_ => none
 | k + 1,x0,x1,x13 => if x13 = true then (some ((⟨#[]⟩ : ByteArray),false)) else ((spec_l7Expand.f k x0 x1).bind fun t913 => (if (t913.size : Int) > 1000 then (some ((⟨#[]⟩ : ByteArray),false)) else (some (t913,true))))
def spec_ExpandExpression.f (k : Nat) (a0 : ByteArray) (a1 : Int) : Option (ByteArray × Bool):=(spec_ExpressionValid.f k a0).bind fun t912 => (if t912 = true then (spec_ExpandExpression.j0 k a0 a1 (decide (a1 < 1))) else (spec_ExpandExpression.j0 k a0 a1 true))
theorem spec_ExpandExpression.mono_l : ∀ k,(∀ y0 y1 y2,LeO (spec_ExpandExpression.j0 k y0 y1 y2) (spec_ExpandExpression.j0 (k + 1) y0 y1 y2))
 | 0 => fun _ _ _ r h => by simp [spec_ExpandExpression.j0] at h
 | k + 1 => by
  have ih0:=spec_ExpandExpression.mono_l k
  ·intro y0 y1 y2
   unfold spec_ExpandExpression.j0
   repeat' first
   | (with_reducible exact ih0 _ _ _)
   | (with_reducible exact spec_ExpressionValid.mono _ _)
   | (with_reducible exact spec_l7Expand.mono _ _ _)
   | (with_reducible exact LeO.refl _)
   | (with_reducible exact LeO.none _)
   | (with_reducible refine LeO.ite ?_ ?_)
   | (with_reducible refine LeO.bind ?_ (fun _ => ?_))
   | exact ih0 _ _ _
   | exact spec_ExpressionValid.mono _ _
   | exact spec_l7Expand.mono _ _ _
   | exact LeO.none _
   | refine LeO.ite ?_ ?_
   | refine LeO.bind ?_ (fun _ => ?_)
theorem spec_ExpandExpression.mono : ∀ a0 a1 k,LeO (spec_ExpandExpression.f k a0 a1) (spec_ExpandExpression.f (k + 1) a0 a1):=by
 intro a0 a1 k
 have ih0:=spec_ExpandExpression.mono_l k
 unfold spec_ExpandExpression.f
 repeat' first
   | (with_reducible exact ih0 _ _ _)
   | (with_reducible exact spec_ExpressionValid.mono _ _)
   | (with_reducible exact spec_l7Expand.mono _ _ _)
   | (with_reducible exact LeO.refl _)
   | (with_reducible exact LeO.none _)
   | (with_reducible refine LeO.ite ?_ ?_)
   | (with_reducible refine LeO.bind ?_ (fun _ => ?_))
   | exact ih0 _ _ _
   | exact spec_ExpressionValid.mono _ _
   | exact spec_l7Expand.mono _ _ _
   | exact LeO.none _
   | refine LeO.ite ?_ ?_
   | refine LeO.bind ?_ (fun _ => ?_)
set_option maxHeartbeats 8000000 in
set_option maxRecDepth 100000 in
theorem spec_ExpandExpression.calls (k : Nat) (a0 : ByteArray) (a1 : Int) (r1 : ByteArray) (r2 : Bool) (w : World) (h : spec_ExpandExpression.f k a0 a1 = some (r1,r2)) :
  Calls Try.prog 41 #[.string a0,.int .i64 a1] w fun e w' => e = .returned (.tuple #[.string r1,.bool r2]) ∧ Drawn0 w w':=by
 have H : ((spec_ExpressionValid.f k a0).bind fun t912 => (if t912 = true then (spec_ExpandExpression.j0 k a0 a1 (decide (a1 < 1))) else (spec_ExpandExpression.j0 k a0 a1 true))) = some (r1,r2):=h
 clear h
 have HC3:=Aside0.mk H
 clear H
 go_enter Try.func41,Try.ntmps41
 go_upto_region 1 with (fail)
 go_cut [13] (fun v13 wc => ∃ (kq : Nat) (x13_2 : Bool),v13 = .bool x13_2 ∧ Aside0 (spec_ExpandExpression.j0 kq a0 a1 x13_2 = some (r1,r2)) ∧ Aside0 (kq ≤ k) ∧ Drawn0 w wc)
 case first =>
  have H:=HC3.out
  clear HC3
  replace H:=Option.bind_eq_some_iff.mp H
  obtain ⟨t912,A40,H⟩:=H
  replace H : (if t912 = true then (spec_ExpandExpression.j0 k a0 a1 (decide (a1 < 1))) else (spec_ExpandExpression.j0 k a0 a1 true)) = some (r1,r2):=H
  have A4:=Aside0.mk A40
  clear A40
  by_cases c5 : t912 = true
  ·subst c5
   have H1 : (spec_ExpandExpression.j0 k a0 a1 (decide (a1 < 1))) = some (r1,r2):=by rw [if_pos rfl] at H;exact H
   clear H
   have H:=H1
   clear H1
   have H':=Aside0.mk H
   clear H
   go_wp2_with (first|((with_reducible refine gate_callee (f:=45) rfl ?_);refine goesL_ (some 8) rfl rfl Try.func45 (by kernel_rfl) rfl #[.string a0] rfl lp_ ?_;(with_reducible refine (spec_ExpressionValid.calls k a0 true _ A4.out).mono ?_);rintro e w' ⟨rfl,⟨nd,rfl⟩⟩;refine ⟨_,rfl,?_⟩))
   go_meet
   case rel => exact ⟨_,(decide (a1 < 1)),(by first|rfl|(simp;done)|(simp [*];done)),H',⟨by first|omega|exact Nat.le_refl _⟩,by repeat (first|exact Drawn0.refl _|apply Drawn0.step)⟩
  ·replace c5:=Bool.eq_false_iff.mpr c5
   subst c5
   have H1 : (spec_ExpandExpression.j0 k a0 a1 true) = some (r1,r2):=by rw [if_neg (show ¬ (false = true) by decide)] at H;exact H
   clear H
   have H:=H1
   clear H1
   have H':=Aside0.mk H
   clear H
   go_wp2_with (first|((with_reducible refine gate_callee (f:=45) rfl ?_);refine goesL_ (some 8) rfl rfl Try.func45 (by kernel_rfl) rfl #[.string a0] rfl lp_ ?_;(with_reducible refine (spec_ExpressionValid.calls k a0 false _ A4.out).mono ?_);rintro e w' ⟨rfl,⟨nd,rfl⟩⟩;refine ⟨_,rfl,?_⟩))
   go_meet
   case rel => exact ⟨_,(true),(by first|rfl|(simp;done)|(simp [*];done)),H',⟨by first|omega|exact Nat.le_refl _⟩,by repeat (first|exact Drawn0.refl _|apply Drawn0.step)⟩
 case rest =>
  clear HC3
  try clear p2
  try clear c4
  try clear c5
  obtain ⟨kq,x13_2,rfl,HA,HJ2,⟨mc2,rfl⟩⟩:=hcut
  cases kq with
  | zero => exact absurd HA.out (by simp [spec_ExpandExpression.j0])
  | succ kj2 =>
   have H:=HA.out
   clear HA
   simp only [spec_ExpandExpression.j0] at H
   by_cases c6 : x13_2 = true
   ·subst c6
    have H1 : (some ((⟨#[]⟩ : ByteArray),false)) = some (r1,r2):=by rw [if_pos rfl] at H;exact H
    clear H
    have H:=H1
    clear H1
    simp only [Option.some.injEq,Prod.mk.injEq] at H
    obtain ⟨rfl,rfl⟩:=H
    go_wp2
    go_ret2
    exact ⟨by first|rfl|(simp;done)|(simp [*];done),by repeat (first|exact Drawn0.refl _|apply Drawn0.step)⟩
   ·replace c6:=Bool.eq_false_iff.mpr c6
    subst c6
    have H1 : ((spec_l7Expand.f kj2 a0 a1).bind fun t913 => (if (t913.size : Int) > 1000 then (some ((⟨#[]⟩ : ByteArray),false)) else (some (t913,true)))) = some (r1,r2):=by rw [if_neg (show ¬ (false = true) by decide)] at H;exact H
    clear H
    have H:=H1
    clear H1
    replace H:=Option.bind_eq_some_iff.mp H
    obtain ⟨t913,A70,H⟩:=H
    replace H : (if (t913.size : Int) > 1000 then (some ((⟨#[]⟩ : ByteArray),false)) else (some (t913,true))) = some (r1,r2):=H
    have A7:=Aside0.mk A70
    clear A70
    by_cases c8 : (t913.size : Int) > 1000
    ·rw [if_pos c8] at H
     have c8b0 : decide (1000 < (t913.size : Int)) = true:=decide_eq_true c8
     have c8b1 : decide (1000 < t913.size) = true:=decide_eq_true (by omega)
     clear c8
     simp only [Option.some.injEq,Prod.mk.injEq] at H
     obtain ⟨rfl,rfl⟩:=H
     go_wp2_with (first|((with_reducible refine gate_callee (f:=85) rfl ?_);refine goesL_ (some 16) rfl rfl Try.func85 (by kernel_rfl) rfl #[.string a0,.int .i64 a1] rfl lp_ ?_;(with_reducible refine (spec_l7Expand.calls kj2 a0 a1 t913 _ A7.out).mono ?_);rintro e w' ⟨rfl,⟨nd,rfl⟩⟩;refine ⟨_,rfl,?_⟩))
     go_ret2
     exact ⟨by first|rfl|(simp;done)|(simp [*];done),by repeat (first|exact Drawn0.refl _|apply Drawn0.step)⟩
    ·rw [if_neg c8] at H
     have c8b0 : decide (1000 < (t913.size : Int)) = false:=decide_eq_false c8
     have c8b1 : decide (1000 < t913.size) = false:=decide_eq_false (by omega)
     clear c8
     simp only [Option.some.injEq,Prod.mk.injEq] at H
     obtain ⟨rfl,rfl⟩:=H
     go_wp2_with (first|((with_reducible refine gate_callee (f:=85) rfl ?_);refine goesL_ (some 16) rfl rfl Try.func85 (by kernel_rfl) rfl #[.string a0,.int .i64 a1] rfl lp_ ?_;(with_reducible refine (spec_l7Expand.calls kj2 a0 a1 t913 _ A7.out).mono ?_);rintro e w' ⟨rfl,⟨nd,rfl⟩⟩;refine ⟨_,rfl,?_⟩))
     go_ret2
     exact ⟨by first|rfl|(simp;done)|(simp [*];done),by repeat (first|exact Drawn0.refl _|apply Drawn0.step)⟩
end Go.Proofs.Ytengegdaiphfeaa.X
end
section
namespace Go.Proofs.Ytengegdaiphfeaa.X
open Go.RowKit Go.Proofs.YtengegdaiphfeaaW.PrintWords Go.Proofs.YtengegdaiphfeaaW.PrintLast Go.Proofs.YtengegdaiphfeaaW.PrintMore
attribute [local go_sem] max2_int min2_int max_two min_two max_three min_three max_four min_four
set_option linter.unusedVariables false
set_option linter.unusedSimpArgs false
private theorem wrap_sum_ (a b : Nat) (h : a + b ≤ 9223372036854775807) : wrap64 ((a : Int) + (b : Int)) = (a : Int) + (b : Int):=by unfold wrap64;omega
mutual
def laws_FnExpand.j0 : Nat → List Int → List Int → Bool → Option (Bool)
 | 0,_,_,_ => none
 | k + 1,x0,x1,x27 => if x27 = true then (some true) else (laws_FnExpand.j1 k x0 x1)
def laws_FnExpand.j1 : Nat → List Int → List Int → Option (Bool)
 | 0,_,_ => none
 | k + 1,x0,x1 => (spec_DrawExpandExpression.f k x0).bind fun bt990 => (laws_FnExpand.j2 k x1 bt990.1 bt990.2)
def laws_FnExpand.j2 : Nat → List Int → ByteArray → Int → Option (Bool)
 | 0,_,_,_ => none
 | k + 1,x1,x5,x6 => (impl_ExpandExpression.f k x5 x6).bind fun bt992 => (laws_FnExpand.j3 k x1 x5 x6 bt992.1 bt992.2)
def laws_FnExpand.j3 : Nat → List Int → ByteArray → Int → ByteArray → Bool → Option (Bool)
 | 0,_,_,_,_,_ => none
 | k + 1,x1,x5,x6,x7,x8 => (spec_ExpandExpression.f k x5 x6).bind fun bt994 => (laws_FnExpand.j4 k x1 x5 x6 x7 x8 bt994.1 bt994.2)
def laws_FnExpand.j4 : Nat → List Int → ByteArray → Int → ByteArray → Bool → ByteArray → Bool → Option (Bool)
 | 0,_,_,_,_,_,_,_ => none
 | k + 1,x1,x5,x6,x7,x8,x9,x10 => if x7.toList = x9.toList then (if (x8 != x10) = true then (laws_FnExpand.j5 k x1 x5 x6 x7 x8 x9 x10 true) else ((impl_ExpressionValid.f k x5).bind fun t996 => ((spec_ExpressionValid.f k x5).bind fun t997 => (if (t996 != t997) = true then (laws_FnExpand.j5 k x1 x5 x6 x7 x8 x9 x10 true) else ((impl_DepthOf.f k x5).bind fun t998 => ((spec_DepthOf.f k x5).bind fun t999 => (if t998 = t999 then (laws_FnExpand.j5 k x1 x5 x6 x7 x8 x9 x10 (!x8)) else (laws_FnExpand.j5 k x1 x5 x6 x7 x8 x9 x10 true)))))))) else (laws_FnExpand.j5 k x1 x5 x6 x7 x8 x9 x10 true)
def laws_FnExpand.j5 : Nat → List Int → ByteArray → Int → ByteArray → Bool → ByteArray → Bool → Bool → Option (Bool)
 | 0,_,_,_,_,_,_,_,_ => none
 | k + 1,x1,x5,x6,x7,x8,x9,x10,x70 => if x70 = true then (if x7.toList = x9.toList then (if (x8 == x10) = true then ((impl_ExpressionValid.f k x5).bind fun t1000 => ((spec_ExpressionValid.f k x5).bind fun t1001 => (if (t1000 == t1001) = true then ((impl_DepthOf.f k x5).bind fun t1002 => ((spec_DepthOf.f k x5).bind fun t1003 => (if t1002 = t1003 then (some (x7.toList == ([] : List UInt8))) else (some false)))) else (some false)))) else (some false)) else (some false)) else (laws_FnExpand.j6 k x1 x5 x6 x7)
def laws_FnExpand.j6 : Nat → List Int → ByteArray → Int → ByteArray → Option (Bool)
 | 0,_,_,_,_ => none
 | k + 1,x1,x5,x6,x7 => (spec_DrawDepthOf.f k x1).bind fun t1004 => (laws_FnExpand.j7 k x5 x6 x7 t1004)
def laws_FnExpand.j7 : Nat → ByteArray → Int → ByteArray → ByteArray → Option (Bool)
 | 0,_,_,_,_ => none
 | k + 1,x5,x6,x7,x11 => (impl_ExpandExpression.f k x11 x6).bind fun bt1005 => (laws_FnExpand.j8 k x5 x6 x7 x11 bt1005.1 bt1005.2)
def laws_FnExpand.j8 : Nat → ByteArray → Int → ByteArray → ByteArray → ByteArray → Bool → Option (Bool)
 | 0,_,_,_,_,_,_ => none
 | k + 1,x5,x6,x7,x11,x12,x13 => if x5.size + x11.size ≤ 9223372036854775807 then ((impl_ExpandExpression.f k (x5 ++ x11) x6).bind fun bt1007 => (laws_FnExpand.j9 k x5 x6 x7 x11 x12 x13 bt1007.1 bt1007.2)) else (none)
def laws_FnExpand.j9 : Nat → ByteArray → Int → ByteArray → ByteArray → ByteArray → Bool → ByteArray → Bool → Option (Bool)
 | 0,_,_,_,_,_,_,_,_ => none
 | k + 1,x5,x6,x7,x11,x12,x13,x14,x15 => (impl_RepeatExpression.f k x5).bind fun t1009 => (laws_FnExpand.j10 k x5 x6 x7 x11 x12 x13 x14 x15 t1009)
def laws_FnExpand.j10 : Nat → ByteArray → Int → ByteArray → ByteArray → ByteArray → Bool → ByteArray → Bool → ByteArray → Option (Bool)
 | 0,_,_,_,_,_,_,_,_,_ => none
 | k + 1,x5,x6,x7,x11,x12,x13,x14,x15,x16 => if x16.toList = ([] : List UInt8) then (laws_FnExpand.j11 k x5 x6 x7 x11 x12 x13 x14 x15 x16 false) else (if x6 < 6 then (laws_FnExpand.j11 k x5 x6 x7 x11 x12 x13 x14 x15 x16 (decide ((x7.size : Int) < 100))) else (laws_FnExpand.j11 k x5 x6 x7 x11 x12 x13 x14 x15 x16 false))
def laws_FnExpand.j11 : Nat → ByteArray → Int → ByteArray → ByteArray → ByteArray → Bool → ByteArray → Bool → ByteArray → Bool → Option (Bool)
 | 0,_,_,_,_,_,_,_,_,_,_ => none
 | k + 1,x5,x6,x7,x11,x12,x13,x14,x15,x16,x125 => if x125 = true then (laws_FnExpand.l0 k x5 x6 x7 x11 x12 x13 x14 x15 x16 (⟨#[]⟩ : ByteArray) x6 0) else ((impl_WordValid.f k x7).bind fun t1019 => (if t1019 = true then (if x7.toList = ([] : List UInt8) then (some false) else (if x13 = true then (if (wrap64 ((x5.size : Int) + (x11.size : Int))) > 120 then ((impl_DepthOf.f k x5).bind fun t1020 => (if t1020 > 0 then (some true) else (some (x7.toList == x5.toList)))) else (if (wrap64 ((x7.size : Int) + (x12.size : Int))) > 1000 then ((impl_DepthOf.f k x5).bind fun t1021 => (if t1021 > 0 then (some true) else (some (x7.toList == x5.toList)))) else (if x15 = true then (if x7.size + x12.size ≤ 9223372036854775807 then (if x14.toList = (x7 ++ x12).toList then ((impl_DepthOf.f k x5).bind fun t1022 => (if t1022 > 0 then (some true) else (some (x7.toList == x5.toList)))) else (some false)) else (none)) else (some false)))) else ((impl_DepthOf.f k x5).bind fun t1023 => (if t1023 > 0 then (some true) else (some (x7.toList == x5.toList)))))) else (some false)))
def laws_FnExpand.j13 : Nat → ByteArray → Int → ByteArray → ByteArray → ByteArray → Bool → ByteArray → Bool → ByteArray → ByteArray → Option (Bool)
 | 0,_,_,_,_,_,_,_,_,_,_ => none
 | k + 1,x5,x6,x7,x11,x12,x13,x14,x15,x16,x17 => (impl_ExpandExpression.f k x16 x6).bind fun bt1010 => (laws_FnExpand.j14 k x5 x7 x11 x12 x13 x14 x15 x16 x17 bt1010.1 bt1010.2)
def laws_FnExpand.j14 : Nat → ByteArray → ByteArray → ByteArray → ByteArray → Bool → ByteArray → Bool → ByteArray → ByteArray → ByteArray → Bool → Option (Bool)
 | 0,_,_,_,_,_,_,_,_,_,_,_ => none
 | k + 1,x5,x7,x11,x12,x13,x14,x15,x16,x17,x18,x19 => if x19 = true then (if x18.toList = x17.toList then ((impl_DepthOf.f k x16).bind fun t1012 => ((impl_DepthOf.f k x5).bind fun t1013 => (laws_FnExpand.j15 k x5 x7 x11 x12 x13 x14 x15 (t1012 != (wrap64 (t1013 + 1)))))) else (laws_FnExpand.j15 k x5 x7 x11 x12 x13 x14 x15 true)) else (laws_FnExpand.j15 k x5 x7 x11 x12 x13 x14 x15 true)
def laws_FnExpand.j15 : Nat → ByteArray → ByteArray → ByteArray → ByteArray → Bool → ByteArray → Bool → Bool → Option (Bool)
 | 0,_,_,_,_,_,_,_,_ => none
 | k + 1,x5,x7,x11,x12,x13,x14,x15,x153 => if x153 = true then (some false) else ((impl_WordValid.f k x7).bind fun t1014 => (if t1014 = true then (if x7.toList = ([] : List UInt8) then (some false) else (if x13 = true then (if (wrap64 ((x5.size : Int) + (x11.size : Int))) > 120 then ((impl_DepthOf.f k x5).bind fun t1015 => (if t1015 > 0 then (some true) else (some (x7.toList == x5.toList)))) else (if (wrap64 ((x7.size : Int) + (x12.size : Int))) > 1000 then ((impl_DepthOf.f k x5).bind fun t1016 => (if t1016 > 0 then (some true) else (some (x7.toList == x5.toList)))) else (if x15 = true then (if x7.size + x12.size ≤ 9223372036854775807 then (if x14.toList = (x7 ++ x12).toList then ((impl_DepthOf.f k x5).bind fun t1017 => (if t1017 > 0 then (some true) else (some (x7.toList == x5.toList)))) else (some false)) else (none)) else (some false)))) else ((impl_DepthOf.f k x5).bind fun t1018 => (if t1018 > 0 then (some true) else (some (x7.toList == x5.toList)))))) else (some false)))
def laws_FnExpand.l0 : Nat → ByteArray → Int → ByteArray → ByteArray → ByteArray → Bool → ByteArray → Bool → ByteArray → ByteArray → Int → Int → Option (Bool)
 | 0,_,_,_,_,_,_,_,_,_,_,_,_ => none
 | k + 1,x5,x6,x7,x11,x12,x13,x14,x15,x16,x17,x126,x127 => if x127 < x126 then (if x17.size + x7.size ≤ 9223372036854775807 then (laws_FnExpand.l0 k x5 x6 x7 x11 x12 x13 x14 x15 x16 (x17 ++ x7) x126 (wrap64 (x127 + 1))) else (none)) else (laws_FnExpand.j13 k x5 x6 x7 x11 x12 x13 x14 x15 x16 x17)
end
def laws_FnExpand.f (k : Nat) (l0 : List Int) (l1 : List Int) : Option (Bool):=if (l0.length : Int) > 1048576 then (laws_FnExpand.j0 k l0 l1 true) else (laws_FnExpand.j0 k l0 l1 (decide ((l1.length : Int) > 1048576)))
theorem laws_FnExpand.mono_l : ∀ k,(∀ y0 y1 y2,LeO (laws_FnExpand.j0 k y0 y1 y2) (laws_FnExpand.j0 (k + 1) y0 y1 y2)) ∧ (∀ y0 y1,LeO (laws_FnExpand.j1 k y0 y1) (laws_FnExpand.j1 (k + 1) y0 y1)) ∧ (∀ y0 y1 y2,LeO (laws_FnExpand.j2 k y0 y1 y2) (laws_FnExpand.j2 (k + 1) y0 y1 y2)) ∧ (∀ y0 y1 y2 y3 y4,LeO (laws_FnExpand.j3 k y0 y1 y2 y3 y4) (laws_FnExpand.j3 (k + 1) y0 y1 y2 y3 y4)) ∧ (∀ y0 y1 y2 y3 y4 y5 y6,LeO (laws_FnExpand.j4 k y0 y1 y2 y3 y4 y5 y6) (laws_FnExpand.j4 (k + 1) y0 y1 y2 y3 y4 y5 y6)) ∧ (∀ y0 y1 y2 y3 y4 y5 y6 y7,LeO (laws_FnExpand.j5 k y0 y1 y2 y3 y4 y5 y6 y7) (laws_FnExpand.j5 (k + 1) y0 y1 y2 y3 y4 y5 y6 y7)) ∧ (∀ y0 y1 y2 y3,LeO (laws_FnExpand.j6 k y0 y1 y2 y3) (laws_FnExpand.j6 (k + 1) y0 y1 y2 y3)) ∧ (∀ y0 y1 y2 y3,LeO (laws_FnExpand.j7 k y0 y1 y2 y3) (laws_FnExpand.j7 (k + 1) y0 y1 y2 y3)) ∧ (∀ y0 y1 y2 y3 y4 y5,LeO (laws_FnExpand.j8 k y0 y1 y2 y3 y4 y5) (laws_FnExpand.j8 (k + 1) y0 y1 y2 y3 y4 y5)) ∧ (∀ y0 y1 y2 y3 y4 y5 y6 y7,LeO (laws_FnExpand.j9 k y0 y1 y2 y3 y4 y5 y6 y7) (laws_FnExpand.j9 (k + 1) y0 y1 y2 y3 y4 y5 y6 y7)) ∧ (∀ y0 y1 y2 y3 y4 y5 y6 y7 y8,LeO (laws_FnExpand.j10 k y0 y1 y2 y3 y4 y5 y6 y7 y8) (laws_FnExpand.j10 (k + 1) y0 y1 y2 y3 y4 y5 y6 y7 y8)) ∧ (∀ y0 y1 y2 y3 y4 y5 y6 y7 y8 y9,LeO (laws_FnExpand.j11 k y0 y1 y2 y3 y4 y5 y6 y7 y8 y9) (laws_FnExpand.j11 (k + 1) y0 y1 y2 y3 y4 y5 y6 y7 y8 y9)) ∧ (∀ y0 y1 y2 y3 y4 y5 y6 y7 y8 y9,LeO (laws_FnExpand.j13 k y0 y1 y2 y3 y4 y5 y6 y7 y8 y9) (laws_FnExpand.j13 (k + 1) y0 y1 y2 y3 y4 y5 y6 y7 y8 y9)) ∧ (∀ y0 y1 y2 y3 y4 y5 y6 y7 y8 y9 y10,LeO (laws_FnExpand.j14 k y0 y1 y2 y3 y4 y5 y6 y7 y8 y9 y10) (laws_FnExpand.j14 (k + 1) y0 y1 y2 y3 y4 y5 y6 y7 y8 y9 y10)) ∧ (∀ y0 y1 y2 y3 y4 y5 y6 y7,LeO (laws_FnExpand.j15 k y0 y1 y2 y3 y4 y5 y6 y7) (laws_FnExpand.j15 (k + 1) y0 y1 y2 y3 y4 y5 y6 y7)) ∧ (∀ y0 y1 y2 y3 y4 y5 y6 y7 y8 y9 y10 y11,LeO (laws_FnExpand.l0 k y0 y1 y2 y3 y4 y5 y6 y7 y8 y9 y10 y11) (laws_FnExpand.l0 (k + 1) y0 y1 y2 y3 y4 y5 y6 y7 y8 y9 y10 y11))
 | 0 => ⟨fun _ _ _ r h => by simp [laws_FnExpand.j0] at h,fun _ _ r h => by simp [laws_FnExpand.j1] at h,fun _ _ _ r h => by simp [laws_FnExpand.j2] at h,fun _ _ _ _ _ r h => by simp [laws_FnExpand.j3] at h,fun _ _ _ _ _ _ _ r h => by simp [laws_FnExpand.j4] at h,fun _ _ _ _ _ _ _ _ r h => by simp [laws_FnExpand.j5] at h,fun _ _ _ _ r h => by simp [laws_FnExpand.j6] at h,fun _ _ _ _ r h => by simp [laws_FnExpand.j7] at h,fun _ _ _ _ _ _ r h => by simp [laws_FnExpand.j8] at h,fun _ _ _ _ _ _ _ _ r h => by simp [laws_FnExpand.j9] at h,fun _ _ _ _ _ _ _ _ _ r h => by simp [laws_FnExpand.j10] at h,fun _ _ _ _ _ _ _ _ _ _ r h => by simp [laws_FnExpand.j11] at h,fun _ _ _ _ _ _ _ _ _ _ r h => by simp [laws_FnExpand.j13] at h,fun _ _ _ _ _ _ _ _ _ _ _ r h => by simp [laws_FnExpand.j14] at h,fun _ _ _ _ _ _ _ _ r h => by simp [laws_FnExpand.j15] at h,fun _ _ _ _ _ _ _ _ _ _ _ _ r h => by simp [laws_FnExpand.l0] at h⟩
 | k + 1 => by
  obtain ⟨ih0,ih1,ih2,ih3,ih4,ih5,ih6,ih7,ih8,ih9,ih10,ih11,ih12,ih13,ih14,ih15⟩:=laws_FnExpand.mono_l k
  refine ⟨?_,?_,?_,?_,?_,?_,?_,?_,?_,?_,?_,?_,?_,?_,?_,?_⟩
  ·intro y0 y1 y2
   unfold laws_FnExpand.j0
   repeat' first
   | (with_reducible exact ih0 _ _ _)
   | (with_reducible exact ih1 _ _)
   | (with_reducible exact ih2 _ _ _)
   | (with_reducible exact ih3 _ _ _ _ _)
   | (with_reducible exact ih4 _ _ _ _ _ _ _)
   | (with_reducible exact ih5 _ _ _ _ _ _ _ _)
   | (with_reducible exact ih6 _ _ _ _)
   | (with_reducible exact ih7 _ _ _ _)
   | (with_reducible exact ih8 _ _ _ _ _ _)
   | (with_reducible exact ih9 _ _ _ _ _ _ _ _)
   | (with_reducible exact ih10 _ _ _ _ _ _ _ _ _)
   | (with_reducible exact ih11 _ _ _ _ _ _ _ _ _ _)
   | (with_reducible exact ih12 _ _ _ _ _ _ _ _ _ _)
   | (with_reducible exact ih13 _ _ _ _ _ _ _ _ _ _ _)
   | (with_reducible exact ih14 _ _ _ _ _ _ _ _)
   | (with_reducible exact ih15 _ _ _ _ _ _ _ _ _ _ _ _)
   | (with_reducible exact impl_DepthOf.mono _ _)
   | (with_reducible exact impl_ExpandExpression.mono _ _ _)
   | (with_reducible exact impl_ExpressionValid.mono _ _)
   | (with_reducible exact impl_RepeatExpression.mono _ _)
   | (with_reducible exact impl_WordValid.mono _ _)
   | (with_reducible exact spec_DepthOf.mono _ _)
   | (with_reducible exact spec_DrawDepthOf.mono _ _)
   | (with_reducible exact spec_DrawExpandExpression.mono _ _)
   | (with_reducible exact spec_ExpandExpression.mono _ _ _)
   | (with_reducible exact spec_ExpressionValid.mono _ _)
   | (with_reducible exact LeO.refl _)
   | (with_reducible exact LeO.none _)
   | (with_reducible refine LeO.ite ?_ ?_)
   | (with_reducible refine LeO.bind ?_ (fun _ => ?_))
   | exact ih0 _ _ _
   | exact ih1 _ _
   | exact ih2 _ _ _
   | exact ih3 _ _ _ _ _
   | exact ih4 _ _ _ _ _ _ _
   | exact ih5 _ _ _ _ _ _ _ _
   | exact ih6 _ _ _ _
   | exact ih7 _ _ _ _
   | exact ih8 _ _ _ _ _ _
   | exact ih9 _ _ _ _ _ _ _ _
   | exact ih10 _ _ _ _ _ _ _ _ _
   | exact ih11 _ _ _ _ _ _ _ _ _ _
   | exact ih12 _ _ _ _ _ _ _ _ _ _
   | exact ih13 _ _ _ _ _ _ _ _ _ _ _
   | exact ih14 _ _ _ _ _ _ _ _
   | exact ih15 _ _ _ _ _ _ _ _ _ _ _ _
   | exact impl_DepthOf.mono _ _
   | exact impl_ExpandExpression.mono _ _ _
   | exact impl_ExpressionValid.mono _ _
   | exact impl_RepeatExpression.mono _ _
   | exact impl_WordValid.mono _ _
   | exact spec_DepthOf.mono _ _
   | exact spec_DrawDepthOf.mono _ _
   | exact spec_DrawExpandExpression.mono _ _
   | exact spec_ExpandExpression.mono _ _ _
   | exact spec_ExpressionValid.mono _ _
   | exact LeO.none _
   | refine LeO.ite ?_ ?_
   | refine LeO.bind ?_ (fun _ => ?_)
  ·intro y0 y1
   unfold laws_FnExpand.j1
   repeat' first
   | (with_reducible exact ih0 _ _ _)
   | (with_reducible exact ih1 _ _)
   | (with_reducible exact ih2 _ _ _)
   | (with_reducible exact ih3 _ _ _ _ _)
   | (with_reducible exact ih4 _ _ _ _ _ _ _)
   | (with_reducible exact ih5 _ _ _ _ _ _ _ _)
   | (with_reducible exact ih6 _ _ _ _)
   | (with_reducible exact ih7 _ _ _ _)
   | (with_reducible exact ih8 _ _ _ _ _ _)
   | (with_reducible exact ih9 _ _ _ _ _ _ _ _)
   | (with_reducible exact ih10 _ _ _ _ _ _ _ _ _)
   | (with_reducible exact ih11 _ _ _ _ _ _ _ _ _ _)
   | (with_reducible exact ih12 _ _ _ _ _ _ _ _ _ _)
   | (with_reducible exact ih13 _ _ _ _ _ _ _ _ _ _ _)
   | (with_reducible exact ih14 _ _ _ _ _ _ _ _)
   | (with_reducible exact ih15 _ _ _ _ _ _ _ _ _ _ _ _)
   | (with_reducible exact impl_DepthOf.mono _ _)
   | (with_reducible exact impl_ExpandExpression.mono _ _ _)
   | (with_reducible exact impl_ExpressionValid.mono _ _)
   | (with_reducible exact impl_RepeatExpression.mono _ _)
   | (with_reducible exact impl_WordValid.mono _ _)
   | (with_reducible exact spec_DepthOf.mono _ _)
   | (with_reducible exact spec_DrawDepthOf.mono _ _)
   | (with_reducible exact spec_DrawExpandExpression.mono _ _)
   | (with_reducible exact spec_ExpandExpression.mono _ _ _)
   | (with_reducible exact spec_ExpressionValid.mono _ _)
   | (with_reducible exact LeO.refl _)
   | (with_reducible exact LeO.none _)
   | (with_reducible refine LeO.ite ?_ ?_)
   | (with_reducible refine LeO.bind ?_ (fun _ => ?_))
   | exact ih0 _ _ _
   | exact ih1 _ _
   | exact ih2 _ _ _
   | exact ih3 _ _ _ _ _
   | exact ih4 _ _ _ _ _ _ _
   | exact ih5 _ _ _ _ _ _ _ _
   | exact ih6 _ _ _ _
   | exact ih7 _ _ _ _
   | exact ih8 _ _ _ _ _ _
   | exact ih9 _ _ _ _ _ _ _ _
   | exact ih10 _ _ _ _ _ _ _ _ _
   | exact ih11 _ _ _ _ _ _ _ _ _ _
   | exact ih12 _ _ _ _ _ _ _ _ _ _
   | exact ih13 _ _ _ _ _ _ _ _ _ _ _
   | exact ih14 _ _ _ _ _ _ _ _
   | exact ih15 _ _ _ _ _ _ _ _ _ _ _ _
   | exact impl_DepthOf.mono _ _
   | exact impl_ExpandExpression.mono _ _ _
   | exact impl_ExpressionValid.mono _ _
   | exact impl_RepeatExpression.mono _ _
   | exact impl_WordValid.mono _ _
   | exact spec_DepthOf.mono _ _
   | exact spec_DrawDepthOf.mono _ _
   | exact spec_DrawExpandExpression.mono _ _
   | exact spec_ExpandExpression.mono _ _ _
   | exact spec_ExpressionValid.mono _ _
   | exact LeO.none _
   | refine LeO.ite ?_ ?_
   | refine LeO.bind ?_ (fun _ => ?_)
  ·intro y0 y1 y2
   unfold laws_FnExpand.j2
   repeat' first
   | (with_reducible exact ih0 _ _ _)
   | (with_reducible exact ih1 _ _)
   | (with_reducible exact ih2 _ _ _)
   | (with_reducible exact ih3 _ _ _ _ _)
   | (with_reducible exact ih4 _ _ _ _ _ _ _)
   | (with_reducible exact ih5 _ _ _ _ _ _ _ _)
   | (with_reducible exact ih6 _ _ _ _)
   | (with_reducible exact ih7 _ _ _ _)
   | (with_reducible exact ih8 _ _ _ _ _ _)
   | (with_reducible exact ih9 _ _ _ _ _ _ _ _)
   | (with_reducible exact ih10 _ _ _ _ _ _ _ _ _)
   | (with_reducible exact ih11 _ _ _ _ _ _ _ _ _ _)
   | (with_reducible exact ih12 _ _ _ _ _ _ _ _ _ _)
   | (with_reducible exact ih13 _ _ _ _ _ _ _ _ _ _ _)
   | (with_reducible exact ih14 _ _ _ _ _ _ _ _)
   | (with_reducible exact ih15 _ _ _ _ _ _ _ _ _ _ _ _)
   | (with_reducible exact impl_DepthOf.mono _ _)
   | (with_reducible exact impl_ExpandExpression.mono _ _ _)
   | (with_reducible exact impl_ExpressionValid.mono _ _)
   | (with_reducible exact impl_RepeatExpression.mono _ _)
   | (with_reducible exact impl_WordValid.mono _ _)
   | (with_reducible exact spec_DepthOf.mono _ _)
   | (with_reducible exact spec_DrawDepthOf.mono _ _)
   | (with_reducible exact spec_DrawExpandExpression.mono _ _)
   | (with_reducible exact spec_ExpandExpression.mono _ _ _)
   | (with_reducible exact spec_ExpressionValid.mono _ _)
   | (with_reducible exact LeO.refl _)
   | (with_reducible exact LeO.none _)
   | (with_reducible refine LeO.ite ?_ ?_)
   | (with_reducible refine LeO.bind ?_ (fun _ => ?_))
   | exact ih0 _ _ _
   | exact ih1 _ _
   | exact ih2 _ _ _
   | exact ih3 _ _ _ _ _
   | exact ih4 _ _ _ _ _ _ _
   | exact ih5 _ _ _ _ _ _ _ _
   | exact ih6 _ _ _ _
   | exact ih7 _ _ _ _
   | exact ih8 _ _ _ _ _ _
   | exact ih9 _ _ _ _ _ _ _ _
   | exact ih10 _ _ _ _ _ _ _ _ _
   | exact ih11 _ _ _ _ _ _ _ _ _ _
   | exact ih12 _ _ _ _ _ _ _ _ _ _
   | exact ih13 _ _ _ _ _ _ _ _ _ _ _
   | exact ih14 _ _ _ _ _ _ _ _
   | exact ih15 _ _ _ _ _ _ _ _ _ _ _ _
   | exact impl_DepthOf.mono _ _
   | exact impl_ExpandExpression.mono _ _ _
   | exact impl_ExpressionValid.mono _ _
   | exact impl_RepeatExpression.mono _ _
   | exact impl_WordValid.mono _ _
   | exact spec_DepthOf.mono _ _
   | exact spec_DrawDepthOf.mono _ _
   | exact spec_DrawExpandExpression.mono _ _
   | exact spec_ExpandExpression.mono _ _ _
   | exact spec_ExpressionValid.mono _ _
   | exact LeO.none _
   | refine LeO.ite ?_ ?_
   | refine LeO.bind ?_ (fun _ => ?_)
  ·intro y0 y1 y2 y3 y4
   unfold laws_FnExpand.j3
   repeat' first
   | (with_reducible exact ih0 _ _ _)
   | (with_reducible exact ih1 _ _)
   | (with_reducible exact ih2 _ _ _)
   | (with_reducible exact ih3 _ _ _ _ _)
   | (with_reducible exact ih4 _ _ _ _ _ _ _)
   | (with_reducible exact ih5 _ _ _ _ _ _ _ _)
   | (with_reducible exact ih6 _ _ _ _)
   | (with_reducible exact ih7 _ _ _ _)
   | (with_reducible exact ih8 _ _ _ _ _ _)
   | (with_reducible exact ih9 _ _ _ _ _ _ _ _)
   | (with_reducible exact ih10 _ _ _ _ _ _ _ _ _)
   | (with_reducible exact ih11 _ _ _ _ _ _ _ _ _ _)
   | (with_reducible exact ih12 _ _ _ _ _ _ _ _ _ _)
   | (with_reducible exact ih13 _ _ _ _ _ _ _ _ _ _ _)
   | (with_reducible exact ih14 _ _ _ _ _ _ _ _)
   | (with_reducible exact ih15 _ _ _ _ _ _ _ _ _ _ _ _)
   | (with_reducible exact impl_DepthOf.mono _ _)
   | (with_reducible exact impl_ExpandExpression.mono _ _ _)
   | (with_reducible exact impl_ExpressionValid.mono _ _)
   | (with_reducible exact impl_RepeatExpression.mono _ _)
   | (with_reducible exact impl_WordValid.mono _ _)
   | (with_reducible exact spec_DepthOf.mono _ _)
   | (with_reducible exact spec_DrawDepthOf.mono _ _)
   | (with_reducible exact spec_DrawExpandExpression.mono _ _)
   | (with_reducible exact spec_ExpandExpression.mono _ _ _)
   | (with_reducible exact spec_ExpressionValid.mono _ _)
   | (with_reducible exact LeO.refl _)
   | (with_reducible exact LeO.none _)
   | (with_reducible refine LeO.ite ?_ ?_)
   | (with_reducible refine LeO.bind ?_ (fun _ => ?_))
   | exact ih0 _ _ _
   | exact ih1 _ _
   | exact ih2 _ _ _
   | exact ih3 _ _ _ _ _
   | exact ih4 _ _ _ _ _ _ _
   | exact ih5 _ _ _ _ _ _ _ _
   | exact ih6 _ _ _ _
   | exact ih7 _ _ _ _
   | exact ih8 _ _ _ _ _ _
   | exact ih9 _ _ _ _ _ _ _ _
   | exact ih10 _ _ _ _ _ _ _ _ _
   | exact ih11 _ _ _ _ _ _ _ _ _ _
   | exact ih12 _ _ _ _ _ _ _ _ _ _
   | exact ih13 _ _ _ _ _ _ _ _ _ _ _
   | exact ih14 _ _ _ _ _ _ _ _
   | exact ih15 _ _ _ _ _ _ _ _ _ _ _ _
   | exact impl_DepthOf.mono _ _
   | exact impl_ExpandExpression.mono _ _ _
   | exact impl_ExpressionValid.mono _ _
   | exact impl_RepeatExpression.mono _ _
   | exact impl_WordValid.mono _ _
   | exact spec_DepthOf.mono _ _
   | exact spec_DrawDepthOf.mono _ _
   | exact spec_DrawExpandExpression.mono _ _
   | exact spec_ExpandExpression.mono _ _ _
   | exact spec_ExpressionValid.mono _ _
   | exact LeO.none _
   | refine LeO.ite ?_ ?_
   | refine LeO.bind ?_ (fun _ => ?_)
  ·intro y0 y1 y2 y3 y4 y5 y6
   unfold laws_FnExpand.j4
   repeat' first
   | (with_reducible exact ih0 _ _ _)
   | (with_reducible exact ih1 _ _)
   | (with_reducible exact ih2 _ _ _)
   | (with_reducible exact ih3 _ _ _ _ _)
   | (with_reducible exact ih4 _ _ _ _ _ _ _)
   | (with_reducible exact ih5 _ _ _ _ _ _ _ _)
   | (with_reducible exact ih6 _ _ _ _)
   | (with_reducible exact ih7 _ _ _ _)
   | (with_reducible exact ih8 _ _ _ _ _ _)
   | (with_reducible exact ih9 _ _ _ _ _ _ _ _)
   | (with_reducible exact ih10 _ _ _ _ _ _ _ _ _)
   | (with_reducible exact ih11 _ _ _ _ _ _ _ _ _ _)
   | (with_reducible exact ih12 _ _ _ _ _ _ _ _ _ _)
   | (with_reducible exact ih13 _ _ _ _ _ _ _ _ _ _ _)
   | (with_reducible exact ih14 _ _ _ _ _ _ _ _)
   | (with_reducible exact ih15 _ _ _ _ _ _ _ _ _ _ _ _)
   | (with_reducible exact impl_DepthOf.mono _ _)
   | (with_reducible exact impl_ExpandExpression.mono _ _ _)
   | (with_reducible exact impl_ExpressionValid.mono _ _)
   | (with_reducible exact impl_RepeatExpression.mono _ _)
   | (with_reducible exact impl_WordValid.mono _ _)
   | (with_reducible exact spec_DepthOf.mono _ _)
   | (with_reducible exact spec_DrawDepthOf.mono _ _)
   | (with_reducible exact spec_DrawExpandExpression.mono _ _)
   | (with_reducible exact spec_ExpandExpression.mono _ _ _)
   | (with_reducible exact spec_ExpressionValid.mono _ _)
   | (with_reducible exact LeO.refl _)
   | (with_reducible exact LeO.none _)
   | (with_reducible refine LeO.ite ?_ ?_)
   | (with_reducible refine LeO.bind ?_ (fun _ => ?_))
   | exact ih0 _ _ _
   | exact ih1 _ _
   | exact ih2 _ _ _
   | exact ih3 _ _ _ _ _
   | exact ih4 _ _ _ _ _ _ _
   | exact ih5 _ _ _ _ _ _ _ _
   | exact ih6 _ _ _ _
   | exact ih7 _ _ _ _
   | exact ih8 _ _ _ _ _ _
   | exact ih9 _ _ _ _ _ _ _ _
   | exact ih10 _ _ _ _ _ _ _ _ _
   | exact ih11 _ _ _ _ _ _ _ _ _ _
   | exact ih12 _ _ _ _ _ _ _ _ _ _
   | exact ih13 _ _ _ _ _ _ _ _ _ _ _
   | exact ih14 _ _ _ _ _ _ _ _
   | exact ih15 _ _ _ _ _ _ _ _ _ _ _ _
   | exact impl_DepthOf.mono _ _
   | exact impl_ExpandExpression.mono _ _ _
   | exact impl_ExpressionValid.mono _ _
   | exact impl_RepeatExpression.mono _ _
   | exact impl_WordValid.mono _ _
   | exact spec_DepthOf.mono _ _
   | exact spec_DrawDepthOf.mono _ _
   | exact spec_DrawExpandExpression.mono _ _
   | exact spec_ExpandExpression.mono _ _ _
   | exact spec_ExpressionValid.mono _ _
   | exact LeO.none _
   | refine LeO.ite ?_ ?_
   | refine LeO.bind ?_ (fun _ => ?_)
  ·intro y0 y1 y2 y3 y4 y5 y6 y7
   unfold laws_FnExpand.j5
   repeat' first
   | (with_reducible exact ih0 _ _ _)
   | (with_reducible exact ih1 _ _)
   | (with_reducible exact ih2 _ _ _)
   | (with_reducible exact ih3 _ _ _ _ _)
   | (with_reducible exact ih4 _ _ _ _ _ _ _)
   | (with_reducible exact ih5 _ _ _ _ _ _ _ _)
   | (with_reducible exact ih6 _ _ _ _)
   | (with_reducible exact ih7 _ _ _ _)
   | (with_reducible exact ih8 _ _ _ _ _ _)
   | (with_reducible exact ih9 _ _ _ _ _ _ _ _)
   | (with_reducible exact ih10 _ _ _ _ _ _ _ _ _)
   | (with_reducible exact ih11 _ _ _ _ _ _ _ _ _ _)
   | (with_reducible exact ih12 _ _ _ _ _ _ _ _ _ _)
   | (with_reducible exact ih13 _ _ _ _ _ _ _ _ _ _ _)
   | (with_reducible exact ih14 _ _ _ _ _ _ _ _)
   | (with_reducible exact ih15 _ _ _ _ _ _ _ _ _ _ _ _)
   | (with_reducible exact impl_DepthOf.mono _ _)
   | (with_reducible exact impl_ExpandExpression.mono _ _ _)
   | (with_reducible exact impl_ExpressionValid.mono _ _)
   | (with_reducible exact impl_RepeatExpression.mono _ _)
   | (with_reducible exact impl_WordValid.mono _ _)
   | (with_reducible exact spec_DepthOf.mono _ _)
   | (with_reducible exact spec_DrawDepthOf.mono _ _)
   | (with_reducible exact spec_DrawExpandExpression.mono _ _)
   | (with_reducible exact spec_ExpandExpression.mono _ _ _)
   | (with_reducible exact spec_ExpressionValid.mono _ _)
   | (with_reducible exact LeO.refl _)
   | (with_reducible exact LeO.none _)
   | (with_reducible refine LeO.ite ?_ ?_)
   | (with_reducible refine LeO.bind ?_ (fun _ => ?_))
   | exact ih0 _ _ _
   | exact ih1 _ _
   | exact ih2 _ _ _
   | exact ih3 _ _ _ _ _
   | exact ih4 _ _ _ _ _ _ _
   | exact ih5 _ _ _ _ _ _ _ _
   | exact ih6 _ _ _ _
   | exact ih7 _ _ _ _
   | exact ih8 _ _ _ _ _ _
   | exact ih9 _ _ _ _ _ _ _ _
   | exact ih10 _ _ _ _ _ _ _ _ _
   | exact ih11 _ _ _ _ _ _ _ _ _ _
   | exact ih12 _ _ _ _ _ _ _ _ _ _
   | exact ih13 _ _ _ _ _ _ _ _ _ _ _
   | exact ih14 _ _ _ _ _ _ _ _
   | exact ih15 _ _ _ _ _ _ _ _ _ _ _ _
   | exact impl_DepthOf.mono _ _
   | exact impl_ExpandExpression.mono _ _ _
   | exact impl_ExpressionValid.mono _ _
   | exact impl_RepeatExpression.mono _ _
   | exact impl_WordValid.mono _ _
   | exact spec_DepthOf.mono _ _
   | exact spec_DrawDepthOf.mono _ _
   | exact spec_DrawExpandExpression.mono _ _
   | exact spec_ExpandExpression.mono _ _ _
   | exact spec_ExpressionValid.mono _ _
   | exact LeO.none _
   | refine LeO.ite ?_ ?_
   | refine LeO.bind ?_ (fun _ => ?_)
  ·intro y0 y1 y2 y3
   unfold laws_FnExpand.j6
   repeat' first
   | (with_reducible exact ih0 _ _ _)
   | (with_reducible exact ih1 _ _)
   | (with_reducible exact ih2 _ _ _)
   | (with_reducible exact ih3 _ _ _ _ _)
   | (with_reducible exact ih4 _ _ _ _ _ _ _)
   | (with_reducible exact ih5 _ _ _ _ _ _ _ _)
   | (with_reducible exact ih6 _ _ _ _)
   | (with_reducible exact ih7 _ _ _ _)
   | (with_reducible exact ih8 _ _ _ _ _ _)
   | (with_reducible exact ih9 _ _ _ _ _ _ _ _)
   | (with_reducible exact ih10 _ _ _ _ _ _ _ _ _)
   | (with_reducible exact ih11 _ _ _ _ _ _ _ _ _ _)
   | (with_reducible exact ih12 _ _ _ _ _ _ _ _ _ _)
   | (with_reducible exact ih13 _ _ _ _ _ _ _ _ _ _ _)
   | (with_reducible exact ih14 _ _ _ _ _ _ _ _)
   | (with_reducible exact ih15 _ _ _ _ _ _ _ _ _ _ _ _)
   | (with_reducible exact impl_DepthOf.mono _ _)
   | (with_reducible exact impl_ExpandExpression.mono _ _ _)
   | (with_reducible exact impl_ExpressionValid.mono _ _)
   | (with_reducible exact impl_RepeatExpression.mono _ _)
   | (with_reducible exact impl_WordValid.mono _ _)
   | (with_reducible exact spec_DepthOf.mono _ _)
   | (with_reducible exact spec_DrawDepthOf.mono _ _)
   | (with_reducible exact spec_DrawExpandExpression.mono _ _)
   | (with_reducible exact spec_ExpandExpression.mono _ _ _)
   | (with_reducible exact spec_ExpressionValid.mono _ _)
   | (with_reducible exact LeO.refl _)
   | (with_reducible exact LeO.none _)
   | (with_reducible refine LeO.ite ?_ ?_)
   | (with_reducible refine LeO.bind ?_ (fun _ => ?_))
   | exact ih0 _ _ _
   | exact ih1 _ _
   | exact ih2 _ _ _
   | exact ih3 _ _ _ _ _
   | exact ih4 _ _ _ _ _ _ _
   | exact ih5 _ _ _ _ _ _ _ _
   | exact ih6 _ _ _ _
   | exact ih7 _ _ _ _
   | exact ih8 _ _ _ _ _ _
   | exact ih9 _ _ _ _ _ _ _ _
   | exact ih10 _ _ _ _ _ _ _ _ _
   | exact ih11 _ _ _ _ _ _ _ _ _ _
   | exact ih12 _ _ _ _ _ _ _ _ _ _
   | exact ih13 _ _ _ _ _ _ _ _ _ _ _
   | exact ih14 _ _ _ _ _ _ _ _
   | exact ih15 _ _ _ _ _ _ _ _ _ _ _ _
   | exact impl_DepthOf.mono _ _
   | exact impl_ExpandExpression.mono _ _ _
   | exact impl_ExpressionValid.mono _ _
   | exact impl_RepeatExpression.mono _ _
   | exact impl_WordValid.mono _ _
   | exact spec_DepthOf.mono _ _
   | exact spec_DrawDepthOf.mono _ _
   | exact spec_DrawExpandExpression.mono _ _
   | exact spec_ExpandExpression.mono _ _ _
   | exact spec_ExpressionValid.mono _ _
   | exact LeO.none _
   | refine LeO.ite ?_ ?_
   | refine LeO.bind ?_ (fun _ => ?_)
  ·intro y0 y1 y2 y3
   unfold laws_FnExpand.j7
   repeat' first
   | (with_reducible exact ih0 _ _ _)
   | (with_reducible exact ih1 _ _)
   | (with_reducible exact ih2 _ _ _)
   | (with_reducible exact ih3 _ _ _ _ _)
   | (with_reducible exact ih4 _ _ _ _ _ _ _)
   | (with_reducible exact ih5 _ _ _ _ _ _ _ _)
   | (with_reducible exact ih6 _ _ _ _)
   | (with_reducible exact ih7 _ _ _ _)
   | (with_reducible exact ih8 _ _ _ _ _ _)
   | (with_reducible exact ih9 _ _ _ _ _ _ _ _)
   | (with_reducible exact ih10 _ _ _ _ _ _ _ _ _)
   | (with_reducible exact ih11 _ _ _ _ _ _ _ _ _ _)
   | (with_reducible exact ih12 _ _ _ _ _ _ _ _ _ _)
   | (with_reducible exact ih13 _ _ _ _ _ _ _ _ _ _ _)
   | (with_reducible exact ih14 _ _ _ _ _ _ _ _)
   | (with_reducible exact ih15 _ _ _ _ _ _ _ _ _ _ _ _)
   | (with_reducible exact impl_DepthOf.mono _ _)
   | (with_reducible exact impl_ExpandExpression.mono _ _ _)
   | (with_reducible exact impl_ExpressionValid.mono _ _)
   | (with_reducible exact impl_RepeatExpression.mono _ _)
   | (with_reducible exact impl_WordValid.mono _ _)
   | (with_reducible exact spec_DepthOf.mono _ _)
   | (with_reducible exact spec_DrawDepthOf.mono _ _)
   | (with_reducible exact spec_DrawExpandExpression.mono _ _)
   | (with_reducible exact spec_ExpandExpression.mono _ _ _)
   | (with_reducible exact spec_ExpressionValid.mono _ _)
   | (with_reducible exact LeO.refl _)
   | (with_reducible exact LeO.none _)
   | (with_reducible refine LeO.ite ?_ ?_)
   | (with_reducible refine LeO.bind ?_ (fun _ => ?_))
   | exact ih0 _ _ _
   | exact ih1 _ _
   | exact ih2 _ _ _
   | exact ih3 _ _ _ _ _
   | exact ih4 _ _ _ _ _ _ _
   | exact ih5 _ _ _ _ _ _ _ _
   | exact ih6 _ _ _ _
   | exact ih7 _ _ _ _
   | exact ih8 _ _ _ _ _ _
   | exact ih9 _ _ _ _ _ _ _ _
   | exact ih10 _ _ _ _ _ _ _ _ _
   | exact ih11 _ _ _ _ _ _ _ _ _ _
   | exact ih12 _ _ _ _ _ _ _ _ _ _
   | exact ih13 _ _ _ _ _ _ _ _ _ _ _
   | exact ih14 _ _ _ _ _ _ _ _
   | exact ih15 _ _ _ _ _ _ _ _ _ _ _ _
   | exact impl_DepthOf.mono _ _
   | exact impl_ExpandExpression.mono _ _ _
   | exact impl_ExpressionValid.mono _ _
   | exact impl_RepeatExpression.mono _ _
   | exact impl_WordValid.mono _ _
   | exact spec_DepthOf.mono _ _
   | exact spec_DrawDepthOf.mono _ _
   | exact spec_DrawExpandExpression.mono _ _
   | exact spec_ExpandExpression.mono _ _ _
   | exact spec_ExpressionValid.mono _ _
   | exact LeO.none _
   | refine LeO.ite ?_ ?_
   | refine LeO.bind ?_ (fun _ => ?_)
  ·intro y0 y1 y2 y3 y4 y5
   unfold laws_FnExpand.j8
   repeat' first
   | (with_reducible exact ih0 _ _ _)
   | (with_reducible exact ih1 _ _)
   | (with_reducible exact ih2 _ _ _)
   | (with_reducible exact ih3 _ _ _ _ _)
   | (with_reducible exact ih4 _ _ _ _ _ _ _)
   | (with_reducible exact ih5 _ _ _ _ _ _ _ _)
   | (with_reducible exact ih6 _ _ _ _)
   | (with_reducible exact ih7 _ _ _ _)
   | (with_reducible exact ih8 _ _ _ _ _ _)
   | (with_reducible exact ih9 _ _ _ _ _ _ _ _)
   | (with_reducible exact ih10 _ _ _ _ _ _ _ _ _)
   | (with_reducible exact ih11 _ _ _ _ _ _ _ _ _ _)
   | (with_reducible exact ih12 _ _ _ _ _ _ _ _ _ _)
   | (with_reducible exact ih13 _ _ _ _ _ _ _ _ _ _ _)
   | (with_reducible exact ih14 _ _ _ _ _ _ _ _)
   | (with_reducible exact ih15 _ _ _ _ _ _ _ _ _ _ _ _)
   | (with_reducible exact impl_DepthOf.mono _ _)
   | (with_reducible exact impl_ExpandExpression.mono _ _ _)
   | (with_reducible exact impl_ExpressionValid.mono _ _)
   | (with_reducible exact impl_RepeatExpression.mono _ _)
   | (with_reducible exact impl_WordValid.mono _ _)
   | (with_reducible exact spec_DepthOf.mono _ _)
   | (with_reducible exact spec_DrawDepthOf.mono _ _)
   | (with_reducible exact spec_DrawExpandExpression.mono _ _)
   | (with_reducible exact spec_ExpandExpression.mono _ _ _)
   | (with_reducible exact spec_ExpressionValid.mono _ _)
   | (with_reducible exact LeO.refl _)
   | (with_reducible exact LeO.none _)
   | (with_reducible refine LeO.ite ?_ ?_)
   | (with_reducible refine LeO.bind ?_ (fun _ => ?_))
   | exact ih0 _ _ _
   | exact ih1 _ _
   | exact ih2 _ _ _
   | exact ih3 _ _ _ _ _
   | exact ih4 _ _ _ _ _ _ _
   | exact ih5 _ _ _ _ _ _ _ _
   | exact ih6 _ _ _ _
   | exact ih7 _ _ _ _
   | exact ih8 _ _ _ _ _ _
   | exact ih9 _ _ _ _ _ _ _ _
   | exact ih10 _ _ _ _ _ _ _ _ _
   | exact ih11 _ _ _ _ _ _ _ _ _ _
   | exact ih12 _ _ _ _ _ _ _ _ _ _
   | exact ih13 _ _ _ _ _ _ _ _ _ _ _
   | exact ih14 _ _ _ _ _ _ _ _
   | exact ih15 _ _ _ _ _ _ _ _ _ _ _ _
   | exact impl_DepthOf.mono _ _
   | exact impl_ExpandExpression.mono _ _ _
   | exact impl_ExpressionValid.mono _ _
   | exact impl_RepeatExpression.mono _ _
   | exact impl_WordValid.mono _ _
   | exact spec_DepthOf.mono _ _
   | exact spec_DrawDepthOf.mono _ _
   | exact spec_DrawExpandExpression.mono _ _
   | exact spec_ExpandExpression.mono _ _ _
   | exact spec_ExpressionValid.mono _ _
   | exact LeO.none _
   | refine LeO.ite ?_ ?_
   | refine LeO.bind ?_ (fun _ => ?_)
  ·intro y0 y1 y2 y3 y4 y5 y6 y7
   unfold laws_FnExpand.j9
   repeat' first
   | (with_reducible exact ih0 _ _ _)
   | (with_reducible exact ih1 _ _)
   | (with_reducible exact ih2 _ _ _)
   | (with_reducible exact ih3 _ _ _ _ _)
   | (with_reducible exact ih4 _ _ _ _ _ _ _)
   | (with_reducible exact ih5 _ _ _ _ _ _ _ _)
   | (with_reducible exact ih6 _ _ _ _)
   | (with_reducible exact ih7 _ _ _ _)
   | (with_reducible exact ih8 _ _ _ _ _ _)
   | (with_reducible exact ih9 _ _ _ _ _ _ _ _)
   | (with_reducible exact ih10 _ _ _ _ _ _ _ _ _)
   | (with_reducible exact ih11 _ _ _ _ _ _ _ _ _ _)
   | (with_reducible exact ih12 _ _ _ _ _ _ _ _ _ _)
   | (with_reducible exact ih13 _ _ _ _ _ _ _ _ _ _ _)
   | (with_reducible exact ih14 _ _ _ _ _ _ _ _)
   | (with_reducible exact ih15 _ _ _ _ _ _ _ _ _ _ _ _)
   | (with_reducible exact impl_DepthOf.mono _ _)
   | (with_reducible exact impl_ExpandExpression.mono _ _ _)
   | (with_reducible exact impl_ExpressionValid.mono _ _)
   | (with_reducible exact impl_RepeatExpression.mono _ _)
   | (with_reducible exact impl_WordValid.mono _ _)
   | (with_reducible exact spec_DepthOf.mono _ _)
   | (with_reducible exact spec_DrawDepthOf.mono _ _)
   | (with_reducible exact spec_DrawExpandExpression.mono _ _)
   | (with_reducible exact spec_ExpandExpression.mono _ _ _)
   | (with_reducible exact spec_ExpressionValid.mono _ _)
   | (with_reducible exact LeO.refl _)
   | (with_reducible exact LeO.none _)
   | (with_reducible refine LeO.ite ?_ ?_)
   | (with_reducible refine LeO.bind ?_ (fun _ => ?_))
   | exact ih0 _ _ _
   | exact ih1 _ _
   | exact ih2 _ _ _
   | exact ih3 _ _ _ _ _
   | exact ih4 _ _ _ _ _ _ _
   | exact ih5 _ _ _ _ _ _ _ _
   | exact ih6 _ _ _ _
   | exact ih7 _ _ _ _
   | exact ih8 _ _ _ _ _ _
   | exact ih9 _ _ _ _ _ _ _ _
   | exact ih10 _ _ _ _ _ _ _ _ _
   | exact ih11 _ _ _ _ _ _ _ _ _ _
   | exact ih12 _ _ _ _ _ _ _ _ _ _
   | exact ih13 _ _ _ _ _ _ _ _ _ _ _
   | exact ih14 _ _ _ _ _ _ _ _
   | exact ih15 _ _ _ _ _ _ _ _ _ _ _ _
   | exact impl_DepthOf.mono _ _
   | exact impl_ExpandExpression.mono _ _ _
   | exact impl_ExpressionValid.mono _ _
   | exact impl_RepeatExpression.mono _ _
   | exact impl_WordValid.mono _ _
   | exact spec_DepthOf.mono _ _
   | exact spec_DrawDepthOf.mono _ _
   | exact spec_DrawExpandExpression.mono _ _
   | exact spec_ExpandExpression.mono _ _ _
   | exact spec_ExpressionValid.mono _ _
   | exact LeO.none _
   | refine LeO.ite ?_ ?_
   | refine LeO.bind ?_ (fun _ => ?_)
  ·intro y0 y1 y2 y3 y4 y5 y6 y7 y8
   unfold laws_FnExpand.j10
   repeat' first
   | (with_reducible exact ih0 _ _ _)
   | (with_reducible exact ih1 _ _)
   | (with_reducible exact ih2 _ _ _)
   | (with_reducible exact ih3 _ _ _ _ _)
   | (with_reducible exact ih4 _ _ _ _ _ _ _)
   | (with_reducible exact ih5 _ _ _ _ _ _ _ _)
   | (with_reducible exact ih6 _ _ _ _)
   | (with_reducible exact ih7 _ _ _ _)
   | (with_reducible exact ih8 _ _ _ _ _ _)
   | (with_reducible exact ih9 _ _ _ _ _ _ _ _)
   | (with_reducible exact ih10 _ _ _ _ _ _ _ _ _)
   | (with_reducible exact ih11 _ _ _ _ _ _ _ _ _ _)
   | (with_reducible exact ih12 _ _ _ _ _ _ _ _ _ _)
   | (with_reducible exact ih13 _ _ _ _ _ _ _ _ _ _ _)
   | (with_reducible exact ih14 _ _ _ _ _ _ _ _)
   | (with_reducible exact ih15 _ _ _ _ _ _ _ _ _ _ _ _)
   | (with_reducible exact impl_DepthOf.mono _ _)
   | (with_reducible exact impl_ExpandExpression.mono _ _ _)
   | (with_reducible exact impl_ExpressionValid.mono _ _)
   | (with_reducible exact impl_RepeatExpression.mono _ _)
   | (with_reducible exact impl_WordValid.mono _ _)
   | (with_reducible exact spec_DepthOf.mono _ _)
   | (with_reducible exact spec_DrawDepthOf.mono _ _)
   | (with_reducible exact spec_DrawExpandExpression.mono _ _)
   | (with_reducible exact spec_ExpandExpression.mono _ _ _)
   | (with_reducible exact spec_ExpressionValid.mono _ _)
   | (with_reducible exact LeO.refl _)
   | (with_reducible exact LeO.none _)
   | (with_reducible refine LeO.ite ?_ ?_)
   | (with_reducible refine LeO.bind ?_ (fun _ => ?_))
   | exact ih0 _ _ _
   | exact ih1 _ _
   | exact ih2 _ _ _
   | exact ih3 _ _ _ _ _
   | exact ih4 _ _ _ _ _ _ _
   | exact ih5 _ _ _ _ _ _ _ _
   | exact ih6 _ _ _ _
   | exact ih7 _ _ _ _
   | exact ih8 _ _ _ _ _ _
   | exact ih9 _ _ _ _ _ _ _ _
   | exact ih10 _ _ _ _ _ _ _ _ _
   | exact ih11 _ _ _ _ _ _ _ _ _ _
   | exact ih12 _ _ _ _ _ _ _ _ _ _
   | exact ih13 _ _ _ _ _ _ _ _ _ _ _
   | exact ih14 _ _ _ _ _ _ _ _
   | exact ih15 _ _ _ _ _ _ _ _ _ _ _ _
   | exact impl_DepthOf.mono _ _
   | exact impl_ExpandExpression.mono _ _ _
   | exact impl_ExpressionValid.mono _ _
   | exact impl_RepeatExpression.mono _ _
   | exact impl_WordValid.mono _ _
   | exact spec_DepthOf.mono _ _
   | exact spec_DrawDepthOf.mono _ _
   | exact spec_DrawExpandExpression.mono _ _
   | exact spec_ExpandExpression.mono _ _ _
   | exact spec_ExpressionValid.mono _ _
   | exact LeO.none _
   | refine LeO.ite ?_ ?_
   | refine LeO.bind ?_ (fun _ => ?_)
  ·intro y0 y1 y2 y3 y4 y5 y6 y7 y8 y9
   unfold laws_FnExpand.j11
   repeat' first
   | (with_reducible exact ih0 _ _ _)
   | (with_reducible exact ih1 _ _)
   | (with_reducible exact ih2 _ _ _)
   | (with_reducible exact ih3 _ _ _ _ _)
   | (with_reducible exact ih4 _ _ _ _ _ _ _)
   | (with_reducible exact ih5 _ _ _ _ _ _ _ _)
   | (with_reducible exact ih6 _ _ _ _)
   | (with_reducible exact ih7 _ _ _ _)
   | (with_reducible exact ih8 _ _ _ _ _ _)
   | (with_reducible exact ih9 _ _ _ _ _ _ _ _)
   | (with_reducible exact ih10 _ _ _ _ _ _ _ _ _)
   | (with_reducible exact ih11 _ _ _ _ _ _ _ _ _ _)
   | (with_reducible exact ih12 _ _ _ _ _ _ _ _ _ _)
   | (with_reducible exact ih13 _ _ _ _ _ _ _ _ _ _ _)
   | (with_reducible exact ih14 _ _ _ _ _ _ _ _)
   | (with_reducible exact ih15 _ _ _ _ _ _ _ _ _ _ _ _)
   | (with_reducible exact impl_DepthOf.mono _ _)
   | (with_reducible exact impl_ExpandExpression.mono _ _ _)
   | (with_reducible exact impl_ExpressionValid.mono _ _)
   | (with_reducible exact impl_RepeatExpression.mono _ _)
   | (with_reducible exact impl_WordValid.mono _ _)
   | (with_reducible exact spec_DepthOf.mono _ _)
   | (with_reducible exact spec_DrawDepthOf.mono _ _)
   | (with_reducible exact spec_DrawExpandExpression.mono _ _)
   | (with_reducible exact spec_ExpandExpression.mono _ _ _)
   | (with_reducible exact spec_ExpressionValid.mono _ _)
   | (with_reducible exact LeO.refl _)
   | (with_reducible exact LeO.none _)
   | (with_reducible refine LeO.ite ?_ ?_)
   | (with_reducible refine LeO.bind ?_ (fun _ => ?_))
   | exact ih0 _ _ _
   | exact ih1 _ _
   | exact ih2 _ _ _
   | exact ih3 _ _ _ _ _
   | exact ih4 _ _ _ _ _ _ _
   | exact ih5 _ _ _ _ _ _ _ _
   | exact ih6 _ _ _ _
   | exact ih7 _ _ _ _
   | exact ih8 _ _ _ _ _ _
   | exact ih9 _ _ _ _ _ _ _ _
   | exact ih10 _ _ _ _ _ _ _ _ _
   | exact ih11 _ _ _ _ _ _ _ _ _ _
   | exact ih12 _ _ _ _ _ _ _ _ _ _
   | exact ih13 _ _ _ _ _ _ _ _ _ _ _
   | exact ih14 _ _ _ _ _ _ _ _
   | exact ih15 _ _ _ _ _ _ _ _ _ _ _ _
   | exact impl_DepthOf.mono _ _
   | exact impl_ExpandExpression.mono _ _ _
   | exact impl_ExpressionValid.mono _ _
   | exact impl_RepeatExpression.mono _ _
   | exact impl_WordValid.mono _ _
   | exact spec_DepthOf.mono _ _
   | exact spec_DrawDepthOf.mono _ _
   | exact spec_DrawExpandExpression.mono _ _
   | exact spec_ExpandExpression.mono _ _ _
   | exact spec_ExpressionValid.mono _ _
   | exact LeO.none _
   | refine LeO.ite ?_ ?_
   | refine LeO.bind ?_ (fun _ => ?_)
  ·intro y0 y1 y2 y3 y4 y5 y6 y7 y8 y9
   unfold laws_FnExpand.j13
   repeat' first
   | (with_reducible exact ih0 _ _ _)
   | (with_reducible exact ih1 _ _)
   | (with_reducible exact ih2 _ _ _)
   | (with_reducible exact ih3 _ _ _ _ _)
   | (with_reducible exact ih4 _ _ _ _ _ _ _)
   | (with_reducible exact ih5 _ _ _ _ _ _ _ _)
   | (with_reducible exact ih6 _ _ _ _)
   | (with_reducible exact ih7 _ _ _ _)
   | (with_reducible exact ih8 _ _ _ _ _ _)
   | (with_reducible exact ih9 _ _ _ _ _ _ _ _)
   | (with_reducible exact ih10 _ _ _ _ _ _ _ _ _)
   | (with_reducible exact ih11 _ _ _ _ _ _ _ _ _ _)
   | (with_reducible exact ih12 _ _ _ _ _ _ _ _ _ _)
   | (with_reducible exact ih13 _ _ _ _ _ _ _ _ _ _ _)
   | (with_reducible exact ih14 _ _ _ _ _ _ _ _)
   | (with_reducible exact ih15 _ _ _ _ _ _ _ _ _ _ _ _)
   | (with_reducible exact impl_DepthOf.mono _ _)
   | (with_reducible exact impl_ExpandExpression.mono _ _ _)
   | (with_reducible exact impl_ExpressionValid.mono _ _)
   | (with_reducible exact impl_RepeatExpression.mono _ _)
   | (with_reducible exact impl_WordValid.mono _ _)
   | (with_reducible exact spec_DepthOf.mono _ _)
   | (with_reducible exact spec_DrawDepthOf.mono _ _)
   | (with_reducible exact spec_DrawExpandExpression.mono _ _)
   | (with_reducible exact spec_ExpandExpression.mono _ _ _)
   | (with_reducible exact spec_ExpressionValid.mono _ _)
   | (with_reducible exact LeO.refl _)
   | (with_reducible exact LeO.none _)
   | (with_reducible refine LeO.ite ?_ ?_)
   | (with_reducible refine LeO.bind ?_ (fun _ => ?_))
   | exact ih0 _ _ _
   | exact ih1 _ _
   | exact ih2 _ _ _
   | exact ih3 _ _ _ _ _
   | exact ih4 _ _ _ _ _ _ _
   | exact ih5 _ _ _ _ _ _ _ _
   | exact ih6 _ _ _ _
   | exact ih7 _ _ _ _
   | exact ih8 _ _ _ _ _ _
   | exact ih9 _ _ _ _ _ _ _ _
   | exact ih10 _ _ _ _ _ _ _ _ _
   | exact ih11 _ _ _ _ _ _ _ _ _ _
   | exact ih12 _ _ _ _ _ _ _ _ _ _
   | exact ih13 _ _ _ _ _ _ _ _ _ _ _
   | exact ih14 _ _ _ _ _ _ _ _
   | exact ih15 _ _ _ _ _ _ _ _ _ _ _ _
   | exact impl_DepthOf.mono _ _
   | exact impl_ExpandExpression.mono _ _ _
   | exact impl_ExpressionValid.mono _ _
   | exact impl_RepeatExpression.mono _ _
   | exact impl_WordValid.mono _ _
   | exact spec_DepthOf.mono _ _
   | exact spec_DrawDepthOf.mono _ _
   | exact spec_DrawExpandExpression.mono _ _
   | exact spec_ExpandExpression.mono _ _ _
   | exact spec_ExpressionValid.mono _ _
   | exact LeO.none _
   | refine LeO.ite ?_ ?_
   | refine LeO.bind ?_ (fun _ => ?_)
  ·intro y0 y1 y2 y3 y4 y5 y6 y7 y8 y9 y10
   unfold laws_FnExpand.j14
   repeat' first
   | (with_reducible exact ih0 _ _ _)
   | (with_reducible exact ih1 _ _)
   | (with_reducible exact ih2 _ _ _)
   | (with_reducible exact ih3 _ _ _ _ _)
   | (with_reducible exact ih4 _ _ _ _ _ _ _)
   | (with_reducible exact ih5 _ _ _ _ _ _ _ _)
   | (with_reducible exact ih6 _ _ _ _)
   | (with_reducible exact ih7 _ _ _ _)
   | (with_reducible exact ih8 _ _ _ _ _ _)
   | (with_reducible exact ih9 _ _ _ _ _ _ _ _)
   | (with_reducible exact ih10 _ _ _ _ _ _ _ _ _)
   | (with_reducible exact ih11 _ _ _ _ _ _ _ _ _ _)
   | (with_reducible exact ih12 _ _ _ _ _ _ _ _ _ _)
   | (with_reducible exact ih13 _ _ _ _ _ _ _ _ _ _ _)
   | (with_reducible exact ih14 _ _ _ _ _ _ _ _)
   | (with_reducible exact ih15 _ _ _ _ _ _ _ _ _ _ _ _)
   | (with_reducible exact impl_DepthOf.mono _ _)
   | (with_reducible exact impl_ExpandExpression.mono _ _ _)
   | (with_reducible exact impl_ExpressionValid.mono _ _)
   | (with_reducible exact impl_RepeatExpression.mono _ _)
   | (with_reducible exact impl_WordValid.mono _ _)
   | (with_reducible exact spec_DepthOf.mono _ _)
   | (with_reducible exact spec_DrawDepthOf.mono _ _)
   | (with_reducible exact spec_DrawExpandExpression.mono _ _)
   | (with_reducible exact spec_ExpandExpression.mono _ _ _)
   | (with_reducible exact spec_ExpressionValid.mono _ _)
   | (with_reducible exact LeO.refl _)
   | (with_reducible exact LeO.none _)
   | (with_reducible refine LeO.ite ?_ ?_)
   | (with_reducible refine LeO.bind ?_ (fun _ => ?_))
   | exact ih0 _ _ _
   | exact ih1 _ _
   | exact ih2 _ _ _
   | exact ih3 _ _ _ _ _
   | exact ih4 _ _ _ _ _ _ _
   | exact ih5 _ _ _ _ _ _ _ _
   | exact ih6 _ _ _ _
   | exact ih7 _ _ _ _
   | exact ih8 _ _ _ _ _ _
   | exact ih9 _ _ _ _ _ _ _ _
   | exact ih10 _ _ _ _ _ _ _ _ _
   | exact ih11 _ _ _ _ _ _ _ _ _ _
   | exact ih12 _ _ _ _ _ _ _ _ _ _
   | exact ih13 _ _ _ _ _ _ _ _ _ _ _
   | exact ih14 _ _ _ _ _ _ _ _
   | exact ih15 _ _ _ _ _ _ _ _ _ _ _ _
   | exact impl_DepthOf.mono _ _
   | exact impl_ExpandExpression.mono _ _ _
   | exact impl_ExpressionValid.mono _ _
   | exact impl_RepeatExpression.mono _ _
   | exact impl_WordValid.mono _ _
   | exact spec_DepthOf.mono _ _
   | exact spec_DrawDepthOf.mono _ _
   | exact spec_DrawExpandExpression.mono _ _
   | exact spec_ExpandExpression.mono _ _ _
   | exact spec_ExpressionValid.mono _ _
   | exact LeO.none _
   | refine LeO.ite ?_ ?_
   | refine LeO.bind ?_ (fun _ => ?_)
  ·intro y0 y1 y2 y3 y4 y5 y6 y7
   unfold laws_FnExpand.j15
   repeat' first
   | (with_reducible exact ih0 _ _ _)
   | (with_reducible exact ih1 _ _)
   | (with_reducible exact ih2 _ _ _)
   | (with_reducible exact ih3 _ _ _ _ _)
   | (with_reducible exact ih4 _ _ _ _ _ _ _)
   | (with_reducible exact ih5 _ _ _ _ _ _ _ _)
   | (with_reducible exact ih6 _ _ _ _)
   | (with_reducible exact ih7 _ _ _ _)
   | (with_reducible exact ih8 _ _ _ _ _ _)
   | (with_reducible exact ih9 _ _ _ _ _ _ _ _)
   | (with_reducible exact ih10 _ _ _ _ _ _ _ _ _)
   | (with_reducible exact ih11 _ _ _ _ _ _ _ _ _ _)
   | (with_reducible exact ih12 _ _ _ _ _ _ _ _ _ _)
   | (with_reducible exact ih13 _ _ _ _ _ _ _ _ _ _ _)
   | (with_reducible exact ih14 _ _ _ _ _ _ _ _)
   | (with_reducible exact ih15 _ _ _ _ _ _ _ _ _ _ _ _)
   | (with_reducible exact impl_DepthOf.mono _ _)
   | (with_reducible exact impl_ExpandExpression.mono _ _ _)
   | (with_reducible exact impl_ExpressionValid.mono _ _)
   | (with_reducible exact impl_RepeatExpression.mono _ _)
   | (with_reducible exact impl_WordValid.mono _ _)
   | (with_reducible exact spec_DepthOf.mono _ _)
   | (with_reducible exact spec_DrawDepthOf.mono _ _)
   | (with_reducible exact spec_DrawExpandExpression.mono _ _)
   | (with_reducible exact spec_ExpandExpression.mono _ _ _)
   | (with_reducible exact spec_ExpressionValid.mono _ _)
   | (with_reducible exact LeO.refl _)
   | (with_reducible exact LeO.none _)
   | (with_reducible refine LeO.ite ?_ ?_)
   | (with_reducible refine LeO.bind ?_ (fun _ => ?_))
   | exact ih0 _ _ _
   | exact ih1 _ _
   | exact ih2 _ _ _
   | exact ih3 _ _ _ _ _
   | exact ih4 _ _ _ _ _ _ _
   | exact ih5 _ _ _ _ _ _ _ _
   | exact ih6 _ _ _ _
   | exact ih7 _ _ _ _
   | exact ih8 _ _ _ _ _ _
   | exact ih9 _ _ _ _ _ _ _ _
   | exact ih10 _ _ _ _ _ _ _ _ _
   | exact ih11 _ _ _ _ _ _ _ _ _ _
   | exact ih12 _ _ _ _ _ _ _ _ _ _
   | exact ih13 _ _ _ _ _ _ _ _ _ _ _
   | exact ih14 _ _ _ _ _ _ _ _
   | exact ih15 _ _ _ _ _ _ _ _ _ _ _ _
   | exact impl_DepthOf.mono _ _
   | exact impl_ExpandExpression.mono _ _ _
   | exact impl_ExpressionValid.mono _ _
   | exact impl_RepeatExpression.mono _ _
   | exact impl_WordValid.mono _ _
   | exact spec_DepthOf.mono _ _
   | exact spec_DrawDepthOf.mono _ _
   | exact spec_DrawExpandExpression.mono _ _
   | exact spec_ExpandExpression.mono _ _ _
   | exact spec_ExpressionValid.mono _ _
   | exact LeO.none _
   | refine LeO.ite ?_ ?_
   | refine LeO.bind ?_ (fun _ => ?_)
  ·intro y0 y1 y2 y3 y4 y5 y6 y7 y8 y9 y10 y11
   unfold laws_FnExpand.l0
   repeat' first
   | (with_reducible exact ih0 _ _ _)
   | (with_reducible exact ih1 _ _)
   | (with_reducible exact ih2 _ _ _)
   | (with_reducible exact ih3 _ _ _ _ _)
   | (with_reducible exact ih4 _ _ _ _ _ _ _)
   | (with_reducible exact ih5 _ _ _ _ _ _ _ _)
   | (with_reducible exact ih6 _ _ _ _)
   | (with_reducible exact ih7 _ _ _ _)
   | (with_reducible exact ih8 _ _ _ _ _ _)
   | (with_reducible exact ih9 _ _ _ _ _ _ _ _)
   | (with_reducible exact ih10 _ _ _ _ _ _ _ _ _)
   | (with_reducible exact ih11 _ _ _ _ _ _ _ _ _ _)
   | (with_reducible exact ih12 _ _ _ _ _ _ _ _ _ _)
   | (with_reducible exact ih13 _ _ _ _ _ _ _ _ _ _ _)
   | (with_reducible exact ih14 _ _ _ _ _ _ _ _)
   | (with_reducible exact ih15 _ _ _ _ _ _ _ _ _ _ _ _)
   | (with_reducible exact impl_DepthOf.mono _ _)
   | (with_reducible exact impl_ExpandExpression.mono _ _ _)
   | (with_reducible exact impl_ExpressionValid.mono _ _)
   | (with_reducible exact impl_RepeatExpression.mono _ _)
   | (with_reducible exact impl_WordValid.mono _ _)
   | (with_reducible exact spec_DepthOf.mono _ _)
   | (with_reducible exact spec_DrawDepthOf.mono _ _)
   | (with_reducible exact spec_DrawExpandExpression.mono _ _)
   | (with_reducible exact spec_ExpandExpression.mono _ _ _)
   | (with_reducible exact spec_ExpressionValid.mono _ _)
   | (with_reducible exact LeO.refl _)
   | (with_reducible exact LeO.none _)
   | (with_reducible refine LeO.ite ?_ ?_)
   | (with_reducible refine LeO.bind ?_ (fun _ => ?_))
   | exact ih0 _ _ _
   | exact ih1 _ _
   | exact ih2 _ _ _
   | exact ih3 _ _ _ _ _
   | exact ih4 _ _ _ _ _ _ _
   | exact ih5 _ _ _ _ _ _ _ _
   | exact ih6 _ _ _ _
   | exact ih7 _ _ _ _
   | exact ih8 _ _ _ _ _ _
   | exact ih9 _ _ _ _ _ _ _ _
   | exact ih10 _ _ _ _ _ _ _ _ _
   | exact ih11 _ _ _ _ _ _ _ _ _ _
   | exact ih12 _ _ _ _ _ _ _ _ _ _
   | exact ih13 _ _ _ _ _ _ _ _ _ _ _
   | exact ih14 _ _ _ _ _ _ _ _
   | exact ih15 _ _ _ _ _ _ _ _ _ _ _ _
   | exact impl_DepthOf.mono _ _
   | exact impl_ExpandExpression.mono _ _ _
   | exact impl_ExpressionValid.mono _ _
   | exact impl_RepeatExpression.mono _ _
   | exact impl_WordValid.mono _ _
   | exact spec_DepthOf.mono _ _
   | exact spec_DrawDepthOf.mono _ _
   | exact spec_DrawExpandExpression.mono _ _
   | exact spec_ExpandExpression.mono _ _ _
   | exact spec_ExpressionValid.mono _ _
   | exact LeO.none _
   | refine LeO.ite ?_ ?_
   | refine LeO.bind ?_ (fun _ => ?_)
theorem laws_FnExpand.mono : ∀ a0 a1 k,LeO (laws_FnExpand.f k a0 a1) (laws_FnExpand.f (k + 1) a0 a1):=by
 intro a0 a1 k
 obtain ⟨ih0,ih1,ih2,ih3,ih4,ih5,ih6,ih7,ih8,ih9,ih10,ih11,ih12,ih13,ih14,ih15⟩:=laws_FnExpand.mono_l k
 unfold laws_FnExpand.f
 repeat' first
   | (with_reducible exact ih0 _ _ _)
   | (with_reducible exact ih1 _ _)
   | (with_reducible exact ih2 _ _ _)
   | (with_reducible exact ih3 _ _ _ _ _)
   | (with_reducible exact ih4 _ _ _ _ _ _ _)
   | (with_reducible exact ih5 _ _ _ _ _ _ _ _)
   | (with_reducible exact ih6 _ _ _ _)
   | (with_reducible exact ih7 _ _ _ _)
   | (with_reducible exact ih8 _ _ _ _ _ _)
   | (with_reducible exact ih9 _ _ _ _ _ _ _ _)
   | (with_reducible exact ih10 _ _ _ _ _ _ _ _ _)
   | (with_reducible exact ih11 _ _ _ _ _ _ _ _ _ _)
   | (with_reducible exact ih12 _ _ _ _ _ _ _ _ _ _)
   | (with_reducible exact ih13 _ _ _ _ _ _ _ _ _ _ _)
   | (with_reducible exact ih14 _ _ _ _ _ _ _ _)
   | (with_reducible exact ih15 _ _ _ _ _ _ _ _ _ _ _ _)
   | (with_reducible exact impl_DepthOf.mono _ _)
   | (with_reducible exact impl_ExpandExpression.mono _ _ _)
   | (with_reducible exact impl_ExpressionValid.mono _ _)
   | (with_reducible exact impl_RepeatExpression.mono _ _)
   | (with_reducible exact impl_WordValid.mono _ _)
   | (with_reducible exact spec_DepthOf.mono _ _)
   | (with_reducible exact spec_DrawDepthOf.mono _ _)
   | (with_reducible exact spec_DrawExpandExpression.mono _ _)
   | (with_reducible exact spec_ExpandExpression.mono _ _ _)
   | (with_reducible exact spec_ExpressionValid.mono _ _)
   | (with_reducible exact LeO.refl _)
   | (with_reducible exact LeO.none _)
   | (with_reducible refine LeO.ite ?_ ?_)
   | (with_reducible refine LeO.bind ?_ (fun _ => ?_))
   | exact ih0 _ _ _
   | exact ih1 _ _
   | exact ih2 _ _ _
   | exact ih3 _ _ _ _ _
   | exact ih4 _ _ _ _ _ _ _
   | exact ih5 _ _ _ _ _ _ _ _
   | exact ih6 _ _ _ _
   | exact ih7 _ _ _ _
   | exact ih8 _ _ _ _ _ _
   | exact ih9 _ _ _ _ _ _ _ _
   | exact ih10 _ _ _ _ _ _ _ _ _
   | exact ih11 _ _ _ _ _ _ _ _ _ _
   | exact ih12 _ _ _ _ _ _ _ _ _ _
   | exact ih13 _ _ _ _ _ _ _ _ _ _ _
   | exact ih14 _ _ _ _ _ _ _ _
   | exact ih15 _ _ _ _ _ _ _ _ _ _ _ _
   | exact impl_DepthOf.mono _ _
   | exact impl_ExpandExpression.mono _ _ _
   | exact impl_ExpressionValid.mono _ _
   | exact impl_RepeatExpression.mono _ _
   | exact impl_WordValid.mono _ _
   | exact spec_DepthOf.mono _ _
   | exact spec_DrawDepthOf.mono _ _
   | exact spec_DrawExpandExpression.mono _ _
   | exact spec_ExpandExpression.mono _ _ _
   | exact spec_ExpressionValid.mono _ _
   | exact LeO.none _
   | refine LeO.ite ?_ ?_
   | refine LeO.bind ?_ (fun _ => ?_)
end Go.Proofs.Ytengegdaiphfeaa.X
end
section
namespace Go.Proofs.Ytengegdaiphfeaa.X
open Go.RowKit Go.Proofs.YtengegdaiphfeaaW.PrintWords Go.Proofs.YtengegdaiphfeaaW.PrintLast Go.Proofs.YtengegdaiphfeaaW.PrintMore
attribute [local go_sem] max2_int min2_int max_two min_two max_three min_three max_four min_four
set_option linter.unusedVariables false
set_option linter.unusedSimpArgs false
set_option maxHeartbeats 8000000 in
set_option maxRecDepth 100000 in
noncomputable def laws_FnExpand.p0 (k : Nat) (A0 : Option Addr) (c0 : Nat) (l0 : List Int) (A1 : Option Addr) (c1 : Nat) (l1 : List Int) (r : Bool) (w : World) : { G_ : Prop // ∀ (hr0 : Kd.C (Kd.int .u8) w A0 l0.length l0) (hc0 : l0.length ≤ c0) (hr1 : Kd.C (Kd.int .u8) w A1 l1.length l1) (hc1 : l1.length ≤ c1) (h : laws_FnExpand.f k l0 l1 = some r),Aside0 G_ → Calls Try.prog 14 #[.slice A0 l0.length c0,.slice A1 l1.length c1] w fun e w' => e = .returned (.bool r) ∧ Below w.heap.size w w' }:=⟨_,fun hr0 hc0 hr1 hc1 h hG_0 => by
 have HR0:=Aside0.mk hr0
 have HC0:=Aside0.mk hc0
 clear hr0 hc0
 have HR1:=Aside0.mk hr1
 have HC1:=Aside0.mk hc1
 clear hr1 hc1
 have HB:=Aside0.mk (Below.refl w.heap.size w)
 have H : (if (l0.length : Int) > 1048576 then (laws_FnExpand.j0 k l0 l1 true) else (laws_FnExpand.j0 k l0 l1 (decide ((l1.length : Int) > 1048576)))) = some r:=h
 clear h
 have HC3:=Aside0.mk H
 clear H
 go_enter Try.func14,Try.ntmps14
 go_upto_region 1 with (fail)
 go_cut [27] (fun v27 wc => ∃ (kq : Nat) (x27_2 : Bool),v27 = .bool x27_2 ∧ Aside0 (laws_FnExpand.j0 kq l0 l1 x27_2 = some r) ∧ Aside0 (kq ≤ k) ∧ Aside0 (Below w.heap.size w wc))
 case first =>
  have H:=HC3.out
  clear HC3
  by_cases c4 : (l0.length : Int) > 1048576
  ·rw [if_pos c4] at H
   have c4b0 : decide (1048576 < (l0.length : Int)) = true:=decide_eq_true c4
   have c4b1 : decide (1048576 < l0.length) = true:=decide_eq_true (by omega)
   clear c4
   (first|rw [c4b0]|(simp only [i64_w,i32_w];rw [c4b0])|skip)
   have H':=Aside0.mk H
   clear H
   go_wp2
   go_meet
   case rel => exact ⟨_,(true),(by first|rfl|(simp;done)|(simp [*];done)),H',⟨by first|omega|exact Nat.le_refl _⟩,⟨be0_ HB.out⟩⟩
  ·rw [if_neg c4] at H
   have c4b0 : decide (1048576 < (l0.length : Int)) = false:=decide_eq_false c4
   have c4b1 : decide (1048576 < l0.length) = false:=decide_eq_false (by omega)
   clear c4
   (first|rw [c4b0]|(simp only [i64_w,i32_w];rw [c4b0])|skip)
   have H':=Aside0.mk H
   clear H
   go_wp2
   go_meet
   case rel => exact ⟨_,(decide ((l1.length : Int) > 1048576)),(by first|rfl|(simp;done)|(simp [*];done)),H',⟨by first|omega|exact Nat.le_refl _⟩,⟨be0_ HB.out⟩⟩
 case rest =>
  clear HC3
  try clear c1
  try clear p2
  try clear c4
  try clear c4b0
  try clear c4b1
  obtain ⟨kq,x27_2,rfl,HA,HJ2,HB⟩:=hcut
  cases kq with
  | zero => exact absurd HA.out (by simp [laws_FnExpand.j0])
  | succ kj2 =>
   have H:=HA.out
   clear HA
   simp only [laws_FnExpand.j0] at H
   have HC5:=Aside0.mk H
   clear H
   go_upto_if 27 with (fail)
   go_cut [] (fun wc => ∃ (kq : Nat),Aside0 (laws_FnExpand.j1 kq l0 l1 = some r) ∧ Aside0 (kq ≤ kj2) ∧ Aside0 (Below w.heap.size w wc))
   case first =>
    have H:=HC5.out
    clear HC5
    by_cases c6 : x27_2 = true
    ·subst c6
     have H1 : (some true) = some r:=by rw [if_pos rfl] at H;exact H
     clear H
     have H:=H1
     clear H1
     obtain rfl:=Option.some.inj H
     go_wp2
     go_ret
     exact ⟨by first|rfl|(simp [errW_none,errW_some] <;> rfl)|(simp [*,errW_none,errW_some] <;> rfl),be0_ HB.out⟩
    ·replace c6:=Bool.eq_false_iff.mpr c6
     subst c6
     have H1 : (laws_FnExpand.j1 kj2 l0 l1) = some r:=by rw [if_neg (show ¬ (false = true) by decide)] at H;exact H
     clear H
     have H:=H1
     clear H1
     have H':=Aside0.mk H
     clear H
     go_wp2
     go_meet
     case rel => exact ⟨_,H',⟨by have:=HJ2.out;first|omega|exact Nat.le_refl _⟩,⟨be0_ HB.out⟩⟩
   case rest =>
    clear HC5
    try clear c1
    try clear p2
    try clear c4
    try clear c4b0
    try clear c4b1
    try clear c6
    try clear p2
    obtain ⟨kq,HA,HJ4,HB⟩:=hcut
    cases kq with
    | zero => exact absurd HA.out (by simp [laws_FnExpand.j1])
    | succ kj4 =>
     have H:=HA.out
     clear HA
     simp only [laws_FnExpand.j1] at H
     have HC7:=Aside0.mk H
     clear H
     go_upto_region 3 with (fail)
     go_cut [5,6] (fun v5 v6 wc => ∃ (kq : Nat) (x5_6 : ByteArray) (x6_6 : Int),v5 = .string x5_6 ∧ v6 = .int .i64 x6_6 ∧ Aside0 (laws_FnExpand.j2 kq l1 x5_6 x6_6 = some r) ∧ Aside0 (kq ≤ kj4) ∧ Aside0 (Below w.heap.size w wc))
     case first =>
      have H:=HC7.out
      clear HC7
      replace H:=Option.bind_eq_some_iff.mp H
      obtain ⟨⟨t990,t991⟩,A80,H⟩:=H
      replace H : (laws_FnExpand.j2 kj4 l1 t990 t991) = some r:=H
      have A8:=Aside0.mk A80
      clear A80
      have H':=Aside0.mk H
      clear H
      go_wp2_with (first|((with_reducible refine gate_callee (f:=43) rfl ?_);refine goesL_ (some 30) rfl rfl Try.func43 (by kernel_rfl) rfl #[.slice A0 l0.length c0] rfl lp_ ?_;(with_reducible refine (spec_DrawExpandExpression.calls kj4 _ _ l0 t990 t991 _ ?side1 ?side2 A8.out).mono ?_);(case side1 => repeat (first|exact (Kd.C_below HR0.out HB.out)|(with_reducible refine Kd.C_alloc ?_ _)|(with_reducible refine Kd.C_drewN ?_ _)|(with_reducible refine Kd.C_drew ?_)));(case side2 => exact HC0.out);rintro e w9 ⟨rfl,hb⟩;refine ⟨_,rfl,?_⟩;have n0_:=Aside0.mk (below_step (be0_ HB.out) hb);clear HB;have HB:=n0_;clear n0_;(try clear hb);(try clear hb2);(try clear hk);(try clear hi)))
      go_meet
      case rel => exact ⟨_,(t990),(t991),(by first|rfl|(simp;done)|(simp [*];done)),(by first|rfl|(simp;done)|(simp [*];done)),H',⟨by have:=HJ2.out;have:=HJ4.out;first|omega|exact Nat.le_refl _⟩,⟨be0_ HB.out⟩⟩
     case rest =>
      clear HC7
      try clear c1
      try clear p2
      try clear c4
      try clear c4b0
      try clear c4b1
      try clear c6
      try clear p2
      obtain ⟨kq,x5_6,x6_6,rfl,rfl,HA,HJ6,HB⟩:=hcut
      cases kq with
      | zero => exact absurd HA.out (by simp [laws_FnExpand.j2])
      | succ kj6 =>
       have H:=HA.out
       clear HA
       simp only [laws_FnExpand.j2] at H
       have HC10:=Aside0.mk H
       clear H
       go_upto_region 4 with (fail)
       go_cut [7,8] (fun v7 v8 wc => ∃ (kq : Nat) (x7_9 : ByteArray) (x8_9 : Bool),v7 = .string x7_9 ∧ v8 = .bool x8_9 ∧ Aside0 (laws_FnExpand.j3 kq l1 x5_6 x6_6 x7_9 x8_9 = some r) ∧ Aside0 (kq ≤ kj6) ∧ Aside0 (Below w.heap.size w wc))
       case first =>
        have H:=HC10.out
        clear HC10
        replace H:=Option.bind_eq_some_iff.mp H
        obtain ⟨⟨t992,t993⟩,A110,H⟩:=H
        replace H : (laws_FnExpand.j3 kj6 l1 x5_6 x6_6 t992 t993) = some r:=H
        have A11:=Aside0.mk A110
        clear A110
        have H':=Aside0.mk H
        clear H
        go_wp2_with (first|((with_reducible refine gate_callee (f:=42) rfl ?_);refine goesL_ (some 36) rfl rfl Try.func42 (by kernel_rfl) rfl #[.string x5_6,.int .i64 x6_6] rfl lp_ ?_;(with_reducible refine (impl_ExpandExpression.calls kj6 x5_6 x6_6 t992 t993 _ A11.out).mono ?_);rintro e w12 ⟨rfl,hb⟩;refine ⟨_,rfl,?_⟩;have n0_:=Aside0.mk (below_step (be0_ HB.out) hb);clear HB;have HB:=n0_;clear n0_;(try clear hb);(try clear hb2);(try clear hk);(try clear hi)))
        go_meet
        case rel => exact ⟨_,(t992),(t993),(by first|rfl|(simp;done)|(simp [*];done)),(by first|rfl|(simp;done)|(simp [*];done)),H',⟨by have:=HJ2.out;have:=HJ4.out;have:=HJ6.out;first|omega|exact Nat.le_refl _⟩,⟨be0_ HB.out⟩⟩
       case rest =>
        rename_i zz0_0 zz0_1 zz0_2 zz0_3 zz0_4 zz0_5 zz0_6 zz0_7 zz0_8 zz0_9 zz0_10 zz0_11 zz0_12 zz0_13 zz0_14 zz0_15 zz0_16 zz0_17 zz0_18 zz0_19 zz0_20 zz0_21 zz0_22 zz0_23 zz0_24 zz0_25 zz0_26 zz0_27 zz0_28 zz0_29 zz0_30 zz0_31 zz0_32 zz0_33 zz0_34 zz0_35 zz0_36 zz0_37 zz0_38 zz0_39 zz0_40 zz0_41 zz0_42 zz0_43 zz0_44 zz0_45 zz0_46 zz0_47 zz0_48 zz0_49 zz0_50 zz0_51 zz0_52 zz0_53 zz0_54 zz0_55 zz0_56 zz0_57 zz0_58 zz0_59 zz0_60 zz0_61 zz0_62 zz0_63 zz0_64 zz0_65 zz0_66 zz0_67 zz0_68 zz0_69 zz0_70 zz0_71 zz0_72 zz0_73 zz0_74 zz0_75 zz0_76 zz0_77 zz0_78 zz0_79 zz0_80 zz0_81 zz0_82 zz0_83 zz0_84 zz0_85 zz0_86 zz0_87 zz0_88 zz0_89 zz0_90 zz0_91 zz0_92 zz0_93 zz0_94 zz0_95 zz0_96 zz0_97 zz0_98 zz0_99 zz0_100 zz0_101 zz0_102 zz0_103 zz0_104 zz0_105 zz0_106 zz0_107 zz0_108 zz0_109 zz0_110 zz0_111 zz0_112 zz0_113 zz0_114 zz0_115 zz0_116 zz0_117 zz0_118 zz0_119 zz0_120 zz0_121 zz0_122 zz0_123 zz0_124 zz0_125 zz0_126 zz0_127 zz0_128 zz0_129 zz0_130 zz0_131 zz0_132 zz0_133 zz0_134 zz0_135 zz0_136 zz0_137 zz0_138 zz0_139 zz0_140 zz0_141 zz0_142 zz0_143 zz0_144 zz0_145 zz0_146 zz0_147 zz0_148 zz0_149 zz0_150 zz0_151 zz0_152 zz0_153 zz0_154 zz0_155 zz0_156 zz0_157 zz0_158 zz0_159 zz0_160 zz0_161 zz0_162 zz0_163 zz0_164 zz0_165 zz0_166 zz0_167 zz0_168 zz0_169 zz0_170 zz0_171 zz0_172 zz0_173 zz0_174 zz0_175 zz0_176 zz0_177 zz0_178 zz0_179 zz0_180 zz0_181 zz0_182 zz0_183 zz0_184 zz0_185 zz0_186 zz0_187 zz0_188 zz0_189 zz0_190 zz0_191 zz0_192 zz0_193 zz0_194 zz0_195 zz0_196 zz0_197 zz0_198 zz0_199 zz0_200 zz0_201 zz0_202 zz0_203 zz0_204 zz0_205 zz0_206 zz0_207 zz0_208 zz0_209 zz0_210 zz0_211 zz0_212 zz0_213 zz0_214 zz0_215 zz0_216 zz0_217 zz0_218 zz0_219 zz0_220 zz0_221 zz0_222 zz0_223 zz0_224 zz0_225 zz0_226 zz0_227 zz0_228 zz0_229 zz0_230 zz0_231 zz0_232 zz0_233 zz0_234 zz0_235 zz0_236 zz0_237 zz0_238 zz0_239 zz0_240 zz0_241 zz0_242 zz0_243 zz0_244 zz0_245 zz0_246 zz0_247 zz0_248 zz0_249 zz0_250 zz0_251 zz0_252 zz0_253 zz0_254 zz0_255 zz0_256 zz0_257 zz0_258 zz0_259 zz0_260 zz0_261 zz0_262 zz0_263 zz0_264 zz0_265 zz0_266 zz0_267 zz0_268 zz0_269 zz0_270 zz0_271 zz0_272 zz0_273 zz0_274 zz0_275 zz0_276 zz0_277 zz0_278 zz0_279 zz0_280 zz0_281 zz0_282 zz0_283 zz0_284 zz0_285 zz0_286 zz0_287 zz0_288 zz0_289 zz0_290 zz0_291 zz0_292 zz0_293 zz0_294 zz0_295 zz0_296 zz0_297 zz0_298 zz0_299 zz0_300 zz0_301 zz0_302 zz0_303 zz0_304 zz0_305 zz0_306 zz0_307 zz0_308 zz0_309 zz0_310 zz0_311 zz0_312 zz0_313 zz0_314 zz0_315 zz0_316 zz0_317 zz0_318 zz0_319 zz0_320 zz0_321 zz0_322 zz0_323 zz0_324 zz0_325 zz0_326 zz0_327 zz0_328 zz0_329 zz0_330 zz0_331 zz0_332 zz0_333 zz0_334 zz0_335 zz0_336 zz0_337 zz0_338 zz0_339 zz0_340 zz0_341 zz0_342 zz0_343 zz0_344 zz0_345 zz0_346 zz0_347 zz0_348 zz0_349 zz0_350 zz0_351 zz0_352 zz0_353 zz0_354 zz0_355 zz0_356 zz0_357 zz0_358 zz0_359 zz0_360 zz0_361 zz0_362 zz0_363 zz0_364 zz0_365 zz0_366 zz0_367 zz0_368 zz0_369 zz0_370 zz0_371 zz0_372 zz0_373 zz0_374 zz0_375 zz0_376 zz0_377 zz0_378 zz0_379 zz0_380 zz0_381 zz0_382 zz0_383 zz0_384 zz0_385 zz0_386 zz0_387 zz0_388 zz0_389 zz0_390 zz0_391 zz0_392 zz0_393 zz0_394 zz0_395 zz0_396 zz0_397 zz0_398 zz0_399 zz0_400 zz0_401 zz0_402 zz0_403 zz0_404 zz0_405 zz0_406 zz0_407 zz0_408 zz0_409 zz0_410 zz0_411 zz0_412 zz0_413 zz0_414 zz0_415 zz0_416 zz0_417 zz0_418 zz0_419 zz0_420 zz0_421 zz0_422 zz0_423 zz0_424 zz0_425 zz0_426 zz0_427 zz0_428 zz0_429 zz0_430 zz0_431 zz0_432 zz0_433 zz0_434 zz0_435 zz0_436 zz0_437 zz0_438 zz0_439 zz0_440 zz0_441 zz0_442 zz0_443 zz0_444 zz0_445 zz0_446 zz0_447 zz0_448 zz0_449 zz0_450 zz0_451 zz0_452 zz0_453 zz0_454 zz0_455 zz0_456 zz0_457 zz0_458 zz0_459 zz0_460 zz0_461 zz0_462 zz0_463 zz0_464 zz0_465 zz0_466 zz0_467 zz0_468 zz0_469 zz0_470 zz0_471 zz0_472 zz0_473 zz0_474 zz0_475 zz0_476 zz0_477 zz0_478 zz0_479 zz0_480 zz0_481 zz0_482 zz0_483 zz0_484 zz0_485 zz0_486 zz0_487 zz0_488 zz0_489 zz0_490 zz0_491 zz0_492 zz0_493 zz0_494 zz0_495 zz0_496 zz0_497 zz0_498 zz0_499 zz0_500 zz0_501 zz0_502 zz0_503 zz0_504 zz0_505 zz0_506 zz0_507 zz0_508 zz0_509 zz0_510 zz0_511 zz0_512 zz0_513 zz0_514 zz0_515 zz0_516 zz0_517 zz0_518 zz0_519 zz0_520 zz0_521 zz0_522 zz0_523 zz0_524 zz0_525 zz0_526 zz0_527 zz0_528 zz0_529 zz0_530 zz0_531 zz0_532 zz0_533 zz0_534 zz0_535 zz0_536 zz0_537 zz0_538 zz0_539 zz0_540 zz0_541
        revert HR0 HC0 HR1 HC1 zz0_0 zz0_1 zz0_2 x27_2 zz0_180 kj2 HJ2 zz0_181 u4 zz0_360 kj4 HJ4 zz0_361 zz0_362 zz0_363 zz0_364 zz0_365 zz0_366 zz0_367 zz0_368 zz0_369 zz0_370 zz0_371 zz0_372 zz0_373 zz0_374 zz0_375 zz0_376 zz0_377 zz0_378 zz0_379 zz0_380 zz0_381 zz0_382 zz0_383 zz0_384 zz0_385 zz0_386 zz0_387 zz0_388 zz0_389 zz0_390 zz0_391 zz0_392 zz0_393 zz0_394 zz0_395 zz0_396 zz0_397 zz0_398 zz0_399 zz0_400 zz0_401 zz0_402 zz0_403 zz0_404 zz0_405 zz0_406 zz0_407 zz0_408 zz0_409 zz0_410 zz0_411 zz0_412 zz0_413 zz0_414 zz0_415 zz0_416 zz0_417 zz0_418 zz0_419 zz0_420 zz0_421 zz0_422 zz0_423 zz0_424 zz0_425 zz0_426 zz0_427 zz0_428 zz0_429 zz0_430 zz0_431 zz0_432 zz0_433 zz0_434 zz0_435 zz0_436 zz0_437 zz0_438 zz0_439 zz0_440 zz0_441 zz0_442 zz0_443 zz0_444 zz0_445 zz0_446 zz0_447 zz0_448 zz0_449 zz0_450 zz0_451 zz0_452 zz0_453 zz0_454 zz0_455 zz0_456 zz0_457 zz0_458 zz0_459 zz0_460 zz0_461 zz0_462 zz0_463 zz0_464 zz0_465 zz0_466 zz0_467 zz0_468 zz0_469 zz0_470 zz0_471 zz0_472 zz0_473 zz0_474 zz0_475 zz0_476 zz0_477 zz0_478 zz0_479 zz0_480 zz0_481 zz0_482 zz0_483 zz0_484 zz0_485 zz0_486 zz0_487 zz0_488 zz0_489 zz0_490 zz0_491 zz0_492 zz0_493 zz0_494 zz0_495 zz0_496 zz0_497 zz0_498 zz0_499 zz0_500 zz0_501 zz0_502 zz0_503 zz0_504 zz0_505 zz0_506 zz0_507 zz0_508 zz0_509 zz0_510 zz0_511 zz0_512 zz0_513 zz0_514 zz0_515 zz0_516 zz0_517 zz0_518 zz0_519 zz0_520 zz0_521 zz0_522 zz0_523 zz0_524 zz0_525 zz0_526 zz0_527 zz0_528 zz0_529 zz0_530 zz0_531 zz0_532 zz0_533 zz0_534 zz0_535 zz0_536 zz0_537 zz0_538 zz0_539 x5_6 x6_6 HB kj6 HJ6 HC10 zz0_540 zz0_541 wc u7 u8 u20 u21 u22 u23 u24 u25 u26 u27 u28 u29 u30 u31 u32 u33 u34 u35 u36 u37 u38 u39 u40 u41 u42 u43 u44 u45 u46 u47 u48 u49 u50 u51 u52 u53 u54 u55 u56 u57 u58 u59 u60 u61 u62 u63 u64 u65 u66 u67 u68 u69 u70 u71 u72 u73 u74 u75 u76 u77 u78 u79 u80 u81 u82 u83 u84 u85 u86 u87 u88 u89 u90 u91 u92 u93 u94 u95 u96 u97 u98 u99 u100 u101 u102 u103 u104 u105 u106 u107 u108 u109 u110 u111 u112 u113 u114 u115 u116 u117 u118 u119 u120 u121 u122 u123 u124 u125 u128 u129 u130 u131 u132 u133 u134 u135 u136 u137 u138 u139 u140 u141 u142 u143 u144 u145 u146 u147 u148 u149 u150 u151 u152 u153 u154 u155 u156 u157 u158 u159 u160 u161 u162 u163 u164 u165 u166 u167 u168 u169 u170 u171 u172 u173 u174 u175 u176 u177 u178 u179 u180 u181 u182 u183 u184 u185 u186 u187 u188 u189 u190 u191 u192 u193 u194 u195 u196 u197 u198 u199 hcut
        exact hG_0.out⟩
end Go.Proofs.Ytengegdaiphfeaa.X
end
section
namespace Go.Proofs.Ytengegdaiphfeaa.X
open Go.RowKit Go.Proofs.YtengegdaiphfeaaW.PrintWords Go.Proofs.YtengegdaiphfeaaW.PrintLast Go.Proofs.YtengegdaiphfeaaW.PrintMore
attribute [local go_sem] max2_int min2_int max_two min_two max_three min_three max_four min_four
set_option linter.unusedVariables false
set_option linter.unusedSimpArgs false
set_option maxHeartbeats 8000000 in
set_option maxRecDepth 100000 in
noncomputable def laws_FnExpand.p1 (k : Nat) (A0 : Option Addr) (c0 : Nat) (l0 : List Int) (A1 : Option Addr) (c1 : Nat) (l1 : List Int) (r : Bool) (w : World) : { G_ : Prop // Aside0 G_ → (laws_FnExpand.p0 k A0 c0 l0 A1 c1 l1 r w).1 }:=⟨_,fun hG_1 => by
 intros HR0 HC0 HR1 HC1 zz0_0 zz0_1 zz0_2 x27_2 zz0_180 kj2 HJ2 zz0_181 u4 zz0_360 kj4 HJ4 zz0_361 zz0_362 zz0_363 zz0_364 zz0_365 zz0_366 zz0_367 zz0_368 zz0_369 zz0_370 zz0_371 zz0_372 zz0_373 zz0_374 zz0_375 zz0_376 zz0_377 zz0_378 zz0_379 zz0_380 zz0_381 zz0_382 zz0_383 zz0_384 zz0_385 zz0_386 zz0_387 zz0_388 zz0_389 zz0_390 zz0_391 zz0_392 zz0_393 zz0_394 zz0_395 zz0_396 zz0_397 zz0_398 zz0_399 zz0_400 zz0_401 zz0_402 zz0_403 zz0_404 zz0_405 zz0_406 zz0_407 zz0_408 zz0_409 zz0_410 zz0_411 zz0_412 zz0_413 zz0_414 zz0_415 zz0_416 zz0_417 zz0_418 zz0_419 zz0_420 zz0_421 zz0_422 zz0_423 zz0_424 zz0_425 zz0_426 zz0_427 zz0_428 zz0_429 zz0_430 zz0_431 zz0_432 zz0_433 zz0_434 zz0_435 zz0_436 zz0_437 zz0_438 zz0_439 zz0_440 zz0_441 zz0_442 zz0_443 zz0_444 zz0_445 zz0_446 zz0_447 zz0_448 zz0_449 zz0_450 zz0_451 zz0_452 zz0_453 zz0_454 zz0_455 zz0_456 zz0_457 zz0_458 zz0_459 zz0_460 zz0_461 zz0_462 zz0_463 zz0_464 zz0_465 zz0_466 zz0_467 zz0_468 zz0_469 zz0_470 zz0_471 zz0_472 zz0_473 zz0_474 zz0_475 zz0_476 zz0_477 zz0_478 zz0_479 zz0_480 zz0_481 zz0_482 zz0_483 zz0_484 zz0_485 zz0_486 zz0_487 zz0_488 zz0_489 zz0_490 zz0_491 zz0_492 zz0_493 zz0_494 zz0_495 zz0_496 zz0_497 zz0_498 zz0_499 zz0_500 zz0_501 zz0_502 zz0_503 zz0_504 zz0_505 zz0_506 zz0_507 zz0_508 zz0_509 zz0_510 zz0_511 zz0_512 zz0_513 zz0_514 zz0_515 zz0_516 zz0_517 zz0_518 zz0_519 zz0_520 zz0_521 zz0_522 zz0_523 zz0_524 zz0_525 zz0_526 zz0_527 zz0_528 zz0_529 zz0_530 zz0_531 zz0_532 zz0_533 zz0_534 zz0_535 zz0_536 zz0_537 zz0_538 zz0_539 x5_6 x6_6 HB kj6 HJ6 HC10 zz0_540 zz0_541 wc u7 u8 u20 u21 u22 u23 u24 u25 u26 u27 u28 u29 u30 u31 u32 u33 u34 u35 u36 u37 u38 u39 u40 u41 u42 u43 u44 u45 u46 u47 u48 u49 u50 u51 u52 u53 u54 u55 u56 u57 u58 u59 u60 u61 u62 u63 u64 u65 u66 u67 u68 u69 u70 u71 u72 u73 u74 u75 u76 u77 u78 u79 u80 u81 u82 u83 u84 u85 u86 u87 u88 u89 u90 u91 u92 u93 u94 u95 u96 u97 u98 u99 u100 u101 u102 u103 u104 u105 u106 u107 u108 u109 u110 u111 u112 u113 u114 u115 u116 u117 u118 u119 u120 u121 u122 u123 u124 u125 u128 u129 u130 u131 u132 u133 u134 u135 u136 u137 u138 u139 u140 u141 u142 u143 u144 u145 u146 u147 u148 u149 u150 u151 u152 u153 u154 u155 u156 u157 u158 u159 u160 u161 u162 u163 u164 u165 u166 u167 u168 u169 u170 u171 u172 u173 u174 u175 u176 u177 u178 u179 u180 u181 u182 u183 u184 u185 u186 u187 u188 u189 u190 u191 u192 u193 u194 u195 u196 u197 u198 u199 hcut
 clear HC10
 try clear c1
 try clear p2
 try clear c4
 try clear c4b0
 try clear c4b1
 try clear c6
 try clear p2
 obtain ⟨kq,x7_9,x8_9,rfl,rfl,HA,HJ9,HB⟩:=hcut
 cases kq with
 | zero => exact absurd HA.out (by simp [laws_FnExpand.j3])
 | succ kj9 =>
  have H:=HA.out
  clear HA
  simp only [laws_FnExpand.j3] at H
  have HC13:=Aside0.mk H
  clear H
  go_upto_region 5 with (fail)
  go_cut [9,10] (fun v9 v10 wc => ∃ (kq : Nat) (x9_12 : ByteArray) (x10_12 : Bool),v9 = .string x9_12 ∧ v10 = .bool x10_12 ∧ Aside0 (laws_FnExpand.j4 kq l1 x5_6 x6_6 x7_9 x8_9 x9_12 x10_12 = some r) ∧ Aside0 (kq ≤ kj9) ∧ Aside0 (Below w.heap.size w wc))
  case first =>
   have H:=HC13.out
   clear HC13
   replace H:=Option.bind_eq_some_iff.mp H
   obtain ⟨⟨t994,t995⟩,A140,H⟩:=H
   replace H : (laws_FnExpand.j4 kj9 l1 x5_6 x6_6 x7_9 x8_9 t994 t995) = some r:=H
   have A14:=Aside0.mk A140
   clear A140
   have H':=Aside0.mk H
   clear H
   go_wp2_with (first|((with_reducible refine gate_callee (f:=41) rfl ?_);refine goesL_ (some 42) rfl rfl Try.func41 (by kernel_rfl) rfl #[.string x5_6,.int .i64 x6_6] rfl lp_ ?_;(with_reducible refine (spec_ExpandExpression.calls kj9 x5_6 x6_6 t994 t995 _ A14.out).mono ?_);rintro e w' ⟨rfl,⟨nd,rfl⟩⟩;refine ⟨_,rfl,?_⟩))
   go_meet
   case rel => exact ⟨_,(t994),(t995),(by first|rfl|(simp;done)|(simp [*];done)),(by first|rfl|(simp;done)|(simp [*];done)),H',⟨by have:=HJ2.out;have:=HJ4.out;have:=HJ6.out;have:=HJ9.out;first|omega|exact Nat.le_refl _⟩,⟨be0_ HB.out⟩⟩
  case rest =>
   rename_i zz1_0 zz1_1 zz1_2 zz1_3 zz1_4 zz1_5 zz1_6 zz1_7 zz1_8 zz1_9 zz1_10 zz1_11 zz1_12 zz1_13 zz1_14 zz1_15 zz1_16 zz1_17 zz1_18 zz1_19 zz1_20 zz1_21 zz1_22 zz1_23 zz1_24 zz1_25 zz1_26 zz1_27 zz1_28 zz1_29 zz1_30 zz1_31 zz1_32 zz1_33 zz1_34 zz1_35 zz1_36 zz1_37 zz1_38 zz1_39 zz1_40 zz1_41 zz1_42 zz1_43 zz1_44 zz1_45 zz1_46 zz1_47 zz1_48 zz1_49 zz1_50 zz1_51 zz1_52 zz1_53 zz1_54 zz1_55 zz1_56 zz1_57 zz1_58 zz1_59 zz1_60 zz1_61 zz1_62 zz1_63 zz1_64 zz1_65 zz1_66 zz1_67 zz1_68 zz1_69 zz1_70 zz1_71 zz1_72 zz1_73 zz1_74 zz1_75 zz1_76 zz1_77 zz1_78 zz1_79 zz1_80 zz1_81 zz1_82 zz1_83 zz1_84 zz1_85 zz1_86 zz1_87 zz1_88 zz1_89 zz1_90 zz1_91 zz1_92 zz1_93 zz1_94 zz1_95 zz1_96 zz1_97 zz1_98 zz1_99 zz1_100 zz1_101 zz1_102 zz1_103 zz1_104 zz1_105 zz1_106 zz1_107 zz1_108 zz1_109 zz1_110 zz1_111 zz1_112 zz1_113 zz1_114 zz1_115 zz1_116 zz1_117 zz1_118 zz1_119 zz1_120 zz1_121 zz1_122 zz1_123 zz1_124 zz1_125 zz1_126 zz1_127 zz1_128 zz1_129 zz1_130 zz1_131 zz1_132 zz1_133 zz1_134 zz1_135 zz1_136 zz1_137 zz1_138 zz1_139 zz1_140 zz1_141 zz1_142 zz1_143 zz1_144 zz1_145 zz1_146 zz1_147 zz1_148 zz1_149 zz1_150 zz1_151 zz1_152 zz1_153 zz1_154 zz1_155 zz1_156 zz1_157 zz1_158 zz1_159 zz1_160 zz1_161 zz1_162 zz1_163 zz1_164 zz1_165 zz1_166 zz1_167 zz1_168 zz1_169 zz1_170 zz1_171 zz1_172 zz1_173 zz1_174 zz1_175 zz1_176 zz1_177 zz1_178 zz1_179 zz1_180 zz1_181
   revert HR0 HC0 HR1 HC1 zz0_0 zz0_1 zz0_2 x27_2 zz0_180 kj2 HJ2 zz0_181 u4 zz0_360 kj4 HJ4 zz0_361 zz0_362 zz0_363 zz0_364 zz0_365 zz0_366 zz0_367 zz0_368 zz0_369 zz0_370 zz0_371 zz0_372 zz0_373 zz0_374 zz0_375 zz0_376 zz0_377 zz0_378 zz0_379 zz0_380 zz0_381 zz0_382 zz0_383 zz0_384 zz0_385 zz0_386 zz0_387 zz0_388 zz0_389 zz0_390 zz0_391 zz0_392 zz0_393 zz0_394 zz0_395 zz0_396 zz0_397 zz0_398 zz0_399 zz0_400 zz0_401 zz0_402 zz0_403 zz0_404 zz0_405 zz0_406 zz0_407 zz0_408 zz0_409 zz0_410 zz0_411 zz0_412 zz0_413 zz0_414 zz0_415 zz0_416 zz0_417 zz0_418 zz0_419 zz0_420 zz0_421 zz0_422 zz0_423 zz0_424 zz0_425 zz0_426 zz0_427 zz0_428 zz0_429 zz0_430 zz0_431 zz0_432 zz0_433 zz0_434 zz0_435 zz0_436 zz0_437 zz0_438 zz0_439 zz0_440 zz0_441 zz0_442 zz0_443 zz0_444 zz0_445 zz0_446 zz0_447 zz0_448 zz0_449 zz0_450 zz0_451 zz0_452 zz0_453 zz0_454 zz0_455 zz0_456 zz0_457 zz0_458 zz0_459 zz0_460 zz0_461 zz0_462 zz0_463 zz0_464 zz0_465 zz0_466 zz0_467 zz0_468 zz0_469 zz0_470 zz0_471 zz0_472 zz0_473 zz0_474 zz0_475 zz0_476 zz0_477 zz0_478 zz0_479 zz0_480 zz0_481 zz0_482 zz0_483 zz0_484 zz0_485 zz0_486 zz0_487 zz0_488 zz0_489 zz0_490 zz0_491 zz0_492 zz0_493 zz0_494 zz0_495 zz0_496 zz0_497 zz0_498 zz0_499 zz0_500 zz0_501 zz0_502 zz0_503 zz0_504 zz0_505 zz0_506 zz0_507 zz0_508 zz0_509 zz0_510 zz0_511 zz0_512 zz0_513 zz0_514 zz0_515 zz0_516 zz0_517 zz0_518 zz0_519 zz0_520 zz0_521 zz0_522 zz0_523 zz0_524 zz0_525 zz0_526 zz0_527 zz0_528 zz0_529 zz0_530 zz0_531 zz0_532 zz0_533 zz0_534 zz0_535 zz0_536 zz0_537 zz0_538 zz0_539 x5_6 x6_6 zz1_0 kj6 HJ6 zz1_1 zz1_2 zz1_3 zz1_4 zz1_5 zz1_6 zz1_7 zz1_8 zz1_9 zz1_10 zz1_11 zz1_12 zz1_13 zz1_14 zz1_15 zz1_16 zz1_17 zz1_18 zz1_19 zz1_20 zz1_21 zz1_22 zz1_23 zz1_24 zz1_25 zz1_26 zz1_27 zz1_28 zz1_29 zz1_30 zz1_31 zz1_32 zz1_33 zz1_34 zz1_35 zz1_36 zz1_37 zz1_38 zz1_39 zz1_40 zz1_41 zz1_42 zz1_43 zz1_44 zz1_45 zz1_46 zz1_47 zz1_48 zz1_49 zz1_50 zz1_51 zz1_52 zz1_53 zz1_54 zz1_55 zz1_56 zz1_57 zz1_58 zz1_59 zz1_60 zz1_61 zz1_62 zz1_63 zz1_64 zz1_65 zz1_66 zz1_67 zz1_68 zz1_69 zz1_70 zz1_71 zz1_72 zz1_73 zz1_74 zz1_75 zz1_76 zz1_77 zz1_78 zz1_79 zz1_80 zz1_81 zz1_82 zz1_83 zz1_84 zz1_85 zz1_86 zz1_87 zz1_88 zz1_89 zz1_90 zz1_91 zz1_92 zz1_93 zz1_94 zz1_95 zz1_96 zz1_97 zz1_98 zz1_99 zz1_100 zz1_101 zz1_102 zz1_103 zz1_104 zz1_105 zz1_106 zz1_107 zz1_108 zz1_109 zz1_110 zz1_111 zz1_112 zz1_113 zz1_114 zz1_115 zz1_116 zz1_117 zz1_118 zz1_119 zz1_120 zz1_121 zz1_122 zz1_123 zz1_124 zz1_125 zz1_126 zz1_127 zz1_128 zz1_129 zz1_130 zz1_131 zz1_132 zz1_133 zz1_134 zz1_135 zz1_136 zz1_137 zz1_138 zz1_139 zz1_140 zz1_141 zz1_142 zz1_143 zz1_144 zz1_145 zz1_146 zz1_147 zz1_148 zz1_149 zz1_150 zz1_151 zz1_152 zz1_153 zz1_154 zz1_155 zz1_156 zz1_157 zz1_158 zz1_159 zz1_160 zz1_161 zz1_162 zz1_163 zz1_164 zz1_165 zz1_166 zz1_167 zz1_168 zz1_169 zz1_170 zz1_171 zz1_172 zz1_173 zz1_174 zz1_175 zz1_176 zz1_177 zz1_178 zz1_179 x7_9 x8_9 HB kj9 HJ9 HC13 zz1_180 zz1_181 wc u9 u10 u20 u21 u22 u23 u24 u25 u26 u27 u28 u29 u30 u31 u32 u33 u34 u35 u36 u37 u38 u39 u40 u41 u42 u43 u44 u45 u46 u47 u48 u49 u50 u51 u52 u53 u54 u55 u56 u57 u58 u59 u60 u61 u62 u63 u64 u65 u66 u67 u68 u69 u70 u71 u72 u73 u74 u75 u76 u77 u78 u79 u80 u81 u82 u83 u84 u85 u86 u87 u88 u89 u90 u91 u92 u93 u94 u95 u96 u97 u98 u99 u100 u101 u102 u103 u104 u105 u106 u107 u108 u109 u110 u111 u112 u113 u114 u115 u116 u117 u118 u119 u120 u121 u122 u123 u124 u125 u128 u129 u130 u131 u132 u133 u134 u135 u136 u137 u138 u139 u140 u141 u142 u143 u144 u145 u146 u147 u148 u149 u150 u151 u152 u153 u154 u155 u156 u157 u158 u159 u160 u161 u162 u163 u164 u165 u166 u167 u168 u169 u170 u171 u172 u173 u174 u175 u176 u177 u178 u179 u180 u181 u182 u183 u184 u185 u186 u187 u188 u189 u190 u191 u192 u193 u194 u195 u196 u197 u198 u199 hcut
   exact hG_1.out⟩
end Go.Proofs.Ytengegdaiphfeaa.X
end
section
namespace Go.Proofs.Ytengegdaiphfeaa.X
open Go.RowKit Go.Proofs.YtengegdaiphfeaaW.PrintWords Go.Proofs.YtengegdaiphfeaaW.PrintLast Go.Proofs.YtengegdaiphfeaaW.PrintMore
attribute [local go_sem] max2_int min2_int max_two min_two max_three min_three max_four min_four
set_option linter.unusedVariables false
set_option linter.unusedSimpArgs false
set_option maxHeartbeats 8000000 in
set_option maxRecDepth 100000 in
noncomputable def laws_FnExpand.p2 (k : Nat) (A0 : Option Addr) (c0 : Nat) (l0 : List Int) (A1 : Option Addr) (c1 : Nat) (l1 : List Int) (r : Bool) (w : World) : { G_ : Prop // Aside0 G_ → (laws_FnExpand.p1 k A0 c0 l0 A1 c1 l1 r w).1 }:=⟨_,fun hG_2 => by
 intros HR0 HC0 HR1 HC1 zz0_0 zz0_1 zz0_2 x27_2 zz0_180 kj2 HJ2 zz0_181 u4 zz0_360 kj4 HJ4 zz0_361 zz0_362 zz0_363 zz0_364 zz0_365 zz0_366 zz0_367 zz0_368 zz0_369 zz0_370 zz0_371 zz0_372 zz0_373 zz0_374 zz0_375 zz0_376 zz0_377 zz0_378 zz0_379 zz0_380 zz0_381 zz0_382 zz0_383 zz0_384 zz0_385 zz0_386 zz0_387 zz0_388 zz0_389 zz0_390 zz0_391 zz0_392 zz0_393 zz0_394 zz0_395 zz0_396 zz0_397 zz0_398 zz0_399 zz0_400 zz0_401 zz0_402 zz0_403 zz0_404 zz0_405 zz0_406 zz0_407 zz0_408 zz0_409 zz0_410 zz0_411 zz0_412 zz0_413 zz0_414 zz0_415 zz0_416 zz0_417 zz0_418 zz0_419 zz0_420 zz0_421 zz0_422 zz0_423 zz0_424 zz0_425 zz0_426 zz0_427 zz0_428 zz0_429 zz0_430 zz0_431 zz0_432 zz0_433 zz0_434 zz0_435 zz0_436 zz0_437 zz0_438 zz0_439 zz0_440 zz0_441 zz0_442 zz0_443 zz0_444 zz0_445 zz0_446 zz0_447 zz0_448 zz0_449 zz0_450 zz0_451 zz0_452 zz0_453 zz0_454 zz0_455 zz0_456 zz0_457 zz0_458 zz0_459 zz0_460 zz0_461 zz0_462 zz0_463 zz0_464 zz0_465 zz0_466 zz0_467 zz0_468 zz0_469 zz0_470 zz0_471 zz0_472 zz0_473 zz0_474 zz0_475 zz0_476 zz0_477 zz0_478 zz0_479 zz0_480 zz0_481 zz0_482 zz0_483 zz0_484 zz0_485 zz0_486 zz0_487 zz0_488 zz0_489 zz0_490 zz0_491 zz0_492 zz0_493 zz0_494 zz0_495 zz0_496 zz0_497 zz0_498 zz0_499 zz0_500 zz0_501 zz0_502 zz0_503 zz0_504 zz0_505 zz0_506 zz0_507 zz0_508 zz0_509 zz0_510 zz0_511 zz0_512 zz0_513 zz0_514 zz0_515 zz0_516 zz0_517 zz0_518 zz0_519 zz0_520 zz0_521 zz0_522 zz0_523 zz0_524 zz0_525 zz0_526 zz0_527 zz0_528 zz0_529 zz0_530 zz0_531 zz0_532 zz0_533 zz0_534 zz0_535 zz0_536 zz0_537 zz0_538 zz0_539 x5_6 x6_6 zz1_0 kj6 HJ6 zz1_1 zz1_2 zz1_3 zz1_4 zz1_5 zz1_6 zz1_7 zz1_8 zz1_9 zz1_10 zz1_11 zz1_12 zz1_13 zz1_14 zz1_15 zz1_16 zz1_17 zz1_18 zz1_19 zz1_20 zz1_21 zz1_22 zz1_23 zz1_24 zz1_25 zz1_26 zz1_27 zz1_28 zz1_29 zz1_30 zz1_31 zz1_32 zz1_33 zz1_34 zz1_35 zz1_36 zz1_37 zz1_38 zz1_39 zz1_40 zz1_41 zz1_42 zz1_43 zz1_44 zz1_45 zz1_46 zz1_47 zz1_48 zz1_49 zz1_50 zz1_51 zz1_52 zz1_53 zz1_54 zz1_55 zz1_56 zz1_57 zz1_58 zz1_59 zz1_60 zz1_61 zz1_62 zz1_63 zz1_64 zz1_65 zz1_66 zz1_67 zz1_68 zz1_69 zz1_70 zz1_71 zz1_72 zz1_73 zz1_74 zz1_75 zz1_76 zz1_77 zz1_78 zz1_79 zz1_80 zz1_81 zz1_82 zz1_83 zz1_84 zz1_85 zz1_86 zz1_87 zz1_88 zz1_89 zz1_90 zz1_91 zz1_92 zz1_93 zz1_94 zz1_95 zz1_96 zz1_97 zz1_98 zz1_99 zz1_100 zz1_101 zz1_102 zz1_103 zz1_104 zz1_105 zz1_106 zz1_107 zz1_108 zz1_109 zz1_110 zz1_111 zz1_112 zz1_113 zz1_114 zz1_115 zz1_116 zz1_117 zz1_118 zz1_119 zz1_120 zz1_121 zz1_122 zz1_123 zz1_124 zz1_125 zz1_126 zz1_127 zz1_128 zz1_129 zz1_130 zz1_131 zz1_132 zz1_133 zz1_134 zz1_135 zz1_136 zz1_137 zz1_138 zz1_139 zz1_140 zz1_141 zz1_142 zz1_143 zz1_144 zz1_145 zz1_146 zz1_147 zz1_148 zz1_149 zz1_150 zz1_151 zz1_152 zz1_153 zz1_154 zz1_155 zz1_156 zz1_157 zz1_158 zz1_159 zz1_160 zz1_161 zz1_162 zz1_163 zz1_164 zz1_165 zz1_166 zz1_167 zz1_168 zz1_169 zz1_170 zz1_171 zz1_172 zz1_173 zz1_174 zz1_175 zz1_176 zz1_177 zz1_178 zz1_179 x7_9 x8_9 HB kj9 HJ9 HC13 zz1_180 zz1_181 wc u9 u10 u20 u21 u22 u23 u24 u25 u26 u27 u28 u29 u30 u31 u32 u33 u34 u35 u36 u37 u38 u39 u40 u41 u42 u43 u44 u45 u46 u47 u48 u49 u50 u51 u52 u53 u54 u55 u56 u57 u58 u59 u60 u61 u62 u63 u64 u65 u66 u67 u68 u69 u70 u71 u72 u73 u74 u75 u76 u77 u78 u79 u80 u81 u82 u83 u84 u85 u86 u87 u88 u89 u90 u91 u92 u93 u94 u95 u96 u97 u98 u99 u100 u101 u102 u103 u104 u105 u106 u107 u108 u109 u110 u111 u112 u113 u114 u115 u116 u117 u118 u119 u120 u121 u122 u123 u124 u125 u128 u129 u130 u131 u132 u133 u134 u135 u136 u137 u138 u139 u140 u141 u142 u143 u144 u145 u146 u147 u148 u149 u150 u151 u152 u153 u154 u155 u156 u157 u158 u159 u160 u161 u162 u163 u164 u165 u166 u167 u168 u169 u170 u171 u172 u173 u174 u175 u176 u177 u178 u179 u180 u181 u182 u183 u184 u185 u186 u187 u188 u189 u190 u191 u192 u193 u194 u195 u196 u197 u198 u199 hcut
 clear HC13
 try clear c1
 try clear p2
 try clear c4
 try clear c4b0
 try clear c4b1
 try clear c6
 try clear c14
 try clear p2
 obtain ⟨kq,x9_12,x10_12,rfl,rfl,HA,HJ12,HB⟩:=hcut
 cases kq with
 | zero => exact absurd HA.out (by simp [laws_FnExpand.j4])
 | succ kj12 =>
  have H:=HA.out
  clear HA
  simp only [laws_FnExpand.j4] at H
  have HC15:=Aside0.mk H
  clear H
  go_upto_region 6 with (fail)
  go_cut [70] (fun v70 wc => ∃ (kq : Nat) (x70_14 : Bool),v70 = .bool x70_14 ∧ Aside0 (laws_FnExpand.j5 kq l1 x5_6 x6_6 x7_9 x8_9 x9_12 x10_12 x70_14 = some r) ∧ Aside0 (kq ≤ kj12) ∧ Aside0 (Below w.heap.size w wc))
  case first =>
   have H:=HC15.out
   clear HC15
   by_cases c16 : x7_9.toList = x9_12.toList
   ·rw [if_pos c16] at H
    have c16b0 : (x7_9.toList == x9_12.toList) = true:=beq_iff_eq.mpr c16
    have c16b1 : (x7_9.toList != x9_12.toList) = false:=bne_eq_false_iff_eq.mpr c16
    clear c16
    (first|rw [c16b0]|(simp only [i64_w,i32_w];rw [c16b0])|skip)
    by_cases c17 : (x8_9 != x10_12) = true
    ·rw [if_pos c17] at H
     have c17b0 : (x8_9 != x10_12) = true:=c17
     (try (have c17b1 : decide (x8_9 = x10_12) = false:=by simpa using c17))
     (try (have c17b2 : (x8_9 == x10_12) = false:=by simpa using c17))
     (try (have c17b3 : ¬ (x8_9 = x10_12):=by simpa using c17))
     clear c17
     have H':=Aside0.mk H
     clear H
     go_wp2
     go_meet
     case rel => exact ⟨_,(true),(by first|rfl|(simp;done)|(simp [*];done)),H',⟨by have:=HJ2.out;have:=HJ4.out;have:=HJ6.out;have:=HJ9.out;have:=HJ12.out;first|omega|exact Nat.le_refl _⟩,⟨be0_ HB.out⟩⟩
    ·rw [if_neg c17] at H
     have c17b0 : (x8_9 != x10_12) = false:=by simpa using c17
     (try (have c17b1 : decide (x8_9 = x10_12) = true:=by simpa using c17))
     (try (have c17b2 : (x8_9 == x10_12) = true:=by simpa using c17))
     clear c17
     replace H:=Option.bind_eq_some_iff.mp H
     obtain ⟨t996,A180,H⟩:=H
     replace H : ((spec_ExpressionValid.f kj12 x5_6).bind fun t997 => (if (t996 != t997) = true then (laws_FnExpand.j5 kj12 l1 x5_6 x6_6 x7_9 x8_9 x9_12 x10_12 true) else ((impl_DepthOf.f kj12 x5_6).bind fun t998 => ((spec_DepthOf.f kj12 x5_6).bind fun t999 => (if t998 = t999 then (laws_FnExpand.j5 kj12 l1 x5_6 x6_6 x7_9 x8_9 x9_12 x10_12 (!x8_9)) else (laws_FnExpand.j5 kj12 l1 x5_6 x6_6 x7_9 x8_9 x9_12 x10_12 true)))))) = some r:=H
     have A18:=Aside0.mk A180
     clear A180
     replace H:=Option.bind_eq_some_iff.mp H
     obtain ⟨t997,A190,H⟩:=H
     replace H : (if (t996 != t997) = true then (laws_FnExpand.j5 kj12 l1 x5_6 x6_6 x7_9 x8_9 x9_12 x10_12 true) else ((impl_DepthOf.f kj12 x5_6).bind fun t998 => ((spec_DepthOf.f kj12 x5_6).bind fun t999 => (if t998 = t999 then (laws_FnExpand.j5 kj12 l1 x5_6 x6_6 x7_9 x8_9 x9_12 x10_12 (!x8_9)) else (laws_FnExpand.j5 kj12 l1 x5_6 x6_6 x7_9 x8_9 x9_12 x10_12 true))))) = some r:=H
     have A19:=Aside0.mk A190
     clear A190
     by_cases c20 : (t996 != t997) = true
     ·rw [if_pos c20] at H
      have c20b0 : (t996 != t997) = true:=c20
      (try (have c20b1 : decide (t996 = t997) = false:=by simpa using c20))
      (try (have c20b2 : (t996 == t997) = false:=by simpa using c20))
      (try (have c20b3 : ¬ (t996 = t997):=by simpa using c20))
      clear c20
      have H':=Aside0.mk H
      clear H
      go_wp2_with (first|(go_at_call 44;(with_reducible refine (impl_ExpressionValid.calls kj12 x5_6 t996 _ A18.out).mono ?_);rintro e w21 ⟨rfl,hb⟩;have n0_:=Aside0.mk (below_step (be0_ HB.out) hb);clear HB;have HB:=n0_;clear n0_;(try clear hb);(try clear hb2);(try clear hk);(try clear hi))|(go_at_call 45;(with_reducible refine (spec_ExpressionValid.calls kj12 x5_6 t997 _ A19.out).mono ?_);rintro e w' ⟨rfl,⟨nd,rfl⟩⟩))
      go_meet
      case rel => exact ⟨_,(true),(by first|rfl|(simp;done)|(simp [*];done)),H',⟨by have:=HJ2.out;have:=HJ4.out;have:=HJ6.out;have:=HJ9.out;have:=HJ12.out;first|omega|exact Nat.le_refl _⟩,⟨be0_ HB.out⟩⟩
     ·rw [if_neg c20] at H
      have c20b0 : (t996 != t997) = false:=by simpa using c20
      (try (have c20b1 : decide (t996 = t997) = true:=by simpa using c20))
      (try (have c20b2 : (t996 == t997) = true:=by simpa using c20))
      clear c20
      replace H:=Option.bind_eq_some_iff.mp H
      obtain ⟨t998,A220,H⟩:=H
      replace H : ((spec_DepthOf.f kj12 x5_6).bind fun t999 => (if t998 = t999 then (laws_FnExpand.j5 kj12 l1 x5_6 x6_6 x7_9 x8_9 x9_12 x10_12 (!x8_9)) else (laws_FnExpand.j5 kj12 l1 x5_6 x6_6 x7_9 x8_9 x9_12 x10_12 true))) = some r:=H
      have A22:=Aside0.mk A220
      clear A220
      replace H:=Option.bind_eq_some_iff.mp H
      obtain ⟨t999,A230,H⟩:=H
      replace H : (if t998 = t999 then (laws_FnExpand.j5 kj12 l1 x5_6 x6_6 x7_9 x8_9 x9_12 x10_12 (!x8_9)) else (laws_FnExpand.j5 kj12 l1 x5_6 x6_6 x7_9 x8_9 x9_12 x10_12 true)) = some r:=H
      have A23:=Aside0.mk A230
      clear A230
      by_cases c24 : t998 = t999
      ·rw [if_pos c24] at H
       have c24b0 : (t998 == t999) = true:=beq_iff_eq.mpr c24
       have c24b1 : (t998 != t999) = false:=bne_eq_false_iff_eq.mpr c24
       clear c24
       have H':=Aside0.mk H
       clear H
       go_wp2_with (first|(go_at_call 44;(with_reducible refine (impl_ExpressionValid.calls kj12 x5_6 t996 _ A18.out).mono ?_);rintro e w25 ⟨rfl,hb⟩;have n0_:=Aside0.mk (below_step (be0_ HB.out) hb);clear HB;have HB:=n0_;clear n0_;(try clear hb);(try clear hb2);(try clear hk);(try clear hi))|(go_at_call 45;(with_reducible refine (spec_ExpressionValid.calls kj12 x5_6 t997 _ A19.out).mono ?_);rintro e w' ⟨rfl,⟨nd,rfl⟩⟩)|(go_at_call 46;(with_reducible refine (impl_DepthOf.calls kj12 x5_6 t998 _ A22.out).mono ?_);rintro e w26 ⟨rfl,hb⟩;have n0_:=Aside0.mk (below_step (be0_ HB.out) hb);clear HB;have HB:=n0_;clear n0_;(try clear hb);(try clear hb2);(try clear hk);(try clear hi))|(go_at_call 47;(with_reducible refine (spec_DepthOf.calls kj12 x5_6 t999 _ A23.out).mono ?_);rintro e w27 ⟨rfl,hb⟩;have n0_:=Aside0.mk (below_step (be0_ HB.out) hb);clear HB;have HB:=n0_;clear n0_;(try clear hb);(try clear hb2);(try clear hk);(try clear hi)))
       go_meet
       case rel => exact ⟨_,(!x8_9),(by first|rfl|(simp;done)|(simp [*];done)),H',⟨by have:=HJ2.out;have:=HJ4.out;have:=HJ6.out;have:=HJ9.out;have:=HJ12.out;first|omega|exact Nat.le_refl _⟩,⟨be0_ HB.out⟩⟩
      ·rw [if_neg c24] at H
       have c24b0 : (t998 == t999) = false:=beq_eq_false_iff_ne.mpr c24
       have c24b1 : (t998 != t999) = true:=bne_iff_ne.mpr c24
       have H':=Aside0.mk H
       clear H
       go_wp2_with (first|(go_at_call 44;(with_reducible refine (impl_ExpressionValid.calls kj12 x5_6 t996 _ A18.out).mono ?_);rintro e w28 ⟨rfl,hb⟩;have n0_:=Aside0.mk (below_step (be0_ HB.out) hb);clear HB;have HB:=n0_;clear n0_;(try clear hb);(try clear hb2);(try clear hk);(try clear hi))|(go_at_call 45;(with_reducible refine (spec_ExpressionValid.calls kj12 x5_6 t997 _ A19.out).mono ?_);rintro e w' ⟨rfl,⟨nd,rfl⟩⟩)|(go_at_call 46;(with_reducible refine (impl_DepthOf.calls kj12 x5_6 t998 _ A22.out).mono ?_);rintro e w29 ⟨rfl,hb⟩;have n0_:=Aside0.mk (below_step (be0_ HB.out) hb);clear HB;have HB:=n0_;clear n0_;(try clear hb);(try clear hb2);(try clear hk);(try clear hi))|(go_at_call 47;(with_reducible refine (spec_DepthOf.calls kj12 x5_6 t999 _ A23.out).mono ?_);rintro e w30 ⟨rfl,hb⟩;have n0_:=Aside0.mk (below_step (be0_ HB.out) hb);clear HB;have HB:=n0_;clear n0_;(try clear hb);(try clear hb2);(try clear hk);(try clear hi)))
       go_meet
       case rel => exact ⟨_,(true),(by first|rfl|(simp;done)|(simp [*];done)),H',⟨by have:=HJ2.out;have:=HJ4.out;have:=HJ6.out;have:=HJ9.out;have:=HJ12.out;first|omega|exact Nat.le_refl _⟩,⟨be0_ HB.out⟩⟩
   ·rw [if_neg c16] at H
    have c16b0 : (x7_9.toList == x9_12.toList) = false:=beq_eq_false_iff_ne.mpr c16
    have c16b1 : (x7_9.toList != x9_12.toList) = true:=bne_iff_ne.mpr c16
    (first|rw [c16b0]|(simp only [i64_w,i32_w];rw [c16b0])|skip)
    have H':=Aside0.mk H
    clear H
    go_wp2
    go_meet
    case rel => exact ⟨_,(true),(by first|rfl|(simp;done)|(simp [*];done)),H',⟨by have:=HJ2.out;have:=HJ4.out;have:=HJ6.out;have:=HJ9.out;have:=HJ12.out;first|omega|exact Nat.le_refl _⟩,⟨be0_ HB.out⟩⟩
  case rest =>
   rename_i zz2_0 zz2_1 zz2_2 zz2_3 zz2_4 zz2_5 zz2_6 zz2_7 zz2_8 zz2_9 zz2_10 zz2_11 zz2_12 zz2_13 zz2_14 zz2_15 zz2_16 zz2_17 zz2_18 zz2_19 zz2_20 zz2_21 zz2_22 zz2_23 zz2_24 zz2_25 zz2_26 zz2_27 zz2_28 zz2_29 zz2_30 zz2_31 zz2_32 zz2_33 zz2_34 zz2_35 zz2_36 zz2_37 zz2_38 zz2_39 zz2_40 zz2_41 zz2_42 zz2_43 zz2_44 zz2_45 zz2_46 zz2_47 zz2_48 zz2_49 zz2_50 zz2_51 zz2_52 zz2_53 zz2_54 zz2_55 zz2_56 zz2_57 zz2_58 zz2_59 zz2_60 zz2_61 zz2_62 zz2_63 zz2_64 zz2_65 zz2_66 zz2_67 zz2_68 zz2_69 zz2_70 zz2_71 zz2_72 zz2_73 zz2_74 zz2_75 zz2_76 zz2_77 zz2_78 zz2_79 zz2_80 zz2_81 zz2_82 zz2_83 zz2_84 zz2_85 zz2_86 zz2_87 zz2_88 zz2_89 zz2_90 zz2_91 zz2_92 zz2_93 zz2_94 zz2_95 zz2_96 zz2_97 zz2_98 zz2_99 zz2_100 zz2_101 zz2_102 zz2_103 zz2_104 zz2_105 zz2_106 zz2_107 zz2_108 zz2_109 zz2_110 zz2_111 zz2_112 zz2_113 zz2_114 zz2_115 zz2_116 zz2_117 zz2_118 zz2_119 zz2_120 zz2_121 zz2_122 zz2_123 zz2_124 zz2_125 zz2_126 zz2_127 zz2_128 zz2_129 zz2_130 zz2_131 zz2_132 zz2_133 zz2_134 zz2_135 zz2_136 zz2_137 zz2_138 zz2_139 zz2_140 zz2_141 zz2_142 zz2_143 zz2_144 zz2_145 zz2_146 zz2_147 zz2_148 zz2_149 zz2_150 zz2_151 zz2_152 zz2_153 zz2_154 zz2_155 zz2_156 zz2_157 zz2_158 zz2_159 zz2_160 zz2_161 zz2_162 zz2_163 zz2_164 zz2_165 zz2_166 zz2_167 zz2_168 zz2_169 zz2_170 zz2_171 zz2_172 zz2_173 zz2_174 zz2_175 zz2_176 zz2_177 zz2_178 zz2_179 zz2_180 zz2_181 zz2_182 zz2_183
   revert HR0 HC0 HR1 HC1 zz0_0 zz0_1 zz0_2 x27_2 zz0_180 kj2 HJ2 zz0_181 u4 zz0_360 kj4 HJ4 zz0_361 zz0_362 zz0_363 zz0_364 zz0_365 zz0_366 zz0_367 zz0_368 zz0_369 zz0_370 zz0_371 zz0_372 zz0_373 zz0_374 zz0_375 zz0_376 zz0_377 zz0_378 zz0_379 zz0_380 zz0_381 zz0_382 zz0_383 zz0_384 zz0_385 zz0_386 zz0_387 zz0_388 zz0_389 zz0_390 zz0_391 zz0_392 zz0_393 zz0_394 zz0_395 zz0_396 zz0_397 zz0_398 zz0_399 zz0_400 zz0_401 zz0_402 zz0_403 zz0_404 zz0_405 zz0_406 zz0_407 zz0_408 zz0_409 zz0_410 zz0_411 zz0_412 zz0_413 zz0_414 zz0_415 zz0_416 zz0_417 zz0_418 zz0_419 zz0_420 zz0_421 zz0_422 zz0_423 zz0_424 zz0_425 zz0_426 zz0_427 zz0_428 zz0_429 zz0_430 zz0_431 zz0_432 zz0_433 zz0_434 zz0_435 zz0_436 zz0_437 zz0_438 zz0_439 zz0_440 zz0_441 zz0_442 zz0_443 zz0_444 zz0_445 zz0_446 zz0_447 zz0_448 zz0_449 zz0_450 zz0_451 zz0_452 zz0_453 zz0_454 zz0_455 zz0_456 zz0_457 zz0_458 zz0_459 zz0_460 zz0_461 zz0_462 zz0_463 zz0_464 zz0_465 zz0_466 zz0_467 zz0_468 zz0_469 zz0_470 zz0_471 zz0_472 zz0_473 zz0_474 zz0_475 zz0_476 zz0_477 zz0_478 zz0_479 zz0_480 zz0_481 zz0_482 zz0_483 zz0_484 zz0_485 zz0_486 zz0_487 zz0_488 zz0_489 zz0_490 zz0_491 zz0_492 zz0_493 zz0_494 zz0_495 zz0_496 zz0_497 zz0_498 zz0_499 zz0_500 zz0_501 zz0_502 zz0_503 zz0_504 zz0_505 zz0_506 zz0_507 zz0_508 zz0_509 zz0_510 zz0_511 zz0_512 zz0_513 zz0_514 zz0_515 zz0_516 zz0_517 zz0_518 zz0_519 zz0_520 zz0_521 zz0_522 zz0_523 zz0_524 zz0_525 zz0_526 zz0_527 zz0_528 zz0_529 zz0_530 zz0_531 zz0_532 zz0_533 zz0_534 zz0_535 zz0_536 zz0_537 zz0_538 zz0_539 x5_6 x6_6 zz1_0 kj6 HJ6 zz1_1 zz1_2 zz1_3 zz1_4 zz1_5 zz1_6 zz1_7 zz1_8 zz1_9 zz1_10 zz1_11 zz1_12 zz1_13 zz1_14 zz1_15 zz1_16 zz1_17 zz1_18 zz1_19 zz1_20 zz1_21 zz1_22 zz1_23 zz1_24 zz1_25 zz1_26 zz1_27 zz1_28 zz1_29 zz1_30 zz1_31 zz1_32 zz1_33 zz1_34 zz1_35 zz1_36 zz1_37 zz1_38 zz1_39 zz1_40 zz1_41 zz1_42 zz1_43 zz1_44 zz1_45 zz1_46 zz1_47 zz1_48 zz1_49 zz1_50 zz1_51 zz1_52 zz1_53 zz1_54 zz1_55 zz1_56 zz1_57 zz1_58 zz1_59 zz1_60 zz1_61 zz1_62 zz1_63 zz1_64 zz1_65 zz1_66 zz1_67 zz1_68 zz1_69 zz1_70 zz1_71 zz1_72 zz1_73 zz1_74 zz1_75 zz1_76 zz1_77 zz1_78 zz1_79 zz1_80 zz1_81 zz1_82 zz1_83 zz1_84 zz1_85 zz1_86 zz1_87 zz1_88 zz1_89 zz1_90 zz1_91 zz1_92 zz1_93 zz1_94 zz1_95 zz1_96 zz1_97 zz1_98 zz1_99 zz1_100 zz1_101 zz1_102 zz1_103 zz1_104 zz1_105 zz1_106 zz1_107 zz1_108 zz1_109 zz1_110 zz1_111 zz1_112 zz1_113 zz1_114 zz1_115 zz1_116 zz1_117 zz1_118 zz1_119 zz1_120 zz1_121 zz1_122 zz1_123 zz1_124 zz1_125 zz1_126 zz1_127 zz1_128 zz1_129 zz1_130 zz1_131 zz1_132 zz1_133 zz1_134 zz1_135 zz1_136 zz1_137 zz1_138 zz1_139 zz1_140 zz1_141 zz1_142 zz1_143 zz1_144 zz1_145 zz1_146 zz1_147 zz1_148 zz1_149 zz1_150 zz1_151 zz1_152 zz1_153 zz1_154 zz1_155 zz1_156 zz1_157 zz1_158 zz1_159 zz1_160 zz1_161 zz1_162 zz1_163 zz1_164 zz1_165 zz1_166 zz1_167 zz1_168 zz1_169 zz1_170 zz1_171 zz1_172 zz1_173 zz1_174 zz1_175 zz1_176 zz1_177 zz1_178 zz1_179 x7_9 x8_9 zz2_0 kj9 HJ9 zz2_1 zz2_2 zz2_3 zz2_4 zz2_5 zz2_6 zz2_7 zz2_8 zz2_9 zz2_10 zz2_11 zz2_12 zz2_13 zz2_14 zz2_15 zz2_16 zz2_17 zz2_18 zz2_19 zz2_20 zz2_21 zz2_22 zz2_23 zz2_24 zz2_25 zz2_26 zz2_27 zz2_28 zz2_29 zz2_30 zz2_31 zz2_32 zz2_33 zz2_34 zz2_35 zz2_36 zz2_37 zz2_38 zz2_39 zz2_40 zz2_41 zz2_42 zz2_43 zz2_44 zz2_45 zz2_46 zz2_47 zz2_48 zz2_49 zz2_50 zz2_51 zz2_52 zz2_53 zz2_54 zz2_55 zz2_56 zz2_57 zz2_58 zz2_59 zz2_60 zz2_61 zz2_62 zz2_63 zz2_64 zz2_65 zz2_66 zz2_67 zz2_68 zz2_69 zz2_70 zz2_71 zz2_72 zz2_73 zz2_74 zz2_75 zz2_76 zz2_77 zz2_78 zz2_79 zz2_80 zz2_81 zz2_82 zz2_83 zz2_84 zz2_85 zz2_86 zz2_87 zz2_88 zz2_89 zz2_90 zz2_91 zz2_92 zz2_93 zz2_94 zz2_95 zz2_96 zz2_97 zz2_98 zz2_99 zz2_100 zz2_101 zz2_102 zz2_103 zz2_104 zz2_105 zz2_106 zz2_107 zz2_108 zz2_109 zz2_110 zz2_111 zz2_112 zz2_113 zz2_114 zz2_115 zz2_116 zz2_117 zz2_118 zz2_119 zz2_120 zz2_121 zz2_122 zz2_123 zz2_124 zz2_125 zz2_126 zz2_127 zz2_128 zz2_129 zz2_130 zz2_131 zz2_132 zz2_133 zz2_134 zz2_135 zz2_136 zz2_137 zz2_138 zz2_139 zz2_140 zz2_141 zz2_142 zz2_143 zz2_144 zz2_145 zz2_146 zz2_147 zz2_148 zz2_149 zz2_150 zz2_151 zz2_152 zz2_153 zz2_154 zz2_155 zz2_156 zz2_157 zz2_158 zz2_159 zz2_160 zz2_161 zz2_162 zz2_163 zz2_164 zz2_165 zz2_166 zz2_167 zz2_168 zz2_169 zz2_170 zz2_171 zz2_172 zz2_173 zz2_174 zz2_175 zz2_176 zz2_177 zz2_178 zz2_179 x9_12 x10_12 HB kj12 HJ12 HC15 zz2_180 zz2_181 zz2_182 zz2_183 wc u20 u21 u22 u23 u24 u25 u26 u27 u28 u29 u30 u31 u32 u33 u34 u35 u36 u37 u38 u39 u40 u41 u42 u43 u44 u45 u46 u47 u48 u49 u50 u51 u52 u53 u54 u55 u56 u57 u58 u59 u60 u61 u62 u63 u64 u65 u66 u67 u68 u69 u70 u71 u72 u73 u74 u75 u76 u77 u78 u79 u80 u81 u82 u83 u84 u85 u86 u87 u88 u89 u90 u91 u92 u93 u94 u95 u96 u97 u98 u99 u100 u101 u102 u103 u104 u105 u106 u107 u108 u109 u110 u111 u112 u113 u114 u115 u116 u117 u118 u119 u120 u121 u122 u123 u124 u125 u128 u129 u130 u131 u132 u133 u134 u135 u136 u137 u138 u139 u140 u141 u142 u143 u144 u145 u146 u147 u148 u149 u150 u151 u152 u153 u154 u155 u156 u157 u158 u159 u160 u161 u162 u163 u164 u165 u166 u167 u168 u169 u170 u171 u172 u173 u174 u175 u176 u177 u178 u179 u180 u181 u182 u183 u184 u185 u186 u187 u188 u189 u190 u191 u192 u193 u194 u195 u196 u197 u198 u199 hcut
   exact hG_2.out⟩
end Go.Proofs.Ytengegdaiphfeaa.X
end
section
namespace Go.Proofs.Ytengegdaiphfeaa.X
open Go.RowKit Go.Proofs.YtengegdaiphfeaaW.PrintWords Go.Proofs.YtengegdaiphfeaaW.PrintLast Go.Proofs.YtengegdaiphfeaaW.PrintMore
attribute [local go_sem] max2_int min2_int max_two min_two max_three min_three max_four min_four
set_option linter.unusedVariables false
set_option linter.unusedSimpArgs false
set_option maxHeartbeats 8000000 in
set_option maxRecDepth 100000 in
noncomputable def laws_FnExpand.p3 (k : Nat) (A0 : Option Addr) (c0 : Nat) (l0 : List Int) (A1 : Option Addr) (c1 : Nat) (l1 : List Int) (r : Bool) (w : World) : { G_ : Prop // Aside0 G_ → (laws_FnExpand.p2 k A0 c0 l0 A1 c1 l1 r w).1 }:=⟨_,fun hG_3 => by
 intros HR0 HC0 HR1 HC1 zz0_0 zz0_1 zz0_2 x27_2 zz0_180 kj2 HJ2 zz0_181 u4 zz0_360 kj4 HJ4 zz0_361 zz0_362 zz0_363 zz0_364 zz0_365 zz0_366 zz0_367 zz0_368 zz0_369 zz0_370 zz0_371 zz0_372 zz0_373 zz0_374 zz0_375 zz0_376 zz0_377 zz0_378 zz0_379 zz0_380 zz0_381 zz0_382 zz0_383 zz0_384 zz0_385 zz0_386 zz0_387 zz0_388 zz0_389 zz0_390 zz0_391 zz0_392 zz0_393 zz0_394 zz0_395 zz0_396 zz0_397 zz0_398 zz0_399 zz0_400 zz0_401 zz0_402 zz0_403 zz0_404 zz0_405 zz0_406 zz0_407 zz0_408 zz0_409 zz0_410 zz0_411 zz0_412 zz0_413 zz0_414 zz0_415 zz0_416 zz0_417 zz0_418 zz0_419 zz0_420 zz0_421 zz0_422 zz0_423 zz0_424 zz0_425 zz0_426 zz0_427 zz0_428 zz0_429 zz0_430 zz0_431 zz0_432 zz0_433 zz0_434 zz0_435 zz0_436 zz0_437 zz0_438 zz0_439 zz0_440 zz0_441 zz0_442 zz0_443 zz0_444 zz0_445 zz0_446 zz0_447 zz0_448 zz0_449 zz0_450 zz0_451 zz0_452 zz0_453 zz0_454 zz0_455 zz0_456 zz0_457 zz0_458 zz0_459 zz0_460 zz0_461 zz0_462 zz0_463 zz0_464 zz0_465 zz0_466 zz0_467 zz0_468 zz0_469 zz0_470 zz0_471 zz0_472 zz0_473 zz0_474 zz0_475 zz0_476 zz0_477 zz0_478 zz0_479 zz0_480 zz0_481 zz0_482 zz0_483 zz0_484 zz0_485 zz0_486 zz0_487 zz0_488 zz0_489 zz0_490 zz0_491 zz0_492 zz0_493 zz0_494 zz0_495 zz0_496 zz0_497 zz0_498 zz0_499 zz0_500 zz0_501 zz0_502 zz0_503 zz0_504 zz0_505 zz0_506 zz0_507 zz0_508 zz0_509 zz0_510 zz0_511 zz0_512 zz0_513 zz0_514 zz0_515 zz0_516 zz0_517 zz0_518 zz0_519 zz0_520 zz0_521 zz0_522 zz0_523 zz0_524 zz0_525 zz0_526 zz0_527 zz0_528 zz0_529 zz0_530 zz0_531 zz0_532 zz0_533 zz0_534 zz0_535 zz0_536 zz0_537 zz0_538 zz0_539 x5_6 x6_6 zz1_0 kj6 HJ6 zz1_1 zz1_2 zz1_3 zz1_4 zz1_5 zz1_6 zz1_7 zz1_8 zz1_9 zz1_10 zz1_11 zz1_12 zz1_13 zz1_14 zz1_15 zz1_16 zz1_17 zz1_18 zz1_19 zz1_20 zz1_21 zz1_22 zz1_23 zz1_24 zz1_25 zz1_26 zz1_27 zz1_28 zz1_29 zz1_30 zz1_31 zz1_32 zz1_33 zz1_34 zz1_35 zz1_36 zz1_37 zz1_38 zz1_39 zz1_40 zz1_41 zz1_42 zz1_43 zz1_44 zz1_45 zz1_46 zz1_47 zz1_48 zz1_49 zz1_50 zz1_51 zz1_52 zz1_53 zz1_54 zz1_55 zz1_56 zz1_57 zz1_58 zz1_59 zz1_60 zz1_61 zz1_62 zz1_63 zz1_64 zz1_65 zz1_66 zz1_67 zz1_68 zz1_69 zz1_70 zz1_71 zz1_72 zz1_73 zz1_74 zz1_75 zz1_76 zz1_77 zz1_78 zz1_79 zz1_80 zz1_81 zz1_82 zz1_83 zz1_84 zz1_85 zz1_86 zz1_87 zz1_88 zz1_89 zz1_90 zz1_91 zz1_92 zz1_93 zz1_94 zz1_95 zz1_96 zz1_97 zz1_98 zz1_99 zz1_100 zz1_101 zz1_102 zz1_103 zz1_104 zz1_105 zz1_106 zz1_107 zz1_108 zz1_109 zz1_110 zz1_111 zz1_112 zz1_113 zz1_114 zz1_115 zz1_116 zz1_117 zz1_118 zz1_119 zz1_120 zz1_121 zz1_122 zz1_123 zz1_124 zz1_125 zz1_126 zz1_127 zz1_128 zz1_129 zz1_130 zz1_131 zz1_132 zz1_133 zz1_134 zz1_135 zz1_136 zz1_137 zz1_138 zz1_139 zz1_140 zz1_141 zz1_142 zz1_143 zz1_144 zz1_145 zz1_146 zz1_147 zz1_148 zz1_149 zz1_150 zz1_151 zz1_152 zz1_153 zz1_154 zz1_155 zz1_156 zz1_157 zz1_158 zz1_159 zz1_160 zz1_161 zz1_162 zz1_163 zz1_164 zz1_165 zz1_166 zz1_167 zz1_168 zz1_169 zz1_170 zz1_171 zz1_172 zz1_173 zz1_174 zz1_175 zz1_176 zz1_177 zz1_178 zz1_179 x7_9 x8_9 zz2_0 kj9 HJ9 zz2_1 zz2_2 zz2_3 zz2_4 zz2_5 zz2_6 zz2_7 zz2_8 zz2_9 zz2_10 zz2_11 zz2_12 zz2_13 zz2_14 zz2_15 zz2_16 zz2_17 zz2_18 zz2_19 zz2_20 zz2_21 zz2_22 zz2_23 zz2_24 zz2_25 zz2_26 zz2_27 zz2_28 zz2_29 zz2_30 zz2_31 zz2_32 zz2_33 zz2_34 zz2_35 zz2_36 zz2_37 zz2_38 zz2_39 zz2_40 zz2_41 zz2_42 zz2_43 zz2_44 zz2_45 zz2_46 zz2_47 zz2_48 zz2_49 zz2_50 zz2_51 zz2_52 zz2_53 zz2_54 zz2_55 zz2_56 zz2_57 zz2_58 zz2_59 zz2_60 zz2_61 zz2_62 zz2_63 zz2_64 zz2_65 zz2_66 zz2_67 zz2_68 zz2_69 zz2_70 zz2_71 zz2_72 zz2_73 zz2_74 zz2_75 zz2_76 zz2_77 zz2_78 zz2_79 zz2_80 zz2_81 zz2_82 zz2_83 zz2_84 zz2_85 zz2_86 zz2_87 zz2_88 zz2_89 zz2_90 zz2_91 zz2_92 zz2_93 zz2_94 zz2_95 zz2_96 zz2_97 zz2_98 zz2_99 zz2_100 zz2_101 zz2_102 zz2_103 zz2_104 zz2_105 zz2_106 zz2_107 zz2_108 zz2_109 zz2_110 zz2_111 zz2_112 zz2_113 zz2_114 zz2_115 zz2_116 zz2_117 zz2_118 zz2_119 zz2_120 zz2_121 zz2_122 zz2_123 zz2_124 zz2_125 zz2_126 zz2_127 zz2_128 zz2_129 zz2_130 zz2_131 zz2_132 zz2_133 zz2_134 zz2_135 zz2_136 zz2_137 zz2_138 zz2_139 zz2_140 zz2_141 zz2_142 zz2_143 zz2_144 zz2_145 zz2_146 zz2_147 zz2_148 zz2_149 zz2_150 zz2_151 zz2_152 zz2_153 zz2_154 zz2_155 zz2_156 zz2_157 zz2_158 zz2_159 zz2_160 zz2_161 zz2_162 zz2_163 zz2_164 zz2_165 zz2_166 zz2_167 zz2_168 zz2_169 zz2_170 zz2_171 zz2_172 zz2_173 zz2_174 zz2_175 zz2_176 zz2_177 zz2_178 zz2_179 x9_12 x10_12 HB kj12 HJ12 HC15 zz2_180 zz2_181 zz2_182 zz2_183 wc u20 u21 u22 u23 u24 u25 u26 u27 u28 u29 u30 u31 u32 u33 u34 u35 u36 u37 u38 u39 u40 u41 u42 u43 u44 u45 u46 u47 u48 u49 u50 u51 u52 u53 u54 u55 u56 u57 u58 u59 u60 u61 u62 u63 u64 u65 u66 u67 u68 u69 u70 u71 u72 u73 u74 u75 u76 u77 u78 u79 u80 u81 u82 u83 u84 u85 u86 u87 u88 u89 u90 u91 u92 u93 u94 u95 u96 u97 u98 u99 u100 u101 u102 u103 u104 u105 u106 u107 u108 u109 u110 u111 u112 u113 u114 u115 u116 u117 u118 u119 u120 u121 u122 u123 u124 u125 u128 u129 u130 u131 u132 u133 u134 u135 u136 u137 u138 u139 u140 u141 u142 u143 u144 u145 u146 u147 u148 u149 u150 u151 u152 u153 u154 u155 u156 u157 u158 u159 u160 u161 u162 u163 u164 u165 u166 u167 u168 u169 u170 u171 u172 u173 u174 u175 u176 u177 u178 u179 u180 u181 u182 u183 u184 u185 u186 u187 u188 u189 u190 u191 u192 u193 u194 u195 u196 u197 u198 u199 hcut
 clear HC15
 try clear c1
 try clear c2
 try clear p2
 try clear c4
 try clear c4b0
 try clear c4b1
 try clear c6
 try clear c14
 try clear c16
 try clear c16b0
 try clear c16b1
 try clear c17
 try clear c17b0
 try clear c17b1
 try clear c17b2
 try clear c20
 try clear c20b0
 try clear c20b1
 try clear c20b2
 try clear c24
 try clear c24b0
 try clear c24b1
 try clear p2
 obtain ⟨kq,x70_14,rfl,HA,HJ14,HB⟩:=hcut
 cases kq with
 | zero => exact absurd HA.out (by simp [laws_FnExpand.j5])
 | succ kj14 =>
  have H:=HA.out
  clear HA
  simp only [laws_FnExpand.j5] at H
  have HC31:=Aside0.mk H
  clear H
  go_upto_if 70 with (fail)
  go_cut [] (fun wc => ∃ (kq : Nat),Aside0 (laws_FnExpand.j6 kq l1 x5_6 x6_6 x7_9 = some r) ∧ Aside0 (kq ≤ kj14) ∧ Aside0 (Below w.heap.size w wc))
  case first =>
   have H:=HC31.out
   clear HC31
   by_cases c32 : x70_14 = true
   ·subst c32
    have H1 : (if x7_9.toList = x9_12.toList then (if (x8_9 == x10_12) = true then ((impl_ExpressionValid.f kj14 x5_6).bind fun t1000 => ((spec_ExpressionValid.f kj14 x5_6).bind fun t1001 => (if (t1000 == t1001) = true then ((impl_DepthOf.f kj14 x5_6).bind fun t1002 => ((spec_DepthOf.f kj14 x5_6).bind fun t1003 => (if t1002 = t1003 then (some (x7_9.toList == ([] : List UInt8))) else (some false)))) else (some false)))) else (some false)) else (some false)) = some r:=by rw [if_pos rfl] at H;exact H
    clear H
    have H:=H1
    clear H1
    by_cases c33 : x7_9.toList = x9_12.toList
    ·rw [if_pos c33] at H
     have c33b0 : (x7_9.toList == x9_12.toList) = true:=beq_iff_eq.mpr c33
     have c33b1 : (x7_9.toList != x9_12.toList) = false:=bne_eq_false_iff_eq.mpr c33
     clear c33
     (first|rw [c33b0]|(simp only [i64_w,i32_w];rw [c33b0])|skip)
     by_cases c34 : (x8_9 == x10_12) = true
     ·rw [if_pos c34] at H
      have c34b0 : (x8_9 == x10_12) = true:=c34
      (try (have c34b1 : decide (x8_9 = x10_12) = true:=by simpa using c34))
      (try (have c34b2 : (x8_9 == x10_12) = true:=by simpa using c34))
      clear c34
      replace H:=Option.bind_eq_some_iff.mp H
      obtain ⟨t1000,A350,H⟩:=H
      replace H : ((spec_ExpressionValid.f kj14 x5_6).bind fun t1001 => (if (t1000 == t1001) = true then ((impl_DepthOf.f kj14 x5_6).bind fun t1002 => ((spec_DepthOf.f kj14 x5_6).bind fun t1003 => (if t1002 = t1003 then (some (x7_9.toList == ([] : List UInt8))) else (some false)))) else (some false))) = some r:=H
      have A35:=Aside0.mk A350
      clear A350
      replace H:=Option.bind_eq_some_iff.mp H
      obtain ⟨t1001,A360,H⟩:=H
      replace H : (if (t1000 == t1001) = true then ((impl_DepthOf.f kj14 x5_6).bind fun t1002 => ((spec_DepthOf.f kj14 x5_6).bind fun t1003 => (if t1002 = t1003 then (some (x7_9.toList == ([] : List UInt8))) else (some false)))) else (some false)) = some r:=H
      have A36:=Aside0.mk A360
      clear A360
      by_cases c37 : (t1000 == t1001) = true
      ·rw [if_pos c37] at H
       have c37b0 : (t1000 == t1001) = true:=c37
       (try (have c37b1 : decide (t1000 = t1001) = true:=by simpa using c37))
       (try (have c37b2 : (t1000 == t1001) = true:=by simpa using c37))
       clear c37
       replace H:=Option.bind_eq_some_iff.mp H
       obtain ⟨t1002,A380,H⟩:=H
       replace H : ((spec_DepthOf.f kj14 x5_6).bind fun t1003 => (if t1002 = t1003 then (some (x7_9.toList == ([] : List UInt8))) else (some false))) = some r:=H
       have A38:=Aside0.mk A380
       clear A380
       replace H:=Option.bind_eq_some_iff.mp H
       obtain ⟨t1003,A390,H⟩:=H
       replace H : (if t1002 = t1003 then (some (x7_9.toList == ([] : List UInt8))) else (some false)) = some r:=H
       have A39:=Aside0.mk A390
       clear A390
       by_cases c40 : t1002 = t1003
       ·rw [if_pos c40] at H
        have c40b0 : (t1002 == t1003) = true:=beq_iff_eq.mpr c40
        have c40b1 : (t1002 != t1003) = false:=bne_eq_false_iff_eq.mpr c40
        clear c40
        obtain rfl:=Option.some.inj H
        go_wp2_with (first|(go_at_call 44;(with_reducible refine (impl_ExpressionValid.calls kj14 x5_6 t1000 _ A35.out).mono ?_);rintro e w41 ⟨rfl,hb⟩;have n0_:=Aside0.mk (below_step (be0_ HB.out) hb);clear HB;have HB:=n0_;clear n0_;(try clear hb);(try clear hb2);(try clear hk);(try clear hi))|(go_at_call 45;(with_reducible refine (spec_ExpressionValid.calls kj14 x5_6 t1001 _ A36.out).mono ?_);rintro e w' ⟨rfl,⟨nd,rfl⟩⟩)|(go_at_call 46;(with_reducible refine (impl_DepthOf.calls kj14 x5_6 t1002 _ A38.out).mono ?_);rintro e w42 ⟨rfl,hb⟩;have n0_:=Aside0.mk (below_step (be0_ HB.out) hb);clear HB;have HB:=n0_;clear n0_;(try clear hb);(try clear hb2);(try clear hk);(try clear hi))|(go_at_call 47;(with_reducible refine (spec_DepthOf.calls kj14 x5_6 t1003 _ A39.out).mono ?_);rintro e w43 ⟨rfl,hb⟩;have n0_:=Aside0.mk (below_step (be0_ HB.out) hb);clear HB;have HB:=n0_;clear n0_;(try clear hb);(try clear hb2);(try clear hk);(try clear hi)))
        go_ret
        exact ⟨by first|rfl|(simp [errW_none,errW_some] <;> rfl)|(simp [*,errW_none,errW_some] <;> rfl),be0_ HB.out⟩
       ·rw [if_neg c40] at H
        have c40b0 : (t1002 == t1003) = false:=beq_eq_false_iff_ne.mpr c40
        have c40b1 : (t1002 != t1003) = true:=bne_iff_ne.mpr c40
        obtain rfl:=Option.some.inj H
        go_wp2_with (first|(go_at_call 44;(with_reducible refine (impl_ExpressionValid.calls kj14 x5_6 t1000 _ A35.out).mono ?_);rintro e w44 ⟨rfl,hb⟩;have n0_:=Aside0.mk (below_step (be0_ HB.out) hb);clear HB;have HB:=n0_;clear n0_;(try clear hb);(try clear hb2);(try clear hk);(try clear hi))|(go_at_call 45;(with_reducible refine (spec_ExpressionValid.calls kj14 x5_6 t1001 _ A36.out).mono ?_);rintro e w' ⟨rfl,⟨nd,rfl⟩⟩)|(go_at_call 46;(with_reducible refine (impl_DepthOf.calls kj14 x5_6 t1002 _ A38.out).mono ?_);rintro e w45 ⟨rfl,hb⟩;have n0_:=Aside0.mk (below_step (be0_ HB.out) hb);clear HB;have HB:=n0_;clear n0_;(try clear hb);(try clear hb2);(try clear hk);(try clear hi))|(go_at_call 47;(with_reducible refine (spec_DepthOf.calls kj14 x5_6 t1003 _ A39.out).mono ?_);rintro e w46 ⟨rfl,hb⟩;have n0_:=Aside0.mk (below_step (be0_ HB.out) hb);clear HB;have HB:=n0_;clear n0_;(try clear hb);(try clear hb2);(try clear hk);(try clear hi)))
        go_ret
        exact ⟨by first|rfl|(simp [errW_none,errW_some] <;> rfl)|(simp [*,errW_none,errW_some] <;> rfl),be0_ HB.out⟩
      ·rw [if_neg c37] at H
       have c37b0 : (t1000 == t1001) = false:=by simpa using c37
       (try (have c37b1 : decide (t1000 = t1001) = false:=by simpa using c37))
       (try (have c37b2 : (t1000 == t1001) = false:=by simpa using c37))
       (try (have c37b3 : ¬ (t1000 = t1001):=by simpa using c37))
       clear c37
       obtain rfl:=Option.some.inj H
       go_wp2_with (first|(go_at_call 44;(with_reducible refine (impl_ExpressionValid.calls kj14 x5_6 t1000 _ A35.out).mono ?_);rintro e w47 ⟨rfl,hb⟩;have n0_:=Aside0.mk (below_step (be0_ HB.out) hb);clear HB;have HB:=n0_;clear n0_;(try clear hb);(try clear hb2);(try clear hk);(try clear hi))|(go_at_call 45;(with_reducible refine (spec_ExpressionValid.calls kj14 x5_6 t1001 _ A36.out).mono ?_);rintro e w' ⟨rfl,⟨nd,rfl⟩⟩))
       go_ret
       exact ⟨by first|rfl|(simp [errW_none,errW_some] <;> rfl)|(simp [*,errW_none,errW_some] <;> rfl),be0_ HB.out⟩
     ·rw [if_neg c34] at H
      have c34b0 : (x8_9 == x10_12) = false:=by simpa using c34
      (try (have c34b1 : decide (x8_9 = x10_12) = false:=by simpa using c34))
      (try (have c34b2 : (x8_9 == x10_12) = false:=by simpa using c34))
      (try (have c34b3 : ¬ (x8_9 = x10_12):=by simpa using c34))
      clear c34
      obtain rfl:=Option.some.inj H
      go_wp2
      go_ret
      exact ⟨by first|rfl|(simp [errW_none,errW_some] <;> rfl)|(simp [*,errW_none,errW_some] <;> rfl),be0_ HB.out⟩
    ·rw [if_neg c33] at H
     have c33b0 : (x7_9.toList == x9_12.toList) = false:=beq_eq_false_iff_ne.mpr c33
     have c33b1 : (x7_9.toList != x9_12.toList) = true:=bne_iff_ne.mpr c33
     (first|rw [c33b0]|(simp only [i64_w,i32_w];rw [c33b0])|skip)
     obtain rfl:=Option.some.inj H
     go_wp2
     go_ret
     exact ⟨by first|rfl|(simp [errW_none,errW_some] <;> rfl)|(simp [*,errW_none,errW_some] <;> rfl),be0_ HB.out⟩
   ·replace c32:=Bool.eq_false_iff.mpr c32
    subst c32
    have H1 : (laws_FnExpand.j6 kj14 l1 x5_6 x6_6 x7_9) = some r:=by rw [if_neg (show ¬ (false = true) by decide)] at H;exact H
    clear H
    have H:=H1
    clear H1
    have H':=Aside0.mk H
    clear H
    go_wp2
    go_meet
    case rel => exact ⟨_,H',⟨by have:=HJ2.out;have:=HJ4.out;have:=HJ6.out;have:=HJ9.out;have:=HJ12.out;have:=HJ14.out;first|omega|exact Nat.le_refl _⟩,⟨be0_ HB.out⟩⟩
  case rest =>
   rename_i zz3_0 zz3_1 zz3_2 zz3_3 zz3_4 zz3_5 zz3_6 zz3_7 zz3_8 zz3_9 zz3_10 zz3_11 zz3_12 zz3_13 zz3_14 zz3_15 zz3_16 zz3_17 zz3_18 zz3_19 zz3_20 zz3_21 zz3_22 zz3_23 zz3_24 zz3_25 zz3_26 zz3_27 zz3_28 zz3_29 zz3_30 zz3_31 zz3_32 zz3_33 zz3_34 zz3_35 zz3_36 zz3_37 zz3_38 zz3_39 zz3_40 zz3_41 zz3_42 zz3_43 zz3_44 zz3_45 zz3_46 zz3_47 zz3_48 zz3_49 zz3_50 zz3_51 zz3_52 zz3_53 zz3_54 zz3_55 zz3_56 zz3_57 zz3_58 zz3_59 zz3_60 zz3_61 zz3_62 zz3_63 zz3_64 zz3_65 zz3_66 zz3_67 zz3_68 zz3_69 zz3_70 zz3_71 zz3_72 zz3_73 zz3_74 zz3_75 zz3_76 zz3_77 zz3_78 zz3_79 zz3_80 zz3_81 zz3_82 zz3_83 zz3_84 zz3_85 zz3_86 zz3_87 zz3_88 zz3_89 zz3_90 zz3_91 zz3_92 zz3_93 zz3_94 zz3_95 zz3_96 zz3_97 zz3_98 zz3_99 zz3_100 zz3_101 zz3_102 zz3_103 zz3_104 zz3_105 zz3_106 zz3_107 zz3_108 zz3_109 zz3_110 zz3_111 zz3_112 zz3_113 zz3_114 zz3_115 zz3_116 zz3_117 zz3_118 zz3_119 zz3_120 zz3_121 zz3_122 zz3_123 zz3_124 zz3_125 zz3_126 zz3_127 zz3_128 zz3_129 zz3_130 zz3_131 zz3_132 zz3_133 zz3_134 zz3_135 zz3_136 zz3_137 zz3_138 zz3_139 zz3_140 zz3_141 zz3_142 zz3_143 zz3_144 zz3_145 zz3_146 zz3_147 zz3_148 zz3_149 zz3_150 zz3_151 zz3_152 zz3_153 zz3_154 zz3_155 zz3_156 zz3_157 zz3_158 zz3_159 zz3_160 zz3_161 zz3_162 zz3_163 zz3_164 zz3_165 zz3_166 zz3_167 zz3_168 zz3_169 zz3_170 zz3_171 zz3_172 zz3_173 zz3_174 zz3_175 zz3_176 zz3_177 zz3_178 zz3_179
   revert HR0 HC0 HR1 HC1 zz0_0 zz0_1 zz0_2 x27_2 zz0_180 kj2 HJ2 zz0_181 zz3_0 zz0_360 kj4 HJ4 zz0_361 zz0_362 zz0_363 zz0_364 zz0_365 zz0_366 zz0_367 zz0_368 zz0_369 zz0_370 zz0_371 zz0_372 zz0_373 zz0_374 zz0_375 zz0_376 zz0_377 zz0_378 zz0_379 zz0_380 zz0_381 zz0_382 zz0_383 zz0_384 zz0_385 zz0_386 zz0_387 zz0_388 zz0_389 zz0_390 zz0_391 zz0_392 zz0_393 zz0_394 zz0_395 zz0_396 zz0_397 zz0_398 zz0_399 zz0_400 zz0_401 zz0_402 zz0_403 zz0_404 zz0_405 zz0_406 zz0_407 zz0_408 zz0_409 zz0_410 zz0_411 zz0_412 zz0_413 zz0_414 zz0_415 zz0_416 zz0_417 zz0_418 zz0_419 zz0_420 zz0_421 zz0_422 zz0_423 zz0_424 zz0_425 zz0_426 zz0_427 zz0_428 zz0_429 zz0_430 zz0_431 zz0_432 zz0_433 zz0_434 zz0_435 zz0_436 zz0_437 zz0_438 zz0_439 zz0_440 zz0_441 zz0_442 zz0_443 zz0_444 zz0_445 zz0_446 zz0_447 zz0_448 zz0_449 zz0_450 zz0_451 zz0_452 zz0_453 zz0_454 zz0_455 zz0_456 zz0_457 zz0_458 zz0_459 zz0_460 zz0_461 zz0_462 zz0_463 zz0_464 zz0_465 zz0_466 zz0_467 zz0_468 zz0_469 zz0_470 zz0_471 zz0_472 zz0_473 zz0_474 zz0_475 zz0_476 zz0_477 zz0_478 zz0_479 zz0_480 zz0_481 zz0_482 zz0_483 zz0_484 zz0_485 zz0_486 zz0_487 zz0_488 zz0_489 zz0_490 zz0_491 zz0_492 zz0_493 zz0_494 zz0_495 zz0_496 zz0_497 zz0_498 zz0_499 zz0_500 zz0_501 zz0_502 zz0_503 zz0_504 zz0_505 zz0_506 zz0_507 zz0_508 zz0_509 zz0_510 zz0_511 zz0_512 zz0_513 zz0_514 zz0_515 zz0_516 zz0_517 zz0_518 zz0_519 zz0_520 zz0_521 zz0_522 zz0_523 zz0_524 zz0_525 zz0_526 zz0_527 zz0_528 zz0_529 zz0_530 zz0_531 zz0_532 zz0_533 zz0_534 zz0_535 zz0_536 zz0_537 zz0_538 zz0_539 x5_6 x6_6 zz1_0 kj6 HJ6 zz1_1 zz1_2 zz1_3 zz1_4 zz1_5 zz1_6 zz1_7 zz1_8 zz1_9 zz1_10 zz1_11 zz1_12 zz1_13 zz1_14 zz1_15 zz1_16 zz1_17 zz1_18 zz1_19 zz1_20 zz1_21 zz1_22 zz1_23 zz1_24 zz1_25 zz1_26 zz1_27 zz1_28 zz1_29 zz1_30 zz1_31 zz1_32 zz1_33 zz1_34 zz1_35 zz1_36 zz1_37 zz1_38 zz1_39 zz1_40 zz1_41 zz1_42 zz1_43 zz1_44 zz1_45 zz1_46 zz1_47 zz1_48 zz1_49 zz1_50 zz1_51 zz1_52 zz1_53 zz1_54 zz1_55 zz1_56 zz1_57 zz1_58 zz1_59 zz1_60 zz1_61 zz1_62 zz1_63 zz1_64 zz1_65 zz1_66 zz1_67 zz1_68 zz1_69 zz1_70 zz1_71 zz1_72 zz1_73 zz1_74 zz1_75 zz1_76 zz1_77 zz1_78 zz1_79 zz1_80 zz1_81 zz1_82 zz1_83 zz1_84 zz1_85 zz1_86 zz1_87 zz1_88 zz1_89 zz1_90 zz1_91 zz1_92 zz1_93 zz1_94 zz1_95 zz1_96 zz1_97 zz1_98 zz1_99 zz1_100 zz1_101 zz1_102 zz1_103 zz1_104 zz1_105 zz1_106 zz1_107 zz1_108 zz1_109 zz1_110 zz1_111 zz1_112 zz1_113 zz1_114 zz1_115 zz1_116 zz1_117 zz1_118 zz1_119 zz1_120 zz1_121 zz1_122 zz1_123 zz1_124 zz1_125 zz1_126 zz1_127 zz1_128 zz1_129 zz1_130 zz1_131 zz1_132 zz1_133 zz1_134 zz1_135 zz1_136 zz1_137 zz1_138 zz1_139 zz1_140 zz1_141 zz1_142 zz1_143 zz1_144 zz1_145 zz1_146 zz1_147 zz1_148 zz1_149 zz1_150 zz1_151 zz1_152 zz1_153 zz1_154 zz1_155 zz1_156 zz1_157 zz1_158 zz1_159 zz1_160 zz1_161 zz1_162 zz1_163 zz1_164 zz1_165 zz1_166 zz1_167 zz1_168 zz1_169 zz1_170 zz1_171 zz1_172 zz1_173 zz1_174 zz1_175 zz1_176 zz1_177 zz1_178 zz1_179 x7_9 x8_9 zz2_0 kj9 HJ9 zz2_1 zz2_2 zz2_3 zz2_4 zz2_5 zz2_6 zz2_7 zz2_8 zz2_9 zz2_10 zz2_11 zz2_12 zz2_13 zz2_14 zz2_15 zz2_16 zz2_17 zz2_18 zz2_19 zz2_20 zz2_21 zz2_22 zz2_23 zz2_24 zz2_25 zz2_26 zz2_27 zz2_28 zz2_29 zz2_30 zz2_31 zz2_32 zz2_33 zz2_34 zz2_35 zz2_36 zz2_37 zz2_38 zz2_39 zz2_40 zz2_41 zz2_42 zz2_43 zz2_44 zz2_45 zz2_46 zz2_47 zz2_48 zz2_49 zz2_50 zz2_51 zz2_52 zz2_53 zz2_54 zz2_55 zz2_56 zz2_57 zz2_58 zz2_59 zz2_60 zz2_61 zz2_62 zz2_63 zz2_64 zz2_65 zz2_66 zz2_67 zz2_68 zz2_69 zz2_70 zz2_71 zz2_72 zz2_73 zz2_74 zz2_75 zz2_76 zz2_77 zz2_78 zz2_79 zz2_80 zz2_81 zz2_82 zz2_83 zz2_84 zz2_85 zz2_86 zz2_87 zz2_88 zz2_89 zz2_90 zz2_91 zz2_92 zz2_93 zz2_94 zz2_95 zz2_96 zz2_97 zz2_98 zz2_99 zz2_100 zz2_101 zz2_102 zz2_103 zz2_104 zz2_105 zz2_106 zz2_107 zz2_108 zz2_109 zz2_110 zz2_111 zz2_112 zz2_113 zz2_114 zz2_115 zz2_116 zz2_117 zz2_118 zz2_119 zz2_120 zz2_121 zz2_122 zz2_123 zz2_124 zz2_125 zz2_126 zz2_127 zz2_128 zz2_129 zz2_130 zz2_131 zz2_132 zz2_133 zz2_134 zz2_135 zz2_136 zz2_137 zz2_138 zz2_139 zz2_140 zz2_141 zz2_142 zz2_143 zz2_144 zz2_145 zz2_146 zz2_147 zz2_148 zz2_149 zz2_150 zz2_151 zz2_152 zz2_153 zz2_154 zz2_155 zz2_156 zz2_157 zz2_158 zz2_159 zz2_160 zz2_161 zz2_162 zz2_163 zz2_164 zz2_165 zz2_166 zz2_167 zz2_168 zz2_169 zz2_170 zz2_171 zz2_172 zz2_173 zz2_174 zz2_175 zz2_176 zz2_177 zz2_178 zz2_179 x9_12 x10_12 zz3_1 kj12 HJ12 zz2_180 zz2_181 zz3_2 zz3_3 zz3_4 zz3_5 zz3_6 zz3_7 zz3_8 zz3_9 zz3_10 zz3_11 zz3_12 zz3_13 zz3_14 zz3_15 zz3_16 zz3_17 zz3_18 zz3_19 zz3_20 zz3_21 zz3_22 zz3_23 zz3_24 zz3_25 zz3_26 zz3_27 zz3_28 zz3_29 zz3_30 zz3_31 zz3_32 zz3_33 zz3_34 zz3_35 zz3_36 zz3_37 zz3_38 zz3_39 zz3_40 zz3_41 zz3_42 zz3_43 zz3_44 zz3_45 zz3_46 zz3_47 zz3_48 zz3_49 zz3_50 zz3_51 zz3_52 zz3_53 zz3_54 zz3_55 zz3_56 zz3_57 zz3_58 zz3_59 zz3_60 zz3_61 zz3_62 zz3_63 zz3_64 zz3_65 zz3_66 zz3_67 zz3_68 zz3_69 zz3_70 zz3_71 zz3_72 zz3_73 zz3_74 zz3_75 zz3_76 zz3_77 zz3_78 zz3_79 zz3_80 zz3_81 zz3_82 zz3_83 zz3_84 zz3_85 zz3_86 zz3_87 zz3_88 zz3_89 zz3_90 zz3_91 zz3_92 zz3_93 zz3_94 zz3_95 zz3_96 zz3_97 zz3_98 zz3_99 zz3_100 zz3_101 zz3_102 zz3_103 zz3_104 zz3_105 zz3_106 zz3_107 zz3_108 zz3_109 zz3_110 zz3_111 zz3_112 zz3_113 zz3_114 zz3_115 zz3_116 zz3_117 zz3_118 zz3_119 zz3_120 zz3_121 zz3_122 zz3_123 zz3_124 zz3_125 zz3_126 zz3_127 zz3_128 zz3_129 zz3_130 zz3_131 zz3_132 zz3_133 zz3_134 zz3_135 zz3_136 zz3_137 zz3_138 zz3_139 zz3_140 zz3_141 zz3_142 zz3_143 zz3_144 zz3_145 zz3_146 zz3_147 zz3_148 zz3_149 zz3_150 zz3_151 zz3_152 zz3_153 zz3_154 zz3_155 zz3_156 zz3_157 zz3_158 zz3_159 zz3_160 zz3_161 zz3_162 zz3_163 zz3_164 zz3_165 zz3_166 zz3_167 zz3_168 zz3_169 zz3_170 zz3_171 zz3_172 zz3_173 zz3_174 zz3_175 zz3_176 zz3_177 zz3_178 zz3_179 x70_14 HB kj14 HJ14 HC31 wc u4 u20 u21 u22 u23 u24 u25 u26 u27 u28 u29 u30 u31 u32 u33 u34 u35 u36 u37 u38 u39 u40 u41 u42 u43 u44 u45 u46 u47 u48 u49 u50 u51 u52 u53 u54 u55 u56 u57 u58 u59 u60 u61 u62 u63 u64 u65 u66 u67 u68 u69 u70 u71 u72 u73 u74 u75 u76 u77 u78 u79 u80 u81 u82 u83 u84 u85 u86 u87 u88 u89 u90 u91 u92 u93 u94 u95 u96 u97 u98 u99 u100 u101 u102 u103 u104 u105 u106 u107 u108 u109 u110 u111 u112 u113 u114 u115 u116 u117 u118 u119 u120 u121 u122 u123 u124 u125 u128 u129 u130 u131 u132 u133 u134 u135 u136 u137 u138 u139 u140 u141 u142 u143 u144 u145 u146 u147 u148 u149 u150 u151 u152 u153 u154 u155 u156 u157 u158 u159 u160 u161 u162 u163 u164 u165 u166 u167 u168 u169 u170 u171 u172 u173 u174 u175 u176 u177 u178 u179 u180 u181 u182 u183 u184 u185 u186 u187 u188 u189 u190 u191 u192 u193 u194 u195 u196 u197 u198 u199 hcut
   exact hG_3.out⟩
end Go.Proofs.Ytengegdaiphfeaa.X
end
section
namespace Go.Proofs.Ytengegdaiphfeaa.X
open Go.RowKit Go.Proofs.YtengegdaiphfeaaW.PrintWords Go.Proofs.YtengegdaiphfeaaW.PrintLast Go.Proofs.YtengegdaiphfeaaW.PrintMore
attribute [local go_sem] max2_int min2_int max_two min_two max_three min_three max_four min_four
set_option linter.unusedVariables false
set_option linter.unusedSimpArgs false
set_option maxHeartbeats 8000000 in
set_option maxRecDepth 100000 in
noncomputable def laws_FnExpand.p4 (k : Nat) (A0 : Option Addr) (c0 : Nat) (l0 : List Int) (A1 : Option Addr) (c1 : Nat) (l1 : List Int) (r : Bool) (w : World) : { G_ : Prop // Aside0 G_ → (laws_FnExpand.p3 k A0 c0 l0 A1 c1 l1 r w).1 }:=⟨_,fun hG_4 => by
 intros HR0 HC0 HR1 HC1 zz0_0 zz0_1 zz0_2 x27_2 zz0_180 kj2 HJ2 zz0_181 zz3_0 zz0_360 kj4 HJ4 zz0_361 zz0_362 zz0_363 zz0_364 zz0_365 zz0_366 zz0_367 zz0_368 zz0_369 zz0_370 zz0_371 zz0_372 zz0_373 zz0_374 zz0_375 zz0_376 zz0_377 zz0_378 zz0_379 zz0_380 zz0_381 zz0_382 zz0_383 zz0_384 zz0_385 zz0_386 zz0_387 zz0_388 zz0_389 zz0_390 zz0_391 zz0_392 zz0_393 zz0_394 zz0_395 zz0_396 zz0_397 zz0_398 zz0_399 zz0_400 zz0_401 zz0_402 zz0_403 zz0_404 zz0_405 zz0_406 zz0_407 zz0_408 zz0_409 zz0_410 zz0_411 zz0_412 zz0_413 zz0_414 zz0_415 zz0_416 zz0_417 zz0_418 zz0_419 zz0_420 zz0_421 zz0_422 zz0_423 zz0_424 zz0_425 zz0_426 zz0_427 zz0_428 zz0_429 zz0_430 zz0_431 zz0_432 zz0_433 zz0_434 zz0_435 zz0_436 zz0_437 zz0_438 zz0_439 zz0_440 zz0_441 zz0_442 zz0_443 zz0_444 zz0_445 zz0_446 zz0_447 zz0_448 zz0_449 zz0_450 zz0_451 zz0_452 zz0_453 zz0_454 zz0_455 zz0_456 zz0_457 zz0_458 zz0_459 zz0_460 zz0_461 zz0_462 zz0_463 zz0_464 zz0_465 zz0_466 zz0_467 zz0_468 zz0_469 zz0_470 zz0_471 zz0_472 zz0_473 zz0_474 zz0_475 zz0_476 zz0_477 zz0_478 zz0_479 zz0_480 zz0_481 zz0_482 zz0_483 zz0_484 zz0_485 zz0_486 zz0_487 zz0_488 zz0_489 zz0_490 zz0_491 zz0_492 zz0_493 zz0_494 zz0_495 zz0_496 zz0_497 zz0_498 zz0_499 zz0_500 zz0_501 zz0_502 zz0_503 zz0_504 zz0_505 zz0_506 zz0_507 zz0_508 zz0_509 zz0_510 zz0_511 zz0_512 zz0_513 zz0_514 zz0_515 zz0_516 zz0_517 zz0_518 zz0_519 zz0_520 zz0_521 zz0_522 zz0_523 zz0_524 zz0_525 zz0_526 zz0_527 zz0_528 zz0_529 zz0_530 zz0_531 zz0_532 zz0_533 zz0_534 zz0_535 zz0_536 zz0_537 zz0_538 zz0_539 x5_6 x6_6 zz1_0 kj6 HJ6 zz1_1 zz1_2 zz1_3 zz1_4 zz1_5 zz1_6 zz1_7 zz1_8 zz1_9 zz1_10 zz1_11 zz1_12 zz1_13 zz1_14 zz1_15 zz1_16 zz1_17 zz1_18 zz1_19 zz1_20 zz1_21 zz1_22 zz1_23 zz1_24 zz1_25 zz1_26 zz1_27 zz1_28 zz1_29 zz1_30 zz1_31 zz1_32 zz1_33 zz1_34 zz1_35 zz1_36 zz1_37 zz1_38 zz1_39 zz1_40 zz1_41 zz1_42 zz1_43 zz1_44 zz1_45 zz1_46 zz1_47 zz1_48 zz1_49 zz1_50 zz1_51 zz1_52 zz1_53 zz1_54 zz1_55 zz1_56 zz1_57 zz1_58 zz1_59 zz1_60 zz1_61 zz1_62 zz1_63 zz1_64 zz1_65 zz1_66 zz1_67 zz1_68 zz1_69 zz1_70 zz1_71 zz1_72 zz1_73 zz1_74 zz1_75 zz1_76 zz1_77 zz1_78 zz1_79 zz1_80 zz1_81 zz1_82 zz1_83 zz1_84 zz1_85 zz1_86 zz1_87 zz1_88 zz1_89 zz1_90 zz1_91 zz1_92 zz1_93 zz1_94 zz1_95 zz1_96 zz1_97 zz1_98 zz1_99 zz1_100 zz1_101 zz1_102 zz1_103 zz1_104 zz1_105 zz1_106 zz1_107 zz1_108 zz1_109 zz1_110 zz1_111 zz1_112 zz1_113 zz1_114 zz1_115 zz1_116 zz1_117 zz1_118 zz1_119 zz1_120 zz1_121 zz1_122 zz1_123 zz1_124 zz1_125 zz1_126 zz1_127 zz1_128 zz1_129 zz1_130 zz1_131 zz1_132 zz1_133 zz1_134 zz1_135 zz1_136 zz1_137 zz1_138 zz1_139 zz1_140 zz1_141 zz1_142 zz1_143 zz1_144 zz1_145 zz1_146 zz1_147 zz1_148 zz1_149 zz1_150 zz1_151 zz1_152 zz1_153 zz1_154 zz1_155 zz1_156 zz1_157 zz1_158 zz1_159 zz1_160 zz1_161 zz1_162 zz1_163 zz1_164 zz1_165 zz1_166 zz1_167 zz1_168 zz1_169 zz1_170 zz1_171 zz1_172 zz1_173 zz1_174 zz1_175 zz1_176 zz1_177 zz1_178 zz1_179 x7_9 x8_9 zz2_0 kj9 HJ9 zz2_1 zz2_2 zz2_3 zz2_4 zz2_5 zz2_6 zz2_7 zz2_8 zz2_9 zz2_10 zz2_11 zz2_12 zz2_13 zz2_14 zz2_15 zz2_16 zz2_17 zz2_18 zz2_19 zz2_20 zz2_21 zz2_22 zz2_23 zz2_24 zz2_25 zz2_26 zz2_27 zz2_28 zz2_29 zz2_30 zz2_31 zz2_32 zz2_33 zz2_34 zz2_35 zz2_36 zz2_37 zz2_38 zz2_39 zz2_40 zz2_41 zz2_42 zz2_43 zz2_44 zz2_45 zz2_46 zz2_47 zz2_48 zz2_49 zz2_50 zz2_51 zz2_52 zz2_53 zz2_54 zz2_55 zz2_56 zz2_57 zz2_58 zz2_59 zz2_60 zz2_61 zz2_62 zz2_63 zz2_64 zz2_65 zz2_66 zz2_67 zz2_68 zz2_69 zz2_70 zz2_71 zz2_72 zz2_73 zz2_74 zz2_75 zz2_76 zz2_77 zz2_78 zz2_79 zz2_80 zz2_81 zz2_82 zz2_83 zz2_84 zz2_85 zz2_86 zz2_87 zz2_88 zz2_89 zz2_90 zz2_91 zz2_92 zz2_93 zz2_94 zz2_95 zz2_96 zz2_97 zz2_98 zz2_99 zz2_100 zz2_101 zz2_102 zz2_103 zz2_104 zz2_105 zz2_106 zz2_107 zz2_108 zz2_109 zz2_110 zz2_111 zz2_112 zz2_113 zz2_114 zz2_115 zz2_116 zz2_117 zz2_118 zz2_119 zz2_120 zz2_121 zz2_122 zz2_123 zz2_124 zz2_125 zz2_126 zz2_127 zz2_128 zz2_129 zz2_130 zz2_131 zz2_132 zz2_133 zz2_134 zz2_135 zz2_136 zz2_137 zz2_138 zz2_139 zz2_140 zz2_141 zz2_142 zz2_143 zz2_144 zz2_145 zz2_146 zz2_147 zz2_148 zz2_149 zz2_150 zz2_151 zz2_152 zz2_153 zz2_154 zz2_155 zz2_156 zz2_157 zz2_158 zz2_159 zz2_160 zz2_161 zz2_162 zz2_163 zz2_164 zz2_165 zz2_166 zz2_167 zz2_168 zz2_169 zz2_170 zz2_171 zz2_172 zz2_173 zz2_174 zz2_175 zz2_176 zz2_177 zz2_178 zz2_179 x9_12 x10_12 zz3_1 kj12 HJ12 zz2_180 zz2_181 zz3_2 zz3_3 zz3_4 zz3_5 zz3_6 zz3_7 zz3_8 zz3_9 zz3_10 zz3_11 zz3_12 zz3_13 zz3_14 zz3_15 zz3_16 zz3_17 zz3_18 zz3_19 zz3_20 zz3_21 zz3_22 zz3_23 zz3_24 zz3_25 zz3_26 zz3_27 zz3_28 zz3_29 zz3_30 zz3_31 zz3_32 zz3_33 zz3_34 zz3_35 zz3_36 zz3_37 zz3_38 zz3_39 zz3_40 zz3_41 zz3_42 zz3_43 zz3_44 zz3_45 zz3_46 zz3_47 zz3_48 zz3_49 zz3_50 zz3_51 zz3_52 zz3_53 zz3_54 zz3_55 zz3_56 zz3_57 zz3_58 zz3_59 zz3_60 zz3_61 zz3_62 zz3_63 zz3_64 zz3_65 zz3_66 zz3_67 zz3_68 zz3_69 zz3_70 zz3_71 zz3_72 zz3_73 zz3_74 zz3_75 zz3_76 zz3_77 zz3_78 zz3_79 zz3_80 zz3_81 zz3_82 zz3_83 zz3_84 zz3_85 zz3_86 zz3_87 zz3_88 zz3_89 zz3_90 zz3_91 zz3_92 zz3_93 zz3_94 zz3_95 zz3_96 zz3_97 zz3_98 zz3_99 zz3_100 zz3_101 zz3_102 zz3_103 zz3_104 zz3_105 zz3_106 zz3_107 zz3_108 zz3_109 zz3_110 zz3_111 zz3_112 zz3_113 zz3_114 zz3_115 zz3_116 zz3_117 zz3_118 zz3_119 zz3_120 zz3_121 zz3_122 zz3_123 zz3_124 zz3_125 zz3_126 zz3_127 zz3_128 zz3_129 zz3_130 zz3_131 zz3_132 zz3_133 zz3_134 zz3_135 zz3_136 zz3_137 zz3_138 zz3_139 zz3_140 zz3_141 zz3_142 zz3_143 zz3_144 zz3_145 zz3_146 zz3_147 zz3_148 zz3_149 zz3_150 zz3_151 zz3_152 zz3_153 zz3_154 zz3_155 zz3_156 zz3_157 zz3_158 zz3_159 zz3_160 zz3_161 zz3_162 zz3_163 zz3_164 zz3_165 zz3_166 zz3_167 zz3_168 zz3_169 zz3_170 zz3_171 zz3_172 zz3_173 zz3_174 zz3_175 zz3_176 zz3_177 zz3_178 zz3_179 x70_14 HB kj14 HJ14 HC31 wc u4 u20 u21 u22 u23 u24 u25 u26 u27 u28 u29 u30 u31 u32 u33 u34 u35 u36 u37 u38 u39 u40 u41 u42 u43 u44 u45 u46 u47 u48 u49 u50 u51 u52 u53 u54 u55 u56 u57 u58 u59 u60 u61 u62 u63 u64 u65 u66 u67 u68 u69 u70 u71 u72 u73 u74 u75 u76 u77 u78 u79 u80 u81 u82 u83 u84 u85 u86 u87 u88 u89 u90 u91 u92 u93 u94 u95 u96 u97 u98 u99 u100 u101 u102 u103 u104 u105 u106 u107 u108 u109 u110 u111 u112 u113 u114 u115 u116 u117 u118 u119 u120 u121 u122 u123 u124 u125 u128 u129 u130 u131 u132 u133 u134 u135 u136 u137 u138 u139 u140 u141 u142 u143 u144 u145 u146 u147 u148 u149 u150 u151 u152 u153 u154 u155 u156 u157 u158 u159 u160 u161 u162 u163 u164 u165 u166 u167 u168 u169 u170 u171 u172 u173 u174 u175 u176 u177 u178 u179 u180 u181 u182 u183 u184 u185 u186 u187 u188 u189 u190 u191 u192 u193 u194 u195 u196 u197 u198 u199 hcut
 clear HC31
 try clear c1
 try clear c2
 try clear p2
 try clear c3
 try clear c4
 try clear c4b0
 try clear c4b1
 try clear c6
 try clear c14
 try clear c16
 try clear c16b0
 try clear c16b1
 try clear c17
 try clear c17b0
 try clear c17b1
 try clear c17b2
 try clear c20
 try clear c20b0
 try clear c20b1
 try clear c20b2
 try clear c24
 try clear c24b0
 try clear c24b1
 try clear c32
 try clear c33
 try clear c33b0
 try clear c33b1
 try clear c34
 try clear c34b0
 try clear c34b1
 try clear c34b2
 try clear c37
 try clear c37b0
 try clear c37b1
 try clear c37b2
 try clear c40
 try clear c40b0
 try clear c40b1
 try clear c41
 try clear c42
 try clear c43
 try clear p2
 obtain ⟨kq,HA,HJ30,HB⟩:=hcut
 cases kq with
 | zero => exact absurd HA.out (by simp [laws_FnExpand.j6])
 | succ kj30 =>
  have H:=HA.out
  clear HA
  simp only [laws_FnExpand.j6] at H
  have HC48:=Aside0.mk H
  clear H
  go_upto_region 8 with (fail)
  go_cut [11] (fun v11 wc => ∃ (kq : Nat) (x11_47 : ByteArray),v11 = .string x11_47 ∧ Aside0 (laws_FnExpand.j7 kq x5_6 x6_6 x7_9 x11_47 = some r) ∧ Aside0 (kq ≤ kj30) ∧ Aside0 (Below w.heap.size w wc))
  case first =>
   have H:=HC48.out
   clear HC48
   replace H:=Option.bind_eq_some_iff.mp H
   obtain ⟨t1004,A490,H⟩:=H
   replace H : (laws_FnExpand.j7 kj30 x5_6 x6_6 x7_9 t1004) = some r:=H
   have A49:=Aside0.mk A490
   clear A490
   have H':=Aside0.mk H
   clear H
   go_wp2_with (first|((with_reducible refine gate_callee (f:=48) rfl ?_);refine goesL_ (some 98) rfl rfl Try.func48 (by kernel_rfl) rfl #[.slice A1 l1.length c1] rfl lp_ ?_;(with_reducible refine (spec_DrawDepthOf.calls kj30 _ _ l1 t1004 _ ?side1 ?side2 A49.out).mono ?_);(case side1 => repeat (first|exact (Kd.C_below HR1.out HB.out)|(with_reducible refine Kd.C_alloc ?_ _)|(with_reducible refine Kd.C_drewN ?_ _)|(with_reducible refine Kd.C_drew ?_)));(case side2 => exact HC1.out);rintro e w50 ⟨rfl,hb⟩;refine ⟨_,rfl,?_⟩;have n0_:=Aside0.mk (below_step (be0_ HB.out) hb);clear HB;have HB:=n0_;clear n0_;(try clear hb);(try clear hb2);(try clear hk);(try clear hi)))
   go_meet
   case rel => exact ⟨_,(t1004),(by first|rfl|(simp;done)|(simp [*];done)),H',⟨by have:=HJ2.out;have:=HJ4.out;have:=HJ6.out;have:=HJ9.out;have:=HJ12.out;have:=HJ14.out;have:=HJ30.out;first|omega|exact Nat.le_refl _⟩,⟨be0_ HB.out⟩⟩
  case rest =>
   clear HC48
   try clear c1
   try clear c2
   try clear p2
   try clear c3
   try clear c4
   try clear c4b0
   try clear c4b1
   try clear c6
   try clear c14
   try clear c16
   try clear c16b0
   try clear c16b1
   try clear c17
   try clear c17b0
   try clear c17b1
   try clear c17b2
   try clear c20
   try clear c20b0
   try clear c20b1
   try clear c20b2
   try clear c24
   try clear c24b0
   try clear c24b1
   try clear c32
   try clear c33
   try clear c33b0
   try clear c33b1
   try clear c34
   try clear c34b0
   try clear c34b1
   try clear c34b2
   try clear c37
   try clear c37b0
   try clear c37b1
   try clear c37b2
   try clear c40
   try clear c40b0
   try clear c40b1
   try clear c41
   try clear c42
   try clear c43
   try clear c48
   try clear p2
   obtain ⟨kq,x11_47,rfl,HA,HJ47,HB⟩:=hcut
   cases kq with
   | zero => exact absurd HA.out (by simp [laws_FnExpand.j7])
   | succ kj47 =>
    have H:=HA.out
    clear HA
    simp only [laws_FnExpand.j7] at H
    have HC51:=Aside0.mk H
    clear H
    go_upto_region 9 with (fail)
    go_cut [12,13] (fun v12 v13 wc => ∃ (kq : Nat) (x12_50 : ByteArray) (x13_50 : Bool),v12 = .string x12_50 ∧ v13 = .bool x13_50 ∧ Aside0 (laws_FnExpand.j8 kq x5_6 x6_6 x7_9 x11_47 x12_50 x13_50 = some r) ∧ Aside0 (kq ≤ kj47) ∧ Aside0 (Below w.heap.size w wc))
    case first =>
     have H:=HC51.out
     clear HC51
     replace H:=Option.bind_eq_some_iff.mp H
     obtain ⟨⟨t1005,t1006⟩,A520,H⟩:=H
     replace H : (laws_FnExpand.j8 kj47 x5_6 x6_6 x7_9 x11_47 t1005 t1006) = some r:=H
     have A52:=Aside0.mk A520
     clear A520
     have H':=Aside0.mk H
     clear H
     go_wp2_with (first|((with_reducible refine gate_callee (f:=42) rfl ?_);refine goesL_ (some 102) rfl rfl Try.func42 (by kernel_rfl) rfl #[.string x11_47,.int .i64 x6_6] rfl lp_ ?_;(with_reducible refine (impl_ExpandExpression.calls kj47 x11_47 x6_6 t1005 t1006 _ A52.out).mono ?_);rintro e w53 ⟨rfl,hb⟩;refine ⟨_,rfl,?_⟩;have n0_:=Aside0.mk (below_step (be0_ HB.out) hb);clear HB;have HB:=n0_;clear n0_;(try clear hb);(try clear hb2);(try clear hk);(try clear hi)))
     go_meet
     case rel => exact ⟨_,(t1005),(t1006),(by first|rfl|(simp;done)|(simp [*];done)),(by first|rfl|(simp;done)|(simp [*];done)),H',⟨by have:=HJ2.out;have:=HJ4.out;have:=HJ6.out;have:=HJ9.out;have:=HJ12.out;have:=HJ14.out;have:=HJ30.out;have:=HJ47.out;first|omega|exact Nat.le_refl _⟩,⟨be0_ HB.out⟩⟩
    case rest =>
     rename_i zz4_0 zz4_1 zz4_2 zz4_3 zz4_4 zz4_5 zz4_6 zz4_7 zz4_8 zz4_9 zz4_10 zz4_11 zz4_12 zz4_13 zz4_14 zz4_15 zz4_16 zz4_17 zz4_18 zz4_19 zz4_20 zz4_21 zz4_22 zz4_23 zz4_24 zz4_25 zz4_26 zz4_27 zz4_28 zz4_29 zz4_30 zz4_31 zz4_32 zz4_33 zz4_34 zz4_35 zz4_36 zz4_37 zz4_38 zz4_39 zz4_40 zz4_41 zz4_42 zz4_43 zz4_44 zz4_45 zz4_46 zz4_47 zz4_48 zz4_49 zz4_50 zz4_51 zz4_52 zz4_53 zz4_54 zz4_55 zz4_56 zz4_57 zz4_58 zz4_59 zz4_60 zz4_61 zz4_62 zz4_63 zz4_64 zz4_65 zz4_66 zz4_67 zz4_68 zz4_69 zz4_70 zz4_71 zz4_72 zz4_73 zz4_74 zz4_75 zz4_76 zz4_77 zz4_78 zz4_79 zz4_80 zz4_81 zz4_82 zz4_83 zz4_84 zz4_85 zz4_86 zz4_87 zz4_88 zz4_89 zz4_90 zz4_91 zz4_92 zz4_93 zz4_94 zz4_95 zz4_96 zz4_97 zz4_98 zz4_99 zz4_100 zz4_101 zz4_102 zz4_103 zz4_104 zz4_105 zz4_106 zz4_107 zz4_108 zz4_109 zz4_110 zz4_111 zz4_112 zz4_113 zz4_114 zz4_115 zz4_116 zz4_117 zz4_118 zz4_119 zz4_120 zz4_121 zz4_122 zz4_123 zz4_124 zz4_125 zz4_126 zz4_127 zz4_128 zz4_129 zz4_130 zz4_131 zz4_132 zz4_133 zz4_134 zz4_135 zz4_136 zz4_137 zz4_138 zz4_139 zz4_140 zz4_141 zz4_142 zz4_143 zz4_144 zz4_145 zz4_146 zz4_147 zz4_148 zz4_149 zz4_150 zz4_151 zz4_152 zz4_153 zz4_154 zz4_155 zz4_156 zz4_157 zz4_158 zz4_159 zz4_160 zz4_161 zz4_162 zz4_163 zz4_164 zz4_165 zz4_166 zz4_167 zz4_168 zz4_169 zz4_170 zz4_171 zz4_172 zz4_173 zz4_174 zz4_175 zz4_176 zz4_177 zz4_178 zz4_179 zz4_180 zz4_181 zz4_182 zz4_183 zz4_184 zz4_185 zz4_186 zz4_187 zz4_188 zz4_189 zz4_190 zz4_191 zz4_192 zz4_193 zz4_194 zz4_195 zz4_196 zz4_197 zz4_198 zz4_199 zz4_200 zz4_201 zz4_202 zz4_203 zz4_204 zz4_205 zz4_206 zz4_207 zz4_208 zz4_209 zz4_210 zz4_211 zz4_212 zz4_213 zz4_214 zz4_215 zz4_216 zz4_217 zz4_218 zz4_219 zz4_220 zz4_221 zz4_222 zz4_223 zz4_224 zz4_225 zz4_226 zz4_227 zz4_228 zz4_229 zz4_230 zz4_231 zz4_232 zz4_233 zz4_234 zz4_235 zz4_236 zz4_237 zz4_238 zz4_239 zz4_240 zz4_241 zz4_242 zz4_243 zz4_244 zz4_245 zz4_246 zz4_247 zz4_248 zz4_249 zz4_250 zz4_251 zz4_252 zz4_253 zz4_254 zz4_255 zz4_256 zz4_257 zz4_258 zz4_259 zz4_260 zz4_261 zz4_262 zz4_263 zz4_264 zz4_265 zz4_266 zz4_267 zz4_268 zz4_269 zz4_270 zz4_271 zz4_272 zz4_273 zz4_274 zz4_275 zz4_276 zz4_277 zz4_278 zz4_279 zz4_280 zz4_281 zz4_282 zz4_283 zz4_284 zz4_285 zz4_286 zz4_287 zz4_288 zz4_289 zz4_290 zz4_291 zz4_292 zz4_293 zz4_294 zz4_295 zz4_296 zz4_297 zz4_298 zz4_299 zz4_300 zz4_301 zz4_302 zz4_303 zz4_304 zz4_305 zz4_306 zz4_307 zz4_308 zz4_309 zz4_310 zz4_311 zz4_312 zz4_313 zz4_314 zz4_315 zz4_316 zz4_317 zz4_318 zz4_319 zz4_320 zz4_321 zz4_322 zz4_323 zz4_324 zz4_325 zz4_326 zz4_327 zz4_328 zz4_329 zz4_330 zz4_331 zz4_332 zz4_333 zz4_334 zz4_335 zz4_336 zz4_337 zz4_338 zz4_339 zz4_340 zz4_341 zz4_342 zz4_343 zz4_344 zz4_345 zz4_346 zz4_347 zz4_348 zz4_349 zz4_350 zz4_351 zz4_352 zz4_353 zz4_354 zz4_355 zz4_356 zz4_357 zz4_358 zz4_359 zz4_360 zz4_361
     revert HR0 HC0 HR1 HC1 zz0_0 zz0_1 zz0_2 x27_2 zz0_180 kj2 HJ2 zz0_181 zz3_0 zz0_360 kj4 HJ4 zz0_361 zz0_362 zz0_363 zz0_364 zz0_365 zz0_366 zz0_367 zz0_368 zz0_369 zz0_370 zz0_371 zz0_372 zz0_373 zz0_374 zz0_375 zz0_376 zz0_377 zz0_378 zz0_379 zz0_380 zz0_381 zz0_382 zz0_383 zz0_384 zz0_385 zz0_386 zz0_387 zz0_388 zz0_389 zz0_390 zz0_391 zz0_392 zz0_393 zz0_394 zz0_395 zz0_396 zz0_397 zz0_398 zz0_399 zz0_400 zz0_401 zz0_402 zz0_403 zz0_404 zz0_405 zz0_406 zz0_407 zz0_408 zz0_409 zz0_410 zz0_411 zz0_412 zz0_413 zz0_414 zz0_415 zz0_416 zz0_417 zz0_418 zz0_419 zz0_420 zz0_421 zz0_422 zz0_423 zz0_424 zz0_425 zz0_426 zz0_427 zz0_428 zz0_429 zz0_430 zz0_431 zz0_432 zz0_433 zz0_434 zz0_435 zz0_436 zz0_437 zz0_438 zz0_439 zz0_440 zz0_441 zz0_442 zz0_443 zz0_444 zz0_445 zz0_446 zz0_447 zz0_448 zz0_449 zz0_450 zz0_451 zz0_452 zz0_453 zz0_454 zz0_455 zz0_456 zz0_457 zz0_458 zz0_459 zz0_460 zz0_461 zz0_462 zz0_463 zz0_464 zz0_465 zz0_466 zz0_467 zz0_468 zz0_469 zz0_470 zz0_471 zz0_472 zz0_473 zz0_474 zz0_475 zz0_476 zz0_477 zz0_478 zz0_479 zz0_480 zz0_481 zz0_482 zz0_483 zz0_484 zz0_485 zz0_486 zz0_487 zz0_488 zz0_489 zz0_490 zz0_491 zz0_492 zz0_493 zz0_494 zz0_495 zz0_496 zz0_497 zz0_498 zz0_499 zz0_500 zz0_501 zz0_502 zz0_503 zz0_504 zz0_505 zz0_506 zz0_507 zz0_508 zz0_509 zz0_510 zz0_511 zz0_512 zz0_513 zz0_514 zz0_515 zz0_516 zz0_517 zz0_518 zz0_519 zz0_520 zz0_521 zz0_522 zz0_523 zz0_524 zz0_525 zz0_526 zz0_527 zz0_528 zz0_529 zz0_530 zz0_531 zz0_532 zz0_533 zz0_534 zz0_535 zz0_536 zz0_537 zz0_538 zz0_539 x5_6 x6_6 zz1_0 kj6 HJ6 zz1_1 zz1_2 zz1_3 zz1_4 zz1_5 zz1_6 zz1_7 zz1_8 zz1_9 zz1_10 zz1_11 zz1_12 zz1_13 zz1_14 zz1_15 zz1_16 zz1_17 zz1_18 zz1_19 zz1_20 zz1_21 zz1_22 zz1_23 zz1_24 zz1_25 zz1_26 zz1_27 zz1_28 zz1_29 zz1_30 zz1_31 zz1_32 zz1_33 zz1_34 zz1_35 zz1_36 zz1_37 zz1_38 zz1_39 zz1_40 zz1_41 zz1_42 zz1_43 zz1_44 zz1_45 zz1_46 zz1_47 zz1_48 zz1_49 zz1_50 zz1_51 zz1_52 zz1_53 zz1_54 zz1_55 zz1_56 zz1_57 zz1_58 zz1_59 zz1_60 zz1_61 zz1_62 zz1_63 zz1_64 zz1_65 zz1_66 zz1_67 zz1_68 zz1_69 zz1_70 zz1_71 zz1_72 zz1_73 zz1_74 zz1_75 zz1_76 zz1_77 zz1_78 zz1_79 zz1_80 zz1_81 zz1_82 zz1_83 zz1_84 zz1_85 zz1_86 zz1_87 zz1_88 zz1_89 zz1_90 zz1_91 zz1_92 zz1_93 zz1_94 zz1_95 zz1_96 zz1_97 zz1_98 zz1_99 zz1_100 zz1_101 zz1_102 zz1_103 zz1_104 zz1_105 zz1_106 zz1_107 zz1_108 zz1_109 zz1_110 zz1_111 zz1_112 zz1_113 zz1_114 zz1_115 zz1_116 zz1_117 zz1_118 zz1_119 zz1_120 zz1_121 zz1_122 zz1_123 zz1_124 zz1_125 zz1_126 zz1_127 zz1_128 zz1_129 zz1_130 zz1_131 zz1_132 zz1_133 zz1_134 zz1_135 zz1_136 zz1_137 zz1_138 zz1_139 zz1_140 zz1_141 zz1_142 zz1_143 zz1_144 zz1_145 zz1_146 zz1_147 zz1_148 zz1_149 zz1_150 zz1_151 zz1_152 zz1_153 zz1_154 zz1_155 zz1_156 zz1_157 zz1_158 zz1_159 zz1_160 zz1_161 zz1_162 zz1_163 zz1_164 zz1_165 zz1_166 zz1_167 zz1_168 zz1_169 zz1_170 zz1_171 zz1_172 zz1_173 zz1_174 zz1_175 zz1_176 zz1_177 zz1_178 zz1_179 x7_9 x8_9 zz2_0 kj9 HJ9 zz2_1 zz2_2 zz2_3 zz2_4 zz2_5 zz2_6 zz2_7 zz2_8 zz2_9 zz2_10 zz2_11 zz2_12 zz2_13 zz2_14 zz2_15 zz2_16 zz2_17 zz2_18 zz2_19 zz2_20 zz2_21 zz2_22 zz2_23 zz2_24 zz2_25 zz2_26 zz2_27 zz2_28 zz2_29 zz2_30 zz2_31 zz2_32 zz2_33 zz2_34 zz2_35 zz2_36 zz2_37 zz2_38 zz2_39 zz2_40 zz2_41 zz2_42 zz2_43 zz2_44 zz2_45 zz2_46 zz2_47 zz2_48 zz2_49 zz2_50 zz2_51 zz2_52 zz2_53 zz2_54 zz2_55 zz2_56 zz2_57 zz2_58 zz2_59 zz2_60 zz2_61 zz2_62 zz2_63 zz2_64 zz2_65 zz2_66 zz2_67 zz2_68 zz2_69 zz2_70 zz2_71 zz2_72 zz2_73 zz2_74 zz2_75 zz2_76 zz2_77 zz2_78 zz2_79 zz2_80 zz2_81 zz2_82 zz2_83 zz2_84 zz2_85 zz2_86 zz2_87 zz2_88 zz2_89 zz2_90 zz2_91 zz2_92 zz2_93 zz2_94 zz2_95 zz2_96 zz2_97 zz2_98 zz2_99 zz2_100 zz2_101 zz2_102 zz2_103 zz2_104 zz2_105 zz2_106 zz2_107 zz2_108 zz2_109 zz2_110 zz2_111 zz2_112 zz2_113 zz2_114 zz2_115 zz2_116 zz2_117 zz2_118 zz2_119 zz2_120 zz2_121 zz2_122 zz2_123 zz2_124 zz2_125 zz2_126 zz2_127 zz2_128 zz2_129 zz2_130 zz2_131 zz2_132 zz2_133 zz2_134 zz2_135 zz2_136 zz2_137 zz2_138 zz2_139 zz2_140 zz2_141 zz2_142 zz2_143 zz2_144 zz2_145 zz2_146 zz2_147 zz2_148 zz2_149 zz2_150 zz2_151 zz2_152 zz2_153 zz2_154 zz2_155 zz2_156 zz2_157 zz2_158 zz2_159 zz2_160 zz2_161 zz2_162 zz2_163 zz2_164 zz2_165 zz2_166 zz2_167 zz2_168 zz2_169 zz2_170 zz2_171 zz2_172 zz2_173 zz2_174 zz2_175 zz2_176 zz2_177 zz2_178 zz2_179 x9_12 x10_12 zz3_1 kj12 HJ12 zz3_2 zz3_3 zz3_4 zz3_5 zz3_6 zz3_7 zz3_8 zz3_9 zz3_10 zz3_11 zz3_12 zz3_13 zz3_14 zz3_15 zz3_16 zz3_17 zz3_18 zz3_19 zz3_20 zz3_21 zz3_22 zz3_23 zz3_24 zz3_25 zz3_26 zz3_27 zz3_28 zz3_29 zz3_30 zz3_31 zz3_32 zz3_33 zz3_34 zz3_35 zz3_36 zz3_37 zz3_38 zz3_39 zz3_40 zz3_41 zz3_42 zz3_43 zz3_44 zz3_45 zz3_46 zz3_47 zz3_48 zz3_49 zz3_50 zz3_51 zz3_52 zz3_53 zz3_54 zz3_55 zz3_56 zz3_57 zz3_58 zz3_59 zz3_60 zz3_61 zz3_62 zz3_63 zz3_64 zz3_65 zz3_66 zz3_67 zz3_68 zz3_69 zz3_70 zz3_71 zz3_72 zz3_73 zz3_74 zz3_75 zz3_76 zz3_77 zz3_78 zz3_79 zz3_80 zz3_81 zz3_82 zz3_83 zz3_84 zz3_85 zz3_86 zz3_87 zz3_88 zz3_89 zz3_90 zz3_91 zz3_92 zz3_93 zz3_94 zz3_95 zz3_96 zz3_97 zz3_98 zz3_99 zz3_100 zz3_101 zz3_102 zz3_103 zz3_104 zz3_105 zz3_106 zz3_107 zz3_108 zz3_109 zz3_110 zz3_111 zz3_112 zz3_113 zz3_114 zz3_115 zz3_116 zz3_117 zz3_118 zz3_119 zz3_120 zz3_121 zz3_122 zz3_123 zz3_124 zz3_125 zz3_126 zz3_127 zz3_128 zz3_129 zz3_130 zz3_131 zz3_132 zz3_133 zz3_134 zz3_135 zz3_136 zz3_137 zz3_138 zz3_139 zz3_140 zz3_141 zz3_142 zz3_143 zz3_144 zz3_145 zz3_146 zz3_147 zz3_148 zz3_149 zz3_150 zz3_151 zz3_152 zz3_153 zz3_154 zz3_155 zz3_156 zz3_157 zz3_158 zz3_159 zz3_160 zz3_161 zz3_162 zz3_163 zz3_164 zz3_165 zz3_166 zz3_167 zz3_168 zz3_169 zz3_170 zz3_171 zz3_172 zz3_173 zz3_174 zz3_175 zz3_176 zz3_177 zz3_178 zz3_179 x70_14 zz4_0 kj14 HJ14 zz4_1 u4 zz4_180 kj30 HJ30 zz4_181 zz4_182 zz4_183 zz4_184 zz4_185 zz4_186 zz4_187 zz4_188 zz4_189 zz4_190 zz4_191 zz4_192 zz4_193 zz4_194 zz4_195 zz4_196 zz4_197 zz4_198 zz4_199 zz4_200 zz4_201 zz4_202 zz4_203 zz4_204 zz4_205 zz4_206 zz4_207 zz4_208 zz4_209 zz4_210 zz4_211 zz4_212 zz4_213 zz4_214 zz4_215 zz4_216 zz4_217 zz4_218 zz4_219 zz4_220 zz4_221 zz4_222 zz4_223 zz4_224 zz4_225 zz4_226 zz4_227 zz4_228 zz4_229 zz4_230 zz4_231 zz4_232 zz4_233 zz4_234 zz4_235 zz4_236 zz4_237 zz4_238 zz4_239 zz4_240 zz4_241 zz4_242 zz4_243 zz4_244 zz4_245 zz4_246 zz4_247 zz4_248 zz4_249 zz4_250 zz4_251 zz4_252 zz4_253 zz4_254 zz4_255 zz4_256 zz4_257 zz4_258 zz4_259 zz4_260 zz4_261 zz4_262 zz4_263 zz4_264 zz4_265 zz4_266 zz4_267 zz4_268 zz4_269 zz4_270 zz4_271 zz4_272 zz4_273 zz4_274 zz4_275 zz4_276 zz4_277 zz4_278 zz4_279 zz4_280 zz4_281 zz4_282 zz4_283 zz4_284 zz4_285 zz4_286 zz4_287 zz4_288 zz4_289 zz4_290 zz4_291 zz4_292 zz4_293 zz4_294 zz4_295 zz4_296 zz4_297 zz4_298 zz4_299 zz4_300 zz4_301 zz4_302 zz4_303 zz4_304 zz4_305 zz4_306 zz4_307 zz4_308 zz4_309 zz4_310 zz4_311 zz4_312 zz4_313 zz4_314 zz4_315 zz4_316 zz4_317 zz4_318 zz4_319 zz4_320 zz4_321 zz4_322 zz4_323 zz4_324 zz4_325 zz4_326 zz4_327 zz4_328 zz4_329 zz4_330 zz4_331 zz4_332 zz4_333 zz4_334 zz4_335 zz4_336 zz4_337 zz4_338 zz4_339 zz4_340 zz4_341 zz4_342 zz4_343 zz4_344 zz4_345 zz4_346 zz4_347 zz4_348 zz4_349 zz4_350 zz4_351 zz4_352 zz4_353 zz4_354 zz4_355 zz4_356 zz4_357 zz4_358 zz4_359 x11_47 HB kj47 HJ47 HC51 zz4_360 zz4_361 wc u12 u13 u20 u21 u22 u23 u24 u25 u26 u27 u28 u29 u30 u31 u32 u33 u34 u35 u36 u37 u38 u39 u40 u41 u42 u43 u44 u45 u46 u47 u48 u49 u50 u51 u52 u53 u54 u55 u56 u57 u58 u59 u60 u61 u62 u63 u64 u65 u66 u67 u68 u69 u70 u71 u72 u73 u74 u75 u76 u77 u78 u79 u80 u81 u82 u83 u84 u85 u86 u87 u88 u89 u90 u91 u92 u93 u94 u95 u96 u97 u98 u99 u100 u101 u102 u103 u104 u105 u106 u107 u108 u109 u110 u111 u112 u113 u114 u115 u116 u117 u118 u119 u120 u121 u122 u123 u124 u125 u128 u129 u130 u131 u132 u133 u134 u135 u136 u137 u138 u139 u140 u141 u142 u143 u144 u145 u146 u147 u148 u149 u150 u151 u152 u153 u154 u155 u156 u157 u158 u159 u160 u161 u162 u163 u164 u165 u166 u167 u168 u169 u170 u171 u172 u173 u174 u175 u176 u177 u178 u179 u180 u181 u182 u183 u184 u185 u186 u187 u188 u189 u190 u191 u192 u193 u194 u195 u196 u197 u198 u199 hcut
     exact hG_4.out⟩
end Go.Proofs.Ytengegdaiphfeaa.X
end
