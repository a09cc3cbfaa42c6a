import Derived.Test.YtfmbpoojpnoafaaKFnExactWordMatrix1
import Derived.Test.YtfmbpoojpnoafaaKFnExactWordMatrix4
section
namespace Go.Proofs.Ytfmbpoojpnoafaa.X
open Go.RowKit Go.Proofs.YtfmbpoojpnoafaaW.PrintWords Go.Proofs.YtfmbpoojpnoafaaW.PrintLast Go.Proofs.YtfmbpoojpnoafaaW.PrintMore
attribute [local go_sem] max2_int min2_int max_two min_two max_three min_three max_four min_four
set_option linter.unusedVariables false
set_option linter.unusedSimpArgs false
def spec_l4Matrix.l0 : Nat → ByteArray → Int → Int → Int → List Int → Int → List Int → Int → List Int → Option (Int × List Int)
 | 0,_,_,_,_,_,_,_,_,_ => none
 | k + 1,x1,x17,x18,x328000,x328001,x337000,x337001,x338000,x338001 => if x18 < x17 then (if 0 ≤ x18 then (if x18 < (x1.size : Int) then (if (bt x1 x18) = 97 then ((spec_l2Mul.f k x328000 x328001 x337000 x337001).bind fun bt338 => (spec_l4Matrix.l0 k x1 x17 (wrap64 (x18 + 1)) bt338.1 bt338.2 x337000 x337001 x338000 x338001)) else ((spec_l2Mul.f k x328000 x328001 x338000 x338001).bind fun bt342 => (spec_l4Matrix.l0 k x1 x17 (wrap64 (x18 + 1)) bt342.1 bt342.2 x337000 x337001 x338000 x338001))) else (none)) else (none)) else (some (x328000,x328001))
def spec_l4Matrix.f (k : Nat) (a0_0 : Int) (l0_1 : List Int) (l0_2 : List Int) (l0_3 : List (S92)) (a1 : ByteArray) : Option (Int × List Int):=(spec_l2Unit.f k a0_0).bind fun bt323 => ((spec_l3Matrix.f k a0_0 l0_1 l0_2 l0_3 (⟨#[97]⟩ : ByteArray)).bind fun bt328 => ((spec_l3Matrix.f k a0_0 l0_1 l0_2 l0_3 (⟨#[98]⟩ : ByteArray)).bind fun bt332 => (spec_l4Matrix.l0 k a1 (a1.size : Int) 0 bt323.1 bt323.2 bt328.1 bt328.2 bt332.1 bt332.2)))
theorem spec_l4Matrix.mono_l : ∀ k,(∀ y0 y1 y2 y3 y4 y5 y6 y7 y8,LeO (spec_l4Matrix.l0 k y0 y1 y2 y3 y4 y5 y6 y7 y8) (spec_l4Matrix.l0 (k + 1) y0 y1 y2 y3 y4 y5 y6 y7 y8))
 | 0 => fun _ _ _ _ _ _ _ _ _ r h => by simp [spec_l4Matrix.l0] at h
 | k + 1 => by
  have ih0:=spec_l4Matrix.mono_l k
  ·intro y0 y1 y2 y3 y4 y5 y6 y7 y8
   unfold spec_l4Matrix.l0
   repeat' first
   | (with_reducible exact ih0 _ _ _ _ _ _ _ _ _)
   | (with_reducible exact spec_l2Mul.mono _ _ _ _ _)
   | (with_reducible exact spec_l2Unit.mono _ _)
   | (with_reducible exact spec_l3Matrix.mono _ _ _ _ _ _)
   | (with_reducible exact LeO.refl _)
   | (with_reducible exact LeO.none _)
   | (with_reducible refine LeO.ite ?_ ?_)
   | (with_reducible refine LeO.bind ?_ (fun _ => ?_))
   | exact ih0 _ _ _ _ _ _ _ _ _
   | exact spec_l2Mul.mono _ _ _ _ _
   | exact spec_l2Unit.mono _ _
   | exact spec_l3Matrix.mono _ _ _ _ _ _
   | exact LeO.none _
   | refine LeO.ite ?_ ?_
   | refine LeO.bind ?_ (fun _ => ?_)
theorem spec_l4Matrix.mono : ∀ a0 a1 a2 a3 a4 k,LeO (spec_l4Matrix.f k a0 a1 a2 a3 a4) (spec_l4Matrix.f (k + 1) a0 a1 a2 a3 a4):=by
 intro a0 a1 a2 a3 a4 k
 have ih0:=spec_l4Matrix.mono_l k
 unfold spec_l4Matrix.f
 repeat' first
   | (with_reducible exact ih0 _ _ _ _ _ _ _ _ _)
   | (with_reducible exact spec_l2Mul.mono _ _ _ _ _)
   | (with_reducible exact spec_l2Unit.mono _ _)
   | (with_reducible exact spec_l3Matrix.mono _ _ _ _ _ _)
   | (with_reducible exact LeO.refl _)
   | (with_reducible exact LeO.none _)
   | (with_reducible refine LeO.ite ?_ ?_)
   | (with_reducible refine LeO.bind ?_ (fun _ => ?_))
   | exact ih0 _ _ _ _ _ _ _ _ _
   | exact spec_l2Mul.mono _ _ _ _ _
   | exact spec_l2Unit.mono _ _
   | exact spec_l3Matrix.mono _ _ _ _ _ _
   | exact LeO.none _
   | refine LeO.ite ?_ ?_
   | refine LeO.bind ?_ (fun _ => ?_)
def spec_l4Matrix.T2 : Bool × List (List Nat × List Nat):=(true,[([],[]),([0],[0]),([],[]),([2,1],[2]),([],[]),([],[]),([4,1,3,0,1,4,5],[1,4]),([5,3,6,0,1,2,3,4,5,6],[3,5])])
def spec_l4Matrix.B2 : List Nat:=[0,1,0,7,0,0,63,127]
theorem spec_l4Matrix.tab2 : rtab .any (opsOf Try.f77 2) = spec_l4Matrix.T2:=by kernel_rfl
theorem spec_l4Matrix.bits2 : waitsOk spec_l4Matrix.T2.2 spec_l4Matrix.B2 = true:=by kernel_rfl
set_option maxHeartbeats 8000000 in
set_option maxRecDepth 100000 in
theorem spec_l4Matrix.calls (k : Nat) (a0_0 : Int) (A0_1 : Option Addr) (c0_1 : Nat) (l0_1 : List Int) (A0_2 : Option Addr) (c0_2 : Nat) (l0_2 : List Int) (A0_3 : Option Addr) (c0_3 : Nat) (l0_3 : List (S92)) (a1 : ByteArray) (r1 : Int) (r2 : List Int) (w : World) (hr0_1 : Kd.C (Kd.int .i64) w A0_1 l0_1.length l0_1) (hc0_1 : l0_1.length ≤ c0_1) (hr0_2 : Kd.C (Kd.int .i64) w A0_2 l0_2.length l0_2) (hc0_2 : l0_2.length ≤ c0_2) (hr0_3 : Kd.C k92 w A0_3 l0_3.length l0_3) (hc0_3 : l0_3.length ≤ c0_3) (h : spec_l4Matrix.f k a0_0 l0_1 l0_2 l0_3 a1 = some (r1,r2)) :
  Calls Try.prog 77 #[.agg #[.int .i64 a0_0,.slice A0_1 l0_1.length c0_1,.slice A0_2 l0_2.length c0_2,.slice A0_3 l0_3.length c0_3],.string a1] w fun e w' => ∃ v1_ : Value,e = .returned (.agg #[.int .i64 r1,v1_]) ∧ Kd.R (Kd.int .i64) 3 w' w.heap.size (fun _ => True) v1_ r2 ∧ Below w.heap.size w w':=by
 have hu33:=Try.underlying33
 have hu35:=Try.underlying35
 have HR0_1:=Aside0.mk hr0_1
 have HC0_1:=Aside0.mk hc0_1
 clear hr0_1 hc0_1
 have HR0_2:=Aside0.mk hr0_2
 have HC0_2:=Aside0.mk hc0_2
 clear hr0_2 hc0_2
 have HR0_3:=Aside0.mk hr0_3
 have HC0_3:=Aside0.mk hc0_3
 clear hr0_3 hc0_3
 have HB:=Aside0.mk (Below.refl w.heap.size w)
 have H : ((spec_l2Unit.f k a0_0).bind fun bt323 => ((spec_l3Matrix.f k a0_0 l0_1 l0_2 l0_3 (⟨#[97]⟩ : ByteArray)).bind fun bt328 => ((spec_l3Matrix.f k a0_0 l0_1 l0_2 l0_3 (⟨#[98]⟩ : ByteArray)).bind fun bt332 => (spec_l4Matrix.l0 k a1 (a1.size : Int) 0 bt323.1 bt323.2 bt328.1 bt328.2 bt332.1 bt332.2)))) = some (r1,r2):=h
 clear h
 replace H:=Option.bind_eq_some_iff.mp H
 obtain ⟨⟨t323,t324⟩,A30,H⟩:=H
 replace H : ((spec_l3Matrix.f k a0_0 l0_1 l0_2 l0_3 (⟨#[97]⟩ : ByteArray)).bind fun bt328 => ((spec_l3Matrix.f k a0_0 l0_1 l0_2 l0_3 (⟨#[98]⟩ : ByteArray)).bind fun bt332 => (spec_l4Matrix.l0 k a1 (a1.size : Int) 0 t323 t324 bt328.1 bt328.2 bt332.1 bt332.2))) = some (r1,r2):=H
 have A3:=Aside0.mk A30
 clear A30
 replace H:=Option.bind_eq_some_iff.mp H
 obtain ⟨⟨t328,t329⟩,A40,H⟩:=H
 replace H : ((spec_l3Matrix.f k a0_0 l0_1 l0_2 l0_3 (⟨#[98]⟩ : ByteArray)).bind fun bt332 => (spec_l4Matrix.l0 k a1 (a1.size : Int) 0 t323 t324 t328 t329 bt332.1 bt332.2)) = some (r1,r2):=H
 have A4:=Aside0.mk A40
 clear A40
 replace H:=Option.bind_eq_some_iff.mp H
 obtain ⟨⟨t332,t333⟩,A50,H⟩:=H
 replace H : (spec_l4Matrix.l0 k a1 (a1.size : Int) 0 t323 t324 t328 t329 t332 t333) = some (r1,r2):=H
 have A5:=Aside0.mk A50
 clear A50
 have H':=Aside0.mk H
 clear H
 go_enter Try.func77,Try.ntmps77
 try go_wp2_with (first|((with_reducible refine bev_ (N:=2) rfl rfl (cs:=#[.int .i64 a0_0,.slice A0_1 l0_1.length c0_1,.slice A0_2 l0_2.length c0_2,.slice A0_3 l0_3.length c0_3]) (t:=33) ?hr ?_);(case hr => first|(go_simp;done)|(go_simp;rfl));intro gb321 hg w6 hbox hb;have BK321:=Aside0.mk (hbox);have GW321:=Aside0.mk (szg_ hg (below_size (be0_ HB.out)));have GE321:=Aside0.mk (szg_ hg (below_size (be0_ HB.out)));replace HB:=Aside0.mk (below_step (be0_ HB.out) hb);clear hb hbox hg)|((with_reducible refine bev_ (N:=4) rfl rfl (cs:=#[.int .i64 0,.slice none 0 0]) (t:=35) ?hr ?_);(case hr => first|(go_simp;done)|(go_simp;rfl));intro gb322 hg w7 hbox hb;have BK322:=Aside0.mk (hbox);have GW322:=Aside0.mk (szg_ hg (below_size (be1_ HB.out GE321.out)));have GE322:=Aside0.mk (szg_ hg (below_size (be1_ HB.out GE321.out)));replace HB:=Aside0.mk (below_step (be1_ HB.out GE321.out) hb);have NB321_322:=Aside0.mk (nl_ hg BK321.out);have NB322_321:=Aside0.mk (ng_ hg BK321.out);replace BK321:=Aside0.mk (kb_ BK321.out hb);clear hb hbox hg;have hnb8:=NB321_322.out;have hnc8:=NB322_321.out;obtain ⟨hcz9_0,hcz9_1,hcz9_2,hcz9_3,hfz9_0,hfz9_1,hfz9_2,hfz9_3⟩:=cf4_ BK321.out)|((with_reducible refine gate_callee (f:=131) rfl ?_);refine goesL_ (some 11) rfl rfl Try.func131 (by kernel_rfl) rfl #[.int .i64 a0_0] rfl lp_ ?_;(with_reducible refine (spec_l2Unit.calls k a0_0 t323 t324 _ A3.out).mono ?_);rintro e w10 ⟨v325,rfl,ho0,hb⟩;refine ⟨_,rfl,?_⟩;have HO326:=Aside0.mk (Kd.R_lower ho0 (below_size (be2_ HB.out GE321.out GE322.out)));replace BK321:=Aside0.mk (kb_ BK321.out hb);replace BK322:=Aside0.mk (kb_ BK322.out hb);replace HB:=Aside0.mk (below_step (be2_ HB.out GE321.out GE322.out) hb);(try clear hb);(try clear hb2);(try clear hk);(try clear hi);(try clear ho0))|((with_reducible refine bev_ (N:=5) rfl rfl (cs:=#[.int .i64 0,.slice none 0 0]) (t:=35) ?hr ?_);(case hr => first|(go_simp;done)|(go_simp;rfl));intro gb327 hg w11 hbox hb;replace HO326:=Aside0.mk (Kd.R_below (pr_ HO326.out) hb);have BK327:=Aside0.mk (hbox);have GW327:=Aside0.mk (szg_ hg (below_size (be2_ HB.out GE321.out GE322.out)));have GE327:=Aside0.mk (szg_ hg (below_size (be2_ HB.out GE321.out GE322.out)));replace HB:=Aside0.mk (below_step (be2_ HB.out GE321.out GE322.out) hb);have NB321_327:=Aside0.mk (nl_ hg BK321.out);have NB327_321:=Aside0.mk (ng_ hg BK321.out);replace BK321:=Aside0.mk (kb_ BK321.out hb);have NB322_327:=Aside0.mk (nl_ hg BK322.out);have NB327_322:=Aside0.mk (ng_ hg BK322.out);replace BK322:=Aside0.mk (kb_ BK322.out hb);clear hb hbox hg;have hnb12:=NB327_321.out;have hnc12:=NB321_327.out;have hnb13:=NB327_322.out;have hnc13:=NB322_327.out;obtain ⟨hcz14_0,hcz14_1,hfz14_0,hfz14_1⟩:=cf2_ BK327.out;obtain ⟨Ao15,co15,eo15⟩:=Kd.R_slice HO326.out;subst eo15))
 have n0_ : Aside0 (Kd.R (Kd.int .i64) 3 ((w11.setCell ⟨gb327,0,none⟩ (.int .i64 t323)).setCell ⟨gb327,1,none⟩ (.slice Ao15 t324.length co15)) w.heap.size (fun _ => True) (.slice Ao15 t324.length co15) t324):=⟨by refine pr_ ?_;exact Kd.R_mono (Kd.R_far (p:=⟨gb327,1,none⟩) (Kd.R_far (p:=⟨gb327,0,none⟩) (Kd.R_types HO326.out BK327.out (by decide)) (fun _ hk => hk.2) (.int .i64 t323)) (fun _ hk => hk.2) (.slice Ao15 t324.length co15)) (fun _ hk => trivial)⟩
 have n1_ : Aside0 (((w11.setCell ⟨gb327,0,none⟩ (.int .i64 t323)).setCell ⟨gb327,1,none⟩ (.slice Ao15 t324.length co15)).heap[gb321]? = some (.cells #[.int .i64 a0_0,.slice A0_1 l0_1.length c0_1,.slice A0_2 l0_2.length c0_2,.slice A0_3 l0_3.length c0_3] 33 (0,0))):=⟨by refine pe_ ?_;refine blk_far ?_ NB321_327.out _;refine pe_ ?_;refine blk_far ?_ NB321_327.out _;refine pe_ ?_;exact BK321.out⟩
 have n2_ : Aside0 (((w11.setCell ⟨gb327,0,none⟩ (.int .i64 t323)).setCell ⟨gb327,1,none⟩ (.slice Ao15 t324.length co15)).heap[gb322]? = some (.cells #[.int .i64 0,.slice none 0 0] 35 (0,0))):=⟨by refine pe_ ?_;refine blk_far ?_ NB322_327.out _;refine pe_ ?_;refine blk_far ?_ NB322_327.out _;refine pe_ ?_;exact BK322.out⟩
 have n3_ : Aside0 (((w11.setCell ⟨gb327,0,none⟩ (.int .i64 t323)).setCell ⟨gb327,1,none⟩ (.slice Ao15 t324.length co15)).heap[gb327]? = some (.cells #[.int .i64 t323,.slice Ao15 t324.length co15] 35 (0,0))):=⟨by refine pe_ ?_;refine blk_put (cs:=#[.int .i64 t323,.slice none 0 0]) ?_ 1 _ rfl;refine pe_ ?_;refine blk_put (cs:=#[.int .i64 0,.slice none 0 0]) ?_ 0 _ rfl;refine pe_ ?_;exact BK327.out⟩
 have n4_ : Aside0 (Below w.heap.size w ((w11.setCell ⟨gb327,0,none⟩ (.int .i64 t323)).setCell ⟨gb327,1,none⟩ (.slice Ao15 t324.length co15))):=⟨be3_ HB.out GE321.out GE322.out GE327.out⟩
 (try clear HO326)
 (try clear BK321)
 (try clear BK322)
 (try clear BK327)
 (try clear HB)
 generalize ((w11.setCell ⟨gb327,0,none⟩ (.int .i64 t323)).setCell ⟨gb327,1,none⟩ (.slice Ao15 t324.length co15)) = w16 at n0_ n1_ n2_ n3_ n4_ ⊢
 have HO326:=n0_
 have BK321:=n1_
 have BK322:=n2_
 have BK327:=n3_
 have HB:=n4_
 clear n0_ n1_ n2_ n3_ n4_
 replace HO326:=Aside0.mk (Kd.R_drew HO326.out)
 replace BK321:=Aside0.mk (blk_drew BK321.out)
 replace BK322:=Aside0.mk (blk_drew BK322.out)
 replace BK327:=Aside0.mk (blk_drew BK327.out)
 replace HB:=Aside0.mk (below_drew1 HB.out)
 refine start_ (n:=8) (S:=fun w' => w'.cell? ⟨gb321,0,none⟩ = some (.int .i64 a0_0) ∧ w'.cell? ⟨gb321,1,none⟩ = some (.slice A0_1 l0_1.length c0_1) ∧ w'.cell? ⟨gb321,2,none⟩ = some (.slice A0_2 l0_2.length c0_2) ∧ w'.cell? ⟨gb321,3,none⟩ = some (.slice A0_3 l0_3.length c0_3)) (ds:=[]) #[false,false,false,false,false,false,false,false] (by kernel_rfl) rfl rfl ⟨(blk_cell BK321.out 0).trans rfl,(blk_cell BK321.out 1).trans rfl,(blk_cell BK321.out 2).trans rfl,(blk_cell BK321.out 3).trans rfl⟩ (fun hHeld => ?_);refine with_tabW spec_l4Matrix.tab2 spec_l4Matrix.bits2 (fun HT_ HW_ => ?_)
 generalize w16.drew = w17 at HO326 BK321 BK322 BK327 HB hHeld ⊢
 refine take_ (i:=0) (N:=some 12) (v:=?_) (a':=?_) #[true,false,false,false,false,false,false,false] rfl rfl (take_ofW HT_.out HW_.out (by kernel_rfl)) (fun _ _ _ h => h) (Or.inl ⟨by rfl,?_⟩) hHeld ?_ ?_
 rotate_left
 ·rintro w' ⟨s0,s1,s2,s3⟩
  go_simp
  with_reducible rfl
 rotate_left
 ·simp only [Act.put,List.setIfInBounds_toArray,List.set_cons_zero,List.set_cons_succ,i64_w,i32_w]
  rfl
 refine take_ (i:=2) (N:=some 14) (v:=?_) (a':=?_) #[true,false,true,false,false,false,false,false] rfl rfl (take_ofW HT_.out HW_.out (by kernel_rfl)) (fun _ _ _ h => h) (Or.inl ⟨by rfl,?_⟩) hHeld ?_ ?_
 rotate_left
 ·rintro w' ⟨s0,s1,s2,s3⟩
  go_simp
  with_reducible rfl
 rotate_left
 ·simp only [Act.put,List.setIfInBounds_toArray,List.set_cons_zero,List.set_cons_succ,i64_w,i32_w]
  rfl
 refine join_ (σ:=Value × Value × Nat × Nat) 2 #[true,true,true,true,true,true,false,false] (fun s_ => [(13,.agg #[.int .i64 t328,s_.1]),(15,.agg #[.int .i64 t332,s_.2.1]),(6,.pointer (some ⟨s_.2.2.1,0,none⟩)),(7,.pointer (some ⟨s_.2.2.2,0,none⟩))]) (fun s_ w' => (w'.cell? ⟨gb321,0,none⟩ = some (.int .i64 a0_0) ∧ w'.cell? ⟨gb321,1,none⟩ = some (.slice A0_1 l0_1.length c0_1) ∧ w'.cell? ⟨gb321,2,none⟩ = some (.slice A0_2 l0_2.length c0_2) ∧ w'.cell? ⟨gb321,3,none⟩ = some (.slice A0_3 l0_3.length c0_3)) ∧ (Kd.R (Kd.int .i64) 3 w' w.heap.size (fun k_ => some k_ ≠ (s_.1 : Value).ownBlock ∧ some k_ ≠ (s_.2.1 : Value).ownBlock) (.slice Ao15 t324.length co15) t324) ∧ (Kd.R (Kd.int .i64) 3 w' w.heap.size (fun k_ => some k_ ≠ (.slice Ao15 t324.length co15 : Value).ownBlock ∧ some k_ ≠ (s_.2.1 : Value).ownBlock) s_.1 t329) ∧ (Kd.R (Kd.int .i64) 3 w' w.heap.size (fun k_ => some k_ ≠ (.slice Ao15 t324.length co15 : Value).ownBlock ∧ some k_ ≠ (s_.1 : Value).ownBlock) s_.2.1 t333) ∧ (w'.heap[gb321]? = some (.cells #[.int .i64 a0_0,.slice A0_1 l0_1.length c0_1,.slice A0_2 l0_2.length c0_2,.slice A0_3 l0_3.length c0_3] 33 (0,0))) ∧ (w'.heap[gb322]? = some (.cells #[.int .i64 0,.slice none 0 0] 35 (0,0))) ∧ (w'.heap[gb327]? = some (.cells #[.int .i64 t323,.slice Ao15 t324.length co15] 35 (0,0))) ∧ (w'.heap[s_.2.2.1]? = some (.cells #[.int .i64 0,.slice none 0 0] 35 (0,0))) ∧ (w'.heap[s_.2.2.2]? = some (.cells #[.int .i64 0,.slice none 0 0] 35 (0,0))) ∧ (w.heap.size ≤ s_.2.2.1) ∧ (w.heap.size ≤ s_.2.2.1) ∧ (gb321 ≠ s_.2.2.1) ∧ (s_.2.2.1 ≠ gb321) ∧ (gb322 ≠ s_.2.2.1) ∧ (s_.2.2.1 ≠ gb322) ∧ (gb327 ≠ s_.2.2.1) ∧ (s_.2.2.1 ≠ gb327) ∧ (s_.2.2.2 ≠ s_.2.2.1) ∧ (s_.2.2.1 ≠ s_.2.2.2) ∧ (w.heap.size ≤ s_.2.2.2) ∧ (w.heap.size ≤ s_.2.2.2) ∧ (gb321 ≠ s_.2.2.2) ∧ (s_.2.2.2 ≠ gb321) ∧ (gb322 ≠ s_.2.2.2) ∧ (s_.2.2.2 ≠ gb322) ∧ (gb327 ≠ s_.2.2.2) ∧ (s_.2.2.2 ≠ gb327) ∧ (Below w.heap.size w w')) ?_ ?_
 rotate_left
 ·intro hJ1_3_4_5
  refine join_ (σ:=Value × Value × Nat) 3 #[true,true,true,true,true,false,false,false] (fun s_ => [(13,.agg #[.int .i64 t328,s_.1]),(15,.agg #[.int .i64 t332,s_.2.1]),(6,.pointer (some ⟨s_.2.2,0,none⟩))]) (fun s_ w' => (w'.cell? ⟨gb321,0,none⟩ = some (.int .i64 a0_0) ∧ w'.cell? ⟨gb321,1,none⟩ = some (.slice A0_1 l0_1.length c0_1) ∧ w'.cell? ⟨gb321,2,none⟩ = some (.slice A0_2 l0_2.length c0_2) ∧ w'.cell? ⟨gb321,3,none⟩ = some (.slice A0_3 l0_3.length c0_3)) ∧ (Kd.R (Kd.int .i64) 3 w' w.heap.size (fun k_ => some k_ ≠ (s_.1 : Value).ownBlock ∧ some k_ ≠ (s_.2.1 : Value).ownBlock) (.slice Ao15 t324.length co15) t324) ∧ (Kd.R (Kd.int .i64) 3 w' w.heap.size (fun k_ => some k_ ≠ (.slice Ao15 t324.length co15 : Value).ownBlock ∧ some k_ ≠ (s_.2.1 : Value).ownBlock) s_.1 t329) ∧ (Kd.R (Kd.int .i64) 3 w' w.heap.size (fun k_ => some k_ ≠ (.slice Ao15 t324.length co15 : Value).ownBlock ∧ some k_ ≠ (s_.1 : Value).ownBlock) s_.2.1 t333) ∧ (w'.heap[gb321]? = some (.cells #[.int .i64 a0_0,.slice A0_1 l0_1.length c0_1,.slice A0_2 l0_2.length c0_2,.slice A0_3 l0_3.length c0_3] 33 (0,0))) ∧ (w'.heap[gb322]? = some (.cells #[.int .i64 0,.slice none 0 0] 35 (0,0))) ∧ (w'.heap[gb327]? = some (.cells #[.int .i64 t323,.slice Ao15 t324.length co15] 35 (0,0))) ∧ (w'.heap[s_.2.2]? = some (.cells #[.int .i64 0,.slice none 0 0] 35 (0,0))) ∧ (w.heap.size ≤ s_.2.2) ∧ (w.heap.size ≤ s_.2.2) ∧ (gb321 ≠ s_.2.2) ∧ (s_.2.2 ≠ gb321) ∧ (gb322 ≠ s_.2.2) ∧ (s_.2.2 ≠ gb322) ∧ (gb327 ≠ s_.2.2) ∧ (s_.2.2 ≠ gb327) ∧ (Below w.heap.size w w')) ?_ ?_
  rotate_left
  ·intro hJ1_3_4
   refine join_ (σ:=Value × Value × Nat) 3 #[true,true,true,true,false,true,false,false] (fun s_ => [(13,.agg #[.int .i64 t328,s_.1]),(15,.agg #[.int .i64 t332,s_.2.1]),(7,.pointer (some ⟨s_.2.2,0,none⟩))]) (fun s_ w' => (w'.cell? ⟨gb321,0,none⟩ = some (.int .i64 a0_0) ∧ w'.cell? ⟨gb321,1,none⟩ = some (.slice A0_1 l0_1.length c0_1) ∧ w'.cell? ⟨gb321,2,none⟩ = some (.slice A0_2 l0_2.length c0_2) ∧ w'.cell? ⟨gb321,3,none⟩ = some (.slice A0_3 l0_3.length c0_3)) ∧ (Kd.R (Kd.int .i64) 3 w' w.heap.size (fun k_ => some k_ ≠ (s_.1 : Value).ownBlock ∧ some k_ ≠ (s_.2.1 : Value).ownBlock) (.slice Ao15 t324.length co15) t324) ∧ (Kd.R (Kd.int .i64) 3 w' w.heap.size (fun k_ => some k_ ≠ (.slice Ao15 t324.length co15 : Value).ownBlock ∧ some k_ ≠ (s_.2.1 : Value).ownBlock) s_.1 t329) ∧ (Kd.R (Kd.int .i64) 3 w' w.heap.size (fun k_ => some k_ ≠ (.slice Ao15 t324.length co15 : Value).ownBlock ∧ some k_ ≠ (s_.1 : Value).ownBlock) s_.2.1 t333) ∧ (w'.heap[gb321]? = some (.cells #[.int .i64 a0_0,.slice A0_1 l0_1.length c0_1,.slice A0_2 l0_2.length c0_2,.slice A0_3 l0_3.length c0_3] 33 (0,0))) ∧ (w'.heap[gb322]? = some (.cells #[.int .i64 0,.slice none 0 0] 35 (0,0))) ∧ (w'.heap[gb327]? = some (.cells #[.int .i64 t323,.slice Ao15 t324.length co15] 35 (0,0))) ∧ (w'.heap[s_.2.2]? = some (.cells #[.int .i64 0,.slice none 0 0] 35 (0,0))) ∧ (w.heap.size ≤ s_.2.2) ∧ (w.heap.size ≤ s_.2.2) ∧ (gb321 ≠ s_.2.2) ∧ (s_.2.2 ≠ gb321) ∧ (gb322 ≠ s_.2.2) ∧ (s_.2.2 ≠ gb322) ∧ (gb327 ≠ s_.2.2) ∧ (s_.2.2 ≠ gb327) ∧ (Below w.heap.size w w')) ?_ ?_
   rotate_left
   ·intro hJ1_3_5
    refine join_ (σ:=Value × Nat × Nat) 3 #[true,true,true,false,true,true,false,false] (fun s_ => [(13,.agg #[.int .i64 t328,s_.1]),(6,.pointer (some ⟨s_.2.1,0,none⟩)),(7,.pointer (some ⟨s_.2.2,0,none⟩))]) (fun s_ w' => (w'.cell? ⟨gb321,0,none⟩ = some (.int .i64 a0_0) ∧ w'.cell? ⟨gb321,1,none⟩ = some (.slice A0_1 l0_1.length c0_1) ∧ w'.cell? ⟨gb321,2,none⟩ = some (.slice A0_2 l0_2.length c0_2) ∧ w'.cell? ⟨gb321,3,none⟩ = some (.slice A0_3 l0_3.length c0_3)) ∧ (Kd.R (Kd.int .i64) 3 w' w.heap.size (fun k_ => some k_ ≠ (s_.1 : Value).ownBlock) (.slice Ao15 t324.length co15) t324) ∧ (Kd.R (Kd.int .i64) 3 w' w.heap.size (fun k_ => some k_ ≠ (.slice Ao15 t324.length co15 : Value).ownBlock) s_.1 t329) ∧ (w'.heap[gb321]? = some (.cells #[.int .i64 a0_0,.slice A0_1 l0_1.length c0_1,.slice A0_2 l0_2.length c0_2,.slice A0_3 l0_3.length c0_3] 33 (0,0))) ∧ (w'.heap[gb322]? = some (.cells #[.int .i64 0,.slice none 0 0] 35 (0,0))) ∧ (w'.heap[gb327]? = some (.cells #[.int .i64 t323,.slice Ao15 t324.length co15] 35 (0,0))) ∧ (w'.heap[s_.2.1]? = some (.cells #[.int .i64 0,.slice none 0 0] 35 (0,0))) ∧ (w'.heap[s_.2.2]? = some (.cells #[.int .i64 0,.slice none 0 0] 35 (0,0))) ∧ (w.heap.size ≤ s_.2.1) ∧ (w.heap.size ≤ s_.2.1) ∧ (gb321 ≠ s_.2.1) ∧ (s_.2.1 ≠ gb321) ∧ (gb322 ≠ s_.2.1) ∧ (s_.2.1 ≠ gb322) ∧ (gb327 ≠ s_.2.1) ∧ (s_.2.1 ≠ gb327) ∧ (s_.2.2 ≠ s_.2.1) ∧ (s_.2.1 ≠ s_.2.2) ∧ (w.heap.size ≤ s_.2.2) ∧ (w.heap.size ≤ s_.2.2) ∧ (gb321 ≠ s_.2.2) ∧ (s_.2.2 ≠ gb321) ∧ (gb322 ≠ s_.2.2) ∧ (s_.2.2 ≠ gb322) ∧ (gb327 ≠ s_.2.2) ∧ (s_.2.2 ≠ gb327) ∧ (Below w.heap.size w w')) ?_ ?_
    rotate_left
    ·intro hJ1_4_5
     refine join_ (σ:=Value × Value) 4 #[true,true,true,true,false,false,false,false] (fun s_ => [(13,.agg #[.int .i64 t328,s_.1]),(15,.agg #[.int .i64 t332,s_.2])]) (fun s_ w' => (w'.cell? ⟨gb321,0,none⟩ = some (.int .i64 a0_0) ∧ w'.cell? ⟨gb321,1,none⟩ = some (.slice A0_1 l0_1.length c0_1) ∧ w'.cell? ⟨gb321,2,none⟩ = some (.slice A0_2 l0_2.length c0_2) ∧ w'.cell? ⟨gb321,3,none⟩ = some (.slice A0_3 l0_3.length c0_3)) ∧ (Kd.R (Kd.int .i64) 3 w' w.heap.size (fun k_ => some k_ ≠ (s_.1 : Value).ownBlock ∧ some k_ ≠ (s_.2 : Value).ownBlock) (.slice Ao15 t324.length co15) t324) ∧ (Kd.R (Kd.int .i64) 3 w' w.heap.size (fun k_ => some k_ ≠ (.slice Ao15 t324.length co15 : Value).ownBlock ∧ some k_ ≠ (s_.2 : Value).ownBlock) s_.1 t329) ∧ (Kd.R (Kd.int .i64) 3 w' w.heap.size (fun k_ => some k_ ≠ (.slice Ao15 t324.length co15 : Value).ownBlock ∧ some k_ ≠ (s_.1 : Value).ownBlock) s_.2 t333) ∧ (w'.heap[gb321]? = some (.cells #[.int .i64 a0_0,.slice A0_1 l0_1.length c0_1,.slice A0_2 l0_2.length c0_2,.slice A0_3 l0_3.length c0_3] 33 (0,0))) ∧ (w'.heap[gb322]? = some (.cells #[.int .i64 0,.slice none 0 0] 35 (0,0))) ∧ (w'.heap[gb327]? = some (.cells #[.int .i64 t323,.slice Ao15 t324.length co15] 35 (0,0))) ∧ (Below w.heap.size w w')) ?_ ?_
     rotate_left
     ·intro hJ1_3
      refine join_ (σ:=Value × Nat) 4 #[true,true,true,false,true,false,false,false] (fun s_ => [(13,.agg #[.int .i64 t328,s_.1]),(6,.pointer (some ⟨s_.2,0,none⟩))]) (fun s_ w' => (w'.cell? ⟨gb321,0,none⟩ = some (.int .i64 a0_0) ∧ w'.cell? ⟨gb321,1,none⟩ = some (.slice A0_1 l0_1.length c0_1) ∧ w'.cell? ⟨gb321,2,none⟩ = some (.slice A0_2 l0_2.length c0_2) ∧ w'.cell? ⟨gb321,3,none⟩ = some (.slice A0_3 l0_3.length c0_3)) ∧ (Kd.R (Kd.int .i64) 3 w' w.heap.size (fun k_ => some k_ ≠ (s_.1 : Value).ownBlock) (.slice Ao15 t324.length co15) t324) ∧ (Kd.R (Kd.int .i64) 3 w' w.heap.size (fun k_ => some k_ ≠ (.slice Ao15 t324.length co15 : Value).ownBlock) s_.1 t329) ∧ (w'.heap[gb321]? = some (.cells #[.int .i64 a0_0,.slice A0_1 l0_1.length c0_1,.slice A0_2 l0_2.length c0_2,.slice A0_3 l0_3.length c0_3] 33 (0,0))) ∧ (w'.heap[gb322]? = some (.cells #[.int .i64 0,.slice none 0 0] 35 (0,0))) ∧ (w'.heap[gb327]? = some (.cells #[.int .i64 t323,.slice Ao15 t324.length co15] 35 (0,0))) ∧ (w'.heap[s_.2]? = some (.cells #[.int .i64 0,.slice none 0 0] 35 (0,0))) ∧ (w.heap.size ≤ s_.2) ∧ (w.heap.size ≤ s_.2) ∧ (gb321 ≠ s_.2) ∧ (s_.2 ≠ gb321) ∧ (gb322 ≠ s_.2) ∧ (s_.2 ≠ gb322) ∧ (gb327 ≠ s_.2) ∧ (s_.2 ≠ gb327) ∧ (Below w.heap.size w w')) ?_ ?_
      rotate_left
      ·intro hJ1_4
       refine join_ (σ:=Value × Nat) 4 #[true,true,true,false,false,true,false,false] (fun s_ => [(13,.agg #[.int .i64 t328,s_.1]),(7,.pointer (some ⟨s_.2,0,none⟩))]) (fun s_ w' => (w'.cell? ⟨gb321,0,none⟩ = some (.int .i64 a0_0) ∧ w'.cell? ⟨gb321,1,none⟩ = some (.slice A0_1 l0_1.length c0_1) ∧ w'.cell? ⟨gb321,2,none⟩ = some (.slice A0_2 l0_2.length c0_2) ∧ w'.cell? ⟨gb321,3,none⟩ = some (.slice A0_3 l0_3.length c0_3)) ∧ (Kd.R (Kd.int .i64) 3 w' w.heap.size (fun k_ => some k_ ≠ (s_.1 : Value).ownBlock) (.slice Ao15 t324.length co15) t324) ∧ (Kd.R (Kd.int .i64) 3 w' w.heap.size (fun k_ => some k_ ≠ (.slice Ao15 t324.length co15 : Value).ownBlock) s_.1 t329) ∧ (w'.heap[gb321]? = some (.cells #[.int .i64 a0_0,.slice A0_1 l0_1.length c0_1,.slice A0_2 l0_2.length c0_2,.slice A0_3 l0_3.length c0_3] 33 (0,0))) ∧ (w'.heap[gb322]? = some (.cells #[.int .i64 0,.slice none 0 0] 35 (0,0))) ∧ (w'.heap[gb327]? = some (.cells #[.int .i64 t323,.slice Ao15 t324.length co15] 35 (0,0))) ∧ (w'.heap[s_.2]? = some (.cells #[.int .i64 0,.slice none 0 0] 35 (0,0))) ∧ (w.heap.size ≤ s_.2) ∧ (w.heap.size ≤ s_.2) ∧ (gb321 ≠ s_.2) ∧ (s_.2 ≠ gb321) ∧ (gb322 ≠ s_.2) ∧ (s_.2 ≠ gb322) ∧ (gb327 ≠ s_.2) ∧ (s_.2 ≠ gb327) ∧ (Below w.heap.size w w')) ?_ ?_
       rotate_left
       ·intro hJ1_5
        refine join_ (σ:=Nat × Nat) 4 #[true,false,true,false,true,true,false,false] (fun s_ => [(6,.pointer (some ⟨s_.1,0,none⟩)),(7,.pointer (some ⟨s_.2,0,none⟩))]) (fun s_ w' => (w'.cell? ⟨gb321,0,none⟩ = some (.int .i64 a0_0) ∧ w'.cell? ⟨gb321,1,none⟩ = some (.slice A0_1 l0_1.length c0_1) ∧ w'.cell? ⟨gb321,2,none⟩ = some (.slice A0_2 l0_2.length c0_2) ∧ w'.cell? ⟨gb321,3,none⟩ = some (.slice A0_3 l0_3.length c0_3)) ∧ (Kd.R (Kd.int .i64) 3 w' w.heap.size (fun _ => True) (.slice Ao15 t324.length co15) t324) ∧ (w'.heap[gb321]? = some (.cells #[.int .i64 a0_0,.slice A0_1 l0_1.length c0_1,.slice A0_2 l0_2.length c0_2,.slice A0_3 l0_3.length c0_3] 33 (0,0))) ∧ (w'.heap[gb322]? = some (.cells #[.int .i64 0,.slice none 0 0] 35 (0,0))) ∧ (w'.heap[gb327]? = some (.cells #[.int .i64 t323,.slice Ao15 t324.length co15] 35 (0,0))) ∧ (w'.heap[s_.1]? = some (.cells #[.int .i64 0,.slice none 0 0] 35 (0,0))) ∧ (w'.heap[s_.2]? = some (.cells #[.int .i64 0,.slice none 0 0] 35 (0,0))) ∧ (w.heap.size ≤ s_.1) ∧ (w.heap.size ≤ s_.1) ∧ (gb321 ≠ s_.1) ∧ (s_.1 ≠ gb321) ∧ (gb322 ≠ s_.1) ∧ (s_.1 ≠ gb322) ∧ (gb327 ≠ s_.1) ∧ (s_.1 ≠ gb327) ∧ (s_.2 ≠ s_.1) ∧ (s_.1 ≠ s_.2) ∧ (w.heap.size ≤ s_.2) ∧ (w.heap.size ≤ s_.2) ∧ (gb321 ≠ s_.2) ∧ (s_.2 ≠ gb321) ∧ (gb322 ≠ s_.2) ∧ (s_.2 ≠ gb322) ∧ (gb327 ≠ s_.2) ∧ (s_.2 ≠ gb327) ∧ (Below w.heap.size w w')) ?_ ?_
        rotate_left
        ·intro hJ4_5
         refine join_ (σ:=Value) 5 #[true,true,true,false,false,false,false,false] (fun s_ => [(13,.agg #[.int .i64 t328,s_])]) (fun s_ w' => (w'.cell? ⟨gb321,0,none⟩ = some (.int .i64 a0_0) ∧ w'.cell? ⟨gb321,1,none⟩ = some (.slice A0_1 l0_1.length c0_1) ∧ w'.cell? ⟨gb321,2,none⟩ = some (.slice A0_2 l0_2.length c0_2) ∧ w'.cell? ⟨gb321,3,none⟩ = some (.slice A0_3 l0_3.length c0_3)) ∧ (Kd.R (Kd.int .i64) 3 w' w.heap.size (fun k_ => some k_ ≠ (s_ : Value).ownBlock) (.slice Ao15 t324.length co15) t324) ∧ (Kd.R (Kd.int .i64) 3 w' w.heap.size (fun k_ => some k_ ≠ (.slice Ao15 t324.length co15 : Value).ownBlock) s_ t329) ∧ (w'.heap[gb321]? = some (.cells #[.int .i64 a0_0,.slice A0_1 l0_1.length c0_1,.slice A0_2 l0_2.length c0_2,.slice A0_3 l0_3.length c0_3] 33 (0,0))) ∧ (w'.heap[gb322]? = some (.cells #[.int .i64 0,.slice none 0 0] 35 (0,0))) ∧ (w'.heap[gb327]? = some (.cells #[.int .i64 t323,.slice Ao15 t324.length co15] 35 (0,0))) ∧ (Below w.heap.size w w')) ?_ ?_
         rotate_left
         ·intro hJ1
          refine join_ (σ:=Nat) 5 #[true,false,true,false,true,false,false,false] (fun s_ => [(6,.pointer (some ⟨s_,0,none⟩))]) (fun s_ w' => (w'.cell? ⟨gb321,0,none⟩ = some (.int .i64 a0_0) ∧ w'.cell? ⟨gb321,1,none⟩ = some (.slice A0_1 l0_1.length c0_1) ∧ w'.cell? ⟨gb321,2,none⟩ = some (.slice A0_2 l0_2.length c0_2) ∧ w'.cell? ⟨gb321,3,none⟩ = some (.slice A0_3 l0_3.length c0_3)) ∧ (Kd.R (Kd.int .i64) 3 w' w.heap.size (fun _ => True) (.slice Ao15 t324.length co15) t324) ∧ (w'.heap[gb321]? = some (.cells #[.int .i64 a0_0,.slice A0_1 l0_1.length c0_1,.slice A0_2 l0_2.length c0_2,.slice A0_3 l0_3.length c0_3] 33 (0,0))) ∧ (w'.heap[gb322]? = some (.cells #[.int .i64 0,.slice none 0 0] 35 (0,0))) ∧ (w'.heap[gb327]? = some (.cells #[.int .i64 t323,.slice Ao15 t324.length co15] 35 (0,0))) ∧ (w'.heap[s_]? = some (.cells #[.int .i64 0,.slice none 0 0] 35 (0,0))) ∧ (w.heap.size ≤ s_) ∧ (w.heap.size ≤ s_) ∧ (gb321 ≠ s_) ∧ (s_ ≠ gb321) ∧ (gb322 ≠ s_) ∧ (s_ ≠ gb322) ∧ (gb327 ≠ s_) ∧ (s_ ≠ gb327) ∧ (Below w.heap.size w w')) ?_ ?_
          rotate_left
          ·intro hJ4
           refine join_ (σ:=Nat) 5 #[true,false,true,false,false,true,false,false] (fun s_ => [(7,.pointer (some ⟨s_,0,none⟩))]) (fun s_ w' => (w'.cell? ⟨gb321,0,none⟩ = some (.int .i64 a0_0) ∧ w'.cell? ⟨gb321,1,none⟩ = some (.slice A0_1 l0_1.length c0_1) ∧ w'.cell? ⟨gb321,2,none⟩ = some (.slice A0_2 l0_2.length c0_2) ∧ w'.cell? ⟨gb321,3,none⟩ = some (.slice A0_3 l0_3.length c0_3)) ∧ (Kd.R (Kd.int .i64) 3 w' w.heap.size (fun _ => True) (.slice Ao15 t324.length co15) t324) ∧ (w'.heap[gb321]? = some (.cells #[.int .i64 a0_0,.slice A0_1 l0_1.length c0_1,.slice A0_2 l0_2.length c0_2,.slice A0_3 l0_3.length c0_3] 33 (0,0))) ∧ (w'.heap[gb322]? = some (.cells #[.int .i64 0,.slice none 0 0] 35 (0,0))) ∧ (w'.heap[gb327]? = some (.cells #[.int .i64 t323,.slice Ao15 t324.length co15] 35 (0,0))) ∧ (w'.heap[s_]? = some (.cells #[.int .i64 0,.slice none 0 0] 35 (0,0))) ∧ (w.heap.size ≤ s_) ∧ (w.heap.size ≤ s_) ∧ (gb321 ≠ s_) ∧ (s_ ≠ gb321) ∧ (gb322 ≠ s_) ∧ (s_ ≠ gb322) ∧ (gb327 ≠ s_) ∧ (s_ ≠ gb327) ∧ (Below w.heap.size w w')) ?_ ?_
           rotate_left
           ·intro hJ5
            refine three_ (i:=1) (j:=4) (k:=5) (Ni:=some 13) (Nj:=some 6) (Nk:=some 7) #[true,true,true,false,false,false,false,false] #[true,false,true,false,true,false,false,false] #[true,false,true,false,false,true,false,false] rfl rfl rfl rfl rfl rfl (three_of HT_.out (by kernel_rfl)) (by decide) (by decide) (by decide) (fun K hK => ?_) (fun K hK => ?_) (fun K hK => ?_)
            ·skip
             refine goes_ Try.func132 (by kernel_rfl) rfl #[.agg #[.int .i64 a0_0,.slice A0_1 l0_1.length c0_1,.slice A0_2 l0_2.length c0_2,.slice A0_3 l0_3.length c0_3],.string (⟨#[97]⟩ : ByteArray)] (by rfl) rfl rfl lp_ ?_
             with_reducible refine (spec_l3Matrix.calls k a0_0 _ _ l0_1 _ _ l0_2 _ _ l0_3 (⟨#[97]⟩ : ByteArray) t328 t329 _ ?side1 ?side2 ?side3 ?side4 ?side5 ?side6 A4.out).mono ?_
             (case side1 => exact cr_ (Kd.C_below HR0_1.out HB.out))
             (case side2 => exact HC0_1.out)
             (case side3 => exact cr_ (Kd.C_below HR0_2.out HB.out))
             (case side4 => exact HC0_2.out)
             (case side5 => exact cr_ (Kd.C_below HR0_3.out HB.out))
             (case side6 => exact HC0_3.out)
             rintro e w18 ⟨v330,rfl,ho0,hb⟩
             refine ⟨_,rfl,?_⟩
             have HO331:=Aside0.mk (Kd.R_lower (Kd.R_new' ho0 (Kd.R_lt (pr_ HO326.out))) (below_size (be3_ HB.out GE321.out GE322.out GE327.out)))
             replace HO326:=Aside0.mk (Kd.R_elder' (pr_ HO326.out) (Kd.R_base ho0) hb)
             replace BK321:=Aside0.mk (kb_ BK321.out hb)
             replace BK322:=Aside0.mk (kb_ BK322.out hb)
             replace BK327:=Aside0.mk (kb_ BK327.out hb)
             replace HB:=Aside0.mk (below_step (be3_ HB.out GE321.out GE322.out GE327.out) hb)
             (try clear hb)
             (try clear hb2)
             (try clear hk)
             (try clear hi)
             (try clear ho0)
             refine hK.out _ _ ⟨(blk_cell BK321.out 0).trans rfl,(blk_cell BK321.out 1).trans rfl,(blk_cell BK321.out 2).trans rfl,(blk_cell BK321.out 3).trans rfl⟩ (fun hHeld => ?_)
             clear hK K
             refine norm_ (a':=?_) ?_ ?_
             rotate_left
             ·show Act.put _ (some 13) _ = _
              simp only [Act.put,List.setIfInBounds_toArray,List.set_cons_zero,List.set_cons_succ,i64_w,i32_w]
              rfl
             exact norm_ (by first|(simp only [putAll,Act.put,List.setIfInBounds_toArray,List.set_cons_zero,List.set_cons_succ];done)|(simp only [putAll,Act.put,List.setIfInBounds_toArray,List.set_cons_zero,List.set_cons_succ];rfl)) (hJ1 (v330) _ ⟨hHeld,(by refine pr_ ?_;exact Kd.R_mono HO326.out (fun _ hk => hk.2)),(by refine pr_ ?_;exact Kd.R_mono HO331.out (fun _ hk => hk.2)),(pe_ BK321.out),(pe_ BK322.out),(pe_ BK327.out),(be3_ HB.out GE321.out GE322.out GE327.out)⟩)
            ·skip
             refine box_step ?hg (N:=6) ?hd (cs:=#[.int .i64 0,.slice none 0 0]) (t:=35) ?hr ?_;(case hd => rfl);(case hg => rfl);(case hr => first|(go_simp;done)|(go_simp;rfl))
             intro gb336 hg w18 hbox hb
             replace HO326:=Aside0.mk (Kd.R_below (pr_ HO326.out) hb)
             have BK336:=Aside0.mk (hbox)
             have GW336:=Aside0.mk (szg_ hg (below_size (be3_ HB.out GE321.out GE322.out GE327.out)))
             have GE336:=Aside0.mk (szg_ hg (below_size (be3_ HB.out GE321.out GE322.out GE327.out)))
             replace HB:=Aside0.mk (below_step (be3_ HB.out GE321.out GE322.out GE327.out) hb)
             have NB321_336:=Aside0.mk (nl_ hg BK321.out)
             have NB336_321:=Aside0.mk (ng_ hg BK321.out)
             replace BK321:=Aside0.mk (kb_ BK321.out hb)
             have NB322_336:=Aside0.mk (nl_ hg BK322.out)
             have NB336_322:=Aside0.mk (ng_ hg BK322.out)
             replace BK322:=Aside0.mk (kb_ BK322.out hb)
             have NB327_336:=Aside0.mk (nl_ hg BK327.out)
             have NB336_327:=Aside0.mk (ng_ hg BK327.out)
             replace BK327:=Aside0.mk (kb_ BK327.out hb)
             clear hb hbox hg
             refine hK.out _ _ ⟨(blk_cell BK321.out 0).trans rfl,(blk_cell BK321.out 1).trans rfl,(blk_cell BK321.out 2).trans rfl,(blk_cell BK321.out 3).trans rfl⟩ (fun hHeld => ?_)
             clear hK K
             refine norm_ (a':=?_) ?_ ?_
             rotate_left
             ·show Act.put _ (some 6) _ = _
              simp only [Act.put,List.setIfInBounds_toArray,List.set_cons_zero,List.set_cons_succ,i64_w,i32_w]
              rfl
             exact norm_ (by first|(simp only [putAll,Act.put,List.setIfInBounds_toArray,List.set_cons_zero,List.set_cons_succ];done)|(simp only [putAll,Act.put,List.setIfInBounds_toArray,List.set_cons_zero,List.set_cons_succ];rfl)) (hJ4 (gb336) _ ⟨hHeld,(pr_ HO326.out),(pe_ BK321.out),(pe_ BK322.out),(pe_ BK327.out),(pe_ BK336.out),GW336.out,GE336.out,NB321_336.out,NB336_321.out,NB322_336.out,NB336_322.out,NB327_336.out,NB336_327.out,(be4_ HB.out GE321.out GE322.out GE327.out GE336.out)⟩)
            ·skip
             refine box_step ?hg (N:=7) ?hd (cs:=#[.int .i64 0,.slice none 0 0]) (t:=35) ?hr ?_;(case hd => rfl);(case hg => rfl);(case hr => first|(go_simp;done)|(go_simp;rfl))
             intro gb337 hg w18 hbox hb
             replace HO326:=Aside0.mk (Kd.R_below (pr_ HO326.out) hb)
             have BK337:=Aside0.mk (hbox)
             have GW337:=Aside0.mk (szg_ hg (below_size (be3_ HB.out GE321.out GE322.out GE327.out)))
             have GE337:=Aside0.mk (szg_ hg (below_size (be3_ HB.out GE321.out GE322.out GE327.out)))
             replace HB:=Aside0.mk (below_step (be3_ HB.out GE321.out GE322.out GE327.out) hb)
             have NB321_337:=Aside0.mk (nl_ hg BK321.out)
             have NB337_321:=Aside0.mk (ng_ hg BK321.out)
             replace BK321:=Aside0.mk (kb_ BK321.out hb)
             have NB322_337:=Aside0.mk (nl_ hg BK322.out)
             have NB337_322:=Aside0.mk (ng_ hg BK322.out)
             replace BK322:=Aside0.mk (kb_ BK322.out hb)
             have NB327_337:=Aside0.mk (nl_ hg BK327.out)
             have NB337_327:=Aside0.mk (ng_ hg BK327.out)
             replace BK327:=Aside0.mk (kb_ BK327.out hb)
             clear hb hbox hg
             refine hK.out _ _ ⟨(blk_cell BK321.out 0).trans rfl,(blk_cell BK321.out 1).trans rfl,(blk_cell BK321.out 2).trans rfl,(blk_cell BK321.out 3).trans rfl⟩ (fun hHeld => ?_)
             clear hK K
             refine norm_ (a':=?_) ?_ ?_
             rotate_left
             ·show Act.put _ (some 7) _ = _
              simp only [Act.put,List.setIfInBounds_toArray,List.set_cons_zero,List.set_cons_succ,i64_w,i32_w]
              rfl
             exact norm_ (by first|(simp only [putAll,Act.put,List.setIfInBounds_toArray,List.set_cons_zero,List.set_cons_succ];done)|(simp only [putAll,Act.put,List.setIfInBounds_toArray,List.set_cons_zero,List.set_cons_succ];rfl)) (hJ5 (gb337) _ ⟨hHeld,(pr_ HO326.out),(pe_ BK321.out),(pe_ BK322.out),(pe_ BK327.out),(pe_ BK337.out),GW337.out,GE337.out,NB321_337.out,NB337_321.out,NB322_337.out,NB337_322.out,NB327_337.out,NB337_327.out,(be4_ HB.out GE321.out GE322.out GE327.out GE337.out)⟩)
           ·skip
            rintro gb337 w19 ⟨hS_,h0_,h1_,h2_,h3_,h4_,h5_,h6_,h7_,h8_,h9_,h10_,h11_,h12_,h13_⟩
            have n0_ : Aside0 (Kd.R (Kd.int .i64) 3 w19 w.heap.size (fun _ => True) (.slice Ao15 t324.length co15) t324):=⟨h0_⟩
            have n1_ : Aside0 (w19.heap[gb321]? = some (.cells #[.int .i64 a0_0,.slice A0_1 l0_1.length c0_1,.slice A0_2 l0_2.length c0_2,.slice A0_3 l0_3.length c0_3] 33 (0,0))):=⟨h1_⟩
            have n2_ : Aside0 (w19.heap[gb322]? = some (.cells #[.int .i64 0,.slice none 0 0] 35 (0,0))):=⟨h2_⟩
            have n3_ : Aside0 (w19.heap[gb327]? = some (.cells #[.int .i64 t323,.slice Ao15 t324.length co15] 35 (0,0))):=⟨h3_⟩
            have n4_ : Aside0 (w19.heap[gb337]? = some (.cells #[.int .i64 0,.slice none 0 0] 35 (0,0))):=⟨h4_⟩
            have n5_ : Aside0 (w.heap.size ≤ gb337):=⟨h5_⟩
            have n6_ : Aside0 (w.heap.size ≤ gb337):=⟨h6_⟩
            have n7_ : Aside0 (gb321 ≠ gb337):=⟨h7_⟩
            have n8_ : Aside0 (gb337 ≠ gb321):=⟨h8_⟩
            have n9_ : Aside0 (gb322 ≠ gb337):=⟨h9_⟩
            have n10_ : Aside0 (gb337 ≠ gb322):=⟨h10_⟩
            have n11_ : Aside0 (gb327 ≠ gb337):=⟨h11_⟩
            have n12_ : Aside0 (gb337 ≠ gb327):=⟨h12_⟩
            have n13_ : Aside0 (Below w.heap.size w w19):=⟨h13_⟩
            clear HO326
            clear BK321
            clear BK322
            clear BK327
            clear HB
            clear h0_ h1_ h2_ h3_ h4_ h5_ h6_ h7_ h8_ h9_ h10_ h11_ h12_ h13_
            have HO326:=n0_
            have BK321:=n1_
            have BK322:=n2_
            have BK327:=n3_
            have BK337:=n4_
            have GW337:=n5_
            have GE337:=n6_
            have NB321_337:=n7_
            have NB337_321:=n8_
            have NB322_337:=n9_
            have NB337_322:=n10_
            have NB327_337:=n11_
            have NB337_327:=n12_
            have HB:=n13_
            clear n0_ n1_ n2_ n3_ n4_ n5_ n6_ n7_ n8_ n9_ n10_ n11_ n12_ n13_
            have hHeld : w19.cell? ⟨gb321,0,none⟩ = some (.int .i64 a0_0) ∧ w19.cell? ⟨gb321,1,none⟩ = some (.slice A0_1 l0_1.length c0_1) ∧ w19.cell? ⟨gb321,2,none⟩ = some (.slice A0_2 l0_2.length c0_2) ∧ w19.cell? ⟨gb321,3,none⟩ = some (.slice A0_3 l0_3.length c0_3):=hS_
            refine norm_ (a':=?_) ?_ ?_
            rotate_left
            ·simp only [putAll,Act.put,List.setIfInBounds_toArray,List.set_cons_zero,List.set_cons_succ]
             rfl
            refine two_ (i:=1) (j:=4) (Ni:=some 13) (Nj:=some 6) #[true,true,true,false,false,true,false,false] #[true,false,true,false,true,true,false,false] rfl rfl rfl rfl (two_of HT_.out (by kernel_rfl)) (by decide) (by decide) (fun K hK => ?_) (fun K hK => ?_)
            ·skip
             refine goes_ Try.func132 (by kernel_rfl) rfl #[.agg #[.int .i64 a0_0,.slice A0_1 l0_1.length c0_1,.slice A0_2 l0_2.length c0_2,.slice A0_3 l0_3.length c0_3],.string (⟨#[97]⟩ : ByteArray)] (by rfl) rfl rfl lp_ ?_
             with_reducible refine (spec_l3Matrix.calls k a0_0 _ _ l0_1 _ _ l0_2 _ _ l0_3 (⟨#[97]⟩ : ByteArray) t328 t329 _ ?side1 ?side2 ?side3 ?side4 ?side5 ?side6 A4.out).mono ?_
             (case side1 => exact cr_ (Kd.C_below HR0_1.out HB.out))
             (case side2 => exact HC0_1.out)
             (case side3 => exact cr_ (Kd.C_below HR0_2.out HB.out))
             (case side4 => exact HC0_2.out)
             (case side5 => exact cr_ (Kd.C_below HR0_3.out HB.out))
             (case side6 => exact HC0_3.out)
             rintro e w20 ⟨v330,rfl,ho0,hb⟩
             refine ⟨_,rfl,?_⟩
             have HO331:=Aside0.mk (Kd.R_lower (Kd.R_new' ho0 (Kd.R_lt (pr_ HO326.out))) (below_size (be4_ HB.out GE321.out GE322.out GE327.out GE337.out)))
             replace HO326:=Aside0.mk (Kd.R_elder' (pr_ HO326.out) (Kd.R_base ho0) hb)
             replace BK321:=Aside0.mk (kb_ BK321.out hb)
             replace BK322:=Aside0.mk (kb_ BK322.out hb)
             replace BK327:=Aside0.mk (kb_ BK327.out hb)
             replace BK337:=Aside0.mk (kb_ BK337.out hb)
             replace HB:=Aside0.mk (below_step (be4_ HB.out GE321.out GE322.out GE327.out GE337.out) hb)
             (try clear hb)
             (try clear hb2)
             (try clear hk)
             (try clear hi)
             (try clear ho0)
             refine hK.out _ _ ⟨(blk_cell BK321.out 0).trans rfl,(blk_cell BK321.out 1).trans rfl,(blk_cell BK321.out 2).trans rfl,(blk_cell BK321.out 3).trans rfl⟩ (fun hHeld => ?_)
             clear hK K
             refine norm_ (a':=?_) ?_ ?_
             rotate_left
             ·show Act.put _ (some 13) _ = _
              simp only [Act.put,List.setIfInBounds_toArray,List.set_cons_zero,List.set_cons_succ,i64_w,i32_w]
              rfl
             exact norm_ (by first|(simp only [putAll,Act.put,List.setIfInBounds_toArray,List.set_cons_zero,List.set_cons_succ];done)|(simp only [putAll,Act.put,List.setIfInBounds_toArray,List.set_cons_zero,List.set_cons_succ];rfl)) (hJ1_5 (v330,gb337) _ ⟨hHeld,(by refine pr_ ?_;exact Kd.R_mono HO326.out (fun _ hk => hk.2)),(by refine pr_ ?_;exact Kd.R_mono HO331.out (fun _ hk => hk.2)),(pe_ BK321.out),(pe_ BK322.out),(pe_ BK327.out),(pe_ BK337.out),GW337.out,GE337.out,NB321_337.out,NB337_321.out,NB322_337.out,NB337_322.out,NB327_337.out,NB337_327.out,(be4_ HB.out GE321.out GE322.out GE327.out GE337.out)⟩)
            ·skip
             refine box_step ?hg (N:=6) ?hd (cs:=#[.int .i64 0,.slice none 0 0]) (t:=35) ?hr ?_;(case hd => rfl);(case hg => rfl);(case hr => first|(go_simp;done)|(go_simp;rfl))
             intro gb336 hg w20 hbox hb
             replace HO326:=Aside0.mk (Kd.R_below (pr_ HO326.out) hb)
             have BK336:=Aside0.mk (hbox)
             have GW336:=Aside0.mk (szg_ hg (below_size (be4_ HB.out GE321.out GE322.out GE327.out GE337.out)))
             have GE336:=Aside0.mk (szg_ hg (below_size (be4_ HB.out GE321.out GE322.out GE327.out GE337.out)))
             replace HB:=Aside0.mk (below_step (be4_ HB.out GE321.out GE322.out GE327.out GE337.out) hb)
             have NB321_336:=Aside0.mk (nl_ hg BK321.out)
             have NB336_321:=Aside0.mk (ng_ hg BK321.out)
             replace BK321:=Aside0.mk (kb_ BK321.out hb)
             have NB322_336:=Aside0.mk (nl_ hg BK322.out)
             have NB336_322:=Aside0.mk (ng_ hg BK322.out)
             replace BK322:=Aside0.mk (kb_ BK322.out hb)
             have NB327_336:=Aside0.mk (nl_ hg BK327.out)
             have NB336_327:=Aside0.mk (ng_ hg BK327.out)
             replace BK327:=Aside0.mk (kb_ BK327.out hb)
             have NB337_336:=Aside0.mk (nl_ hg BK337.out)
             have NB336_337:=Aside0.mk (ng_ hg BK337.out)
             replace BK337:=Aside0.mk (kb_ BK337.out hb)
             clear hb hbox hg
             refine hK.out _ _ ⟨(blk_cell BK321.out 0).trans rfl,(blk_cell BK321.out 1).trans rfl,(blk_cell BK321.out 2).trans rfl,(blk_cell BK321.out 3).trans rfl⟩ (fun hHeld => ?_)
             clear hK K
             refine norm_ (a':=?_) ?_ ?_
             rotate_left
             ·show Act.put _ (some 6) _ = _
              simp only [Act.put,List.setIfInBounds_toArray,List.set_cons_zero,List.set_cons_succ,i64_w,i32_w]
              rfl
             exact norm_ (by first|(simp only [putAll,Act.put,List.setIfInBounds_toArray,List.set_cons_zero,List.set_cons_succ];done)|(simp only [putAll,Act.put,List.setIfInBounds_toArray,List.set_cons_zero,List.set_cons_succ];rfl)) (hJ4_5 (gb336,gb337) _ ⟨hHeld,(pr_ HO326.out),(pe_ BK321.out),(pe_ BK322.out),(pe_ BK327.out),(pe_ BK336.out),(pe_ BK337.out),GW336.out,GE336.out,NB321_336.out,NB336_321.out,NB322_336.out,NB336_322.out,NB327_336.out,NB336_327.out,NB337_336.out,NB336_337.out,GW337.out,GE337.out,NB321_337.out,NB337_321.out,NB322_337.out,NB337_322.out,NB327_337.out,NB337_327.out,(be5_ HB.out GE321.out GE322.out GE327.out GE337.out GE336.out)⟩)
          ·skip
           rintro gb336 w19 ⟨hS_,h0_,h1_,h2_,h3_,h4_,h5_,h6_,h7_,h8_,h9_,h10_,h11_,h12_,h13_⟩
           have n0_ : Aside0 (Kd.R (Kd.int .i64) 3 w19 w.heap.size (fun _ => True) (.slice Ao15 t324.length co15) t324):=⟨h0_⟩
           have n1_ : Aside0 (w19.heap[gb321]? = some (.cells #[.int .i64 a0_0,.slice A0_1 l0_1.length c0_1,.slice A0_2 l0_2.length c0_2,.slice A0_3 l0_3.length c0_3] 33 (0,0))):=⟨h1_⟩
           have n2_ : Aside0 (w19.heap[gb322]? = some (.cells #[.int .i64 0,.slice none 0 0] 35 (0,0))):=⟨h2_⟩
           have n3_ : Aside0 (w19.heap[gb327]? = some (.cells #[.int .i64 t323,.slice Ao15 t324.length co15] 35 (0,0))):=⟨h3_⟩
           have n4_ : Aside0 (w19.heap[gb336]? = some (.cells #[.int .i64 0,.slice none 0 0] 35 (0,0))):=⟨h4_⟩
           have n5_ : Aside0 (w.heap.size ≤ gb336):=⟨h5_⟩
           have n6_ : Aside0 (w.heap.size ≤ gb336):=⟨h6_⟩
           have n7_ : Aside0 (gb321 ≠ gb336):=⟨h7_⟩
           have n8_ : Aside0 (gb336 ≠ gb321):=⟨h8_⟩
           have n9_ : Aside0 (gb322 ≠ gb336):=⟨h9_⟩
           have n10_ : Aside0 (gb336 ≠ gb322):=⟨h10_⟩
           have n11_ : Aside0 (gb327 ≠ gb336):=⟨h11_⟩
           have n12_ : Aside0 (gb336 ≠ gb327):=⟨h12_⟩
           have n13_ : Aside0 (Below w.heap.size w w19):=⟨h13_⟩
           clear HO326
           clear BK321
           clear BK322
           clear BK327
           clear HB
           clear h0_ h1_ h2_ h3_ h4_ h5_ h6_ h7_ h8_ h9_ h10_ h11_ h12_ h13_
           have HO326:=n0_
           have BK321:=n1_
           have BK322:=n2_
           have BK327:=n3_
           have BK336:=n4_
           have GW336:=n5_
           have GE336:=n6_
           have NB321_336:=n7_
           have NB336_321:=n8_
           have NB322_336:=n9_
           have NB336_322:=n10_
           have NB327_336:=n11_
           have NB336_327:=n12_
           have HB:=n13_
           clear n0_ n1_ n2_ n3_ n4_ n5_ n6_ n7_ n8_ n9_ n10_ n11_ n12_ n13_
           have hHeld : w19.cell? ⟨gb321,0,none⟩ = some (.int .i64 a0_0) ∧ w19.cell? ⟨gb321,1,none⟩ = some (.slice A0_1 l0_1.length c0_1) ∧ w19.cell? ⟨gb321,2,none⟩ = some (.slice A0_2 l0_2.length c0_2) ∧ w19.cell? ⟨gb321,3,none⟩ = some (.slice A0_3 l0_3.length c0_3):=hS_
           refine norm_ (a':=?_) ?_ ?_
           rotate_left
           ·simp only [putAll,Act.put,List.setIfInBounds_toArray,List.set_cons_zero,List.set_cons_succ]
            rfl
           refine two_ (i:=1) (j:=5) (Ni:=some 13) (Nj:=some 7) #[true,true,true,false,true,false,false,false] #[true,false,true,false,true,true,false,false] rfl rfl rfl rfl (two_of HT_.out (by kernel_rfl)) (by decide) (by decide) (fun K hK => ?_) (fun K hK => ?_)
           ·skip
            refine goes_ Try.func132 (by kernel_rfl) rfl #[.agg #[.int .i64 a0_0,.slice A0_1 l0_1.length c0_1,.slice A0_2 l0_2.length c0_2,.slice A0_3 l0_3.length c0_3],.string (⟨#[97]⟩ : ByteArray)] (by rfl) rfl rfl lp_ ?_
            with_reducible refine (spec_l3Matrix.calls k a0_0 _ _ l0_1 _ _ l0_2 _ _ l0_3 (⟨#[97]⟩ : ByteArray) t328 t329 _ ?side1 ?side2 ?side3 ?side4 ?side5 ?side6 A4.out).mono ?_
            (case side1 => exact cr_ (Kd.C_below HR0_1.out HB.out))
            (case side2 => exact HC0_1.out)
            (case side3 => exact cr_ (Kd.C_below HR0_2.out HB.out))
            (case side4 => exact HC0_2.out)
            (case side5 => exact cr_ (Kd.C_below HR0_3.out HB.out))
            (case side6 => exact HC0_3.out)
            rintro e w20 ⟨v330,rfl,ho0,hb⟩
            refine ⟨_,rfl,?_⟩
            have HO331:=Aside0.mk (Kd.R_lower (Kd.R_new' ho0 (Kd.R_lt (pr_ HO326.out))) (below_size (be4_ HB.out GE321.out GE322.out GE327.out GE336.out)))
            replace HO326:=Aside0.mk (Kd.R_elder' (pr_ HO326.out) (Kd.R_base ho0) hb)
            replace BK321:=Aside0.mk (kb_ BK321.out hb)
            replace BK322:=Aside0.mk (kb_ BK322.out hb)
            replace BK327:=Aside0.mk (kb_ BK327.out hb)
            replace BK336:=Aside0.mk (kb_ BK336.out hb)
            replace HB:=Aside0.mk (below_step (be4_ HB.out GE321.out GE322.out GE327.out GE336.out) hb)
            (try clear hb)
            (try clear hb2)
            (try clear hk)
            (try clear hi)
            (try clear ho0)
            refine hK.out _ _ ⟨(blk_cell BK321.out 0).trans rfl,(blk_cell BK321.out 1).trans rfl,(blk_cell BK321.out 2).trans rfl,(blk_cell BK321.out 3).trans rfl⟩ (fun hHeld => ?_)
            clear hK K
            refine norm_ (a':=?_) ?_ ?_
            rotate_left
            ·show Act.put _ (some 13) _ = _
             simp only [Act.put,List.setIfInBounds_toArray,List.set_cons_zero,List.set_cons_succ,i64_w,i32_w]
             rfl
            exact norm_ (by first|(simp only [putAll,Act.put,List.setIfInBounds_toArray,List.set_cons_zero,List.set_cons_succ];done)|(simp only [putAll,Act.put,List.setIfInBounds_toArray,List.set_cons_zero,List.set_cons_succ];rfl)) (hJ1_4 (v330,gb336) _ ⟨hHeld,(by refine pr_ ?_;exact Kd.R_mono HO326.out (fun _ hk => hk.2)),(by refine pr_ ?_;exact Kd.R_mono HO331.out (fun _ hk => hk.2)),(pe_ BK321.out),(pe_ BK322.out),(pe_ BK327.out),(pe_ BK336.out),GW336.out,GE336.out,NB321_336.out,NB336_321.out,NB322_336.out,NB336_322.out,NB327_336.out,NB336_327.out,(be4_ HB.out GE321.out GE322.out GE327.out GE336.out)⟩)
           ·skip
            refine box_step ?hg (N:=7) ?hd (cs:=#[.int .i64 0,.slice none 0 0]) (t:=35) ?hr ?_;(case hd => rfl);(case hg => rfl);(case hr => first|(go_simp;done)|(go_simp;rfl))
            intro gb337 hg w20 hbox hb
            replace HO326:=Aside0.mk (Kd.R_below (pr_ HO326.out) hb)
            have BK337:=Aside0.mk (hbox)
            have GW337:=Aside0.mk (szg_ hg (below_size (be4_ HB.out GE321.out GE322.out GE327.out GE336.out)))
            have GE337:=Aside0.mk (szg_ hg (below_size (be4_ HB.out GE321.out GE322.out GE327.out GE336.out)))
            replace HB:=Aside0.mk (below_step (be4_ HB.out GE321.out GE322.out GE327.out GE336.out) hb)
            have NB321_337:=Aside0.mk (nl_ hg BK321.out)
            have NB337_321:=Aside0.mk (ng_ hg BK321.out)
            replace BK321:=Aside0.mk (kb_ BK321.out hb)
            have NB322_337:=Aside0.mk (nl_ hg BK322.out)
            have NB337_322:=Aside0.mk (ng_ hg BK322.out)
            replace BK322:=Aside0.mk (kb_ BK322.out hb)
            have NB327_337:=Aside0.mk (nl_ hg BK327.out)
            have NB337_327:=Aside0.mk (ng_ hg BK327.out)
            replace BK327:=Aside0.mk (kb_ BK327.out hb)
            have NB336_337:=Aside0.mk (nl_ hg BK336.out)
            have NB337_336:=Aside0.mk (ng_ hg BK336.out)
            replace BK336:=Aside0.mk (kb_ BK336.out hb)
            clear hb hbox hg
            refine hK.out _ _ ⟨(blk_cell BK321.out 0).trans rfl,(blk_cell BK321.out 1).trans rfl,(blk_cell BK321.out 2).trans rfl,(blk_cell BK321.out 3).trans rfl⟩ (fun hHeld => ?_)
            clear hK K
            refine norm_ (a':=?_) ?_ ?_
            rotate_left
            ·show Act.put _ (some 7) _ = _
             simp only [Act.put,List.setIfInBounds_toArray,List.set_cons_zero,List.set_cons_succ,i64_w,i32_w]
             rfl
            exact norm_ (by first|(simp only [putAll,Act.put,List.setIfInBounds_toArray,List.set_cons_zero,List.set_cons_succ];done)|(simp only [putAll,Act.put,List.setIfInBounds_toArray,List.set_cons_zero,List.set_cons_succ];rfl)) (hJ4_5 (gb336,gb337) _ ⟨hHeld,(pr_ HO326.out),(pe_ BK321.out),(pe_ BK322.out),(pe_ BK327.out),(pe_ BK336.out),(pe_ BK337.out),GW336.out,GE336.out,NB321_336.out,NB336_321.out,NB322_336.out,NB336_322.out,NB327_336.out,NB336_327.out,NB337_336.out,NB336_337.out,GW337.out,GE337.out,NB321_337.out,NB337_321.out,NB322_337.out,NB337_322.out,NB327_337.out,NB337_327.out,(be5_ HB.out GE321.out GE322.out GE327.out GE336.out GE337.out)⟩)
         ·skip
          rintro v330 w19 ⟨hS_,h0_,h1_,h2_,h3_,h4_,h5_⟩
          have n0_ : Aside0 (Kd.R (Kd.int .i64) 3 w19 w.heap.size (fun k_ => some k_ ≠ (v330 : Value).ownBlock) (.slice Ao15 t324.length co15) t324):=⟨h0_⟩
          have n1_ : Aside0 (Kd.R (Kd.int .i64) 3 w19 w.heap.size (fun k_ => some k_ ≠ (.slice Ao15 t324.length co15 : Value).ownBlock) v330 t329):=⟨h1_⟩
          have n2_ : Aside0 (w19.heap[gb321]? = some (.cells #[.int .i64 a0_0,.slice A0_1 l0_1.length c0_1,.slice A0_2 l0_2.length c0_2,.slice A0_3 l0_3.length c0_3] 33 (0,0))):=⟨h2_⟩
          have n3_ : Aside0 (w19.heap[gb322]? = some (.cells #[.int .i64 0,.slice none 0 0] 35 (0,0))):=⟨h3_⟩
          have n4_ : Aside0 (w19.heap[gb327]? = some (.cells #[.int .i64 t323,.slice Ao15 t324.length co15] 35 (0,0))):=⟨h4_⟩
          have n5_ : Aside0 (Below w.heap.size w w19):=⟨h5_⟩
          clear HO326
          clear BK321
          clear BK322
          clear BK327
          clear HB
          clear h0_ h1_ h2_ h3_ h4_ h5_
          have HO326:=n0_
          have HO331:=n1_
          have BK321:=n2_
          have BK322:=n3_
          have BK327:=n4_
          have HB:=n5_
          clear n0_ n1_ n2_ n3_ n4_ n5_
          have hHeld : w19.cell? ⟨gb321,0,none⟩ = some (.int .i64 a0_0) ∧ w19.cell? ⟨gb321,1,none⟩ = some (.slice A0_1 l0_1.length c0_1) ∧ w19.cell? ⟨gb321,2,none⟩ = some (.slice A0_2 l0_2.length c0_2) ∧ w19.cell? ⟨gb321,3,none⟩ = some (.slice A0_3 l0_3.length c0_3):=hS_
          refine norm_ (a':=?_) ?_ ?_
          rotate_left
          ·simp only [putAll,Act.put,List.setIfInBounds_toArray,List.set_cons_zero,List.set_cons_succ]
           rfl
          refine three_ (i:=3) (j:=4) (k:=5) (Ni:=some 15) (Nj:=some 6) (Nk:=some 7) #[true,true,true,true,false,false,false,false] #[true,true,true,false,true,false,false,false] #[true,true,true,false,false,true,false,false] rfl rfl rfl rfl rfl rfl (three_of HT_.out (by kernel_rfl)) (by decide) (by decide) (by decide) (fun K hK => ?_) (fun K hK => ?_) (fun K hK => ?_)
          ·skip
           refine goes_ Try.func132 (by kernel_rfl) rfl #[.agg #[.int .i64 a0_0,.slice A0_1 l0_1.length c0_1,.slice A0_2 l0_2.length c0_2,.slice A0_3 l0_3.length c0_3],.string (⟨#[98]⟩ : ByteArray)] (by rfl) rfl rfl lp_ ?_
           with_reducible refine (spec_l3Matrix.calls k a0_0 _ _ l0_1 _ _ l0_2 _ _ l0_3 (⟨#[98]⟩ : ByteArray) t332 t333 _ ?side1 ?side2 ?side3 ?side4 ?side5 ?side6 A5.out).mono ?_
           (case side1 => exact cr_ (Kd.C_below HR0_1.out HB.out))
           (case side2 => exact HC0_1.out)
           (case side3 => exact cr_ (Kd.C_below HR0_2.out HB.out))
           (case side4 => exact HC0_2.out)
           (case side5 => exact cr_ (Kd.C_below HR0_3.out HB.out))
           (case side6 => exact HC0_3.out)
           rintro e w20 ⟨v334,rfl,ho0,hb⟩
           refine ⟨_,rfl,?_⟩
           have HO335:=Aside0.mk (Kd.R_lower (Kd.R_new' (Kd.R_new' ho0 (Kd.R_lt (pr_ HO326.out))) (Kd.R_lt (pr_ HO331.out))) (below_size (be3_ HB.out GE321.out GE322.out GE327.out)))
           replace HO326:=Aside0.mk (Kd.R_elder' (pr_ HO326.out) (Kd.R_base ho0) hb)
           replace HO331:=Aside0.mk (Kd.R_elder' (pr_ HO331.out) (Kd.R_base ho0) hb)
           replace BK321:=Aside0.mk (kb_ BK321.out hb)
           replace BK322:=Aside0.mk (kb_ BK322.out hb)
           replace BK327:=Aside0.mk (kb_ BK327.out hb)
           replace HB:=Aside0.mk (below_step (be3_ HB.out GE321.out GE322.out GE327.out) hb)
           (try clear hb)
           (try clear hb2)
           (try clear hk)
           (try clear hi)
           (try clear ho0)
           refine hK.out _ _ ⟨(blk_cell BK321.out 0).trans rfl,(blk_cell BK321.out 1).trans rfl,(blk_cell BK321.out 2).trans rfl,(blk_cell BK321.out 3).trans rfl⟩ (fun hHeld => ?_)
           clear hK K
           refine norm_ (a':=?_) ?_ ?_
           rotate_left
           ·show Act.put _ (some 15) _ = _
            simp only [Act.put,List.setIfInBounds_toArray,List.set_cons_zero,List.set_cons_succ,i64_w,i32_w]
            rfl
           exact norm_ (by first|(simp only [putAll,Act.put,List.setIfInBounds_toArray,List.set_cons_zero,List.set_cons_succ];done)|(simp only [putAll,Act.put,List.setIfInBounds_toArray,List.set_cons_zero,List.set_cons_succ];rfl)) (hJ1_3 (v330,v334) _ ⟨hHeld,(pr_ HO326.out),(pr_ HO331.out),(by refine pr_ ?_;exact Kd.R_mono HO335.out (fun _ hk => ⟨hk.1.2,hk.2⟩)),(pe_ BK321.out),(pe_ BK322.out),(pe_ BK327.out),(be3_ HB.out GE321.out GE322.out GE327.out)⟩)
          ·skip
           refine box_step ?hg (N:=6) ?hd (cs:=#[.int .i64 0,.slice none 0 0]) (t:=35) ?hr ?_;(case hd => rfl);(case hg => rfl);(case hr => first|(go_simp;done)|(go_simp;rfl))
           intro gb336 hg w20 hbox hb
           replace HO326:=Aside0.mk (Kd.R_below (pr_ HO326.out) hb)
           replace HO331:=Aside0.mk (Kd.R_below (pr_ HO331.out) hb)
           have BK336:=Aside0.mk (hbox)
           have GW336:=Aside0.mk (szg_ hg (below_size (be3_ HB.out GE321.out GE322.out GE327.out)))
           have GE336:=Aside0.mk (szg_ hg (below_size (be3_ HB.out GE321.out GE322.out GE327.out)))
           replace HB:=Aside0.mk (below_step (be3_ HB.out GE321.out GE322.out GE327.out) hb)
           have NB321_336:=Aside0.mk (nl_ hg BK321.out)
           have NB336_321:=Aside0.mk (ng_ hg BK321.out)
           replace BK321:=Aside0.mk (kb_ BK321.out hb)
           have NB322_336:=Aside0.mk (nl_ hg BK322.out)
           have NB336_322:=Aside0.mk (ng_ hg BK322.out)
           replace BK322:=Aside0.mk (kb_ BK322.out hb)
           have NB327_336:=Aside0.mk (nl_ hg BK327.out)
           have NB336_327:=Aside0.mk (ng_ hg BK327.out)
           replace BK327:=Aside0.mk (kb_ BK327.out hb)
           clear hb hbox hg
           refine hK.out _ _ ⟨(blk_cell BK321.out 0).trans rfl,(blk_cell BK321.out 1).trans rfl,(blk_cell BK321.out 2).trans rfl,(blk_cell BK321.out 3).trans rfl⟩ (fun hHeld => ?_)
           clear hK K
           refine norm_ (a':=?_) ?_ ?_
           rotate_left
           ·show Act.put _ (some 6) _ = _
            simp only [Act.put,List.setIfInBounds_toArray,List.set_cons_zero,List.set_cons_succ,i64_w,i32_w]
            rfl
           exact norm_ (by first|(simp only [putAll,Act.put,List.setIfInBounds_toArray,List.set_cons_zero,List.set_cons_succ];done)|(simp only [putAll,Act.put,List.setIfInBounds_toArray,List.set_cons_zero,List.set_cons_succ];rfl)) (hJ1_4 (v330,gb336) _ ⟨hHeld,(pr_ HO326.out),(pr_ HO331.out),(pe_ BK321.out),(pe_ BK322.out),(pe_ BK327.out),(pe_ BK336.out),GW336.out,GE336.out,NB321_336.out,NB336_321.out,NB322_336.out,NB336_322.out,NB327_336.out,NB336_327.out,(be4_ HB.out GE321.out GE322.out GE327.out GE336.out)⟩)
          ·skip
           refine box_step ?hg (N:=7) ?hd (cs:=#[.int .i64 0,.slice none 0 0]) (t:=35) ?hr ?_;(case hd => rfl);(case hg => rfl);(case hr => first|(go_simp;done)|(go_simp;rfl))
           intro gb337 hg w20 hbox hb
           replace HO326:=Aside0.mk (Kd.R_below (pr_ HO326.out) hb)
           replace HO331:=Aside0.mk (Kd.R_below (pr_ HO331.out) hb)
           have BK337:=Aside0.mk (hbox)
           have GW337:=Aside0.mk (szg_ hg (below_size (be3_ HB.out GE321.out GE322.out GE327.out)))
           have GE337:=Aside0.mk (szg_ hg (below_size (be3_ HB.out GE321.out GE322.out GE327.out)))
           replace HB:=Aside0.mk (below_step (be3_ HB.out GE321.out GE322.out GE327.out) hb)
           have NB321_337:=Aside0.mk (nl_ hg BK321.out)
           have NB337_321:=Aside0.mk (ng_ hg BK321.out)
           replace BK321:=Aside0.mk (kb_ BK321.out hb)
           have NB322_337:=Aside0.mk (nl_ hg BK322.out)
           have NB337_322:=Aside0.mk (ng_ hg BK322.out)
           replace BK322:=Aside0.mk (kb_ BK322.out hb)
           have NB327_337:=Aside0.mk (nl_ hg BK327.out)
           have NB337_327:=Aside0.mk (ng_ hg BK327.out)
           replace BK327:=Aside0.mk (kb_ BK327.out hb)
           clear hb hbox hg
           refine hK.out _ _ ⟨(blk_cell BK321.out 0).trans rfl,(blk_cell BK321.out 1).trans rfl,(blk_cell BK321.out 2).trans rfl,(blk_cell BK321.out 3).trans rfl⟩ (fun hHeld => ?_)
           clear hK K
           refine norm_ (a':=?_) ?_ ?_
           rotate_left
           ·show Act.put _ (some 7) _ = _
            simp only [Act.put,List.setIfInBounds_toArray,List.set_cons_zero,List.set_cons_succ,i64_w,i32_w]
            rfl
           exact norm_ (by first|(simp only [putAll,Act.put,List.setIfInBounds_toArray,List.set_cons_zero,List.set_cons_succ];done)|(simp only [putAll,Act.put,List.setIfInBounds_toArray,List.set_cons_zero,List.set_cons_succ];rfl)) (hJ1_5 (v330,gb337) _ ⟨hHeld,(pr_ HO326.out),(pr_ HO331.out),(pe_ BK321.out),(pe_ BK322.out),(pe_ BK327.out),(pe_ BK337.out),GW337.out,GE337.out,NB321_337.out,NB337_321.out,NB322_337.out,NB337_322.out,NB327_337.out,NB337_327.out,(be4_ HB.out GE321.out GE322.out GE327.out GE337.out)⟩)
        ·skip
         rintro ⟨gb336,gb337⟩ w20 ⟨hS_,h0_,h1_,h2_,h3_,h4_,h5_,h6_,h7_,h8_,h9_,h10_,h11_,h12_,h13_,h14_,h15_,h16_,h17_,h18_,h19_,h20_,h21_,h22_,h23_,h24_⟩
         have n0_ : Aside0 (Kd.R (Kd.int .i64) 3 w20 w.heap.size (fun _ => True) (.slice Ao15 t324.length co15) t324):=⟨h0_⟩
         have n1_ : Aside0 (w20.heap[gb321]? = some (.cells #[.int .i64 a0_0,.slice A0_1 l0_1.length c0_1,.slice A0_2 l0_2.length c0_2,.slice A0_3 l0_3.length c0_3] 33 (0,0))):=⟨h1_⟩
         have n2_ : Aside0 (w20.heap[gb322]? = some (.cells #[.int .i64 0,.slice none 0 0] 35 (0,0))):=⟨h2_⟩
         have n3_ : Aside0 (w20.heap[gb327]? = some (.cells #[.int .i64 t323,.slice Ao15 t324.length co15] 35 (0,0))):=⟨h3_⟩
         have n4_ : Aside0 (w20.heap[gb336]? = some (.cells #[.int .i64 0,.slice none 0 0] 35 (0,0))):=⟨h4_⟩
         have n5_ : Aside0 (w20.heap[gb337]? = some (.cells #[.int .i64 0,.slice none 0 0] 35 (0,0))):=⟨h5_⟩
         have n6_ : Aside0 (w.heap.size ≤ gb336):=⟨h6_⟩
         have n7_ : Aside0 (w.heap.size ≤ gb336):=⟨h7_⟩
         have n8_ : Aside0 (gb321 ≠ gb336):=⟨h8_⟩
         have n9_ : Aside0 (gb336 ≠ gb321):=⟨h9_⟩
         have n10_ : Aside0 (gb322 ≠ gb336):=⟨h10_⟩
         have n11_ : Aside0 (gb336 ≠ gb322):=⟨h11_⟩
         have n12_ : Aside0 (gb327 ≠ gb336):=⟨h12_⟩
         have n13_ : Aside0 (gb336 ≠ gb327):=⟨h13_⟩
         have n14_ : Aside0 (gb337 ≠ gb336):=⟨h14_⟩
         have n15_ : Aside0 (gb336 ≠ gb337):=⟨h15_⟩
         have n16_ : Aside0 (w.heap.size ≤ gb337):=⟨h16_⟩
         have n17_ : Aside0 (w.heap.size ≤ gb337):=⟨h17_⟩
         have n18_ : Aside0 (gb321 ≠ gb337):=⟨h18_⟩
         have n19_ : Aside0 (gb337 ≠ gb321):=⟨h19_⟩
         have n20_ : Aside0 (gb322 ≠ gb337):=⟨h20_⟩
         have n21_ : Aside0 (gb337 ≠ gb322):=⟨h21_⟩
         have n22_ : Aside0 (gb327 ≠ gb337):=⟨h22_⟩
         have n23_ : Aside0 (gb337 ≠ gb327):=⟨h23_⟩
         have n24_ : Aside0 (Below w.heap.size w w20):=⟨h24_⟩
         clear HO326
         clear BK321
         clear BK322
         clear BK327
         clear HB
         clear h0_ h1_ h2_ h3_ h4_ h5_ h6_ h7_ h8_ h9_ h10_ h11_ h12_ h13_ h14_ h15_ h16_ h17_ h18_ h19_ h20_ h21_ h22_ h23_ h24_
         have HO326:=n0_
         have BK321:=n1_
         have BK322:=n2_
         have BK327:=n3_
         have BK336:=n4_
         have BK337:=n5_
         have GW336:=n6_
         have GE336:=n7_
         have NB321_336:=n8_
         have NB336_321:=n9_
         have NB322_336:=n10_
         have NB336_322:=n11_
         have NB327_336:=n12_
         have NB336_327:=n13_
         have NB337_336:=n14_
         have NB336_337:=n15_
         have GW337:=n16_
         have GE337:=n17_
         have NB321_337:=n18_
         have NB337_321:=n19_
         have NB322_337:=n20_
         have NB337_322:=n21_
         have NB327_337:=n22_
         have NB337_327:=n23_
         have HB:=n24_
         clear n0_ n1_ n2_ n3_ n4_ n5_ n6_ n7_ n8_ n9_ n10_ n11_ n12_ n13_ n14_ n15_ n16_ n17_ n18_ n19_ n20_ n21_ n22_ n23_ n24_
         have hHeld : w20.cell? ⟨gb321,0,none⟩ = some (.int .i64 a0_0) ∧ w20.cell? ⟨gb321,1,none⟩ = some (.slice A0_1 l0_1.length c0_1) ∧ w20.cell? ⟨gb321,2,none⟩ = some (.slice A0_2 l0_2.length c0_2) ∧ w20.cell? ⟨gb321,3,none⟩ = some (.slice A0_3 l0_3.length c0_3):=hS_
         refine norm_ (a':=?_) ?_ ?_
         rotate_left
         ·simp only [putAll,Act.put,List.setIfInBounds_toArray,List.set_cons_zero,List.set_cons_succ]
          rfl
         refine one_ (i:=1) (N:=some 13) #[true,true,true,false,true,true,false,false] rfl rfl (one_of HT_.out (by kernel_rfl)) (by decide) (fun K hK => ?_)
         refine goes_ Try.func132 (by kernel_rfl) rfl #[.agg #[.int .i64 a0_0,.slice A0_1 l0_1.length c0_1,.slice A0_2 l0_2.length c0_2,.slice A0_3 l0_3.length c0_3],.string (⟨#[97]⟩ : ByteArray)] (by rfl) rfl rfl lp_ ?_
         with_reducible refine (spec_l3Matrix.calls k a0_0 _ _ l0_1 _ _ l0_2 _ _ l0_3 (⟨#[97]⟩ : ByteArray) t328 t329 _ ?side1 ?side2 ?side3 ?side4 ?side5 ?side6 A4.out).mono ?_
         (case side1 => exact cr_ (Kd.C_below HR0_1.out HB.out))
         (case side2 => exact HC0_1.out)
         (case side3 => exact cr_ (Kd.C_below HR0_2.out HB.out))
         (case side4 => exact HC0_2.out)
         (case side5 => exact cr_ (Kd.C_below HR0_3.out HB.out))
         (case side6 => exact HC0_3.out)
         rintro e w21 ⟨v330,rfl,ho0,hb⟩
         refine ⟨_,rfl,?_⟩
         have HO331:=Aside0.mk (Kd.R_lower (Kd.R_new' ho0 (Kd.R_lt (pr_ HO326.out))) (below_size (be5_ HB.out GE321.out GE322.out GE327.out GE336.out GE337.out)))
         replace HO326:=Aside0.mk (Kd.R_elder' (pr_ HO326.out) (Kd.R_base ho0) hb)
         replace BK321:=Aside0.mk (kb_ BK321.out hb)
         replace BK322:=Aside0.mk (kb_ BK322.out hb)
         replace BK327:=Aside0.mk (kb_ BK327.out hb)
         replace BK336:=Aside0.mk (kb_ BK336.out hb)
         replace BK337:=Aside0.mk (kb_ BK337.out hb)
         replace HB:=Aside0.mk (below_step (be5_ HB.out GE321.out GE322.out GE327.out GE336.out GE337.out) hb)
         (try clear hb)
         (try clear hb2)
         (try clear hk)
         (try clear hi)
         (try clear ho0)
         refine hK.out _ _ ⟨(blk_cell BK321.out 0).trans rfl,(blk_cell BK321.out 1).trans rfl,(blk_cell BK321.out 2).trans rfl,(blk_cell BK321.out 3).trans rfl⟩ (fun hHeld => ?_)
         clear hK K
         refine norm_ (a':=?_) ?_ ?_
         rotate_left
         ·show Act.put _ (some 13) _ = _
          simp only [Act.put,List.setIfInBounds_toArray,List.set_cons_zero,List.set_cons_succ,i64_w,i32_w]
          rfl
         exact norm_ (by first|(simp only [putAll,Act.put,List.setIfInBounds_toArray,List.set_cons_zero,List.set_cons_succ];done)|(simp only [putAll,Act.put,List.setIfInBounds_toArray,List.set_cons_zero,List.set_cons_succ];rfl)) (hJ1_4_5 (v330,gb336,gb337) _ ⟨hHeld,(by refine pr_ ?_;exact Kd.R_mono HO326.out (fun _ hk => hk.2)),(by refine pr_ ?_;exact Kd.R_mono HO331.out (fun _ hk => hk.2)),(pe_ BK321.out),(pe_ BK322.out),(pe_ BK327.out),(pe_ BK336.out),(pe_ BK337.out),GW336.out,GE336.out,NB321_336.out,NB336_321.out,NB322_336.out,NB336_322.out,NB327_336.out,NB336_327.out,NB337_336.out,NB336_337.out,GW337.out,GE337.out,NB321_337.out,NB337_321.out,NB322_337.out,NB337_322.out,NB327_337.out,NB337_327.out,(be5_ HB.out GE321.out GE322.out GE327.out GE336.out GE337.out)⟩)
       ·skip
        rintro ⟨v330,gb337⟩ w20 ⟨hS_,h0_,h1_,h2_,h3_,h4_,h5_,h6_,h7_,h8_,h9_,h10_,h11_,h12_,h13_,h14_⟩
        have n0_ : Aside0 (Kd.R (Kd.int .i64) 3 w20 w.heap.size (fun k_ => some k_ ≠ (v330 : Value).ownBlock) (.slice Ao15 t324.length co15) t324):=⟨h0_⟩
        have n1_ : Aside0 (Kd.R (Kd.int .i64) 3 w20 w.heap.size (fun k_ => some k_ ≠ (.slice Ao15 t324.length co15 : Value).ownBlock) v330 t329):=⟨h1_⟩
        have n2_ : Aside0 (w20.heap[gb321]? = some (.cells #[.int .i64 a0_0,.slice A0_1 l0_1.length c0_1,.slice A0_2 l0_2.length c0_2,.slice A0_3 l0_3.length c0_3] 33 (0,0))):=⟨h2_⟩
        have n3_ : Aside0 (w20.heap[gb322]? = some (.cells #[.int .i64 0,.slice none 0 0] 35 (0,0))):=⟨h3_⟩
        have n4_ : Aside0 (w20.heap[gb327]? = some (.cells #[.int .i64 t323,.slice Ao15 t324.length co15] 35 (0,0))):=⟨h4_⟩
        have n5_ : Aside0 (w20.heap[gb337]? = some (.cells #[.int .i64 0,.slice none 0 0] 35 (0,0))):=⟨h5_⟩
        have n6_ : Aside0 (w.heap.size ≤ gb337):=⟨h6_⟩
        have n7_ : Aside0 (w.heap.size ≤ gb337):=⟨h7_⟩
        have n8_ : Aside0 (gb321 ≠ gb337):=⟨h8_⟩
        have n9_ : Aside0 (gb337 ≠ gb321):=⟨h9_⟩
        have n10_ : Aside0 (gb322 ≠ gb337):=⟨h10_⟩
        have n11_ : Aside0 (gb337 ≠ gb322):=⟨h11_⟩
        have n12_ : Aside0 (gb327 ≠ gb337):=⟨h12_⟩
        have n13_ : Aside0 (gb337 ≠ gb327):=⟨h13_⟩
        have n14_ : Aside0 (Below w.heap.size w w20):=⟨h14_⟩
        clear HO326
        clear BK321
        clear BK322
        clear BK327
        clear HB
        clear h0_ h1_ h2_ h3_ h4_ h5_ h6_ h7_ h8_ h9_ h10_ h11_ h12_ h13_ h14_
        have HO326:=n0_
        have HO331:=n1_
        have BK321:=n2_
        have BK322:=n3_
        have BK327:=n4_
        have BK337:=n5_
        have GW337:=n6_
        have GE337:=n7_
        have NB321_337:=n8_
        have NB337_321:=n9_
        have NB322_337:=n10_
        have NB337_322:=n11_
        have NB327_337:=n12_
        have NB337_327:=n13_
        have HB:=n14_
        clear n0_ n1_ n2_ n3_ n4_ n5_ n6_ n7_ n8_ n9_ n10_ n11_ n12_ n13_ n14_
        have hHeld : w20.cell? ⟨gb321,0,none⟩ = some (.int .i64 a0_0) ∧ w20.cell? ⟨gb321,1,none⟩ = some (.slice A0_1 l0_1.length c0_1) ∧ w20.cell? ⟨gb321,2,none⟩ = some (.slice A0_2 l0_2.length c0_2) ∧ w20.cell? ⟨gb321,3,none⟩ = some (.slice A0_3 l0_3.length c0_3):=hS_
        refine norm_ (a':=?_) ?_ ?_
        rotate_left
        ·simp only [putAll,Act.put,List.setIfInBounds_toArray,List.set_cons_zero,List.set_cons_succ]
         rfl
        refine two_ (i:=3) (j:=4) (Ni:=some 15) (Nj:=some 6) #[true,true,true,true,false,true,false,false] #[true,true,true,false,true,true,false,false] rfl rfl rfl rfl (two_of HT_.out (by kernel_rfl)) (by decide) (by decide) (fun K hK => ?_) (fun K hK => ?_)
        ·skip
         refine goes_ Try.func132 (by kernel_rfl) rfl #[.agg #[.int .i64 a0_0,.slice A0_1 l0_1.length c0_1,.slice A0_2 l0_2.length c0_2,.slice A0_3 l0_3.length c0_3],.string (⟨#[98]⟩ : ByteArray)] (by rfl) rfl rfl lp_ ?_
         with_reducible refine (spec_l3Matrix.calls k a0_0 _ _ l0_1 _ _ l0_2 _ _ l0_3 (⟨#[98]⟩ : ByteArray) t332 t333 _ ?side1 ?side2 ?side3 ?side4 ?side5 ?side6 A5.out).mono ?_
         (case side1 => exact cr_ (Kd.C_below HR0_1.out HB.out))
         (case side2 => exact HC0_1.out)
         (case side3 => exact cr_ (Kd.C_below HR0_2.out HB.out))
         (case side4 => exact HC0_2.out)
         (case side5 => exact cr_ (Kd.C_below HR0_3.out HB.out))
         (case side6 => exact HC0_3.out)
         rintro e w21 ⟨v334,rfl,ho0,hb⟩
         refine ⟨_,rfl,?_⟩
         have HO335:=Aside0.mk (Kd.R_lower (Kd.R_new' (Kd.R_new' ho0 (Kd.R_lt (pr_ HO326.out))) (Kd.R_lt (pr_ HO331.out))) (below_size (be4_ HB.out GE321.out GE322.out GE327.out GE337.out)))
         replace HO326:=Aside0.mk (Kd.R_elder' (pr_ HO326.out) (Kd.R_base ho0) hb)
         replace HO331:=Aside0.mk (Kd.R_elder' (pr_ HO331.out) (Kd.R_base ho0) hb)
         replace BK321:=Aside0.mk (kb_ BK321.out hb)
         replace BK322:=Aside0.mk (kb_ BK322.out hb)
         replace BK327:=Aside0.mk (kb_ BK327.out hb)
         replace BK337:=Aside0.mk (kb_ BK337.out hb)
         replace HB:=Aside0.mk (below_step (be4_ HB.out GE321.out GE322.out GE327.out GE337.out) hb)
         (try clear hb)
         (try clear hb2)
         (try clear hk)
         (try clear hi)
         (try clear ho0)
         refine hK.out _ _ ⟨(blk_cell BK321.out 0).trans rfl,(blk_cell BK321.out 1).trans rfl,(blk_cell BK321.out 2).trans rfl,(blk_cell BK321.out 3).trans rfl⟩ (fun hHeld => ?_)
         clear hK K
         refine norm_ (a':=?_) ?_ ?_
         rotate_left
         ·show Act.put _ (some 15) _ = _
          simp only [Act.put,List.setIfInBounds_toArray,List.set_cons_zero,List.set_cons_succ,i64_w,i32_w]
          rfl
         exact norm_ (by first|(simp only [putAll,Act.put,List.setIfInBounds_toArray,List.set_cons_zero,List.set_cons_succ];done)|(simp only [putAll,Act.put,List.setIfInBounds_toArray,List.set_cons_zero,List.set_cons_succ];rfl)) (hJ1_3_5 (v330,v334,gb337) _ ⟨hHeld,(pr_ HO326.out),(pr_ HO331.out),(by refine pr_ ?_;exact Kd.R_mono HO335.out (fun _ hk => ⟨hk.1.2,hk.2⟩)),(pe_ BK321.out),(pe_ BK322.out),(pe_ BK327.out),(pe_ BK337.out),GW337.out,GE337.out,NB321_337.out,NB337_321.out,NB322_337.out,NB337_322.out,NB327_337.out,NB337_327.out,(be4_ HB.out GE321.out GE322.out GE327.out GE337.out)⟩)
        ·skip
         refine box_step ?hg (N:=6) ?hd (cs:=#[.int .i64 0,.slice none 0 0]) (t:=35) ?hr ?_;(case hd => rfl);(case hg => rfl);(case hr => first|(go_simp;done)|(go_simp;rfl))
         intro gb336 hg w21 hbox hb
         replace HO326:=Aside0.mk (Kd.R_below (pr_ HO326.out) hb)
         replace HO331:=Aside0.mk (Kd.R_below (pr_ HO331.out) hb)
         have BK336:=Aside0.mk (hbox)
         have GW336:=Aside0.mk (szg_ hg (below_size (be4_ HB.out GE321.out GE322.out GE327.out GE337.out)))
         have GE336:=Aside0.mk (szg_ hg (below_size (be4_ HB.out GE321.out GE322.out GE327.out GE337.out)))
         replace HB:=Aside0.mk (below_step (be4_ HB.out GE321.out GE322.out GE327.out GE337.out) hb)
         have NB321_336:=Aside0.mk (nl_ hg BK321.out)
         have NB336_321:=Aside0.mk (ng_ hg BK321.out)
         replace BK321:=Aside0.mk (kb_ BK321.out hb)
         have NB322_336:=Aside0.mk (nl_ hg BK322.out)
         have NB336_322:=Aside0.mk (ng_ hg BK322.out)
         replace BK322:=Aside0.mk (kb_ BK322.out hb)
         have NB327_336:=Aside0.mk (nl_ hg BK327.out)
         have NB336_327:=Aside0.mk (ng_ hg BK327.out)
         replace BK327:=Aside0.mk (kb_ BK327.out hb)
         have NB337_336:=Aside0.mk (nl_ hg BK337.out)
         have NB336_337:=Aside0.mk (ng_ hg BK337.out)
         replace BK337:=Aside0.mk (kb_ BK337.out hb)
         clear hb hbox hg
         refine hK.out _ _ ⟨(blk_cell BK321.out 0).trans rfl,(blk_cell BK321.out 1).trans rfl,(blk_cell BK321.out 2).trans rfl,(blk_cell BK321.out 3).trans rfl⟩ (fun hHeld => ?_)
         clear hK K
         refine norm_ (a':=?_) ?_ ?_
         rotate_left
         ·show Act.put _ (some 6) _ = _
          simp only [Act.put,List.setIfInBounds_toArray,List.set_cons_zero,List.set_cons_succ,i64_w,i32_w]
          rfl
         exact norm_ (by first|(simp only [putAll,Act.put,List.setIfInBounds_toArray,List.set_cons_zero,List.set_cons_succ];done)|(simp only [putAll,Act.put,List.setIfInBounds_toArray,List.set_cons_zero,List.set_cons_succ];rfl)) (hJ1_4_5 (v330,gb336,gb337) _ ⟨hHeld,(pr_ HO326.out),(pr_ HO331.out),(pe_ BK321.out),(pe_ BK322.out),(pe_ BK327.out),(pe_ BK336.out),(pe_ BK337.out),GW336.out,GE336.out,NB321_336.out,NB336_321.out,NB322_336.out,NB336_322.out,NB327_336.out,NB336_327.out,NB337_336.out,NB336_337.out,GW337.out,GE337.out,NB321_337.out,NB337_321.out,NB322_337.out,NB337_322.out,NB327_337.out,NB337_327.out,(be5_ HB.out GE321.out GE322.out GE327.out GE337.out GE336.out)⟩)
      ·skip
       rintro ⟨v330,gb336⟩ w20 ⟨hS_,h0_,h1_,h2_,h3_,h4_,h5_,h6_,h7_,h8_,h9_,h10_,h11_,h12_,h13_,h14_⟩
       have n0_ : Aside0 (Kd.R (Kd.int .i64) 3 w20 w.heap.size (fun k_ => some k_ ≠ (v330 : Value).ownBlock) (.slice Ao15 t324.length co15) t324):=⟨h0_⟩
       have n1_ : Aside0 (Kd.R (Kd.int .i64) 3 w20 w.heap.size (fun k_ => some k_ ≠ (.slice Ao15 t324.length co15 : Value).ownBlock) v330 t329):=⟨h1_⟩
       have n2_ : Aside0 (w20.heap[gb321]? = some (.cells #[.int .i64 a0_0,.slice A0_1 l0_1.length c0_1,.slice A0_2 l0_2.length c0_2,.slice A0_3 l0_3.length c0_3] 33 (0,0))):=⟨h2_⟩
       have n3_ : Aside0 (w20.heap[gb322]? = some (.cells #[.int .i64 0,.slice none 0 0] 35 (0,0))):=⟨h3_⟩
       have n4_ : Aside0 (w20.heap[gb327]? = some (.cells #[.int .i64 t323,.slice Ao15 t324.length co15] 35 (0,0))):=⟨h4_⟩
       have n5_ : Aside0 (w20.heap[gb336]? = some (.cells #[.int .i64 0,.slice none 0 0] 35 (0,0))):=⟨h5_⟩
       have n6_ : Aside0 (w.heap.size ≤ gb336):=⟨h6_⟩
       have n7_ : Aside0 (w.heap.size ≤ gb336):=⟨h7_⟩
       have n8_ : Aside0 (gb321 ≠ gb336):=⟨h8_⟩
       have n9_ : Aside0 (gb336 ≠ gb321):=⟨h9_⟩
       have n10_ : Aside0 (gb322 ≠ gb336):=⟨h10_⟩
       have n11_ : Aside0 (gb336 ≠ gb322):=⟨h11_⟩
       have n12_ : Aside0 (gb327 ≠ gb336):=⟨h12_⟩
       have n13_ : Aside0 (gb336 ≠ gb327):=⟨h13_⟩
       have n14_ : Aside0 (Below w.heap.size w w20):=⟨h14_⟩
       clear HO326
       clear BK321
       clear BK322
       clear BK327
       clear HB
       clear h0_ h1_ h2_ h3_ h4_ h5_ h6_ h7_ h8_ h9_ h10_ h11_ h12_ h13_ h14_
       have HO326:=n0_
       have HO331:=n1_
       have BK321:=n2_
       have BK322:=n3_
       have BK327:=n4_
       have BK336:=n5_
       have GW336:=n6_
       have GE336:=n7_
       have NB321_336:=n8_
       have NB336_321:=n9_
       have NB322_336:=n10_
       have NB336_322:=n11_
       have NB327_336:=n12_
       have NB336_327:=n13_
       have HB:=n14_
       clear n0_ n1_ n2_ n3_ n4_ n5_ n6_ n7_ n8_ n9_ n10_ n11_ n12_ n13_ n14_
       have hHeld : w20.cell? ⟨gb321,0,none⟩ = some (.int .i64 a0_0) ∧ w20.cell? ⟨gb321,1,none⟩ = some (.slice A0_1 l0_1.length c0_1) ∧ w20.cell? ⟨gb321,2,none⟩ = some (.slice A0_2 l0_2.length c0_2) ∧ w20.cell? ⟨gb321,3,none⟩ = some (.slice A0_3 l0_3.length c0_3):=hS_
       refine norm_ (a':=?_) ?_ ?_
       rotate_left
       ·simp only [putAll,Act.put,List.setIfInBounds_toArray,List.set_cons_zero,List.set_cons_succ]
        rfl
       refine two_ (i:=3) (j:=5) (Ni:=some 15) (Nj:=some 7) #[true,true,true,true,true,false,false,false] #[true,true,true,false,true,true,false,false] rfl rfl rfl rfl (two_of HT_.out (by kernel_rfl)) (by decide) (by decide) (fun K hK => ?_) (fun K hK => ?_)
       ·skip
        refine goes_ Try.func132 (by kernel_rfl) rfl #[.agg #[.int .i64 a0_0,.slice A0_1 l0_1.length c0_1,.slice A0_2 l0_2.length c0_2,.slice A0_3 l0_3.length c0_3],.string (⟨#[98]⟩ : ByteArray)] (by rfl) rfl rfl lp_ ?_
        with_reducible refine (spec_l3Matrix.calls k a0_0 _ _ l0_1 _ _ l0_2 _ _ l0_3 (⟨#[98]⟩ : ByteArray) t332 t333 _ ?side1 ?side2 ?side3 ?side4 ?side5 ?side6 A5.out).mono ?_
        (case side1 => exact cr_ (Kd.C_below HR0_1.out HB.out))
        (case side2 => exact HC0_1.out)
        (case side3 => exact cr_ (Kd.C_below HR0_2.out HB.out))
        (case side4 => exact HC0_2.out)
        (case side5 => exact cr_ (Kd.C_below HR0_3.out HB.out))
        (case side6 => exact HC0_3.out)
        rintro e w21 ⟨v334,rfl,ho0,hb⟩
        refine ⟨_,rfl,?_⟩
        have HO335:=Aside0.mk (Kd.R_lower (Kd.R_new' (Kd.R_new' ho0 (Kd.R_lt (pr_ HO326.out))) (Kd.R_lt (pr_ HO331.out))) (below_size (be4_ HB.out GE321.out GE322.out GE327.out GE336.out)))
        replace HO326:=Aside0.mk (Kd.R_elder' (pr_ HO326.out) (Kd.R_base ho0) hb)
        replace HO331:=Aside0.mk (Kd.R_elder' (pr_ HO331.out) (Kd.R_base ho0) hb)
        replace BK321:=Aside0.mk (kb_ BK321.out hb)
        replace BK322:=Aside0.mk (kb_ BK322.out hb)
        replace BK327:=Aside0.mk (kb_ BK327.out hb)
        replace BK336:=Aside0.mk (kb_ BK336.out hb)
        replace HB:=Aside0.mk (below_step (be4_ HB.out GE321.out GE322.out GE327.out GE336.out) hb)
        (try clear hb)
        (try clear hb2)
        (try clear hk)
        (try clear hi)
        (try clear ho0)
        refine hK.out _ _ ⟨(blk_cell BK321.out 0).trans rfl,(blk_cell BK321.out 1).trans rfl,(blk_cell BK321.out 2).trans rfl,(blk_cell BK321.out 3).trans rfl⟩ (fun hHeld => ?_)
        clear hK K
        refine norm_ (a':=?_) ?_ ?_
        rotate_left
        ·show Act.put _ (some 15) _ = _
         simp only [Act.put,List.setIfInBounds_toArray,List.set_cons_zero,List.set_cons_succ,i64_w,i32_w]
         rfl
        exact norm_ (by first|(simp only [putAll,Act.put,List.setIfInBounds_toArray,List.set_cons_zero,List.set_cons_succ];done)|(simp only [putAll,Act.put,List.setIfInBounds_toArray,List.set_cons_zero,List.set_cons_succ];rfl)) (hJ1_3_4 (v330,v334,gb336) _ ⟨hHeld,(pr_ HO326.out),(pr_ HO331.out),(by refine pr_ ?_;exact Kd.R_mono HO335.out (fun _ hk => ⟨hk.1.2,hk.2⟩)),(pe_ BK321.out),(pe_ BK322.out),(pe_ BK327.out),(pe_ BK336.out),GW336.out,GE336.out,NB321_336.out,NB336_321.out,NB322_336.out,NB336_322.out,NB327_336.out,NB336_327.out,(be4_ HB.out GE321.out GE322.out GE327.out GE336.out)⟩)
       ·skip
        refine box_step ?hg (N:=7) ?hd (cs:=#[.int .i64 0,.slice none 0 0]) (t:=35) ?hr ?_;(case hd => rfl);(case hg => rfl);(case hr => first|(go_simp;done)|(go_simp;rfl))
        intro gb337 hg w21 hbox hb
        replace HO326:=Aside0.mk (Kd.R_below (pr_ HO326.out) hb)
        replace HO331:=Aside0.mk (Kd.R_below (pr_ HO331.out) hb)
        have BK337:=Aside0.mk (hbox)
        have GW337:=Aside0.mk (szg_ hg (below_size (be4_ HB.out GE321.out GE322.out GE327.out GE336.out)))
        have GE337:=Aside0.mk (szg_ hg (below_size (be4_ HB.out GE321.out GE322.out GE327.out GE336.out)))
        replace HB:=Aside0.mk (below_step (be4_ HB.out GE321.out GE322.out GE327.out GE336.out) hb)
        have NB321_337:=Aside0.mk (nl_ hg BK321.out)
        have NB337_321:=Aside0.mk (ng_ hg BK321.out)
        replace BK321:=Aside0.mk (kb_ BK321.out hb)
        have NB322_337:=Aside0.mk (nl_ hg BK322.out)
        have NB337_322:=Aside0.mk (ng_ hg BK322.out)
        replace BK322:=Aside0.mk (kb_ BK322.out hb)
        have NB327_337:=Aside0.mk (nl_ hg BK327.out)
        have NB337_327:=Aside0.mk (ng_ hg BK327.out)
        replace BK327:=Aside0.mk (kb_ BK327.out hb)
        have NB336_337:=Aside0.mk (nl_ hg BK336.out)
        have NB337_336:=Aside0.mk (ng_ hg BK336.out)
        replace BK336:=Aside0.mk (kb_ BK336.out hb)
        clear hb hbox hg
        refine hK.out _ _ ⟨(blk_cell BK321.out 0).trans rfl,(blk_cell BK321.out 1).trans rfl,(blk_cell BK321.out 2).trans rfl,(blk_cell BK321.out 3).trans rfl⟩ (fun hHeld => ?_)
        clear hK K
        refine norm_ (a':=?_) ?_ ?_
        rotate_left
        ·show Act.put _ (some 7) _ = _
         simp only [Act.put,List.setIfInBounds_toArray,List.set_cons_zero,List.set_cons_succ,i64_w,i32_w]
         rfl
        exact norm_ (by first|(simp only [putAll,Act.put,List.setIfInBounds_toArray,List.set_cons_zero,List.set_cons_succ];done)|(simp only [putAll,Act.put,List.setIfInBounds_toArray,List.set_cons_zero,List.set_cons_succ];rfl)) (hJ1_4_5 (v330,gb336,gb337) _ ⟨hHeld,(pr_ HO326.out),(pr_ HO331.out),(pe_ BK321.out),(pe_ BK322.out),(pe_ BK327.out),(pe_ BK336.out),(pe_ BK337.out),GW336.out,GE336.out,NB321_336.out,NB336_321.out,NB322_336.out,NB336_322.out,NB327_336.out,NB336_327.out,NB337_336.out,NB336_337.out,GW337.out,GE337.out,NB321_337.out,NB337_321.out,NB322_337.out,NB337_322.out,NB327_337.out,NB337_327.out,(be5_ HB.out GE321.out GE322.out GE327.out GE336.out GE337.out)⟩)
     ·skip
      rintro ⟨v330,v334⟩ w20 ⟨hS_,h0_,h1_,h2_,h3_,h4_,h5_,h6_⟩
      have n0_ : Aside0 (Kd.R (Kd.int .i64) 3 w20 w.heap.size (fun k_ => some k_ ≠ (v330 : Value).ownBlock ∧ some k_ ≠ (v334 : Value).ownBlock) (.slice Ao15 t324.length co15) t324):=⟨h0_⟩
      have n1_ : Aside0 (Kd.R (Kd.int .i64) 3 w20 w.heap.size (fun k_ => some k_ ≠ (.slice Ao15 t324.length co15 : Value).ownBlock ∧ some k_ ≠ (v334 : Value).ownBlock) v330 t329):=⟨h1_⟩
      have n2_ : Aside0 (Kd.R (Kd.int .i64) 3 w20 w.heap.size (fun k_ => some k_ ≠ (.slice Ao15 t324.length co15 : Value).ownBlock ∧ some k_ ≠ (v330 : Value).ownBlock) v334 t333):=⟨h2_⟩
      have n3_ : Aside0 (w20.heap[gb321]? = some (.cells #[.int .i64 a0_0,.slice A0_1 l0_1.length c0_1,.slice A0_2 l0_2.length c0_2,.slice A0_3 l0_3.length c0_3] 33 (0,0))):=⟨h3_⟩
      have n4_ : Aside0 (w20.heap[gb322]? = some (.cells #[.int .i64 0,.slice none 0 0] 35 (0,0))):=⟨h4_⟩
      have n5_ : Aside0 (w20.heap[gb327]? = some (.cells #[.int .i64 t323,.slice Ao15 t324.length co15] 35 (0,0))):=⟨h5_⟩
      have n6_ : Aside0 (Below w.heap.size w w20):=⟨h6_⟩
      clear HO326
      clear BK321
      clear BK322
      clear BK327
      clear HB
      clear h0_ h1_ h2_ h3_ h4_ h5_ h6_
      have HO326:=n0_
      have HO331:=n1_
      have HO335:=n2_
      have BK321:=n3_
      have BK322:=n4_
      have BK327:=n5_
      have HB:=n6_
      clear n0_ n1_ n2_ n3_ n4_ n5_ n6_
      have hHeld : w20.cell? ⟨gb321,0,none⟩ = some (.int .i64 a0_0) ∧ w20.cell? ⟨gb321,1,none⟩ = some (.slice A0_1 l0_1.length c0_1) ∧ w20.cell? ⟨gb321,2,none⟩ = some (.slice A0_2 l0_2.length c0_2) ∧ w20.cell? ⟨gb321,3,none⟩ = some (.slice A0_3 l0_3.length c0_3):=hS_
      refine norm_ (a':=?_) ?_ ?_
      rotate_left
      ·simp only [putAll,Act.put,List.setIfInBounds_toArray,List.set_cons_zero,List.set_cons_succ]
       rfl
      refine two_ (i:=4) (j:=5) (Ni:=some 6) (Nj:=some 7) #[true,true,true,true,true,false,false,false] #[true,true,true,true,false,true,false,false] rfl rfl rfl rfl (two_of HT_.out (by kernel_rfl)) (by decide) (by decide) (fun K hK => ?_) (fun K hK => ?_)
      ·skip
       refine box_step ?hg (N:=6) ?hd (cs:=#[.int .i64 0,.slice none 0 0]) (t:=35) ?hr ?_;(case hd => rfl);(case hg => rfl);(case hr => first|(go_simp;done)|(go_simp;rfl))
       intro gb336 hg w21 hbox hb
       replace HO326:=Aside0.mk (Kd.R_below (pr_ HO326.out) hb)
       replace HO331:=Aside0.mk (Kd.R_below (pr_ HO331.out) hb)
       replace HO335:=Aside0.mk (Kd.R_below (pr_ HO335.out) hb)
       have BK336:=Aside0.mk (hbox)
       have GW336:=Aside0.mk (szg_ hg (below_size (be3_ HB.out GE321.out GE322.out GE327.out)))
       have GE336:=Aside0.mk (szg_ hg (below_size (be3_ HB.out GE321.out GE322.out GE327.out)))
       replace HB:=Aside0.mk (below_step (be3_ HB.out GE321.out GE322.out GE327.out) hb)
       have NB321_336:=Aside0.mk (nl_ hg BK321.out)
       have NB336_321:=Aside0.mk (ng_ hg BK321.out)
       replace BK321:=Aside0.mk (kb_ BK321.out hb)
       have NB322_336:=Aside0.mk (nl_ hg BK322.out)
       have NB336_322:=Aside0.mk (ng_ hg BK322.out)
       replace BK322:=Aside0.mk (kb_ BK322.out hb)
       have NB327_336:=Aside0.mk (nl_ hg BK327.out)
       have NB336_327:=Aside0.mk (ng_ hg BK327.out)
       replace BK327:=Aside0.mk (kb_ BK327.out hb)
       clear hb hbox hg
       refine hK.out _ _ ⟨(blk_cell BK321.out 0).trans rfl,(blk_cell BK321.out 1).trans rfl,(blk_cell BK321.out 2).trans rfl,(blk_cell BK321.out 3).trans rfl⟩ (fun hHeld => ?_)
       clear hK K
       refine norm_ (a':=?_) ?_ ?_
       rotate_left
       ·show Act.put _ (some 6) _ = _
        simp only [Act.put,List.setIfInBounds_toArray,List.set_cons_zero,List.set_cons_succ,i64_w,i32_w]
        rfl
       exact norm_ (by first|(simp only [putAll,Act.put,List.setIfInBounds_toArray,List.set_cons_zero,List.set_cons_succ];done)|(simp only [putAll,Act.put,List.setIfInBounds_toArray,List.set_cons_zero,List.set_cons_succ];rfl)) (hJ1_3_4 (v330,v334,gb336) _ ⟨hHeld,(pr_ HO326.out),(pr_ HO331.out),(pr_ HO335.out),(pe_ BK321.out),(pe_ BK322.out),(pe_ BK327.out),(pe_ BK336.out),GW336.out,GE336.out,NB321_336.out,NB336_321.out,NB322_336.out,NB336_322.out,NB327_336.out,NB336_327.out,(be4_ HB.out GE321.out GE322.out GE327.out GE336.out)⟩)
      ·skip
       refine box_step ?hg (N:=7) ?hd (cs:=#[.int .i64 0,.slice none 0 0]) (t:=35) ?hr ?_;(case hd => rfl);(case hg => rfl);(case hr => first|(go_simp;done)|(go_simp;rfl))
       intro gb337 hg w21 hbox hb
       replace HO326:=Aside0.mk (Kd.R_below (pr_ HO326.out) hb)
       replace HO331:=Aside0.mk (Kd.R_below (pr_ HO331.out) hb)
       replace HO335:=Aside0.mk (Kd.R_below (pr_ HO335.out) hb)
       have BK337:=Aside0.mk (hbox)
       have GW337:=Aside0.mk (szg_ hg (below_size (be3_ HB.out GE321.out GE322.out GE327.out)))
       have GE337:=Aside0.mk (szg_ hg (below_size (be3_ HB.out GE321.out GE322.out GE327.out)))
       replace HB:=Aside0.mk (below_step (be3_ HB.out GE321.out GE322.out GE327.out) hb)
       have NB321_337:=Aside0.mk (nl_ hg BK321.out)
       have NB337_321:=Aside0.mk (ng_ hg BK321.out)
       replace BK321:=Aside0.mk (kb_ BK321.out hb)
       have NB322_337:=Aside0.mk (nl_ hg BK322.out)
       have NB337_322:=Aside0.mk (ng_ hg BK322.out)
       replace BK322:=Aside0.mk (kb_ BK322.out hb)
       have NB327_337:=Aside0.mk (nl_ hg BK327.out)
       have NB337_327:=Aside0.mk (ng_ hg BK327.out)
       replace BK327:=Aside0.mk (kb_ BK327.out hb)
       clear hb hbox hg
       refine hK.out _ _ ⟨(blk_cell BK321.out 0).trans rfl,(blk_cell BK321.out 1).trans rfl,(blk_cell BK321.out 2).trans rfl,(blk_cell BK321.out 3).trans rfl⟩ (fun hHeld => ?_)
       clear hK K
       refine norm_ (a':=?_) ?_ ?_
       rotate_left
       ·show Act.put _ (some 7) _ = _
        simp only [Act.put,List.setIfInBounds_toArray,List.set_cons_zero,List.set_cons_succ,i64_w,i32_w]
        rfl
       exact norm_ (by first|(simp only [putAll,Act.put,List.setIfInBounds_toArray,List.set_cons_zero,List.set_cons_succ];done)|(simp only [putAll,Act.put,List.setIfInBounds_toArray,List.set_cons_zero,List.set_cons_succ];rfl)) (hJ1_3_5 (v330,v334,gb337) _ ⟨hHeld,(pr_ HO326.out),(pr_ HO331.out),(pr_ HO335.out),(pe_ BK321.out),(pe_ BK322.out),(pe_ BK327.out),(pe_ BK337.out),GW337.out,GE337.out,NB321_337.out,NB337_321.out,NB322_337.out,NB337_322.out,NB327_337.out,NB337_327.out,(be4_ HB.out GE321.out GE322.out GE327.out GE337.out)⟩)
    ·skip
     rintro ⟨v330,gb336,gb337⟩ w21 ⟨hS_,h0_,h1_,h2_,h3_,h4_,h5_,h6_,h7_,h8_,h9_,h10_,h11_,h12_,h13_,h14_,h15_,h16_,h17_,h18_,h19_,h20_,h21_,h22_,h23_,h24_,h25_⟩
     have n0_ : Aside0 (Kd.R (Kd.int .i64) 3 w21 w.heap.size (fun k_ => some k_ ≠ (v330 : Value).ownBlock) (.slice Ao15 t324.length co15) t324):=⟨h0_⟩
     have n1_ : Aside0 (Kd.R (Kd.int .i64) 3 w21 w.heap.size (fun k_ => some k_ ≠ (.slice Ao15 t324.length co15 : Value).ownBlock) v330 t329):=⟨h1_⟩
     have n2_ : Aside0 (w21.heap[gb321]? = some (.cells #[.int .i64 a0_0,.slice A0_1 l0_1.length c0_1,.slice A0_2 l0_2.length c0_2,.slice A0_3 l0_3.length c0_3] 33 (0,0))):=⟨h2_⟩
     have n3_ : Aside0 (w21.heap[gb322]? = some (.cells #[.int .i64 0,.slice none 0 0] 35 (0,0))):=⟨h3_⟩
     have n4_ : Aside0 (w21.heap[gb327]? = some (.cells #[.int .i64 t323,.slice Ao15 t324.length co15] 35 (0,0))):=⟨h4_⟩
     have n5_ : Aside0 (w21.heap[gb336]? = some (.cells #[.int .i64 0,.slice none 0 0] 35 (0,0))):=⟨h5_⟩
     have n6_ : Aside0 (w21.heap[gb337]? = some (.cells #[.int .i64 0,.slice none 0 0] 35 (0,0))):=⟨h6_⟩
     have n7_ : Aside0 (w.heap.size ≤ gb336):=⟨h7_⟩
     have n8_ : Aside0 (w.heap.size ≤ gb336):=⟨h8_⟩
     have n9_ : Aside0 (gb321 ≠ gb336):=⟨h9_⟩
     have n10_ : Aside0 (gb336 ≠ gb321):=⟨h10_⟩
     have n11_ : Aside0 (gb322 ≠ gb336):=⟨h11_⟩
     have n12_ : Aside0 (gb336 ≠ gb322):=⟨h12_⟩
     have n13_ : Aside0 (gb327 ≠ gb336):=⟨h13_⟩
     have n14_ : Aside0 (gb336 ≠ gb327):=⟨h14_⟩
     have n15_ : Aside0 (gb337 ≠ gb336):=⟨h15_⟩
     have n16_ : Aside0 (gb336 ≠ gb337):=⟨h16_⟩
     have n17_ : Aside0 (w.heap.size ≤ gb337):=⟨h17_⟩
     have n18_ : Aside0 (w.heap.size ≤ gb337):=⟨h18_⟩
     have n19_ : Aside0 (gb321 ≠ gb337):=⟨h19_⟩
     have n20_ : Aside0 (gb337 ≠ gb321):=⟨h20_⟩
     have n21_ : Aside0 (gb322 ≠ gb337):=⟨h21_⟩
     have n22_ : Aside0 (gb337 ≠ gb322):=⟨h22_⟩
     have n23_ : Aside0 (gb327 ≠ gb337):=⟨h23_⟩
     have n24_ : Aside0 (gb337 ≠ gb327):=⟨h24_⟩
     have n25_ : Aside0 (Below w.heap.size w w21):=⟨h25_⟩
     clear HO326
     clear BK321
     clear BK322
     clear BK327
     clear HB
     clear h0_ h1_ h2_ h3_ h4_ h5_ h6_ h7_ h8_ h9_ h10_ h11_ h12_ h13_ h14_ h15_ h16_ h17_ h18_ h19_ h20_ h21_ h22_ h23_ h24_ h25_
     have HO326:=n0_
     have HO331:=n1_
     have BK321:=n2_
     have BK322:=n3_
     have BK327:=n4_
     have BK336:=n5_
     have BK337:=n6_
     have GW336:=n7_
     have GE336:=n8_
     have NB321_336:=n9_
     have NB336_321:=n10_
     have NB322_336:=n11_
     have NB336_322:=n12_
     have NB327_336:=n13_
     have NB336_327:=n14_
     have NB337_336:=n15_
     have NB336_337:=n16_
     have GW337:=n17_
     have GE337:=n18_
     have NB321_337:=n19_
     have NB337_321:=n20_
     have NB322_337:=n21_
     have NB337_322:=n22_
     have NB327_337:=n23_
     have NB337_327:=n24_
     have HB:=n25_
     clear n0_ n1_ n2_ n3_ n4_ n5_ n6_ n7_ n8_ n9_ n10_ n11_ n12_ n13_ n14_ n15_ n16_ n17_ n18_ n19_ n20_ n21_ n22_ n23_ n24_ n25_
     have hHeld : w21.cell? ⟨gb321,0,none⟩ = some (.int .i64 a0_0) ∧ w21.cell? ⟨gb321,1,none⟩ = some (.slice A0_1 l0_1.length c0_1) ∧ w21.cell? ⟨gb321,2,none⟩ = some (.slice A0_2 l0_2.length c0_2) ∧ w21.cell? ⟨gb321,3,none⟩ = some (.slice A0_3 l0_3.length c0_3):=hS_
     refine norm_ (a':=?_) ?_ ?_
     rotate_left
     ·simp only [putAll,Act.put,List.setIfInBounds_toArray,List.set_cons_zero,List.set_cons_succ]
      rfl
     refine one_ (i:=3) (N:=some 15) #[true,true,true,true,true,true,false,false] rfl rfl (one_of HT_.out (by kernel_rfl)) (by decide) (fun K hK => ?_)
     refine goes_ Try.func132 (by kernel_rfl) rfl #[.agg #[.int .i64 a0_0,.slice A0_1 l0_1.length c0_1,.slice A0_2 l0_2.length c0_2,.slice A0_3 l0_3.length c0_3],.string (⟨#[98]⟩ : ByteArray)] (by rfl) rfl rfl lp_ ?_
     with_reducible refine (spec_l3Matrix.calls k a0_0 _ _ l0_1 _ _ l0_2 _ _ l0_3 (⟨#[98]⟩ : ByteArray) t332 t333 _ ?side1 ?side2 ?side3 ?side4 ?side5 ?side6 A5.out).mono ?_
     (case side1 => exact cr_ (Kd.C_below HR0_1.out HB.out))
     (case side2 => exact HC0_1.out)
     (case side3 => exact cr_ (Kd.C_below HR0_2.out HB.out))
     (case side4 => exact HC0_2.out)
     (case side5 => exact cr_ (Kd.C_below HR0_3.out HB.out))
     (case side6 => exact HC0_3.out)
     rintro e w22 ⟨v334,rfl,ho0,hb⟩
     refine ⟨_,rfl,?_⟩
     have HO335:=Aside0.mk (Kd.R_lower (Kd.R_new' (Kd.R_new' ho0 (Kd.R_lt (pr_ HO326.out))) (Kd.R_lt (pr_ HO331.out))) (below_size (be5_ HB.out GE321.out GE322.out GE327.out GE336.out GE337.out)))
     replace HO326:=Aside0.mk (Kd.R_elder' (pr_ HO326.out) (Kd.R_base ho0) hb)
     replace HO331:=Aside0.mk (Kd.R_elder' (pr_ HO331.out) (Kd.R_base ho0) hb)
     replace BK321:=Aside0.mk (kb_ BK321.out hb)
     replace BK322:=Aside0.mk (kb_ BK322.out hb)
     replace BK327:=Aside0.mk (kb_ BK327.out hb)
     replace BK336:=Aside0.mk (kb_ BK336.out hb)
     replace BK337:=Aside0.mk (kb_ BK337.out hb)
     replace HB:=Aside0.mk (below_step (be5_ HB.out GE321.out GE322.out GE327.out GE336.out GE337.out) hb)
     (try clear hb)
     (try clear hb2)
     (try clear hk)
     (try clear hi)
     (try clear ho0)
     refine hK.out _ _ ⟨(blk_cell BK321.out 0).trans rfl,(blk_cell BK321.out 1).trans rfl,(blk_cell BK321.out 2).trans rfl,(blk_cell BK321.out 3).trans rfl⟩ (fun hHeld => ?_)
     clear hK K
     refine norm_ (a':=?_) ?_ ?_
     rotate_left
     ·show Act.put _ (some 15) _ = _
      simp only [Act.put,List.setIfInBounds_toArray,List.set_cons_zero,List.set_cons_succ,i64_w,i32_w]
      rfl
     exact norm_ (by first|(simp only [putAll,Act.put,List.setIfInBounds_toArray,List.set_cons_zero,List.set_cons_succ];done)|(simp only [putAll,Act.put,List.setIfInBounds_toArray,List.set_cons_zero,List.set_cons_succ];rfl)) (hJ1_3_4_5 (v330,v334,gb336,gb337) _ ⟨hHeld,(pr_ HO326.out),(pr_ HO331.out),(by refine pr_ ?_;exact Kd.R_mono HO335.out (fun _ hk => ⟨hk.1.2,hk.2⟩)),(pe_ BK321.out),(pe_ BK322.out),(pe_ BK327.out),(pe_ BK336.out),(pe_ BK337.out),GW336.out,GE336.out,NB321_336.out,NB336_321.out,NB322_336.out,NB336_322.out,NB327_336.out,NB336_327.out,NB337_336.out,NB336_337.out,GW337.out,GE337.out,NB321_337.out,NB337_321.out,NB322_337.out,NB337_322.out,NB327_337.out,NB337_327.out,(be5_ HB.out GE321.out GE322.out GE327.out GE336.out GE337.out)⟩)
   ·skip
    rintro ⟨v330,v334,gb337⟩ w21 ⟨hS_,h0_,h1_,h2_,h3_,h4_,h5_,h6_,h7_,h8_,h9_,h10_,h11_,h12_,h13_,h14_,h15_⟩
    have n0_ : Aside0 (Kd.R (Kd.int .i64) 3 w21 w.heap.size (fun k_ => some k_ ≠ (v330 : Value).ownBlock ∧ some k_ ≠ (v334 : Value).ownBlock) (.slice Ao15 t324.length co15) t324):=⟨h0_⟩
    have n1_ : Aside0 (Kd.R (Kd.int .i64) 3 w21 w.heap.size (fun k_ => some k_ ≠ (.slice Ao15 t324.length co15 : Value).ownBlock ∧ some k_ ≠ (v334 : Value).ownBlock) v330 t329):=⟨h1_⟩
    have n2_ : Aside0 (Kd.R (Kd.int .i64) 3 w21 w.heap.size (fun k_ => some k_ ≠ (.slice Ao15 t324.length co15 : Value).ownBlock ∧ some k_ ≠ (v330 : Value).ownBlock) v334 t333):=⟨h2_⟩
    have n3_ : Aside0 (w21.heap[gb321]? = some (.cells #[.int .i64 a0_0,.slice A0_1 l0_1.length c0_1,.slice A0_2 l0_2.length c0_2,.slice A0_3 l0_3.length c0_3] 33 (0,0))):=⟨h3_⟩
    have n4_ : Aside0 (w21.heap[gb322]? = some (.cells #[.int .i64 0,.slice none 0 0] 35 (0,0))):=⟨h4_⟩
    have n5_ : Aside0 (w21.heap[gb327]? = some (.cells #[.int .i64 t323,.slice Ao15 t324.length co15] 35 (0,0))):=⟨h5_⟩
    have n6_ : Aside0 (w21.heap[gb337]? = some (.cells #[.int .i64 0,.slice none 0 0] 35 (0,0))):=⟨h6_⟩
    have n7_ : Aside0 (w.heap.size ≤ gb337):=⟨h7_⟩
    have n8_ : Aside0 (w.heap.size ≤ gb337):=⟨h8_⟩
    have n9_ : Aside0 (gb321 ≠ gb337):=⟨h9_⟩
    have n10_ : Aside0 (gb337 ≠ gb321):=⟨h10_⟩
    have n11_ : Aside0 (gb322 ≠ gb337):=⟨h11_⟩
    have n12_ : Aside0 (gb337 ≠ gb322):=⟨h12_⟩
    have n13_ : Aside0 (gb327 ≠ gb337):=⟨h13_⟩
    have n14_ : Aside0 (gb337 ≠ gb327):=⟨h14_⟩
    have n15_ : Aside0 (Below w.heap.size w w21):=⟨h15_⟩
    clear HO326
    clear BK321
    clear BK322
    clear BK327
    clear HB
    clear h0_ h1_ h2_ h3_ h4_ h5_ h6_ h7_ h8_ h9_ h10_ h11_ h12_ h13_ h14_ h15_
    have HO326:=n0_
    have HO331:=n1_
    have HO335:=n2_
    have BK321:=n3_
    have BK322:=n4_
    have BK327:=n5_
    have BK337:=n6_
    have GW337:=n7_
    have GE337:=n8_
    have NB321_337:=n9_
    have NB337_321:=n10_
    have NB322_337:=n11_
    have NB337_322:=n12_
    have NB327_337:=n13_
    have NB337_327:=n14_
    have HB:=n15_
    clear n0_ n1_ n2_ n3_ n4_ n5_ n6_ n7_ n8_ n9_ n10_ n11_ n12_ n13_ n14_ n15_
    have hHeld : w21.cell? ⟨gb321,0,none⟩ = some (.int .i64 a0_0) ∧ w21.cell? ⟨gb321,1,none⟩ = some (.slice A0_1 l0_1.length c0_1) ∧ w21.cell? ⟨gb321,2,none⟩ = some (.slice A0_2 l0_2.length c0_2) ∧ w21.cell? ⟨gb321,3,none⟩ = some (.slice A0_3 l0_3.length c0_3):=hS_
    refine norm_ (a':=?_) ?_ ?_
    rotate_left
    ·simp only [putAll,Act.put,List.setIfInBounds_toArray,List.set_cons_zero,List.set_cons_succ]
     rfl
    refine one_ (i:=4) (N:=some 6) #[true,true,true,true,true,true,false,false] rfl rfl (one_of HT_.out (by kernel_rfl)) (by decide) (fun K hK => ?_)
    refine box_step ?hg (N:=6) ?hd (cs:=#[.int .i64 0,.slice none 0 0]) (t:=35) ?hr ?_;(case hd => rfl);(case hg => rfl);(case hr => first|(go_simp;done)|(go_simp;rfl))
    intro gb336 hg w22 hbox hb
    replace HO326:=Aside0.mk (Kd.R_below (pr_ HO326.out) hb)
    replace HO331:=Aside0.mk (Kd.R_below (pr_ HO331.out) hb)
    replace HO335:=Aside0.mk (Kd.R_below (pr_ HO335.out) hb)
    have BK336:=Aside0.mk (hbox)
    have GW336:=Aside0.mk (szg_ hg (below_size (be4_ HB.out GE321.out GE322.out GE327.out GE337.out)))
    have GE336:=Aside0.mk (szg_ hg (below_size (be4_ HB.out GE321.out GE322.out GE327.out GE337.out)))
    replace HB:=Aside0.mk (below_step (be4_ HB.out GE321.out GE322.out GE327.out GE337.out) hb)
    have NB321_336:=Aside0.mk (nl_ hg BK321.out)
    have NB336_321:=Aside0.mk (ng_ hg BK321.out)
    replace BK321:=Aside0.mk (kb_ BK321.out hb)
    have NB322_336:=Aside0.mk (nl_ hg BK322.out)
    have NB336_322:=Aside0.mk (ng_ hg BK322.out)
    replace BK322:=Aside0.mk (kb_ BK322.out hb)
    have NB327_336:=Aside0.mk (nl_ hg BK327.out)
    have NB336_327:=Aside0.mk (ng_ hg BK327.out)
    replace BK327:=Aside0.mk (kb_ BK327.out hb)
    have NB337_336:=Aside0.mk (nl_ hg BK337.out)
    have NB336_337:=Aside0.mk (ng_ hg BK337.out)
    replace BK337:=Aside0.mk (kb_ BK337.out hb)
    clear hb hbox hg
    refine hK.out _ _ ⟨(blk_cell BK321.out 0).trans rfl,(blk_cell BK321.out 1).trans rfl,(blk_cell BK321.out 2).trans rfl,(blk_cell BK321.out 3).trans rfl⟩ (fun hHeld => ?_)
    clear hK K
    refine norm_ (a':=?_) ?_ ?_
    rotate_left
    ·show Act.put _ (some 6) _ = _
     simp only [Act.put,List.setIfInBounds_toArray,List.set_cons_zero,List.set_cons_succ,i64_w,i32_w]
     rfl
    exact norm_ (by first|(simp only [putAll,Act.put,List.setIfInBounds_toArray,List.set_cons_zero,List.set_cons_succ];done)|(simp only [putAll,Act.put,List.setIfInBounds_toArray,List.set_cons_zero,List.set_cons_succ];rfl)) (hJ1_3_4_5 (v330,v334,gb336,gb337) _ ⟨hHeld,(pr_ HO326.out),(pr_ HO331.out),(pr_ HO335.out),(pe_ BK321.out),(pe_ BK322.out),(pe_ BK327.out),(pe_ BK336.out),(pe_ BK337.out),GW336.out,GE336.out,NB321_336.out,NB336_321.out,NB322_336.out,NB336_322.out,NB327_336.out,NB336_327.out,NB337_336.out,NB336_337.out,GW337.out,GE337.out,NB321_337.out,NB337_321.out,NB322_337.out,NB337_322.out,NB327_337.out,NB337_327.out,(be5_ HB.out GE321.out GE322.out GE327.out GE337.out GE336.out)⟩)
  ·skip
   rintro ⟨v330,v334,gb336⟩ w21 ⟨hS_,h0_,h1_,h2_,h3_,h4_,h5_,h6_,h7_,h8_,h9_,h10_,h11_,h12_,h13_,h14_,h15_⟩
   have n0_ : Aside0 (Kd.R (Kd.int .i64) 3 w21 w.heap.size (fun k_ => some k_ ≠ (v330 : Value).ownBlock ∧ some k_ ≠ (v334 : Value).ownBlock) (.slice Ao15 t324.length co15) t324):=⟨h0_⟩
   have n1_ : Aside0 (Kd.R (Kd.int .i64) 3 w21 w.heap.size (fun k_ => some k_ ≠ (.slice Ao15 t324.length co15 : Value).ownBlock ∧ some k_ ≠ (v334 : Value).ownBlock) v330 t329):=⟨h1_⟩
   have n2_ : Aside0 (Kd.R (Kd.int .i64) 3 w21 w.heap.size (fun k_ => some k_ ≠ (.slice Ao15 t324.length co15 : Value).ownBlock ∧ some k_ ≠ (v330 : Value).ownBlock) v334 t333):=⟨h2_⟩
   have n3_ : Aside0 (w21.heap[gb321]? = some (.cells #[.int .i64 a0_0,.slice A0_1 l0_1.length c0_1,.slice A0_2 l0_2.length c0_2,.slice A0_3 l0_3.length c0_3] 33 (0,0))):=⟨h3_⟩
   have n4_ : Aside0 (w21.heap[gb322]? = some (.cells #[.int .i64 0,.slice none 0 0] 35 (0,0))):=⟨h4_⟩
   have n5_ : Aside0 (w21.heap[gb327]? = some (.cells #[.int .i64 t323,.slice Ao15 t324.length co15] 35 (0,0))):=⟨h5_⟩
   have n6_ : Aside0 (w21.heap[gb336]? = some (.cells #[.int .i64 0,.slice none 0 0] 35 (0,0))):=⟨h6_⟩
   have n7_ : Aside0 (w.heap.size ≤ gb336):=⟨h7_⟩
   have n8_ : Aside0 (w.heap.size ≤ gb336):=⟨h8_⟩
   have n9_ : Aside0 (gb321 ≠ gb336):=⟨h9_⟩
   have n10_ : Aside0 (gb336 ≠ gb321):=⟨h10_⟩
   have n11_ : Aside0 (gb322 ≠ gb336):=⟨h11_⟩
   have n12_ : Aside0 (gb336 ≠ gb322):=⟨h12_⟩
   have n13_ : Aside0 (gb327 ≠ gb336):=⟨h13_⟩
   have n14_ : Aside0 (gb336 ≠ gb327):=⟨h14_⟩
   have n15_ : Aside0 (Below w.heap.size w w21):=⟨h15_⟩
   clear HO326
   clear BK321
   clear BK322
   clear BK327
   clear HB
   clear h0_ h1_ h2_ h3_ h4_ h5_ h6_ h7_ h8_ h9_ h10_ h11_ h12_ h13_ h14_ h15_
   have HO326:=n0_
   have HO331:=n1_
   have HO335:=n2_
   have BK321:=n3_
   have BK322:=n4_
   have BK327:=n5_
   have BK336:=n6_
   have GW336:=n7_
   have GE336:=n8_
   have NB321_336:=n9_
   have NB336_321:=n10_
   have NB322_336:=n11_
   have NB336_322:=n12_
   have NB327_336:=n13_
   have NB336_327:=n14_
   have HB:=n15_
   clear n0_ n1_ n2_ n3_ n4_ n5_ n6_ n7_ n8_ n9_ n10_ n11_ n12_ n13_ n14_ n15_
   have hHeld : w21.cell? ⟨gb321,0,none⟩ = some (.int .i64 a0_0) ∧ w21.cell? ⟨gb321,1,none⟩ = some (.slice A0_1 l0_1.length c0_1) ∧ w21.cell? ⟨gb321,2,none⟩ = some (.slice A0_2 l0_2.length c0_2) ∧ w21.cell? ⟨gb321,3,none⟩ = some (.slice A0_3 l0_3.length c0_3):=hS_
   refine norm_ (a':=?_) ?_ ?_
   rotate_left
   ·simp only [putAll,Act.put,List.setIfInBounds_toArray,List.set_cons_zero,List.set_cons_succ]
    rfl
   refine one_ (i:=5) (N:=some 7) #[true,true,true,true,true,true,false,false] rfl rfl (one_of HT_.out (by kernel_rfl)) (by decide) (fun K hK => ?_)
   refine box_step ?hg (N:=7) ?hd (cs:=#[.int .i64 0,.slice none 0 0]) (t:=35) ?hr ?_;(case hd => rfl);(case hg => rfl);(case hr => first|(go_simp;done)|(go_simp;rfl))
   intro gb337 hg w22 hbox hb
   replace HO326:=Aside0.mk (Kd.R_below (pr_ HO326.out) hb)
   replace HO331:=Aside0.mk (Kd.R_below (pr_ HO331.out) hb)
   replace HO335:=Aside0.mk (Kd.R_below (pr_ HO335.out) hb)
   have BK337:=Aside0.mk (hbox)
   have GW337:=Aside0.mk (szg_ hg (below_size (be4_ HB.out GE321.out GE322.out GE327.out GE336.out)))
   have GE337:=Aside0.mk (szg_ hg (below_size (be4_ HB.out GE321.out GE322.out GE327.out GE336.out)))
   replace HB:=Aside0.mk (below_step (be4_ HB.out GE321.out GE322.out GE327.out GE336.out) hb)
   have NB321_337:=Aside0.mk (nl_ hg BK321.out)
   have NB337_321:=Aside0.mk (ng_ hg BK321.out)
   replace BK321:=Aside0.mk (kb_ BK321.out hb)
   have NB322_337:=Aside0.mk (nl_ hg BK322.out)
   have NB337_322:=Aside0.mk (ng_ hg BK322.out)
   replace BK322:=Aside0.mk (kb_ BK322.out hb)
   have NB327_337:=Aside0.mk (nl_ hg BK327.out)
   have NB337_327:=Aside0.mk (ng_ hg BK327.out)
   replace BK327:=Aside0.mk (kb_ BK327.out hb)
   have NB336_337:=Aside0.mk (nl_ hg BK336.out)
   have NB337_336:=Aside0.mk (ng_ hg BK336.out)
   replace BK336:=Aside0.mk (kb_ BK336.out hb)
   clear hb hbox hg
   refine hK.out _ _ ⟨(blk_cell BK321.out 0).trans rfl,(blk_cell BK321.out 1).trans rfl,(blk_cell BK321.out 2).trans rfl,(blk_cell BK321.out 3).trans rfl⟩ (fun hHeld => ?_)
   clear hK K
   refine norm_ (a':=?_) ?_ ?_
   rotate_left
   ·show Act.put _ (some 7) _ = _
    simp only [Act.put,List.setIfInBounds_toArray,List.set_cons_zero,List.set_cons_succ,i64_w,i32_w]
    rfl
   exact norm_ (by first|(simp only [putAll,Act.put,List.setIfInBounds_toArray,List.set_cons_zero,List.set_cons_succ];done)|(simp only [putAll,Act.put,List.setIfInBounds_toArray,List.set_cons_zero,List.set_cons_succ];rfl)) (hJ1_3_4_5 (v330,v334,gb336,gb337) _ ⟨hHeld,(pr_ HO326.out),(pr_ HO331.out),(pr_ HO335.out),(pe_ BK321.out),(pe_ BK322.out),(pe_ BK327.out),(pe_ BK336.out),(pe_ BK337.out),GW336.out,GE336.out,NB321_336.out,NB336_321.out,NB322_336.out,NB336_322.out,NB327_336.out,NB336_327.out,NB337_336.out,NB336_337.out,GW337.out,GE337.out,NB321_337.out,NB337_321.out,NB322_337.out,NB337_322.out,NB327_337.out,NB337_327.out,(be5_ HB.out GE321.out GE322.out GE327.out GE336.out GE337.out)⟩)
 rintro ⟨v330,v334,gb336,gb337⟩ w22 ⟨hS_,h0_,h1_,h2_,h3_,h4_,h5_,h6_,h7_,h8_,h9_,h10_,h11_,h12_,h13_,h14_,h15_,h16_,h17_,h18_,h19_,h20_,h21_,h22_,h23_,h24_,h25_,h26_⟩
 have n0_ : Aside0 (Kd.R (Kd.int .i64) 3 w22 w.heap.size (fun k_ => some k_ ≠ (v330 : Value).ownBlock ∧ some k_ ≠ (v334 : Value).ownBlock) (.slice Ao15 t324.length co15) t324):=⟨h0_⟩
 have n1_ : Aside0 (Kd.R (Kd.int .i64) 3 w22 w.heap.size (fun k_ => some k_ ≠ (.slice Ao15 t324.length co15 : Value).ownBlock ∧ some k_ ≠ (v334 : Value).ownBlock) v330 t329):=⟨h1_⟩
 have n2_ : Aside0 (Kd.R (Kd.int .i64) 3 w22 w.heap.size (fun k_ => some k_ ≠ (.slice Ao15 t324.length co15 : Value).ownBlock ∧ some k_ ≠ (v330 : Value).ownBlock) v334 t333):=⟨h2_⟩
 have n3_ : Aside0 (w22.heap[gb321]? = some (.cells #[.int .i64 a0_0,.slice A0_1 l0_1.length c0_1,.slice A0_2 l0_2.length c0_2,.slice A0_3 l0_3.length c0_3] 33 (0,0))):=⟨h3_⟩
 have n4_ : Aside0 (w22.heap[gb322]? = some (.cells #[.int .i64 0,.slice none 0 0] 35 (0,0))):=⟨h4_⟩
 have n5_ : Aside0 (w22.heap[gb327]? = some (.cells #[.int .i64 t323,.slice Ao15 t324.length co15] 35 (0,0))):=⟨h5_⟩
 have n6_ : Aside0 (w22.heap[gb336]? = some (.cells #[.int .i64 0,.slice none 0 0] 35 (0,0))):=⟨h6_⟩
 have n7_ : Aside0 (w22.heap[gb337]? = some (.cells #[.int .i64 0,.slice none 0 0] 35 (0,0))):=⟨h7_⟩
 have n8_ : Aside0 (w.heap.size ≤ gb336):=⟨h8_⟩
 have n9_ : Aside0 (w.heap.size ≤ gb336):=⟨h9_⟩
 have n10_ : Aside0 (gb321 ≠ gb336):=⟨h10_⟩
 have n11_ : Aside0 (gb336 ≠ gb321):=⟨h11_⟩
 have n12_ : Aside0 (gb322 ≠ gb336):=⟨h12_⟩
 have n13_ : Aside0 (gb336 ≠ gb322):=⟨h13_⟩
 have n14_ : Aside0 (gb327 ≠ gb336):=⟨h14_⟩
 have n15_ : Aside0 (gb336 ≠ gb327):=⟨h15_⟩
 have n16_ : Aside0 (gb337 ≠ gb336):=⟨h16_⟩
 have n17_ : Aside0 (gb336 ≠ gb337):=⟨h17_⟩
 have n18_ : Aside0 (w.heap.size ≤ gb337):=⟨h18_⟩
 have n19_ : Aside0 (w.heap.size ≤ gb337):=⟨h19_⟩
 have n20_ : Aside0 (gb321 ≠ gb337):=⟨h20_⟩
 have n21_ : Aside0 (gb337 ≠ gb321):=⟨h21_⟩
 have n22_ : Aside0 (gb322 ≠ gb337):=⟨h22_⟩
 have n23_ : Aside0 (gb337 ≠ gb322):=⟨h23_⟩
 have n24_ : Aside0 (gb327 ≠ gb337):=⟨h24_⟩
 have n25_ : Aside0 (gb337 ≠ gb327):=⟨h25_⟩
 have n26_ : Aside0 (Below w.heap.size w w22):=⟨h26_⟩
 clear HO326
 clear BK321
 clear BK322
 clear BK327
 clear HB
 clear h0_ h1_ h2_ h3_ h4_ h5_ h6_ h7_ h8_ h9_ h10_ h11_ h12_ h13_ h14_ h15_ h16_ h17_ h18_ h19_ h20_ h21_ h22_ h23_ h24_ h25_ h26_
 have HO326:=n0_
 have HO331:=n1_
 have HO335:=n2_
 have BK321:=n3_
 have BK322:=n4_
 have BK327:=n5_
 have BK336:=n6_
 have BK337:=n7_
 have GW336:=n8_
 have GE336:=n9_
 have NB321_336:=n10_
 have NB336_321:=n11_
 have NB322_336:=n12_
 have NB336_322:=n13_
 have NB327_336:=n14_
 have NB336_327:=n15_
 have NB337_336:=n16_
 have NB336_337:=n17_
 have GW337:=n18_
 have GE337:=n19_
 have NB321_337:=n20_
 have NB337_321:=n21_
 have NB322_337:=n22_
 have NB337_322:=n23_
 have NB327_337:=n24_
 have NB337_327:=n25_
 have HB:=n26_
 clear n0_ n1_ n2_ n3_ n4_ n5_ n6_ n7_ n8_ n9_ n10_ n11_ n12_ n13_ n14_ n15_ n16_ n17_ n18_ n19_ n20_ n21_ n22_ n23_ n24_ n25_ n26_
 have hHeld : w22.cell? ⟨gb321,0,none⟩ = some (.int .i64 a0_0) ∧ w22.cell? ⟨gb321,1,none⟩ = some (.slice A0_1 l0_1.length c0_1) ∧ w22.cell? ⟨gb321,2,none⟩ = some (.slice A0_2 l0_2.length c0_2) ∧ w22.cell? ⟨gb321,3,none⟩ = some (.slice A0_3 l0_3.length c0_3):=hS_
 obtain ⟨Ao24,co24,eo24⟩:=Kd.R_slice HO331.out
 (first|subst eo24|(injection eo24 with f1_ f2_ f3_;have f4_:=f1_.symm;have f5_:=f3_.symm;clear f1_ f2_ f3_;subst f4_;subst f5_))
 obtain ⟨Ao27,co27,eo27⟩:=Kd.R_slice HO335.out
 (first|subst eo27|(injection eo27 with f1_ f2_ f3_;have f4_:=f1_.symm;have f5_:=f3_.symm;clear f1_ f2_ f3_;subst f4_;subst f5_))
 refine norm_ (a':=?_) ?_ ?_
 rotate_left
 ·simp only [putAll,Act.put,List.setIfInBounds_toArray,List.set_cons_zero,List.set_cons_succ]
  rfl
 refine one_ (i:=6) (N:=none) #[true,true,true,true,true,true,true,false] rfl rfl (one_of HT_.out (by kernel_rfl)) (by decide) (fun K hK => ?_)
 have hs23 : w22.cell? ⟨gb336,0,none⟩ = some (.int .i64 0):=(blk_cell BK336.out 0).trans rfl
 have hfs23:=blk_frozen BK336.out 0
 have hns23_0:=NB321_336.out
 have hns23_1:=NB322_336.out
 have hns23_2:=NB327_336.out
 have hns23_4:=NB337_336.out
 have hms23_0:=NB336_321.out
 have hms23_1:=NB336_322.out
 have hms23_2:=NB336_327.out
 have hms23_4:=NB336_337.out
 have hs25 : w22.cell? ⟨gb336,1,none⟩ = some (.slice none 0 0):=(blk_cell BK336.out 1).trans rfl
 have hfs25:=blk_frozen BK336.out 1
 have hns25_0:=NB321_336.out
 have hns25_1:=NB322_336.out
 have hns25_2:=NB327_336.out
 have hns25_4:=NB337_336.out
 have hms25_0:=NB336_321.out
 have hms25_1:=NB336_322.out
 have hms25_2:=NB336_327.out
 have hms25_4:=NB336_337.out
 refine skip_ (w1:=?_) (by rfl) rfl ?_ ?_
 rotate_left
 ·go_simp
  rfl
 refine hK.out _ _ ⟨((cell_far (p:=⟨gb336,_,none⟩) NB321_336.out _).trans (((cell_far (p:=⟨gb336,_,none⟩) NB321_336.out _).trans (hHeld.1)))),((cell_far (p:=⟨gb336,_,none⟩) NB321_336.out _).trans (((cell_far (p:=⟨gb336,_,none⟩) NB321_336.out _).trans (hHeld.2.1)))),((cell_far (p:=⟨gb336,_,none⟩) NB321_336.out _).trans (((cell_far (p:=⟨gb336,_,none⟩) NB321_336.out _).trans (hHeld.2.2.1)))),((cell_far (p:=⟨gb336,_,none⟩) NB321_336.out _).trans (((cell_far (p:=⟨gb336,_,none⟩) NB321_336.out _).trans (hHeld.2.2.2))))⟩ (fun hHeld => ?_)
 clear hK K
 refine one_ (i:=7) (N:=none) #[true,true,true,true,true,true,true,true] rfl rfl (one_of HT_.out (by kernel_rfl)) (by decide) (fun K hK => ?_)
 have hs26 : w22.cell? ⟨gb337,0,none⟩ = some (.int .i64 0):=(blk_cell BK337.out 0).trans rfl
 have hfs26:=blk_frozen BK337.out 0
 have hns26_0:=NB321_337.out
 have hns26_1:=NB322_337.out
 have hns26_2:=NB327_337.out
 have hns26_3:=NB336_337.out
 have hms26_0:=NB337_321.out
 have hms26_1:=NB337_322.out
 have hms26_2:=NB337_327.out
 have hms26_3:=NB337_336.out
 have hs28 : w22.cell? ⟨gb337,1,none⟩ = some (.slice none 0 0):=(blk_cell BK337.out 1).trans rfl
 have hfs28:=blk_frozen BK337.out 1
 have hns28_0:=NB321_337.out
 have hns28_1:=NB322_337.out
 have hns28_2:=NB327_337.out
 have hns28_3:=NB336_337.out
 have hms28_0:=NB337_321.out
 have hms28_1:=NB337_322.out
 have hms28_2:=NB337_327.out
 have hms28_3:=NB337_336.out
 refine skip_ (w1:=?_) (by rfl) rfl ?_ ?_
 rotate_left
 ·go_simp
  rfl
 refine hK.out _ _ ⟨((cell_far (p:=⟨gb337,_,none⟩) NB321_337.out _).trans (((cell_far (p:=⟨gb337,_,none⟩) NB321_337.out _).trans (hHeld.1)))),((cell_far (p:=⟨gb337,_,none⟩) NB321_337.out _).trans (((cell_far (p:=⟨gb337,_,none⟩) NB321_337.out _).trans (hHeld.2.1)))),((cell_far (p:=⟨gb337,_,none⟩) NB321_337.out _).trans (((cell_far (p:=⟨gb337,_,none⟩) NB321_337.out _).trans (hHeld.2.2.1)))),((cell_far (p:=⟨gb337,_,none⟩) NB321_337.out _).trans (((cell_far (p:=⟨gb337,_,none⟩) NB321_337.out _).trans (hHeld.2.2.2))))⟩ (fun hHeld => ?_)
 clear hK K
 refine done_ (done_of HT_.out (by kernel_rfl)) ?_
 try go_wp2
 go_loopg [18] k (fun kq v18 w' => ∃ (x18_1 : Int) (x328000_1 : Int) (x328001_1 : List Int) (u328001 : Value),v18 = .int .i64 x18_1 ∧ Aside0 (spec_l4Matrix.l0 kq a1 (a1.size : Int) x18_1 x328000_1 x328001_1 t328 t329 t332 t333 = some (r1,r2)) ∧ Aside0 (kq ≤ k) ∧ Aside0 (Kd.R (Kd.int .i64) 3 w' w.heap.size (fun k_ => some k_ ≠ ((.slice Ao24 t329.length co24) : Value).ownBlock ∧ some k_ ≠ ((.slice Ao27 t333.length co27) : Value).ownBlock) u328001 x328001_1) ∧ Aside0 (Kd.R (Kd.int .i64) 3 w' w.heap.size (fun k_ => some k_ ≠ (u328001 : Value).ownBlock ∧ some k_ ≠ ((.slice Ao27 t333.length co27) : Value).ownBlock) (.slice Ao24 t329.length co24) t329) ∧ Aside0 (Kd.R (Kd.int .i64) 3 w' w.heap.size (fun k_ => some k_ ≠ (u328001 : Value).ownBlock ∧ some k_ ≠ ((.slice Ao24 t329.length co24) : Value).ownBlock) (.slice Ao27 t333.length co27) t333) ∧ Aside0 (w'.heap[gb321]? = some (.cells #[.int .i64 a0_0,(.slice A0_1 l0_1.length c0_1),(.slice A0_2 l0_2.length c0_2),(.slice A0_3 l0_3.length c0_3)] 33 (0,0))) ∧ Aside0 (w'.heap[gb322]? = some (.cells #[.int .i64 0,(.slice none 0 0)] 35 (0,0))) ∧ Aside0 (w'.heap[gb327]? = some (.cells #[.int .i64 x328000_1,u328001] 35 (0,0))) ∧ Aside0 (w'.heap[gb336]? = some (.cells #[.int .i64 t328,(.slice Ao24 t329.length co24)] 35 (0,0))) ∧ Aside0 (w'.heap[gb337]? = some (.cells #[.int .i64 t332,(.slice Ao27 t333.length co27)] 35 (0,0))) ∧ Aside0 (Below w.heap.size w w'))
 case atStart => exact ⟨(0),(t323),(t324),(.slice Ao15 t324.length co15),rs_,H',⟨Nat.le_refl _⟩,⟨by refine pr_ ?_;exact Kd.R_mono (Kd.R_far (p:=⟨gb337,1,none⟩) (Kd.R_far (p:=⟨gb337,0,none⟩) (Kd.R_far (p:=⟨gb336,1,none⟩) (Kd.R_far (p:=⟨gb336,0,none⟩) (Kd.R_types (Kd.R_types HO326.out BK336.out (by decide)) BK337.out (by decide)) (fun _ hk => hk.1.2) (.int .i64 t328)) (fun _ hk => hk.1.2) (.slice Ao24 t329.length co24)) (fun _ hk => hk.2) (.int .i64 t332)) (fun _ hk => hk.2) (.slice Ao27 t333.length co27)) (fun _ hk => ⟨hk.1.1.1,hk.1.1.2⟩)⟩,⟨by refine pr_ ?_;exact Kd.R_mono (Kd.R_far (p:=⟨gb337,1,none⟩) (Kd.R_far (p:=⟨gb337,0,none⟩) (Kd.R_far (p:=⟨gb336,1,none⟩) (Kd.R_far (p:=⟨gb336,0,none⟩) (Kd.R_types (Kd.R_types HO331.out BK336.out (by decide)) BK337.out (by decide)) (fun _ hk => hk.1.2) (.int .i64 t328)) (fun _ hk => hk.1.2) (.slice Ao24 t329.length co24)) (fun _ hk => hk.2) (.int .i64 t332)) (fun _ hk => hk.2) (.slice Ao27 t333.length co27)) (fun _ hk => ⟨hk.1.1.1,hk.1.1.2⟩)⟩,⟨by refine pr_ ?_;exact Kd.R_mono (Kd.R_far (p:=⟨gb337,1,none⟩) (Kd.R_far (p:=⟨gb337,0,none⟩) (Kd.R_far (p:=⟨gb336,1,none⟩) (Kd.R_far (p:=⟨gb336,0,none⟩) (Kd.R_types (Kd.R_types HO335.out BK336.out (by decide)) BK337.out (by decide)) (fun _ hk => hk.1.2) (.int .i64 t328)) (fun _ hk => hk.1.2) (.slice Ao24 t329.length co24)) (fun _ hk => hk.2) (.int .i64 t332)) (fun _ hk => hk.2) (.slice Ao27 t333.length co27)) (fun _ hk => ⟨hk.1.1.1,hk.1.1.2⟩)⟩,⟨by refine pe_ ?_;refine blk_far ?_ NB321_337.out _;refine pe_ ?_;refine blk_far ?_ NB321_337.out _;refine pe_ ?_;refine blk_far ?_ NB321_336.out _;refine pe_ ?_;refine blk_far ?_ NB321_336.out _;refine pe_ ?_;exact BK321.out⟩,⟨by refine pe_ ?_;refine blk_far ?_ NB322_337.out _;refine pe_ ?_;refine blk_far ?_ NB322_337.out _;refine pe_ ?_;refine blk_far ?_ NB322_336.out _;refine pe_ ?_;refine blk_far ?_ NB322_336.out _;refine pe_ ?_;exact BK322.out⟩,⟨by refine pe_ ?_;refine blk_far ?_ NB327_337.out _;refine pe_ ?_;refine blk_far ?_ NB327_337.out _;refine pe_ ?_;refine blk_far ?_ NB327_336.out _;refine pe_ ?_;refine blk_far ?_ NB327_336.out _;refine pe_ ?_;exact BK327.out⟩,⟨by refine pe_ ?_;refine blk_far ?_ NB336_337.out _;refine pe_ ?_;refine blk_far ?_ NB336_337.out _;refine pe_ ?_;refine blk_put (cs:=#[.int .i64 t328,.slice none 0 0]) ?_ 1 _ rfl;refine pe_ ?_;refine blk_put (cs:=#[.int .i64 0,.slice none 0 0]) ?_ 0 _ rfl;refine pe_ ?_;exact BK336.out⟩,⟨by refine pe_ ?_;refine blk_put (cs:=#[.int .i64 t332,.slice none 0 0]) ?_ 1 _ rfl;refine pe_ ?_;refine blk_put (cs:=#[.int .i64 0,.slice none 0 0]) ?_ 0 _ rfl;refine pe_ ?_;refine blk_far ?_ NB337_336.out _;refine pe_ ?_;refine blk_far ?_ NB337_336.out _;refine pe_ ?_;exact BK337.out⟩,⟨be5_ HB.out GE321.out GE322.out GE327.out GE336.out GE337.out⟩⟩
 case round =>
  clear H'
  try clear c1
  try clear p2
  try clear c13
  obtain ⟨x18_1,x328000_1,x328001_1,u328001,rfl,HA,HK1,HO_328001,HO_337001,HO_338001,BK321,BK322,BK327,BK336,BK337,HB⟩:=hrel
  cases gk with
  | zero => exact absurd HA.out (by simp [spec_l4Matrix.l0])
  | succ k1 =>
   have H:=HA.out
   clear HA
   simp only [spec_l4Matrix.l0] at H
   by_cases c29 : x18_1 < (a1.size : Int)
   ·rw [if_pos c29] at H
    have c29b0 : decide (x18_1 < (a1.size : Int)) = true:=decide_eq_true c29
    clear c29
    by_cases c30 : 0 ≤ x18_1
    ·rw [if_pos c30] at H
     have c30b0 : decide (0 ≤ x18_1) = true:=decide_eq_true c30
     clear c30
     by_cases c31 : x18_1 < (a1.size : Int)
     ·rw [if_pos c31] at H
      have c31b0 : decide (x18_1 < (a1.size : Int)) = true:=decide_eq_true c31
      clear c31
      by_cases c33 : (bt a1 x18_1) = 97
      ·rw [if_pos c33] at H
       have c33b0 : ((bt a1 x18_1) == 97) = true:=beq_iff_eq.mpr c33
       have c33b1 : ((bt a1 x18_1) != 97) = false:=bne_eq_false_iff_eq.mpr c33
       clear c33
       replace H:=Option.bind_eq_some_iff.mp H
       obtain ⟨⟨t338,t339⟩,A340,H⟩:=H
       replace H : (spec_l4Matrix.l0 k1 a1 (a1.size : Int) (wrap64 (x18_1 + 1)) t338 t339 t328 t329 t332 t333) = some (r1,r2):=H
       have A34:=Aside0.mk A340
       clear A340
       have H':=Aside0.mk H
       clear H
       have p32 : 0 ≤ (x18_1 : Int):=of_decide_eq_true (by first|(with_reducible assumption)|assumption)
       have q32 : x18_1 < (a1.size : Int):=of_decide_eq_true (by first|(with_reducible assumption)|assumption)
       have hx32:=bt_at a1 x18_1
       replace p32:=eq_true p32
       replace q32:=eq_true q32
       have hnb35:=NB327_321.out
       have hnc35:=NB321_327.out
       have hnb36:=NB327_322.out
       have hnc36:=NB322_327.out
       have hnb37:=NB327_336.out
       have hnc37:=NB336_327.out
       have hnb38:=NB327_337.out
       have hnc38:=NB337_327.out
       obtain ⟨hcz39_0,hcz39_1,hfz39_0,hfz39_1⟩:=cf2_ BK327.out
       have hnb40:=NB336_321.out
       have hnc40:=NB321_336.out
       have hnb41:=NB336_322.out
       have hnc41:=NB322_336.out
       have hnb42:=NB336_337.out
       have hnc42:=NB337_336.out
       obtain ⟨hcz43_0,hcz43_1,hfz43_0,hfz43_1⟩:=cf2_ BK336.out
       obtain ⟨Ao44,co44,eo44⟩:=Kd.R_slice HO_328001.out
       subst eo44
       go_wp2_with (first|((with_reducible refine gate_callee (f:=133) rfl ?_);refine goesL_ (some 27) rfl rfl Try.func133 (by kernel_rfl) rfl #[.agg #[.int .i64 x328000_1,.slice Ao44 x328001_1.length co44],.agg #[.int .i64 t328,.slice Ao24 t329.length co24]] rfl lp_ ?_;(with_reducible refine (spec_l2Mul.calls k1 x328000_1 _ _ x328001_1 t328 _ _ t329 t338 t339 _ ?side1 ?side2 ?side3 ?side4 A34.out).mono ?_);(case side1 => exact cr_ (Kd.R_reads' HO_328001.out).2.2);(case side2 => exact (Kd.R_reads' HO_328001.out).2.1);(case side3 => exact cr_ (Kd.R_reads' HO_337001.out).2.2);(case side4 => exact (Kd.R_reads' HO_337001.out).2.1);rintro e w45 ⟨v340,rfl,ho0,hb⟩;refine ⟨_,rfl,?_⟩;have HO341:=Aside0.mk (Kd.R_lower (Kd.R_new' (Kd.R_new' (Kd.R_new' ho0 (Kd.R_lt (pr_ HO_328001.out))) (Kd.R_lt (pr_ HO_337001.out))) (Kd.R_lt (pr_ HO_338001.out))) (below_size (be5_ HB.out GE321.out GE322.out GE327.out GE336.out GE337.out)));replace HO_328001:=Aside0.mk (Kd.R_elder' (pr_ HO_328001.out) (Kd.R_base ho0) hb);replace HO_337001:=Aside0.mk (Kd.R_elder' (pr_ HO_337001.out) (Kd.R_base ho0) hb);replace HO_338001:=Aside0.mk (Kd.R_elder' (pr_ HO_338001.out) (Kd.R_base ho0) hb);replace BK321:=Aside0.mk (kb_ BK321.out hb);replace BK322:=Aside0.mk (kb_ BK322.out hb);replace BK327:=Aside0.mk (kb_ BK327.out hb);replace BK336:=Aside0.mk (kb_ BK336.out hb);replace BK337:=Aside0.mk (kb_ BK337.out hb);replace HB:=Aside0.mk (below_step (be5_ HB.out GE321.out GE322.out GE327.out GE336.out GE337.out) hb);(try clear hb);(try clear hb2);(try clear hk);(try clear hi);(try clear ho0);obtain ⟨hcz46_0,hcz46_1,hfz46_0,hfz46_1⟩:=cf2_ BK327.out;obtain ⟨Ao47,co47,eo47⟩:=Kd.R_slice HO341.out;subst eo47))
       go_roundg k1
       case measure => have:=HK1.out;omega
       case rel => exact ⟨(wrap64 (x18_1 + 1)),(t338),(t339),(.slice Ao47 t339.length co47),rs_,H',⟨by have:=HK1.out;omega⟩,⟨by refine pr_ ?_;exact Kd.R_mono (Kd.R_far (p:=⟨gb327,1,none⟩) (Kd.R_far (p:=⟨gb327,0,none⟩) (Kd.R_types HO341.out BK327.out (by decide)) (fun _ hk => hk.2) (.int .i64 t338)) (fun _ hk => hk.2) (.slice Ao47 t339.length co47)) (fun _ hk => ⟨hk.1.1.2,hk.1.2⟩)⟩,⟨by refine pr_ ?_;exact Kd.R_mono (Kd.R_far (p:=⟨gb327,1,none⟩) (Kd.R_far (p:=⟨gb327,0,none⟩) (Kd.R_types HO_337001.out BK327.out (by decide)) (fun _ hk => hk.2) (.int .i64 t338)) (fun _ hk => hk.2) (.slice Ao47 t339.length co47)) (fun _ hk => ⟨hk.1.2,hk.1.1.2⟩)⟩,⟨by refine pr_ ?_;exact Kd.R_mono (Kd.R_far (p:=⟨gb327,1,none⟩) (Kd.R_far (p:=⟨gb327,0,none⟩) (Kd.R_types HO_338001.out BK327.out (by decide)) (fun _ hk => hk.2) (.int .i64 t338)) (fun _ hk => hk.2) (.slice Ao47 t339.length co47)) (fun _ hk => ⟨hk.1.2,hk.1.1.2⟩)⟩,⟨by refine pe_ ?_;refine blk_far ?_ NB321_327.out _;refine pe_ ?_;refine blk_far ?_ NB321_327.out _;refine pe_ ?_;exact BK321.out⟩,⟨by refine pe_ ?_;refine blk_far ?_ NB322_327.out _;refine pe_ ?_;refine blk_far ?_ NB322_327.out _;refine pe_ ?_;exact BK322.out⟩,⟨by refine pe_ ?_;refine blk_put (cs:=#[.int .i64 t338,.slice Ao44 x328001_1.length co44]) ?_ 1 _ rfl;refine pe_ ?_;refine blk_put (cs:=#[.int .i64 x328000_1,.slice Ao44 x328001_1.length co44]) ?_ 0 _ rfl;refine pe_ ?_;exact BK327.out⟩,⟨by refine pe_ ?_;refine blk_far ?_ NB336_327.out _;refine pe_ ?_;refine blk_far ?_ NB336_327.out _;refine pe_ ?_;exact BK336.out⟩,⟨by refine pe_ ?_;refine blk_far ?_ NB337_327.out _;refine pe_ ?_;refine blk_far ?_ NB337_327.out _;refine pe_ ?_;exact BK337.out⟩,⟨be5_ HB.out GE321.out GE322.out GE327.out GE336.out GE337.out⟩⟩
      ·rw [if_neg c33] at H
       have c33b0 : ((bt a1 x18_1) == 97) = false:=beq_eq_false_iff_ne.mpr c33
       have c33b1 : ((bt a1 x18_1) != 97) = true:=bne_iff_ne.mpr c33
       replace H:=Option.bind_eq_some_iff.mp H
       obtain ⟨⟨t342,t343⟩,A480,H⟩:=H
       replace H : (spec_l4Matrix.l0 k1 a1 (a1.size : Int) (wrap64 (x18_1 + 1)) t342 t343 t328 t329 t332 t333) = some (r1,r2):=H
       have A48:=Aside0.mk A480
       clear A480
       have H':=Aside0.mk H
       clear H
       have p32 : 0 ≤ (x18_1 : Int):=of_decide_eq_true (by first|(with_reducible assumption)|assumption)
       have q32 : x18_1 < (a1.size : Int):=of_decide_eq_true (by first|(with_reducible assumption)|assumption)
       have hx32:=bt_at a1 x18_1
       replace p32:=eq_true p32
       replace q32:=eq_true q32
       have hnb49:=NB327_321.out
       have hnc49:=NB321_327.out
       have hnb50:=NB327_322.out
       have hnc50:=NB322_327.out
       have hnb51:=NB327_336.out
       have hnc51:=NB336_327.out
       have hnb52:=NB327_337.out
       have hnc52:=NB337_327.out
       obtain ⟨hcz53_0,hcz53_1,hfz53_0,hfz53_1⟩:=cf2_ BK327.out
       have hnb54:=NB337_321.out
       have hnc54:=NB321_337.out
       have hnb55:=NB337_322.out
       have hnc55:=NB322_337.out
       have hnb56:=NB337_336.out
       have hnc56:=NB336_337.out
       obtain ⟨hcz57_0,hcz57_1,hfz57_0,hfz57_1⟩:=cf2_ BK337.out
       obtain ⟨Ao58,co58,eo58⟩:=Kd.R_slice HO_328001.out
       subst eo58
       go_wp2_with (first|((with_reducible refine gate_callee (f:=133) rfl ?_);refine goesL_ (some 30) rfl rfl Try.func133 (by kernel_rfl) rfl #[.agg #[.int .i64 x328000_1,.slice Ao58 x328001_1.length co58],.agg #[.int .i64 t332,.slice Ao27 t333.length co27]] rfl lp_ ?_;(with_reducible refine (spec_l2Mul.calls k1 x328000_1 _ _ x328001_1 t332 _ _ t333 t342 t343 _ ?side1 ?side2 ?side3 ?side4 A48.out).mono ?_);(case side1 => exact cr_ (Kd.R_reads' HO_328001.out).2.2);(case side2 => exact (Kd.R_reads' HO_328001.out).2.1);(case side3 => exact cr_ (Kd.R_reads' HO_338001.out).2.2);(case side4 => exact (Kd.R_reads' HO_338001.out).2.1);rintro e w59 ⟨v344,rfl,ho0,hb⟩;refine ⟨_,rfl,?_⟩;have HO345:=Aside0.mk (Kd.R_lower (Kd.R_new' (Kd.R_new' (Kd.R_new' ho0 (Kd.R_lt (pr_ HO_328001.out))) (Kd.R_lt (pr_ HO_337001.out))) (Kd.R_lt (pr_ HO_338001.out))) (below_size (be5_ HB.out GE321.out GE322.out GE327.out GE336.out GE337.out)));replace HO_328001:=Aside0.mk (Kd.R_elder' (pr_ HO_328001.out) (Kd.R_base ho0) hb);replace HO_337001:=Aside0.mk (Kd.R_elder' (pr_ HO_337001.out) (Kd.R_base ho0) hb);replace HO_338001:=Aside0.mk (Kd.R_elder' (pr_ HO_338001.out) (Kd.R_base ho0) hb);replace BK321:=Aside0.mk (kb_ BK321.out hb);replace BK322:=Aside0.mk (kb_ BK322.out hb);replace BK327:=Aside0.mk (kb_ BK327.out hb);replace BK336:=Aside0.mk (kb_ BK336.out hb);replace BK337:=Aside0.mk (kb_ BK337.out hb);replace HB:=Aside0.mk (below_step (be5_ HB.out GE321.out GE322.out GE327.out GE336.out GE337.out) hb);(try clear hb);(try clear hb2);(try clear hk);(try clear hi);(try clear ho0);obtain ⟨hcz60_0,hcz60_1,hfz60_0,hfz60_1⟩:=cf2_ BK327.out;obtain ⟨Ao61,co61,eo61⟩:=Kd.R_slice HO345.out;subst eo61))
       go_roundg k1
       case measure => have:=HK1.out;omega
       case rel => exact ⟨(wrap64 (x18_1 + 1)),(t342),(t343),(.slice Ao61 t343.length co61),rs_,H',⟨by have:=HK1.out;omega⟩,⟨by refine pr_ ?_;exact Kd.R_mono (Kd.R_far (p:=⟨gb327,1,none⟩) (Kd.R_far (p:=⟨gb327,0,none⟩) (Kd.R_types HO345.out BK327.out (by decide)) (fun _ hk => hk.2) (.int .i64 t342)) (fun _ hk => hk.2) (.slice Ao61 t343.length co61)) (fun _ hk => ⟨hk.1.1.2,hk.1.2⟩)⟩,⟨by refine pr_ ?_;exact Kd.R_mono (Kd.R_far (p:=⟨gb327,1,none⟩) (Kd.R_far (p:=⟨gb327,0,none⟩) (Kd.R_types HO_337001.out BK327.out (by decide)) (fun _ hk => hk.2) (.int .i64 t342)) (fun _ hk => hk.2) (.slice Ao61 t343.length co61)) (fun _ hk => ⟨hk.1.2,hk.1.1.2⟩)⟩,⟨by refine pr_ ?_;exact Kd.R_mono (Kd.R_far (p:=⟨gb327,1,none⟩) (Kd.R_far (p:=⟨gb327,0,none⟩) (Kd.R_types HO_338001.out BK327.out (by decide)) (fun _ hk => hk.2) (.int .i64 t342)) (fun _ hk => hk.2) (.slice Ao61 t343.length co61)) (fun _ hk => ⟨hk.1.2,hk.1.1.2⟩)⟩,⟨by refine pe_ ?_;refine blk_far ?_ NB321_327.out _;refine pe_ ?_;refine blk_far ?_ NB321_327.out _;refine pe_ ?_;exact BK321.out⟩,⟨by refine pe_ ?_;refine blk_far ?_ NB322_327.out _;refine pe_ ?_;refine blk_far ?_ NB322_327.out _;refine pe_ ?_;exact BK322.out⟩,⟨by refine pe_ ?_;refine blk_put (cs:=#[.int .i64 t342,.slice Ao58 x328001_1.length co58]) ?_ 1 _ rfl;refine pe_ ?_;refine blk_put (cs:=#[.int .i64 x328000_1,.slice Ao58 x328001_1.length co58]) ?_ 0 _ rfl;refine pe_ ?_;exact BK327.out⟩,⟨by refine pe_ ?_;refine blk_far ?_ NB336_327.out _;refine pe_ ?_;refine blk_far ?_ NB336_327.out _;refine pe_ ?_;exact BK336.out⟩,⟨by refine pe_ ?_;refine blk_far ?_ NB337_327.out _;refine pe_ ?_;refine blk_far ?_ NB337_327.out _;refine pe_ ?_;exact BK337.out⟩,⟨be5_ HB.out GE321.out GE322.out GE327.out GE336.out GE337.out⟩⟩
     ·rw [if_neg c31] at H
      exact absurd H (by simp)
    ·rw [if_neg c30] at H
     exact absurd H (by simp)
   ·rw [if_neg c29] at H
    have c29b0 : decide (x18_1 < (a1.size : Int)) = false:=decide_eq_false c29
    clear c29
    simp only [Option.some.injEq,Prod.mk.injEq] at H
    obtain ⟨rfl,rfl⟩:=H
    have hnb62:=NB327_321.out
    have hnc62:=NB321_327.out
    have hnb63:=NB327_322.out
    have hnc63:=NB322_327.out
    have hnb64:=NB327_336.out
    have hnc64:=NB336_327.out
    have hnb65:=NB327_337.out
    have hnc65:=NB337_327.out
    obtain ⟨hcz66_0,hcz66_1,hfz66_0,hfz66_1⟩:=cf2_ BK327.out
    have hnb67:=NB322_321.out
    have hnc67:=NB321_322.out
    have hnb68:=NB322_336.out
    have hnc68:=NB336_322.out
    have hnb69:=NB322_337.out
    have hnc69:=NB337_322.out
    obtain ⟨hcz70_0,hcz70_1,hfz70_0,hfz70_1⟩:=cf2_ BK322.out
    obtain ⟨Ao71,co71,eo71⟩:=Kd.R_slice HO_328001.out
    subst eo71
    go_wp2
    refine bodyPost_ret (results_cell_row rfl _ _ gb322 35 #[.int .i64 x328000_1,.slice Ao71 x328001_1.length co71] (0,0) _ rfl (by refine pe_ ?_;refine blk_put (cs:=#[.int .i64 x328000_1,.slice none 0 0]) ?_ 1 _ rfl;refine pe_ ?_;refine blk_put (cs:=#[.int .i64 0,.slice none 0 0]) ?_ 0 _ rfl;refine pe_ ?_;exact BK322.out) Try.underlying35 rfl (by kernel_rfl)) rfl ?_
    exact ⟨_,er_,by refine pr_ ?_;exact Kd.R_mono (Kd.R_far (p:=⟨gb322,1,none⟩) (Kd.R_far (p:=⟨gb322,0,none⟩) (Kd.R_types HO_328001.out BK322.out (by decide)) (fun _ hk => hk.2) (.int .i64 x328000_1)) (fun _ hk => hk.2) (.slice Ao71 x328001_1.length co71)) (fun _ hk => trivial),be5_ HB.out GE321.out GE322.out GE327.out GE336.out GE337.out⟩
def spec_WordMatrix.f (k : Nat) (a0_0 : Int) (l0_1 : List Int) (l0_2 : List Int) (l0_3 : List (S92)) (a1 : ByteArray) : Option (Int × List Int × Bool):=(spec_l4Asked.f k a0_0 l0_1 l0_2 l0_3 a1).bind fun t348 => (if t348 = true then ((spec_l4Matrix.f k a0_0 l0_1 l0_2 l0_3 a1).bind fun bt349 => (some (bt349.1,bt349.2,true))) else (some (0,([] : List Int),false)))
theorem spec_WordMatrix.mono : ∀ a0 a1 a2 a3 a4 k,LeO (spec_WordMatrix.f k a0 a1 a2 a3 a4) (spec_WordMatrix.f (k + 1) a0 a1 a2 a3 a4):=by
 intro a0 a1 a2 a3 a4 k
 unfold spec_WordMatrix.f
 repeat' first
   | (with_reducible exact spec_l4Asked.mono _ _ _ _ _ _)
   | (with_reducible exact spec_l4Matrix.mono _ _ _ _ _ _)
   | (with_reducible exact LeO.refl _)
   | (with_reducible exact LeO.none _)
   | (with_reducible refine LeO.ite ?_ ?_)
   | (with_reducible refine LeO.bind ?_ (fun _ => ?_))
   | exact spec_l4Asked.mono _ _ _ _ _ _
   | exact spec_l4Matrix.mono _ _ _ _ _ _
   | exact LeO.none _
   | refine LeO.ite ?_ ?_
   | refine LeO.bind ?_ (fun _ => ?_)
set_option maxHeartbeats 8000000 in
set_option maxRecDepth 100000 in
theorem spec_WordMatrix.calls (k : Nat) (a0_0 : Int) (A0_1 : Option Addr) (c0_1 : Nat) (l0_1 : List Int) (A0_2 : Option Addr) (c0_2 : Nat) (l0_2 : List Int) (A0_3 : Option Addr) (c0_3 : Nat) (l0_3 : List (S92)) (a1 : ByteArray) (r1 : Int) (r2 : List Int) (r3 : Bool) (w : World) (hr0_1 : Kd.C (Kd.int .i64) w A0_1 l0_1.length l0_1) (hc0_1 : l0_1.length ≤ c0_1) (hr0_2 : Kd.C (Kd.int .i64) w A0_2 l0_2.length l0_2) (hc0_2 : l0_2.length ≤ c0_2) (hr0_3 : Kd.C k92 w A0_3 l0_3.length l0_3) (hc0_3 : l0_3.length ≤ c0_3) (h : spec_WordMatrix.f k a0_0 l0_1 l0_2 l0_3 a1 = some (r1,r2,r3)) :
  Calls Try.prog 22 #[.agg #[.int .i64 a0_0,.slice A0_1 l0_1.length c0_1,.slice A0_2 l0_2.length c0_2,.slice A0_3 l0_3.length c0_3],.string a1] w fun e w' => ∃ v1_ : Value,e = .returned (.tuple #[.agg #[.int .i64 r1,v1_],.bool r3]) ∧ Kd.R (Kd.int .i64) 3 w' w.heap.size (fun _ => True) v1_ r2 ∧ Below w.heap.size w w':=by
 have hu33:=Try.underlying33
 have hu35:=Try.underlying35
 have HR0_1:=Aside0.mk hr0_1
 have HC0_1:=Aside0.mk hc0_1
 clear hr0_1 hc0_1
 have HR0_2:=Aside0.mk hr0_2
 have HC0_2:=Aside0.mk hc0_2
 clear hr0_2 hc0_2
 have HR0_3:=Aside0.mk hr0_3
 have HC0_3:=Aside0.mk hc0_3
 clear hr0_3 hc0_3
 have HB:=Aside0.mk (Below.refl w.heap.size w)
 have H : ((spec_l4Asked.f k a0_0 l0_1 l0_2 l0_3 a1).bind fun t348 => (if t348 = true then ((spec_l4Matrix.f k a0_0 l0_1 l0_2 l0_3 a1).bind fun bt349 => (some (bt349.1,bt349.2,true))) else (some (0,([] : List Int),false)))) = some (r1,r2,r3):=h
 clear h
 replace H:=Option.bind_eq_some_iff.mp H
 obtain ⟨t348,A30,H⟩:=H
 replace H : (if t348 = true then ((spec_l4Matrix.f k a0_0 l0_1 l0_2 l0_3 a1).bind fun bt349 => (some (bt349.1,bt349.2,true))) else (some (0,([] : List Int),false))) = some (r1,r2,r3):=H
 have A3:=Aside0.mk A30
 clear A30
 by_cases c4 : t348 = true
 ·subst c4
  have H1 : ((spec_l4Matrix.f k a0_0 l0_1 l0_2 l0_3 a1).bind fun bt349 => (some (bt349.1,bt349.2,true))) = some (r1,r2,r3):=by rw [if_pos rfl] at H;exact H
  clear H
  have H:=H1
  clear H1
  replace H:=Option.bind_eq_some_iff.mp H
  obtain ⟨⟨t349,t350⟩,A50,H⟩:=H
  replace H : (some (t349,t350,true)) = some (r1,r2,r3):=H
  have A5:=Aside0.mk A50
  clear A50
  simp only [Option.some.injEq,Prod.mk.injEq] at H
  obtain ⟨rfl,rfl,rfl⟩:=H
  go_enter Try.func22,Try.ntmps22
  go_wp2_with (first|((with_reducible refine bev_ (N:=2) rfl rfl (cs:=#[.int .i64 a0_0,.slice A0_1 l0_1.length c0_1,.slice A0_2 l0_2.length c0_2,.slice A0_3 l0_3.length c0_3]) (t:=33) ?hr ?_);(case hr => first|(go_simp;done)|(go_simp;rfl));intro gb346 hg w6 hbox hb;have BK346:=Aside0.mk (hbox);have GW346:=Aside0.mk (szg_ hg (below_size (be0_ HB.out)));have GE346:=Aside0.mk (szg_ hg (below_size (be0_ HB.out)));replace HB:=Aside0.mk (below_step (be0_ HB.out) hb);clear hb hbox hg)|((with_reducible refine bev_ (N:=4) rfl rfl (cs:=#[.int .i64 0,.slice none 0 0]) (t:=35) ?hr ?_);(case hr => first|(go_simp;done)|(go_simp;rfl));intro gb347 hg w7 hbox hb;have BK347:=Aside0.mk (hbox);have GW347:=Aside0.mk (szg_ hg (below_size (be1_ HB.out GE346.out)));have GE347:=Aside0.mk (szg_ hg (below_size (be1_ HB.out GE346.out)));replace HB:=Aside0.mk (below_step (be1_ HB.out GE346.out) hb);have NB346_347:=Aside0.mk (nl_ hg BK346.out);have NB347_346:=Aside0.mk (ng_ hg BK346.out);replace BK346:=Aside0.mk (kb_ BK346.out hb);clear hb hbox hg;have hnb8:=NB346_347.out;have hnc8:=NB347_346.out;obtain ⟨hcz9_0,hcz9_1,hcz9_2,hcz9_3,hfz9_0,hfz9_1,hfz9_2,hfz9_3⟩:=cf4_ BK346.out)|((with_reducible refine gate_callee (f:=76) rfl ?_);refine goesL_ (some 8) rfl rfl Try.func76 (by kernel_rfl) rfl #[.agg #[.int .i64 a0_0,.slice A0_1 l0_1.length c0_1,.slice A0_2 l0_2.length c0_2,.slice A0_3 l0_3.length c0_3],.string a1] rfl lp_ ?_;(with_reducible refine (spec_l4Asked.calls k a0_0 _ _ l0_1 _ _ l0_2 _ _ l0_3 a1 true _ ?side1 ?side2 ?side3 ?side4 ?side5 ?side6 A3.out).mono ?_);(case side1 => exact cr_ (Kd.C_below HR0_1.out HB.out));(case side2 => exact HC0_1.out);(case side3 => exact cr_ (Kd.C_below HR0_2.out HB.out));(case side4 => exact HC0_2.out);(case side5 => exact cr_ (Kd.C_below HR0_3.out HB.out));(case side6 => exact HC0_3.out);rintro e w10 ⟨rfl,hb⟩;refine ⟨_,rfl,?_⟩;replace BK346:=Aside0.mk (kb_ BK346.out hb);replace BK347:=Aside0.mk (kb_ BK347.out hb);replace HB:=Aside0.mk (below_step (be2_ HB.out GE346.out GE347.out) hb);(try clear hb);(try clear hb2);(try clear hk);(try clear hi);obtain ⟨hcz11_0,hcz11_1,hcz11_2,hcz11_3,hfz11_0,hfz11_1,hfz11_2,hfz11_3⟩:=cf4_ BK346.out)|((with_reducible refine gate_callee (f:=77) rfl ?_);refine goesL_ (some 13) rfl rfl Try.func77 (by kernel_rfl) rfl #[.agg #[.int .i64 a0_0,.slice A0_1 l0_1.length c0_1,.slice A0_2 l0_2.length c0_2,.slice A0_3 l0_3.length c0_3],.string a1] rfl lp_ ?_;(with_reducible refine (spec_l4Matrix.calls k a0_0 _ _ l0_1 _ _ l0_2 _ _ l0_3 a1 t349 t350 _ ?side1 ?side2 ?side3 ?side4 ?side5 ?side6 A5.out).mono ?_);(case side1 => exact cr_ (Kd.C_below HR0_1.out HB.out));(case side2 => exact HC0_1.out);(case side3 => exact cr_ (Kd.C_below HR0_2.out HB.out));(case side4 => exact HC0_2.out);(case side5 => exact cr_ (Kd.C_below HR0_3.out HB.out));(case side6 => exact HC0_3.out);rintro e w12 ⟨v351,rfl,ho0,hb⟩;refine ⟨_,rfl,?_⟩;have HO352:=Aside0.mk (Kd.R_lower ho0 (below_size (be2_ HB.out GE346.out GE347.out)));replace BK346:=Aside0.mk (kb_ BK346.out hb);replace BK347:=Aside0.mk (kb_ BK347.out hb);replace HB:=Aside0.mk (below_step (be2_ HB.out GE346.out GE347.out) hb);(try clear hb);(try clear hb2);(try clear hk);(try clear hi);(try clear ho0);obtain ⟨hcz13_0,hcz13_1,hfz13_0,hfz13_1⟩:=cf2_ BK347.out;obtain ⟨Ao14,co14,eo14⟩:=Kd.R_slice HO352.out;subst eo14))
  refine bodyPost_ret (results_ct rfl _ _ gb347 35 #[.int .i64 t349,.slice Ao14 t350.length co14] (0,0) _ rfl (by refine pe_ ?_;refine blk_put (cs:=#[.int .i64 t349,.slice none 0 0]) ?_ 1 _ rfl;refine pe_ ?_;refine blk_put (cs:=#[.int .i64 0,.slice none 0 0]) ?_ 0 _ rfl;refine pe_ ?_;exact BK347.out) Try.underlying35 rfl (by kernel_rfl)) rfl ?_
  exact ⟨_,er_,by refine pr_ ?_;exact Kd.R_mono (Kd.R_far (p:=⟨gb347,1,none⟩) (Kd.R_far (p:=⟨gb347,0,none⟩) (Kd.R_types HO352.out BK347.out (by decide)) (fun _ hk => hk.2) (.int .i64 t349)) (fun _ hk => hk.2) (.slice Ao14 t350.length co14)) (fun _ hk => trivial),be2_ HB.out GE346.out GE347.out⟩
 ·replace c4:=Bool.eq_false_iff.mpr c4
  subst c4
  have H1 : (some (0,([] : List Int),false)) = some (r1,r2,r3):=by rw [if_neg (show ¬ (false = true) by decide)] at H;exact H
  clear H
  have H:=H1
  clear H1
  simp only [Option.some.injEq,Prod.mk.injEq] at H
  obtain ⟨rfl,rfl,rfl⟩:=H
  go_enter Try.func22,Try.ntmps22
  go_wp2_with (first|((with_reducible refine bev_ (N:=2) rfl rfl (cs:=#[.int .i64 a0_0,.slice A0_1 l0_1.length c0_1,.slice A0_2 l0_2.length c0_2,.slice A0_3 l0_3.length c0_3]) (t:=33) ?hr ?_);(case hr => first|(go_simp;done)|(go_simp;rfl));intro gb346 hg w15 hbox hb;have BK346:=Aside0.mk (hbox);have GW346:=Aside0.mk (szg_ hg (below_size (be0_ HB.out)));have GE346:=Aside0.mk (szg_ hg (below_size (be0_ HB.out)));replace HB:=Aside0.mk (below_step (be0_ HB.out) hb);clear hb hbox hg)|((with_reducible refine bev_ (N:=4) rfl rfl (cs:=#[.int .i64 0,.slice none 0 0]) (t:=35) ?hr ?_);(case hr => first|(go_simp;done)|(go_simp;rfl));intro gb347 hg w16 hbox hb;have BK347:=Aside0.mk (hbox);have GW347:=Aside0.mk (szg_ hg (below_size (be1_ HB.out GE346.out)));have GE347:=Aside0.mk (szg_ hg (below_size (be1_ HB.out GE346.out)));replace HB:=Aside0.mk (below_step (be1_ HB.out GE346.out) hb);have NB346_347:=Aside0.mk (nl_ hg BK346.out);have NB347_346:=Aside0.mk (ng_ hg BK346.out);replace BK346:=Aside0.mk (kb_ BK346.out hb);clear hb hbox hg;have hnb17:=NB346_347.out;have hnc17:=NB347_346.out;obtain ⟨hcz18_0,hcz18_1,hcz18_2,hcz18_3,hfz18_0,hfz18_1,hfz18_2,hfz18_3⟩:=cf4_ BK346.out)|((with_reducible refine gate_callee (f:=76) rfl ?_);refine goesL_ (some 8) rfl rfl Try.func76 (by kernel_rfl) rfl #[.agg #[.int .i64 a0_0,.slice A0_1 l0_1.length c0_1,.slice A0_2 l0_2.length c0_2,.slice A0_3 l0_3.length c0_3],.string a1] rfl lp_ ?_;(with_reducible refine (spec_l4Asked.calls k a0_0 _ _ l0_1 _ _ l0_2 _ _ l0_3 a1 false _ ?side1 ?side2 ?side3 ?side4 ?side5 ?side6 A3.out).mono ?_);(case side1 => exact cr_ (Kd.C_below HR0_1.out HB.out));(case side2 => exact HC0_1.out);(case side3 => exact cr_ (Kd.C_below HR0_2.out HB.out));(case side4 => exact HC0_2.out);(case side5 => exact cr_ (Kd.C_below HR0_3.out HB.out));(case side6 => exact HC0_3.out);rintro e w19 ⟨rfl,hb⟩;refine ⟨_,rfl,?_⟩;replace BK346:=Aside0.mk (kb_ BK346.out hb);replace BK347:=Aside0.mk (kb_ BK347.out hb);replace HB:=Aside0.mk (below_step (be2_ HB.out GE346.out GE347.out) hb);(try clear hb);(try clear hb2);(try clear hk);(try clear hi);obtain ⟨hcz20_0,hcz20_1,hfz20_0,hfz20_1⟩:=cf2_ BK347.out))
  refine bodyPost_ret (results_ct rfl _ _ gb347 35 #[.int .i64 0,.slice none 0 0] (0,0) _ rfl (by refine pe_ ?_;refine blk_put (cs:=#[.int .i64 0,.slice none 0 0]) ?_ 1 _ rfl;refine pe_ ?_;refine blk_put (cs:=#[.int .i64 0,.slice none 0 0]) ?_ 0 _ rfl;refine pe_ ?_;exact BK347.out) Try.underlying35 rfl (by kernel_rfl)) rfl ?_
  exact ⟨_,er_,by first|exact Kd.R_nil _ _ _ _ _|exact Kd.N_nil _ _ _ _ _|exact Kd.V_nil _ _ _ _ _|exact Kd.Q_nil _ _ _ _ _|exact Kd.S_nil _ _ _ _ _,be2_ HB.out GE346.out GE347.out⟩
end Go.Proofs.Ytfmbpoojpnoafaa.X
end
