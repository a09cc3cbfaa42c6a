import Derived.Test.YtfmbpoojpnoafaaKFnExactWordMatrix1
import Derived.Test.YtfmbpoojpnoafaaKFnExactWordMatrix6
import Derived.Test.YtfmbpoojpnoafaaKFnExactWordMatrix2
import Derived.Test.YtfmbpoojpnoafaaKFnExactWordMatrix3
import Derived.Test.YtfmbpoojpnoafaaKFnExactWordMatrix4
import Derived.Lib.Bytealg
import Derived.Test.YtfmbpoojpnoafaaKFnExactWordMatrix5
section
namespace Go.Proofs.Ytfmbpoojpnoafaa.Y
open Go.RowKit Go.Proofs.Ytfmbpoojpnoafaa.X Go.Proofs.YtfmbpoojpnoafaaW.PrintWords Go.Proofs.YtfmbpoojpnoafaaW.PrintLast Go.Proofs.YtfmbpoojpnoafaaW.PrintMore
set_option linter.unusedVariables false
set_option linter.unusedSimpArgs false
def okCost (x : Int) : Bool:=decide (0 ≤ x ∧ x ≤ 1000000)
def MV (n : Int) (l : List Int) : Prop:=1 ≤ n ∧ n ≤ 4 ∧ (l.length : Int) = n * n ∧ ∀ x ∈ l,0 ≤ x ∧ x ≤ 1000000
def GV (n : Int) (l : List Int) : Prop:=MV n l ∧ ∀ x ∈ l,x ≤ 3
instance (n : Int) (l : List Int) : Decidable (MV n l):=by unfold MV;infer_instance
instance (n : Int) (l : List Int) : Decidable (GV n l):=by unfold GV;infer_instance
theorem icost (a : Int) : impl_CostValid.f a = some (okCost a):=by
 unfold impl_CostValid.f okCost
 by_cases h : a ≥ 0
 ·rw [if_pos h];by_cases h2 : a ≤ 1000000 <;> simp [h2] <;> omega
 ·rw [if_neg h];simp;omega
theorem scost (a : Int) : spec_CostValid.f a = some (okCost a):=by
 unfold spec_CostValid.f spec_l1In.f okCost
 by_cases h : a ≥ 0
 ·rw [if_pos h];by_cases h2 : a ≤ 1000000 <;> simp [h2] <;> omega
 ·rw [if_neg h];simp;omega
theorem sIn (a lo hi : Int) : spec_l1In.f a lo hi = some (decide (lo ≤ a ∧ a ≤ hi)):=by
 unfold spec_l1In.f
 by_cases h : a ≥ lo
 ·rw [if_pos h];by_cases h2 : a ≤ hi <;> simp [h2] <;> omega
 ·rw [if_neg h];simp;omega
theorem index_ev (q : Int → Bool) (p : Int → Option Bool) (hp : ∀ x,p x = some (q x)) (l : List Int) (h : l.length ≤ maxLen) :
  Ev (fun k => slices_ContainsFunc_int_int.f p k l) (l.any q):=by
 rw [maxLen_eq] at h
 have go : ∀ (t pre : List Int),l = pre ++ t → ∃ z : Int,Ev (fun k => slices_IndexFunc_int_int.l0 p k l (l.length : Int) (pre.length : Int)) z ∧ decide (z ≥ 0) = t.any q:=by
  intro t
  induction t with
  | nil =>
   intro pre hl
   refine ⟨-1,?_,rfl⟩
   refine Ev.step (f:=fun _ => some (-1)) (fun k => ?_) (Ev.now _)
   simp only [slices_IndexFunc_int_int.l0]
   rw [if_neg (by rw [hl];simp)]
  | cons x t ih =>
   intro pre hl
   have hlen : l.length = pre.length + (t.length + 1):=by rw [hl];simp
   have hx : rd l (pre.length : Int) = x:=by rw [hl,rd_mid]
   cases hq : q x with
   | true =>
    refine ⟨pre.length,?_,by simp [hq]⟩
    refine Ev.step (f:=fun _ => some (pre.length : Int)) (fun k => ?_) (Ev.now _)
    simp only [slices_IndexFunc_int_int.l0]
    rw [if_pos (by omega),if_pos (by omega),if_pos (by omega),hx,hp,hq,Option.bind_some,if_pos rfl]
   | false =>
    obtain ⟨z,hz,hd⟩:=ih (pre ++ [x]) (by simp [hl])
    refine ⟨z,?_,by simp [hq,hd]⟩
    refine Ev.step (fun k => ?_) hz
    simp only [slices_IndexFunc_int_int.l0]
    rw [if_pos (by omega),if_pos (by omega),if_pos (by omega),hx,hp,hq,Option.bind_some,if_neg (by simp),w64 (by omega) (by omega),snoc_len]
 obtain ⟨z,hz,hd⟩:=go l [] rfl
 refine Ev.congr (f:=?f1) (fun k => ?h1) ?k1
 case h1 => unfold slices_ContainsFunc_int_int.f slices_IndexFunc_int_int.f;exact rfl
 exact Ev.bind hz (Ev.congr (f:=fun _ => some (l.any q)) (fun k => by rw [hd]) (Ev.now _))
theorem iMV (n : Int) (l : List Int) (hl : l.length ≤ maxLen) : Ev (fun k => impl_MatrixValid.f k n l) (decide (MV n l)):=by
 have no : ∀ f : Nat → Option Bool,(∀ k,f k = some false) → ¬ MV n l → Ev f (decide (MV n l)):=fun f h h2 => (ev_some h).is (by rw [decide_eq_false h2])
 by_cases h1 : n < 1
 ·exact no _ (fun k => by unfold impl_MatrixValid.f;rw [if_pos h1]) (fun h => by unfold MV at h;omega)
 by_cases h2 : n > 4
 ·exact no _ (fun k => by unfold impl_MatrixValid.f;rw [if_neg h1,if_pos h2]) (fun h => by unfold MV at h;omega)
 have hnn : 0 ≤ n * n ∧ n * n ≤ 16:=by
  have : n = 1 ∨ n = 2 ∨ n = 3 ∨ n = 4:=by omega
  rcases this with rfl|rfl|rfl|rfl <;> omega
 by_cases h3 : (l.length : Int) = wrap64 (n * n)
 ·rw [w64 (by omega) (by omega)] at h3
  refine Ev.congr (f:=?f2) (fun k => ?h2) ?k2
  case h2 => unfold impl_MatrixValid.f;rw [if_neg h1,if_neg h2,w64 (x:=n * n) (by omega) (by omega),if_pos h3] <;> exact rfl
  have hq : ∀ x,impl_MatrixValid_1.f x = some (!(okCost x)):=fun x => by unfold impl_MatrixValid_1.f;rw [icost];rfl
  refine Ev.bind (index_ev (fun x => !(okCost x)) _ hq l hl) ?_
  refine (ev_some (fun k => rfl)).is ?_
  rw [Bool.eq_iff_iff]
  simp only [Bool.not_eq_true',List.any_eq_false,Bool.not_eq_true',Bool.not_eq_false,decide_eq_true_eq]
  constructor
  ·intro h;exact ⟨by omega,by omega,h3,fun x hx => by simpa [okCost] using h x hx⟩
  ·intro h x hx;simpa [okCost] using h.2.2.2 x hx
 ·refine no _ (fun k => by unfold impl_MatrixValid.f;rw [if_neg h1,if_neg h2,if_neg h3]) (fun h => ?_)
  rw [w64 (by omega) (by omega)] at h3
  exact h3 h.2.2.1
theorem iGV (n : Int) (l : List Int) (hl : l.length ≤ maxLen) : Ev (fun k => impl_GradesValid.f k n l) (decide (GV n l)):=by
 refine Ev.congr (f:=?f3) (fun k => ?h3) ?k3
 case h3 => unfold impl_GradesValid.f;exact rfl
 refine Ev.bind (iMV n l hl) ?_
 by_cases h : MV n l
 ·refine Ev.congr (f:=?f4) (fun k => ?h4) ?k4
  case h4 => rw [decide_eq_true h,if_pos rfl] <;> exact rfl
  refine Ev.bind (index_ev (fun x => decide (x > 3)) _ (fun x => rfl) l hl) ?_
  refine (ev_some (fun k => rfl)).is ?_
  rw [Bool.eq_iff_iff]
  simp only [Bool.not_eq_true',List.any_eq_false,decide_eq_true_eq]
  exact ⟨fun g => ⟨h,fun x hx => by have:=g x hx;omega⟩,fun g x hx => by have:=g.2 x hx;omega⟩
 ·refine (ev_some (fun k => ?_)).is (by rw [decide_eq_false (fun g : GV n l => h g.1)])
  rw [decide_eq_false h];rfl
theorem sAll_ev (l : List Int) (h : l.length ≤ maxLen) : Ev (fun k => spec_l1All.f k l) (l.all okCost):=by
 rw [maxLen_eq] at h
 have go : ∀ (t pre : List Int),l = pre ++ t → Ev (fun k => spec_l1All.l0 k l (l.length : Int) (pre.length : Int)) (t.all okCost):=by
  intro t
  induction t with
  | nil =>
   intro pre hl
   refine Ev.step (f:=fun _ => some true) (fun k => ?_) (Ev.now _)
   simp only [spec_l1All.l0];rw [if_neg (by rw [hl];simp)]
  | cons x t ih =>
   intro pre hl
   have hlen : l.length = pre.length + (t.length + 1):=by rw [hl];simp
   have hx : rd l (pre.length : Int) = x:=by rw [hl,rd_mid]
   cases hq : okCost x with
   | true =>
    refine Ev.step (fun k => ?_) ((ih (pre ++ [x]) (by simp [hl])).is (by simp [hq]))
    simp only [spec_l1All.l0]
    rw [if_pos (by omega),if_pos (by omega),if_pos (by omega),hx,scost,hq,Option.bind_some,if_pos rfl,w64 (by omega) (by omega),snoc_len]
   | false =>
    refine Ev.step (f:=fun _ => some false) (fun k => ?_) ((Ev.now _).is (by simp [hq]))
    simp only [spec_l1All.l0]
    rw [if_pos (by omega),if_pos (by omega),if_pos (by omega),hx,scost,hq,Option.bind_some,if_neg (by simp)]
 exact go l [] rfl
theorem sMV (n : Int) (l : List Int) (hl : l.length ≤ maxLen) : Ev (fun k => spec_MatrixValid.f k n l) (decide (MV n l)):=by
 have no : ∀ f : Nat → Option Bool,(∀ k,f k = some false) → ¬ MV n l → Ev f (decide (MV n l)):=fun f h h2 => (ev_some h).is (by rw [decide_eq_false h2])
 by_cases h1 : 1 ≤ n ∧ n ≤ 4
 ·have hnn : 0 ≤ n * n ∧ n * n ≤ 16:=by
   have : n = 1 ∨ n = 2 ∨ n = 3 ∨ n = 4:=by omega
   rcases this with rfl|rfl|rfl|rfl <;> omega
  by_cases h3 : (l.length : Int) = n * n
  ·refine Ev.congr (f:=?f5) (fun k => ?h5) ?k5
   case h5 => unfold spec_MatrixValid.f;rw [sIn,decide_eq_true h1,Option.bind_some,if_pos rfl,w64 (x:=n * n) (by omega) (by omega),if_pos h3] <;> exact rfl
   refine Ev.bind (sAll_ev l hl) ((ev_some (fun k => rfl)).is ?_)
   rw [Bool.eq_iff_iff]
   simp only [List.all_eq_true,decide_eq_true_eq]
   exact ⟨fun g => ⟨h1.1,h1.2,h3,fun x hx => by simpa [okCost] using g x hx⟩,fun g x hx => by simpa [okCost] using g.2.2.2 x hx⟩
  ·exact no _ (fun k => by unfold spec_MatrixValid.f;rw [sIn,decide_eq_true h1,Option.bind_some,if_pos rfl,w64 (x:=n * n) (by omega) (by omega),if_neg h3]) (fun h => h3 h.2.2.1)
 ·exact no _ (fun k => by unfold spec_MatrixValid.f;rw [sIn,decide_eq_false h1];rfl) (fun h => h1 ⟨h.1,h.2.1⟩)
theorem sGV (n : Int) (l : List Int) (hl : l.length ≤ maxLen) : Ev (fun k => spec_GradesValid.f k n l) (decide (GV n l)):=by
 have hm:=hl
 rw [maxLen_eq] at hm
 have go : ∀ (t pre : List Int),l = pre ++ t → Ev (fun k => spec_GradesValid.l0 k l (l.length : Int) (pre.length : Int) n l) (decide ((∀ x ∈ t,0 ≤ x ∧ x ≤ 3) ∧ MV n l)):=by
  intro t
  induction t with
  | nil =>
   intro pre hp
   refine Ev.step (f:=?f6) (fun k => ?h6) ?k6
   case h6 => simp only [spec_GradesValid.l0];rw [if_neg (by rw [hp];simp)] <;> exact rfl
   exact Ev.bind (sMV n l hl) ((ev_some (fun k => rfl)).is (by simp))
  | cons x t ih =>
   intro pre hp
   have hlen : l.length = pre.length + (t.length + 1):=by rw [hp];simp
   have hx : rd l (pre.length : Int) = x:=by rw [hp,rd_mid]
   by_cases hq : 0 ≤ x ∧ x ≤ 3
   ·refine Ev.step (fun k => ?_) ((ih (pre ++ [x]) (by simp [hp])).is ?_)
    ·simp only [spec_GradesValid.l0]
     rw [if_pos (by omega),if_pos (by omega),if_pos (by omega),hx,sIn,decide_eq_true hq,Option.bind_some,if_pos rfl,w64 (by omega) (by omega),snoc_len]
    ·simp [hq.1,hq.2]
   ·refine Ev.step (f:=fun _ => some false) (fun k => ?_) ((Ev.now _).is ?_)
    ·simp only [spec_GradesValid.l0]
     rw [if_pos (by omega),if_pos (by omega),if_pos (by omega),hx,sIn,decide_eq_false hq,Option.bind_some,if_neg (by simp)]
    ·symm;rw [decide_eq_false_iff_not];intro h;exact hq (h.1 x (by simp))
 refine (go l [] rfl).is ?_
 rw [Bool.eq_iff_iff]
 simp only [decide_eq_true_eq]
 exact ⟨fun h => ⟨h.2,fun x hx => (h.1 x hx).2⟩,fun h => ⟨fun x hx => ⟨(h.1.2.2.2 x hx).1,h.2 x hx⟩,h.1⟩⟩
theorem rdS_mid (pre : List S92) (x : S92) (t : List S92) : rd_T92 (pre ++ x :: t) (pre.length : Int) = x:=by simp [rd_T92,List.getD_eq_getElem?_getD]
theorem snocA {α : Type} (pre : List α) (x : α) : (((pre ++ [x]).length : Nat) : Int) = (pre.length : Int) + 1:=by simp
def mrk (n : Int) : Option Int → List Int → Bool
 | _,[] => true
 | p,x :: t => decide (0 ≤ x ∧ x < n) && (match p with|none => true|some y => decide (y < x)) && mrk n (some x) t
def stepOk (n : Int) (s : S92) : Bool:=decide (0 ≤ s.f0 ∧ s.f0 < n ∧ 0 ≤ s.f2 ∧ s.f2 < n ∧ 0 ≤ s.f3 ∧ s.f3 ≤ 3 ∧ (s.f1.toList = ([97] : List UInt8) ∨ s.f1.toList = ([98] : List UInt8)))
def bef (s t : S92) : Bool:=if s.f0 = t.f0 then (if s.f1.toList = t.f1.toList then decide (s.f2 < t.f2) else Op.bytesLess s.f1.toList t.f1.toList) else decide (s.f0 < t.f0)
def stp (n : Int) : Option S92 → List S92 → Bool
 | _,[] => true
 | p,x :: t => stepOk n x && (match p with|none => true|some y => bef y x) && stp n (some x) t
def AV (n : Int) (s f : List Int) (t : List S92) : Bool:=decide (1 ≤ n ∧ n ≤ 4 ∧ t.length ≤ 24) && mrk n none s && mrk n none f && stp n none t
theorem iMarks (n : Int) (l : List Int) (h : l.length ≤ 1000000000) : Ev (fun k => impl_statesOk.f k l n) (mrk n none l):=by
 have go : ∀ (t pre : List Int),l = pre ++ t → Ev (fun k => impl_statesOk.l0 k l n l (l.length : Int) (pre.length : Int)) (mrk n pre.getLast? t):=by
  intro t
  induction t with
  | nil =>
   intro pre hl
   refine Ev.step (f:=fun _ => some true) (fun k => ?_) (Ev.now _)
   simp only [impl_statesOk.l0];rw [if_neg (by rw [hl];simp)]
  | cons x t ih =>
   intro pre hl
   have hlen : l.length = pre.length + (t.length + 1):=by rw [hl];simp
   have hx : rd l (pre.length : Int) = x:=by rw [hl,rd_mid]
   have i1:=ih (pre ++ [x]) (by simp [hl])
   rw [List.getLast?_concat,snoc_len] at i1
   by_cases h0 : x < 0
   ·refine Ev.step (f:=fun _ => some false) (fun k => ?_) ((Ev.now _).is ?_)
    ·simp only [impl_statesOk.l0];rw [if_pos (by omega),if_pos (by omega),if_pos (by omega),hx,if_pos h0]
    ·simp only [mrk];rw [decide_eq_false (by omega)];rfl
   by_cases h1 : x ≥ n
   ·refine Ev.step (f:=fun _ => some false) (fun k => ?_) ((Ev.now _).is ?_)
    ·simp only [impl_statesOk.l0];rw [if_pos (by omega),if_pos (by omega),if_pos (by omega),hx,if_neg h0,if_pos h1]
    ·simp only [mrk];rw [decide_eq_false (by omega)];rfl
   rcases List.eq_nil_or_concat pre with rfl | ⟨q,y,rfl⟩
   ·refine Ev.step (fun k => ?_) (i1.is ?_)
    ·simp only [impl_statesOk.l0];rw [if_pos (by omega),if_pos (by omega),if_pos (by omega),hx,if_neg h0,if_neg h1,if_neg (by simp),w64 (by omega) (by omega)]
    ·simp only [mrk,List.getLast?_nil];rw [decide_eq_true (by omega)];rfl
   ·rw [List.concat_eq_append] at *
    have e : wrap64 (((q ++ [y]).length : Int) - 1) = (q.length : Int):=by rw [snoc_len,w64 (by omega) (by rw [List.length_append] at hlen;omega)];omega
    have hy : rd l (q.length : Int) = y:=by rw [hl,List.append_assoc];exact rd_mid q y (x :: t)
    have hq:=hlen
    rw [List.length_append,List.length_singleton] at hq
    by_cases h2 : y ≥ x
    ·refine Ev.step (f:=fun _ => some false) (fun k => ?_) ((Ev.now _).is ?_)
     ·simp only [impl_statesOk.l0];rw [if_pos (by omega),if_pos (by omega),if_pos (by omega),hx,if_neg h0,if_neg h1,if_pos (by rw [snoc_len];omega),e,if_pos (by omega),if_pos (by omega),hy,if_pos h2]
     ·simp only [mrk,List.getLast?_concat];rw [decide_eq_false (p:=y < x) (by omega)];simp
    ·refine Ev.step (fun k => ?_) (i1.is ?_)
     ·simp only [impl_statesOk.l0];rw [if_pos (by omega),if_pos (by omega),if_pos (by omega),hx,if_neg h0,if_neg h1,if_pos (by rw [snoc_len];omega),e,if_pos (by omega),if_pos (by omega),hy,if_neg h2,w64 (by omega) (by omega)]
     ·simp only [mrk,List.getLast?_concat];rw [decide_eq_true (p:=y < x) (by omega),decide_eq_true (by omega)];rfl
 exact go l [] rfl
theorem sMarks (n : Int) (hn : 1 ≤ n ∧ n ≤ 4) (l : List Int) (h : l.length ≤ 1000000000) : Ev (fun k => spec_l3Marks.f k n l) (mrk n none l):=by
 have go : ∀ (t pre : List Int),l = pre ++ t → Ev (fun k => spec_l3Marks.l0 k n l l (l.length : Int) (pre.length : Int)) (mrk n pre.getLast? t):=by
  intro t
  induction t with
  | nil =>
   intro pre hl
   refine Ev.step (f:=fun _ => some true) (fun k => ?_) (Ev.now _)
   simp only [spec_l3Marks.l0];rw [if_neg (by rw [hl];simp)]
  | cons x t ih =>
   intro pre hl
   have hlen : l.length = pre.length + (t.length + 1):=by rw [hl];simp
   have hx : rd l (pre.length : Int) = x:=by rw [hl,rd_mid]
   have i1:=ih (pre ++ [x]) (by simp [hl])
   rw [List.getLast?_concat,snoc_len] at i1
   have hw : wrap64 (n - 1) = n - 1:=w64 (by omega) (by omega)
   by_cases h0 : 0 ≤ x ∧ x < n
   case neg =>
    refine Ev.step (f:=fun _ => some false) (fun k => ?_) ((Ev.now _).is ?_)
    ·simp only [spec_l3Marks.l0];rw [if_pos (by omega),if_pos (by omega),if_pos (by omega),hx,sIn,hw,decide_eq_false (by omega),Option.bind_some,if_neg (by simp)]
    ·simp only [mrk];rw [decide_eq_false h0];rfl
   have hd : decide (0 ≤ x ∧ x ≤ n - 1) = true:=decide_eq_true (by omega)
   rcases List.eq_nil_or_concat pre with rfl | ⟨q,y,rfl⟩
   ·refine Ev.step (fun k => ?_) (i1.is ?_)
    ·simp only [spec_l3Marks.l0];rw [if_pos (by omega),if_pos (by omega),if_pos (by omega),hx,sIn,hw,hd,Option.bind_some,if_pos rfl,if_neg (by simp),w64 (by omega) (by omega)]
    ·simp only [mrk,List.getLast?_nil];rw [decide_eq_true h0];rfl
   ·rw [List.concat_eq_append] at *
    have e : wrap64 (((q ++ [y]).length : Int) - 1) = (q.length : Int):=by rw [snoc_len,w64 (by omega) (by rw [List.length_append] at hlen;omega)];omega
    have hy : rd l (q.length : Int) = y:=by rw [hl,List.append_assoc];exact rd_mid q y (x :: t)
    have hq:=hlen
    rw [List.length_append,List.length_singleton] at hq
    by_cases h2 : y ≥ x
    ·refine Ev.step (f:=fun _ => some false) (fun k => ?_) ((Ev.now _).is ?_)
     ·simp only [spec_l3Marks.l0];rw [if_pos (by omega),if_pos (by omega),if_pos (by omega),hx,sIn,hw,hd,Option.bind_some,if_pos rfl,if_pos (by rw [snoc_len];omega),e,if_pos (by omega),if_pos (by omega),hy,if_pos h2]
     ·simp only [mrk,List.getLast?_concat];rw [decide_eq_false (p:=y < x) (by omega)];simp
    ·refine Ev.step (fun k => ?_) (i1.is ?_)
     ·simp only [spec_l3Marks.l0];rw [if_pos (by omega),if_pos (by omega),if_pos (by omega),hx,sIn,hw,hd,Option.bind_some,if_pos rfl,if_pos (by rw [snoc_len];omega),e,if_pos (by omega),if_pos (by omega),hy,if_neg h2,w64 (by omega) (by omega)]
     ·simp only [mrk,List.getLast?_concat];rw [decide_eq_true (p:=y < x) (by omega),decide_eq_true h0];rfl
 exact go l [] rfl
def cmp0 (a b : Int) : Int:=if a < b then -1 else if a > b then 1 else 0
def ordL (s t : S92) : Int:=if cmp0 s.f0 t.f0 = 0 then (if Lib.compareBytes s.f1.data.toList t.f1.data.toList = 0 then cmp0 s.f2 t.f2 else Lib.compareBytes s.f1.data.toList t.f1.data.toList) else cmp0 s.f0 t.f0
theorem cmp_eq (a b : Int) : cmp_Compare_int.f a b = some (cmp0 a b):=by
 unfold cmp_Compare_int.f cmp_isNaN_int.f cmp0
 simp only [bne_self_eq_false,Option.bind_some,Bool.false_eq_true,if_false]
 by_cases h : a < b
 ·rw [if_pos h,if_pos h]
 ·rw [if_neg h,if_neg h];by_cases h2 : a > b
  ·rw [if_pos h2,if_pos h2]
  ·rw [if_neg h2,if_neg h2]
theorem cmpOr_ev (l : List Int) (h : l.length ≤ 1000000000) : Ev (fun k => cmp_Or_int.f k l) ((l.find? (· != 0)).getD 0):=by
 have go : ∀ (t pre : List Int),l = pre ++ t → Ev (fun k => cmp_Or_int.l0 k 0 l (l.length : Int) (pre.length : Int)) ((t.find? (· != 0)).getD 0):=by
  intro t
  induction t with
  | nil =>
   intro pre hl
   refine Ev.step (f:=fun _ => some 0) (fun k => ?_) (Ev.now _)
   simp only [cmp_Or_int.l0];rw [if_neg (by rw [hl];simp)]
  | cons x t ih =>
   intro pre hl
   have hlen : l.length = pre.length + (t.length + 1):=by rw [hl];simp
   have hx : rd l (pre.length : Int) = x:=by rw [hl,rd_mid]
   have i1:=ih (pre ++ [x]) (by simp [hl])
   rw [snoc_len] at i1
   by_cases h0 : x = 0
   ·refine Ev.step (fun k => ?_) (i1.is ?_)
    ·simp only [cmp_Or_int.l0];rw [if_pos (by omega),if_pos (by omega),if_pos (by omega),hx,if_pos h0,w64 (by omega) (by omega)]
    ·simp [List.find?_cons,h0]
   ·refine Ev.step (f:=fun _ => some x) (fun k => ?_) ((Ev.now _).is ?_)
    ·simp only [cmp_Or_int.l0];rw [if_pos (by omega),if_pos (by omega),if_pos (by omega),hx,if_neg h0]
    ·simp [List.find?_cons,h0]
 exact go l [] rfl
theorem iOrder (s t : S92) : Ev (fun k => impl_stepOrder.f k s.f0 s.f1 s.f2 s.f3 t.f0 t.f1 t.f2 t.f3) (ordL s t):=by
 refine Ev.congr (f:=?f1) (fun k => ?h1) ?k1
 case h1 => unfold impl_stepOrder.f strings_Compare.f bytealg_CompareString.f;rw [cmp_eq,cmp_eq,Option.bind_some,Option.bind_some,Option.bind_some,Option.bind_some] <;> exact rfl
 refine (Ev.bind (cmpOr_ev _ (by simp)) (Ev.now _)).is ?_
 unfold ordL
 by_cases h : cmp0 s.f0 t.f0 = 0
 ·by_cases h2 : Lib.compareBytes s.f1.data.toList t.f1.data.toList = 0
  ·by_cases h3 : cmp0 s.f2 t.f2 = 0 <;> simp [List.find?_cons,h,h2,h3]
  ·simp [List.find?_cons,h,h2]
 ·simp [List.find?_cons,h]
theorem sBefore (s t : S92) : spec_l3Before.f s.f0 s.f1 s.f2 s.f3 t.f0 t.f1 t.f2 t.f3 = some (bef s t):=by
 unfold spec_l3Before.f bef
 by_cases h : s.f0 = t.f0
 ·rw [if_pos h,if_pos h];by_cases h2 : s.f1.toList = t.f1.toList
  ·rw [if_pos h2,if_pos h2]
  ·rw [if_neg h2,if_neg h2]
 ·rw [if_neg h,if_neg h]
theorem cmp0_lt {a b : Int} : cmp0 a b < 0 ↔ a < b:=by
 unfold cmp0
 by_cases h : a < b
 ·simp [h]
 ·by_cases h2 : a > b <;> simp [h,h2]
theorem cmp0_eq {a b : Int} : cmp0 a b = 0 ↔ a = b:=by
 unfold cmp0
 by_cases h : a < b
 ·rw [if_pos h];omega
 ·by_cases h2 : a > b
  ·rw [if_neg h,if_pos h2];omega
  ·rw [if_neg h,if_neg h2];omega
theorem ord_bef {n : Int} {s t : S92} (hs : stepOk n s = true) (ht : stepOk n t = true) : ordL s t < 0 ↔ bef s t = true:=by
 unfold stepOk at hs ht
 have hs:=of_decide_eq_true hs
 have ht:=of_decide_eq_true ht
 unfold ordL bef
 have e1:=toList_L s.f1
 have e2:=toList_L t.f1
 unfold L at e1 e2
 rw [← e1,← e2]
 by_cases h : s.f0 = t.f0
 ·rw [if_pos (cmp0_eq.mpr h),if_pos h]
  rcases hs.2.2.2.2.2.2 with a|a <;> rcases ht.2.2.2.2.2.2 with b|b <;> rw [a,b]
  ·rw [if_pos rfl,show Lib.compareBytes ([97] : List UInt8) [97] = 0 by decide,if_pos rfl,cmp0_lt,decide_eq_true_eq]
  ·rw [if_neg (show ¬ Lib.compareBytes ([97] : List UInt8) [98] = 0 by decide),if_neg (by decide)];decide
  ·rw [if_neg (show ¬ Lib.compareBytes ([98] : List UInt8) [97] = 0 by decide),if_neg (by decide)];decide
  ·rw [if_pos rfl,show Lib.compareBytes ([98] : List UInt8) [98] = 0 by decide,if_pos rfl,cmp0_lt,decide_eq_true_eq]
 ·rw [if_neg (fun g => h (cmp0_eq.mp g)),if_neg h,cmp0_lt,decide_eq_true_eq]
theorem iSteps (n : Int) (s f : List Int) (t : List S92) (h : t.length ≤ 1000000000) : Ev (fun k => impl_AutomatonValid.l0 k t (t.length : Int) 0 n s f t) (stp n none t):=by
 have go : ∀ (u pre : List S92),t = pre ++ u → (∀ y,pre.getLast? = some y → stepOk n y = true) → Ev (fun k => impl_AutomatonValid.l0 k t (t.length : Int) (pre.length : Int) n s f t) (stp n pre.getLast? u):=by
  intro u
  induction u with
  | nil =>
   intro pre hl _
   refine Ev.step (f:=fun _ => some true) (fun k => ?_) (Ev.now _)
   simp only [impl_AutomatonValid.l0];rw [if_neg (by rw [hl];simp)]
  | cons x u ih =>
   intro pre hl hp
   have hlen : t.length = pre.length + (u.length + 1):=by rw [hl];simp
   have hx : rd_T92 t (pre.length : Int) = x:=by rw [hl,rdS_mid]
   have tail : stepOk n x = true → Ev (fun k => if (pre.length : Int) > 0 then (if 0 ≤ (wrap64 ((pre.length : Int) - 1)) then (if (wrap64 ((pre.length : Int) - 1)) < (t.length : Int) then ((impl_stepOrder.f k ((rd_T92 t (wrap64 ((pre.length : Int) - 1))).f0) ((rd_T92 t (wrap64 ((pre.length : Int) - 1))).f1) ((rd_T92 t (wrap64 ((pre.length : Int) - 1))).f2) ((rd_T92 t (wrap64 ((pre.length : Int) - 1))).f3) x.f0 x.f1 x.f2 x.f3).bind fun z => (if z ≥ 0 then (some false) else (impl_AutomatonValid.l0 k t (t.length : Int) (wrap64 ((pre.length : Int) + 1)) n s f t))) else none) else none) else (impl_AutomatonValid.l0 k t (t.length : Int) (wrap64 ((pre.length : Int) + 1)) n s f t)) (stp n pre.getLast? (x :: u)):=by
    intro hok
    have i1:=ih (pre ++ [x]) (by simp [hl]) (fun y hy => by rw [List.getLast?_concat] at hy;obtain rfl:=Option.some.inj hy;exact hok)
    rw [List.getLast?_concat,snocA] at i1
    have ew : wrap64 ((pre.length : Int) + 1) = (pre.length : Int) + 1:=w64 (by omega) (by omega)
    rw [ew]
    rcases List.eq_nil_or_concat pre with rfl | ⟨q,y,rfl⟩
    ·refine Ev.congr (fun k => by rw [if_neg (by simp)] <;> exact rfl) (i1.is ?_)
     simp only [stp,List.getLast?_nil,hok,Bool.true_and]
    ·rw [List.concat_eq_append] at *
     have hq:=hlen
     rw [List.length_append,List.length_singleton] at hq
     have e : wrap64 (((q ++ [y]).length : Int) - 1) = (q.length : Int):=by rw [snocA,w64 (by omega) (by omega)];omega
     have hy : rd_T92 t (q.length : Int) = y:=by rw [hl,List.append_assoc];exact rdS_mid q y (x :: u)
     have hoy : stepOk n y = true:=hp y (by rw [List.getLast?_concat])
     refine Ev.congr (f:=?f2) (fun k => ?h2) ?k2
     case h2 => rw [e,if_pos (by rw [snocA];omega),if_pos (by omega),if_pos (by omega),hy] <;> exact rfl
     refine Ev.bind (iOrder y x) ?_
     by_cases hb : bef y x = true
     ·refine Ev.congr (fun k => if_neg (by have:=(ord_bef hoy hok).mpr hb;omega)) (i1.is ?_)
      simp only [stp,List.getLast?_concat,hok,hb,Bool.true_and]
     ·refine Ev.congr (f:=fun _ => some false) (fun k => if_pos (Int.not_lt.mp fun h => hb ((ord_bef hoy hok).mp h))) ((Ev.now _).is ?_)
      simp only [stp,List.getLast?_concat,hok,Bool.true_and]
      rw [Bool.not_eq_true] at hb
      rw [hb];rfl
   by_cases hok : stepOk n x = true
   ·have ho:=of_decide_eq_true (show decide _ = true from hok)
    refine Ev.step (fun k => ?_) (tail hok)
    simp only [impl_AutomatonValid.l0]
    rw [if_pos (by omega),if_pos (by omega),if_pos (by omega),hx,if_neg (by omega),if_neg (by omega),if_neg (by omega),if_neg (by omega)]
    rcases ho.2.2.2.2.2.2 with a|a
    ·rw [if_pos a,if_neg (by omega),if_neg (by omega)]
    ·rw [if_neg (by rw [a];decide),if_pos a,if_neg (by omega),if_neg (by omega)]
   ·refine Ev.step (f:=fun _ => some false) (fun k => ?_) ((Ev.now _).is ?_)
    ·simp only [impl_AutomatonValid.l0]
     rw [if_pos (by omega),if_pos (by omega),if_pos (by omega),hx]
     by_cases a1 : x.f0 < 0
     ·rw [if_pos a1]
     by_cases a2 : x.f0 ≥ n
     ·rw [if_neg a1,if_pos a2]
     by_cases a3 : x.f2 < 0
     ·rw [if_neg a1,if_neg a2,if_pos a3]
     by_cases a4 : x.f2 ≥ n
     ·rw [if_neg a1,if_neg a2,if_neg a3,if_pos a4]
     rw [if_neg a1,if_neg a2,if_neg a3,if_neg a4]
     by_cases b1 : x.f1.toList = ([97] : List UInt8)
     ·rw [if_pos b1]
      by_cases a5 : x.f3 < 0
      ·rw [if_pos a5]
      by_cases a6 : x.f3 > 3
      ·rw [if_neg a5,if_pos a6]
      exact absurd (show stepOk n x = true from decide_eq_true ⟨by omega,by omega,by omega,by omega,by omega,by omega,.inl b1⟩) hok
     ·rw [if_neg b1]
      by_cases b2 : x.f1.toList = ([98] : List UInt8)
      ·rw [if_pos b2]
       by_cases a5 : x.f3 < 0
       ·rw [if_pos a5]
       by_cases a6 : x.f3 > 3
       ·rw [if_neg a5,if_pos a6]
       exact absurd (show stepOk n x = true from decide_eq_true ⟨by omega,by omega,by omega,by omega,by omega,by omega,.inr b2⟩) hok
      ·rw [if_neg b2]
    ·rw [Bool.not_eq_true] at hok
     simp only [stp,hok,Bool.false_and]
 exact go t [] rfl (fun y hy => by simp at hy)
theorem sStepOk (n : Int) (hn : 1 ≤ n ∧ n ≤ 4) (x : S92) : spec_l3Step.f n x.f0 x.f1 x.f2 x.f3 = some (stepOk n x):=by
 unfold spec_l3Step.f stepOk
 rw [sIn,sIn,sIn,w64 (x:=n - 1) (by omega) (by omega),Option.bind_some]
 by_cases a1 : 0 ≤ x.f0 ∧ x.f0 ≤ n - 1
 ·rw [decide_eq_true a1,if_pos rfl,Option.bind_some]
  by_cases a2 : 0 ≤ x.f2 ∧ x.f2 ≤ n - 1
  ·rw [decide_eq_true a2,if_pos rfl,Option.bind_some]
   by_cases a3 : 0 ≤ x.f3 ∧ x.f3 ≤ 3
   ·rw [decide_eq_true a3,if_pos rfl]
    by_cases b : x.f1.toList = ([97] : List UInt8)
    ·rw [if_pos b,decide_eq_true (by refine ⟨?_,?_,?_,?_,?_,?_,.inl b⟩ <;> omega)]
    ·rw [if_neg b]
     by_cases b2 : x.f1.toList = ([98] : List UInt8)
     ·rw [b2,decide_eq_true (by refine ⟨?_,?_,?_,?_,?_,?_,.inr rfl⟩ <;> omega)];rfl
     ·rw [decide_eq_false (by intro g;rcases g.2.2.2.2.2.2 with c|c;exact b c;exact b2 c),beq_eq_false_iff_ne.mpr b2]
   ·rw [decide_eq_false a3,if_neg (by simp),decide_eq_false (by omega)]
  ·rw [decide_eq_false a2,if_neg (by simp),decide_eq_false (by omega)]
 ·rw [decide_eq_false a1,if_neg (by simp),decide_eq_false (by omega)]
theorem sSteps (n : Int) (hn : 1 ≤ n ∧ n ≤ 4) (s f : List Int) (t : List S92) (h : t.length ≤ 1000000000) : Ev (fun k => spec_AutomatonValid.l0 k t (t.length : Int) 0 n s f t) (stp n none t):=by
 have go : ∀ (u pre : List S92),t = pre ++ u → Ev (fun k => spec_AutomatonValid.l0 k t (t.length : Int) (pre.length : Int) n s f t) (stp n pre.getLast? u):=by
  intro u
  induction u with
  | nil =>
   intro pre hl
   refine Ev.step (f:=fun _ => some true) (fun k => ?_) (Ev.now _)
   simp only [spec_AutomatonValid.l0];rw [if_neg (by rw [hl];simp)]
  | cons x u ih =>
   intro pre hl
   have hlen : t.length = pre.length + (u.length + 1):=by rw [hl];simp
   have hx : rd_T92 t (pre.length : Int) = x:=by rw [hl,rdS_mid]
   have i1:=ih (pre ++ [x]) (by simp [hl])
   rw [List.getLast?_concat,snocA] at i1
   by_cases hok : stepOk n x = true
   ·rcases List.eq_nil_or_concat pre with rfl | ⟨q,y,rfl⟩
    ·refine Ev.step (fun k => ?_) (i1.is ?_)
     ·simp only [spec_AutomatonValid.l0];rw [if_pos (by omega),if_pos (by omega),if_pos (by omega),hx,sStepOk n hn,hok,Option.bind_some,if_pos rfl,if_neg (by simp),w64 (by omega) (by omega)]
     ·simp only [stp,List.getLast?_nil,hok,Bool.true_and]
    ·rw [List.concat_eq_append] at *
     have hq:=hlen
     rw [List.length_append,List.length_singleton] at hq
     have e : wrap64 (((q ++ [y]).length : Int) - 1) = (q.length : Int):=by rw [snocA,w64 (by omega) (by omega)];omega
     have hy : rd_T92 t (q.length : Int) = y:=by rw [hl,List.append_assoc];exact rdS_mid q y (x :: u)
     by_cases hb : bef y x = true
     ·refine Ev.step (fun k => ?_) (i1.is ?_)
      ·simp only [spec_AutomatonValid.l0];rw [if_pos (by omega),if_pos (by omega),if_pos (by omega),hx,sStepOk n hn,hok,Option.bind_some,if_pos rfl,if_pos (by rw [snocA];omega),e,if_pos (by omega),if_pos (by omega),hy,sBefore,hb,Option.bind_some,if_pos rfl,w64 (by omega) (by omega)]
      ·simp only [stp,List.getLast?_concat,hok,hb,Bool.true_and]
     ·rw [Bool.not_eq_true] at hb
      refine Ev.step (f:=fun _ => some false) (fun k => ?_) ((Ev.now _).is ?_)
      ·simp only [spec_AutomatonValid.l0];rw [if_pos (by omega),if_pos (by omega),if_pos (by omega),hx,sStepOk n hn,hok,Option.bind_some,if_pos rfl,if_pos (by rw [snocA];omega),e,if_pos (by omega),if_pos (by omega),hy,sBefore,hb,Option.bind_some,if_neg (by simp)]
      ·simp only [stp,List.getLast?_concat,hok,hb,Bool.true_and];rfl
   ·rw [Bool.not_eq_true] at hok
    refine Ev.step (f:=fun _ => some false) (fun k => ?_) ((Ev.now _).is ?_)
    ·simp only [spec_AutomatonValid.l0];rw [if_pos (by omega),if_pos (by omega),if_pos (by omega),hx,sStepOk n hn,hok,Option.bind_some,if_neg (by simp)]
    ·simp only [stp,hok,Bool.false_and]
 exact go t [] rfl
theorem iAV (n : Int) (s f : List Int) (t : List S92) (hs : s.length ≤ 1000000000) (hf : f.length ≤ 1000000000) (ht : t.length ≤ 1000000000) : Ev (fun k => impl_AutomatonValid.f k n s f t) (AV n s f t):=by
 have bad : ∀ g : Nat → Option Bool,(∀ k,g k = impl_AutomatonValid.j0 k true n s f t) → AV n s f t = false → Ev g (AV n s f t):=fun g hg he => Ev.congr hg ((Ev.step (f:=fun _ => some false) (fun k => by simp only [impl_AutomatonValid.j0];rw [if_pos trivial]) (Ev.now _)).is he.symm)
 by_cases h1 : n < 1
 ·exact bad _ (fun k => by unfold impl_AutomatonValid.f;rw [if_pos h1]) (by unfold AV;rw [decide_eq_false (by omega)];rfl)
 by_cases h2 : n > 4
 ·exact bad _ (fun k => by unfold impl_AutomatonValid.f;rw [if_neg h1,if_pos h2]) (by unfold AV;rw [decide_eq_false (by omega)];rfl)
 by_cases h3 : (t.length : Int) > 24
 ·exact bad _ (fun k => by unfold impl_AutomatonValid.f;rw [if_neg h1,if_neg h2,if_pos h3]) (by unfold AV;rw [decide_eq_false (by omega)];rfl)
 have hd : decide (1 ≤ n ∧ n ≤ 4 ∧ t.length ≤ 24) = true:=decide_eq_true (by omega)
 refine Ev.congr (f:=?f3) (fun k => ?h3) ?k3
 case h3 => unfold impl_AutomatonValid.f;rw [if_neg h1,if_neg h2,if_neg h3] <;> exact rfl
 refine Ev.bind (iMarks n s hs) ?_
 by_cases g1 : mrk n none s = true
 case neg =>
  exact bad _ (fun k => by rw [if_neg g1]) (by unfold AV;rw [Bool.not_eq_true] at g1;rw [g1];simp)
 refine Ev_t g1 ?_
 refine Ev.bind (iMarks n f hf) ?_
 by_cases g2 : mrk n none f = true
 case neg =>
  rw [Bool.not_eq_true] at g2
  exact bad _ (fun k => by rw [g2];rfl) (by unfold AV;rw [g2];simp)
 refine Ev.step (fun k => by rw [g2];simp only [impl_AutomatonValid.j0];rw [if_neg (by simp)]) ((iSteps n s f t ht).is ?_)
 unfold AV;rw [hd,g1,g2];rfl
theorem sAV (n : Int) (s f : List Int) (t : List S92) (hs : s.length ≤ 1000000000) (hf : f.length ≤ 1000000000) (ht : t.length ≤ 1000000000) : Ev (fun k => spec_AutomatonValid.f k n s f t) (AV n s f t):=by
 have bad : ∀ g : Nat → Option Bool,(∀ k,g k = spec_AutomatonValid.j0 k true n s f t) → AV n s f t = false → Ev g (AV n s f t):=fun g hg he => Ev.congr hg ((Ev.step (f:=fun _ => some false) (fun k => by simp only [spec_AutomatonValid.j0];rw [if_pos trivial]) (Ev.now _)).is he.symm)
 by_cases h1 : 1 ≤ n ∧ n ≤ 4
 case neg => exact bad _ (fun k => by unfold spec_AutomatonValid.f;rw [sIn,decide_eq_false h1,Option.bind_some,if_neg (by simp)]) (by unfold AV;rw [decide_eq_false (by omega)];rfl)
 refine Ev.congr (f:=?f4) (fun k => ?h4) ?k4
 case h4 => unfold spec_AutomatonValid.f;rw [sIn,decide_eq_true h1,Option.bind_some,if_pos rfl] <;> exact rfl
 refine Ev.bind (sMarks n h1 s hs) ?_
 by_cases g1 : mrk n none s = true
 case neg =>
  exact bad _ (fun k => by rw [if_neg g1]) (by unfold AV;rw [Bool.not_eq_true] at g1;rw [g1];simp)
 refine Ev_t g1 ?_
 refine Ev.bind (sMarks n h1 f hf) ?_
 by_cases g2 : mrk n none f = true
 case neg =>
  exact bad _ (fun k => by rw [if_neg g2]) (by unfold AV;rw [Bool.not_eq_true] at g2;rw [g2];simp)
 refine Ev_t g2 ?_
 by_cases h3 : (t.length : Int) > 24
 ·exact bad _ (fun k => by rw [decide_eq_true h3]) (by unfold AV;rw [decide_eq_false (by omega)];rfl)
 refine Ev.step (fun k => by rw [decide_eq_false h3];simp only [spec_AutomatonValid.j0];rw [if_neg (by simp)]) ((sSteps n h1 s f t ht).is ?_)
 unfold AV;rw [decide_eq_true (by omega),g1,g2];rfl
theorem mrk_mem {n : Int} : ∀ {l : List Int} {p : Option Int},mrk n p l = true → ∀ x ∈ l,0 ≤ x ∧ x < n
 | [],_,_,x,hx => by cases hx
 | y :: t,p,h,x,hx => by
  simp only [mrk,Bool.and_eq_true,decide_eq_true_eq] at h
  rcases List.mem_cons.mp hx with rfl|hx
  ·exact h.1.1
  ·exact mrk_mem h.2 x hx
theorem cellZ {n i k : Int} (hn : 1 ≤ n ∧ n ≤ 4) (hi : 0 ≤ i ∧ i < n) (hk : 0 ≤ k ∧ k < n) : 0 ≤ i * n + k ∧ i * n + k < n * n ∧ i * n + k ≤ 16 ∧ 0 ≤ i * n ∧ i * n ≤ 16:=by
 have h1 : n = 1 ∨ n = 2 ∨ n = 3 ∨ n = 4:=by omega
 rcases h1 with rfl|rfl|rfl|rfl <;> omega
theorem cellW {n i k : Int} (hn : 1 ≤ n ∧ n ≤ 4) (hi : 0 ≤ i ∧ i < n) (hk : 0 ≤ k ∧ k < n) : wrap64 (wrap64 (i * n) + k) = i * n + k:=by
 have c:=cellZ hn hi hk
 rw [w64 (x:=i * n) (by omega) (by omega),w64 (by omega) (by omega)]
theorem AV_parts {n : Int} {s f : List Int} {t : List S92} (h : AV n s f t = true) : (1 ≤ n ∧ n ≤ 4) ∧ t.length ≤ 24 ∧ mrk n none s = true ∧ mrk n none f = true ∧ stp n none t = true:=by
 simp only [AV,Bool.and_eq_true,decide_eq_true_eq] at h
 exact ⟨⟨h.1.1.1.1,h.1.1.1.2.1⟩,h.1.1.1.2.2,h.1.1.2,h.1.2,h.2⟩
def cvS (x : S118) : S92:=⟨x.f0,x.f1,x.f2,x.f3⟩
theorem rdL_mid (pre : List S118) (x : S118) (t : List S118) : rd_T118 (pre ++ x :: t) (pre.length : Int) = x:=by simp [rd_T118,List.getD_eq_getElem?_getD]
theorem toStepS_ev (l : List S118) (h : l.length ≤ 1048576) : Ev (fun k => laws_toStepS.f k l) (l.map cvS):=by
 have go : ∀ (t pre : List S118),l = pre ++ t → Ev (fun k => laws_toStepS.l0 k l (pre.map cvS ++ List.replicate t.length z92) (pre.length : Int)) (l.map cvS):=by
  intro t
  induction t with
  | nil =>
   intro pre hl
   refine Ev.step (f:=fun _ => some (l.map cvS)) (fun k => ?_) (Ev.now _)
   simp only [laws_toStepS.l0]
   rw [if_neg (by rw [hl];simp)]
   simp [hl]
  | cons x t ih =>
   intro pre hl
   have hlen : l.length = pre.length + (t.length + 1):=by rw [hl];simp
   have hx : rd_T118 l (pre.length : Int) = x:=by rw [hl,rdL_mid]
   refine Ev.step (fun k => ?_) (ih (pre ++ [x]) (by simp [hl]))
   simp only [laws_toStepS.l0,laws_toStep.f]
   rw [if_pos (by omega),if_pos (by omega),hx,Option.bind_some,if_pos (by simp;omega),w64 (by omega) (by omega),snocA]
   congr 1
   simp [List.replicate_succ,List.set_append,cvS]
 refine Ev.congr (fun k => ?_) (go l [] rfl)
 unfold laws_toStepS.f
 rw [if_pos (by omega),if_pos (by omega)]
 simp
theorem eqStepS_ev (a : List S92) (h : a.length ≤ 1000000000) : Ev (fun k => laws_eqStepS.f k a a) true:=by
 have go : ∀ (t pre : List S92),a = pre ++ t → Ev (fun k => laws_eqStepS.l0 k a a (pre.length : Int)) true:=by
  intro t
  induction t with
  | nil =>
   intro pre hl
   refine Ev.step (f:=fun _ => some true) (fun k => ?_) (Ev.now _)
   simp only [laws_eqStepS.l0]
   rw [if_neg (by rw [hl];simp)]
  | cons x t ih =>
   intro pre hl
   have hlen : a.length = pre.length + (t.length + 1):=by rw [hl];simp
   have hx : rd_T92 a (pre.length : Int) = x:=by rw [hl,rdS_mid]
   refine Ev.step (fun k => ?_) (ih (pre ++ [x]) (by simp [hl]))
   simp only [laws_eqStepS.l0,laws_eqStep.f]
   rw [if_pos (by omega),if_pos (by omega),if_pos (by omega)]
   simp only [if_true,Option.bind_some]
   rw [w64 (by omega) (by omega),snocA]
 refine Ev.congr (fun k => ?_) (go a [] rfl)
 unfold laws_eqStepS.f
 rw [if_pos rfl];rfl
theorem toAutomaton_ev (n : Int) (s f : List Int) (t : List S118) (hs : s.length ≤ 1048576) (hf : f.length ≤ 1048576) (ht : t.length ≤ 1048576) : Ev (fun k => laws_toAutomaton.f k n s f t) (n,s,f,t.map cvS):=by
 refine Ev.congr (f:=?f1) (fun k => ?h1) ?k1
 case h1 => unfold laws_toAutomaton.f;exact rfl
 exact Ev.bind (toIntS_ev s hs) (Ev.bind (toIntS_ev f hf) (Ev.bind (toStepS_ev t ht) (Ev.now _)))
theorem eqAutomaton_ev (n : Int) (s f : List Int) (t : List S92) (hs : s.length ≤ 1000000000) (hf : f.length ≤ 1000000000) (ht : t.length ≤ 1000000000) : Ev (fun k => laws_eqAutomaton.f k n s f t n s f t) true:=by
 refine Ev.congr (f:=?f2) (fun k => ?h2) ?k2
 case h2 => unfold laws_eqAutomaton.f;rw [if_pos rfl] <;> exact rfl
 refine Ev.bind (eqIntS_ev s s hs) (Ev_t (by simp) (Ev.bind (eqIntS_ev f f hf) (Ev_t (by simp) (Ev.bind (eqStepS_ev t ht) (Ev_t rfl (Ev.now _))))))
theorem szIntS_eq (l : List Int) (z : Int) (h : l.length ≤ maxLen) (h0 : 0 ≤ z) (h1 : z ≤ 1048576) : laws_szIntS.f l z = some (if (l.length : Int) ≤ z then z - l.length else -1):=by
 rw [maxLen_eq] at h
 unfold laws_szIntS.f
 rw [w64 (by omega) (by omega)]
 by_cases hl : (l.length : Int) ≤ z
 ·rw [if_neg (by omega),if_pos hl]
 ·rw [if_pos (by omega),if_neg hl]
theorem szStepS_ev (l : List S118) (h : l.length ≤ maxLen) (hx : ∀ x ∈ l,x.f1.size ≤ maxLen) (z : Int) (h0 : 0 ≤ z) (h1 : z ≤ 1048576) : ∃ r : Int,Ev (fun k => laws_szStepS.f k l z) r ∧ (r < 0 ∨ (0 ≤ r ∧ r ≤ z ∧ l.length ≤ z)):=by
 rw [maxLen_eq] at h
 by_cases hl : (l.length : Int) ≤ z
 ·have go : ∀ (t pre : List S118) (y : Int),l = pre ++ t → 0 ≤ y → y ≤ z → ∃ r : Int,Ev (fun k => laws_szStepS.l0 k l y (pre.length : Int)) r ∧ (r < 0 ∨ (0 ≤ r ∧ r ≤ z)):=by
   intro t
   induction t with
   | nil =>
    intro pre y hp hy hz
    refine ⟨y,Ev.step (f:=fun _ => some y) (fun k => ?_) (Ev.now _),.inr ⟨hy,hz⟩⟩
    simp only [laws_szStepS.l0]
    rw [if_neg (by rw [hp];simp)]
   | cons x t ih =>
    intro pre y hp hy hz
    have hlen : l.length = pre.length + (t.length + 1):=by rw [hp];simp
    have hr : rd_T118 l (pre.length : Int) = x:=by rw [hp,rdL_mid]
    have hm:=hx x (by rw [hp];simp)
    rw [maxLen_eq] at hm
    have hw : wrap64 (y - (x.f1.size : Int)) = y - x.f1.size:=w64 (by omega) (by omega)
    by_cases hq : y - x.f1.size < 0
    ·refine ⟨-1,Ev.step (f:=fun _ => some (-1)) (fun k => ?_) (Ev.now _),.inl (by omega)⟩
     simp only [laws_szStepS.l0,laws_szStep.f]
     rw [if_pos (by omega),if_pos (by omega),hr,hw,if_pos hq,Option.bind_some,if_pos (by omega)]
    ·obtain ⟨r,e,c⟩:=ih (pre ++ [x]) (y - x.f1.size) (by simp [hp]) (by omega) (by omega)
     refine ⟨r,Ev.step (fun k => ?_) e,c⟩
     simp only [laws_szStepS.l0,laws_szStep.f]
     rw [if_pos (by omega),if_pos (by omega),hr,hw,if_neg hq,Option.bind_some,if_neg hq,w64 (by omega) (by omega),snocA]
  obtain ⟨r,e,c⟩:=go l [] (z - l.length) rfl (by omega) (by omega)
  refine ⟨r,Ev.congr (fun k => ?_) e,c.imp id (fun c => ⟨c.1,c.2,by omega⟩)⟩
  unfold laws_szStepS.f
  rw [w64 (by omega) (by omega),if_neg (by omega)];rfl
 ·refine ⟨-1,Ev.congr (f:=fun _ => some (-1)) (fun k => ?_) (Ev.now _),.inl (by omega)⟩
  unfold laws_szStepS.f
  rw [w64 (by omega) (by omega),if_pos (by omega)]
theorem szAutomaton_ev (n : Int) (s f : List Int) (t : List S118) (hs : s.length ≤ maxLen) (hf : f.length ≤ maxLen) (ht : t.length ≤ maxLen) (hx : ∀ x ∈ t,x.f1.size ≤ maxLen) (z : Int) (h0 : 0 ≤ z) (h1 : z ≤ 1048576) :
  ∃ r : Int,Ev (fun k => laws_szAutomaton.f k n s f t z) r ∧ (r < 0 ∨ (0 ≤ r ∧ r ≤ z ∧ s.length ≤ 1048576 ∧ f.length ≤ 1048576 ∧ t.length ≤ 1048576)):=by
 by_cases a1 : (s.length : Int) ≤ z
 case neg => exact ⟨-1,Ev.congr (f:=fun _ => some (-1)) (fun k => by unfold laws_szAutomaton.f;rw [szIntS_eq s z hs h0 h1,if_neg a1,Option.bind_some,if_pos (by omega)]) (Ev.now _),.inl (by omega)⟩
 by_cases a2 : (f.length : Int) ≤ z - s.length
 case neg => exact ⟨-1,Ev.congr (f:=fun _ => some (-1)) (fun k => by unfold laws_szAutomaton.f;rw [szIntS_eq s z hs h0 h1,if_pos a1,Option.bind_some,if_neg (by omega),szIntS_eq f _ hf (by omega) (by omega),if_neg a2,Option.bind_some,if_pos (by omega)]) (Ev.now _),.inl (by omega)⟩
 obtain ⟨r,e,c⟩:=szStepS_ev t ht hx (z - s.length - f.length) (by omega) (by omega)
 by_cases hr : r < 0
 ·refine ⟨-1,Ev.congr (f:=?f3) (fun k => ?h3) ?k3,.inl (by omega)⟩
  case h3 => unfold laws_szAutomaton.f;rw [szIntS_eq s z hs h0 h1,if_pos a1,Option.bind_some,if_neg (by omega),szIntS_eq f _ hf (by omega) (by omega),if_pos a2,Option.bind_some,if_neg (by omega)] <;> exact rfl
  exact Ev.bind e (Ev_t hr (Ev.now _))
 ·have c:=c.resolve_left hr
  refine ⟨r,Ev.congr (f:=?f4) (fun k => ?h4) ?k4,.inr ⟨c.1,by omega,by omega,by omega,by omega⟩⟩
  case h4 => unfold laws_szAutomaton.f;rw [szIntS_eq s z hs h0 h1,if_pos a1,Option.bind_some,if_neg (by omega),szIntS_eq f _ hf (by omega) (by omega),if_pos a2,Option.bind_some,if_neg (by omega)] <;> exact rfl
  exact Ev.bind e (Ev_f hr (Ev.now _))
def count : Int → Nat → List Int
 | _,0 => []
 | k,n + 1 => k :: count (k + 1) n
theorem count_length (n : Nat) : ∀ k,(count k n).length = n:=by induction n with
 | zero => intro k;rfl
 | succ n ih => intro k;simp [count,ih]
theorem markIntS_ev (l : List Int) (c : Int) (h : l.length ≤ 1000000000) (h0 : 0 ≤ c) (h1 : c ≤ 1000000000) : Ev (fun k => laws_markIntS.f k l c) (c + l.length,count c l.length):=by
 have go : ∀ (t pre : List Int) (m : Int),pre.length + t.length = l.length → m = c + pre.length → Ev (fun k => laws_markIntS.l0 k (pre ++ t) m (pre.length : Int)) (c + l.length,pre ++ count m t.length):=by
  intro t
  induction t with
  | nil =>
   intro pre m hl hm
   refine Ev.step (f:=fun _ => some (m,pre)) (fun k => ?_) ((Ev.now _).is ?_)
   ·simp only [laws_markIntS.l0];rw [if_neg (by simp)];simp
   ·simp at hl;simp [count];omega
  | cons x t ih =>
   intro pre m hl hm
   simp at hl
   have i:=ih (pre ++ [m]) (m + 1) (by simp;omega) (by simp;omega)
   refine Ev.step (fun k => ?_) (i.is (by simp [count]))
   simp only [laws_markIntS.l0]
   rw [if_pos (by simp;omega),if_pos (by omega),w64 (by omega) (by omega),w64 (by omega) (by omega),snoc_len]
   congr 1
   simp [List.set_append]
 exact (go l [] c (by simp) (by simp))
theorem heldIntS_ev (n : Nat) (c : Int) (h : n ≤ 1000000000) (h0 : 0 ≤ c) (h1 : c ≤ 1000000000) : Ev (fun k => laws_heldIntS.f k (count c n) c) (c + n):=by
 have go : ∀ (m : Nat) (pre : List Int) (z : Int),pre.length + m = n → z = c + pre.length → Ev (fun k => laws_heldIntS.l0 k (pre ++ count z m) z (pre.length : Int)) (c + n):=by
  intro m
  induction m with
  | zero =>
   intro pre z hl hz
   refine Ev.step (f:=fun _ => some z) (fun k => ?_) ((Ev.now _).is (by omega))
   simp only [laws_heldIntS.l0];rw [if_neg (by simp [count])]
  | succ m ih =>
   intro pre z hl hz
   have i:=ih (pre ++ [z]) (z + 1) (by simp;omega) (by simp;omega)
   show Ev (fun k => laws_heldIntS.l0 k (pre ++ z :: count (z + 1) m) z (pre.length : Int)) (c + n)
   refine Ev.step (fun k => ?_) i
   simp only [laws_heldIntS.l0]
   rw [if_pos (by simp [count_length];omega),if_pos (by omega),if_pos (by rw [rd_mid]),w64 (by omega) (by omega),w64 (by omega) (by omega),snoc_len]
   simp
 exact go n [] c (by simp) (by simp)
theorem markMatrix_ev (n : Int) (l : List Int) (c : Int) (h : l.length ≤ 1000000000) (h0 : 0 ≤ c) (h1 : c ≤ 1000000000) : Ev (fun k => laws_markMatrix.f k n l c) (c + l.length,count c l.length):=by
 refine Ev.congr (f:=?f1) (fun k => ?h1) ?k1
 case h1 => unfold laws_markMatrix.f;exact rfl
 exact Ev.bind (markIntS_ev l c h h0 h1) (Ev.now _)
theorem heldMatrix_ev (n : Int) (m : Nat) (c : Int) (h : m ≤ 1000000000) (h0 : 0 ≤ c) (h1 : c ≤ 1000000000) : Ev (fun k => laws_heldMatrix.f k n (count c m) c) (c + m):=by
 refine Ev.congr (f:=?f2) (fun k => ?h2) ?k2
 case h2 => unfold laws_heldMatrix.f;exact rfl
 exact Ev.bind (heldIntS_ev m c h h0 h1) (Ev.congr (f:=fun _ => some (c + m)) (fun k => by rw [if_neg (by omega)]) (Ev.now _))
theorem markText_ev (c : Int) (h0 : 1 ≤ c) (h1 : c ≤ 1000000000) : ∃ r,Ev (fun k => laws_markText.f k c) r:=by
 have go : ∀ (d : Nat) (x : Int) (s : ByteArray),0 ≤ x → x.toNat ≤ d → s.size + d ≤ 2000000000 → ∃ r,Ev (fun k => laws_markText.l0 k x s) r:=by
  intro d
  induction d with
  | zero =>
   intro x s hx hd hs
   refine ⟨_,Ev.step (f:=fun _ => some ((⟨#[109]⟩ : ByteArray) ++ s)) (fun k => ?_) (Ev.now _)⟩
   simp only [laws_markText.l0];rw [if_neg (by omega),if_pos (by omega)]
  | succ d ih =>
   intro x s hx hd hs
   by_cases hx0 : x > 0
   ·have e1 : Int.tdiv x 10 = x / 10:=Int.tdiv_eq_ediv_of_nonneg (by omega)
    have hz : (strOfNums [(wrap64 (48 + (Int.tmod x 10))) % 256]).size = 1:=rfl
    obtain ⟨r,hr⟩:=ih (x / 10) (strOfNums [(wrap64 (48 + (Int.tmod x 10))) % 256] ++ s) (by omega) (by omega) (by rw [ByteArray.size_append,hz];omega)
    refine ⟨r,Ev.step (fun k => ?_) hr⟩
    simp only [laws_markText.l0]
    rw [if_pos hx0,Option.bind_some,hz,if_pos (by omega),e1,w64 (x:=x / 10) (by omega) (by omega)]
   ·refine ⟨_,Ev.step (f:=fun _ => some ((⟨#[109]⟩ : ByteArray) ++ s)) (fun k => ?_) (Ev.now _)⟩
    simp only [laws_markText.l0];rw [if_neg hx0,if_pos (by omega)]
 obtain ⟨r,hr⟩:=go c.toNat c ⟨#[]⟩ (by omega) (Nat.le_refl _) (by show 0 + c.toNat ≤ 2000000000;omega)
 exact ⟨r,Ev.congr (fun k => by unfold laws_markText.f;rw [if_neg (by omega)]) hr⟩
theorem markStepS_ev (l : List S92) (c : Int) (h : l.length ≤ 20000000) (h0 : 1 ≤ c) (h1 : c ≤ 20000000) : ∃ l',Ev (fun k => laws_markStepS.f k l c) (c + 4 * l.length,l'):=by
 have go : ∀ (d : Nat) (m : List S92) (i : Nat) (z : Int),m.length = l.length → i + d = l.length → z = c + 4 * i → ∃ l',Ev (fun k => laws_markStepS.l0 k m z (i : Int)) (c + 4 * l.length,l'):=by
  intro d
  induction d with
  | zero =>
   intro m i z hm hi hz
   refine ⟨m,Ev.step (f:=fun _ => some (z,m)) (fun k => ?_) ((Ev.now _).is (by rw [hz];congr 1;omega))⟩
   simp only [laws_markStepS.l0];rw [if_neg (by omega)]
  | succ d ih =>
   intro m i z hm hi hz
   obtain ⟨r,hr⟩:=markText_ev (z + 1) (by omega) (by omega)
   have i1 : (i : Int) < (m.length : Int):=by omega
   have i2 : 0 ≤ (i : Int):=by omega
   have key : ∀ m' : List S92,m'.length = l.length → ∃ l',Ev (fun k => laws_markStepS.l0 k m' (z + 1 + 1 + 1 + 1) ((i + 1 : Nat) : Int)) (c + 4 * l.length,l'):=fun m' hm' => ih m' (i + 1) (z + 1 + 1 + 1 + 1) hm' (by omega) (by rw [hz];push_cast;omega)
   have hw1 : wrap64 (z + 1) = z + 1:=w64 (by omega) (by omega)
   have hw2 : wrap64 (z + 1 + 1) = z + 1 + 1:=w64 (by omega) (by omega)
   have hw3 : wrap64 (z + 1 + 1 + 1) = z + 1 + 1 + 1:=w64 (by omega) (by omega)
   have hw4 : wrap64 (z + 1 + 1 + 1 + 1) = z + 1 + 1 + 1 + 1:=w64 (by omega) (by omega)
   have hw5 : wrap64 ((i : Int) + 1) = ((i + 1 : Nat) : Int):=by rw [w64 (by omega) (by omega)];rfl
   have pS : ∀ {f g : Nat → Option (Int × List S92)},(∀ k,f (k + 1) = g k) → (∃ l',Ev g (c + 4 * l.length,l')) → ∃ l',Ev f (c + 4 * l.length,l'):=fun h e => e.elim fun l' e => ⟨l',Ev.step h e⟩
   have pB : ∀ {α : Type} {f : Nat → Option α} {a : α} {g : Nat → α → Option (Int × List S92)},Ev f a → (∃ l',Ev (fun k => g k a) (c + 4 * l.length,l')) → ∃ l',Ev (fun k => (f k).bind (g k)) (c + 4 * l.length,l'):=fun h e => e.elim fun l' e => ⟨l',Ev.bind h e⟩
   refine pS (fun k => by simp only [laws_markStepS.l0];rw [if_pos i1,if_pos i2,hw1,hw2,hw3,hw4,hw5] <;> exact rfl) ?_
   refine pB (ev_some (fun _ => rfl)) ?_
   refine pB hr ?_
   refine pB (ev_some (fun _ => rfl)) ?_
   refine pB (ev_some (fun _ => rfl)) ?_
   exact key _ (by simp only [List.length_set];exact hm)
 exact go l.length l 0 c rfl (by omega) (by simp)
theorem markAutomaton_ev (n : Int) (s f : List Int) (t : List S92) (hs : s.length ≤ 1048576) (hf : f.length ≤ 1048576) (ht : t.length ≤ 1048576) : ∃ (z : Int) (s' f' : List Int) (t' : List S92),Ev (fun k => laws_markAutomaton.f k n s f t 1) (z,s',f',t') ∧ 1 ≤ z ∧ z ≤ 20000000:=by
 obtain ⟨t',h⟩:=markStepS_ev t (1 + s.length + f.length) (by omega) (by omega) (by omega)
 refine ⟨1 + s.length + f.length + 4 * t.length,count 1 s.length,count (1 + s.length) f.length,t',?_,by omega,by omega⟩
 unfold laws_markAutomaton.f
 exact Ev.bind (markIntS_ev s 1 (by omega) (by omega) (by omega)) (Ev.bind (markIntS_ev f (1 + s.length) (by omega) (by omega) (by omega)) (Ev.bind h (Ev.now _)))
theorem div_mod_at (n i k : Nat) (hk : k < n) : (i * n + k) / n = i ∧ (i * n + k) % n = k:=by
 have hn : 0 < n:=by omega
 constructor
 ·rw [Nat.mul_comm,Nat.mul_add_div hn,Nat.div_eq_of_lt hk,Nat.add_zero]
 ·rw [Nat.mul_comm,Nat.mul_add_mod,Nat.mod_eq_of_lt hk]
theorem cell_lt (n i k : Nat) (hi : i < n) (hk : k < n) : i * n + k < n * n:=by
 have : (i + 1) * n ≤ n * n:=Nat.mul_le_mul_right n hi
 rw [Nat.succ_mul] at this
 omega
theorem sq_le (n : Nat) (h : n ≤ 4) : n * n ≤ 16:=by
 have:=Nat.mul_le_mul h h
 omega
theorem row_le (n i : Nat) (hn : n ≤ 4) (hi : i ≤ n) : i * n ≤ 16:=by
 have:=Nat.mul_le_mul (Nat.le_trans hi hn) hn
 omega
def cutF (n : Nat) (g : Nat → Nat → Int) : Int → Int → Option Int:=fun i k => if 0 ≤ i ∧ i < n ∧ 0 ≤ k ∧ k < n then some (g i.toNat k.toNat) else none
theorem cutF_at (n : Nat) (g : Nat → Nat → Int) (i k : Nat) (hi : i < n) (hk : k < n) : cutF n g (i : Int) (k : Int) = some (g i k):=by
 unfold cutF;rw [if_pos (by omega)];simp
def sqL (n : Nat) (g : Nat → Nat → Int) : List Int:=tab (n * n) (fun m => g (m / n) (m % n))
theorem sqL_get (n : Nat) (g : Nat → Nat → Int) (i k : Nat) (hi : i < n) (hk : k < n) : (sqL n g).getD (i * n + k) 0 = g i k:=by
 unfold sqL
 rw [tab_get _ _ _ (cell_lt n i k hi hk)]
 obtain ⟨h1,h2⟩:=div_mod_at n i k hk
 rw [h1,h2]
theorem sqL_congr (n : Nat) (g h : Nat → Nat → Int) (e : ∀ i k,i < n → k < n → g i k = h i k) : sqL n g = sqL n h:=by
 refine tab_congr _ _ _ (fun j hj => e _ _ (Nat.div_lt_of_lt_mul hj) (Nat.mod_lt _ ?_))
 rcases n with _|n
 ·simp at hj
 ·omega
theorem eq_sqL (n : Nat) (l : List Int) (h : l.length = n * n) : l = sqL n (fun i k => l.getD (i * n + k) 0):=by
 refine (eq_tab l _ h).trans (tab_congr _ _ _ (fun j _ => ?_))
 show l.getD j 0 = l.getD (j / n * n + j % n) 0
 rw [Nat.mul_comm,Nat.div_add_mod]
theorem filled_cut (n : Nat) (hn : n ≤ 4) (g : Nat → Nat → Int) : Ev (fun j => impl_filled.f (cutF n g) j (n : Int)) ((n : Int),sqL n g):=by
 have inner : ∀ (i : Nat) (r : Int × List Int),i < n → Ev (fun j => impl_filled.l0 (cutF n g) j n n ((i + 1 : Nat) : Int) n (tab ((i + 1) * n) (fun m => g (m / n) (m % n)))) r →
   Ev (fun j => impl_filled.l0 (cutF n g) j n n (i : Int) n (tab (i * n) (fun m => g (m / n) (m % n)))) r:=by
  intro i r hi h
  refine Ev.step (f:=fun j => impl_filled.l1 (cutF n g) j n i n i n ((0 : Nat) : Int) n (tab (i * n + 0) (fun m => g (m / n) (m % n)))) (fun k => ?_) ?_
  ·simp only [impl_filled.l0];rw [if_pos (by omega)];rfl
  refine up_loop n (fun k j => impl_filled.l1 (cutF n g) j n i n i n (k : Int) n (tab (i * n + k) (fun m => g (m / n) (m % n)))) r (fun k hk hs => ?_) ?_
  ·refine Ev.step (fun j => ?_) hs
   simp only [impl_filled.l1]
   have hr:=row_le n i hn (by omega)
   obtain ⟨h1,h2⟩:=div_mod_at n i k hk
   rw [if_pos (by omega),cutF_at n g i k hi hk,Option.bind_some,tab_length,if_pos (by omega),w64 (by omega) (by omega)]
   have e : tab (i * n + k) (fun m => g (m / n) (m % n)) ++ [g i k] = tab (i * n + (k + 1)) (fun m => g (m / n) (m % n)):=by
    rw [← Nat.add_assoc,← tab_snoc,h1,h2]
   rw [e];rfl
  ·refine Ev.step (fun j => ?_) h
   simp only [impl_filled.l1]
   rw [if_neg (by omega),w64 (by omega) (by omega),Nat.succ_mul];rfl
 refine Ev.congr (f:=fun j => impl_filled.l0 (cutF n g) j n n ((0 : Nat) : Int) n (tab (0 * n) (fun m => g (m / n) (m % n)))) (fun k => ?_) ?_
 ·unfold impl_filled.f;simp [tab]
 refine up_loop n (fun i j => impl_filled.l0 (cutF n g) j n n (i : Int) n (tab (i * n) (fun m => g (m / n) (m % n)))) _ (fun i hi hs => inner i _ hi hs) ?_
 refine Ev.step (f:=fun _ => some ((n : Int),sqL n g)) (fun j => ?_) (Ev.now _)
 simp only [impl_filled.l0]
 rw [if_neg (by omega)];rfl
theorem filled_ev (n : Nat) (hn : n ≤ 4) (g : Nat → Nat → Int) (p : Nat → Int → Int → Option Int) (h : ∀ i,i < n → ∀ k,k < n → Ev (fun K => p K (i : Int) (k : Int)) (g i k)) :
  Ev (fun K => impl_filled.f (p K) K (n : Int)) ((n : Int),sqL n g):=by
 have h2 : ∀ i,i < n → ∃ K0,∀ K,K0 ≤ K → ∀ k,k < n → p K (i : Int) (k : Int) = some (g i k):=fun i hi => ev_all n (fun k hk => h i hi k hk)
 have h3 : ∃ K0,∀ K,K0 ≤ K → ∀ i,i < n → ∀ k,k < n → p K (i : Int) (k : Int) = some (g i k):=by
  have : ∀ m,m ≤ n → ∃ K0,∀ K,K0 ≤ K → ∀ i,i < m → ∀ k,k < n → p K (i : Int) (k : Int) = some (g i k):=by
   intro m
   induction m with
   | zero => intro _;exact ⟨0,fun _ _ i hi => by omega⟩
   | succ m ih =>
    intro hm
    obtain ⟨a,ha⟩:=ih (by omega)
    obtain ⟨b,hb⟩:=h2 m (by omega)
    refine ⟨max a b,fun K hK i hi k hk => ?_⟩
    by_cases e : i = m
    ·subst e;exact hb K (by omega) k hk
    ·exact ha K (by omega) i (by omega) k hk
  exact this n (Nat.le_refl _)
 obtain ⟨K0,hK0⟩:=h3
 refine ev_up (f:=fun j => impl_filled.f (cutF n g) j (n : Int)) (p:=fun K j => impl_filled.f (p K) j (n : Int)) (filled_cut n hn g) ⟨K0,fun K hK j => ?_⟩ (fun K j => impl_filled.mono (p K) _ j)
 refine impl_filled.monoP (fun y0 y1 r hr => ?_) _ j
 unfold cutF at hr
 by_cases hc : 0 ≤ y0 ∧ y0 < n ∧ 0 ≤ y1 ∧ y1 < n
 ·rw [if_pos hc] at hr
  have e0 : ((y0.toNat : Nat) : Int) = y0:=by omega
  have e1 : ((y1.toNat : Nat) : Int) = y1:=by omega
  have:=hK0 K hK y0.toNat (by omega) y1.toNat (by omega)
  rw [e0,e1] at this
  rw [this];exact hr
 ·rw [if_neg hc] at hr;cases hr
theorem at_eq (n : Nat) (hn : n ≤ 4) (l : List Int) (hl : l.length = n * n) (i k : Nat) (hi : i < n) (hk : k < n) : impl_Matrix_at.f (n : Int) l (i : Int) (k : Int) = some (l.getD (i * n + k) 0):=by
 have hc:=cell_lt n i k hi hk
 have hr:=row_le n i hn (by omega)
 have e : wrap64 (wrap64 ((i : Int) * (n : Int)) + k) = ((i * n + k : Nat) : Int):=by
  have : (i : Int) * (n : Int) = ((i * n : Nat) : Int):=by simp
  rw [this,w64 (x:=((i * n : Nat) : Int)) (by omega) (by omega),w64 (by omega) (by omega)];simp
 unfold impl_Matrix_at.f
 rw [e,if_pos (by omega),if_pos (by omega),rd_nat]
theorem tdiv_nat (m n : Nat) : Int.tdiv (m : Int) (n : Int) = ((m / n : Nat) : Int):=by rw [Int.tdiv_eq_ediv_of_nonneg (by omega)];simp
theorem tmod_nat (m n : Nat) : Int.tmod (m : Int) (n : Int) = ((m % n : Nat) : Int):=by rw [Int.tmod_eq_emod_of_nonneg (by omega)];simp
theorem idx1 (n m l : Nat) (hn : n ≤ 4) (hi : m / n < n) (hl : l < n) : wrap64 (wrap64 (wrap64 (Int.tdiv (m : Int) (n : Int)) * (n : Int)) + l) = ((m / n * n + l : Nat) : Int):=by
 have r1:=row_le n (m / n) hn (by omega)
 rw [tdiv_nat]
 obtain ⟨q,hq⟩ : ∃ q : Nat,m / n = q:=⟨_,rfl⟩
 rw [hq] at hi r1 ⊢
 have h1 : ((q : Nat) : Int) * (n : Int) = ((q * n : Nat) : Int):=by simp
 obtain ⟨s,hs⟩ : ∃ s : Nat,q * n = s:=⟨_,rfl⟩
 rw [w64 (x:=((q : Nat) : Int)) (by omega) (by omega),h1]
 rw [hs] at r1 ⊢
 clear h1 hs hq
 rw [w64 (x:=((s : Nat) : Int)) (by omega) (by omega),w64 (by omega) (by omega)];simp
theorem idx2 (n m l : Nat) (hn : n ≤ 4) (hk : m % n < n) (hl : l < n) : wrap64 (wrap64 ((l : Int) * (n : Int)) + Int.tmod (m : Int) (n : Int)) = ((l * n + m % n : Nat) : Int):=by
 have r2:=row_le n l hn (by omega)
 rw [tmod_nat]
 obtain ⟨q,hq⟩ : ∃ q : Nat,m % n = q:=⟨_,rfl⟩
 rw [hq] at hk ⊢
 have h1 : (l : Int) * (n : Int) = ((l * n : Nat) : Int):=by simp
 obtain ⟨s,hs⟩ : ∃ s : Nat,l * n = s:=⟨_,rfl⟩
 rw [h1]
 rw [hs] at r2 ⊢
 clear h1 hs hq
 rw [w64 (x:=((s : Nat) : Int)) (by omega) (by omega),w64 (by omega) (by omega)];simp
theorem MV_nat {n : Int} {l : List Int} (h : MV n l) : ∃ m : Nat,n = (m : Int) ∧ 1 ≤ m ∧ m ≤ 4 ∧ l.length = m * m:=by
 refine ⟨n.toNat,?_⟩
 have h1:=h.1
 have h2:=h.2.1
 have h3:=h.2.2.1
 obtain ⟨m,rfl⟩ : ∃ m : Nat,n = (m : Int):=⟨n.toNat,by omega⟩
 refine ⟨by simp,by simp;omega,by simp;omega,?_⟩
 simp only [Int.toNat_natCast]
 exact_mod_cast h3
def unitE (i k : Nat) : Int:=if i = k then 0 else 1000000
def oneE (i k : Nat) : Int:=if i = k then 0 else 3
theorem iUnit (n : Nat) (h1 : 1 ≤ n) (h4 : n ≤ 4) : Ev (fun k => impl_UnitMatrix.f k (n : Int)) ((n : Int),sqL n unitE,true):=by
 unfold impl_UnitMatrix.f
 refine Ev_f (by omega) (Ev_f (by omega) ?_)
 refine Ev.bind (a:=((n : Int),sqL n unitE)) ?_ (Ev.now _)
 refine filled_ev n h4 unitE (fun _ y0 y1 => impl_UnitMatrix_1.f y0 y1) (fun i hi k hk => ?_)
 refine Ev.congr (f:=fun _ => some (unitE i k)) (fun _ => ?_) (Ev.now _)
 unfold impl_UnitMatrix_1.f unitE
 by_cases e : i = k
 ·subst e;rw [if_pos rfl,if_pos rfl]
 ·rw [if_neg (by omega),if_neg e]
theorem unit_MV (n : Nat) (h1 : 1 ≤ n) (h4 : n ≤ 4) : MV (n : Int) (sqL n unitE):=by
 refine ⟨by omega,by omega,?_,?_⟩
 ·unfold sqL;rw [tab_length];exact_mod_cast rfl
 ·intro x hx
  unfold sqL tab at hx
  obtain ⟨m,_,rfl⟩:=List.mem_map.mp hx
  unfold unitE
  by_cases e : m / n = m % n
  ·simp only [e,if_true];omega
  ·rw [if_neg e];omega
def wOk (c : UInt8) : Bool:=c == 97 || c == 98
def wordB (l : List UInt8) : Bool:=l.all wOk && decide (l.length ≤ 1000)
theorem iWord_loop (s : ByteArray) (hn : s.size ≤ 4000000) : ∀ (e u : List UInt8),L s = u ++ e → Ev (fun k => impl_WordValid.l0 k s s.size u.length) (e.all wOk && decide (s.size ≤ 1000)):=by
 intro e
 induction e with
 | nil =>
  intro u h
  have hz:=size_suffix h
  simp only [List.length_nil] at hz
  refine Ev.step (f:=fun _ => some (decide (s.size ≤ 1000))) (fun k => ?_) ((Ev.now _).is (by simp))
  simp only [impl_WordValid.l0]
  rw [if_neg (by omega)]
  congr 1
  exact decide_eq_decide.mpr (by omega)
 | cons c e ih =>
  intro u h
  have hz:=size_suffix h
  simp only [List.length_cons] at hz
  have hbt:=bt_suffix h
  have hl : (u.length : Int) + 1 = (((u ++ [c]).length : Nat) : Int):=by simp
  have h2:=ih (u ++ [c]) (by rw [h];simp)
  by_cases h97 : c = 97
  ·subst h97
   refine Ev.step (fun k => ?_) (h2.is (by rfl))
   simp only [impl_WordValid.l0]
   rw [if_pos (by omega),if_pos (by omega),if_pos (by omega),hbt,if_pos (show (((97 : UInt8).toNat : Nat) : Int) = 97 from rfl),w64 (x:=(u.length : Int) + 1) (by omega) (by omega),hl]
  ·by_cases h98 : c = 98
   ·subst h98
    refine Ev.step (fun k => ?_) (h2.is (by rfl))
    simp only [impl_WordValid.l0]
    rw [if_pos (by omega),if_pos (by omega),if_pos (by omega),hbt,if_neg (by decide),if_pos (show (((98 : UInt8).toNat : Nat) : Int) = 98 from rfl),w64 (x:=(u.length : Int) + 1) (by omega) (by omega),hl]
   ·have hw : wOk c = false:=by unfold wOk;simp [h97,h98]
    refine Ev.step (f:=fun _ => some false) (fun k => ?_) ((Ev.now _).is (by simp [hw]))
    simp only [impl_WordValid.l0]
    rw [if_pos (by omega),if_pos (by omega),if_pos (by omega),hbt,if_neg (show ¬ ((c.toNat : Int) = 97) from u8_ne h97),if_neg (show ¬ ((c.toNat : Int) = 98) from u8_ne h98)]
theorem iWord_ev (s : ByteArray) (hn : s.size ≤ 4000000) : Ev (fun k => impl_WordValid.f k s) (wordB (L s)):=by
 have h:=iWord_loop s hn (L s) [] rfl
 unfold impl_WordValid.f wordB
 rw [← L_size]
 exact h
theorem sWord_loop (s : ByteArray) (hn : s.size ≤ 4000000) : ∀ (e u : List UInt8),L s = u ++ e → Ev (fun k => spec_WordValid.l0 k s s.size u.length) (e.all wOk && decide (s.size ≤ 1000)):=by
 intro e
 induction e with
 | nil =>
  intro u h
  have hz:=size_suffix h
  simp only [List.length_nil] at hz
  refine Ev.step (f:=fun _ => some (decide (s.size ≤ 1000))) (fun k => ?_) ((Ev.now _).is (by simp))
  simp only [spec_WordValid.l0]
  rw [if_neg (by omega)]
  congr 1
  exact decide_eq_decide.mpr (by omega)
 | cons c e ih =>
  intro u h
  have hz:=size_suffix h
  simp only [List.length_cons] at hz
  have hbt:=bt_suffix h
  have hl : (u.length : Int) + 1 = (((u ++ [c]).length : Nat) : Int):=by simp
  have h2:=ih (u ++ [c]) (by rw [h];simp)
  by_cases h97 : c = 97
  ·subst h97
   refine Ev.step (fun k => ?_) (h2.is (by rfl))
   simp only [spec_WordValid.l0]
   rw [if_pos (by omega),if_pos (by omega),if_pos (by omega),hbt,if_pos (show (((97 : UInt8).toNat : Nat) : Int) = 97 from rfl),w64 (x:=(u.length : Int) + 1) (by omega) (by omega),hl]
  ·by_cases h98 : c = 98
   ·subst h98
    refine Ev.step (fun k => ?_) (h2.is (by rfl))
    simp only [spec_WordValid.l0]
    rw [if_pos (by omega),if_pos (by omega),if_pos (by omega),hbt,if_neg (by decide),if_pos (show (((98 : UInt8).toNat : Nat) : Int) = 98 from rfl),w64 (x:=(u.length : Int) + 1) (by omega) (by omega),hl]
   ·have hw : wOk c = false:=by unfold wOk;simp [h97,h98]
    refine Ev.step (f:=fun _ => some false) (fun k => ?_) ((Ev.now _).is (by simp [hw]))
    simp only [spec_WordValid.l0]
    rw [if_pos (by omega),if_pos (by omega),if_pos (by omega),hbt,if_neg (show ¬ ((c.toNat : Int) = 97) from u8_ne h97),if_neg (show ¬ ((c.toNat : Int) = 98) from u8_ne h98)]
theorem sWord_ev (s : ByteArray) (hn : s.size ≤ 4000000) : Ev (fun k => spec_WordValid.f k s) (wordB (L s)):=by
 have h:=sWord_loop s hn (L s) [] rfl
 unfold spec_WordValid.f wordB
 rw [← L_size]
 exact h
def addC (x y : Int) : Int:=mn (x + y) 1000000
def mulCE (n : Nat) (a b : List Int) (i k : Nat) : Int:=(List.range n).foldl (fun acc l => mn acc (addC (a.getD (i * n + l) 0) (b.getD (l * n + k) 0))) 1000000
def mulCL (n : Nat) (a b : List Int) : List Int:=sqL n (mulCE n a b)
theorem mn_le1 (x y : Int) : mn x y ≤ x ∧ mn x y ≤ y:=by unfold mn;by_cases h : y < x <;> simp only [h,if_true,if_false] <;> omega
theorem mn_ge {x y t : Int} (h1 : t ≤ x) (h2 : t ≤ y) : t ≤ mn x y:=by unfold mn;by_cases h : y < x <;> simp only [h,if_true,if_false] <;> omega
theorem MV_of {n : Nat} (h1 : 1 ≤ n) (h4 : n ≤ 4) (g : Nat → Nat → Int) (h : ∀ i k,i < n → k < n → 0 ≤ g i k ∧ g i k ≤ 1000000) : MV (n : Int) (sqL n g):=by
 refine ⟨by omega,by omega,?_,?_⟩
 ·unfold sqL;rw [tab_length];exact_mod_cast rfl
 ·intro x hx
  unfold sqL at hx
  obtain ⟨j,hj,rfl⟩:=mem_tab.mp hx
  exact h _ _ (Nat.div_lt_of_lt_mul hj) (Nat.mod_lt _ (by omega))
theorem MV_len {n : Nat} {l : List Int} (h : MV (n : Int) l) : l.length = n * n:=by
 have:=h.2.2.1
 exact_mod_cast this
theorem MV_at {n : Nat} {l : List Int} (h : MV (n : Int) l) (i k : Nat) (hi : i < n) (hk : k < n) : 0 ≤ l.getD (i * n + k) 0 ∧ l.getD (i * n + k) 0 ≤ 1000000:=by
 have hc:=cell_lt n i k hi hk
 have hl:=MV_len h
 rw [List.getD_eq_getElem?_getD,List.getElem?_eq_getElem (by omega)]
 exact h.2.2.2 _ (List.getElem_mem _)
theorem addC_in {x y : Int} (hx : 0 ≤ x) (hy : 0 ≤ y) : 0 ≤ addC x y ∧ addC x y ≤ 1000000:=⟨mn_ge (by omega) (by omega),(mn_le1 _ _).2⟩
theorem mulCE_in {n : Nat} {a b : List Int} (ha : MV (n : Int) a) (hb : MV (n : Int) b) (i k : Nat) (hi : i < n) (hk : k < n) : 0 ≤ mulCE n a b i k ∧ mulCE n a b i k ≤ 1000000:=by
 unfold mulCE
 have go : ∀ m,m ≤ n → 0 ≤ (List.range m).foldl (fun acc l => mn acc (addC (a.getD (i * n + l) 0) (b.getD (l * n + k) 0))) 1000000 ∧ (List.range m).foldl (fun acc l => mn acc (addC (a.getD (i * n + l) 0) (b.getD (l * n + k) 0))) 1000000 ≤ 1000000:=by
  intro m
  induction m with
  | zero => intro _;exact ⟨by simp,by simp⟩
  | succ m ih =>
   intro hm
   have h:=ih (by omega)
   rw [fold_snoc]
   have c:=addC_in (MV_at ha i m hi (by omega)).1 (MV_at hb m k (by omega) hk).1
   exact ⟨mn_ge h.1 c.1,Int.le_trans (mn_le1 _ _).1 h.2⟩
 exact go n (Nat.le_refl _)
theorem mulCL_MV {n : Nat} {a b : List Int} (ha : MV (n : Int) a) (hb : MV (n : Int) b) : MV (n : Int) (mulCL n a b):=by
 have h1:=ha.1
 have h2:=ha.2.1
 exact MV_of (by omega) (by omega) _ (fun i k hi hk => mulCE_in ha hb i k hi hk)
theorem MV_max {n : Nat} {l : List Int} (h : MV (n : Int) l) : l.length ≤ maxLen:=by
 have h1:=h.2.1
 have:=sq_le n (by omega)
 have:=MV_len h
 rw [maxLen_eq];omega
theorem iMulCCell {n : Nat} {a b : List Int} (ha : MV (n : Int) a) (hb : MV (n : Int) b) (i k : Nat) (hi : i < n) (hk : k < n) : Ev (fun K => impl_MulMatrix_1.f K (i : Int) (k : Int) (n : Int) a (n : Int) b) (mulCE n a b i k):=by
 have hn : n ≤ 4:=by have:=ha.2.1;omega
 refine up_loop n (fun l K => impl_MulMatrix_1.l0 K i k ((List.range l).foldl (fun acc l => mn acc (addC (a.getD (i * n + l) 0) (b.getD (l * n + k) 0))) 1000000) n (l : Int) n a n b) _ (fun l hl hs => ?_) ?_
 ·refine Ev.step (fun j => ?_) hs
  have c1:=MV_at ha i l hi hl
  have c2:=MV_at hb l k hl hk
  simp only [impl_MulMatrix_1.l0,impl_AddCost.f]
  rw [if_pos (by omega),at_eq n hn a (MV_len ha) i l hi hl,Option.bind_some,at_eq n hn b (MV_len hb) l k hl hk,Option.bind_some,icost,Option.bind_some,icost,Option.bind_some,if_pos (by unfold okCost;exact decide_eq_true c1),if_pos (by unfold okCost;exact decide_eq_true c2),Option.bind_some,w64 (x:=(l : Int) + 1) (by omega) (by omega),fold_snoc]
  obtain ⟨x,hx⟩ : ∃ x,a.getD (i * n + l) 0 = x:=⟨_,rfl⟩
  obtain ⟨y,hy⟩ : ∃ y,b.getD (l * n + k) 0 = y:=⟨_,rfl⟩
  rw [hx] at c1
  rw [hy] at c2
  rw [hx,hy,w64 (x:=x + y) (by omega) (by omega)];rfl
 ·refine Ev.step (f:=fun _ => some (mulCE n a b i k)) (fun j => ?_) (Ev.now _)
  simp only [impl_MulMatrix_1.l0]
  rw [if_neg (by omega)];rfl
theorem iMulC {n : Nat} {a b : List Int} (ha : MV (n : Int) a) (hb : MV (n : Int) b) : Ev (fun k => impl_MulMatrix.f k n a n b) ((n : Int),mulCL n a b,true):=by
 have hn : n ≤ 4:=by have:=ha.2.1;omega
 unfold impl_MulMatrix.f
 have e : Ev (fun k => impl_alike.f k n a n b) true:=by
  unfold impl_alike.f
  refine Ev.bind (iMV n a (MV_max ha)) (Ev_t (decide_eq_true ha) ?_)
  refine Ev.bind (iMV n b (MV_max hb)) (Ev_t (decide_eq_true hb) ?_)
  exact (Ev.now _).is (by simp)
 refine Ev.bind e (Ev_t rfl ?_)
 refine Ev.bind (a:=((n : Int),mulCL n a b)) ?_ (Ev.now _)
 exact filled_ev n hn (mulCE n a b) (fun K y0 y1 => impl_MulMatrix_1.f K y0 y1 n a n b) (fun i hi k hk => iMulCCell ha hb i k hi hk)
theorem sMulC {n : Nat} {a b : List Int} (ha : MV (n : Int) a) (hb : MV (n : Int) b) : Ev (fun k => spec_l2Mul.f k n a n b) ((n : Int),mulCL n a b):=by
 have hn : n ≤ 4:=by have:=ha.2.1;omega
 have h0 : 1 ≤ n:=by have:=ha.1;omega
 have hla:=MV_len ha
 have hlb:=MV_len hb
 have hs:=sq_le n hn
 have e0 : wrap64 ((n : Int) * (n : Int)) = ((n * n : Nat) : Int):=by
  have : (n : Int) * (n : Int) = ((n * n : Nat) : Int):=by simp
  rw [this,w64 (by omega) (by omega)]
 refine Ev.congr (f:=fun k => spec_l2Mul.l0 k ((n * n : Nat) : Int) ((0 : Nat) : Int) n a n b n (tab 0 (fun m => mulCE n a b (m / n) (m % n)))) (fun k => ?_) ?_
 ·unfold spec_l2Mul.f;rw [e0];simp [tab]
 refine up_loop (n * n) (fun m k => spec_l2Mul.l0 k ((n * n : Nat) : Int) (m : Int) n a n b n (tab m (fun m => mulCE n a b (m / n) (m % n)))) _ (fun m hm hnext => ?_) ?_
 ·have hi : m / n < n:=Nat.div_lt_of_lt_mul hm
  have hk : m % n < n:=Nat.mod_lt _ (by omega)
  have hB : ¬ (n : Int) = 0:=by omega
  have eq1 : wrap64 (Int.tdiv (m : Int) (n : Int)) = ((m / n : Nat) : Int):=by
   rw [tdiv_nat]
   obtain ⟨q,hq⟩ : ∃ q : Nat,m / n = q:=⟨_,rfl⟩
   rw [hq] at hi ⊢
   exact w64 (by omega) (by omega)
  have er1 : Int.tmod (m : Int) (n : Int) = ((m % n : Nat) : Int):=tmod_nat m n
  refine Ev.step (f:=fun k => spec_l2Mul.l1 k ((m / n : Nat) : Int) ((m % n : Nat) : Int) ((List.range 0).foldl (fun acc l => mn acc (addC (a.getD (m / n * n + l) 0) (b.getD (l * n + m % n) 0))) 1000000) ((n * n : Nat) : Int) m n ((0 : Nat) : Int) n a n b n (tab m (fun m => mulCE n a b (m / n) (m % n)))) (fun k => ?_) ?_
  ·simp only [spec_l2Mul.l0];rw [if_pos (by omega),if_neg hB,eq1,er1];rfl
  refine up_loop n (fun l k => spec_l2Mul.l1 k ((m / n : Nat) : Int) ((m % n : Nat) : Int) ((List.range l).foldl (fun acc l => mn acc (addC (a.getD (m / n * n + l) 0) (b.getD (l * n + m % n) 0))) 1000000) ((n * n : Nat) : Int) m n (l : Int) n a n b n (tab m (fun m => mulCE n a b (m / n) (m % n)))) _ (fun l hl hs2 => ?_) ?_
  ·refine Ev.step (fun j => ?_) hs2
   have c1:=cell_lt n (m / n) l hi hl
   have c2:=cell_lt n l (m % n) hl hk
   have hA : (l : Int) < (n : Int):=by omega
   have hC : (((m / n * n + l : Nat)) : Int) < (a.length : Int):=by rw [hla];exact_mod_cast c1
   have hD : (((l * n + m % n : Nat)) : Int) < (b.length : Int):=by rw [hlb];exact_mod_cast c2
   have hE : wrap64 ((l : Int) + 1) = ((l + 1 : Nat) : Int):=by rw [w64 (by omega) (by omega)];rfl
   have e1:=idx1 n m l hn hi hl
   have e2:=idx2 n m l hn hk hl
   rw [eq1] at e1
   rw [er1] at e2
   have d1:=MV_at ha (m / n) l hi hl
   have d2:=MV_at hb l (m % n) hl hk
   have hadd : spec_l1Add.f (a.getD (m / n * n + l) 0) (b.getD (l * n + m % n) 0) = some (addC (a.getD (m / n * n + l) 0) (b.getD (l * n + m % n) 0)):=by
    obtain ⟨x,hx⟩ : ∃ x,a.getD (m / n * n + l) 0 = x:=⟨_,rfl⟩
    obtain ⟨y,hy⟩ : ∃ y,b.getD (l * n + m % n) 0 = y:=⟨_,rfl⟩
    rw [hx] at d1
    rw [hy] at d2
    rw [hx,hy]
    unfold spec_l1Add.f addC
    rw [w64 (x:=x + y) (by omega) (by omega)]
   simp only [spec_l2Mul.l1]
   rw [if_pos hA,e1,e2,if_pos (Int.natCast_nonneg _),if_pos hC,if_pos (Int.natCast_nonneg _),if_pos hD,rd_nat,rd_nat,hadd,Option.bind_some,hE,fold_snoc]
  ·refine Ev.step (fun j => ?_) hnext
   simp only [spec_l2Mul.l1]
   rw [if_neg (by omega),tab_length,if_pos (by omega),w64 (by omega) (by omega)]
   have e : tab m (fun m => mulCE n a b (m / n) (m % n)) ++ [mulCE n a b (m / n) (m % n)] = tab (m + 1) (fun m => mulCE n a b (m / n) (m % n)):=tab_snoc m (fun m => mulCE n a b (m / n) (m % n))
   show spec_l2Mul.l0 j _ _ _ _ _ _ _ (tab m (fun m => mulCE n a b (m / n) (m % n)) ++ [mulCE n a b (m / n) (m % n)]) = _
   rw [e];rfl
 ·refine Ev.step (f:=fun _ => some ((n : Int),mulCL n a b)) (fun j => ?_) (Ev.now _)
  simp only [spec_l2Mul.l0]
  rw [if_neg (by omega)];rfl
theorem sUnit (n : Nat) (h1 : 1 ≤ n) (h4 : n ≤ 4) : Ev (fun k => spec_l2Unit.f k (n : Int)) ((n : Int),sqL n unitE):=by
 have hs:=sq_le n h4
 have e0 : wrap64 ((n : Int) * (n : Int)) = ((n * n : Nat) : Int):=by
  have : (n : Int) * (n : Int) = ((n * n : Nat) : Int):=by simp
  rw [this,w64 (by omega) (by omega)]
 refine Ev.congr (f:=fun k => spec_l2Unit.l0 k (n : Int) ((n * n : Nat) : Int) ((0 : Nat) : Int) n (tab 0 (fun m => unitE (m / n) (m % n)))) (fun k => ?_) ?_
 ·unfold spec_l2Unit.f;rw [e0];simp [tab]
 refine up_loop (n * n) (fun m k => spec_l2Unit.l0 k (n : Int) ((n * n : Nat) : Int) (m : Int) n (tab m (fun m => unitE (m / n) (m % n)))) _ (fun m hm hnext => ?_) ?_
 ·have hi : m / n < n:=Nat.div_lt_of_lt_mul hm
  have e1 : wrap64 (Int.tdiv (m : Int) (n : Int)) = ((m / n : Nat) : Int):=by
   rw [tdiv_nat]
   obtain ⟨q,hq⟩ : ∃ q : Nat,m / n = q:=⟨_,rfl⟩
   rw [hq] at hi ⊢
   exact w64 (by omega) (by omega)
  have e2 : Int.tmod (m : Int) (n : Int) = ((m % n : Nat) : Int):=tmod_nat m n
  have e : tab m (fun m => unitE (m / n) (m % n)) ++ [unitE (m / n) (m % n)] = tab (m + 1) (fun m => unitE (m / n) (m % n)):=tab_snoc m (fun m => unitE (m / n) (m % n))
  refine Ev.step (fun k => ?_) hnext
  simp only [spec_l2Unit.l0]
  rw [if_pos (by omega),if_neg (by omega),e1,e2,tab_length]
  by_cases h : m / n = m % n
  ·have hu : unitE (m / n) (m % n) = 0:=by unfold unitE;rw [if_pos h]
   rw [hu] at e
   rw [if_pos (by rw [h]),if_pos (by omega),w64 (by omega) (by omega),e];rfl
  ·have hu : unitE (m / n) (m % n) = 1000000:=by unfold unitE;rw [if_neg h]
   rw [hu] at e
   rw [if_neg (by intro g;exact h (by exact_mod_cast g)),if_pos (by omega),w64 (by omega) (by omega),e];rfl
 ·refine Ev.step (f:=fun _ => some ((n : Int),sqL n unitE)) (fun j => ?_) (Ev.now _)
  simp only [spec_l2Unit.l0]
  rw [if_neg (by omega)];rfl
def stepL (n : Nat) (c : List UInt8) (t : List S92) (l : List Int) : List Int:=t.foldl (fun (l : List Int) (s : S92) => if s.f1.toList = c then l.set (s.f0 * (n : Int) + s.f2).toNat s.f3 else l) l
def cst (n : Nat) : List Int:=List.replicate (n * n) 1000000
theorem stepL_len (n : Nat) (c : List UInt8) : ∀ (t : List S92) (l : List Int),(stepL n c t l).length = l.length:=by
 intro t
 induction t with
 | nil => intro l;rfl
 | cons s t ih =>
  intro l
  show (stepL n c t (if s.f1.toList = c then l.set (s.f0 * n + s.f2).toNat s.f3 else l)).length = l.length
  rw [ih]
  by_cases h : s.f1.toList = c
  ·rw [if_pos h,List.length_set]
  ·rw [if_neg h]
theorem stp_mem {n : Int} : ∀ {t : List S92} {p : Option S92},stp n p t = true → ∀ x ∈ t,stepOk n x = true
 | [],_,_,x,hx => by cases hx
 | y :: t,p,h,x,hx => by
  simp only [stp,Bool.and_eq_true] at h
  rcases List.mem_cons.mp hx with rfl|hx
  ·exact h.1.1
  ·exact stp_mem h.2 x hx
theorem stepL_MV (n : Nat) (h1 : 1 ≤ n) (h4 : n ≤ 4) (c : List UInt8) : ∀ (t : List S92) (l : List Int),(∀ x ∈ t,stepOk n x = true) → MV (n : Int) l → MV (n : Int) (stepL n c t l):=by
 intro t
 induction t with
 | nil => intro l _ h;exact h
 | cons s t ih =>
  intro l ht h
  show MV (n : Int) (stepL n c t (if s.f1.toList = c then l.set (s.f0 * n + s.f2).toNat s.f3 else l))
  refine ih _ (fun x hx => ht x (List.mem_cons_of_mem _ hx)) ?_
  by_cases e : s.f1.toList = c
  ·rw [if_pos e]
   refine ⟨h.1,h.2.1,by rw [List.length_set];exact h.2.2.1,fun x hx => ?_⟩
   rcases List.mem_or_eq_of_mem_set hx with hx|rfl
   ·exact h.2.2.2 x hx
   ·have o:=of_decide_eq_true (show decide _ = true from ht s (by simp));omega
  ·rw [if_neg e];exact h
theorem cst_MV (n : Nat) (h1 : 1 ≤ n) (h4 : n ≤ 4) : MV (n : Int) (cst n):=by
 refine ⟨by omega,by omega,?_,fun x hx => ?_⟩
 ·unfold cst;rw [List.length_replicate];exact_mod_cast rfl
 ·rw [(List.mem_replicate.mp hx).2];omega
theorem cst_sq (n : Nat) : sqL n (fun _ _ => 1000000) = cst n:=by
 unfold sqL tab cst
 rw [List.map_const',List.length_range]
theorem iStepLoop (n : Nat) (h1 : 1 ≤ n) (h4 : n ≤ 4) (s f : List Int) (x : ByteArray) (t : List S92) (ht : ∀ y ∈ t,stepOk n y = true) (hl : t.length ≤ 1000000000) (l : List Int) (hc : l.length = n * n) :
  Ev (fun k => impl_StepMatrix.l0 k x t (t.length : Int) 0 n l) ((n : Int),stepL n x.toList t l,true):=by
 have go : ∀ (u pre : List S92) (l : List Int),t = pre ++ u → l.length = n * n → Ev (fun k => impl_StepMatrix.l0 k x t (t.length : Int) (pre.length : Int) n l) ((n : Int),stepL n x.toList u l,true):=by
  intro u
  induction u with
  | nil =>
   intro pre l hp _
   refine Ev.step (f:=fun _ => some ((n : Int),l,true)) (fun k => ?_) (Ev.now _)
   simp only [impl_StepMatrix.l0];rw [if_neg (by rw [hp];simp)]
  | cons y u ih =>
   intro pre l hp hc
   have hlen : t.length = pre.length + (u.length + 1):=by rw [hp];simp
   have hx : rd_T92 t (pre.length : Int) = y:=by rw [hp,rdS_mid]
   have o:=of_decide_eq_true (show decide _ = true from ht y (by rw [hp];simp))
   have c:=cellZ (n:=(n : Int)) (i:=y.f0) (k:=y.f2) (by omega) (by omega) (by omega)
   have cw:=cellW (n:=(n : Int)) (i:=y.f0) (k:=y.f2) (by omega) (by omega) (by omega)
   have hc2 : (l.length : Int) = (n : Int) * (n : Int):=by rw [hc];simp
   by_cases e : y.f1.toList = x.toList
   ·refine Ev.step (fun k => ?_) ((ih (pre ++ [y]) (l.set (y.f0 * n + y.f2).toNat y.f3) (by simp [hp]) (by rw [List.length_set];exact hc)).is ?_)
    ·simp only [impl_StepMatrix.l0]
     rw [if_pos (by omega),if_pos (by omega),if_pos (by omega),hx,if_pos e,cw,if_pos (by omega),if_pos (by omega),w64 (x:=(pre.length : Int) + 1) (by omega) (by omega),snocA]
    ·show _ = ((n : Int),stepL n x.toList u (if y.f1.toList = x.toList then l.set (y.f0 * n + y.f2).toNat y.f3 else l),true)
     rw [if_pos e]
   ·refine Ev.step (fun k => ?_) ((ih (pre ++ [y]) l (by simp [hp]) hc).is ?_)
    ·simp only [impl_StepMatrix.l0]
     rw [if_pos (by omega),if_pos (by omega),if_pos (by omega),hx,if_neg e,w64 (x:=(pre.length : Int) + 1) (by omega) (by omega),snocA]
    ·show _ = ((n : Int),stepL n x.toList u (if y.f1.toList = x.toList then l.set (y.f0 * n + y.f2).toNat y.f3 else l),true)
     rw [if_neg e]
 exact go t [] l rfl hc
theorem sStepLoop (n : Nat) (h1 : 1 ≤ n) (h4 : n ≤ 4) (s f : List Int) (x : ByteArray) (t : List S92) (ht : ∀ y ∈ t,stepOk n y = true) (hl : t.length ≤ 1000000000) (l : List Int) (hc : l.length = n * n) :
  Ev (fun k => spec_l3Matrix.l1 k x t (t.length : Int) 0 n s f t n l) ((n : Int),stepL n x.toList t l):=by
 have go : ∀ (u pre : List S92) (l : List Int),t = pre ++ u → l.length = n * n → Ev (fun k => spec_l3Matrix.l1 k x t (t.length : Int) (pre.length : Int) n s f t n l) ((n : Int),stepL n x.toList u l):=by
  intro u
  induction u with
  | nil =>
   intro pre l hp _
   refine Ev.step (f:=fun _ => some ((n : Int),l)) (fun k => ?_) (Ev.now _)
   simp only [spec_l3Matrix.l1];rw [if_neg (by rw [hp];simp)]
  | cons y u ih =>
   intro pre l hp hc
   have hlen : t.length = pre.length + (u.length + 1):=by rw [hp];simp
   have hx : rd_T92 t (pre.length : Int) = y:=by rw [hp,rdS_mid]
   have o:=of_decide_eq_true (show decide _ = true from ht y (by rw [hp];simp))
   have c:=cellZ (n:=(n : Int)) (i:=y.f0) (k:=y.f2) (by omega) (by omega) (by omega)
   have cw:=cellW (n:=(n : Int)) (i:=y.f0) (k:=y.f2) (by omega) (by omega) (by omega)
   have hc2 : (l.length : Int) = (n : Int) * (n : Int):=by rw [hc];simp
   by_cases e : y.f1.toList = x.toList
   ·refine Ev.step (fun k => ?_) ((ih (pre ++ [y]) (l.set (y.f0 * n + y.f2).toNat y.f3) (by simp [hp]) (by rw [List.length_set];exact hc)).is ?_)
    ·simp only [spec_l3Matrix.l1]
     rw [if_pos (by omega),if_pos (by omega),if_pos (by omega),hx,if_pos e,cw,if_pos (by omega),if_pos (by omega),w64 (x:=(pre.length : Int) + 1) (by omega) (by omega),snocA]
    ·show _ = ((n : Int),stepL n x.toList u (if y.f1.toList = x.toList then l.set (y.f0 * n + y.f2).toNat y.f3 else l))
     rw [if_pos e]
   ·refine Ev.step (fun k => ?_) ((ih (pre ++ [y]) l (by simp [hp]) hc).is ?_)
    ·simp only [spec_l3Matrix.l1]
     rw [if_pos (by omega),if_pos (by omega),if_pos (by omega),hx,if_neg e,w64 (x:=(pre.length : Int) + 1) (by omega) (by omega),snocA]
    ·show _ = ((n : Int),stepL n x.toList u (if y.f1.toList = x.toList then l.set (y.f0 * n + y.f2).toNat y.f3 else l))
     rw [if_neg e]
 exact go t [] l rfl hc
theorem sLetter (n : Nat) (h1 : 1 ≤ n) (h4 : n ≤ 4) (s f : List Int) (x : ByteArray) (t : List S92) (ht : ∀ y ∈ t,stepOk n y = true) (hl : t.length ≤ 1000000000) :
  Ev (fun k => spec_l3Matrix.f k n s f t x) ((n : Int),stepL n x.toList t (cst n)):=by
 have hs:=sq_le n h4
 have e0 : wrap64 ((n : Int) * (n : Int)) = ((n * n : Nat) : Int):=by
  have : (n : Int) * (n : Int) = ((n * n : Nat) : Int):=by simp
  rw [this,w64 (by omega) (by omega)]
 refine Ev.congr (f:=fun k => spec_l3Matrix.l0 k x ((n * n : Nat) : Int) ((0 : Nat) : Int) n s f t n (List.replicate 0 1000000)) (fun k => ?_) ?_
 ·unfold spec_l3Matrix.f;rw [e0];rfl
 refine up_loop (n * n) (fun m k => spec_l3Matrix.l0 k x ((n * n : Nat) : Int) (m : Int) n s f t n (List.replicate m 1000000)) _ (fun m hm hnext => ?_) ?_
 ·refine Ev.step (fun k => ?_) hnext
  simp only [spec_l3Matrix.l0]
  rw [if_pos (by omega),List.length_replicate,if_pos (by omega),w64 (by omega) (by omega),← List.replicate_succ'];rfl
 ·refine Ev.step (fun k => ?_) (sStepLoop n h1 h4 s f x t ht hl (cst n) (by unfold cst;rw [List.length_replicate]))
  simp only [spec_l3Matrix.l0]
  rw [if_neg (by omega)];rfl
theorem iLetter (n : Nat) (s f : List Int) (x : ByteArray) (t : List S92) (hv : AV n s f t = true) (hs : s.length ≤ 1000000000) (hf : f.length ≤ 1000000000) (hl : t.length ≤ 1000000000) (hx : x.toList = ([97] : List UInt8) ∨ x.toList = ([98] : List UInt8)) :
  Ev (fun k => impl_StepMatrix.f k n s f t x) ((n : Int),stepL n x.toList t (cst n),true):=by
 obtain ⟨h1,h2,h3,h4,h5⟩:=AV_parts hv
 unfold impl_StepMatrix.f
 refine Ev.bind (iAV n s f t hs hf hl) (Ev_t hv ?_)
 have main : Ev (fun k => impl_StepMatrix.j0 k x false n s f t) ((n : Int),stepL n x.toList t (cst n),true):=by
  refine Ev.step (f:=?f1) (fun k => ?h1) ?k1
  case h1 => simp only [impl_StepMatrix.j0];rw [if_neg (by simp)] <;> exact rfl
  refine Ev.bind (a:=((n : Int),cst n)) ?_ (iStepLoop n (by omega) (by omega) s f x t (stp_mem h5) hl (cst n) (by unfold cst;rw [List.length_replicate]))
  have:=filled_ev n (by omega) (fun _ _ => 1000000) (fun K y0 y1 => impl_StepMatrix_1.f y0 y1) (fun i _ k _ => ev_some (fun K => rfl))
  rw [cst_sq] at this
  exact this
 by_cases e : x.toList = ([97] : List UInt8)
 ·exact Ev_t e main
 ·refine Ev_f e ?_
  have e2:=hx.resolve_left e
  rw [e2,bne_self_eq_false,← e2]
  exact main
def letL (n : Nat) (t : List S92) (c : UInt8) : List Int:=stepL n [c] t (cst n)
def wordL (n : Nat) (t : List S92) (w : List UInt8) (a : List Int) : List Int:=w.foldl (fun a c => mulCL n a (letL n t c)) a
theorem letL_MV (n : Nat) (h1 : 1 ≤ n) (h4 : n ≤ 4) (t : List S92) (ht : ∀ y ∈ t,stepOk n y = true) (c : UInt8) : MV (n : Int) (letL n t c):=stepL_MV n h1 h4 [c] t (cst n) ht (cst_MV n h1 h4)
theorem wordL_MV (n : Nat) (h1 : 1 ≤ n) (h4 : n ≤ 4) (t : List S92) (ht : ∀ y ∈ t,stepOk n y = true) : ∀ (w : List UInt8) (a : List Int),MV (n : Int) a → MV (n : Int) (wordL n t w a)
 | [],_,h => h
 | c :: w,a,h => wordL_MV n h1 h4 t ht w _ (mulCL_MV h (letL_MV n h1 h4 t ht c))
theorem sWordLoop (n : Nat) (h1 : 1 ≤ n) (h4 : n ≤ 4) (t : List S92) (ht : ∀ y ∈ t,stepOk n y = true) (w : ByteArray) (hw : w.size ≤ 1000) : ∀ (e u : List UInt8) (a : List Int),L w = u ++ e → e.all wOk = true → MV (n : Int) a →
  Ev (fun k => spec_l4Matrix.l0 k w w.size u.length n a n (letL n t 97) n (letL n t 98)) ((n : Int),wordL n t e a):=by
 intro e
 induction e with
 | nil =>
  intro u a h _ _
  have hz:=size_suffix h
  simp only [List.length_nil] at hz
  refine Ev.step (f:=fun _ => some ((n : Int),a)) (fun k => ?_) (Ev.now _)
  simp only [spec_l4Matrix.l0];rw [if_neg (by omega)]
 | cons c e ih =>
  intro u a h ho ha
  have hz:=size_suffix h
  simp only [List.length_cons] at hz
  have hbt:=bt_suffix h
  have hl : (u.length : Int) + 1 = (((u ++ [c]).length : Nat) : Int):=by simp
  simp only [List.all_cons,Bool.and_eq_true] at ho
  have h2:=ih (u ++ [c]) (mulCL n a (letL n t c)) (by rw [h];simp) ho.2 (mulCL_MV ha (letL_MV n h1 h4 t ht c))
  refine Ev.step (f:=fun k => (spec_l2Mul.f k n a n (letL n t c)).bind fun b => spec_l4Matrix.l0 k w w.size ((u ++ [c]).length : Int) b.1 b.2 n (letL n t 97) n (letL n t 98)) (fun k => ?_) (Ev.bind (sMulC ha (letL_MV n h1 h4 t ht c)) h2)
  simp only [spec_l4Matrix.l0]
  rw [if_pos (by omega),if_pos (by omega),if_pos (by omega),hbt,w64 (x:=(u.length : Int) + 1) (by omega) (by omega),hl]
  have hc : c = 97 ∨ c = 98:=by have:=ho.1;unfold wOk at this;simpa using this
  rcases hc with rfl|rfl
  ·rw [if_pos (show (((97 : UInt8).toNat : Nat) : Int) = 97 from rfl)]
  ·rw [if_neg (by decide)]
theorem one_letter (w : ByteArray) {u : List UInt8} {c : UInt8} {e : List UInt8} (h : L w = u ++ c :: e) : (w.extract u.length (u.length + 1)).toList = [c]:=by
 rw [toList_L,L_extract,h]
 rw [List.drop_take,List.drop_left']
 ·simp
 ·rfl
theorem iWordLoop (n : Nat) (s f : List Int) (t : List S92) (hv : AV n s f t = true) (hs : s.length ≤ 1000000000) (hf : f.length ≤ 1000000000) (hl : t.length ≤ 1000000000) (w : ByteArray) (hw : w.size ≤ 1000) : ∀ (e u : List UInt8) (a : List Int),L w = u ++ e → e.all wOk = true → MV (n : Int) a →
  Ev (fun k => impl_WordMatrix.l0 k w w.size u.length n s f t n a) ((n : Int),wordL n t e a,true):=by
 obtain ⟨h1,h2,h3,h4,h5⟩:=AV_parts hv
 have ht:=stp_mem h5
 intro e
 induction e with
 | nil =>
  intro u a h _ _
  have hz:=size_suffix h
  simp only [List.length_nil] at hz
  refine Ev.step (f:=fun _ => some ((n : Int),a,true)) (fun k => ?_) (Ev.now _)
  simp only [impl_WordMatrix.l0];rw [if_neg (by omega)]
 | cons c e ih =>
  intro u a h ho ha
  have hz:=size_suffix h
  simp only [List.length_cons] at hz
  have hl2 : (u.length : Int) + 1 = (((u ++ [c]).length : Nat) : Int):=by simp
  simp only [List.all_cons,Bool.and_eq_true] at ho
  have hc : c = 97 ∨ c = 98:=by have:=ho.1;unfold wOk at this;simpa using this
  have hm:=letL_MV n (by omega) (by omega) t ht c
  have h2:=ih (u ++ [c]) (mulCL n a (letL n t c)) (by rw [h];simp) ho.2 (mulCL_MV ha hm)
  have e1:=one_letter w h
  have hlet : Ev (fun k => impl_StepMatrix.f k n s f t (w.extract u.length (u.length + 1))) ((n : Int),letL n t c,true):=by
   have:=iLetter n s f (w.extract u.length (u.length + 1)) t hv hs hf hl (by rw [e1];rcases hc with rfl|rfl <;> simp)
   rw [e1] at this
   exact this
  refine Ev.step (f:=fun k => (impl_StepMatrix.f k n s f t (w.extract u.length (u.length + 1))).bind fun m => (impl_MulMatrix.f k n a m.1 m.2.1).bind fun b => impl_WordMatrix.l0 k w w.size ((u ++ [c]).length : Int) n s f t b.1 b.2.1) (fun k => ?_) (Ev.bind hlet (Ev.bind (iMulC ha hm) h2))
  simp only [impl_WordMatrix.l0]
  rw [if_pos (by omega),w64 (x:=(u.length : Int) + 1) (by omega) (by omega),if_pos (by omega),if_pos (by omega),if_pos (by omega),← hl2]
  rfl
def wmR (n : Int) (s f : List Int) (t : List S92) (w : ByteArray) : Int × List Int × Bool:=if AV n s f t = true ∧ wordB (L w) = true then (n,wordL n.toNat t (L w) (sqL n.toNat unitE),true) else (0,[],false)
theorem wordB_size {w : ByteArray} (h : wordB (L w) = true) : w.size ≤ 1000 ∧ (L w).all wOk = true:=by
 unfold wordB at h
 rw [Bool.and_eq_true,decide_eq_true_eq,← L_size] at h
 exact ⟨h.2,h.1⟩
theorem iWordM (n : Int) (s f : List Int) (t : List S92) (w : ByteArray) (hs : s.length ≤ 1000000000) (hf : f.length ≤ 1000000000) (hl : t.length ≤ 1000000000) (hw : w.size ≤ 4000000) : Ev (fun k => impl_WordMatrix.f k n s f t w) (wmR n s f t w):=by
 have bad : ∀ g : Nat → Option (Int × List Int × Bool),(∀ k,g k = impl_WordMatrix.j0 k w true n s f t) → ¬ (AV n s f t = true ∧ wordB (L w) = true) → Ev g (wmR n s f t w):=fun g hg he => Ev.congr hg ((Ev.step (f:=fun _ => some (0,[],false)) (fun k => by simp only [impl_WordMatrix.j0];rw [if_pos trivial]) (Ev.now _)).is (by unfold wmR;rw [if_neg he]))
 refine Ev.congr (f:=?f2) (fun k => ?h2) ?k2
 case h2 => unfold impl_WordMatrix.f;exact rfl
 refine Ev.bind (iAV n s f t hs hf hl) ?_
 by_cases g1 : AV n s f t = true
 case neg => exact bad _ (fun k => by rw [if_neg g1]) (fun h => g1 h.1)
 refine Ev_t g1 ?_
 refine Ev.bind (iWord_ev w hw) ?_
 by_cases g2 : wordB (L w) = true
 case neg => exact bad _ (fun k => by rw [Bool.not_eq_true] at g2;rw [g2];rfl) (fun h => g2 h.2)
 obtain ⟨h1,h2,h3,h4,h5⟩:=AV_parts g1
 obtain ⟨z1,z2⟩:=wordB_size g2
 obtain ⟨m,rfl⟩ : ∃ m : Nat,n = (m : Int):=⟨n.toNat,by omega⟩
 refine Ev.step (f:=?f3) (fun k => ?h3) ?k3
 case h3 => simp only [impl_WordMatrix.j0];rw [g2,if_neg (by simp)] <;> exact rfl
 refine Ev.bind (iUnit m (by omega) (by omega)) ?_
 refine (iWordLoop m s f t g1 hs hf hl w z1 (L w) [] (sqL m unitE) rfl z2 (unit_MV m (by omega) (by omega))).is ?_
 unfold wmR;rw [if_pos ⟨g1,g2⟩];rfl
theorem sWordMx (m : Nat) (s f : List Int) (t : List S92) (w : ByteArray) (g1 : AV m s f t = true) (g2 : wordB (L w) = true) (hl : t.length ≤ 1000000000) : Ev (fun k => spec_l4Matrix.f k m s f t w) ((m : Int),wordL m t (L w) (sqL m unitE)):=by
 obtain ⟨h1,h2,h3,h4,h5⟩:=AV_parts g1
 obtain ⟨z1,z2⟩:=wordB_size g2
 unfold spec_l4Matrix.f
 have la : (⟨#[97]⟩ : ByteArray).toList = [97]:=by rw [toList_L];rfl
 have lb : (⟨#[98]⟩ : ByteArray).toList = [98]:=by rw [toList_L];rfl
 have a1:=sLetter m (by omega) (by omega) s f ⟨#[97]⟩ t (stp_mem h5) hl
 have a2:=sLetter m (by omega) (by omega) s f ⟨#[98]⟩ t (stp_mem h5) hl
 rw [la] at a1
 rw [lb] at a2
 refine Ev.bind (sUnit m (by omega) (by omega)) (Ev.bind a1 (Ev.bind a2 ?_))
 exact sWordLoop m (by omega) (by omega) t (stp_mem h5) w z1 (L w) [] (sqL m unitE) rfl z2 (unit_MV m (by omega) (by omega))
theorem sAsked (n : Int) (s f : List Int) (t : List S92) (w : ByteArray) (hs : s.length ≤ 1000000000) (hf : f.length ≤ 1000000000) (hl : t.length ≤ 1000000000) (hw : w.size ≤ 4000000) : Ev (fun k => spec_l4Asked.f k n s f t w) (AV n s f t && wordB (L w)):=by
 unfold spec_l4Asked.f
 refine Ev.bind (sAV n s f t hs hf hl) ?_
 by_cases g1 : AV n s f t = true
 ·refine Ev_t g1 (Ev.bind (sWord_ev w hw) ((Ev.now _).is (by rw [g1];rfl)))
 ·refine Ev_f g1 ((Ev.now _).is (by rw [Bool.not_eq_true] at g1;rw [g1];rfl))
theorem sWordM (n : Int) (s f : List Int) (t : List S92) (w : ByteArray) (hs : s.length ≤ 1000000000) (hf : f.length ≤ 1000000000) (hl : t.length ≤ 1000000000) (hw : w.size ≤ 4000000) : Ev (fun k => spec_WordMatrix.f k n s f t w) (wmR n s f t w):=by
 unfold spec_WordMatrix.f
 refine Ev.bind (sAsked n s f t w hs hf hl hw) ?_
 by_cases g : AV n s f t = true ∧ wordB (L w) = true
 ·obtain ⟨h1,h2,h3,h4,h5⟩:=AV_parts g.1
  obtain ⟨m,rfl⟩ : ∃ m : Nat,n = (m : Int):=⟨n.toNat,by omega⟩
  refine Ev_t (by rw [g.1,g.2];rfl) (Ev.bind (sWordMx m s f t w g.1 g.2 hl) ((Ev.now _).is ?_))
  unfold wmR;rw [if_pos g];rfl
 ·refine Ev_f (by rw [Bool.and_eq_true];exact g) ((Ev.now _).is ?_)
  unfold wmR;rw [if_neg g]
theorem wmR_len (n : Int) (s f : List Int) (t : List S92) (w : ByteArray) : (wmR n s f t w).2.1.length ≤ 1048576:=by
 unfold wmR
 by_cases g : AV n s f t = true ∧ wordB (L w) = true
 ·rw [if_pos g]
  obtain ⟨h1,h2,h3,h4,h5⟩:=AV_parts g.1
  obtain ⟨m,rfl⟩ : ∃ m : Nat,n = (m : Int):=⟨n.toNat,by omega⟩
  have h:=wordL_MV m (by omega) (by omega) t (stp_mem h5) (L w) (sqL m unitE) (unit_MV m (by omega) (by omega))
  have:=MV_len h
  have:=sq_le m (by omega)
  show (wordL m t (L w) (sqL m unitE)).length ≤ 1048576
  omega
 ·rw [if_neg g];decide
end Go.Proofs.Ytfmbpoojpnoafaa.Y
end
