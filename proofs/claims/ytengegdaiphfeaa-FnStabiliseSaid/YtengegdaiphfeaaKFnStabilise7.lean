import Derived.Test.YtengegdaiphfeaaKFnStabilise2
import Derived.Test.YtengegdaiphfeaaKFnStabilise1
import Derived.Test.YtengegdaiphfeaaKFnStabilise4
import Derived.Test.YtengegdaiphfeaaKFnStabilise6
section
namespace Go.Proofs.Ytengegdaiphfeaa.Y
open Go.RowKit Go.Proofs.Ytengegdaiphfeaa.X Go.Proofs.YtengegdaiphfeaaW.PrintWords Go.Proofs.YtengegdaiphfeaaW.PrintLast Go.Proofs.YtengegdaiphfeaaW.PrintMore
set_option linter.unusedVariables false
set_option linter.unusedSimpArgs false
def ag (x : Int) : Int:=if x = 1 then 2 else x
def stE (n : Nat) (a : List Int) (i k : Nat) : Int:=(List.range n).foldl (fun acc l => mn acc (mx (mx (a.getD (i * n + l) 0) (ag (a.getD (l * n + l) 0))) (a.getD (l * n + k) 0))) 3
def stL (n : Nat) (a : List Int) : List Int:=sqL n (stE n a)
def stabR (n : Int) (l : List Int) : Int × List Int × Bool:=if Idem n l then (n,stL n.toNat l,true) else (0,[],false)
theorem stL_length (n : Nat) (a : List Int) : (stL n a).length = n * n:=by simp [stL,sqL,tab_length]
theorem stabR_len (n : Int) (l : List Int) : (stabR n l).2.1.length ≤ 16:=by
 unfold stabR
 by_cases g : Idem n l
 ·rw [if_pos g]
  obtain ⟨m,rfl⟩:=GV_nat g.1
  have:=sq_le m (GV_le g.1).1
  show (stL m l).length ≤ 16
  rw [stL_length];exact this
 ·rw [if_neg g];simp
theorem iStCell (n : Nat) (hn : n ≤ 4) (a : List Int) (ha : a.length = n * n) (i k : Nat) (hi : i < n) (hk : k < n) :
  Ev (fun K => impl_Stabilise_1.f K (i : Int) (k : Int) (n : Int) a) (stE n a i k):=by
 refine up_loop n (fun l K => impl_Stabilise_1.l0 K i k ((List.range l).foldl (fun acc l => mn acc (mx (mx (a.getD (i * n + l) 0) (ag (a.getD (l * n + l) 0))) (a.getD (l * n + k) 0))) 3) n (l : Int) n a) _ (fun l hl hs => ?_) ?_
 ·refine Ev.step (fun j => ?_) hs
  simp only [impl_Stabilise_1.l0]
  rw [if_pos (by omega),at_eq n hn a ha l l hl hl,Option.bind_some,at_eq n hn a ha i l hi hl,Option.bind_some,at_eq n hn a ha l k hl hk,Option.bind_some,Option.bind_some,w64 (x:=(l : Int) + 1) (by omega) (by omega),fold_snoc]
  by_cases e : a.getD (l * n + l) 0 = 1
  ·rw [if_pos e];unfold ag;rw [if_pos e];rfl
  ·rw [if_neg e];unfold ag;rw [if_neg e];rfl
 ·refine Ev.step (f:=fun _ => some (stE n a i k)) (fun j => ?_) (Ev.now _)
  simp only [impl_Stabilise_1.l0]
  rw [if_neg (by omega)];rfl
theorem iStab (n : Int) (l : List Int) (hl : l.length ≤ maxLen) : Ev (fun k => impl_Stabilise.f k n l) (stabR n l):=by
 unfold impl_Stabilise.f
 refine Ev.bind (iIdem n l hl) ?_
 by_cases g : Idem n l
 ·refine Ev_t (decide_eq_true g) ?_
  have e : stabR n l = (n,stL n.toNat l,true):=by unfold stabR;rw [if_pos g]
  rw [e]
  obtain ⟨m,rfl⟩:=GV_nat g.1
  refine Ev.bind (a:=((m : Int),stL m l)) ?_ (Ev.now _)
  exact filled_ev m (GV_le g.1).1 (stE m l) (fun K y0 y1 => impl_Stabilise_1.f K y0 y1 m l) (fun i hi k hk => iStCell m (GV_le g.1).1 l (GV_len g.1) i k hi hk)
 ·refine Ev_f (by rw [decide_eq_false g];simp) ((Ev.now _).is ?_)
  unfold stabR;rw [if_neg g]
theorem sAgain (x : Int) : spec_l6Again.f x = some (ag x):=by
 unfold spec_l6Again.f ag
 by_cases e : x = 1
 ·rw [if_pos e,if_pos e]
 ·rw [if_neg e,if_neg e]
theorem idx3 (n l : Nat) (hn : n ≤ 4) (hl : l < n) : wrap64 (wrap64 ((l : Int) * (n : Int)) + (l : Int)) = ((l * n + l : Nat) : Int):=by
 have r2:=row_le n l hn (by omega)
 have : (l : Int) * (n : Int) = ((l * n : Nat) : Int):=by simp
 rw [this,w64 (x:=((l * n : Nat) : Int)) (by omega) (by omega),w64 (x:=((l * n : Nat) : Int) + (l : Int)) (by omega) (by omega)]
 simp
theorem sStab1 (n : Nat) (hn : n ≤ 4) (h0 : 1 ≤ n) (a : List Int) (hla : a.length = n * n) : Ev (fun k => spec_l6Stable.f k n a) ((n : Int),stL n a):=by
 have hs:=sq_le n hn
 have e0 : wrap64 ((n : Int) * (n : Int)) = ((n * n : Nat) : Int):=by
  have : (n : Int) * (n : Int) = ((n * n : Nat) : Int):=by simp
  rw [this,w64 (by omega) (by omega)]
 refine Ev.congr (f:=fun k => spec_l6Stable.l0 k ((n * n : Nat) : Int) ((0 : Nat) : Int) n a n (tab 0 (fun m => stE n a (m / n) (m % n)))) (fun k => ?_) ?_
 ·unfold spec_l6Stable.f;rw [e0];simp [tab]
 refine up_loop (n * n) (fun m k => spec_l6Stable.l0 k ((n * n : Nat) : Int) (m : Int) n a n (tab m (fun m => stE n a (m / n) (m % n)))) _ (fun m hm hnext => ?_) ?_
 ·have hi : m / n < n:=Nat.div_lt_of_lt_mul hm
  have hk : m % n < n:=Nat.mod_lt _ (by omega)
  refine Ev.step (f:=fun k => spec_l6Stable.l1 k m ((List.range 0).foldl (fun acc l => mn acc (mx (mx (a.getD (m / n * n + l) 0) (ag (a.getD (l * n + l) 0))) (a.getD (l * n + m % n) 0))) 3) ((n * n : Nat) : Int) m n ((0 : Nat) : Int) n a n (tab m (fun m => stE n a (m / n) (m % n)))) (fun k => ?_) ?_
  ·simp only [spec_l6Stable.l0];rw [if_pos (by omega)];rfl
  refine up_loop n (fun l k => spec_l6Stable.l1 k m ((List.range l).foldl (fun acc l => mn acc (mx (mx (a.getD (m / n * n + l) 0) (ag (a.getD (l * n + l) 0))) (a.getD (l * n + m % n) 0))) 3) ((n * n : Nat) : Int) m n (l : Int) n a n (tab m (fun m => stE n a (m / n) (m % n)))) _ (fun l hl hs2 => ?_) ?_
  ·refine Ev.step (fun j => ?_) hs2
   have c1:=cell_lt n (m / n) l hi hl
   have c2:=cell_lt n l (m % n) hl hk
   have c3:=cell_lt n l l hl hl
   have hA : (l : Int) < (n : Int):=by omega
   have hB : ¬ (n : Int) = 0:=by omega
   have hC : (((m / n * n + l : Nat)) : Int) < (a.length : Int):=by rw [hla];exact_mod_cast c1
   have hD : (((l * n + m % n : Nat)) : Int) < (a.length : Int):=by rw [hla];exact_mod_cast c2
   have hF : (((l * n + l : Nat)) : Int) < (a.length : Int):=by rw [hla];exact_mod_cast c3
   have hE : wrap64 ((l : Int) + 1) = ((l + 1 : Nat) : Int):=by rw [w64 (by omega) (by omega)];rfl
   have e1:=idx1 n m l hn hi hl
   have e2:=idx2 n m l hn hk hl
   have e3:=idx3 n l hn hl
   simp only [spec_l6Stable.l1]
   rw [if_pos hA,if_neg hB,e1,e2,e3,if_pos (Int.natCast_nonneg _),if_pos hC,if_pos (Int.natCast_nonneg _),if_pos hF,sAgain,Option.bind_some,if_pos (Int.natCast_nonneg _),if_pos hD,rd_nat,rd_nat,rd_nat,hE,fold_snoc]
  ·refine Ev.step (fun j => ?_) hnext
   simp only [spec_l6Stable.l1]
   rw [if_neg (by omega),tab_length,if_pos (by omega),w64 (x:=(m : Int) + 1) (by omega) (by omega)]
   have e : tab m (fun m => stE n a (m / n) (m % n)) ++ [stE n a (m / n) (m % n)] = tab (m + 1) (fun m => stE n a (m / n) (m % n)):=tab_snoc m (fun m => stE n a (m / n) (m % n))
   show spec_l6Stable.l0 j _ _ _ _ _ (tab m (fun m => stE n a (m / n) (m % n)) ++ [stE n a (m / n) (m % n)]) = _
   rw [e];rfl
 ·refine Ev.step (f:=fun _ => some ((n : Int),stL n a)) (fun j => ?_) (Ev.now _)
  simp only [spec_l6Stable.l0]
  rw [if_neg (by omega)];rfl
theorem sStab (n : Int) (l : List Int) (hl : l.length ≤ maxLen) : Ev (fun k => spec_Stabilise.f k n l) (stabR n l):=by
 unfold spec_Stabilise.f
 refine Ev.bind (sIdem n l hl) ?_
 by_cases g : Idem n l
 ·have e : stabR n l = (n,stL n.toNat l,true):=by unfold stabR;rw [if_pos g]
  rw [e]
  obtain ⟨m,rfl⟩:=GV_nat g.1
  exact Ev_t (decide_eq_true g) (Ev.bind (sStab1 m (GV_le g.1).1 (GV_le g.1).2 l (GV_len g.1)) (Ev.now _))
 ·refine Ev_f (by rw [decide_eq_false g];simp) ((Ev.now _).is ?_)
  unfold stabR;rw [if_neg g]
end Go.Proofs.Ytengegdaiphfeaa.Y
end
section
namespace Go.Proofs.Ytengegdaiphfeaa.Y
open Go.RowKit Go.Proofs.Ytengegdaiphfeaa.X Go.Proofs.YtengegdaiphfeaaW.PrintWords Go.Proofs.YtengegdaiphfeaaW.PrintLast Go.Proofs.YtengegdaiphfeaaW.PrintMore
set_option linter.unusedVariables false
set_option linter.unusedSimpArgs false
theorem stE_le (n : Nat) (a : List Int) (i k : Nat) (t : Int) : stE n a i k ≤ t ↔ 3 ≤ t ∨ ∃ l,l < n ∧ a.getD (i * n + l) 0 ≤ t ∧ ag (a.getD (l * n + l) 0) ≤ t ∧ a.getD (l * n + k) 0 ≤ t:=by
 unfold stE
 rw [fold_le n (fun l => mx (mx (a.getD (i * n + l) 0) (ag (a.getD (l * n + l) 0))) (a.getD (l * n + k) 0)) 3 t]
 constructor
 ·rintro (h | ⟨l,h1,h2⟩)
  ·exact Or.inl h
  ·rw [mx_le,mx_le] at h2;exact Or.inr ⟨l,h1,h2.1.1,h2.1.2,h2.2⟩
 ·rintro (h | ⟨l,h1,h2,h3,h4⟩)
  ·exact Or.inl h
  ·exact Or.inr ⟨l,h1,by rw [mx_le,mx_le];exact ⟨⟨h2,h3⟩,h4⟩⟩
theorem ag_ge (x : Int) : x ≤ ag x:=by unfold ag;by_cases h : x = 1 <;> simp only [h,if_true,if_false] <;> omega
theorem ag_mono (x y : Int) (h : x ≤ y) : ag x ≤ ag y:=by
 unfold ag
 by_cases h1 : x = 1
 ·rw [if_pos h1];by_cases h2 : y = 1
  ·rw [if_pos h2];omega
  ·rw [if_neg h2];omega
 ·rw [if_neg h1];by_cases h2 : y = 1
  ·rw [if_pos h2];omega
  ·rw [if_neg h2];omega
theorem ag_ag (x : Int) : ag (ag x) = ag x:=by
 unfold ag
 by_cases h1 : x = 1
 ·rw [if_pos h1,if_neg (by omega)]
 ·rw [if_neg h1,if_neg h1]
theorem ag_le2 (x : Int) (h : x ≤ 2) : ag x ≤ 2:=by
 unfold ag
 by_cases h1 : x = 1
 ·rw [if_pos h1];omega
 ·rw [if_neg h1];exact h
section
variable {n : Nat} {a : List Int}
theorem st_get (i k : Nat) (hi : i < n) (hk : k < n) : (stL n a).getD (i * n + k) 0 = stE n a i k:=sqL_get n _ i k hi hk
theorem idem_le (h : mulL n a a = a) (i k : Nat) (hi : i < n) (hk : k < n) (t : Int) : a.getD (i * n + k) 0 ≤ t ↔ 3 ≤ t ∨ ∃ l,l < n ∧ a.getD (i * n + l) 0 ≤ t ∧ a.getD (l * n + k) 0 ≤ t:=by
 rw [← mulE_le,← mulL_get n a a i k hi hk,h]
theorem trans_le (h : mulL n a a = a) (i l k : Nat) (hi : i < n) (hl : l < n) (hk : k < n) (t : Int) (h1 : a.getD (i * n + l) 0 ≤ t) (h2 : a.getD (l * n + k) 0 ≤ t) : a.getD (i * n + k) 0 ≤ t :=
 (idem_le h i k hi hk t).mpr (Or.inr ⟨l,hl,h1,h2⟩)
theorem st_left (h : mulL n a a = a) : mulL n a (stL n a) = stL n a:=by
 refine sqL_congr n _ _ (fun i k hi hk => eq_of_le _ _ (fun t => ?_))
 rw [mulE_le,stE_le]
 constructor
 ·rintro (h1 | ⟨j,hj,h1,h2⟩)
  ·exact Or.inl h1
  ·rw [st_get j k hj hk,stE_le] at h2
   rcases h2 with h2 | ⟨l,hl,h2,h3,h4⟩
   ·exact Or.inl h2
   ·exact Or.inr ⟨l,hl,trans_le h i j l hi hj hl t h1 h2,h3,h4⟩
 ·rintro (h1 | ⟨l,hl,h1,h2,h3⟩)
  ·exact Or.inl h1
  ·rcases (idem_le h i l hi hl t).mp h1 with h4 | ⟨j,hj,h4,h5⟩
   ·exact Or.inl h4
   ·exact Or.inr ⟨j,hj,h4,by rw [st_get j k hj hk,stE_le];exact Or.inr ⟨l,hl,h5,h2,h3⟩⟩
theorem st_right (h : mulL n a a = a) : mulL n (stL n a) a = stL n a:=by
 refine sqL_congr n _ _ (fun i k hi hk => eq_of_le _ _ (fun t => ?_))
 rw [mulE_le,stE_le]
 constructor
 ·rintro (h1 | ⟨j,hj,h1,h2⟩)
  ·exact Or.inl h1
  ·rw [st_get i j hi hj,stE_le] at h1
   rcases h1 with h1 | ⟨l,hl,h1,h3,h4⟩
   ·exact Or.inl h1
   ·exact Or.inr ⟨l,hl,h1,h3,trans_le h l j k hl hj hk t h4 h2⟩
 ·rintro (h1 | ⟨l,hl,h1,h2,h3⟩)
  ·exact Or.inl h1
  ·rcases (idem_le h l k hl hk t).mp h3 with h4 | ⟨j,hj,h4,h5⟩
   ·exact Or.inl h4
   ·exact Or.inr ⟨j,hj,by rw [st_get i j hi hj,stE_le];exact Or.inr ⟨l,hl,h1,h2,h4⟩,h5⟩
theorem st_mid (h : mulL n a a = a) (i l k : Nat) (hi : i < n) (hl : l < n) (hk : k < n) (t : Int) (h1 : a.getD (i * n + l) 0 ≤ t) (h2 : ag (a.getD (l * n + l) 0) ≤ t) (h3 : a.getD (l * n + k) 0 ≤ t) :
  stE n a i l ≤ t ∧ stE n a l k ≤ t:=by
 have h4 : a.getD (l * n + l) 0 ≤ t:=Int.le_trans (ag_ge _) h2
 exact ⟨by rw [stE_le];exact Or.inr ⟨l,hl,h1,h2,h4⟩,by rw [stE_le];exact Or.inr ⟨l,hl,h4,h2,h3⟩⟩
theorem st_idem (h : mulL n a a = a) : mulL n (stL n a) (stL n a) = stL n a:=by
 refine sqL_congr n _ _ (fun i k hi hk => eq_of_le _ _ (fun t => ?_))
 rw [mulE_le]
 constructor
 ·rintro (h1 | ⟨j,hj,h1,h2⟩)
  ·rw [stE_le];exact Or.inl h1
  ·rw [st_get i j hi hj,stE_le] at h1
   rw [st_get j k hj hk,stE_le] at h2
   rw [stE_le]
   rcases h1 with h1 | ⟨l,hl,h1,h3,h4⟩
   ·exact Or.inl h1
   ·rcases h2 with h2 | ⟨m,hm,h5,h6,h7⟩
    ·exact Or.inl h2
    ·exact Or.inr ⟨l,hl,h1,h3,trans_le h l m k hl hm hk t (trans_le h l j m hl hj hm t h4 h5) h7⟩
 ·intro h1
  rw [stE_le] at h1
  rcases h1 with h1 | ⟨l,hl,h1,h2,h3⟩
  ·exact Or.inl h1
  ·obtain ⟨x,y⟩:=st_mid h i l k hi hl hk t h1 h2 h3
   exact Or.inr ⟨l,hl,by rw [st_get i l hi hl];exact x,by rw [st_get l k hl hk];exact y⟩
theorem st_st (h : mulL n a a = a) : stL n (stL n a) = stL n a:=by
 refine sqL_congr n _ _ (fun i k hi hk => eq_of_le _ _ (fun t => ?_))
 rw [stE_le]
 constructor
 ·rintro (h1 | ⟨l,hl,h1,h2,h3⟩)
  ·rw [stE_le];exact Or.inl h1
  ·rw [← st_get i k hi hk]
   exact trans_le (st_idem h) i l k hi hl hk t h1 h3
 ·intro h1
  rw [stE_le] at h1
  rcases h1 with h1 | ⟨l,hl,h1,h2,h3⟩
  ·exact Or.inl h1
  ·obtain ⟨x,y⟩:=st_mid h i l k hi hl hk t h1 h2 h3
   refine Or.inr ⟨l,hl,by rw [st_get i l hi hl];exact x,?_,by rw [st_get l k hl hk];exact y⟩
   rw [st_get l l hl hl]
   have z : stE n a l l ≤ ag (a.getD (l * n + l) 0):=by
    rw [stE_le];exact Or.inr ⟨l,hl,ag_ge _,Int.le_refl _,ag_ge _⟩
   have w:=ag_mono _ _ z
   rw [ag_ag] at w
   exact Int.le_trans w h2
theorem st_ge (h : mulL n a a = a) (hg : Gr a) (i k : Nat) (hi : i < n) (hk : k < n) : a.getD (i * n + k) 0 ≤ stE n a i k:=by
 have h1:=(stE_le n a i k (stE n a i k)).mp (Int.le_refl _)
 rcases h1 with h1 | ⟨l,hl,h1,_,h3⟩
 ·have:=(gr_getD hg (i * n + k)).2;omega
 ·exact trans_le h i l k hi hl hk _ h1 h3
theorem loop_at (h : mulL n a a = a) (i k : Nat) (hi : i < n) (hk : k < n) (h2 : a.getD (i * n + k) 0 ≤ 2) : ∃ l,l < n ∧ a.getD (i * n + l) 0 ≤ 2 ∧ a.getD (l * n + l) 0 ≤ 2 ∧ a.getD (l * n + k) 0 ≤ 2:=by
 let P : Nat → Prop:=fun x => x < n ∧ a.getD (i * n + x) 0 ≤ 2 ∧ a.getD (x * n + k) 0 ≤ 2
 have dense : ∀ x y,x < n → y < n → a.getD (x * n + y) 0 ≤ 2 → ∃ z,z < n ∧ a.getD (x * n + z) 0 ≤ 2 ∧ a.getD (z * n + y) 0 ≤ 2:=by
  intro x y hx hy hxy
  rcases (idem_le h x y hx hy 2).mp hxy with e|e
  ·omega
  ·exact e
 have start : ∃ x,P x:=dense i k hi hk h2
 have next : ∀ x,P x → ∃ y,P y ∧ a.getD (x * n + y) 0 ≤ 2:=by
  rintro x ⟨hx,h3,h4⟩
  obtain ⟨z,hz,h5,h6⟩:=dense x k hx hk h4
  exact ⟨z,⟨hz,trans_le h i x z hi hx hz 2 h3 h5,h6⟩,h5⟩
 let sq : Nat → {x // P x}:=fun m => Nat.rec (motive:=fun _ => {x // P x}) ⟨Classical.choose start,Classical.choose_spec start⟩ (fun _ x => ⟨Classical.choose (next x.1 x.2),(Classical.choose_spec (next x.1 x.2)).1⟩) m
 have one : ∀ m,a.getD ((sq m).1 * n + (sq (m + 1)).1) 0 ≤ 2:=fun m => (Classical.choose_spec (next (sq m).1 (sq m).2)).2
 have far : ∀ d m,a.getD ((sq m).1 * n + (sq (m + (d + 1))).1) 0 ≤ 2:=by
  intro d
  induction d with
  | zero => exact one
  | succ d ih => intro m;exact trans_le h _ _ _ (sq m).2.1 (sq (m + (d + 1))).2.1 (sq (m + (d + 1 + 1))).2.1 2 (ih m) (one (m + (d + 1)))
 obtain ⟨x,y,hxy,_,he⟩:=pigeon n (fun m => (sq m).1) (fun m _ => (sq m).2.1)
 obtain ⟨d,rfl⟩ : ∃ d,y = x + (d + 1):=⟨y - x - 1,by omega⟩
 have f:=far d x
 have he' : (sq x).1 = (sq (x + (d + 1))).1:=he
 rw [← he'] at f
 exact ⟨(sq x).1,(sq x).2.1,(sq x).2.2.1,f,(sq x).2.2.2⟩
theorem st_never (h : mulL n a a = a) (hg : Gr a) (i k : Nat) (hi : i < n) (hk : k < n) (h3 : stE n a i k = 3) : a.getD (i * n + k) 0 = 3:=by
 have b:=(gr_getD hg (i * n + k)).2
 by_cases e : a.getD (i * n + k) 0 ≤ 2
 ·obtain ⟨l,hl,h4,h5,h6⟩:=loop_at h i k hi hk e
  have : stE n a i k ≤ 2:=by rw [stE_le];exact Or.inr ⟨l,hl,h4,ag_le2 _ h5,h6⟩
  omega
 ·omega
end
theorem stE_in (n : Nat) (a : List Int) (ha : Gr a) (i k : Nat) : 0 ≤ stE n a i k ∧ stE n a i k ≤ 3:=by
 constructor
 ·have h:=stE_le n a i k (-1)
  have : ¬ stE n a i k ≤ -1:=by
   rw [h]
   rintro (h | ⟨l,_,h1,_⟩)
   ·omega
   ·have:=(gr_getD ha (i * n + l)).1;omega
  omega
 ·rw [stE_le];exact Or.inl (Int.le_refl _)
theorem GV_st (n : Nat) (a : List Int) (h : GV n a) : GV n (stL n a):=by
 rw [GV_iff] at h ⊢
 refine ⟨h.1,h.2.1,stL_length n a,?_⟩
 intro x hx
 obtain ⟨j,hj,rfl⟩:=mem_tab.mp hx
 exact stE_in n a h.2.2.2 _ _
end Go.Proofs.Ytengegdaiphfeaa.Y
end
