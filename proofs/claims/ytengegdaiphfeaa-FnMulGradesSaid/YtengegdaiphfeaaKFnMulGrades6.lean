import Derived.Test.YtengegdaiphfeaaKFnMulGrades1
import Derived.Test.YtengegdaiphfeaaKFnMulGrades5
import Derived.Test.YtengegdaiphfeaaKFnMulGrades2
import Derived.Laws.Bits64
import Derived.Test.YtengegdaiphfeaaKFnMulGrades3
section
namespace Go.Proofs.Ytengegdaiphfeaa.Y
open Go.RowKit Go.Proofs.Ytengegdaiphfeaa.X Go.Proofs.YtengegdaiphfeaaW.PrintWords Go.Proofs.YtengegdaiphfeaaW.PrintLast Go.Proofs.YtengegdaiphfeaaW.PrintMore
set_option linter.unusedVariables false
set_option linter.unusedSimpArgs false
theorem mn_le (x y t : Int) : mn x y ≤ t ↔ x ≤ t ∨ y ≤ t:=by unfold mn;by_cases h : y < x <;> simp only [h,if_true,if_false] <;> omega
theorem mx_le (x y t : Int) : mx x y ≤ t ↔ x ≤ t ∧ y ≤ t:=by unfold mx;by_cases h : x < y <;> simp only [h,if_true,if_false] <;> omega
theorem fold_le (n : Nat) (F : Nat → Int) (c t : Int) : (List.range n).foldl (fun acc l => mn acc (F l)) c ≤ t ↔ c ≤ t ∨ ∃ l,l < n ∧ F l ≤ t:=by
 induction n with
 | zero => simp
 | succ n ih =>
  rw [fold_snoc,mn_le,ih]
  constructor
  ·rintro ((h | ⟨l,h1,h2⟩)|h)
   ·exact Or.inl h
   ·exact Or.inr ⟨l,by omega,h2⟩
   ·exact Or.inr ⟨n,by omega,h⟩
  ·rintro (h | ⟨l,h1,h2⟩)
   ·exact Or.inl (Or.inl h)
   ·by_cases e : l = n
    ·subst e;exact Or.inr h2
    ·exact Or.inl (Or.inr ⟨l,by omega,h2⟩)
theorem mulE_le (n : Nat) (a b : List Int) (i k : Nat) (t : Int) : mulE n a b i k ≤ t ↔ 3 ≤ t ∨ ∃ l,l < n ∧ a.getD (i * n + l) 0 ≤ t ∧ b.getD (l * n + k) 0 ≤ t:=by
 unfold mulE
 rw [fold_le n (fun l => mx (a.getD (i * n + l) 0) (b.getD (l * n + k) 0)) 3 t]
 constructor
 ·rintro (h | ⟨l,h1,h2⟩)
  ·exact Or.inl h
  ·rw [mx_le] at h2;exact Or.inr ⟨l,h1,h2.1,h2.2⟩
 ·rintro (h | ⟨l,h1,h2,h3⟩)
  ·exact Or.inl h
  ·exact Or.inr ⟨l,h1,by rw [mx_le];exact ⟨h2,h3⟩⟩
theorem mulL_get (n : Nat) (a b : List Int) (i k : Nat) (hi : i < n) (hk : k < n) : (mulL n a b).getD (i * n + k) 0 = mulE n a b i k:=sqL_get n _ i k hi hk
theorem eq_of_le (x y : Int) (h : ∀ t,x ≤ t ↔ y ≤ t) : x = y:=by
 have h1:=(h y).mpr (Int.le_refl _)
 have h2:=(h x).mp (Int.le_refl _)
 omega
theorem mul_assoc' (n : Nat) (a b c : List Int) : mulL n (mulL n a b) c = mulL n a (mulL n b c):=by
 unfold mulL
 refine sqL_congr n _ _ (fun i k hi hk => eq_of_le _ _ (fun t => ?_))
 show mulE n (mulL n a b) c i k ≤ t ↔ mulE n a (mulL n b c) i k ≤ t
 rw [mulE_le,mulE_le]
 constructor
 ·rintro (h | ⟨l,hl,h1,h2⟩)
  ·exact Or.inl h
  ·rw [mulL_get n a b i l hi hl,mulE_le] at h1
   rcases h1 with h1 | ⟨m,hm,h3,h4⟩
   ·exact Or.inl h1
   ·refine Or.inr ⟨m,hm,h3,?_⟩
    rw [mulL_get n b c m k hm hk,mulE_le]
    exact Or.inr ⟨l,hl,h4,h2⟩
 ·rintro (h | ⟨m,hm,h1,h2⟩)
  ·exact Or.inl h
  ·rw [mulL_get n b c m k hm hk,mulE_le] at h2
   rcases h2 with h2 | ⟨l,hl,h3,h4⟩
   ·exact Or.inl h2
   ·refine Or.inr ⟨l,hl,?_,h4⟩
    rw [mulL_get n a b i l hi hl,mulE_le]
    exact Or.inr ⟨m,hm,h1,h3⟩
def pw (n : Nat) (l : List Int) : Nat → List Int
 | 0 => l
 | m + 1 => mulL n (pw n l m) l
theorem pw_add (n : Nat) (l : List Int) (a b : Nat) : mulL n (pw n l a) (pw n l b) = pw n l (a + b + 1):=by
 induction b with
 | zero => rfl
 | succ b ih => show mulL n (pw n l a) (mulL n (pw n l b) l) = mulL n (pw n l (a + (b + 1))) l;rw [← mul_assoc',ih];rfl
def Gr (l : List Int) : Prop := ∀ x ∈ l,0 ≤ x ∧ x ≤ 3
theorem gr_getD {l : List Int} (h : Gr l) (j : Nat) : 0 ≤ l.getD j 0 ∧ l.getD j 0 ≤ 3:=by
 rw [List.getD_eq_getElem?_getD]
 by_cases hj : j < l.length
 ·rw [List.getElem?_eq_getElem hj];exact h _ (List.getElem_mem hj)
 ·rw [List.getElem?_eq_none (by omega)];simp
theorem mulE_in (n : Nat) (a b : List Int) (ha : Gr a) (hb : Gr b) (i k : Nat) : 0 ≤ mulE n a b i k ∧ mulE n a b i k ≤ 3:=by
 constructor
 ·have h:=mulE_le n a b i k (-1)
  have : ¬ mulE n a b i k ≤ -1:=by
   rw [h]
   rintro (h | ⟨l,_,h1,_⟩)
   ·omega
   ·have:=(gr_getD ha (i * n + l)).1;omega
  omega
 ·rw [mulE_le];exact Or.inl (Int.le_refl _)
theorem mul_gr (n : Nat) (a b : List Int) (ha : Gr a) (hb : Gr b) : Gr (mulL n a b):=by
 intro x hx
 obtain ⟨j,hj,rfl⟩:=mem_tab.mp hx
 exact mulE_in n a b ha hb _ _
theorem pw_gr (n : Nat) (l : List Int) (h : Gr l) (m : Nat) : Gr (pw n l m):=by
 induction m with
 | zero => exact h
 | succ m ih => exact mul_gr n _ _ ih h
theorem pw_len (n : Nat) (l : List Int) (h : l.length = n * n) (m : Nat) : (pw n l m).length = n * n:=by
 cases m with
 | zero => exact h
 | succ m => exact mulL_length n _ _
theorem pigeon (N : Nat) : ∀ f : Nat → Nat,(∀ i,i ≤ N → f i < N) → ∃ i j,i < j ∧ j ≤ N ∧ f i = f j:=by
 induction N with
 | zero => intro f h;exact absurd (h 0 (Nat.le_refl _)) (by omega)
 | succ N ih =>
  intro f h
  by_cases e : ∃ i,i ≤ N ∧ f i = f (N + 1)
  ·obtain ⟨i,h1,h2⟩:=e
   exact ⟨i,N + 1,by omega,Nat.le_refl _,h2⟩
  ·have ne : ∀ i,i ≤ N → f i ≠ f (N + 1):=fun i hi he => e ⟨i,hi,he⟩
   obtain ⟨i,j,h1,h2,h3⟩:=ih (fun i => if f i > f (N + 1) then f i - 1 else f i) (fun i hi => by
    have a:=h i (by omega)
    have b:=h (N + 1) (Nat.le_refl _)
    have c:=ne i hi
    show (if f i > f (N + 1) then f i - 1 else f i) < N
    by_cases d : f i > f (N + 1)
    ·rw [if_pos d];omega
    ·rw [if_neg d];omega)
   refine ⟨i,j,h1,by omega,?_⟩
   have c1:=ne i (by omega)
   have c2:=ne j h2
   have h3' : (if f i > f (N + 1) then f i - 1 else f i) = (if f j > f (N + 1) then f j - 1 else f j):=h3
   by_cases d1 : f i > f (N + 1) <;> by_cases d2 : f j > f (N + 1)
   ·rw [if_pos d1,if_pos d2] at h3';omega
   ·rw [if_pos d1,if_neg d2] at h3';omega
   ·rw [if_neg d1,if_pos d2] at h3';omega
   ·rw [if_neg d1,if_neg d2] at h3';omega
def code : List Int → Nat
 | [] => 0
 | x :: t => x.toNat + 4 * code t
theorem code_lt (l : List Int) (h : Gr l) : code l < 4 ^ l.length:=by
 induction l with
 | nil => simp [code]
 | cons x t ih =>
  have h1:=h x (by simp)
  have h2:=ih (fun y hy => h y (by simp [hy]))
  rw [List.length_cons,Nat.pow_succ]
  simp only [code]
  omega
theorem code_inj (l : List Int) : ∀ m : List Int,Gr l → Gr m → l.length = m.length → code l = code m → l = m:=by
 induction l with
 | nil => intro m _ _ h _;cases m with
  | nil => rfl
  | cons => simp at h
 | cons x t ih =>
  intro m hl hm h e
  cases m with
  | nil => simp at h
  | cons y u =>
   have h1:=hl x (by simp)
   have h2:=hm y (by simp)
   simp only [code] at e
   have e1 : x = y:=by omega
   have e2 : code t = code u:=by omega
   rw [e1,ih u (fun z hz => hl z (by simp [hz])) (fun z hz => hm z (by simp [hz])) (by simpa using h) e2]
theorem pw_again (n : Nat) (l : List Int) (i d : Nat) (h : pw n l i = pw n l (i + d)) : ∀ m,i ≤ m → ∀ q,pw n l m = pw n l (m + q * d):=by
 have one : ∀ m,i ≤ m → pw n l m = pw n l (m + d):=by
  intro m hm
  obtain ⟨x,rfl⟩:=Nat.le.dest hm
  cases x with
  | zero => exact h
  | succ x =>
   have a:=pw_add n l i x
   have b:=pw_add n l (i + d) x
   rw [← h] at b
   have e : i + d + x + 1 = i + (x + 1) + d:=by omega
   rw [← e,← b,a];rfl
 intro m hm q
 induction q with
 | zero => simp
 | succ q ih =>
  rw [ih,one (m + q * d) (by omega)]
  congr 1
  rw [Nat.succ_mul];omega
theorem some_idem (n : Nat) (l : List Int) (hl : l.length = n * n) (hg : Gr l) : ∃ m,mulL n (pw n l m) (pw n l m) = pw n l m:=by
 obtain ⟨i,j,hij,_,he⟩:=pigeon (4 ^ (n * n)) (fun m => code (pw n l m)) (fun m _ => by
  have:=code_lt (pw n l m) (pw_gr n l hg m)
  rwa [pw_len n l hl m] at this)
 have he2 : pw n l i = pw n l j:=code_inj _ _ (pw_gr n l hg i) (pw_gr n l hg j) (by rw [pw_len n l hl,pw_len n l hl]) he
 obtain ⟨d,rfl⟩ : ∃ d,j = i + (d + 1):=⟨j - i - 1,by omega⟩
 have per:=pw_again n l i (d + 1) he2
 have hM : i ≤ (i + 1) * (d + 1) - 1:=by
  have : i + 1 ≤ (i + 1) * (d + 1):=Nat.le_mul_of_pos_right _ (by omega)
  omega
 have hp : 1 ≤ (i + 1) * (d + 1):=Nat.mul_pos (by omega) (by omega)
 refine ⟨(i + 1) * (d + 1) - 1,?_⟩
 rw [pw_add,per _ hM (i + 1)]
 congr 1
theorem least (P : Nat → Prop) (h : ∃ m,P m) : ∃ m,P m ∧ ∀ j,j < m → ¬ P j:=by
 obtain ⟨m,hm⟩:=h
 induction m using Nat.strongRecOn with
 | _ m ih =>
  by_cases e : ∃ j,j < m ∧ P j
  ·obtain ⟨j,h1,h2⟩:=e
   exact ih j h1 h2
  ·exact ⟨m,hm,fun j h1 h2 => e ⟨j,h1,h2⟩⟩
end Go.Proofs.Ytengegdaiphfeaa.Y
end
section
namespace Go.Proofs.Ytengegdaiphfeaa.Y
open Go.RowKit Go.Proofs.Ytengegdaiphfeaa.X Go.Proofs.YtengegdaiphfeaaW.PrintWords Go.Proofs.YtengegdaiphfeaaW.PrintLast Go.Proofs.YtengegdaiphfeaaW.PrintMore
set_option linter.unusedVariables false
set_option linter.unusedSimpArgs false
theorem Ev_eq {α γ : Type} {o : Option γ} {z : γ} {g : Nat → γ → Option α} {r : α} (h : o = some z) (k : Ev (fun n => g n z) r) : Ev (fun n => o.bind (g n)) r:=Ev.congr (fun n => by rw [h];rfl) k
theorem xor_nat (a b : Nat) (ha : a < 4611686018427387904) (hb : b < 4611686018427387904) : bits .xor .i64 (a : Int) (b : Int) = ((a ^^^ b : Nat) : Int):=by
 have hx : a ^^^ b < 2 ^ 62:=Nat.xor_lt_two_pow (by omega) (by omega)
 have h1 : (BitVec.ofInt 64 (a : Int)).toNat = a:=by
  rw [BitVec.ofInt_natCast,BitVec.toNat_ofNat];exact Nat.mod_eq_of_lt (by omega)
 have h2 : (BitVec.ofInt 64 (b : Int)).toNat = b:=by
  rw [BitVec.ofInt_natCast,BitVec.toNat_ofNat];exact Nat.mod_eq_of_lt (by omega)
 show IntKind.i64.wrap ((BitVec.ofInt 64 (a : Int) ^^^ BitVec.ofInt 64 (b : Int)).toNat : Int) = _
 rw [BitVec.toNat_xor,h1,h2]
 simp [IntKind.wrap,IntKind.bits,IntKind.signed]
 omega
def Bytes (l : List Int) : Prop := ∀ x ∈ l,0 ≤ x ∧ x ≤ 255
theorem bytes_of {l : List Int} (h : ∀ x ∈ l,(Lit.int .u8 x).wf = true) : Bytes l:=by
 intro x hx
 have:=h x hx
 have hmin : IntKind.u8.min = 0:=rfl
 have hmax : IntKind.u8.max = 255:=rfl
 simp only [Lit.wf,Bool.and_eq_true,decide_eq_true_eq] at this
 omega
theorem rd_byte {l : List Int} (h : Bytes l) (i : Int) : ∃ b : Nat,rd l i = (b : Int) ∧ b ≤ 255:=by
 have : 0 ≤ rd l i ∧ rd l i ≤ 255:=by
  unfold rd
  rw [List.getD_eq_getElem?_getD]
  by_cases hj : i.toNat < l.length
  ·rw [List.getElem?_eq_getElem hj];exact h _ (List.getElem_mem hj)
  ·rw [List.getElem?_eq_none (by omega)];simp
 exact ⟨(rd l i).toNat,by omega,by omega⟩
theorem mixed (b c s q : Nat) (hb : b ≤ 255) (hc : c ≤ 255) (hs : s ≤ 1000000) (hq : q ≤ 1000000) :
  wrap64 ((wrap64 ((wrap64 ((wrap64 ((wrap64 (b : Int)) * 131)) + (wrap64 ((wrap64 (c : Int)) * 1117)))) + (wrap64 ((s : Int) * 29)))) + (wrap64 ((wrap64 (q : Int)) * 53))) = ((b * 131 + c * 1117 + s * 29 + q * 53 : Nat) : Int):=by
 rw [w64 (x:=(b : Int)) (by omega) (by omega),w64 (x:=(c : Int)) (by omega) (by omega),w64 (x:=(q : Int)) (by omega) (by omega),w64 (x:=(b : Int) * 131) (by omega) (by omega),w64 (x:=(c : Int) * 1117) (by omega) (by omega),w64 (x:=(s : Int) * 29) (by omega) (by omega),w64 (x:=(q : Int) * 53) (by omega) (by omega),
  w64 (x:=(b : Int) * 131 + (c : Int) * 1117) (by omega) (by omega),w64 (x:=(b : Int) * 131 + (c : Int) * 1117 + (s : Int) * 29) (by omega) (by omega),w64 (x:=(b : Int) * 131 + (c : Int) * 1117 + (s : Int) * 29 + (q : Int) * 53) (by omega) (by omega)]
 omega
theorem second (s : Nat) (hs : s ≤ 1000000) : wrap64 ((wrap64 ((s : Int) * 7)) + 3) = ((s * 7 + 3 : Nat) : Int):=by
 rw [w64 (x:=(s : Int) * 7) (by omega) (by omega),w64 (x:=(s : Int) * 7 + 3) (by omega) (by omega)];omega
theorem at_up (s : Nat) (hs : s ≤ 1000000) : wrap64 ((s : Int) + 1) = ((s + 1 : Nat) : Int):=by rw [w64 (x:=(s : Int) + 1) (by omega) (by omega)];omega
theorem at_down (s : Nat) (hs : s ≤ 1000000) : wrap64 (((s + 1 : Nat) : Int) - 1) = (s : Int):=by rw [w64 (x:=((s + 1 : Nat) : Int) - 1) (by omega) (by omega)];omega
theorem at_64 (m : Nat) (hm : m ≤ 100000000) : wrap64 (Int.tdiv (m : Int) 64) = ((m / 64 : Nat) : Int):=by
 have hmq : m / 64 ≤ 100000000:=Nat.le_trans (Nat.div_le_self _ _) hm
 have : (64 : Int) = ((64 : Nat) : Int):=rfl
 rw [this,tdiv_nat,w64 (x:=((m / 64 : Nat) : Int)) (by omega) (by omega)]
theorem pick_ev (l : List Int) (hl : l.length ≤ 2000) (hb : Bytes l) (s n : Nat) (hs : s ≤ 1000000) (h1 : 1 ≤ n) (hn : n ≤ 1000000) :
  ∃ v : Nat,v < n ∧ Ev (fun k => spec_l13Rd_pick.f k l (s : Int) (n : Int)) ((v : Int),((s + 1 : Nat) : Int)):=by
 have hn0 : ¬ (n : Int) < 1:=by omega
 have hnz : ¬ (n : Int) = 0:=by omega
 cases l with
 | nil =>
  refine ⟨0,by omega,?_⟩
  refine Ev.congr (f:=fun k => spec_l13Rd_pick.j0 k (n : Int) true [] ((s + 1 : Nat) : Int)) (fun k => ?_) ?_
  ·unfold spec_l13Rd_pick.f;rw [if_neg hn0,at_up s hs];rfl
  ·refine Ev.step (f:=fun _ => some ((0 : Int),((s + 1 : Nat) : Int))) (fun k => ?_) (Ev.now _)
   simp only [spec_l13Rd_pick.j0];rw [if_pos trivial]
 | cons x t =>
  obtain ⟨L,hL⟩ : ∃ L,(x :: t).length = L:=⟨_,rfl⟩
  have hL1 : 1 ≤ L:=by rw [← hL];simp
  have hz : (((x :: t).length : Int) == 0) = false:=by rw [hL];simp;omega
  generalize hgl : x :: t = l at hL hl hb hz ⊢
  have start : ∀ r,Ev (fun k => spec_l13Rd_pick.j0 k (n : Int) false l ((s + 1 : Nat) : Int)) r → Ev (fun k => spec_l13Rd_pick.f k l (s : Int) (n : Int)) r:=fun r h => by
   refine Ev.congr (fun k => ?_) h
   unfold spec_l13Rd_pick.f;rw [if_neg hn0,at_up s hs,hz]
  by_cases hlt : s < L
  ·obtain ⟨b,hb1,hb2⟩:=rd_byte hb (s : Int)
   refine ⟨b % n,Nat.mod_lt _ (by omega),start _ ?_⟩
   refine Ev.step (f:=fun _ => some (((b % n : Nat) : Int),((s + 1 : Nat) : Int))) (fun k => ?_) (Ev.now _)
   simp only [spec_l13Rd_pick.j0]
   rw [if_neg (by simp),at_down s hs,hL,if_pos (by omega),if_pos (by omega),if_neg hnz,hb1,w64 (x:=(b : Int)) (by omega) (by omega),tmod_nat]
  ·obtain ⟨b,hb1,hb2⟩:=rd_byte hb ((s % L : Nat) : Int)
   obtain ⟨c,hc1,hc2⟩:=rd_byte hb (((s * 7 + 3) % L : Nat) : Int)
   have hq : s / L ≤ 1000000:=Nat.le_trans (Nat.div_le_self _ _) hs
   obtain ⟨q,hqe⟩ : ∃ q,s / L = q:=⟨_,rfl⟩
   rw [hqe] at hq
   obtain ⟨m,hm⟩ : ∃ m : Nat,b * 131 + c * 1117 + s * 29 + q * 53 = m:=⟨_,rfl⟩
   have hmb : m ≤ 100000000:=by omega
   have hmq : m / 64 ≤ 100000000:=Nat.le_trans (Nat.div_le_self _ _) hmb
   have hL0 : ¬ (L : Int) = 0:=by omega
   have m1 : s % L < L:=Nat.mod_lt _ (by omega)
   have m2 : (s * 7 + 3) % L < L:=Nat.mod_lt _ (by omega)
   have x1 : m < 4611686018427387904:=by omega
   have x2 : m / 64 < 4611686018427387904:=by omega
   have y1 : ¬ (s : Int) < (L : Int):=by omega
   have y2 : ((s % L : Nat) : Int) < (L : Int):=by omega
   have y3 : (((s * 7 + 3) % L : Nat) : Int) < (L : Int):=by omega
   refine ⟨(m ^^^ (m / 64)) % n,Nat.mod_lt _ (by omega),start _ ?_⟩
   refine Ev.step (f:=fun _ => some ((((m ^^^ (m / 64)) % n : Nat) : Int),((s + 1 : Nat) : Int))) (fun k => ?_) (Ev.now _)
   simp only [spec_l13Rd_pick.j0]
   rw [if_neg (by simp),at_down s hs,hL,if_neg y1,if_neg hL0,tmod_nat,if_pos (Int.natCast_nonneg _),if_pos y2,second s hs,tmod_nat,if_pos (Int.natCast_nonneg _),if_pos y3,if_neg hnz,hb1,hc1,tdiv_nat,hqe,mixed b c s q hb2 hc2 hs hq,hm,at_64 m hmb,xor_nat m (m / 64) x1 x2,tmod_nat]
theorem num_ev (l : List Int) (hl : l.length ≤ 2000) (hb : Bytes l) (s : Nat) (hs : s ≤ 1000000) (z : List Int) (h1 : 1 ≤ z.length) (hn : z.length ≤ 1000000) :
  ∃ x ∈ z,Ev (fun k => spec_l13Rd_num.f k l (s : Int) z) (x,((s + 1 : Nat) : Int)):=by
 obtain ⟨v,hv,h⟩:=pick_ev l hl hb s z.length hs h1 hn
 refine ⟨z[v],List.getElem_mem hv,?_⟩
 unfold spec_l13Rd_num.f
 refine Ev.bind h ?_
 refine ev_some (fun k => ?_)
 show (if (0 : Int) ≤ (v : Int) then (if (v : Int) < (z.length : Int) then some (rd z (v : Int),((s + 1 : Nat) : Int)) else none) else none) = _
 rw [if_pos (by omega),if_pos (by omega),rd_nat,List.getD_eq_getElem?_getD,List.getElem?_eq_getElem hv];rfl
theorem drawG_ev (l : List Int) (hl : l.length ≤ 2000) (hb : Bytes l) (n : Nat) (h1 : 1 ≤ n) (h4 : n ≤ 4) (s : Nat) (hs : s ≤ 900000) :
  ∃ t : List Int,t.length = n * n ∧ Gr t ∧ Ev (fun k => spec_l6Draw.f k l (s : Int) (n : Int)) ((n : Int),t,((s + n * n : Nat) : Int)):=by
 have hsq:=sq_le n h4
 have go : ∀ d (pre : List Int) (s : Nat),pre.length + d = n * n → s ≤ 900000 + pre.length → ∃ t : List Int,t.length = d ∧ Gr t ∧ Ev (fun k => spec_l6Draw.l0 k ((n * n : Nat) : Int) (pre.length : Int) l (s : Int) n pre) ((n : Int),pre ++ t,((s + d : Nat) : Int)):=by
  intro d
  induction d with
  | zero =>
   intro pre s hp hs
   refine ⟨[],rfl,fun x hx => by simp at hx,?_⟩
   refine Ev.step (f:=fun _ => some ((n : Int),pre,(s : Int))) (fun k => ?_) ((Ev.now _).is (by simp))
   simp only [spec_l6Draw.l0];rw [if_neg (by omega)]
  | succ d ih =>
   intro pre s hp hs
   obtain ⟨x,hx,hxe⟩:=num_ev l hl hb s (by omega) [3,0,1,3,2,1,0] (by simp) (by simp)
   obtain ⟨t,ht1,ht2,ht3⟩:=ih (pre ++ [x]) (s + 1) (by simp;omega) (by simp;omega)
   refine ⟨x :: t,by simp [ht1],?_,?_⟩
   ·intro y hy
    simp only [List.mem_cons] at hy
    rcases hy with rfl|hy
    ·simp at hx;omega
    ·exact ht2 y hy
   ·refine Ev.step (f:=?f1) (fun k => ?h1) ?k1
    case h1 => simp only [spec_l6Draw.l0];rw [if_pos (by omega)] <;> exact rfl
    refine Ev.bind hxe ?_
    refine Ev_t (by omega) ?_
    have e : wrap64 ((pre.length : Int) + 1) = ((pre ++ [x]).length : Int):=by rw [w64 (x:=(pre.length : Int) + 1) (by omega) (by omega)];simp
    rw [e]
    refine ht3.is ?_
    simp;omega
 have e0 : wrap64 ((n : Int) * (n : Int)) = ((n * n : Nat) : Int):=by
  have : (n : Int) * (n : Int) = ((n * n : Nat) : Int):=by simp
  rw [this,w64 (x:=((n * n : Nat) : Int)) (by omega) (by omega)]
 obtain ⟨t,h1,h2,h3⟩:=go (n * n) [] s (by simp) (by omega)
 refine ⟨t,h1,h2,Ev.congr (fun k => ?_) h3⟩
 unfold spec_l6Draw.f;rw [e0];rfl
theorem bad_ev (l : List Int) (hl : l.length ≤ 2000) (hb : Bytes l) (s : Nat) (hs : s ≤ 900000) (n : Int) (c : List Int) (hc1 : 1 ≤ c.length) (hc : c.length ≤ 16) :
  ∃ (n' : Int) (c' : List Int) (s' : Nat),c'.length ≤ 16 ∧ 1 ≤ c'.length ∧ s' ≤ s + 2 ∧ Ev (fun k => spec_l6Bad.f k l (s : Int) n c) (n',c',(s' : Int)):=by
 obtain ⟨v,hv,h⟩:=pick_ev l hl hb s 24 (by omega) (by omega) (by omega)
 by_cases e0 : v = 0
 ·subst e0
  obtain ⟨x,hx,hxe⟩:=num_ev l hl hb (s + 1) (by omega) [4,(-1),1000000] (by simp) (by simp)
  refine ⟨n,[x] ++ c.drop 1,s + 1 + 1,by simp;omega,by simp,by omega,?_⟩
  unfold spec_l6Bad.f
  refine Ev.bind h (Ev_t rfl (Ev.bind hxe ?_))
  refine ev_some (fun k => ?_)
  rw [Option.bind_some,if_pos (by omega),Option.bind_some,if_pos (by simp;omega)]
 ·by_cases e1 : v = 1
  ·subst e1
   obtain ⟨x,hx,hxe⟩:=num_ev l hl hb (s + 1) (by omega) [0,5,1] (by simp) (by simp)
   refine ⟨x,c,s + 1 + 1,hc,hc1,by omega,?_⟩
   unfold spec_l6Bad.f
   refine Ev.bind h (Ev_f (by simp) (Ev_t rfl (Ev.bind hxe (Ev.now _))))
  ·refine ⟨n,c,s + 1,hc,hc1,by omega,?_⟩
   unfold spec_l6Bad.f
   refine Ev.bind h (Ev_f ?_ (Ev_f ?_ (Ev.now _)))
   ·show ¬ (v : Int) = 0;omega
   ·show ¬ (v : Int) = 1;omega
theorem some_ev (l : List Int) (hl : l.length ≤ 2000) (hb : Bytes l) (s : Nat) (hs : s ≤ 800000) :
  ∃ (n' : Int) (c' : List Int) (s' : Nat),c'.length ≤ 16 ∧ s' ≤ s + 20 ∧ Ev (fun k => spec_l6Some.f k l (s : Int)) (n',c',(s' : Int)):=by
 obtain ⟨v,hv,h⟩:=pick_ev l hl hb s 4 (by omega) (by omega) (by omega)
 have e : wrap64 (1 + (v : Int)) = ((v + 1 : Nat) : Int):=by rw [w64 (x:=1 + (v : Int)) (by omega) (by omega)];omega
 have hq:=sq_le (v + 1) (by omega)
 have hq1 : 1 ≤ (v + 1) * (v + 1):=Nat.mul_pos (by omega) (by omega)
 obtain ⟨t,ht1,ht2,ht3⟩:=drawG_ev l hl hb (v + 1) (by omega) (by omega) (s + 1) (by omega)
 obtain ⟨n',c',s',g1,g2,g3,g4⟩:=bad_ev l hl hb (s + 1 + (v + 1) * (v + 1)) (by omega) ((v + 1 : Nat) : Int) t (by omega) (by omega)
 refine ⟨n',c',s',g1,by omega,?_⟩
 unfold spec_l6Some.f
 refine Ev.bind h ?_
 show Ev (fun k => (spec_l6Draw.f k l ((s + 1 : Nat) : Int) (wrap64 (1 + (v : Int)))).bind _) _
 rw [e]
 exact Ev.bind ht3 (Ev.bind g4 (Ev.now _))
theorem open_eq (l : List Int) : ∃ l',spec_l13Open.f l = some (l',0) ∧ l'.length ≤ 2000 ∧ (Bytes l → Bytes l'):=by
 unfold spec_l13Open.f
 by_cases h : (l.length : Int) > 2000
 ·refine ⟨l.take 2000,by rw [if_pos h,if_pos (by omega)],by simp;omega,fun hb x hx => hb x (List.mem_of_mem_take hx)⟩
 ·exact ⟨l,by rw [if_neg h],by omega,id⟩
theorem drawIdempotentOf_ev (l : List Int) (hb : Bytes l) : ∃ (n : Int) (c : List Int),c.length ≤ 16 ∧ Ev (fun k => spec_DrawIdempotentOf.f k l) (n,c):=by
 obtain ⟨l',e,h1,h2⟩:=open_eq l
 obtain ⟨n,c,s,g1,_,g2⟩:=some_ev l' h1 (h2 hb) 0 (by omega)
 refine ⟨n,c,g1,?_⟩
 unfold spec_DrawIdempotentOf.f
 exact Ev_eq e (Ev.bind g2 (Ev.now _))
end Go.Proofs.Ytengegdaiphfeaa.Y
end
section
namespace Go.Proofs.Ytengegdaiphfeaa.X
open Go.RowKit Go.Proofs.YtengegdaiphfeaaW.PrintWords Go.Proofs.YtengegdaiphfeaaW.PrintLast Go.Proofs.YtengegdaiphfeaaW.PrintMore
attribute [local go_sem] max2_int min2_int max_two min_two max_three min_three max_four min_four
set_option linter.unusedVariables false
set_option linter.unusedSimpArgs false
def spec_DrawStabilise.f (k : Nat) (l0 : List Int) : Option (Int × List Int):=(spec_l13Open.f l0).bind fun bt854 => ((spec_l6Idem.f k bt854.1 bt854.2).bind fun bt857 => (some (bt857.1,bt857.2.1)))
theorem spec_DrawStabilise.mono : ∀ a0 k,LeO (spec_DrawStabilise.f k a0) (spec_DrawStabilise.f (k + 1) a0):=by
 intro a0 k
 unfold spec_DrawStabilise.f
 repeat' first
   | (with_reducible exact spec_l6Idem.mono _ _ _)
   | (with_reducible exact LeO.refl _)
   | (with_reducible exact LeO.none _)
   | (with_reducible refine LeO.ite ?_ ?_)
   | (with_reducible refine LeO.bind ?_ (fun _ => ?_))
   | exact spec_l6Idem.mono _ _ _
   | exact LeO.none _
   | refine LeO.ite ?_ ?_
   | refine LeO.bind ?_ (fun _ => ?_)
set_option maxHeartbeats 8000000 in
set_option maxRecDepth 100000 in
theorem spec_DrawStabilise.calls (k : Nat) (A0 : Option Addr) (c0 : Nat) (l0 : List Int) (r1 : Int) (r2 : List Int) (w : World) (hr0 : Kd.C (Kd.int .u8) w A0 l0.length l0) (hc0 : l0.length ≤ c0) (h : spec_DrawStabilise.f k l0 = some (r1,r2)) :
  Calls Try.prog 40 #[.slice A0 l0.length c0] w fun e w' => ∃ v1_ : Value,e = .returned (.agg #[.int .i64 r1,v1_]) ∧ Kd.V (Kd.int .i64) 3 w' w.heap.size (fun k_ => (w.heap.size ≤ k_)) v1_ r2 ∧ Below w.heap.size w w':=by
 have hu28:=Try.underlying28
 have HR0:=Aside0.mk hr0
 have HC0:=Aside0.mk hc0
 clear hr0 hc0
 have HB:=Aside0.mk (Below.refl w.heap.size w)
 have H : ((spec_l13Open.f l0).bind fun bt854 => ((spec_l6Idem.f k bt854.1 bt854.2).bind fun bt857 => (some (bt857.1,bt857.2.1)))) = some (r1,r2):=h
 clear h
 replace H:=Option.bind_eq_some_iff.mp H
 obtain ⟨⟨t854,t855⟩,A20,H⟩:=H
 replace H : ((spec_l6Idem.f k t854 t855).bind fun bt857 => (some (bt857.1,bt857.2.1))) = some (r1,r2):=H
 have A2:=Aside0.mk A20
 clear A20
 replace H:=Option.bind_eq_some_iff.mp H
 obtain ⟨⟨t857,t858,t861⟩,A30,H⟩:=H
 replace H : (some (t857,t858)) = some (r1,r2):=H
 have A3:=Aside0.mk A30
 clear A30
 simp only [Option.some.injEq,Prod.mk.injEq] at H
 obtain ⟨rfl,rfl⟩:=H
 go_enter Try.func40,Try.ntmps40
 go_wp2_with (first|((with_reducible refine gate_dst (N:=2) rfl ?_);refine box_event ?hg (N:=2) ?hd (cs:=#[.int .i64 0,.slice none 0 0]) (t:=28) ?hr ?_;(case hd => rfl);(case hg => rfl);(case hr => first|(go_simp;done)|(go_simp;rfl));intro gb853 hg w4 hbox hb;have n0_:=Aside0.mk (below_step (be0_ HB.out) hb);have n1_:=Aside0.mk (hbox);have n2_:=Aside0.mk ((by rw [hg];exact (below_size (be0_ HB.out)) : w.heap.size ≤ gb853));have n3_:=Aside0.mk ((by rw [hg];exact (below_size (be0_ HB.out)) : w.heap.size ≤ gb853));clear HB;have HB:=n0_;have BK853:=n1_;have GW853:=n2_;have GE853:=n3_;clear n0_ n1_ n2_ n3_;clear hb hbox hg)|((with_reducible refine gate_callee (f:=71) rfl ?_);refine goesL_ (some 4) rfl rfl Try.func71 (by kernel_rfl) rfl #[.slice A0 l0.length c0] rfl lp_ ?_;(with_reducible refine (spec_l13Open.calls _ _ l0 t854 t855 w _ ?side1 ?side2 ?side3 A2.out).mono ?_);(case side1 => repeat (first|(with_reducible first|exact HB.out|apply below_alloc|apply pw_below_drewN|apply below_drew1|refine below_set ?_ GE853.out)|exact HB.out));(case side2 => exact HR0.out);(case side3 => exact HC0.out);rintro e w5 ⟨g856,rfl,hi,hb,hb2⟩;refine ⟨_,rfl,?_⟩;have n0_:=Aside0.mk (blk_below (g:=gb853) (o:=.cells #[.int .i64 0,.slice none 0 0] 28 (0,0)) (pe_ BK853.out) hb2);have n1_:=Aside0.mk (hb);have n2_:=Aside0.mk (hi);have n3_:=Aside0.mk (IsS90.ne_blk hi (blk_below (g:=gb853) (o:=.cells #[.int .i64 0,.slice none 0 0] 28 (0,0)) (pe_ BK853.out) hb2) (by decide));have n4_:=Aside0.mk (Ne.symm (IsS90.ne_blk hi (blk_below (g:=gb853) (o:=.cells #[.int .i64 0,.slice none 0 0] 28 (0,0)) (pe_ BK853.out) hb2) (by decide)));clear BK853;clear HB;have BK853:=n0_;have HB:=n1_;have HI856:=n2_;have NB856_853:=n3_;have NB853_856:=n4_;clear n0_ n1_ n2_ n3_ n4_;(try clear hb);(try clear hb2);(try clear hk);(try clear hi))|((with_reducible refine gate_callee (f:=79) rfl ?_);refine goesL_ (some 5) rfl rfl Try.func79 (by kernel_rfl) rfl #[.pointer (some ⟨g856,0,none⟩)] rfl lp_ ?_;(with_reducible refine (spec_l6Idem.calls k g856 t854 t855 t857 t858 t861 w _ ?side1 ?side2 A3.out).mono ?_);(case side1 => repeat (first|(with_reducible first|exact HI856.out|apply IsS90.alloc|apply IsS90.drewN|apply IsS90.drew|apply IsS90.set_1|refine IsS90.far ?_ NB856_853.out _)|exact HI856.out));(case side2 => repeat (first|(with_reducible first|exact HB.out|apply below_alloc|apply pw_below_drewN|apply below_drew1|refine below_set ?_ (IsS90.ge HI856.out)|refine below_set ?_ GE853.out)|exact HB.out));rintro e w6 ⟨v859,rfl,ho0,hi,hb,hk⟩;refine ⟨_,rfl,?_⟩;have n0_:=Aside0.mk (KeepBut.blk hk (g':=gb853) (o:=.cells #[.int .i64 0,.slice none 0 0] 28 (0,0)) (pe_ BK853.out) NB853_856.out (by simp));have n1_:=Aside0.mk (Kd.V_lower (Kd.V_mono (ok':=fun k_ => (w.heap.size ≤ k_) ∧ k_ ≠ gb853 ∧ k_ ≠ g856) ho0 (fun k_ hk_ => ⟨(Nat.le_trans (below_size (by repeat (first|(with_reducible first|exact HB.out|apply below_alloc|apply pw_below_drewN|apply below_drew1|refine below_set ?_ (IsS90.ge HI856.out)|refine below_set ?_ GE853.out)|exact HB.out))) hk_),(Kd.freshB (g:=gb853) (o:=.cells #[.int .i64 0,.slice none 0 0] 28 (0,0)) (pe_ BK853.out) k_ hk_),(IsS90.fresh (by repeat (first|(with_reducible first|exact HI856.out|apply IsS90.alloc|apply IsS90.drewN|apply IsS90.drew|apply IsS90.set_1|refine IsS90.far ?_ NB856_853.out _)|exact HI856.out)) k_ hk_)⟩)) (below_size (by repeat (first|(with_reducible first|exact HB.out|apply below_alloc|apply pw_below_drewN|apply below_drew1|refine below_set ?_ (IsS90.ge HI856.out)|refine below_set ?_ GE853.out)|exact HB.out))));have n2_:=Aside0.mk (hb);have n3_:=Aside0.mk (hi);clear BK853;clear HB;clear HI856;have BK853:=n0_;have HO860:=n1_;have HB:=n2_;have HI856:=n3_;clear n0_ n1_ n2_ n3_;(try clear hb);(try clear hb2);(try clear hk);(try clear hi);(try clear ho0);have hnb7:=NB853_856.out;have hnc7:=NB856_853.out;have hcz8_0 : w6.cell? ⟨gb853,0,none⟩ = some (.int .i64 0):=(blk_cell BK853.out 0).trans rfl;have hcz8_1 : w6.cell? ⟨gb853,1,none⟩ = some (.slice none 0 0):=(blk_cell BK853.out 1).trans rfl;have hfz8_0:=blk_frozen BK853.out 0;have hfz8_1:=blk_frozen BK853.out 1;obtain ⟨Ao9,co9,eo9⟩:=Kd.V_slice HO860.out;subst eo9))
 refine bodyPost_ret (results_cell_row rfl _ _ gb853 28 #[.int .i64 t857,.slice Ao9 t858.length co9] (0,0) _ rfl (by refine pe_ ?_;refine blk_put (cs:=#[.int .i64 t857,.slice none 0 0]) ?_ 1 _ rfl;refine pe_ ?_;refine blk_put (cs:=#[.int .i64 0,.slice none 0 0]) ?_ 0 _ rfl;refine pe_ ?_;exact BK853.out) Try.underlying28 rfl (by kernel_rfl)) rfl ?_
 exact ⟨_,by first|rfl|(simp [errW_none,errW_some] <;> rfl)|(simp [*,errW_none,errW_some] <;> rfl),by refine pv_ ?_;exact Kd.V_mono (Kd.V_far (p:=⟨gb853,1,none⟩) (Kd.V_far (p:=⟨gb853,0,none⟩) (Kd.V_mono HO860.out (fun k_ hk => (⟨hk,hk.2.1⟩ : _ ∧ k_ ≠ gb853))) (fun _ hk => hk.2) (.int .i64 t857)) (fun _ hk => hk.2) (.slice Ao9 t858.length co9)) (fun _ hk => hk.1.1),by repeat (first|(with_reducible first|exact HB.out|apply below_alloc|apply pw_below_drewN|apply below_drew1|refine below_set ?_ (IsS90.ge HI856.out)|refine below_set ?_ GE853.out)|exact HB.out)⟩
end Go.Proofs.Ytengegdaiphfeaa.X
end
section
namespace Go.Proofs.Ytengegdaiphfeaa.X
open Go.RowKit Go.Proofs.YtengegdaiphfeaaW.PrintWords Go.Proofs.YtengegdaiphfeaaW.PrintLast Go.Proofs.YtengegdaiphfeaaW.PrintMore
attribute [local go_sem] max2_int min2_int max_two min_two max_three min_three max_four min_four
set_option linter.unusedVariables false
set_option linter.unusedSimpArgs false
def impl_filled__impl_Matrix_at.f (k : Nat) (a0 : Int) (a1_0 : Int) (l1_1 : List Int) : Option (Int × List Int):=impl_filled.f (fun y0 y1 => impl_Matrix_at.f a1_0 l1_1 y0 y1 ) k a0
theorem impl_filled__impl_Matrix_at.mono : ∀ b0 b1 b2 k,LeO (impl_filled__impl_Matrix_at.f k b0 b1 b2) (impl_filled__impl_Matrix_at.f (k + 1) b0 b1 b2):=by
 intro b0 b1 b2 k
 exact impl_filled.monoP (fun _ _ => LeO.refl _) _ k
set_option maxHeartbeats 2000000 in
theorem impl_filled__impl_Matrix_at.calls (k : Nat) (a0 : Int) (a1_0 : Int) (A1_1 : Option Addr) (c1_1 : Nat) (l1_1 : List Int) (r1 : Int) (r2 : List Int) (w : World) (hr1_1 : Kd.C (Kd.int .i64) w A1_1 l1_1.length l1_1) (hc1_1 : l1_1.length ≤ c1_1) (h : impl_filled__impl_Matrix_at.f k a0 a1_0 l1_1 = some (r1,r2)) :
  Calls Try.prog 59 #[.int .i64 a0,.func (.func 61) #[.agg #[.int .i64 a1_0,.slice A1_1 l1_1.length c1_1]] #[]] w fun e w' => ∃ v1_ : Value,e = .returned (.agg #[.int .i64 r1,v1_]) ∧ Kd.R (Kd.int .i64) 3 w' w.heap.size (fun _ => True) v1_ r2 ∧ Below w.heap.size w w':=by
 refine impl_filled.calls k a0 61 #[.agg #[.int .i64 a1_0,.slice A1_1 l1_1.length c1_1]] #[] (fun y0 y1 => impl_Matrix_at.f a1_0 l1_1 y0 y1 ) r1 r2 w  ⟨_,Try.func61,rfl,rfl⟩ ?_ h
 intro ay0 ay1 z0 W_ hB_  h_
 refine calls_of_args (args':=#[.agg #[.int .i64 a1_0,.slice A1_1 l1_1.length c1_1],.int .i64 ay0,.int .i64 ay1]) (by simp) ?_
 refine (impl_Matrix_at.calls a1_0 A1_1 c1_1 l1_1 ay0 ay1 z0 W_ (Kd.C_below hr1_1 hB_) hc1_1 h_).mono ?_
 exact fun e w' h => h
end Go.Proofs.Ytengegdaiphfeaa.X
end
section
namespace Go.Proofs.Ytengegdaiphfeaa.X
open Go.RowKit Go.Proofs.YtengegdaiphfeaaW.PrintWords Go.Proofs.YtengegdaiphfeaaW.PrintLast Go.Proofs.YtengegdaiphfeaaW.PrintMore
attribute [local go_sem] max2_int min2_int max_two min_two max_three min_three max_four min_four
set_option linter.unusedVariables false
set_option linter.unusedSimpArgs false
def slices_Equal_int_int.l0 : Nat → List Int → List Int → Int → Int → Option (Bool)
 | 0,_,_,_,_ => none
 | k + 1,x0,x1,x12,x13 => if x13 < x12 then (if 0 ≤ x13 then (if x13 < (x0.length : Int) then (if x13 < (x1.length : Int) then (if (rd x0 x13) = (rd x1 x13) then (slices_Equal_int_int.l0 k x0 x1 x12 (wrap64 (x13 + 1))) else (some false)) else (none)) else (none)) else (none)) else (some true)
def slices_Equal_int_int.f (k : Nat) (l0 : List Int) (l1 : List Int) : Option (Bool):=if (l0.length : Int) = (l1.length : Int) then (slices_Equal_int_int.l0 k l0 l1 (l0.length : Int) 0) else (some false)
theorem slices_Equal_int_int.mono_l : ∀ k,(∀ y0 y1 y2 y3,LeO (slices_Equal_int_int.l0 k y0 y1 y2 y3) (slices_Equal_int_int.l0 (k + 1) y0 y1 y2 y3))
 | 0 => fun _ _ _ _ r h => by simp [slices_Equal_int_int.l0] at h
 | k + 1 => by
  have ih0:=slices_Equal_int_int.mono_l k
  ·intro y0 y1 y2 y3
   unfold slices_Equal_int_int.l0
   repeat' first
   | (with_reducible exact ih0 _ _ _ _)
   | (with_reducible exact LeO.refl _)
   | (with_reducible exact LeO.none _)
   | (with_reducible refine LeO.ite ?_ ?_)
   | (with_reducible refine LeO.bind ?_ (fun _ => ?_))
   | exact ih0 _ _ _ _
   | exact LeO.none _
   | refine LeO.ite ?_ ?_
   | refine LeO.bind ?_ (fun _ => ?_)
theorem slices_Equal_int_int.mono : ∀ a0 a1 k,LeO (slices_Equal_int_int.f k a0 a1) (slices_Equal_int_int.f (k + 1) a0 a1):=by
 intro a0 a1 k
 have ih0:=slices_Equal_int_int.mono_l k
 unfold slices_Equal_int_int.f
 repeat' first
   | (with_reducible exact ih0 _ _ _ _)
   | (with_reducible exact LeO.refl _)
   | (with_reducible exact LeO.none _)
   | (with_reducible refine LeO.ite ?_ ?_)
   | (with_reducible refine LeO.bind ?_ (fun _ => ?_))
   | exact ih0 _ _ _ _
   | exact LeO.none _
   | refine LeO.ite ?_ ?_
   | refine LeO.bind ?_ (fun _ => ?_)
set_option maxHeartbeats 8000000 in
set_option maxRecDepth 100000 in
theorem slices_Equal_int_int.calls (k : Nat) (A0 : Option Addr) (c0 : Nat) (l0 : List Int) (A1 : Option Addr) (c1 : Nat) (l1 : List Int) (r : Bool) (w : World) (hr0 : Kd.C (Kd.int .i64) w A0 l0.length l0) (hc0 : l0.length ≤ c0) (hr1 : Kd.C (Kd.int .i64) w A1 l1.length l1) (hc1 : l1.length ≤ c1) (h : slices_Equal_int_int.f k l0 l1 = some r) :
  Calls Try.prog 102 #[.slice A0 l0.length c0,.slice A1 l1.length c1] w fun e w' => e = .returned (.bool r) ∧ Drawn0 w w':=by
 have HR0:=Aside0.mk hr0
 have HC0:=Aside0.mk hc0
 clear hr0 hc0
 have HR1:=Aside0.mk hr1
 have HC1:=Aside0.mk hc1
 clear hr1 hc1
 have H : (if (l0.length : Int) = (l1.length : Int) then (slices_Equal_int_int.l0 k l0 l1 (l0.length : Int) 0) else (some false)) = some r:=h
 clear h
 by_cases c3 : (l0.length : Int) = (l1.length : Int)
 ·rw [if_pos c3] at H
  have c3b0 : ((l0.length : Int) == (l1.length : Int)) = true:=beq_iff_eq.mpr c3
  have c3b1 : ((l0.length : Int) != (l1.length : Int)) = false:=bne_eq_false_iff_eq.mpr c3
  have c3b2 : (l0.length == l1.length) = true:=by first|simpa using c3|(simp at c3 ⊢;omega)
  clear c3
  have H':=Aside0.mk H
  clear H
  go_enter Try.func102,Try.ntmps102
  go_wp2
  repeat (go_quiet (fail);try go_wp2)
  go_loopg [13] k (fun kq v13 w' => ∃ (x13_1 : Int),v13 = .int .i64 x13_1 ∧ Aside0 (slices_Equal_int_int.l0 kq l0 l1 (l0.length : Int) x13_1 = some r) ∧ Aside0 (kq ≤ k) ∧ Drawn0 w w')
  case atStart => exact ⟨(0),(by first|rfl|(simp;done)|(simp [*];done)),H',⟨Nat.le_refl _⟩,by repeat (first|exact Drawn0.refl _|apply Drawn0.step)⟩
  case round =>
   clear H'
   try clear c1
   try clear p2
   try clear c3
   try clear c3b0
   try clear c3b1
   try clear c3b2
   obtain ⟨x13_1,rfl,HA,HK1,⟨m1,rfl⟩⟩:=hrel
   cases gk with
   | zero => exact absurd HA.out (by simp [slices_Equal_int_int.l0])
   | succ k1 =>
    have H:=HA.out
    clear HA
    simp only [slices_Equal_int_int.l0] at H
    by_cases c4 : x13_1 < (l0.length : Int)
    ·rw [if_pos c4] at H
     have c4b0 : decide (x13_1 < (l0.length : Int)) = true:=decide_eq_true c4
     clear c4
     by_cases c5 : 0 ≤ x13_1
     ·rw [if_pos c5] at H
      have c5b0 : decide (0 ≤ x13_1) = true:=decide_eq_true c5
      clear c5
      by_cases c6 : x13_1 < (l0.length : Int)
      ·rw [if_pos c6] at H
       have c6b0 : decide (x13_1 < (l0.length : Int)) = true:=decide_eq_true c6
       clear c6
       by_cases c7 : x13_1 < (l1.length : Int)
       ·rw [if_pos c7] at H
        have c7b0 : decide (x13_1 < (l1.length : Int)) = true:=decide_eq_true c7
        clear c7
        by_cases c8 : (rd l0 x13_1) = (rd l1 x13_1)
        ·rw [if_pos c8] at H
         have c8b0 : ((rd l0 x13_1) == (rd l1 x13_1)) = true:=beq_iff_eq.mpr c8
         have c8b1 : ((rd l0 x13_1) != (rd l1 x13_1)) = false:=bne_eq_false_iff_eq.mpr c8
         clear c8
         have H':=Aside0.mk H
         clear H
         have p307 : 0 ≤ (x13_1 : Int):=of_decide_eq_true (by first|(with_reducible assumption)|assumption)
         have q307 : x13_1 < (l0.length : Int):=of_decide_eq_true (by first|(with_reducible assumption)|assumption)
         obtain ⟨ad307,e307,hx307_0⟩:=Kd.at_int HR0.out x13_1 p307 q307
         cases e307
         replace p307:=eq_true p307
         replace q307:=eq_true q307
         have p308 : 0 ≤ (x13_1 : Int):=of_decide_eq_true (by first|(with_reducible assumption)|assumption)
         have q308 : x13_1 < (l1.length : Int):=of_decide_eq_true (by first|(with_reducible assumption)|assumption)
         obtain ⟨ad308,e308,hx308_0⟩:=Kd.at_int HR1.out x13_1 p308 q308
         cases e308
         replace p308:=eq_true p308
         replace q308:=eq_true q308
         go_wp2
         repeat (go_quiet (fail);try go_wp2)
         go_roundg k1
         case measure => have:=HK1.out;omega
         case rel => exact ⟨(wrap64 (x13_1 + 1)),(by first|rfl|(simp;done)|(simp [*];done)),H',⟨by have:=HK1.out;omega⟩,by repeat (first|exact Drawn0.refl _|apply Drawn0.step)⟩
        ·rw [if_neg c8] at H
         have c8b0 : ((rd l0 x13_1) == (rd l1 x13_1)) = false:=beq_eq_false_iff_ne.mpr c8
         have c8b1 : ((rd l0 x13_1) != (rd l1 x13_1)) = true:=bne_iff_ne.mpr c8
         obtain rfl:=Option.some.inj H
         have p307 : 0 ≤ (x13_1 : Int):=of_decide_eq_true (by first|(with_reducible assumption)|assumption)
         have q307 : x13_1 < (l0.length : Int):=of_decide_eq_true (by first|(with_reducible assumption)|assumption)
         obtain ⟨ad307,e307,hx307_0⟩:=Kd.at_int HR0.out x13_1 p307 q307
         cases e307
         replace p307:=eq_true p307
         replace q307:=eq_true q307
         have p308 : 0 ≤ (x13_1 : Int):=of_decide_eq_true (by first|(with_reducible assumption)|assumption)
         have q308 : x13_1 < (l1.length : Int):=of_decide_eq_true (by first|(with_reducible assumption)|assumption)
         obtain ⟨ad308,e308,hx308_0⟩:=Kd.at_int HR1.out x13_1 p308 q308
         cases e308
         replace p308:=eq_true p308
         replace q308:=eq_true q308
         go_wp2
         repeat (go_quiet (fail);try go_wp2)
         go_ret
         exact ⟨by first|rfl|(simp;done)|(simp [*];done),by repeat (first|exact Drawn0.refl _|apply Drawn0.step)⟩
       ·rw [if_neg c7] at H
        exact absurd H (by simp)
      ·rw [if_neg c6] at H
       exact absurd H (by simp)
     ·rw [if_neg c5] at H
      exact absurd H (by simp)
    ·rw [if_neg c4] at H
     have c4b0 : decide (x13_1 < (l0.length : Int)) = false:=decide_eq_false c4
     clear c4
     obtain rfl:=Option.some.inj H
     go_wp2
     repeat (go_quiet (fail);try go_wp2)
     go_ret
     exact ⟨by first|rfl|(simp;done)|(simp [*];done),by repeat (first|exact Drawn0.refl _|apply Drawn0.step)⟩
 ·rw [if_neg c3] at H
  have c3b0 : ((l0.length : Int) == (l1.length : Int)) = false:=beq_eq_false_iff_ne.mpr c3
  have c3b1 : ((l0.length : Int) != (l1.length : Int)) = true:=bne_iff_ne.mpr c3
  have c3b2 : (l0.length == l1.length) = false:=by first|simpa using c3|(simp at c3 ⊢;omega)
  obtain rfl:=Option.some.inj H
  go_enter Try.func102,Try.ntmps102
  go_wp2
  repeat (go_quiet (fail);try go_wp2)
  go_ret
  exact ⟨by first|rfl|(simp;done)|(simp [*];done),by repeat (first|exact Drawn0.refl _|apply Drawn0.step)⟩
end Go.Proofs.Ytengegdaiphfeaa.X
end
section
namespace Go.Proofs.Ytengegdaiphfeaa.X
open Go.RowKit Go.Proofs.YtengegdaiphfeaaW.PrintWords Go.Proofs.YtengegdaiphfeaaW.PrintLast Go.Proofs.YtengegdaiphfeaaW.PrintMore
attribute [local go_sem] max2_int min2_int max_two min_two max_three min_three max_four min_four
set_option linter.unusedVariables false
set_option linter.unusedSimpArgs false
def impl_SameMatrix.f (k : Nat) (a0_0 : Int) (l0_1 : List Int) (a1_0 : Int) (l1_1 : List Int) : Option (Bool):=if a0_0 = a1_0 then ((slices_Equal_int_int.f k l0_1 l1_1).bind fun t311 => (some t311)) else (some false)
theorem impl_SameMatrix.mono : ∀ a0 a1 a2 a3 k,LeO (impl_SameMatrix.f k a0 a1 a2 a3) (impl_SameMatrix.f (k + 1) a0 a1 a2 a3):=by
 intro a0 a1 a2 a3 k
 unfold impl_SameMatrix.f
 repeat' first
   | (with_reducible exact slices_Equal_int_int.mono _ _ _)
   | (with_reducible exact LeO.refl _)
   | (with_reducible exact LeO.none _)
   | (with_reducible refine LeO.ite ?_ ?_)
   | (with_reducible refine LeO.bind ?_ (fun _ => ?_))
   | exact slices_Equal_int_int.mono _ _ _
   | exact LeO.none _
   | refine LeO.ite ?_ ?_
   | refine LeO.bind ?_ (fun _ => ?_)
set_option maxHeartbeats 8000000 in
set_option maxRecDepth 100000 in
theorem impl_SameMatrix.calls (k : Nat) (a0_0 : Int) (A0_1 : Option Addr) (c0_1 : Nat) (l0_1 : List Int) (a1_0 : Int) (A1_1 : Option Addr) (c1_1 : Nat) (l1_1 : List Int) (r : Bool) (w : World) (hr0_1 : Kd.C (Kd.int .i64) w A0_1 l0_1.length l0_1) (hc0_1 : l0_1.length ≤ c0_1) (hr1_1 : Kd.C (Kd.int .i64) w A1_1 l1_1.length l1_1) (hc1_1 : l1_1.length ≤ c1_1) (h : impl_SameMatrix.f k a0_0 l0_1 a1_0 l1_1 = some r) :
  Calls Try.prog 67 #[.agg #[.int .i64 a0_0,.slice A0_1 l0_1.length c0_1],.agg #[.int .i64 a1_0,.slice A1_1 l1_1.length c1_1]] w fun e w' => e = .returned (.bool r) ∧ Below w.heap.size w w':=by
 have hu28:=Try.underlying28
 have HR0_1:=Aside0.mk hr0_1
 have HC0_1:=Aside0.mk hc0_1
 clear hr0_1 hc0_1
 have HR1_1:=Aside0.mk hr1_1
 have HC1_1:=Aside0.mk hc1_1
 clear hr1_1 hc1_1
 have HB:=Aside0.mk (Below.refl w.heap.size w)
 have H : (if a0_0 = a1_0 then ((slices_Equal_int_int.f k l0_1 l1_1).bind fun t311 => (some t311)) else (some false)) = some r:=h
 clear h
 by_cases c3 : a0_0 = a1_0
 ·rw [if_pos c3] at H
  have c3b0 : (a0_0 == a1_0) = true:=beq_iff_eq.mpr c3
  have c3b1 : (a0_0 != a1_0) = false:=bne_eq_false_iff_eq.mpr c3
  clear c3
  replace H:=Option.bind_eq_some_iff.mp H
  obtain ⟨t311,A40,H⟩:=H
  replace H : (some t311) = some r:=H
  have A4:=Aside0.mk A40
  clear A40
  obtain rfl:=Option.some.inj H
  go_enter Try.func67,Try.ntmps67
  go_wp2_with (first|((with_reducible refine gate_dst (N:=2) rfl ?_);refine box_event ?hg (N:=2) ?hd (cs:=#[.int .i64 a0_0,.slice A0_1 l0_1.length c0_1]) (t:=28) ?hr ?_;(case hd => rfl);(case hg => rfl);(case hr => first|(go_simp;done)|(go_simp;rfl));intro gb309 hg w5 hbox hb;have n0_:=Aside0.mk (below_step (be0_ HB.out) hb);have n1_:=Aside0.mk (hbox);have n2_:=Aside0.mk ((by rw [hg];exact (below_size (be0_ HB.out)) : w.heap.size ≤ gb309));have n3_:=Aside0.mk ((by rw [hg];exact (below_size (be0_ HB.out)) : w.heap.size ≤ gb309));clear HB;have HB:=n0_;have BK309:=n1_;have GW309:=n2_;have GE309:=n3_;clear n0_ n1_ n2_ n3_;clear hb hbox hg)|((with_reducible refine gate_dst (N:=3) rfl ?_);refine box_event ?hg (N:=3) ?hd (cs:=#[.int .i64 a1_0,.slice A1_1 l1_1.length c1_1]) (t:=28) ?hr ?_;(case hd => rfl);(case hg => rfl);(case hr => first|(go_simp;done)|(go_simp;rfl));intro gb310 hg w6 hbox hb;have n0_:=Aside0.mk (blk_below (g:=gb309) (o:=.cells #[.int .i64 a0_0,.slice A0_1 l0_1.length c0_1] 28 (0,0)) (pe_ BK309.out) hb);have n1_:=Aside0.mk (below_step (be1_ HB.out GE309.out) hb);have n2_:=Aside0.mk (hbox);have n3_:=Aside0.mk ((by rw [hg];exact (below_size (be1_ HB.out GE309.out)) : w.heap.size ≤ gb310));have n4_:=Aside0.mk ((by rw [hg];exact (below_size (be1_ HB.out GE309.out)) : w.heap.size ≤ gb310));have n5_:=Aside0.mk ((by rw [hg];exact Nat.ne_of_lt (blk_lt (g:=gb309) (o:=.cells #[.int .i64 a0_0,.slice A0_1 l0_1.length c0_1] 28 (0,0)) (pe_ BK309.out)) : gb309 ≠ gb310));have n6_:=Aside0.mk ((by rw [hg];exact Nat.ne_of_gt (blk_lt (g:=gb309) (o:=.cells #[.int .i64 a0_0,.slice A0_1 l0_1.length c0_1] 28 (0,0)) (pe_ BK309.out)) : gb310 ≠ gb309));clear BK309;clear HB;have BK309:=n0_;have HB:=n1_;have BK310:=n2_;have GW310:=n3_;have GE310:=n4_;have NB309_310:=n5_;have NB310_309:=n6_;clear n0_ n1_ n2_ n3_ n4_ n5_ n6_;clear hb hbox hg;have hnb7:=NB309_310.out;have hnc7:=NB310_309.out;have hcz8_0 : w6.cell? ⟨gb309,0,none⟩ = some (.int .i64 a0_0):=(blk_cell BK309.out 0).trans rfl;have hcz8_1 : w6.cell? ⟨gb309,1,none⟩ = some (.slice A0_1 l0_1.length c0_1):=(blk_cell BK309.out 1).trans rfl;have hfz8_0:=blk_frozen BK309.out 0;have hfz8_1:=blk_frozen BK309.out 1;have hcz9_0 : w6.cell? ⟨gb310,0,none⟩ = some (.int .i64 a1_0):=(blk_cell BK310.out 0).trans rfl;have hcz9_1 : w6.cell? ⟨gb310,1,none⟩ = some (.slice A1_1 l1_1.length c1_1):=(blk_cell BK310.out 1).trans rfl;have hfz9_0:=blk_frozen BK310.out 0;have hfz9_1:=blk_frozen BK310.out 1)|(go_at_call 102;(with_reducible refine (slices_Equal_int_int.calls k _ _ l0_1 _ _ l1_1 t311 _ ?side1 ?side2 ?side3 ?side4 A4.out).mono ?_);(case side1 => repeat (first|exact (Kd.C_below HR0_1.out HB.out)|(with_reducible refine Kd.C_alloc ?_ _)|(with_reducible refine Kd.C_drewN ?_ _)|(with_reducible refine Kd.C_drew ?_)));(case side2 => exact HC0_1.out);(case side3 => repeat (first|exact (Kd.C_below HR1_1.out HB.out)|(with_reducible refine Kd.C_alloc ?_ _)|(with_reducible refine Kd.C_drewN ?_ _)|(with_reducible refine Kd.C_drew ?_)));(case side4 => exact HC1_1.out);rintro e w' ⟨rfl,⟨nd,rfl⟩⟩))
  go_ret
  exact ⟨by first|rfl|(simp [errW_none,errW_some] <;> rfl)|(simp [*,errW_none,errW_some] <;> rfl),be2_ HB.out GE309.out GE310.out⟩
 ·rw [if_neg c3] at H
  have c3b0 : (a0_0 == a1_0) = false:=beq_eq_false_iff_ne.mpr c3
  have c3b1 : (a0_0 != a1_0) = true:=bne_iff_ne.mpr c3
  obtain rfl:=Option.some.inj H
  go_enter Try.func67,Try.ntmps67
  go_wp2_with (first|((with_reducible refine gate_dst (N:=2) rfl ?_);refine box_event ?hg (N:=2) ?hd (cs:=#[.int .i64 a0_0,.slice A0_1 l0_1.length c0_1]) (t:=28) ?hr ?_;(case hd => rfl);(case hg => rfl);(case hr => first|(go_simp;done)|(go_simp;rfl));intro gb309 hg w10 hbox hb;have n0_:=Aside0.mk (below_step (be0_ HB.out) hb);have n1_:=Aside0.mk (hbox);have n2_:=Aside0.mk ((by rw [hg];exact (below_size (be0_ HB.out)) : w.heap.size ≤ gb309));have n3_:=Aside0.mk ((by rw [hg];exact (below_size (be0_ HB.out)) : w.heap.size ≤ gb309));clear HB;have HB:=n0_;have BK309:=n1_;have GW309:=n2_;have GE309:=n3_;clear n0_ n1_ n2_ n3_;clear hb hbox hg)|((with_reducible refine gate_dst (N:=3) rfl ?_);refine box_event ?hg (N:=3) ?hd (cs:=#[.int .i64 a1_0,.slice A1_1 l1_1.length c1_1]) (t:=28) ?hr ?_;(case hd => rfl);(case hg => rfl);(case hr => first|(go_simp;done)|(go_simp;rfl));intro gb310 hg w11 hbox hb;have n0_:=Aside0.mk (blk_below (g:=gb309) (o:=.cells #[.int .i64 a0_0,.slice A0_1 l0_1.length c0_1] 28 (0,0)) (pe_ BK309.out) hb);have n1_:=Aside0.mk (below_step (be1_ HB.out GE309.out) hb);have n2_:=Aside0.mk (hbox);have n3_:=Aside0.mk ((by rw [hg];exact (below_size (be1_ HB.out GE309.out)) : w.heap.size ≤ gb310));have n4_:=Aside0.mk ((by rw [hg];exact (below_size (be1_ HB.out GE309.out)) : w.heap.size ≤ gb310));have n5_:=Aside0.mk ((by rw [hg];exact Nat.ne_of_lt (blk_lt (g:=gb309) (o:=.cells #[.int .i64 a0_0,.slice A0_1 l0_1.length c0_1] 28 (0,0)) (pe_ BK309.out)) : gb309 ≠ gb310));have n6_:=Aside0.mk ((by rw [hg];exact Nat.ne_of_gt (blk_lt (g:=gb309) (o:=.cells #[.int .i64 a0_0,.slice A0_1 l0_1.length c0_1] 28 (0,0)) (pe_ BK309.out)) : gb310 ≠ gb309));clear BK309;clear HB;have BK309:=n0_;have HB:=n1_;have BK310:=n2_;have GW310:=n3_;have GE310:=n4_;have NB309_310:=n5_;have NB310_309:=n6_;clear n0_ n1_ n2_ n3_ n4_ n5_ n6_;clear hb hbox hg;have hnb12:=NB309_310.out;have hnc12:=NB310_309.out;have hcz13_0 : w11.cell? ⟨gb309,0,none⟩ = some (.int .i64 a0_0):=(blk_cell BK309.out 0).trans rfl;have hcz13_1 : w11.cell? ⟨gb309,1,none⟩ = some (.slice A0_1 l0_1.length c0_1):=(blk_cell BK309.out 1).trans rfl;have hfz13_0:=blk_frozen BK309.out 0;have hfz13_1:=blk_frozen BK309.out 1;have hcz14_0 : w11.cell? ⟨gb310,0,none⟩ = some (.int .i64 a1_0):=(blk_cell BK310.out 0).trans rfl;have hcz14_1 : w11.cell? ⟨gb310,1,none⟩ = some (.slice A1_1 l1_1.length c1_1):=(blk_cell BK310.out 1).trans rfl;have hfz14_0:=blk_frozen BK310.out 0;have hfz14_1:=blk_frozen BK310.out 1))
  go_ret
  exact ⟨by first|rfl|(simp [errW_none,errW_some] <;> rfl)|(simp [*,errW_none,errW_some] <;> rfl),be2_ HB.out GE309.out GE310.out⟩
end Go.Proofs.Ytengegdaiphfeaa.X
end
section
namespace Go.Proofs.Ytengegdaiphfeaa.X
open Go.RowKit Go.Proofs.YtengegdaiphfeaaW.PrintWords Go.Proofs.YtengegdaiphfeaaW.PrintLast Go.Proofs.YtengegdaiphfeaaW.PrintMore
attribute [local go_sem] max2_int min2_int max_two min_two max_three min_three max_four min_four
set_option linter.unusedVariables false
set_option linter.unusedSimpArgs false
def impl_IsIdempotent.f (k : Nat) (a0_0 : Int) (l0_1 : List Int) : Option (Bool):=(impl_MulGrades.f k a0_0 l0_1 a0_0 l0_1).bind fun bt313 => (if bt313.2.2 = true then ((impl_SameMatrix.f k bt313.1 bt313.2.1 a0_0 l0_1).bind fun t319 => (some t319)) else (some false))
theorem impl_IsIdempotent.mono : ∀ a0 a1 k,LeO (impl_IsIdempotent.f k a0 a1) (impl_IsIdempotent.f (k + 1) a0 a1):=by
 intro a0 a1 k
 unfold impl_IsIdempotent.f
 repeat' first
   | (with_reducible exact impl_MulGrades.mono _ _ _ _ _)
   | (with_reducible exact impl_SameMatrix.mono _ _ _ _ _)
   | (with_reducible exact LeO.refl _)
   | (with_reducible exact LeO.none _)
   | (with_reducible refine LeO.ite ?_ ?_)
   | (with_reducible refine LeO.bind ?_ (fun _ => ?_))
   | exact impl_MulGrades.mono _ _ _ _ _
   | exact impl_SameMatrix.mono _ _ _ _ _
   | exact LeO.none _
   | refine LeO.ite ?_ ?_
   | refine LeO.bind ?_ (fun _ => ?_)
set_option maxHeartbeats 8000000 in
set_option maxRecDepth 100000 in
theorem impl_IsIdempotent.calls (k : Nat) (a0_0 : Int) (A0_1 : Option Addr) (c0_1 : Nat) (l0_1 : List Int) (r : Bool) (w : World) (hr0_1 : Kd.C (Kd.int .i64) w A0_1 l0_1.length l0_1) (hc0_1 : l0_1.length ≤ c0_1) (h : impl_IsIdempotent.f k a0_0 l0_1 = some r) :
  Calls Try.prog 25 #[.agg #[.int .i64 a0_0,.slice A0_1 l0_1.length c0_1]] w fun e w' => e = .returned (.bool r) ∧ Below w.heap.size w w':=by
 have hu28:=Try.underlying28
 have HR0_1:=Aside0.mk hr0_1
 have HC0_1:=Aside0.mk hc0_1
 clear hr0_1 hc0_1
 have HB:=Aside0.mk (Below.refl w.heap.size w)
 have H : ((impl_MulGrades.f k a0_0 l0_1 a0_0 l0_1).bind fun bt313 => (if bt313.2.2 = true then ((impl_SameMatrix.f k bt313.1 bt313.2.1 a0_0 l0_1).bind fun t319 => (some t319)) else (some false))) = some r:=h
 clear h
 replace H:=Option.bind_eq_some_iff.mp H
 obtain ⟨⟨t313,t314,t317⟩,A20,H⟩:=H
 replace H : (if t317 = true then ((impl_SameMatrix.f k t313 t314 a0_0 l0_1).bind fun t319 => (some t319)) else (some false)) = some r:=H
 have A2:=Aside0.mk A20
 clear A20
 by_cases c3 : t317 = true
 ·subst c3
  have H1 : ((impl_SameMatrix.f k t313 t314 a0_0 l0_1).bind fun t319 => (some t319)) = some r:=by rw [if_pos rfl] at H;exact H
  clear H
  have H:=H1
  clear H1
  replace H:=Option.bind_eq_some_iff.mp H
  obtain ⟨t319,A40,H⟩:=H
  replace H : (some t319) = some r:=H
  have A4:=Aside0.mk A40
  clear A40
  obtain rfl:=Option.some.inj H
  go_enter Try.func25,Try.ntmps25
  go_wp2_with (first|((with_reducible refine gate_dst (N:=1) rfl ?_);refine box_event ?hg (N:=1) ?hd (cs:=#[.int .i64 a0_0,.slice A0_1 l0_1.length c0_1]) (t:=28) ?hr ?_;(case hd => rfl);(case hg => rfl);(case hr => first|(go_simp;done)|(go_simp;rfl));intro gb312 hg w5 hbox hb;have n0_:=Aside0.mk (below_step (be0_ HB.out) hb);have n1_:=Aside0.mk (hbox);have n2_:=Aside0.mk ((by rw [hg];exact (below_size (be0_ HB.out)) : w.heap.size ≤ gb312));have n3_:=Aside0.mk ((by rw [hg];exact (below_size (be0_ HB.out)) : w.heap.size ≤ gb312));clear HB;have HB:=n0_;have BK312:=n1_;have GW312:=n2_;have GE312:=n3_;clear n0_ n1_ n2_ n3_;clear hb hbox hg;have hcz6_0 : w5.cell? ⟨gb312,0,none⟩ = some (.int .i64 a0_0):=(blk_cell BK312.out 0).trans rfl;have hcz6_1 : w5.cell? ⟨gb312,1,none⟩ = some (.slice A0_1 l0_1.length c0_1):=(blk_cell BK312.out 1).trans rfl;have hfz6_0:=blk_frozen BK312.out 0;have hfz6_1:=blk_frozen BK312.out 1)|((with_reducible refine gate_callee (f:=27) rfl ?_);refine goesL_ (some 8) rfl rfl Try.func27 (by kernel_rfl) rfl #[.agg #[.int .i64 a0_0,.slice A0_1 l0_1.length c0_1],.agg #[.int .i64 a0_0,.slice A0_1 l0_1.length c0_1]] rfl lp_ ?_;(with_reducible refine (impl_MulGrades.calls k a0_0 _ _ l0_1 a0_0 _ _ l0_1 t313 t314 true _ ?side1 ?side2 ?side3 ?side4 A2.out).mono ?_);(case side1 => repeat (first|exact (Kd.C_below HR0_1.out HB.out)|(with_reducible refine Kd.C_alloc ?_ _)|(with_reducible refine Kd.C_drewN ?_ _)|(with_reducible refine Kd.C_drew ?_)));(case side2 => exact HC0_1.out);(case side3 => repeat (first|exact (Kd.C_below HR0_1.out HB.out)|(with_reducible refine Kd.C_alloc ?_ _)|(with_reducible refine Kd.C_drewN ?_ _)|(with_reducible refine Kd.C_drew ?_)));(case side4 => exact HC0_1.out);rintro e w7 ⟨v315,rfl,ho0,hb⟩;refine ⟨_,rfl,?_⟩;have n0_:=Aside0.mk (Kd.R_lower ho0 (below_size (be1_ HB.out GE312.out)));have n1_:=Aside0.mk (blk_below (g:=gb312) (o:=.cells #[.int .i64 a0_0,.slice A0_1 l0_1.length c0_1] 28 (0,0)) (pe_ BK312.out) hb);have n2_:=Aside0.mk (below_step (be1_ HB.out GE312.out) hb);clear BK312;clear HB;have HO316:=n0_;have BK312:=n1_;have HB:=n2_;clear n0_ n1_ n2_;(try clear hb);(try clear hb2);(try clear hk);(try clear hi);(try clear ho0))|((with_reducible refine gate_dst (N:=3) rfl ?_);refine box_event ?hg (N:=3) ?hd (cs:=#[.int .i64 0,.slice none 0 0]) (t:=28) ?hr ?_;(case hd => rfl);(case hg => rfl);(case hr => first|(go_simp;done)|(go_simp;rfl));intro gb318 hg w8 hbox hb;have n0_:=Aside0.mk (Kd.R_below (pr_ HO316.out) hb);have n1_:=Aside0.mk (blk_below (g:=gb312) (o:=.cells #[.int .i64 a0_0,.slice A0_1 l0_1.length c0_1] 28 (0,0)) (pe_ BK312.out) hb);have n2_:=Aside0.mk (below_step (be1_ HB.out GE312.out) hb);have n3_:=Aside0.mk (hbox);have n4_:=Aside0.mk ((by rw [hg];exact (below_size (be1_ HB.out GE312.out)) : w.heap.size ≤ gb318));have n5_:=Aside0.mk ((by rw [hg];exact (below_size (be1_ HB.out GE312.out)) : w.heap.size ≤ gb318));have n6_:=Aside0.mk ((by rw [hg];exact Nat.ne_of_lt (blk_lt (g:=gb312) (o:=.cells #[.int .i64 a0_0,.slice A0_1 l0_1.length c0_1] 28 (0,0)) (pe_ BK312.out)) : gb312 ≠ gb318));have n7_:=Aside0.mk ((by rw [hg];exact Nat.ne_of_gt (blk_lt (g:=gb312) (o:=.cells #[.int .i64 a0_0,.slice A0_1 l0_1.length c0_1] 28 (0,0)) (pe_ BK312.out)) : gb318 ≠ gb312));clear HO316;clear BK312;clear HB;have HO316:=n0_;have BK312:=n1_;have HB:=n2_;have BK318:=n3_;have GW318:=n4_;have GE318:=n5_;have NB312_318:=n6_;have NB318_312:=n7_;clear n0_ n1_ n2_ n3_ n4_ n5_ n6_ n7_;clear hb hbox hg;have hnb9:=NB318_312.out;have hnc9:=NB312_318.out;have hcz10_0 : w8.cell? ⟨gb318,0,none⟩ = some (.int .i64 0):=(blk_cell BK318.out 0).trans rfl;have hcz10_1 : w8.cell? ⟨gb318,1,none⟩ = some (.slice none 0 0):=(blk_cell BK318.out 1).trans rfl;have hfz10_0:=blk_frozen BK318.out 0;have hfz10_1:=blk_frozen BK318.out 1;obtain ⟨Ao11,co11,eo11⟩:=Kd.R_slice HO316.out;subst eo11;have hcz12_0 : w8.cell? ⟨gb312,0,none⟩ = some (.int .i64 a0_0):=(blk_cell BK312.out 0).trans rfl;have hcz12_1 : w8.cell? ⟨gb312,1,none⟩ = some (.slice A0_1 l0_1.length c0_1):=(blk_cell BK312.out 1).trans rfl;have hfz12_0:=blk_frozen BK312.out 0;have hfz12_1:=blk_frozen BK312.out 1)|(go_at_call 67;(with_reducible refine (impl_SameMatrix.calls k t313 _ _ t314 a0_0 _ _ l0_1 t319 _ ?side1 ?side2 ?side3 ?side4 A4.out).mono ?_);(case side1 => refine (Kd.R_reads' (e:=3) (base:=w.heap.size) (ok:=fun k_ => True) (n:=t314.length) (c:=co11) ?_).2.2;exact (by refine pr_ ?_;exact (Kd.R_mono (Kd.R_far (p:=⟨gb318,1,none⟩) (Kd.R_far (p:=⟨gb318,0,none⟩) (Kd.R_types HO316.out BK318.out (by decide)) (fun _ hk => hk.2) (.int .i64 t313)) (fun _ hk => hk.2) (.slice Ao11 t314.length co11)) (fun _ h_ => h_.1))));(case side2 => exact (Kd.R_reads' HO316.out).2.1);(case side3 => exact Kd.C_below HR0_1.out (be2_ HB.out GE312.out GE318.out));(case side4 => exact HC0_1.out);rintro e w13 ⟨rfl,hb⟩;have n0_:=Aside0.mk (Kd.R_below (by refine pr_ ?_;exact (Kd.R_mono (Kd.R_far (p:=⟨gb318,1,none⟩) (Kd.R_far (p:=⟨gb318,0,none⟩) (Kd.R_types HO316.out BK318.out (by decide)) (fun _ hk => hk.2) (.int .i64 t313)) (fun _ hk => hk.2) (.slice Ao11 t314.length co11)) (fun _ h_ => h_.1))) hb);have n1_:=Aside0.mk (blk_below (g:=gb312) (o:=.cells #[.int .i64 a0_0,.slice A0_1 l0_1.length c0_1] 28 (0,0)) (by refine pe_ ?_;refine blk_far ?_ NB312_318.out _;refine pe_ ?_;refine blk_far ?_ NB312_318.out _;refine pe_ ?_;exact BK312.out) hb);have n2_:=Aside0.mk (blk_below (g:=gb318) (o:=.cells #[.int .i64 t313,.slice Ao11 t314.length co11] 28 (0,0)) (by refine pe_ ?_;refine blk_put (cs:=#[.int .i64 t313,.slice none 0 0]) ?_ 1 _ rfl;refine pe_ ?_;refine blk_put (cs:=#[.int .i64 0,.slice none 0 0]) ?_ 0 _ rfl;refine pe_ ?_;exact BK318.out) hb);have n3_:=Aside0.mk (below_step (be2_ HB.out GE312.out GE318.out) hb);clear HO316;clear BK312;clear BK318;clear HB;have HO316:=n0_;have BK312:=n1_;have BK318:=n2_;have HB:=n3_;clear n0_ n1_ n2_ n3_;(try clear hb);(try clear hb2);(try clear hk);(try clear hi)))
  go_ret
  exact ⟨by first|rfl|(simp [errW_none,errW_some] <;> rfl)|(simp [*,errW_none,errW_some] <;> rfl),be2_ HB.out GE312.out GE318.out⟩
 ·replace c3:=Bool.eq_false_iff.mpr c3
  subst c3
  have H1 : (some false) = some r:=by rw [if_neg (show ¬ (false = true) by decide)] at H;exact H
  clear H
  have H:=H1
  clear H1
  obtain rfl:=Option.some.inj H
  go_enter Try.func25,Try.ntmps25
  go_wp2_with (first|((with_reducible refine gate_dst (N:=1) rfl ?_);refine box_event ?hg (N:=1) ?hd (cs:=#[.int .i64 a0_0,.slice A0_1 l0_1.length c0_1]) (t:=28) ?hr ?_;(case hd => rfl);(case hg => rfl);(case hr => first|(go_simp;done)|(go_simp;rfl));intro gb312 hg w14 hbox hb;have n0_:=Aside0.mk (below_step (be0_ HB.out) hb);have n1_:=Aside0.mk (hbox);have n2_:=Aside0.mk ((by rw [hg];exact (below_size (be0_ HB.out)) : w.heap.size ≤ gb312));have n3_:=Aside0.mk ((by rw [hg];exact (below_size (be0_ HB.out)) : w.heap.size ≤ gb312));clear HB;have HB:=n0_;have BK312:=n1_;have GW312:=n2_;have GE312:=n3_;clear n0_ n1_ n2_ n3_;clear hb hbox hg;have hcz15_0 : w14.cell? ⟨gb312,0,none⟩ = some (.int .i64 a0_0):=(blk_cell BK312.out 0).trans rfl;have hcz15_1 : w14.cell? ⟨gb312,1,none⟩ = some (.slice A0_1 l0_1.length c0_1):=(blk_cell BK312.out 1).trans rfl;have hfz15_0:=blk_frozen BK312.out 0;have hfz15_1:=blk_frozen BK312.out 1)|((with_reducible refine gate_callee (f:=27) rfl ?_);refine goesL_ (some 8) rfl rfl Try.func27 (by kernel_rfl) rfl #[.agg #[.int .i64 a0_0,.slice A0_1 l0_1.length c0_1],.agg #[.int .i64 a0_0,.slice A0_1 l0_1.length c0_1]] rfl lp_ ?_;(with_reducible refine (impl_MulGrades.calls k a0_0 _ _ l0_1 a0_0 _ _ l0_1 t313 t314 false _ ?side1 ?side2 ?side3 ?side4 A2.out).mono ?_);(case side1 => repeat (first|exact (Kd.C_below HR0_1.out HB.out)|(with_reducible refine Kd.C_alloc ?_ _)|(with_reducible refine Kd.C_drewN ?_ _)|(with_reducible refine Kd.C_drew ?_)));(case side2 => exact HC0_1.out);(case side3 => repeat (first|exact (Kd.C_below HR0_1.out HB.out)|(with_reducible refine Kd.C_alloc ?_ _)|(with_reducible refine Kd.C_drewN ?_ _)|(with_reducible refine Kd.C_drew ?_)));(case side4 => exact HC0_1.out);rintro e w16 ⟨v315,rfl,ho0,hb⟩;refine ⟨_,rfl,?_⟩;have n0_:=Aside0.mk (Kd.R_lower ho0 (below_size (be1_ HB.out GE312.out)));have n1_:=Aside0.mk (blk_below (g:=gb312) (o:=.cells #[.int .i64 a0_0,.slice A0_1 l0_1.length c0_1] 28 (0,0)) (pe_ BK312.out) hb);have n2_:=Aside0.mk (below_step (be1_ HB.out GE312.out) hb);clear BK312;clear HB;have HO316:=n0_;have BK312:=n1_;have HB:=n2_;clear n0_ n1_ n2_;(try clear hb);(try clear hb2);(try clear hk);(try clear hi);(try clear ho0))|((with_reducible refine gate_dst (N:=3) rfl ?_);refine box_event ?hg (N:=3) ?hd (cs:=#[.int .i64 0,.slice none 0 0]) (t:=28) ?hr ?_;(case hd => rfl);(case hg => rfl);(case hr => first|(go_simp;done)|(go_simp;rfl));intro gb318 hg w17 hbox hb;have n0_:=Aside0.mk (Kd.R_below (pr_ HO316.out) hb);have n1_:=Aside0.mk (blk_below (g:=gb312) (o:=.cells #[.int .i64 a0_0,.slice A0_1 l0_1.length c0_1] 28 (0,0)) (pe_ BK312.out) hb);have n2_:=Aside0.mk (below_step (be1_ HB.out GE312.out) hb);have n3_:=Aside0.mk (hbox);have n4_:=Aside0.mk ((by rw [hg];exact (below_size (be1_ HB.out GE312.out)) : w.heap.size ≤ gb318));have n5_:=Aside0.mk ((by rw [hg];exact (below_size (be1_ HB.out GE312.out)) : w.heap.size ≤ gb318));have n6_:=Aside0.mk ((by rw [hg];exact Nat.ne_of_lt (blk_lt (g:=gb312) (o:=.cells #[.int .i64 a0_0,.slice A0_1 l0_1.length c0_1] 28 (0,0)) (pe_ BK312.out)) : gb312 ≠ gb318));have n7_:=Aside0.mk ((by rw [hg];exact Nat.ne_of_gt (blk_lt (g:=gb312) (o:=.cells #[.int .i64 a0_0,.slice A0_1 l0_1.length c0_1] 28 (0,0)) (pe_ BK312.out)) : gb318 ≠ gb312));clear HO316;clear BK312;clear HB;have HO316:=n0_;have BK312:=n1_;have HB:=n2_;have BK318:=n3_;have GW318:=n4_;have GE318:=n5_;have NB312_318:=n6_;have NB318_312:=n7_;clear n0_ n1_ n2_ n3_ n4_ n5_ n6_ n7_;clear hb hbox hg;have hnb18:=NB318_312.out;have hnc18:=NB312_318.out;have hcz19_0 : w17.cell? ⟨gb318,0,none⟩ = some (.int .i64 0):=(blk_cell BK318.out 0).trans rfl;have hcz19_1 : w17.cell? ⟨gb318,1,none⟩ = some (.slice none 0 0):=(blk_cell BK318.out 1).trans rfl;have hfz19_0:=blk_frozen BK318.out 0;have hfz19_1:=blk_frozen BK318.out 1;obtain ⟨Ao20,co20,eo20⟩:=Kd.R_slice HO316.out;subst eo20))
  go_ret
  exact ⟨by first|rfl|(simp [errW_none,errW_some] <;> rfl)|(simp [*,errW_none,errW_some] <;> rfl),be2_ HB.out GE312.out GE318.out⟩
end Go.Proofs.Ytengegdaiphfeaa.X
end
section
namespace Go.Proofs.Ytengegdaiphfeaa.X
open Go.RowKit Go.Proofs.YtengegdaiphfeaaW.PrintWords Go.Proofs.YtengegdaiphfeaaW.PrintLast Go.Proofs.YtengegdaiphfeaaW.PrintMore
attribute [local go_sem] max2_int min2_int max_two min_two max_three min_three max_four min_four
set_option linter.unusedVariables false
set_option linter.unusedSimpArgs false
def impl_IdempotentOf.l0 : Nat → Int → Int → List Int → Int → List Int → Option (Int × List Int × Int × Bool)
 | 0,_,_,_,_,_ => none
 | k + 1,x6,x483000,x483001,x490000,x490001 => (impl_IsIdempotent.f k x490000 x490001).bind fun t490 => (if t490 = true then (some (x490000,x490001,x6,true)) else ((impl_MulGrades.f k x490000 x490001 x483000 x483001).bind fun bt491 => (impl_IdempotentOf.l0 k (wrap64 (x6 + 1)) x483000 x483001 bt491.1 bt491.2.1)))
def impl_IdempotentOf.f (k : Nat) (a0_0 : Int) (l0_1 : List Int) : Option (Int × List Int × Int × Bool):=(impl_GradesValid.f k a0_0 l0_1).bind fun t484 => (if t484 = true then ((impl_filled__impl_Matrix_at.f k a0_0 a0_0 l0_1).bind fun bt485 => (impl_IdempotentOf.l0 k 1 a0_0 l0_1 bt485.1 bt485.2)) else (some (0,([] : List Int),0,false)))
theorem impl_IdempotentOf.mono_l : ∀ k,(∀ y0 y1 y2 y3 y4,LeO (impl_IdempotentOf.l0 k y0 y1 y2 y3 y4) (impl_IdempotentOf.l0 (k + 1) y0 y1 y2 y3 y4))
 | 0 => fun _ _ _ _ _ r h => by simp [impl_IdempotentOf.l0] at h
 | k + 1 => by
  have ih0:=impl_IdempotentOf.mono_l k
  ·intro y0 y1 y2 y3 y4
   unfold impl_IdempotentOf.l0
   repeat' first
   | (with_reducible exact ih0 _ _ _ _ _)
   | (with_reducible exact impl_GradesValid.mono _ _ _)
   | (with_reducible exact impl_IsIdempotent.mono _ _ _)
   | (with_reducible exact impl_MulGrades.mono _ _ _ _ _)
   | (with_reducible exact impl_filled__impl_Matrix_at.mono _ _ _ _)
   | (with_reducible exact LeO.refl _)
   | (with_reducible exact LeO.none _)
   | (with_reducible refine LeO.ite ?_ ?_)
   | (with_reducible refine LeO.bind ?_ (fun _ => ?_))
   | exact ih0 _ _ _ _ _
   | exact impl_GradesValid.mono _ _ _
   | exact impl_IsIdempotent.mono _ _ _
   | exact impl_MulGrades.mono _ _ _ _ _
   | exact impl_filled__impl_Matrix_at.mono _ _ _ _
   | exact LeO.none _
   | refine LeO.ite ?_ ?_
   | refine LeO.bind ?_ (fun _ => ?_)
theorem impl_IdempotentOf.mono : ∀ a0 a1 k,LeO (impl_IdempotentOf.f k a0 a1) (impl_IdempotentOf.f (k + 1) a0 a1):=by
 intro a0 a1 k
 have ih0:=impl_IdempotentOf.mono_l k
 unfold impl_IdempotentOf.f
 repeat' first
   | (with_reducible exact ih0 _ _ _ _ _)
   | (with_reducible exact impl_GradesValid.mono _ _ _)
   | (with_reducible exact impl_IsIdempotent.mono _ _ _)
   | (with_reducible exact impl_MulGrades.mono _ _ _ _ _)
   | (with_reducible exact impl_filled__impl_Matrix_at.mono _ _ _ _)
   | (with_reducible exact LeO.refl _)
   | (with_reducible exact LeO.none _)
   | (with_reducible refine LeO.ite ?_ ?_)
   | (with_reducible refine LeO.bind ?_ (fun _ => ?_))
   | exact ih0 _ _ _ _ _
   | exact impl_GradesValid.mono _ _ _
   | exact impl_IsIdempotent.mono _ _ _
   | exact impl_MulGrades.mono _ _ _ _ _
   | exact impl_filled__impl_Matrix_at.mono _ _ _ _
   | exact LeO.none _
   | refine LeO.ite ?_ ?_
   | refine LeO.bind ?_ (fun _ => ?_)
set_option maxHeartbeats 8000000 in
set_option maxRecDepth 100000 in
theorem impl_IdempotentOf.calls (k : Nat) (a0_0 : Int) (A0_1 : Option Addr) (c0_1 : Nat) (l0_1 : List Int) (r1 : Int) (r2 : List Int) (r3 : Int) (r4 : Bool) (w : World) (hr0_1 : Kd.C (Kd.int .i64) w A0_1 l0_1.length l0_1) (hc0_1 : l0_1.length ≤ c0_1) (h : impl_IdempotentOf.f k a0_0 l0_1 = some (r1,r2,r3,r4)) :
  Calls Try.prog 29 #[.agg #[.int .i64 a0_0,.slice A0_1 l0_1.length c0_1]] w fun e w' => ∃ v1_ : Value,e = .returned (.tuple #[.agg #[.int .i64 r1,v1_],.int .i64 r3,.bool r4]) ∧ Kd.R (Kd.int .i64) 3 w' w.heap.size (fun _ => True) v1_ r2 ∧ Below w.heap.size w w':=by
 have hu28:=Try.underlying28
 have HR0_1:=Aside0.mk hr0_1
 have HC0_1:=Aside0.mk hc0_1
 clear hr0_1 hc0_1
 have HB:=Aside0.mk (Below.refl w.heap.size w)
 have H : ((impl_GradesValid.f k a0_0 l0_1).bind fun t484 => (if t484 = true then ((impl_filled__impl_Matrix_at.f k a0_0 a0_0 l0_1).bind fun bt485 => (impl_IdempotentOf.l0 k 1 a0_0 l0_1 bt485.1 bt485.2)) else (some (0,([] : List Int),0,false)))) = some (r1,r2,r3,r4):=h
 clear h
 replace H:=Option.bind_eq_some_iff.mp H
 obtain ⟨t484,A20,H⟩:=H
 replace H : (if t484 = true then ((impl_filled__impl_Matrix_at.f k a0_0 a0_0 l0_1).bind fun bt485 => (impl_IdempotentOf.l0 k 1 a0_0 l0_1 bt485.1 bt485.2)) else (some (0,([] : List Int),0,false))) = some (r1,r2,r3,r4):=H
 have A2:=Aside0.mk A20
 clear A20
 by_cases c3 : t484 = true
 ·subst c3
  have H1 : ((impl_filled__impl_Matrix_at.f k a0_0 a0_0 l0_1).bind fun bt485 => (impl_IdempotentOf.l0 k 1 a0_0 l0_1 bt485.1 bt485.2)) = some (r1,r2,r3,r4):=by rw [if_pos rfl] at H;exact H
  clear H
  have H:=H1
  clear H1
  replace H:=Option.bind_eq_some_iff.mp H
  obtain ⟨⟨t485,t486⟩,A40,H⟩:=H
  replace H : (impl_IdempotentOf.l0 k 1 a0_0 l0_1 t485 t486) = some (r1,r2,r3,r4):=H
  have A4:=Aside0.mk A40
  clear A40
  have H':=Aside0.mk H
  clear H
  go_enter Try.func29,Try.ntmps29
  go_wp2_with (first|((with_reducible refine gate_dst (N:=1) rfl ?_);refine box_event ?hg (N:=1) ?hd (cs:=#[.int .i64 a0_0,.slice A0_1 l0_1.length c0_1]) (t:=28) ?hr ?_;(case hd => rfl);(case hg => rfl);(case hr => first|(go_simp;done)|(go_simp;rfl));intro gb482 hg w5 hbox hb;have n0_:=Aside0.mk (below_step (be0_ HB.out) hb);have n1_:=Aside0.mk (hbox);have n2_:=Aside0.mk ((by rw [hg];exact (below_size (be0_ HB.out)) : w.heap.size ≤ gb482));have n3_:=Aside0.mk ((by rw [hg];exact (below_size (be0_ HB.out)) : w.heap.size ≤ gb482));clear HB;have HB:=n0_;have BK482:=n1_;have GW482:=n2_;have GE482:=n3_;clear n0_ n1_ n2_ n3_;clear hb hbox hg)|((with_reducible refine gate_dst (N:=2) rfl ?_);refine box_event ?hg (N:=2) ?hd (cs:=#[.int .i64 0,.slice none 0 0]) (t:=28) ?hr ?_;(case hd => rfl);(case hg => rfl);(case hr => first|(go_simp;done)|(go_simp;rfl));intro gb483 hg w6 hbox hb;have n0_:=Aside0.mk (blk_below (g:=gb482) (o:=.cells #[.int .i64 a0_0,.slice A0_1 l0_1.length c0_1] 28 (0,0)) (pe_ BK482.out) hb);have n1_:=Aside0.mk (below_step (be1_ HB.out GE482.out) hb);have n2_:=Aside0.mk (hbox);have n3_:=Aside0.mk ((by rw [hg];exact (below_size (be1_ HB.out GE482.out)) : w.heap.size ≤ gb483));have n4_:=Aside0.mk ((by rw [hg];exact (below_size (be1_ HB.out GE482.out)) : w.heap.size ≤ gb483));have n5_:=Aside0.mk ((by rw [hg];exact Nat.ne_of_lt (blk_lt (g:=gb482) (o:=.cells #[.int .i64 a0_0,.slice A0_1 l0_1.length c0_1] 28 (0,0)) (pe_ BK482.out)) : gb482 ≠ gb483));have n6_:=Aside0.mk ((by rw [hg];exact Nat.ne_of_gt (blk_lt (g:=gb482) (o:=.cells #[.int .i64 a0_0,.slice A0_1 l0_1.length c0_1] 28 (0,0)) (pe_ BK482.out)) : gb483 ≠ gb482));clear BK482;clear HB;have BK482:=n0_;have HB:=n1_;have BK483:=n2_;have GW483:=n3_;have GE483:=n4_;have NB482_483:=n5_;have NB483_482:=n6_;clear n0_ n1_ n2_ n3_ n4_ n5_ n6_;clear hb hbox hg;have hnb7:=NB482_483.out;have hnc7:=NB483_482.out;have hcz8_0 : w6.cell? ⟨gb482,0,none⟩ = some (.int .i64 a0_0):=(blk_cell BK482.out 0).trans rfl;have hcz8_1 : w6.cell? ⟨gb482,1,none⟩ = some (.slice A0_1 l0_1.length c0_1):=(blk_cell BK482.out 1).trans rfl;have hfz8_0:=blk_frozen BK482.out 0;have hfz8_1:=blk_frozen BK482.out 1)|((with_reducible refine gate_callee (f:=36) rfl ?_);refine goesL_ (some 8) rfl rfl Try.func36 (by kernel_rfl) rfl #[.agg #[.int .i64 a0_0,.slice A0_1 l0_1.length c0_1]] rfl lp_ ?_;(with_reducible refine (impl_GradesValid.calls k a0_0 _ _ l0_1 true _ ?side1 ?side2 A2.out).mono ?_);(case side1 => repeat (first|exact (Kd.C_below HR0_1.out HB.out)|(with_reducible refine Kd.C_alloc ?_ _)|(with_reducible refine Kd.C_drewN ?_ _)|(with_reducible refine Kd.C_drew ?_)));(case side2 => exact HC0_1.out);rintro e w9 ⟨rfl,hb⟩;refine ⟨_,rfl,?_⟩;have n0_:=Aside0.mk (blk_below (g:=gb482) (o:=.cells #[.int .i64 a0_0,.slice A0_1 l0_1.length c0_1] 28 (0,0)) (pe_ BK482.out) hb);have n1_:=Aside0.mk (blk_below (g:=gb483) (o:=.cells #[.int .i64 0,.slice none 0 0] 28 (0,0)) (pe_ BK483.out) hb);have n2_:=Aside0.mk (below_step (be2_ HB.out GE482.out GE483.out) hb);clear BK482;clear BK483;clear HB;have BK482:=n0_;have BK483:=n1_;have HB:=n2_;clear n0_ n1_ n2_;(try clear hb);(try clear hb2);(try clear hk);(try clear hi);have hcz10_0 : w9.cell? ⟨gb482,0,none⟩ = some (.int .i64 a0_0):=(blk_cell BK482.out 0).trans rfl;have hcz10_1 : w9.cell? ⟨gb482,1,none⟩ = some (.slice A0_1 l0_1.length c0_1):=(blk_cell BK482.out 1).trans rfl;have hfz10_0:=blk_frozen BK482.out 0;have hfz10_1:=blk_frozen BK482.out 1)|((with_reducible refine gate_callee (f:=59) rfl ?_);refine goesL_ (some 15) rfl rfl Try.func59 (by kernel_rfl) rfl #[.int .i64 a0_0,.func (.func 61) #[.agg #[.int .i64 a0_0,.slice A0_1 l0_1.length c0_1]] #[]] rfl lp_ ?_;(with_reducible refine (impl_filled__impl_Matrix_at.calls k a0_0 a0_0 _ _ l0_1 t485 t486 _ ?side1 ?side2 A4.out).mono ?_);(case side1 => repeat (first|exact (Kd.C_below HR0_1.out HB.out)|(with_reducible refine Kd.C_alloc ?_ _)|(with_reducible refine Kd.C_drewN ?_ _)|(with_reducible refine Kd.C_drew ?_)));(case side2 => exact HC0_1.out);rintro e w11 ⟨v487,rfl,ho0,hb⟩;refine ⟨_,rfl,?_⟩;have n0_:=Aside0.mk (Kd.R_lower ho0 (below_size (be2_ HB.out GE482.out GE483.out)));have n1_:=Aside0.mk (blk_below (g:=gb482) (o:=.cells #[.int .i64 a0_0,.slice A0_1 l0_1.length c0_1] 28 (0,0)) (pe_ BK482.out) hb);have n2_:=Aside0.mk (blk_below (g:=gb483) (o:=.cells #[.int .i64 0,.slice none 0 0] 28 (0,0)) (pe_ BK483.out) hb);have n3_:=Aside0.mk (below_step (be2_ HB.out GE482.out GE483.out) hb);clear BK482;clear BK483;clear HB;have HO488:=n0_;have BK482:=n1_;have BK483:=n2_;have HB:=n3_;clear n0_ n1_ n2_ n3_;(try clear hb);(try clear hb2);(try clear hk);(try clear hi);(try clear ho0))|((with_reducible refine gate_dst (N:=5) rfl ?_);refine box_event ?hg (N:=5) ?hd (cs:=#[.int .i64 0,.slice none 0 0]) (t:=28) ?hr ?_;(case hd => rfl);(case hg => rfl);(case hr => first|(go_simp;done)|(go_simp;rfl));intro gb489 hg w12 hbox hb;have n0_:=Aside0.mk (Kd.R_below (pr_ HO488.out) hb);have n1_:=Aside0.mk (blk_below (g:=gb482) (o:=.cells #[.int .i64 a0_0,.slice A0_1 l0_1.length c0_1] 28 (0,0)) (pe_ BK482.out) hb);have n2_:=Aside0.mk (blk_below (g:=gb483) (o:=.cells #[.int .i64 0,.slice none 0 0] 28 (0,0)) (pe_ BK483.out) hb);have n3_:=Aside0.mk (below_step (be2_ HB.out GE482.out GE483.out) hb);have n4_:=Aside0.mk (hbox);have n5_:=Aside0.mk ((by rw [hg];exact (below_size (be2_ HB.out GE482.out GE483.out)) : w.heap.size ≤ gb489));have n6_:=Aside0.mk ((by rw [hg];exact (below_size (be2_ HB.out GE482.out GE483.out)) : w.heap.size ≤ gb489));have n7_:=Aside0.mk ((by rw [hg];exact Nat.ne_of_lt (blk_lt (g:=gb482) (o:=.cells #[.int .i64 a0_0,.slice A0_1 l0_1.length c0_1] 28 (0,0)) (pe_ BK482.out)) : gb482 ≠ gb489));have n8_:=Aside0.mk ((by rw [hg];exact Nat.ne_of_gt (blk_lt (g:=gb482) (o:=.cells #[.int .i64 a0_0,.slice A0_1 l0_1.length c0_1] 28 (0,0)) (pe_ BK482.out)) : gb489 ≠ gb482));have n9_:=Aside0.mk ((by rw [hg];exact Nat.ne_of_lt (blk_lt (g:=gb483) (o:=.cells #[.int .i64 0,.slice none 0 0] 28 (0,0)) (pe_ BK483.out)) : gb483 ≠ gb489));have n10_:=Aside0.mk ((by rw [hg];exact Nat.ne_of_gt (blk_lt (g:=gb483) (o:=.cells #[.int .i64 0,.slice none 0 0] 28 (0,0)) (pe_ BK483.out)) : gb489 ≠ gb483));clear HO488;clear BK482;clear BK483;clear HB;have HO488:=n0_;have BK482:=n1_;have BK483:=n2_;have HB:=n3_;have BK489:=n4_;have GW489:=n5_;have GE489:=n6_;have NB482_489:=n7_;have NB489_482:=n8_;have NB483_489:=n9_;have NB489_483:=n10_;clear n0_ n1_ n2_ n3_ n4_ n5_ n6_ n7_ n8_ n9_ n10_;clear hb hbox hg;have hnb13:=NB489_482.out;have hnc13:=NB482_489.out;have hnb14:=NB489_483.out;have hnc14:=NB483_489.out;have hcz15_0 : w12.cell? ⟨gb489,0,none⟩ = some (.int .i64 0):=(blk_cell BK489.out 0).trans rfl;have hcz15_1 : w12.cell? ⟨gb489,1,none⟩ = some (.slice none 0 0):=(blk_cell BK489.out 1).trans rfl;have hfz15_0:=blk_frozen BK489.out 0;have hfz15_1:=blk_frozen BK489.out 1;obtain ⟨Ao16,co16,eo16⟩:=Kd.R_slice HO488.out;subst eo16))
  go_loopg [6] k (fun kq v6 w' => ∃ (x6_1 : Int) (x484000_1 : Int) (x490000_1 : Int) (x490001_1 : List Int) (u490001 : Value),v6 = .int .i64 x6_1 ∧ Aside0 (impl_IdempotentOf.l0 kq x6_1 a0_0 l0_1 x490000_1 x490001_1 = some (r1,r2,r3,r4)) ∧ Aside0 (kq ≤ k) ∧ Aside0 (Kd.R (Kd.int .i64) 3 w' w.heap.size (fun _ => True) u490001 x490001_1) ∧ Aside0 (w'.heap[gb482]? = some (.cells #[.int .i64 a0_0,(.slice A0_1 l0_1.length c0_1)] 28 (0,0))) ∧ Aside0 (w'.heap[gb483]? = some (.cells #[.int .i64 x484000_1,(.slice none 0 0)] 28 (0,0))) ∧ Aside0 (w'.heap[gb489]? = some (.cells #[.int .i64 x490000_1,u490001] 28 (0,0))) ∧ Aside0 (Below w.heap.size w w'))
  case atStart => exact ⟨(1),(0),(t485),(t486),(.slice Ao16 t486.length co16),(by first|rfl|(simp;done)|(simp [*];done)),H',⟨Nat.le_refl _⟩,⟨by refine pr_ ?_;exact Kd.R_mono (Kd.R_far (p:=⟨gb489,1,none⟩) (Kd.R_far (p:=⟨gb489,0,none⟩) (Kd.R_types HO488.out BK489.out (by decide)) (fun _ hk => hk.2) (.int .i64 t485)) (fun _ hk => hk.2) (.slice Ao16 t486.length co16)) (fun _ hk => trivial)⟩,⟨by refine pe_ ?_;refine blk_far ?_ NB482_489.out _;refine pe_ ?_;refine blk_far ?_ NB482_489.out _;refine pe_ ?_;exact BK482.out⟩,⟨by refine pe_ ?_;refine blk_far ?_ NB483_489.out _;refine pe_ ?_;refine blk_far ?_ NB483_489.out _;refine pe_ ?_;exact BK483.out⟩,⟨by refine pe_ ?_;refine blk_put (cs:=#[.int .i64 t485,.slice none 0 0]) ?_ 1 _ rfl;refine pe_ ?_;refine blk_put (cs:=#[.int .i64 0,.slice none 0 0]) ?_ 0 _ rfl;refine pe_ ?_;exact BK489.out⟩,⟨be3_ HB.out GE482.out GE483.out GE489.out⟩⟩
  case round =>
   clear H'
   try clear c1
   try clear c2
   try clear p2
   try clear c3
   try clear c5
   try clear c7
   try clear c13
   try clear c14
   try clear hcz10_0
   try clear hcz10_1
   try clear hcz15_0
   try clear hcz15_1
   try clear hcz8_0
   try clear hcz8_1
   try clear hfz10_0
   try clear hfz10_1
   try clear hfz15_0
   try clear hfz15_1
   try clear hfz8_0
   try clear hfz8_1
   obtain ⟨x6_1,x484000_1,x490000_1,x490001_1,u490001,rfl,HA,HK1,HO_490001,BK482,BK483,BK489,HB⟩:=hrel
   cases gk with
   | zero => exact absurd HA.out (by simp [impl_IdempotentOf.l0])
   | succ k1 =>
    have H:=HA.out
    clear HA
    simp only [impl_IdempotentOf.l0] at H
    replace H:=Option.bind_eq_some_iff.mp H
    obtain ⟨t490,A170,H⟩:=H
    replace H : (if t490 = true then (some (x490000_1,x490001_1,x6_1,true)) else ((impl_MulGrades.f k1 x490000_1 x490001_1 a0_0 l0_1).bind fun bt491 => (impl_IdempotentOf.l0 k1 (wrap64 (x6_1 + 1)) a0_0 l0_1 bt491.1 bt491.2.1))) = some (r1,r2,r3,r4):=H
    have A17:=Aside0.mk A170
    clear A170
    by_cases c18 : t490 = true
    ·subst c18
     have H1 : (some (x490000_1,x490001_1,x6_1,true)) = some (r1,r2,r3,r4):=by rw [if_pos rfl] at H;exact H
     clear H
     have H:=H1
     clear H1
     simp only [Option.some.injEq,Prod.mk.injEq] at H
     obtain ⟨rfl,rfl,rfl,rfl⟩:=H
     have hnb19:=NB489_482.out
     have hnc19:=NB482_489.out
     have hnb20:=NB489_483.out
     have hnc20:=NB483_489.out
     have hcz21_0 : wr.cell? ⟨gb489,0,none⟩ = some (.int .i64 x490000_1):=(blk_cell BK489.out 0).trans rfl
     have hcz21_1 : wr.cell? ⟨gb489,1,none⟩ = some (u490001):=(blk_cell BK489.out 1).trans rfl
     have hfz21_0:=blk_frozen BK489.out 0
     have hfz21_1:=blk_frozen BK489.out 1
     obtain ⟨Ao22,co22,eo22⟩:=Kd.R_slice HO_490001.out
     subst eo22
     go_wp2_with (first|((with_reducible refine gate_callee (f:=25) rfl ?_);refine goesL_ (some 19) rfl rfl Try.func25 (by kernel_rfl) rfl #[.agg #[.int .i64 x490000_1,.slice Ao22 x490001_1.length co22]] rfl lp_ ?_;(with_reducible refine (impl_IsIdempotent.calls k1 x490000_1 _ _ x490001_1 true _ ?side1 ?side2 A17.out).mono ?_);(case side1 => repeat (first|exact (Kd.R_reads' HO_490001.out).2.2|(with_reducible refine Kd.C_alloc ?_ _)|(with_reducible refine Kd.C_drewN ?_ _)|(with_reducible refine Kd.C_drew ?_)));(case side2 => exact (Kd.R_reads' HO_490001.out).2.1);rintro e w23 ⟨rfl,hb⟩;refine ⟨_,rfl,?_⟩;have n0_:=Aside0.mk (Kd.R_below (pr_ HO_490001.out) hb);have n1_:=Aside0.mk (blk_below (g:=gb482) (o:=.cells #[.int .i64 a0_0,.slice A0_1 l0_1.length c0_1] 28 (0,0)) (pe_ BK482.out) hb);have n2_:=Aside0.mk (blk_below (g:=gb483) (o:=.cells #[.int .i64 x484000_1,.slice none 0 0] 28 (0,0)) (pe_ BK483.out) hb);have n3_:=Aside0.mk (blk_below (g:=gb489) (o:=.cells #[.int .i64 x490000_1,.slice Ao22 x490001_1.length co22] 28 (0,0)) (pe_ BK489.out) hb);have n4_:=Aside0.mk (below_step (be3_ HB.out GE482.out GE483.out GE489.out) hb);clear HO_490001;clear BK482;clear BK483;clear BK489;clear HB;have HO_490001:=n0_;have BK482:=n1_;have BK483:=n2_;have BK489:=n3_;have HB:=n4_;clear n0_ n1_ n2_ n3_ n4_;(try clear hb);(try clear hb2);(try clear hk);(try clear hi);have hcz24_0 : w23.cell? ⟨gb489,0,none⟩ = some (.int .i64 x490000_1):=(blk_cell BK489.out 0).trans rfl;have hcz24_1 : w23.cell? ⟨gb489,1,none⟩ = some (.slice Ao22 x490001_1.length co22):=(blk_cell BK489.out 1).trans rfl;have hfz24_0:=blk_frozen BK489.out 0;have hfz24_1:=blk_frozen BK489.out 1;have hnb25:=NB483_482.out;have hnc25:=NB482_483.out;have hcz26_0 : w23.cell? ⟨gb483,0,none⟩ = some (.int .i64 x484000_1):=(blk_cell BK483.out 0).trans rfl;have hcz26_1 : w23.cell? ⟨gb483,1,none⟩ = some (.slice none 0 0):=(blk_cell BK483.out 1).trans rfl;have hfz26_0:=blk_frozen BK483.out 0;have hfz26_1:=blk_frozen BK483.out 1))
     refine bodyPost_ret (results_ctt rfl _ _ gb483 28 #[.int .i64 x490000_1,.slice Ao22 x490001_1.length co22] (0,0) _ rfl (by refine pe_ ?_;refine blk_put (cs:=#[.int .i64 x490000_1,.slice none 0 0]) ?_ 1 _ rfl;refine pe_ ?_;refine blk_put (cs:=#[.int .i64 x484000_1,.slice none 0 0]) ?_ 0 _ rfl;refine pe_ ?_;exact BK483.out) Try.underlying28 rfl (by kernel_rfl)) rfl ?_
     exact ⟨_,by first|rfl|(simp [errW_none,errW_some] <;> rfl)|(simp [*,errW_none,errW_some] <;> rfl),by refine pr_ ?_;exact Kd.R_mono (Kd.R_far (p:=⟨gb483,1,none⟩) (Kd.R_far (p:=⟨gb483,0,none⟩) (Kd.R_types HO_490001.out BK483.out (by decide)) (fun _ hk => hk.2) (.int .i64 x490000_1)) (fun _ hk => hk.2) (.slice Ao22 x490001_1.length co22)) (fun _ hk => trivial),be3_ HB.out GE482.out GE483.out GE489.out⟩
    ·replace c18:=Bool.eq_false_iff.mpr c18
     subst c18
     have H1 : ((impl_MulGrades.f k1 x490000_1 x490001_1 a0_0 l0_1).bind fun bt491 => (impl_IdempotentOf.l0 k1 (wrap64 (x6_1 + 1)) a0_0 l0_1 bt491.1 bt491.2.1)) = some (r1,r2,r3,r4):=by rw [if_neg (show ¬ (false = true) by decide)] at H;exact H
     clear H
     have H:=H1
     clear H1
     replace H:=Option.bind_eq_some_iff.mp H
     obtain ⟨⟨t491,t492,t495⟩,A270,H⟩:=H
     replace H : (impl_IdempotentOf.l0 k1 (wrap64 (x6_1 + 1)) a0_0 l0_1 t491 t492) = some (r1,r2,r3,r4):=H
     have A27:=Aside0.mk A270
     clear A270
     have H':=Aside0.mk H
     clear H
     have hnb28:=NB489_482.out
     have hnc28:=NB482_489.out
     have hnb29:=NB489_483.out
     have hnc29:=NB483_489.out
     have hcz30_0 : wr.cell? ⟨gb489,0,none⟩ = some (.int .i64 x490000_1):=(blk_cell BK489.out 0).trans rfl
     have hcz30_1 : wr.cell? ⟨gb489,1,none⟩ = some (u490001):=(blk_cell BK489.out 1).trans rfl
     have hfz30_0:=blk_frozen BK489.out 0
     have hfz30_1:=blk_frozen BK489.out 1
     obtain ⟨Ao31,co31,eo31⟩:=Kd.R_slice HO_490001.out
     subst eo31
     go_wp2_with (first|((with_reducible refine gate_callee (f:=25) rfl ?_);refine goesL_ (some 19) rfl rfl Try.func25 (by kernel_rfl) rfl #[.agg #[.int .i64 x490000_1,.slice Ao31 x490001_1.length co31]] rfl lp_ ?_;(with_reducible refine (impl_IsIdempotent.calls k1 x490000_1 _ _ x490001_1 false _ ?side1 ?side2 A17.out).mono ?_);(case side1 => repeat (first|exact (Kd.R_reads' HO_490001.out).2.2|(with_reducible refine Kd.C_alloc ?_ _)|(with_reducible refine Kd.C_drewN ?_ _)|(with_reducible refine Kd.C_drew ?_)));(case side2 => exact (Kd.R_reads' HO_490001.out).2.1);rintro e w32 ⟨rfl,hb⟩;refine ⟨_,rfl,?_⟩;have n0_:=Aside0.mk (Kd.R_below (pr_ HO_490001.out) hb);have n1_:=Aside0.mk (blk_below (g:=gb482) (o:=.cells #[.int .i64 a0_0,.slice A0_1 l0_1.length c0_1] 28 (0,0)) (pe_ BK482.out) hb);have n2_:=Aside0.mk (blk_below (g:=gb483) (o:=.cells #[.int .i64 x484000_1,.slice none 0 0] 28 (0,0)) (pe_ BK483.out) hb);have n3_:=Aside0.mk (blk_below (g:=gb489) (o:=.cells #[.int .i64 x490000_1,.slice Ao31 x490001_1.length co31] 28 (0,0)) (pe_ BK489.out) hb);have n4_:=Aside0.mk (below_step (be3_ HB.out GE482.out GE483.out GE489.out) hb);clear HO_490001;clear BK482;clear BK483;clear BK489;clear HB;have HO_490001:=n0_;have BK482:=n1_;have BK483:=n2_;have BK489:=n3_;have HB:=n4_;clear n0_ n1_ n2_ n3_ n4_;(try clear hb);(try clear hb2);(try clear hk);(try clear hi);have hcz33_0 : w32.cell? ⟨gb489,0,none⟩ = some (.int .i64 x490000_1):=(blk_cell BK489.out 0).trans rfl;have hcz33_1 : w32.cell? ⟨gb489,1,none⟩ = some (.slice Ao31 x490001_1.length co31):=(blk_cell BK489.out 1).trans rfl;have hfz33_0:=blk_frozen BK489.out 0;have hfz33_1:=blk_frozen BK489.out 1;have hnb34:=NB482_483.out;have hnc34:=NB483_482.out;have hcz35_0 : w32.cell? ⟨gb482,0,none⟩ = some (.int .i64 a0_0):=(blk_cell BK482.out 0).trans rfl;have hcz35_1 : w32.cell? ⟨gb482,1,none⟩ = some (.slice A0_1 l0_1.length c0_1):=(blk_cell BK482.out 1).trans rfl;have hfz35_0:=blk_frozen BK482.out 0;have hfz35_1:=blk_frozen BK482.out 1)|((with_reducible refine gate_callee (f:=27) rfl ?_);refine goesL_ (some 25) rfl rfl Try.func27 (by kernel_rfl) rfl #[.agg #[.int .i64 x490000_1,.slice Ao31 x490001_1.length co31],.agg #[.int .i64 a0_0,.slice A0_1 l0_1.length c0_1]] rfl lp_ ?_;(with_reducible refine (impl_MulGrades.calls k1 x490000_1 _ _ x490001_1 a0_0 _ _ l0_1 t491 t492 t495 _ ?side1 ?side2 ?side3 ?side4 A27.out).mono ?_);(case side1 => repeat (first|exact (Kd.R_reads' HO_490001.out).2.2|(with_reducible refine Kd.C_alloc ?_ _)|(with_reducible refine Kd.C_drewN ?_ _)|(with_reducible refine Kd.C_drew ?_)));(case side2 => exact (Kd.R_reads' HO_490001.out).2.1);(case side3 => repeat (first|exact (Kd.C_below HR0_1.out HB.out)|(with_reducible refine Kd.C_alloc ?_ _)|(with_reducible refine Kd.C_drewN ?_ _)|(with_reducible refine Kd.C_drew ?_)));(case side4 => exact HC0_1.out);rintro e w36 ⟨v493,rfl,ho0,hb⟩;refine ⟨_,rfl,?_⟩;have n0_:=Aside0.mk (Kd.R_elder' (pr_ HO_490001.out) (Kd.R_base ho0) hb);have n1_:=Aside0.mk (Kd.R_lower (Kd.R_new' ho0 (Kd.R_lt (pr_ HO_490001.out))) (below_size (be3_ HB.out GE482.out GE483.out GE489.out)));have n2_:=Aside0.mk (blk_below (g:=gb482) (o:=.cells #[.int .i64 a0_0,.slice A0_1 l0_1.length c0_1] 28 (0,0)) (pe_ BK482.out) hb);have n3_:=Aside0.mk (blk_below (g:=gb483) (o:=.cells #[.int .i64 x484000_1,.slice none 0 0] 28 (0,0)) (pe_ BK483.out) hb);have n4_:=Aside0.mk (blk_below (g:=gb489) (o:=.cells #[.int .i64 x490000_1,.slice Ao31 x490001_1.length co31] 28 (0,0)) (pe_ BK489.out) hb);have n5_:=Aside0.mk (below_step (be3_ HB.out GE482.out GE483.out GE489.out) hb);clear HO_490001;clear BK482;clear BK483;clear BK489;clear HB;have HO_490001:=n0_;have HO494:=n1_;have BK482:=n2_;have BK483:=n3_;have BK489:=n4_;have HB:=n5_;clear n0_ n1_ n2_ n3_ n4_ n5_;(try clear hb);(try clear hb2);(try clear hk);(try clear hi);(try clear ho0);have hcz37_0 : w36.cell? ⟨gb489,0,none⟩ = some (.int .i64 x490000_1):=(blk_cell BK489.out 0).trans rfl;have hcz37_1 : w36.cell? ⟨gb489,1,none⟩ = some (.slice Ao31 x490001_1.length co31):=(blk_cell BK489.out 1).trans rfl;have hfz37_0:=blk_frozen BK489.out 0;have hfz37_1:=blk_frozen BK489.out 1;obtain ⟨Ao38,co38,eo38⟩:=Kd.R_slice HO494.out;subst eo38))
     go_roundg k1
     case measure => have:=HK1.out;omega
     case rel => exact ⟨(wrap64 (x6_1 + 1)),(x484000_1),(t491),(t492),(.slice Ao38 t492.length co38),(by first|rfl|(simp;done)|(simp [*];done)),H',⟨by have:=HK1.out;omega⟩,⟨by refine pr_ ?_;exact Kd.R_mono (Kd.R_far (p:=⟨gb489,1,none⟩) (Kd.R_far (p:=⟨gb489,0,none⟩) (Kd.R_types HO494.out BK489.out (by decide)) (fun _ hk => hk.2) (.int .i64 t491)) (fun _ hk => hk.2) (.slice Ao38 t492.length co38)) (fun _ hk => trivial)⟩,⟨by refine pe_ ?_;refine blk_far ?_ NB482_489.out _;refine pe_ ?_;refine blk_far ?_ NB482_489.out _;refine pe_ ?_;exact BK482.out⟩,⟨by refine pe_ ?_;refine blk_far ?_ NB483_489.out _;refine pe_ ?_;refine blk_far ?_ NB483_489.out _;refine pe_ ?_;exact BK483.out⟩,⟨by refine pe_ ?_;refine blk_put (cs:=#[.int .i64 t491,.slice Ao31 x490001_1.length co31]) ?_ 1 _ rfl;refine pe_ ?_;refine blk_put (cs:=#[.int .i64 x490000_1,.slice Ao31 x490001_1.length co31]) ?_ 0 _ rfl;refine pe_ ?_;exact BK489.out⟩,⟨be3_ HB.out GE482.out GE483.out GE489.out⟩⟩
 ·replace c3:=Bool.eq_false_iff.mpr c3
  subst c3
  have H1 : (some (0,([] : List Int),0,false)) = some (r1,r2,r3,r4):=by rw [if_neg (show ¬ (false = true) by decide)] at H;exact H
  clear H
  have H:=H1
  clear H1
  simp only [Option.some.injEq,Prod.mk.injEq] at H
  obtain ⟨rfl,rfl,rfl,rfl⟩:=H
  go_enter Try.func29,Try.ntmps29
  go_wp2_with (first|((with_reducible refine gate_dst (N:=1) rfl ?_);refine box_event ?hg (N:=1) ?hd (cs:=#[.int .i64 a0_0,.slice A0_1 l0_1.length c0_1]) (t:=28) ?hr ?_;(case hd => rfl);(case hg => rfl);(case hr => first|(go_simp;done)|(go_simp;rfl));intro gb482 hg w39 hbox hb;have n0_:=Aside0.mk (below_step (be0_ HB.out) hb);have n1_:=Aside0.mk (hbox);have n2_:=Aside0.mk ((by rw [hg];exact (below_size (be0_ HB.out)) : w.heap.size ≤ gb482));have n3_:=Aside0.mk ((by rw [hg];exact (below_size (be0_ HB.out)) : w.heap.size ≤ gb482));clear HB;have HB:=n0_;have BK482:=n1_;have GW482:=n2_;have GE482:=n3_;clear n0_ n1_ n2_ n3_;clear hb hbox hg)|((with_reducible refine gate_dst (N:=2) rfl ?_);refine box_event ?hg (N:=2) ?hd (cs:=#[.int .i64 0,.slice none 0 0]) (t:=28) ?hr ?_;(case hd => rfl);(case hg => rfl);(case hr => first|(go_simp;done)|(go_simp;rfl));intro gb483 hg w40 hbox hb;have n0_:=Aside0.mk (blk_below (g:=gb482) (o:=.cells #[.int .i64 a0_0,.slice A0_1 l0_1.length c0_1] 28 (0,0)) (pe_ BK482.out) hb);have n1_:=Aside0.mk (below_step (be1_ HB.out GE482.out) hb);have n2_:=Aside0.mk (hbox);have n3_:=Aside0.mk ((by rw [hg];exact (below_size (be1_ HB.out GE482.out)) : w.heap.size ≤ gb483));have n4_:=Aside0.mk ((by rw [hg];exact (below_size (be1_ HB.out GE482.out)) : w.heap.size ≤ gb483));have n5_:=Aside0.mk ((by rw [hg];exact Nat.ne_of_lt (blk_lt (g:=gb482) (o:=.cells #[.int .i64 a0_0,.slice A0_1 l0_1.length c0_1] 28 (0,0)) (pe_ BK482.out)) : gb482 ≠ gb483));have n6_:=Aside0.mk ((by rw [hg];exact Nat.ne_of_gt (blk_lt (g:=gb482) (o:=.cells #[.int .i64 a0_0,.slice A0_1 l0_1.length c0_1] 28 (0,0)) (pe_ BK482.out)) : gb483 ≠ gb482));clear BK482;clear HB;have BK482:=n0_;have HB:=n1_;have BK483:=n2_;have GW483:=n3_;have GE483:=n4_;have NB482_483:=n5_;have NB483_482:=n6_;clear n0_ n1_ n2_ n3_ n4_ n5_ n6_;clear hb hbox hg;have hnb41:=NB482_483.out;have hnc41:=NB483_482.out;have hcz42_0 : w40.cell? ⟨gb482,0,none⟩ = some (.int .i64 a0_0):=(blk_cell BK482.out 0).trans rfl;have hcz42_1 : w40.cell? ⟨gb482,1,none⟩ = some (.slice A0_1 l0_1.length c0_1):=(blk_cell BK482.out 1).trans rfl;have hfz42_0:=blk_frozen BK482.out 0;have hfz42_1:=blk_frozen BK482.out 1)|((with_reducible refine gate_callee (f:=36) rfl ?_);refine goesL_ (some 8) rfl rfl Try.func36 (by kernel_rfl) rfl #[.agg #[.int .i64 a0_0,.slice A0_1 l0_1.length c0_1]] rfl lp_ ?_;(with_reducible refine (impl_GradesValid.calls k a0_0 _ _ l0_1 false _ ?side1 ?side2 A2.out).mono ?_);(case side1 => repeat (first|exact (Kd.C_below HR0_1.out HB.out)|(with_reducible refine Kd.C_alloc ?_ _)|(with_reducible refine Kd.C_drewN ?_ _)|(with_reducible refine Kd.C_drew ?_)));(case side2 => exact HC0_1.out);rintro e w43 ⟨rfl,hb⟩;refine ⟨_,rfl,?_⟩;have n0_:=Aside0.mk (blk_below (g:=gb482) (o:=.cells #[.int .i64 a0_0,.slice A0_1 l0_1.length c0_1] 28 (0,0)) (pe_ BK482.out) hb);have n1_:=Aside0.mk (blk_below (g:=gb483) (o:=.cells #[.int .i64 0,.slice none 0 0] 28 (0,0)) (pe_ BK483.out) hb);have n2_:=Aside0.mk (below_step (be2_ HB.out GE482.out GE483.out) hb);clear BK482;clear BK483;clear HB;have BK482:=n0_;have BK483:=n1_;have HB:=n2_;clear n0_ n1_ n2_;(try clear hb);(try clear hb2);(try clear hk);(try clear hi);have hcz44_0 : w43.cell? ⟨gb483,0,none⟩ = some (.int .i64 0):=(blk_cell BK483.out 0).trans rfl;have hcz44_1 : w43.cell? ⟨gb483,1,none⟩ = some (.slice none 0 0):=(blk_cell BK483.out 1).trans rfl;have hfz44_0:=blk_frozen BK483.out 0;have hfz44_1:=blk_frozen BK483.out 1))
  refine bodyPost_ret (results_ctt rfl _ _ gb483 28 #[.int .i64 0,.slice none 0 0] (0,0) _ rfl (by refine pe_ ?_;refine blk_put (cs:=#[.int .i64 0,.slice none 0 0]) ?_ 1 _ rfl;refine pe_ ?_;refine blk_put (cs:=#[.int .i64 0,.slice none 0 0]) ?_ 0 _ rfl;refine pe_ ?_;exact BK483.out) Try.underlying28 rfl (by kernel_rfl)) rfl ?_
  exact ⟨_,by first|rfl|(simp [errW_none,errW_some] <;> rfl)|(simp [*,errW_none,errW_some] <;> rfl),by first|exact Kd.R_nil _ _ _ _ _|exact Kd.N_nil _ _ _ _ _|exact Kd.V_nil _ _ _ _ _|exact Kd.Q_nil _ _ _ _ _|exact Kd.S_nil _ _ _ _ _,be2_ HB.out GE482.out GE483.out⟩
end Go.Proofs.Ytengegdaiphfeaa.X
end
section
namespace Go.Proofs.Ytengegdaiphfeaa.X
open Go.RowKit Go.Proofs.YtengegdaiphfeaaW.PrintWords Go.Proofs.YtengegdaiphfeaaW.PrintLast Go.Proofs.YtengegdaiphfeaaW.PrintMore
attribute [local go_sem] max2_int min2_int max_two min_two max_three min_three max_four min_four
set_option linter.unusedVariables false
set_option linter.unusedSimpArgs false
def spec_IsIdempotent.f (k : Nat) (a0_0 : Int) (l0_1 : List Int) : Option (Bool):=(spec_GradesValid.f k a0_0 l0_1).bind fun t291 => (if t291 = true then ((spec_l6Idempotent.f k a0_0 l0_1).bind fun t292 => (some t292)) else (some false))
theorem spec_IsIdempotent.mono : ∀ a0 a1 k,LeO (spec_IsIdempotent.f k a0 a1) (spec_IsIdempotent.f (k + 1) a0 a1):=by
 intro a0 a1 k
 unfold spec_IsIdempotent.f
 repeat' first
   | (with_reducible exact spec_GradesValid.mono _ _ _)
   | (with_reducible exact spec_l6Idempotent.mono _ _ _)
   | (with_reducible exact LeO.refl _)
   | (with_reducible exact LeO.none _)
   | (with_reducible refine LeO.ite ?_ ?_)
   | (with_reducible refine LeO.bind ?_ (fun _ => ?_))
   | exact spec_GradesValid.mono _ _ _
   | exact spec_l6Idempotent.mono _ _ _
   | exact LeO.none _
   | refine LeO.ite ?_ ?_
   | refine LeO.bind ?_ (fun _ => ?_)
set_option maxHeartbeats 8000000 in
set_option maxRecDepth 100000 in
theorem spec_IsIdempotent.calls (k : Nat) (a0_0 : Int) (A0_1 : Option Addr) (c0_1 : Nat) (l0_1 : List Int) (r : Bool) (w : World) (hr0_1 : Kd.C (Kd.int .i64) w A0_1 l0_1.length l0_1) (hc0_1 : l0_1.length ≤ c0_1) (h : spec_IsIdempotent.f k a0_0 l0_1 = some r) :
  Calls Try.prog 24 #[.agg #[.int .i64 a0_0,.slice A0_1 l0_1.length c0_1]] w fun e w' => e = .returned (.bool r) ∧ Below w.heap.size w w':=by
 have hu28:=Try.underlying28
 have HR0_1:=Aside0.mk hr0_1
 have HC0_1:=Aside0.mk hc0_1
 clear hr0_1 hc0_1
 have HB:=Aside0.mk (Below.refl w.heap.size w)
 have H : ((spec_GradesValid.f k a0_0 l0_1).bind fun t291 => (if t291 = true then ((spec_l6Idempotent.f k a0_0 l0_1).bind fun t292 => (some t292)) else (some false))) = some r:=h
 clear h
 replace H:=Option.bind_eq_some_iff.mp H
 obtain ⟨t291,A20,H⟩:=H
 replace H : (if t291 = true then ((spec_l6Idempotent.f k a0_0 l0_1).bind fun t292 => (some t292)) else (some false)) = some r:=H
 have A2:=Aside0.mk A20
 clear A20
 by_cases c3 : t291 = true
 ·subst c3
  have H1 : ((spec_l6Idempotent.f k a0_0 l0_1).bind fun t292 => (some t292)) = some r:=by rw [if_pos rfl] at H;exact H
  clear H
  have H:=H1
  clear H1
  replace H:=Option.bind_eq_some_iff.mp H
  obtain ⟨t292,A40,H⟩:=H
  replace H : (some t292) = some r:=H
  have A4:=Aside0.mk A40
  clear A40
  obtain rfl:=Option.some.inj H
  go_enter Try.func24,Try.ntmps24
  go_wp2_with (first|((with_reducible refine gate_dst (N:=1) rfl ?_);refine box_event ?hg (N:=1) ?hd (cs:=#[.int .i64 a0_0,.slice A0_1 l0_1.length c0_1]) (t:=28) ?hr ?_;(case hd => rfl);(case hg => rfl);(case hr => first|(go_simp;done)|(go_simp;rfl));intro gb290 hg w5 hbox hb;have n0_:=Aside0.mk (below_step (be0_ HB.out) hb);have n1_:=Aside0.mk (hbox);have n2_:=Aside0.mk ((by rw [hg];exact (below_size (be0_ HB.out)) : w.heap.size ≤ gb290));have n3_:=Aside0.mk ((by rw [hg];exact (below_size (be0_ HB.out)) : w.heap.size ≤ gb290));clear HB;have HB:=n0_;have BK290:=n1_;have GW290:=n2_;have GE290:=n3_;clear n0_ n1_ n2_ n3_;clear hb hbox hg;have hcz6_0 : w5.cell? ⟨gb290,0,none⟩ = some (.int .i64 a0_0):=(blk_cell BK290.out 0).trans rfl;have hcz6_1 : w5.cell? ⟨gb290,1,none⟩ = some (.slice A0_1 l0_1.length c0_1):=(blk_cell BK290.out 1).trans rfl;have hfz6_0:=blk_frozen BK290.out 0;have hfz6_1:=blk_frozen BK290.out 1)|((with_reducible refine gate_callee (f:=65) rfl ?_);refine goesL_ (some 4) rfl rfl Try.func65 (by kernel_rfl) rfl #[.agg #[.int .i64 a0_0,.slice A0_1 l0_1.length c0_1]] rfl lp_ ?_;(with_reducible refine (spec_GradesValid.calls k a0_0 _ _ l0_1 true _ ?side1 ?side2 A2.out).mono ?_);(case side1 => repeat (first|exact (Kd.C_below HR0_1.out HB.out)|(with_reducible refine Kd.C_alloc ?_ _)|(with_reducible refine Kd.C_drewN ?_ _)|(with_reducible refine Kd.C_drew ?_)));(case side2 => exact HC0_1.out);rintro e w7 ⟨rfl,hb⟩;refine ⟨_,rfl,?_⟩;have n0_:=Aside0.mk (blk_below (g:=gb290) (o:=.cells #[.int .i64 a0_0,.slice A0_1 l0_1.length c0_1] 28 (0,0)) (pe_ BK290.out) hb);have n1_:=Aside0.mk (below_step (be1_ HB.out GE290.out) hb);clear BK290;clear HB;have BK290:=n0_;have HB:=n1_;clear n0_ n1_;(try clear hb);(try clear hb2);(try clear hk);(try clear hi);have hcz8_0 : w7.cell? ⟨gb290,0,none⟩ = some (.int .i64 a0_0):=(blk_cell BK290.out 0).trans rfl;have hcz8_1 : w7.cell? ⟨gb290,1,none⟩ = some (.slice A0_1 l0_1.length c0_1):=(blk_cell BK290.out 1).trans rfl;have hfz8_0:=blk_frozen BK290.out 0;have hfz8_1:=blk_frozen BK290.out 1)|(go_at_call 66;(with_reducible refine (spec_l6Idempotent.calls k a0_0 _ _ l0_1 t292 _ ?side1 ?side2 A4.out).mono ?_);(case side1 => repeat (first|exact (Kd.C_below HR0_1.out HB.out)|(with_reducible refine Kd.C_alloc ?_ _)|(with_reducible refine Kd.C_drewN ?_ _)|(with_reducible refine Kd.C_drew ?_)));(case side2 => exact HC0_1.out);rintro e w9 ⟨rfl,hb⟩;have n0_:=Aside0.mk (blk_below (g:=gb290) (o:=.cells #[.int .i64 a0_0,.slice A0_1 l0_1.length c0_1] 28 (0,0)) (pe_ BK290.out) hb);have n1_:=Aside0.mk (below_step (be1_ HB.out GE290.out) hb);clear BK290;clear HB;have BK290:=n0_;have HB:=n1_;clear n0_ n1_;(try clear hb);(try clear hb2);(try clear hk);(try clear hi)))
  go_ret
  exact ⟨by first|rfl|(simp [errW_none,errW_some] <;> rfl)|(simp [*,errW_none,errW_some] <;> rfl),be1_ HB.out GE290.out⟩
 ·replace c3:=Bool.eq_false_iff.mpr c3
  subst c3
  have H1 : (some false) = some r:=by rw [if_neg (show ¬ (false = true) by decide)] at H;exact H
  clear H
  have H:=H1
  clear H1
  obtain rfl:=Option.some.inj H
  go_enter Try.func24,Try.ntmps24
  go_wp2_with (first|((with_reducible refine gate_dst (N:=1) rfl ?_);refine box_event ?hg (N:=1) ?hd (cs:=#[.int .i64 a0_0,.slice A0_1 l0_1.length c0_1]) (t:=28) ?hr ?_;(case hd => rfl);(case hg => rfl);(case hr => first|(go_simp;done)|(go_simp;rfl));intro gb290 hg w10 hbox hb;have n0_:=Aside0.mk (below_step (be0_ HB.out) hb);have n1_:=Aside0.mk (hbox);have n2_:=Aside0.mk ((by rw [hg];exact (below_size (be0_ HB.out)) : w.heap.size ≤ gb290));have n3_:=Aside0.mk ((by rw [hg];exact (below_size (be0_ HB.out)) : w.heap.size ≤ gb290));clear HB;have HB:=n0_;have BK290:=n1_;have GW290:=n2_;have GE290:=n3_;clear n0_ n1_ n2_ n3_;clear hb hbox hg;have hcz11_0 : w10.cell? ⟨gb290,0,none⟩ = some (.int .i64 a0_0):=(blk_cell BK290.out 0).trans rfl;have hcz11_1 : w10.cell? ⟨gb290,1,none⟩ = some (.slice A0_1 l0_1.length c0_1):=(blk_cell BK290.out 1).trans rfl;have hfz11_0:=blk_frozen BK290.out 0;have hfz11_1:=blk_frozen BK290.out 1)|((with_reducible refine gate_callee (f:=65) rfl ?_);refine goesL_ (some 4) rfl rfl Try.func65 (by kernel_rfl) rfl #[.agg #[.int .i64 a0_0,.slice A0_1 l0_1.length c0_1]] rfl lp_ ?_;(with_reducible refine (spec_GradesValid.calls k a0_0 _ _ l0_1 false _ ?side1 ?side2 A2.out).mono ?_);(case side1 => repeat (first|exact (Kd.C_below HR0_1.out HB.out)|(with_reducible refine Kd.C_alloc ?_ _)|(with_reducible refine Kd.C_drewN ?_ _)|(with_reducible refine Kd.C_drew ?_)));(case side2 => exact HC0_1.out);rintro e w12 ⟨rfl,hb⟩;refine ⟨_,rfl,?_⟩;have n0_:=Aside0.mk (blk_below (g:=gb290) (o:=.cells #[.int .i64 a0_0,.slice A0_1 l0_1.length c0_1] 28 (0,0)) (pe_ BK290.out) hb);have n1_:=Aside0.mk (below_step (be1_ HB.out GE290.out) hb);clear BK290;clear HB;have BK290:=n0_;have HB:=n1_;clear n0_ n1_;(try clear hb);(try clear hb2);(try clear hk);(try clear hi)))
  go_ret
  exact ⟨by first|rfl|(simp [errW_none,errW_some] <;> rfl)|(simp [*,errW_none,errW_some] <;> rfl),be1_ HB.out GE290.out⟩
end Go.Proofs.Ytengegdaiphfeaa.X
end
section
namespace Go.Proofs.Ytengegdaiphfeaa.Y
open Go.RowKit Go.Proofs.Ytengegdaiphfeaa.X Go.Proofs.YtengegdaiphfeaaW.PrintWords Go.Proofs.YtengegdaiphfeaaW.PrintLast Go.Proofs.YtengegdaiphfeaaW.PrintMore
set_option linter.unusedVariables false
set_option linter.unusedSimpArgs false
theorem slicesEq_ev (a b : List Int) (h : a.length ≤ 1000000000) : Ev (fun k => slices_Equal_int_int.f k a b) (decide (a = b)):=by
 by_cases hl : a.length = b.length
 ·have go : ∀ (t u pre : List Int),a = pre ++ t → b = pre ++ u → Ev (fun k => slices_Equal_int_int.l0 k a b (a.length : Int) (pre.length : Int)) (decide (a = b)):=by
   intro t
   induction t with
   | nil =>
    intro u pre ha hb
    have hu : u = []:=by
     have h1:=congrArg List.length ha
     have h2:=congrArg List.length hb
     simp at h1 h2
     exact List.length_eq_zero_iff.mp (by omega)
    subst hu
    have hab : a = b:=by rw [ha,hb]
    refine Ev.step (f:=fun _ => some true) (fun k => ?_) ((Ev.now _).is (by rw [decide_eq_true hab]))
    simp only [slices_Equal_int_int.l0]
    rw [if_neg (by rw [ha];simp)]
   | cons x t ih =>
    intro u pre ha hb
    have hla : a.length = pre.length + (t.length + 1):=by rw [ha];simp
    cases u with
    | nil => have h2:=congrArg List.length hb;simp at h2;omega
    | cons y u =>
     by_cases hxy : x = y
     ·subst hxy
      refine Ev.step (fun k => ?_) (ih u (pre ++ [x]) (by simp [ha]) (by simp [hb]))
      simp only [slices_Equal_int_int.l0]
      rw [if_pos (by omega),if_pos (by omega),if_pos (by omega),if_pos (by omega),w64 (x:=(pre.length : Int) + 1) (by omega) (by omega),snoc_len,if_pos (by rw [ha,hb,rd_mid,rd_mid])]
     ·have hab : ¬ a = b:=by
       intro e
       rw [ha,hb] at e
       have:=List.append_cancel_left e
       simp at this
       exact hxy this.1
      refine Ev.step (f:=fun _ => some false) (fun k => ?_) ((Ev.now _).is (by rw [decide_eq_false hab]))
      simp only [slices_Equal_int_int.l0]
      rw [if_pos (by omega),if_pos (by omega),if_pos (by omega),if_pos (by omega),if_neg (by rw [ha,hb,rd_mid,rd_mid];exact hxy)]
  refine Ev.congr (fun k => ?_) (go a b [] rfl rfl)
  unfold slices_Equal_int_int.f
  rw [if_pos (by omega)];rfl
 ·have hab : ¬ a = b:=fun e => hl (by rw [e])
  refine Ev.congr (f:=fun _ => some false) (fun k => ?_) ((Ev.now _).is (by rw [decide_eq_false hab]))
  unfold slices_Equal_int_int.f
  rw [if_neg (by omega)]
theorem iSame_ev (n : Int) (a : List Int) (m : Int) (b : List Int) (h : a.length ≤ 1000000000) : Ev (fun k => impl_SameMatrix.f k n a m b) (decide (n = m ∧ a = b)):=by
 unfold impl_SameMatrix.f
 by_cases e : n = m
 ·exact Ev_t e (Ev.bind (slicesEq_ev a b h) ((Ev.now _).is (by simp [e])))
 ·exact Ev_f e ((Ev.now _).is (by simp [e]))
theorem sSame_ev (a b : List Int) (hl : a.length = b.length) (h : a.length ≤ 1000000000) : Ev (fun k => spec_l2Same.f k a b) (decide (a = b)):=by
 have go : ∀ (t u pre : List Int),a = pre ++ t → b = pre ++ u → Ev (fun k => spec_l2Same.l0 k a b (a.length : Int) (pre.length : Int)) (decide (a = b)):=by
  intro t
  induction t with
  | nil =>
   intro u pre ha hb
   have hu : u = []:=by
    have h1:=congrArg List.length ha
    have h2:=congrArg List.length hb
    simp at h1 h2
    exact List.length_eq_zero_iff.mp (by omega)
   subst hu
   have hab : a = b:=by rw [ha,hb]
   refine Ev.step (f:=fun _ => some ((a.length : Int) == (b.length : Int))) (fun k => ?_) ((Ev.now _).is (by rw [decide_eq_true hab,hl];simp))
   simp only [spec_l2Same.l0]
   rw [if_neg (by rw [ha];simp)]
  | cons x t ih =>
   intro u pre ha hb
   have hla : a.length = pre.length + (t.length + 1):=by rw [ha];simp
   cases u with
   | nil => have h2:=congrArg List.length hb;simp at h2;omega
   | cons y u =>
    by_cases hxy : x = y
    ·subst hxy
     refine Ev.step (fun k => ?_) (ih u (pre ++ [x]) (by simp [ha]) (by simp [hb]))
     simp only [spec_l2Same.l0]
     rw [if_pos (by omega),if_pos (by omega),if_pos (by omega),if_pos (by omega),w64 (x:=(pre.length : Int) + 1) (by omega) (by omega),snoc_len,if_pos (by rw [ha,hb,rd_mid,rd_mid])]
    ·have hab : ¬ a = b:=by
      intro e
      rw [ha,hb] at e
      have:=List.append_cancel_left e
      simp at this
      exact hxy this.1
     refine Ev.step (f:=fun _ => some false) (fun k => ?_) ((Ev.now _).is (by rw [decide_eq_false hab]))
     simp only [spec_l2Same.l0]
     rw [if_pos (by omega),if_pos (by omega),if_pos (by omega),if_pos (by omega),if_neg (by rw [ha,hb,rd_mid,rd_mid];exact hxy)]
 refine Ev.congr (fun k => ?_) (go a b [] rfl rfl)
 unfold spec_l2Same.f
 have e : mn (a.length : Int) (b.length : Int) = (a.length : Int):=by unfold mn;rw [if_neg (by omega)]
 rw [e];rfl
def Idem (n : Int) (l : List Int) : Prop:=GV n l ∧ mulL n.toNat l l = l
instance (n : Int) (l : List Int) : Decidable (Idem n l):=by unfold Idem;infer_instance
theorem len_of_GV {n : Int} {l : List Int} (h : GV n l) : l.length ≤ 16:=by
 obtain ⟨m,rfl⟩:=GV_nat h
 have h1:=GV_len h
 have h2:=sq_le m (GV_le h).1
 omega
theorem iIdem (n : Int) (l : List Int) (h : l.length ≤ maxLen) : Ev (fun k => impl_IsIdempotent.f k n l) (decide (Idem n l)):=by
 unfold impl_IsIdempotent.f
 refine Ev.bind (iMul_any n l n l h h) ?_
 by_cases g : GV n l
 ·have e : mulR n l n l = (n,mulL n.toNat l l,true):=by unfold mulR;rw [if_pos ⟨g,g,rfl⟩]
  rw [e]
  refine Ev_t rfl ?_
  have h16:=len_of_GV g
  obtain ⟨m,rfl⟩:=GV_nat g
  have h2:=sq_le m (GV_le g).1
  refine Ev.bind (iSame_ev (m : Int) (mulL m l l) m l (by rw [mulL_length];omega)) ((Ev.now _).is ?_)
  rw [Bool.eq_iff_iff]
  simp only [decide_eq_true_eq]
  exact ⟨fun x => ⟨g,x.2⟩,fun x => ⟨by trivial,x.2⟩⟩
 ·have e : mulR n l n l = (0,[],false):=by unfold mulR;rw [if_neg (fun x => g x.1)]
  rw [e]
  exact Ev_f (by simp) ((Ev.now _).is (by rw [decide_eq_false (fun x : Idem n l => g x.1)]))
theorem sIdemG (n : Nat) (l : List Int) (g : GV n l) : Ev (fun k => spec_l6Idempotent.f k n l) (decide (Idem n l)):=by
 have hn:=GV_le g
 have hl:=GV_len g
 have h2:=sq_le n hn.1
 unfold spec_l6Idempotent.f
 refine Ev.bind (sMul n hn.1 hn.2 l l hl hl) ?_
 refine Ev.bind (sSame_ev (mulL n l l) l (by rw [mulL_length,hl]) (by rw [mulL_length];omega)) ((Ev.now _).is ?_)
 rw [Bool.eq_iff_iff]
 simp only [decide_eq_true_eq]
 exact ⟨fun x => ⟨g,x⟩,fun x => x.2⟩
theorem sIdem (n : Int) (l : List Int) (h : l.length ≤ maxLen) : Ev (fun k => spec_IsIdempotent.f k n l) (decide (Idem n l)):=by
 unfold spec_IsIdempotent.f
 refine Ev.bind (sGV n l h) ?_
 by_cases g : GV n l
 ·obtain ⟨m,rfl⟩:=GV_nat g
  exact Ev_t (decide_eq_true g) (Ev.bind (sIdemG m l g) (Ev.now _))
 ·exact Ev_f (by rw [decide_eq_false g];simp) ((Ev.now _).is (by rw [decide_eq_false (fun x : Idem n l => g x.1)]))
end Go.Proofs.Ytengegdaiphfeaa.Y
end
section
namespace Go.Proofs.Ytengegdaiphfeaa.X
open Go.RowKit Go.Proofs.YtengegdaiphfeaaW.PrintWords Go.Proofs.YtengegdaiphfeaaW.PrintLast Go.Proofs.YtengegdaiphfeaaW.PrintMore
attribute [local go_sem] max2_int min2_int max_two min_two max_three min_three max_four min_four
set_option linter.unusedVariables false
set_option linter.unusedSimpArgs false
def laws_heldIntS.l0 : Nat → List Int → Int → Int → Option (Int)
 | 0,_,_,_ => none
 | k + 1,x0,x1,x5 => if x5 < (x0.length : Int) then (if 0 ≤ x5 then (if (rd x0 x5) = x1 then (laws_heldIntS.l0 k x0 (wrap64 (x1 + 1)) (wrap64 (x5 + 1))) else (some (-1))) else (none)) else (some x1)
def laws_heldIntS.f (k : Nat) (l0 : List Int) (a1 : Int) : Option (Int):=laws_heldIntS.l0 k l0 a1 0
theorem laws_heldIntS.mono_l : ∀ k,(∀ y0 y1 y2,LeO (laws_heldIntS.l0 k y0 y1 y2) (laws_heldIntS.l0 (k + 1) y0 y1 y2))
 | 0 => fun _ _ _ r h => by simp [laws_heldIntS.l0] at h
 | k + 1 => by
  have ih0:=laws_heldIntS.mono_l k
  ·intro y0 y1 y2
   unfold laws_heldIntS.l0
   repeat' first
   | (with_reducible exact ih0 _ _ _)
   | (with_reducible exact LeO.refl _)
   | (with_reducible exact LeO.none _)
   | (with_reducible refine LeO.ite ?_ ?_)
   | (with_reducible refine LeO.bind ?_ (fun _ => ?_))
   | exact ih0 _ _ _
   | exact LeO.none _
   | refine LeO.ite ?_ ?_
   | refine LeO.bind ?_ (fun _ => ?_)
theorem laws_heldIntS.mono : ∀ a0 a1 k,LeO (laws_heldIntS.f k a0 a1) (laws_heldIntS.f (k + 1) a0 a1):=by
 intro a0 a1 k
 have ih0:=laws_heldIntS.mono_l k
 unfold laws_heldIntS.f
 repeat' first
   | (with_reducible exact ih0 _ _ _)
   | (with_reducible exact LeO.refl _)
   | (with_reducible exact LeO.none _)
   | (with_reducible refine LeO.ite ?_ ?_)
   | (with_reducible refine LeO.bind ?_ (fun _ => ?_))
   | exact ih0 _ _ _
   | exact LeO.none _
   | refine LeO.ite ?_ ?_
   | refine LeO.bind ?_ (fun _ => ?_)
set_option maxHeartbeats 8000000 in
set_option maxRecDepth 100000 in
theorem laws_heldIntS.calls (k : Nat) (A0 : Option Addr) (c0 : Nat) (l0 : List Int) (a1 : Int) (r : Int) (w : World) (hr0 : Kd.C (Kd.int .i64) w A0 l0.length l0) (hc0 : l0.length ≤ c0) (h : laws_heldIntS.f k l0 a1 = some r) :
  Calls Try.prog 64 #[.slice A0 l0.length c0,.int .i64 a1] w fun e w' => e = .returned (.int .i64 r) ∧ Drawn0 w w':=by
 have HR0:=Aside0.mk hr0
 have HC0:=Aside0.mk hc0
 clear hr0 hc0
 have H : (laws_heldIntS.l0 k l0 a1 0) = some r:=h
 clear h
 have H':=Aside0.mk H
 clear H
 go_enter Try.func64,Try.ntmps64
 go_wp2
 go_loopg [1,5] k (fun kq v1 v5 w' => ∃ (x1_1 : Int) (x5_1 : Int),v1 = .int .i64 x1_1 ∧ v5 = .int .i64 x5_1 ∧ Aside0 (laws_heldIntS.l0 kq l0 x1_1 x5_1 = some r) ∧ Aside0 (kq ≤ k) ∧ Drawn0 w w')
 case atStart => exact ⟨(a1),(0),(by first|rfl|(simp;done)|(simp [*];done)),(by first|rfl|(simp;done)|(simp [*];done)),H',⟨Nat.le_refl _⟩,by repeat (first|exact Drawn0.refl _|apply Drawn0.step)⟩
 case round =>
  clear H'
  try clear p2
  obtain ⟨x1_1,x5_1,rfl,rfl,HA,HK1,⟨m1,rfl⟩⟩:=hrel
  cases gk with
  | zero => exact absurd HA.out (by simp [laws_heldIntS.l0])
  | succ k1 =>
   have H:=HA.out
   clear HA
   simp only [laws_heldIntS.l0] at H
   by_cases c3 : x5_1 < (l0.length : Int)
   ·rw [if_pos c3] at H
    have c3b0 : decide (x5_1 < (l0.length : Int)) = true:=decide_eq_true c3
    clear c3
    by_cases c4 : 0 ≤ x5_1
    ·rw [if_pos c4] at H
     have c4b0 : decide (0 ≤ x5_1) = true:=decide_eq_true c4
     clear c4
     by_cases c5 : (rd l0 x5_1) = x1_1
     ·rw [if_pos c5] at H
      have c5b0 : ((rd l0 x5_1) == x1_1) = true:=beq_iff_eq.mpr c5
      have c5b1 : ((rd l0 x5_1) != x1_1) = false:=bne_eq_false_iff_eq.mpr c5
      clear c5
      have H':=Aside0.mk H
      clear H
      have p219 : 0 ≤ (x5_1 : Int):=of_decide_eq_true (by first|(with_reducible assumption)|assumption)
      have q219 : x5_1 < (l0.length : Int):=of_decide_eq_true (by first|(with_reducible assumption)|assumption)
      obtain ⟨ad219,e219,hx219_0⟩:=Kd.at_int HR0.out x5_1 p219 q219
      cases e219
      replace p219:=eq_true p219
      replace q219:=eq_true q219
      go_wp2
      go_roundg k1
      case measure => have:=HK1.out;omega
      case rel => exact ⟨(wrap64 (x1_1 + 1)),(wrap64 (x5_1 + 1)),(by first|rfl|(simp;done)|(simp [*];done)),(by first|rfl|(simp;done)|(simp [*];done)),H',⟨by have:=HK1.out;omega⟩,by repeat (first|exact Drawn0.refl _|apply Drawn0.step)⟩
     ·rw [if_neg c5] at H
      have c5b0 : ((rd l0 x5_1) == x1_1) = false:=beq_eq_false_iff_ne.mpr c5
      have c5b1 : ((rd l0 x5_1) != x1_1) = true:=bne_iff_ne.mpr c5
      obtain rfl:=Option.some.inj H
      have p219 : 0 ≤ (x5_1 : Int):=of_decide_eq_true (by first|(with_reducible assumption)|assumption)
      have q219 : x5_1 < (l0.length : Int):=of_decide_eq_true (by first|(with_reducible assumption)|assumption)
      obtain ⟨ad219,e219,hx219_0⟩:=Kd.at_int HR0.out x5_1 p219 q219
      cases e219
      replace p219:=eq_true p219
      replace q219:=eq_true q219
      go_wp2
      go_ret
      exact ⟨by first|rfl|(simp;done)|(simp [*];done),by repeat (first|exact Drawn0.refl _|apply Drawn0.step)⟩
    ·rw [if_neg c4] at H
     exact absurd H (by simp)
   ·rw [if_neg c3] at H
    have c3b0 : decide (x5_1 < (l0.length : Int)) = false:=decide_eq_false c3
    clear c3
    obtain rfl:=Option.some.inj H
    go_wp2
    go_ret
    exact ⟨by first|rfl|(simp;done)|(simp [*];done),by repeat (first|exact Drawn0.refl _|apply Drawn0.step)⟩
end Go.Proofs.Ytengegdaiphfeaa.X
end
section
namespace Go.Proofs.Ytengegdaiphfeaa.X
open Go.RowKit Go.Proofs.YtengegdaiphfeaaW.PrintWords Go.Proofs.YtengegdaiphfeaaW.PrintLast Go.Proofs.YtengegdaiphfeaaW.PrintMore
attribute [local go_sem] max2_int min2_int max_two min_two max_three min_three max_four min_four
set_option linter.unusedVariables false
set_option linter.unusedSimpArgs false
def laws_heldMatrix.f (k : Nat) (a0_0 : Int) (l0_1 : List Int) (a1 : Int) : Option (Int):=(laws_heldIntS.f k l0_1 a1).bind fun t221 => (if t221 < 0 then (some (-1)) else (some t221))
theorem laws_heldMatrix.mono : ∀ a0 a1 a2 k,LeO (laws_heldMatrix.f k a0 a1 a2) (laws_heldMatrix.f (k + 1) a0 a1 a2):=by
 intro a0 a1 a2 k
 unfold laws_heldMatrix.f
 repeat' first
   | (with_reducible exact laws_heldIntS.mono _ _ _)
   | (with_reducible exact LeO.refl _)
   | (with_reducible exact LeO.none _)
   | (with_reducible refine LeO.ite ?_ ?_)
   | (with_reducible refine LeO.bind ?_ (fun _ => ?_))
   | exact laws_heldIntS.mono _ _ _
   | exact LeO.none _
   | refine LeO.ite ?_ ?_
   | refine LeO.bind ?_ (fun _ => ?_)
set_option maxHeartbeats 8000000 in
set_option maxRecDepth 100000 in
theorem laws_heldMatrix.calls (k : Nat) (a0_0 : Int) (A0_1 : Option Addr) (c0_1 : Nat) (l0_1 : List Int) (a1 : Int) (r : Int) (w : World) (hr0_1 : Kd.C (Kd.int .i64) w A0_1 l0_1.length l0_1) (hc0_1 : l0_1.length ≤ c0_1) (h : laws_heldMatrix.f k a0_0 l0_1 a1 = some r) :
  Calls Try.prog 23 #[.agg #[.int .i64 a0_0,.slice A0_1 l0_1.length c0_1],.int .i64 a1] w fun e w' => e = .returned (.int .i64 r) ∧ Below w.heap.size w w':=by
 have hu28:=Try.underlying28
 have HR0_1:=Aside0.mk hr0_1
 have HC0_1:=Aside0.mk hc0_1
 clear hr0_1 hc0_1
 have HB:=Aside0.mk (Below.refl w.heap.size w)
 have H : ((laws_heldIntS.f k l0_1 a1).bind fun t221 => (if t221 < 0 then (some (-1)) else (some t221))) = some r:=h
 clear h
 replace H:=Option.bind_eq_some_iff.mp H
 obtain ⟨t221,A30,H⟩:=H
 replace H : (if t221 < 0 then (some (-1)) else (some t221)) = some r:=H
 have A3:=Aside0.mk A30
 clear A30
 by_cases c4 : t221 < 0
 ·rw [if_pos c4] at H
  have c4b0 : decide (t221 < 0) = true:=decide_eq_true c4
  clear c4
  obtain rfl:=Option.some.inj H
  go_enter Try.func23,Try.ntmps23
  go_wp2_with (first|((with_reducible refine gate_dst (N:=2) rfl ?_);refine box_event ?hg (N:=2) ?hd (cs:=#[.int .i64 a0_0,.slice A0_1 l0_1.length c0_1]) (t:=28) ?hr ?_;(case hd => rfl);(case hg => rfl);(case hr => first|(go_simp;done)|(go_simp;rfl));intro gb220 hg w5 hbox hb;have n0_:=Aside0.mk (below_step (be0_ HB.out) hb);have n1_:=Aside0.mk (hbox);have n2_:=Aside0.mk ((by rw [hg];exact (below_size (be0_ HB.out)) : w.heap.size ≤ gb220));have n3_:=Aside0.mk ((by rw [hg];exact (below_size (be0_ HB.out)) : w.heap.size ≤ gb220));clear HB;have HB:=n0_;have BK220:=n1_;have GW220:=n2_;have GE220:=n3_;clear n0_ n1_ n2_ n3_;clear hb hbox hg;have hcz6_0 : w5.cell? ⟨gb220,0,none⟩ = some (.int .i64 a0_0):=(blk_cell BK220.out 0).trans rfl;have hcz6_1 : w5.cell? ⟨gb220,1,none⟩ = some (.slice A0_1 l0_1.length c0_1):=(blk_cell BK220.out 1).trans rfl;have hfz6_0:=blk_frozen BK220.out 0;have hfz6_1:=blk_frozen BK220.out 1)|((with_reducible refine gate_callee (f:=64) rfl ?_);refine goesL_ (some 8) rfl rfl Try.func64 (by kernel_rfl) rfl #[.slice A0_1 l0_1.length c0_1,.int .i64 a1] rfl lp_ ?_;(with_reducible refine (laws_heldIntS.calls k _ _ l0_1 a1 t221 _ ?side1 ?side2 A3.out).mono ?_);(case side1 => repeat (first|exact (Kd.C_below HR0_1.out HB.out)|(with_reducible refine Kd.C_alloc ?_ _)|(with_reducible refine Kd.C_drewN ?_ _)|(with_reducible refine Kd.C_drew ?_)));(case side2 => exact HC0_1.out);rintro e w' ⟨rfl,⟨nd,rfl⟩⟩;refine ⟨_,rfl,?_⟩))
  go_ret
  exact ⟨by first|rfl|(simp [errW_none,errW_some] <;> rfl)|(simp [*,errW_none,errW_some] <;> rfl),be1_ HB.out GE220.out⟩
 ·rw [if_neg c4] at H
  have c4b0 : decide (t221 < 0) = false:=decide_eq_false c4
  clear c4
  obtain rfl:=Option.some.inj H
  go_enter Try.func23,Try.ntmps23
  go_wp2_with (first|((with_reducible refine gate_dst (N:=2) rfl ?_);refine box_event ?hg (N:=2) ?hd (cs:=#[.int .i64 a0_0,.slice A0_1 l0_1.length c0_1]) (t:=28) ?hr ?_;(case hd => rfl);(case hg => rfl);(case hr => first|(go_simp;done)|(go_simp;rfl));intro gb220 hg w7 hbox hb;have n0_:=Aside0.mk (below_step (be0_ HB.out) hb);have n1_:=Aside0.mk (hbox);have n2_:=Aside0.mk ((by rw [hg];exact (below_size (be0_ HB.out)) : w.heap.size ≤ gb220));have n3_:=Aside0.mk ((by rw [hg];exact (below_size (be0_ HB.out)) : w.heap.size ≤ gb220));clear HB;have HB:=n0_;have BK220:=n1_;have GW220:=n2_;have GE220:=n3_;clear n0_ n1_ n2_ n3_;clear hb hbox hg;have hcz8_0 : w7.cell? ⟨gb220,0,none⟩ = some (.int .i64 a0_0):=(blk_cell BK220.out 0).trans rfl;have hcz8_1 : w7.cell? ⟨gb220,1,none⟩ = some (.slice A0_1 l0_1.length c0_1):=(blk_cell BK220.out 1).trans rfl;have hfz8_0:=blk_frozen BK220.out 0;have hfz8_1:=blk_frozen BK220.out 1)|((with_reducible refine gate_callee (f:=64) rfl ?_);refine goesL_ (some 8) rfl rfl Try.func64 (by kernel_rfl) rfl #[.slice A0_1 l0_1.length c0_1,.int .i64 a1] rfl lp_ ?_;(with_reducible refine (laws_heldIntS.calls k _ _ l0_1 a1 t221 _ ?side1 ?side2 A3.out).mono ?_);(case side1 => repeat (first|exact (Kd.C_below HR0_1.out HB.out)|(with_reducible refine Kd.C_alloc ?_ _)|(with_reducible refine Kd.C_drewN ?_ _)|(with_reducible refine Kd.C_drew ?_)));(case side2 => exact HC0_1.out);rintro e w' ⟨rfl,⟨nd,rfl⟩⟩;refine ⟨_,rfl,?_⟩))
  go_ret
  exact ⟨by first|rfl|(simp [errW_none,errW_some] <;> rfl)|(simp [*,errW_none,errW_some] <;> rfl),be1_ HB.out GE220.out⟩
end Go.Proofs.Ytengegdaiphfeaa.X
end
section
namespace Go.Proofs.Ytengegdaiphfeaa.X
open Go.RowKit Go.Proofs.YtengegdaiphfeaaW.PrintWords Go.Proofs.YtengegdaiphfeaaW.PrintLast Go.Proofs.YtengegdaiphfeaaW.PrintMore
attribute [local go_sem] max2_int min2_int max_two min_two max_three min_three max_four min_four
set_option linter.unusedVariables false
set_option linter.unusedSimpArgs false
def laws_markIntS.l0 : Nat → List Int → Int → Int → Option (Int × List Int)
 | 0,_,_,_ => none
 | k + 1,x0,x1,x5 => if x5 < (x0.length : Int) then (if 0 ≤ x5 then (laws_markIntS.l0 k (x0.set (x5 : Int).toNat x1) (wrap64 (x1 + 1)) (wrap64 (x5 + 1))) else (none)) else (some (x1,x0))
def laws_markIntS.f (k : Nat) (l0 : List Int) (a1 : Int) : Option (Int × List Int):=laws_markIntS.l0 k l0 a1 0
theorem laws_markIntS.mono_l : ∀ k,(∀ y0 y1 y2,LeO (laws_markIntS.l0 k y0 y1 y2) (laws_markIntS.l0 (k + 1) y0 y1 y2))
 | 0 => fun _ _ _ r h => by simp [laws_markIntS.l0] at h
 | k + 1 => by
  have ih0:=laws_markIntS.mono_l k
  ·intro y0 y1 y2
   unfold laws_markIntS.l0
   repeat' first
   | (with_reducible exact ih0 _ _ _)
   | (with_reducible exact LeO.refl _)
   | (with_reducible exact LeO.none _)
   | (with_reducible refine LeO.ite ?_ ?_)
   | (with_reducible refine LeO.bind ?_ (fun _ => ?_))
   | exact ih0 _ _ _
   | exact LeO.none _
   | refine LeO.ite ?_ ?_
   | refine LeO.bind ?_ (fun _ => ?_)
theorem laws_markIntS.mono : ∀ a0 a1 k,LeO (laws_markIntS.f k a0 a1) (laws_markIntS.f (k + 1) a0 a1):=by
 intro a0 a1 k
 have ih0:=laws_markIntS.mono_l k
 unfold laws_markIntS.f
 repeat' first
   | (with_reducible exact ih0 _ _ _)
   | (with_reducible exact LeO.refl _)
   | (with_reducible exact LeO.none _)
   | (with_reducible refine LeO.ite ?_ ?_)
   | (with_reducible refine LeO.bind ?_ (fun _ => ?_))
   | exact ih0 _ _ _
   | exact LeO.none _
   | refine LeO.ite ?_ ?_
   | refine LeO.bind ?_ (fun _ => ?_)
set_option maxHeartbeats 8000000 in
set_option maxRecDepth 100000 in
theorem laws_markIntS.calls (k : Nat) (P0_ : Nat → Prop) (u9000_ : Value) (l0 : List Int) (a1 : Int) (r1 : Int) (r2 : List Int) (w0 w : World) (hB : Below w0.heap.size w0 w) (ho0 : Kd.R (Kd.int .i64) 3 w w0.heap.size P0_ u9000_ l0) (h : laws_markIntS.f k l0 a1 = some (r1,r2)) :
  Calls Try.prog 63 #[u9000_,.int .i64 a1] w fun e w' => e = .returned (.int .i64 r1) ∧ Kd.R (Kd.int .i64) 3 w' w0.heap.size (fun k_ => (P0_ k_ ∨ w.heap.size ≤ k_)) u9000_ r2 ∧ Below w0.heap.size w0 w' ∧ Kept w w' (fun k_ => P0_ k_):=by
 have HO0:=Aside0.mk (show Kd.R (Kd.int .i64) 3 w w0.heap.size (fun k_ => (P0_ k_ ∨ w.heap.size ≤ k_)) u9000_ l0 from Kd.R_mono ho0 (fun k_ hk => (.inl hk)))
 have HK:=Aside0.mk (Kept.refl w (fun k_ => P0_ k_))
 have HW0:=Aside0.mk hB.size
 have HB:=Aside0.mk hB
 clear hB
 have H : (laws_markIntS.l0 k l0 a1 0) = some (r1,r2):=h
 clear h
 have H':=Aside0.mk H
 clear H
 go_enter Try.func63,Try.ntmps63
 go_wp2
 go_loopg [1,5] k (fun kq v1 v5 w' => ∃ (x0_1 : List Int) (x1_1 : Int) (x5_1 : Int),v1 = .int .i64 x1_1 ∧ v5 = .int .i64 x5_1 ∧ Aside0 (laws_markIntS.l0 kq x0_1 x1_1 x5_1 = some (r1,r2)) ∧ Aside0 (kq ≤ k) ∧ Aside0 (Kd.R (Kd.int .i64) 3 w' w0.heap.size (fun k_ => (P0_ k_ ∨ w.heap.size ≤ k_)) u9000_ x0_1) ∧ Aside0 (Kept w w' (fun k_ => P0_ k_)) ∧ Aside0 (Below w0.heap.size w0 w'))
 case atStart => exact ⟨(l0),(a1),(0),(by first|rfl|(simp;done)|(simp [*];done)),(by first|rfl|(simp;done)|(simp [*];done)),H',⟨Nat.le_refl _⟩,⟨pr_ HO0.out⟩,⟨by repeat (first|(with_reducible first|exact HK.out|apply Kept.alloc|apply Kept.drewN|apply Kept.drew)|exact HK.out)⟩,⟨be0_ HB.out⟩⟩
 case round =>
  clear H'
  try clear p2
  obtain ⟨x0_1,x1_1,x5_1,rfl,rfl,HA,HK1,HO_0,HK,HB⟩:=hrel
  cases gk with
  | zero => exact absurd HA.out (by simp [laws_markIntS.l0])
  | succ k1 =>
   have H:=HA.out
   clear HA
   simp only [laws_markIntS.l0] at H
   by_cases c3 : x5_1 < (x0_1.length : Int)
   ·rw [if_pos c3] at H
    have c3b0 : decide (x5_1 < (x0_1.length : Int)) = true:=decide_eq_true c3
    clear c3
    by_cases c4 : 0 ≤ x5_1
    ·rw [if_pos c4] at H
     have c4b0 : decide (0 ≤ x5_1) = true:=decide_eq_true c4
     clear c4
     obtain ⟨y215,hy215⟩ : ∃ y_ : List Int,y_ = (x0_1.set (x5_1 : Int).toNat x1_1):=⟨_,rfl⟩
     replace H : (laws_markIntS.l0 k1 y215 (wrap64 (x1_1 + 1)) (wrap64 (x5_1 + 1))) = some (r1,r2):=by first|(rw [hy215];with_reducible exact H)|(have H2_:=(Option.bind_some _ _).symm.trans H;rw [hy215];with_reducible exact H2_)|(have H2_:=(Option.bind_some _ _).symm.trans H;with_reducible exact H2_)|with_reducible exact H|(rw [hy215];exact H)|exact H
     have Ny215:=Aside0.mk hy215
     clear hy215
     have H':=Aside0.mk H
     clear H
     obtain ⟨Ao6,co6,eo6⟩:=Kd.R_slice HO_0.out
     subst eo6
     have p5 : 0 ≤ (x5_1 : Int):=of_decide_eq_true (by first|(with_reducible assumption)|assumption)
     have q5 : (x5_1 : Int) < ((x0_1.length : Int) : Int):=of_decide_eq_true (by first|(with_reducible assumption)|assumption)
     obtain ⟨go5,co5,eo5,gb5,gl5,cl5,HG5⟩:=Kd.R_form HO_0.out (by omega)
     (first|cases eo5|(injection eo5 with ea_ en_ ec_;(first|subst ea_|(injection ea_ with ea_;subst ea_));subst ec_;clear en_))
     have GB5:=Aside0.mk gb5
     have GG5:=Aside0.mk HG5
     clear gb5 gl5 HG5
     have HMgo5:=Aside0.mk (show (P0_ go5 ∨ w.heap.size ≤ go5) from (HO_0.out.1 _ rfl))
     obtain ⟨hx5_0,hf5_0⟩:=Kd.R_celln 0 HO_0.out (x5_1 : Int) p5 q5
     replace p5:=eq_true p5
     replace q5:=eq_true q5
     have HP7:=Kd.R_putg HO_0.out (x5_1 : Int) x1_1
     go_wp2_with (first|((with_reducible refine gate_store (t:=3) (p:=15) rfl ?_);refine store_event (t:=3) (p:=15) (v:=?vo_w8) (w1:=(wr.setCell ⟨go5,(x5_1 : Int).toNat,none⟩ (.int .i64 x1_1))) ?hg ?ho ?hn ?hr ?_;(case ho => rfl);(case hg => rfl);(case hn => rfl);(case hr => first|(go_simp;done)|(go_simp;rfl));intro w8 hw;have hg : wr.grownBy w8 (some go5):=(by rw [hw];exact HP7.2);have hp_ : Kd.R (Kd.int .i64) 3 w8 w0.heap.size (fun k_ => (P0_ k_ ∨ w.heap.size ≤ k_)) (.slice (some ⟨go5,0,none⟩) x0_1.length co6) y215:=(by rw [hw,Ny215.out];exact HP7.1);clear HP7;have n0_:=Aside0.mk (hp_);have n1_:=Aside0.mk ((by rw [hw];exact below_set (HB.out) GB5.out : Below w0.heap.size w0 w8));have n2_:=Aside0.mk (Kept.of_grown (S:=(fun k_ => P0_ k_)) hg (by repeat (first|(with_reducible first|exact HK.out|apply Kept.alloc|apply Kept.drewN|apply Kept.drew)|exact HK.out)) (fun k_ e_ => (HO_0.out.1 k_ e_)));clear HO_0;clear HB;clear HK;have HO_0:=n0_;have HB:=n1_;have HK:=n2_;clear n0_ n1_ n2_;clear hg hw hp_))
     go_roundg k1
     case measure => have:=HK1.out;omega
     case rel => exact ⟨(y215),(wrap64 (x1_1 + 1)),(wrap64 (x5_1 + 1)),(by first|rfl|(simp;done)|(simp [*];done)),(by first|rfl|(simp;done)|(simp [*];done)),H',⟨by have:=HK1.out;omega⟩,⟨pr_ HO_0.out⟩,⟨by repeat (first|(with_reducible first|exact HK.out|apply Kept.alloc|apply Kept.drewN|apply Kept.drew)|exact HK.out)⟩,⟨be0_ HB.out⟩⟩
    ·rw [if_neg c4] at H
     exact absurd H (by simp)
   ·rw [if_neg c3] at H
    have c3b0 : decide (x5_1 < (x0_1.length : Int)) = false:=decide_eq_false c3
    clear c3
    simp only [Option.some.injEq,Prod.mk.injEq] at H
    obtain ⟨rfl,rfl⟩:=H
    obtain ⟨Ao9,co9,eo9⟩:=Kd.R_slice HO_0.out
    subst eo9
    go_wp2
    go_ret
    exact ⟨by first|rfl|(simp [errW_none,errW_some] <;> rfl)|(simp [*,errW_none,errW_some] <;> rfl),pr_ HO_0.out,be0_ HB.out,by repeat (first|(with_reducible first|exact HK.out|apply Kept.alloc|apply Kept.drewN|apply Kept.drew)|exact HK.out)⟩
end Go.Proofs.Ytengegdaiphfeaa.X
end
section
namespace Go.Proofs.Ytengegdaiphfeaa.X
open Go.RowKit Go.Proofs.YtengegdaiphfeaaW.PrintWords Go.Proofs.YtengegdaiphfeaaW.PrintLast Go.Proofs.YtengegdaiphfeaaW.PrintMore
attribute [local go_sem] max2_int min2_int max_two min_two max_three min_three max_four min_four
set_option linter.unusedVariables false
set_option linter.unusedSimpArgs false
def laws_markMatrix.f (k : Nat) (a0_0 : Int) (l0_1 : List Int) (a1 : Int) : Option (Int × List Int):=(laws_markIntS.f k l0_1 a1).bind fun bt217 => (some (bt217.1,bt217.2))
theorem laws_markMatrix.mono : ∀ a0 a1 a2 k,LeO (laws_markMatrix.f k a0 a1 a2) (laws_markMatrix.f (k + 1) a0 a1 a2):=by
 intro a0 a1 a2 k
 unfold laws_markMatrix.f
 repeat' first
   | (with_reducible exact laws_markIntS.mono _ _ _)
   | (with_reducible exact LeO.refl _)
   | (with_reducible exact LeO.none _)
   | (with_reducible refine LeO.ite ?_ ?_)
   | (with_reducible refine LeO.bind ?_ (fun _ => ?_))
   | exact laws_markIntS.mono _ _ _
   | exact LeO.none _
   | refine LeO.ite ?_ ?_
   | refine LeO.bind ?_ (fun _ => ?_)
set_option maxHeartbeats 8000000 in
set_option maxRecDepth 100000 in
theorem laws_markMatrix.calls (k : Nat) (a0_0 : Int) (P0_1_ : Nat → Prop) (u9000_ : Value) (l0_1 : List Int) (a1 : Int) (r1 : Int) (r2 : List Int) (w0 w : World) (hB : Below w0.heap.size w0 w) (ho0_1 : Kd.R (Kd.int .i64) 3 w w0.heap.size P0_1_ u9000_ l0_1) (h : laws_markMatrix.f k a0_0 l0_1 a1 = some (r1,r2)) :
  Calls Try.prog 22 #[.agg #[.int .i64 a0_0,u9000_],.int .i64 a1] w fun e w' => e = .returned (.int .i64 r1) ∧ Kd.R (Kd.int .i64) 3 w' w0.heap.size (fun k_ => (P0_1_ k_ ∨ w.heap.size ≤ k_)) u9000_ r2 ∧ Below w0.heap.size w0 w' ∧ Kept w w' (fun k_ => P0_1_ k_):=by
 have hu28:=Try.underlying28
 have HO0_1:=Aside0.mk (show Kd.R (Kd.int .i64) 3 w w0.heap.size (fun k_ => (P0_1_ k_ ∨ w.heap.size ≤ k_)) u9000_ l0_1 from Kd.R_mono ho0_1 (fun k_ hk => (.inl hk)))
 have HK:=Aside0.mk (Kept.refl w (fun k_ => P0_1_ k_))
 have HW0:=Aside0.mk hB.size
 have HB:=Aside0.mk hB
 clear hB
 have H : ((laws_markIntS.f k l0_1 a1).bind fun bt217 => (some (bt217.1,bt217.2))) = some (r1,r2):=h
 clear h
 replace H:=Option.bind_eq_some_iff.mp H
 obtain ⟨⟨t217,t218⟩,A30,H⟩:=H
 replace H : (some (t217,t218)) = some (r1,r2):=H
 have A3:=Aside0.mk A30
 clear A30
 simp only [Option.some.injEq,Prod.mk.injEq] at H
 obtain ⟨rfl,rfl⟩:=H
 obtain ⟨Ao4,co4,eo4⟩:=Kd.R_slice HO0_1.out
 subst eo4
 go_enter Try.func22,Try.ntmps22
 go_wp2_with (first|((with_reducible refine gate_dst (N:=2) rfl ?_);refine box_event ?hg (N:=2) ?hd (cs:=#[.int .i64 a0_0,.slice Ao4 l0_1.length co4]) (t:=28) ?hr ?_;(case hd => rfl);(case hg => rfl);(case hr => first|(go_simp;done)|(go_simp;rfl));intro gb216 hg w5 hbox hb;have n0_:=Aside0.mk (Kd.R_below (pr_ HO0_1.out) hb);have n1_:=Aside0.mk (Kept.below (S:=(fun k_ => P0_1_ k_)) (by repeat (first|(with_reducible first|exact HK.out|apply Kept.alloc|apply Kept.drewN|apply Kept.drew)|exact HK.out)) hb);have n2_:=Aside0.mk (below_step (be0_ HB.out) hb);have n3_:=Aside0.mk (hbox);have n4_:=Aside0.mk ((by rw [hg];exact (by first|exact HK.out.1|exact (show Kept w _ (fun k_ => P0_1_ k_) from by repeat (first|(with_reducible first|exact HK.out|apply Kept.alloc|apply Kept.drewN|apply Kept.drew)|exact HK.out)).1) : w.heap.size ≤ gb216));have n5_:=Aside0.mk ((by rw [hg];exact (below_size (be0_ HB.out)) : w0.heap.size ≤ gb216));clear HO0_1;clear HK;clear HB;have HO0_1:=n0_;have HK:=n1_;have HB:=n2_;have BK216:=n3_;have GW216:=n4_;have GE216:=n5_;clear n0_ n1_ n2_ n3_ n4_ n5_;clear hb hbox hg;have hcz6_0 : w5.cell? ⟨gb216,0,none⟩ = some (.int .i64 a0_0):=(blk_cell BK216.out 0).trans rfl;have hcz6_1 : w5.cell? ⟨gb216,1,none⟩ = some (.slice Ao4 l0_1.length co4):=(blk_cell BK216.out 1).trans rfl;have hfz6_0:=blk_frozen BK216.out 0;have hfz6_1:=blk_frozen BK216.out 1)|((with_reducible refine gate_callee (f:=63) rfl ?_);refine goesL_ (some 8) rfl rfl Try.func63 (by kernel_rfl) rfl #[.slice Ao4 l0_1.length co4,.int .i64 a1] rfl lp_ ?_;(with_reducible refine (laws_markIntS.calls k (fun k_ => some k_ = (.slice Ao4 l0_1.length co4 : Value).ownBlock) (.slice Ao4 l0_1.length co4) l0_1 a1 t217 t218 w0 _ ?side1 ?side2 A3.out).mono ?_);(case side1 => repeat (first|(with_reducible first|exact HB.out|apply below_alloc|apply pw_below_drewN|apply below_drew1|refine below_set ?_ GE216.out)|exact HB.out));(case side2 => exact Kd.R_tight rfl HO0_1.out);rintro e w7 ⟨rfl,hy0,hb,hkp⟩;refine ⟨_,rfl,?_⟩;have n0_:=Aside0.mk (Kd.R_reok rfl hy0 (fun k_ e_ => HO0_1.out.1 k_ e_));have n1_:=Aside0.mk (blk_kept (pe_ BK216.out) hkp (fun hs_ => (fun e_ => (Kd.R_ne HO0_1.out BK216.out (by decide)) e_) hs_));have n2_:=Aside0.mk (Kept.then_ (S:=(fun k_ => P0_1_ k_)) (by repeat (first|(with_reducible first|exact HK.out|apply Kept.alloc|apply Kept.drewN|apply Kept.drew|refine Kept.setCell ?_ (.inr GW216.out) _)|exact HK.out)) hkp (fun k_ hs_ => (fun e_ => (HO0_1.out.1 k_ e_.symm)) hs_));have n3_:=Aside0.mk (hb);clear HO0_1;clear BK216;clear HK;clear HB;have HO0_1:=n0_;have BK216:=n1_;have HK:=n2_;have HB:=n3_;clear n0_ n1_ n2_ n3_;(try clear hb);(try clear hkp);(try clear hy0)))
 go_ret
 exact ⟨by first|rfl|(simp [errW_none,errW_some] <;> rfl)|(simp [*,errW_none,errW_some] <;> rfl),pr_ HO0_1.out,be1_ HB.out GE216.out,by repeat (first|(with_reducible first|exact HK.out|apply Kept.alloc|apply Kept.drewN|apply Kept.drew|refine Kept.setCell ?_ (.inr GW216.out) _)|exact HK.out)⟩
end Go.Proofs.Ytengegdaiphfeaa.X
end
section
namespace Go.Proofs.Ytengegdaiphfeaa.Y
open Go.RowKit Go.Proofs.Ytengegdaiphfeaa.X Go.Proofs.YtengegdaiphfeaaW.PrintWords Go.Proofs.YtengegdaiphfeaaW.PrintLast Go.Proofs.YtengegdaiphfeaaW.PrintMore
set_option linter.unusedVariables false
set_option linter.unusedSimpArgs false
def count : Int → Nat → List Int
 | _,0 => []
 | k,n + 1 => k :: count (k + 1) n
theorem count_length (n : Nat) : ∀ k,(count k n).length = n:=by induction n with
 | zero => intro k;rfl
 | succ n ih => intro k;simp [count,ih]
theorem markIntS_ev (l : List Int) (c : Int) (h : l.length ≤ 1000000000) (h0 : 0 ≤ c) (h1 : c ≤ 1000000000) : Ev (fun k => laws_markIntS.f k l c) (c + l.length,count c l.length):=by
 have go : ∀ (t pre : List Int) (m : Int),pre.length + t.length = l.length → m = c + pre.length → Ev (fun k => laws_markIntS.l0 k (pre ++ t) m (pre.length : Int)) (c + l.length,pre ++ count m t.length):=by
  intro t
  induction t with
  | nil =>
   intro pre m hl hm
   refine Ev.step (f:=fun _ => some (m,pre)) (fun k => ?_) ((Ev.now _).is ?_)
   ·simp only [laws_markIntS.l0];rw [if_neg (by simp)];simp
   ·simp at hl;simp [count];omega
  | cons x t ih =>
   intro pre m hl hm
   simp at hl
   have i:=ih (pre ++ [m]) (m + 1) (by simp;omega) (by simp;omega)
   refine Ev.step (fun k => ?_) (i.is (by simp [count]))
   simp only [laws_markIntS.l0]
   rw [if_pos (by simp;omega),if_pos (by omega),w64 (by omega) (by omega),w64 (by omega) (by omega),snoc_len]
   congr 1
   simp [List.set_append]
 exact (go l [] c (by simp) (by simp))
theorem heldIntS_ev (n : Nat) (c : Int) (h : n ≤ 1000000000) (h0 : 0 ≤ c) (h1 : c ≤ 1000000000) : Ev (fun k => laws_heldIntS.f k (count c n) c) (c + n):=by
 have go : ∀ (m : Nat) (pre : List Int) (z : Int),pre.length + m = n → z = c + pre.length → Ev (fun k => laws_heldIntS.l0 k (pre ++ count z m) z (pre.length : Int)) (c + n):=by
  intro m
  induction m with
  | zero =>
   intro pre z hl hz
   refine Ev.step (f:=fun _ => some z) (fun k => ?_) ((Ev.now _).is (by omega))
   simp only [laws_heldIntS.l0];rw [if_neg (by simp [count])]
  | succ m ih =>
   intro pre z hl hz
   have i:=ih (pre ++ [z]) (z + 1) (by simp;omega) (by simp;omega)
   show Ev (fun k => laws_heldIntS.l0 k (pre ++ z :: count (z + 1) m) z (pre.length : Int)) (c + n)
   refine Ev.step (fun k => ?_) i
   simp only [laws_heldIntS.l0]
   rw [if_pos (by simp [count_length];omega),if_pos (by omega),if_pos (by rw [rd_mid]),w64 (by omega) (by omega),w64 (by omega) (by omega),snoc_len]
   simp
 exact go n [] c (by simp) (by simp)
theorem markMatrix_ev (n : Int) (l : List Int) (c : Int) (h : l.length ≤ 1000000000) (h0 : 0 ≤ c) (h1 : c ≤ 1000000000) : Ev (fun k => laws_markMatrix.f k n l c) (c + l.length,count c l.length):=by
 refine Ev.congr (f:=?f1) (fun k => ?h1) ?k1
 case h1 => unfold laws_markMatrix.f;exact rfl
 exact Ev.bind (markIntS_ev l c h h0 h1) (Ev.now _)
theorem heldMatrix_ev (n : Int) (m : Nat) (c : Int) (h : m ≤ 1000000000) (h0 : 0 ≤ c) (h1 : c ≤ 1000000000) : Ev (fun k => laws_heldMatrix.f k n (count c m) c) (c + m):=by
 refine Ev.congr (f:=?f2) (fun k => ?h2) ?k2
 case h2 => unfold laws_heldMatrix.f;exact rfl
 exact Ev.bind (heldIntS_ev m c h h0 h1) (Ev.congr (f:=fun _ => some (c + m)) (fun k => by rw [if_neg (by omega)]) (Ev.now _))
end Go.Proofs.Ytengegdaiphfeaa.Y
end
section
namespace Go.Proofs.Ytengegdaiphfeaa.Y
open Go.RowKit Go.Proofs.Ytengegdaiphfeaa.X Go.Proofs.YtengegdaiphfeaaW.PrintWords Go.Proofs.YtengegdaiphfeaaW.PrintLast Go.Proofs.YtengegdaiphfeaaW.PrintMore
set_option linter.unusedVariables false
set_option linter.unusedSimpArgs false
theorem GV_iff (n : Nat) (l : List Int) : GV n l ↔ 1 ≤ n ∧ n ≤ 4 ∧ l.length = n * n ∧ Gr l:=by
 constructor
 ·intro h
  refine ⟨(GV_le h).2,(GV_le h).1,GV_len h,fun x hx => ⟨(h.1.2.2.2 x hx).1,h.2 x hx⟩⟩
 ·rintro ⟨h1,h2,h3,h4⟩
  refine ⟨⟨by omega,by omega,by rw [h3];simp,fun x hx => ⟨(h4 x hx).1,?_⟩⟩,fun x hx => (h4 x hx).2⟩
  have:=(h4 x hx).2
  omega
theorem GV_mul (n : Nat) (a b : List Int) (ha : GV n a) (hb : GV n b) : GV n (mulL n a b):=by
 rw [GV_iff] at ha hb ⊢
 exact ⟨ha.1,ha.2.1,mulL_length n a b,mul_gr n a b ha.2.2.2 hb.2.2.2⟩
theorem GV_pw (n : Nat) (l : List Int) (h : GV n l) (m : Nat) : GV n (pw n l m):=by
 induction m with
 | zero => exact h
 | succ m ih => exact GV_mul n _ _ ih h
def upN : Nat → Int → Int
 | 0,c => c
 | m + 1,c => upN m (wrap64 (c + 1))
theorem big16 {n : Nat} {l : List Int} (h : GV n l) : l.length ≤ maxLen:=by have:=len_of_GV h;rw [maxLen_eq];omega
theorem idemOf_loops (n : Nat) (l : List Int) (h : GV n l) (m : Nat) (hm : Idem n (pw n l m)) (hlt : ∀ j,j < m → ¬ Idem n (pw n l j)) :
  ∀ d,d ≤ m → ∀ c : Int,Ev (fun k => impl_IdempotentOf.l0 k c n l n (pw n l (m - d))) ((n : Int),pw n l m,upN d c,true)
   ∧ Ev (fun k => spec_IdempotentOf.l0 k c n l n (pw n l (m - d))) ((n : Int),pw n l m,upN d c,true):=by
 intro d
 induction d with
 | zero =>
  intro _ c
  constructor
  ·refine Ev.step (fun k => by simp only [impl_IdempotentOf.l0] <;> exact rfl) ?_
   refine Ev.bind (iIdem n _ (big16 (GV_pw n l h m))) ?_
   exact Ev_t (decide_eq_true hm) (Ev.now _)
  ·refine Ev.step (fun k => by simp only [spec_IdempotentOf.l0] <;> exact rfl) ?_
   refine Ev.bind (sIdemG n _ (GV_pw n l h m)) ?_
   exact Ev_t (decide_eq_true hm) (Ev.now _)
 | succ d ih =>
  intro hd c
  obtain ⟨i1,i2⟩:=ih (by omega) (wrap64 (c + 1))
  have hno:=hlt (m - (d + 1)) (by omega)
  have e : m - d = m - (d + 1) + 1:=by omega
  rw [e] at i1 i2
  have hg:=GV_pw n l h (m - (d + 1))
  constructor
  ·refine Ev.step (fun k => by simp only [impl_IdempotentOf.l0] <;> exact rfl) ?_
   refine Ev.bind (iIdem n _ (big16 hg)) ?_
   refine Ev_f (by rw [decide_eq_false hno];simp) ?_
   exact Ev.bind (iMul n _ l hg h) i1
  ·refine Ev.step (fun k => by simp only [spec_IdempotentOf.l0] <;> exact rfl) ?_
   refine Ev.bind (sIdemG n _ hg) ?_
   refine Ev_f (by rw [decide_eq_false hno];simp) ?_
   exact Ev.bind (sMul n (GV_le h).1 (GV_le h).2 _ l (GV_len hg) (GV_len h)) i2
theorem idemOf_both (n : Int) (l : List Int) (hl : l.length ≤ 1048576) : ∃ r : Int × List Int × Int × Bool,r.2.1.length ≤ 16 ∧ (∀ m : Nat,n = (m : Int) → GV n l → r.2.2.2 = true ∧ r.1 = n ∧ Idem n r.2.1)
  ∧ Ev (fun k => spec_IdempotentOf.f k n l) r ∧ Ev (fun k => impl_IdempotentOf.f k n l) r:=by
 have hm : l.length ≤ maxLen:=by rw [maxLen_eq];omega
 have own : spec_l13OwnMatrix.f n l = some (n,l):=by
  unfold spec_l13OwnMatrix.f
  rw [Option.bind_some,if_pos (by simp;omega)];simp
 by_cases g : GV n l
 ·obtain ⟨z,rfl⟩:=GV_nat g
  have g':=(GV_iff z l).mp g
  obtain ⟨m,h1,h2⟩:=least (fun m => Idem z (pw z l m)) (by
   obtain ⟨m,hm⟩:=some_idem z l g'.2.2.1 g'.2.2.2
   exact ⟨m,GV_pw z l g m,hm⟩)
  obtain ⟨i1,i2⟩:=idemOf_loops z l g m h1 h2 m (Nat.le_refl _) 1
  rw [Nat.sub_self] at i1 i2
  refine ⟨((z : Int),pw z l m,upN m 1,true),len_of_GV h1.1,fun _ _ _ => ⟨rfl,rfl,h1⟩,?_,?_⟩
  ·unfold spec_IdempotentOf.f
   refine Ev.congr (f:=?f1) (fun k => ?h1) ?k1
   case h1 => rw [own,Option.bind_some] <;> exact rfl
   exact Ev.bind (sGV z l hm) (Ev_t (decide_eq_true g) i2)
  ·unfold impl_IdempotentOf.f
   refine Ev.bind (iGV z l hm) (Ev_t (decide_eq_true g) ?_)
   refine Ev.bind (a:=((z : Int),l)) ?_ i1
   have fe:=filled_ev z g'.2.1 (fun i k => l.getD (i * z + k) 0) (fun K y0 y1 => impl_Matrix_at.f z l y0 y1) (fun i hi k hk => ev_some (fun K => at_eq z g'.2.1 l g'.2.2.1 i k hi hk))
   rw [← eq_sqL z l g'.2.2.1] at fe
   exact fe
 ·refine ⟨(0,[],0,false),by simp,fun _ _ h => absurd h g,?_,?_⟩
  ·unfold spec_IdempotentOf.f
   refine Ev.congr (f:=?f2) (fun k => ?h2) ?k2
   case h2 => rw [own,Option.bind_some] <;> exact rfl
   exact Ev.bind (sGV n l hm) (Ev_f (by rw [decide_eq_false g];simp) (Ev.now _))
  ·unfold impl_IdempotentOf.f
   exact Ev.bind (iGV n l hm) (Ev_f (by rw [decide_eq_false g];simp) (Ev.now _))
end Go.Proofs.Ytengegdaiphfeaa.Y
end
section
namespace Go.Proofs.Ytengegdaiphfeaa.Y
open Go.RowKit Go.Proofs.Ytengegdaiphfeaa.X Go.Proofs.YtengegdaiphfeaaW.PrintWords Go.Proofs.YtengegdaiphfeaaW.PrintLast Go.Proofs.YtengegdaiphfeaaW.PrintMore
set_option linter.unusedVariables false
set_option linter.unusedSimpArgs false
theorem idem_ev (l : List Int) (hl : l.length ≤ 2000) (hb : Bytes l) (s : Nat) (hs : s ≤ 700000) :
  ∃ (n' : Int) (c' : List Int) (s' : Nat),c'.length ≤ 16 ∧ s' ≤ s + 21 ∧ Ev (fun k => spec_l6Idem.f k l (s : Int)) (n',c',(s' : Int)):=by
 obtain ⟨n,c,s1,h1,h2,h3⟩:=some_ev l hl hb s (by omega)
 obtain ⟨v,hv,hp⟩:=pick_ev l hl hb s1 4 (by omega) (by omega) (by omega)
 obtain ⟨r,r1,_,r2,_⟩:=idemOf_both n c (by omega)
 obtain ⟨rn,rl,rc,rb⟩:=r
 by_cases e : v = 0
 ·refine ⟨n,c,s1 + 1,h1,by omega,?_⟩
  unfold spec_l6Idem.f
  refine Ev.bind h3 (Ev.bind hp (Ev_f ?_ (Ev.now _)))
  show ¬ (v : Int) > 0;omega
 ·cases rb with
  | true =>
   refine ⟨rn,rl,s1 + 1,r1,by omega,?_⟩
   unfold spec_l6Idem.f
   refine Ev.bind h3 (Ev.bind hp (Ev_t ?_ (Ev.bind r2 (Ev_t rfl (Ev.now _)))))
   show (v : Int) > 0;omega
  | false =>
   refine ⟨n,c,s1 + 1,h1,by omega,?_⟩
   unfold spec_l6Idem.f
   refine Ev.bind h3 (Ev.bind hp (Ev_t ?_ (Ev.bind r2 (Ev_f (by simp) (Ev.now _)))))
   show (v : Int) > 0;omega
theorem drawStabilise_ev (l : List Int) (hb : Bytes l) : ∃ (n : Int) (c : List Int),c.length ≤ 16 ∧ Ev (fun k => spec_DrawStabilise.f k l) (n,c):=by
 obtain ⟨l',e,h1,h2⟩:=open_eq l
 obtain ⟨n,c,s,g1,_,g2⟩:=idem_ev l' h1 (h2 hb) 0 (by omega)
 refine ⟨n,c,g1,?_⟩
 unfold spec_DrawStabilise.f
 exact Ev_eq e (Ev.bind g2 (Ev.now _))
end Go.Proofs.Ytengegdaiphfeaa.Y
end
section
namespace Go.Proofs.Ytengegdaiphfeaa.Y
open Go.RowKit Go.Proofs.Ytengegdaiphfeaa.X Go.Proofs.YtengegdaiphfeaaW.PrintWords Go.Proofs.YtengegdaiphfeaaW.PrintLast Go.Proofs.YtengegdaiphfeaaW.PrintMore
set_option linter.unusedVariables false
set_option linter.unusedSimpArgs false
theorem some_idem_le (n : Nat) (l : List Int) (hl : l.length = n * n) (hg : Gr l) : ∃ m,m < 4 ^ (n * n) ∧ mulL n (pw n l m) (pw n l m) = pw n l m:=by
 obtain ⟨i,j,hij,hj,he⟩:=pigeon (4 ^ (n * n)) (fun m => code (pw n l m)) (fun m _ => by
  have:=code_lt (pw n l m) (pw_gr n l hg m)
  rwa [pw_len n l hl m] at this)
 have he2 : pw n l i = pw n l j:=code_inj _ _ (pw_gr n l hg i) (pw_gr n l hg j) (by rw [pw_len n l hl,pw_len n l hl]) he
 obtain ⟨d,rfl⟩ : ∃ d,j = i + (d + 1):=⟨j - i - 1,by omega⟩
 have per:=pw_again n l i (d + 1) he2
 have b1 : i / (d + 1) * (d + 1) ≤ i:=Nat.div_mul_le_self _ _
 have b2 : i < i / (d + 1) * (d + 1) + (d + 1):=by
  have h1:=Nat.div_add_mod i (d + 1)
  have h2:=Nat.mod_lt i (show 0 < d + 1 by omega)
  rw [Nat.mul_comm] at h1;omega
 obtain ⟨q,hq⟩ : ∃ q,i / (d + 1) = q:=⟨_,rfl⟩
 rw [hq] at b1 b2
 obtain ⟨Q,hQ⟩ : ∃ Q,q * (d + 1) = Q:=⟨_,rfl⟩
 rw [hQ] at b1 b2
 obtain ⟨p,hp⟩ : ∃ p,Q + (d + 1) = p + 1:=⟨Q + d,by omega⟩
 refine ⟨p,by omega,?_⟩
 have e : p + p + 1 = p + (q + 1) * (d + 1):=by rw [Nat.succ_mul,hQ,hp];omega
 rw [pw_add,e,← per p (by omega) (q + 1)]
theorem upN_succ (m : Nat) (c : Int) : upN (m + 1) c = upN m (wrap64 (c + 1)):=rfl
theorem one_up (c : Nat) (h : c ≤ 8589934592) : wrap64 ((c : Int) + 1) = ((c + 1 : Nat) : Int):=by rw [w64 (x:=(c : Int) + 1) (by omega) (by omega)];omega
theorem one_down (m : Nat) (h : m ≤ 8589934592) : wrap64 (((m + 1 : Nat) : Int) - 1) = (m : Int):=by rw [w64 (x:=((m + 1 : Nat) : Int) - 1) (by omega) (by omega)];omega
theorem upN_eq (m : Nat) : ∀ c : Nat,c + m ≤ 8589934592 → upN m (c : Int) = ((c + m : Nat) : Int):=by
 induction m with
 | zero => intro c h;simp [upN]
 | succ m ih =>
  intro c h
  have e : c + (m + 1) = c + 1 + m:=by omega
  rw [upN_succ,one_up c (by omega),ih (c + 1) (by omega),e]
theorem pow16 (n : Nat) (h : n ≤ 16) : 4 ^ n ≤ 4294967296:=by
 have : 4 ^ n ≤ 4 ^ 16:=Nat.pow_le_pow_right (by omega) h
 have e : 4 ^ 16 = 4294967296:=by decide
 omega
theorem idemOf_found (n : Nat) (l : List Int) (h : GV n l) : ∃ m,m ≤ 4294967296 ∧ Idem n (pw n l m) ∧ (∀ j,j < m → ¬ Idem n (pw n l j))
  ∧ Ev (fun k => spec_IdempotentOf.f k n l) ((n : Int),pw n l m,((m + 1 : Nat) : Int),true) ∧ Ev (fun k => impl_IdempotentOf.f k n l) ((n : Int),pw n l m,((m + 1 : Nat) : Int),true):=by
 have g':=(GV_iff n l).mp h
 have h16:=len_of_GV h
 have hm : l.length ≤ maxLen:=big16 h
 obtain ⟨M,hM1,hM2⟩:=some_idem_le n l g'.2.2.1 g'.2.2.2
 obtain ⟨m,h1,h2⟩:=least (fun m => Idem n (pw n l m)) ⟨M,GV_pw n l h M,hM2⟩
 have hmM : m ≤ M:=by
  by_cases e : m ≤ M
  ·exact e
  ·exact absurd ⟨GV_pw n l h M,hM2⟩ (h2 M (by omega))
 have hp:=pow16 (n * n) (sq_le n g'.2.1)
 obtain ⟨i1,i2⟩:=idemOf_loops n l h m h1 h2 m (Nat.le_refl _) 1
 have eu : upN m 1 = ((m + 1 : Nat) : Int):=by
  have:=upN_eq m 1 (by omega)
  rw [Nat.add_comm] at this;exact this
 rw [Nat.sub_self,eu] at i1 i2
 have own : spec_l13OwnMatrix.f (n : Int) l = some ((n : Int),l):=by
  unfold spec_l13OwnMatrix.f
  rw [Option.bind_some,if_pos (by simp;omega)];simp
 refine ⟨m,by omega,h1,h2,?_,?_⟩
 ·unfold spec_IdempotentOf.f
  refine Ev.congr (f:=?f1) (fun k => ?h1) ?k1
  case h1 => rw [own,Option.bind_some] <;> exact rfl
  exact Ev.bind (sGV n l hm) (Ev_t (decide_eq_true h) i2)
 ·unfold impl_IdempotentOf.f
  refine Ev.bind (iGV n l hm) (Ev_t (decide_eq_true h) ?_)
  refine Ev.bind (a:=((n : Int),l)) ?_ i1
  have fe:=filled_ev n g'.2.1 (fun i k => l.getD (i * n + k) 0) (fun K y0 y1 => impl_Matrix_at.f n l y0 y1) (fun i hi k hk => ev_some (fun K => at_eq n g'.2.1 l g'.2.2.1 i k hi hk))
  rw [← eq_sqL n l g'.2.2.1] at fe
  exact fe
theorem idemOf_not (n : Int) (l : List Int) (hl : l.length ≤ 1048576) (h : ¬ GV n l) : Ev (fun k => spec_IdempotentOf.f k n l) ((0 : Int),[],(0 : Int),false) ∧ Ev (fun k => impl_IdempotentOf.f k n l) ((0 : Int),[],(0 : Int),false):=by
 have hm : l.length ≤ maxLen:=by rw [maxLen_eq];omega
 have own : spec_l13OwnMatrix.f n l = some (n,l):=by
  unfold spec_l13OwnMatrix.f
  rw [Option.bind_some,if_pos (by simp;omega)];simp
 constructor
 ·unfold spec_IdempotentOf.f
  refine Ev.congr (f:=?f2) (fun k => ?h2) ?k2
  case h2 => rw [own,Option.bind_some] <;> exact rfl
  exact Ev.bind (sGV n l hm) (Ev_f (by rw [decide_eq_false h];simp) (Ev.now _))
 ·unfold impl_IdempotentOf.f
  exact Ev.bind (iGV n l hm) (Ev_f (by rw [decide_eq_false h];simp) (Ev.now _))
theorem daSame_ev (a : List Int) (h : a.length ≤ 1000000000) : Ev (fun k => laws_daSame.f k a a) true:=by
 have go : ∀ (t pre : List Int),a = pre ++ t → Ev (fun k => laws_daSame.l0 k a a (a.length : Int) (pre.length : Int)) true:=by
  intro t
  induction t with
  | nil =>
   intro pre ha
   refine Ev.step (f:=fun _ => some ((a.length : Int) == (a.length : Int))) (fun k => ?_) ((Ev.now _).is (by simp))
   simp only [laws_daSame.l0]
   rw [if_neg (by rw [ha];simp)]
  | cons x t ih =>
   intro pre ha
   have hla : a.length = pre.length + (t.length + 1):=by rw [ha];simp
   refine Ev.step (fun k => ?_) (ih (pre ++ [x]) (by simp [ha]))
   simp only [laws_daSame.l0]
   rw [if_pos (by omega),if_pos (by omega),if_pos (by omega),if_pos (by omega),if_pos trivial,w64 (x:=(pre.length : Int) + 1) (by omega) (by omega),snoc_len]
 refine Ev.congr (fun k => ?_) (go a [] rfl)
 unfold laws_daSame.f
 have e : mn (a.length : Int) (a.length : Int) = (a.length : Int):=by unfold mn;rw [if_neg (by omega)]
 rw [e];rfl
theorem daMatrix_ev (n : Int) (a : List Int) (h : a.length ≤ 1000000000) : Ev (fun k => laws_daMatrix.f k n a n a) true:=by
 unfold laws_daMatrix.f
 exact Ev_t rfl (Ev.bind (daSame_ev a h) (Ev.now _))
end Go.Proofs.Ytengegdaiphfeaa.Y
end
section
namespace Go.Proofs.Ytengegdaiphfeaa.X
open Go.RowKit Go.Proofs.YtengegdaiphfeaaW.PrintWords Go.Proofs.YtengegdaiphfeaaW.PrintLast Go.Proofs.YtengegdaiphfeaaW.PrintMore
attribute [local go_sem] max2_int min2_int max_two min_two max_three min_three max_four min_four
set_option linter.unusedVariables false
set_option linter.unusedSimpArgs false
def spec_l6Grades.l0 : Nat → List Int → Int → Int → Int → List Int → Option (Int × List Int)
 | 0,_,_,_,_,_ => none
 | k + 1,x10,x11,x12,x161000,x161001 => if x12 < x11 then (if 0 ≤ x12 then (if x12 < (x10.length : Int) then (if (rd x10 x12) = 0 then (if x161001.length < 17592186044416 then (spec_l6Grades.l0 k x10 x11 (wrap64 (x12 + 1)) x161000 (x161001 ++ [0])) else (none)) else (if (rd x10 x12) = 1000000 then (if x161001.length < 17592186044416 then (spec_l6Grades.l0 k x10 x11 (wrap64 (x12 + 1)) x161000 (x161001 ++ [3])) else (none)) else (if x161001.length < 17592186044416 then (spec_l6Grades.l0 k x10 x11 (wrap64 (x12 + 1)) x161000 (x161001 ++ [1])) else (none)))) else (none)) else (none)) else (some (x161000,x161001))
def spec_l6Grades.f (k : Nat) (a0_0 : Int) (l0_1 : List Int) : Option (Int × List Int):=spec_l6Grades.l0 k l0_1 (l0_1.length : Int) 0 a0_0 ([] : List Int)
theorem spec_l6Grades.mono_l : ∀ k,(∀ y0 y1 y2 y3 y4,LeO (spec_l6Grades.l0 k y0 y1 y2 y3 y4) (spec_l6Grades.l0 (k + 1) y0 y1 y2 y3 y4))
 | 0 => fun _ _ _ _ _ r h => by simp [spec_l6Grades.l0] at h
 | k + 1 => by
  have ih0:=spec_l6Grades.mono_l k
  ·intro y0 y1 y2 y3 y4
   unfold spec_l6Grades.l0
   repeat' first
   | (with_reducible exact ih0 _ _ _ _ _)
   | (with_reducible exact LeO.refl _)
   | (with_reducible exact LeO.none _)
   | (with_reducible refine LeO.ite ?_ ?_)
   | (with_reducible refine LeO.bind ?_ (fun _ => ?_))
   | exact ih0 _ _ _ _ _
   | exact LeO.none _
   | refine LeO.ite ?_ ?_
   | refine LeO.bind ?_ (fun _ => ?_)
theorem spec_l6Grades.mono : ∀ a0 a1 k,LeO (spec_l6Grades.f k a0 a1) (spec_l6Grades.f (k + 1) a0 a1):=by
 intro a0 a1 k
 have ih0:=spec_l6Grades.mono_l k
 unfold spec_l6Grades.f
 repeat' first
   | (with_reducible exact ih0 _ _ _ _ _)
   | (with_reducible exact LeO.refl _)
   | (with_reducible exact LeO.none _)
   | (with_reducible refine LeO.ite ?_ ?_)
   | (with_reducible refine LeO.bind ?_ (fun _ => ?_))
   | exact ih0 _ _ _ _ _
   | exact LeO.none _
   | refine LeO.ite ?_ ?_
   | refine LeO.bind ?_ (fun _ => ?_)
set_option maxHeartbeats 8000000 in
set_option maxRecDepth 100000 in
theorem spec_l6Grades.calls (k : Nat) (a0_0 : Int) (A0_1 : Option Addr) (c0_1 : Nat) (l0_1 : List Int) (r1 : Int) (r2 : List Int) (w : World) (hr0_1 : Kd.C (Kd.int .i64) w A0_1 l0_1.length l0_1) (hc0_1 : l0_1.length ≤ c0_1) (h : spec_l6Grades.f k a0_0 l0_1 = some (r1,r2)) :
  Calls Try.prog 56 #[.agg #[.int .i64 a0_0,.slice A0_1 l0_1.length c0_1]] w fun e w' => ∃ v1_ : Value,e = .returned (.agg #[.int .i64 r1,v1_]) ∧ Kd.R (Kd.int .i64) 3 w' w.heap.size (fun _ => True) v1_ r2 ∧ Below w.heap.size w w':=by
 have hu28:=Try.underlying28
 have HR0_1:=Aside0.mk hr0_1
 have HC0_1:=Aside0.mk hc0_1
 clear hr0_1 hc0_1
 have HB:=Aside0.mk (Below.refl w.heap.size w)
 have H : (spec_l6Grades.l0 k l0_1 (l0_1.length : Int) 0 a0_0 ([] : List Int)) = some (r1,r2):=h
 clear h
 have H':=Aside0.mk H
 clear H
 go_enter Try.func56,Try.ntmps56
 go_wp2_with (first|((with_reducible refine gate_dst (N:=1) rfl ?_);refine box_event ?hg (N:=1) ?hd (cs:=#[.int .i64 a0_0,.slice A0_1 l0_1.length c0_1]) (t:=28) ?hr ?_;(case hd => rfl);(case hg => rfl);(case hr => first|(go_simp;done)|(go_simp;rfl));intro gb158 hg w2 hbox hb;have n0_:=Aside0.mk (below_step (be0_ HB.out) hb);have n1_:=Aside0.mk (hbox);have n2_:=Aside0.mk ((by rw [hg];exact (below_size (be0_ HB.out)) : w.heap.size ≤ gb158));have n3_:=Aside0.mk ((by rw [hg];exact (below_size (be0_ HB.out)) : w.heap.size ≤ gb158));clear HB;have HB:=n0_;have BK158:=n1_;have GW158:=n2_;have GE158:=n3_;clear n0_ n1_ n2_ n3_;clear hb hbox hg)|((with_reducible refine gate_dst (N:=2) rfl ?_);refine box_event ?hg (N:=2) ?hd (cs:=#[.int .i64 0,.slice none 0 0]) (t:=28) ?hr ?_;(case hd => rfl);(case hg => rfl);(case hr => first|(go_simp;done)|(go_simp;rfl));intro gb159 hg w3 hbox hb;have n0_:=Aside0.mk (blk_below (g:=gb158) (o:=.cells #[.int .i64 a0_0,.slice A0_1 l0_1.length c0_1] 28 (0,0)) (pe_ BK158.out) hb);have n1_:=Aside0.mk (below_step (be1_ HB.out GE158.out) hb);have n2_:=Aside0.mk (hbox);have n3_:=Aside0.mk ((by rw [hg];exact (below_size (be1_ HB.out GE158.out)) : w.heap.size ≤ gb159));have n4_:=Aside0.mk ((by rw [hg];exact (below_size (be1_ HB.out GE158.out)) : w.heap.size ≤ gb159));have n5_:=Aside0.mk ((by rw [hg];exact Nat.ne_of_lt (blk_lt (g:=gb158) (o:=.cells #[.int .i64 a0_0,.slice A0_1 l0_1.length c0_1] 28 (0,0)) (pe_ BK158.out)) : gb158 ≠ gb159));have n6_:=Aside0.mk ((by rw [hg];exact Nat.ne_of_gt (blk_lt (g:=gb158) (o:=.cells #[.int .i64 a0_0,.slice A0_1 l0_1.length c0_1] 28 (0,0)) (pe_ BK158.out)) : gb159 ≠ gb158));clear BK158;clear HB;have BK158:=n0_;have HB:=n1_;have BK159:=n2_;have GW159:=n3_;have GE159:=n4_;have NB158_159:=n5_;have NB159_158:=n6_;clear n0_ n1_ n2_ n3_ n4_ n5_ n6_;clear hb hbox hg;have hnb4:=NB158_159.out;have hnc4:=NB159_158.out;have hcz5_0 : w3.cell? ⟨gb158,0,none⟩ = some (.int .i64 a0_0):=(blk_cell BK158.out 0).trans rfl;have hcz5_1 : w3.cell? ⟨gb158,1,none⟩ = some (.slice A0_1 l0_1.length c0_1):=(blk_cell BK158.out 1).trans rfl;have hfz5_0:=blk_frozen BK158.out 0;have hfz5_1:=blk_frozen BK158.out 1)|((with_reducible refine gate_dst (N:=3) rfl ?_);refine box_event ?hg (N:=3) ?hd (cs:=#[.int .i64 0,.slice none 0 0]) (t:=28) ?hr ?_;(case hd => rfl);(case hg => rfl);(case hr => first|(go_simp;done)|(go_simp;rfl));intro gb160 hg w6 hbox hb;have n0_:=Aside0.mk (blk_below (g:=gb158) (o:=.cells #[.int .i64 a0_0,.slice A0_1 l0_1.length c0_1] 28 (0,0)) (pe_ BK158.out) hb);have n1_:=Aside0.mk (blk_below (g:=gb159) (o:=.cells #[.int .i64 0,.slice none 0 0] 28 (0,0)) (pe_ BK159.out) hb);have n2_:=Aside0.mk (below_step (be2_ HB.out GE158.out GE159.out) hb);have n3_:=Aside0.mk (hbox);have n4_:=Aside0.mk ((by rw [hg];exact (below_size (be2_ HB.out GE158.out GE159.out)) : w.heap.size ≤ gb160));have n5_:=Aside0.mk ((by rw [hg];exact (below_size (be2_ HB.out GE158.out GE159.out)) : w.heap.size ≤ gb160));have n6_:=Aside0.mk ((by rw [hg];exact Nat.ne_of_lt (blk_lt (g:=gb158) (o:=.cells #[.int .i64 a0_0,.slice A0_1 l0_1.length c0_1] 28 (0,0)) (pe_ BK158.out)) : gb158 ≠ gb160));have n7_:=Aside0.mk ((by rw [hg];exact Nat.ne_of_gt (blk_lt (g:=gb158) (o:=.cells #[.int .i64 a0_0,.slice A0_1 l0_1.length c0_1] 28 (0,0)) (pe_ BK158.out)) : gb160 ≠ gb158));have n8_:=Aside0.mk ((by rw [hg];exact Nat.ne_of_lt (blk_lt (g:=gb159) (o:=.cells #[.int .i64 0,.slice none 0 0] 28 (0,0)) (pe_ BK159.out)) : gb159 ≠ gb160));have n9_:=Aside0.mk ((by rw [hg];exact Nat.ne_of_gt (blk_lt (g:=gb159) (o:=.cells #[.int .i64 0,.slice none 0 0] 28 (0,0)) (pe_ BK159.out)) : gb160 ≠ gb159));clear BK158;clear BK159;clear HB;have BK158:=n0_;have BK159:=n1_;have HB:=n2_;have BK160:=n3_;have GW160:=n4_;have GE160:=n5_;have NB158_160:=n6_;have NB160_158:=n7_;have NB159_160:=n8_;have NB160_159:=n9_;clear n0_ n1_ n2_ n3_ n4_ n5_ n6_ n7_ n8_ n9_;clear hb hbox hg;have hnb7:=NB160_158.out;have hnc7:=NB158_160.out;have hnb8:=NB160_159.out;have hnc8:=NB159_160.out;have hcz9_0 : w6.cell? ⟨gb160,0,none⟩ = some (.int .i64 0):=(blk_cell BK160.out 0).trans rfl;have hcz9_1 : w6.cell? ⟨gb160,1,none⟩ = some (.slice none 0 0):=(blk_cell BK160.out 1).trans rfl;have hfz9_0:=blk_frozen BK160.out 0;have hfz9_1:=blk_frozen BK160.out 1;have hcz10_0 : w6.cell? ⟨gb158,0,none⟩ = some (.int .i64 a0_0):=(blk_cell BK158.out 0).trans rfl;have hcz10_1 : w6.cell? ⟨gb158,1,none⟩ = some (.slice A0_1 l0_1.length c0_1):=(blk_cell BK158.out 1).trans rfl;have hfz10_0:=blk_frozen BK158.out 0;have hfz10_1:=blk_frozen BK158.out 1))
 go_loopg [12] k (fun kq v12 w' => ∃ (x12_1 : Int) (x161001_1 : List Int) (u161001 : Value),v12 = .int .i64 x12_1 ∧ Aside0 (spec_l6Grades.l0 kq l0_1 (l0_1.length : Int) x12_1 a0_0 x161001_1 = some (r1,r2)) ∧ Aside0 (kq ≤ k) ∧ Aside0 (Kd.R (Kd.int .i64) 3 w' w.heap.size (fun _ => True) u161001 x161001_1) ∧ Aside0 (w'.heap[gb158]? = some (.cells #[.int .i64 a0_0,(.slice A0_1 l0_1.length c0_1)] 28 (0,0))) ∧ Aside0 (w'.heap[gb159]? = some (.cells #[.int .i64 0,(.slice none 0 0)] 28 (0,0))) ∧ Aside0 (w'.heap[gb160]? = some (.cells #[.int .i64 a0_0,u161001] 28 (0,0))) ∧ Aside0 (Below w.heap.size w w'))
 case atStart => exact ⟨(0),(([] : List Int)),(.slice none 0 0),(by first|rfl|(simp;done)|(simp [*];done)),H',⟨Nat.le_refl _⟩,⟨by first|exact Kd.R_nil _ _ _ _ _|exact Kd.N_nil _ _ _ _ _|exact Kd.V_nil _ _ _ _ _|exact Kd.Q_nil _ _ _ _ _|exact Kd.S_nil _ _ _ _ _⟩,⟨by refine pe_ ?_;refine blk_far ?_ NB158_160.out _;refine pe_ ?_;refine blk_far ?_ NB158_160.out _;refine pe_ ?_;exact BK158.out⟩,⟨by refine pe_ ?_;refine blk_far ?_ NB159_160.out _;refine pe_ ?_;refine blk_far ?_ NB159_160.out _;refine pe_ ?_;exact BK159.out⟩,⟨by refine pe_ ?_;refine blk_put (cs:=#[.int .i64 a0_0,.slice none 0 0]) ?_ 1 _ rfl;refine pe_ ?_;refine blk_put (cs:=#[.int .i64 0,.slice none 0 0]) ?_ 0 _ rfl;refine pe_ ?_;exact BK160.out⟩,⟨be3_ HB.out GE158.out GE159.out GE160.out⟩⟩
 case round =>
  clear H'
  try clear p2
  try clear c4
  try clear c5
  try clear c7
  try clear c8
  try clear hcz10_0
  try clear hcz10_1
  try clear hcz5_0
  try clear hcz5_1
  try clear hcz9_0
  try clear hcz9_1
  try clear hfz10_0
  try clear hfz10_1
  try clear hfz5_0
  try clear hfz5_1
  try clear hfz9_0
  try clear hfz9_1
  obtain ⟨x12_1,x161001_1,u161001,rfl,HA,HK1,HO_161001,BK158,BK159,BK160,HB⟩:=hrel
  cases gk with
  | zero => exact absurd HA.out (by simp [spec_l6Grades.l0])
  | succ k1 =>
   have H:=HA.out
   clear HA
   simp only [spec_l6Grades.l0] at H
   by_cases c11 : x12_1 < (l0_1.length : Int)
   ·rw [if_pos c11] at H
    have c11b0 : decide (x12_1 < (l0_1.length : Int)) = true:=decide_eq_true c11
    clear c11
    by_cases c12 : 0 ≤ x12_1
    ·rw [if_pos c12] at H
     have c12b0 : decide (0 ≤ x12_1) = true:=decide_eq_true c12
     clear c12
     by_cases c13 : x12_1 < (l0_1.length : Int)
     ·rw [if_pos c13] at H
      have c13b0 : decide (x12_1 < (l0_1.length : Int)) = true:=decide_eq_true c13
      clear c13
      by_cases c14 : (rd l0_1 x12_1) = 0
      ·rw [if_pos c14] at H
       have c14b0 : ((rd l0_1 x12_1) == 0) = true:=beq_iff_eq.mpr c14
       have c14b1 : ((rd l0_1 x12_1) != 0) = false:=bne_eq_false_iff_eq.mpr c14
       clear c14
       by_cases c15 : x161001_1.length < 17592186044416
       ·rw [if_pos c15] at H
        have LMc15:=Aside0.mk c15
        clear c15
        obtain ⟨y162,hy162⟩ : ∃ y_ : List Int,y_ = (x161001_1 ++ [0]):=⟨_,rfl⟩
        replace H : (spec_l6Grades.l0 k1 l0_1 (l0_1.length : Int) (wrap64 (x12_1 + 1)) a0_0 y162) = some (r1,r2):=by first|(rw [hy162];with_reducible exact H)|(have H2_:=(Option.bind_some _ _).symm.trans H;rw [hy162];with_reducible exact H2_)|(have H2_:=(Option.bind_some _ _).symm.trans H;with_reducible exact H2_)|with_reducible exact H|(rw [hy162];exact H)|exact H
        have Ny162:=Aside0.mk hy162
        clear hy162
        have H':=Aside0.mk H
        clear H
        have p161 : 0 ≤ (x12_1 : Int):=of_decide_eq_true (by first|(with_reducible assumption)|assumption)
        have q161 : x12_1 < (l0_1.length : Int):=of_decide_eq_true (by first|(with_reducible assumption)|assumption)
        obtain ⟨ad161,e161,hx161_0⟩:=Kd.at_int HR0_1.out x12_1 p161 q161
        cases e161
        replace hx161_0:=(HB.out.cell (World.block_lt_of_cell? w _ hx161_0)).trans hx161_0
        replace p161:=eq_true p161
        replace q161:=eq_true q161
        have hnb16:=NB160_158.out
        have hnc16:=NB158_160.out
        have hnb17:=NB160_159.out
        have hnc17:=NB159_160.out
        have hcz18_0 : wr.cell? ⟨gb160,0,none⟩ = some (.int .i64 a0_0):=(blk_cell BK160.out 0).trans rfl
        have hcz18_1 : wr.cell? ⟨gb160,1,none⟩ = some (u161001):=(blk_cell BK160.out 1).trans rfl
        have hfz18_0:=blk_frozen BK160.out 0
        have hfz18_1:=blk_frozen BK160.out 1
        go_wp2_with (first|((with_reducible refine gate_builtin (b:=.append) (xs:=#[.tmp 25,.tmp 26]) rfl ?_);at_builtin;refine Kd.R_append (Kd.int .i64) (w0:=w) w.heap.size rfl (.tmp 25) (.tmp 26) 24 3 (.int .i64 0) 8 rfl Try.underlying24 info3 rfl (by decide) (by omega) u161001 x161001_1 0 [.int .i64 0] (fun _ => True) (fun _ => False) rfl rfl ?aP (fun _ hk => hk.elim) ?aF ?aO ?aB ?aS ?aL ?_;(case aP => exact rfl);(case aB => exact (be3_ HB.out GE158.out GE159.out GE160.out));(case aF => exact (fun _ _ => trivial));(case aO => exact (pr_ HO_161001.out));(case aS => exact (below_size (be3_ HB.out GE158.out GE159.out GE160.out)));(case aL => have:=LMc15.out;omega);intro v163 w19 ho hb hg hat;rw [← Ny162.out] at ho;have n0_:=Aside0.mk (blk_grown (g:=gb158) (o:=.cells #[.int .i64 a0_0,.slice (some ad161) l0_1.length c0_1] 28 (0,0)) (pe_ BK158.out) hg (Kd.R_ne HO_161001.out BK158.out (by decide)));have n1_:=Aside0.mk (blk_grown (g:=gb159) (o:=.cells #[.int .i64 0,.slice none 0 0] 28 (0,0)) (pe_ BK159.out) hg (Kd.R_ne HO_161001.out BK159.out (by decide)));have n2_:=Aside0.mk (blk_grown (g:=gb160) (o:=.cells #[.int .i64 a0_0,u161001] 28 (0,0)) (pe_ BK160.out) hg (Kd.R_ne HO_161001.out BK160.out (by decide)));have n3_:=Aside0.mk (hb);have n4_:=Aside0.mk (ho);clear BK158;clear BK159;clear BK160;clear HB;clear HO_161001;have BK158:=n0_;have BK159:=n1_;have BK160:=n2_;have HB:=n3_;have HO164:=n4_;clear n0_ n1_ n2_ n3_ n4_;clear ho hb hg hat;obtain ⟨Ao20,co20,eo20⟩:=Kd.R_slice HO164.out;subst eo20;have hcz21_0 : w19.cell? ⟨gb160,0,none⟩ = some (.int .i64 a0_0):=(blk_cell BK160.out 0).trans rfl;have hcz21_1 : w19.cell? ⟨gb160,1,none⟩ = some (u161001):=(blk_cell BK160.out 1).trans rfl;have hfz21_0:=blk_frozen BK160.out 0;have hfz21_1:=blk_frozen BK160.out 1))
        go_roundg k1
        case measure => have:=HK1.out;omega
        case rel => exact ⟨(wrap64 (x12_1 + 1)),(y162),(.slice Ao20 y162.length co20),(by first|rfl|(simp;done)|(simp [*];done)),H',⟨by have:=HK1.out;omega⟩,⟨by refine pr_ ?_;exact Kd.R_mono (Kd.R_far (p:=⟨gb160,1,none⟩) (Kd.R_types HO164.out BK160.out (by decide)) (fun _ hk => hk.2) (.slice Ao20 y162.length co20)) (fun _ hk => trivial)⟩,⟨by refine pe_ ?_;refine blk_far ?_ NB158_160.out _;refine pe_ ?_;exact BK158.out⟩,⟨by refine pe_ ?_;refine blk_far ?_ NB159_160.out _;refine pe_ ?_;exact BK159.out⟩,⟨by refine pe_ ?_;refine blk_put (cs:=#[.int .i64 a0_0,u161001]) ?_ 1 _ rfl;refine pe_ ?_;exact BK160.out⟩,⟨be3_ HB.out GE158.out GE159.out GE160.out⟩⟩
       ·rw [if_neg c15] at H
        exact absurd H (by simp)
      ·rw [if_neg c14] at H
       have c14b0 : ((rd l0_1 x12_1) == 0) = false:=beq_eq_false_iff_ne.mpr c14
       have c14b1 : ((rd l0_1 x12_1) != 0) = true:=bne_iff_ne.mpr c14
       by_cases c22 : (rd l0_1 x12_1) = 1000000
       ·rw [if_pos c22] at H
        have c22b0 : ((rd l0_1 x12_1) == 1000000) = true:=beq_iff_eq.mpr c22
        have c22b1 : ((rd l0_1 x12_1) != 1000000) = false:=bne_eq_false_iff_eq.mpr c22
        clear c22
        by_cases c23 : x161001_1.length < 17592186044416
        ·rw [if_pos c23] at H
         have LMc23:=Aside0.mk c23
         clear c23
         obtain ⟨y165,hy165⟩ : ∃ y_ : List Int,y_ = (x161001_1 ++ [3]):=⟨_,rfl⟩
         replace H : (spec_l6Grades.l0 k1 l0_1 (l0_1.length : Int) (wrap64 (x12_1 + 1)) a0_0 y165) = some (r1,r2):=by first|(rw [hy165];with_reducible exact H)|(have H2_:=(Option.bind_some _ _).symm.trans H;rw [hy165];with_reducible exact H2_)|(have H2_:=(Option.bind_some _ _).symm.trans H;with_reducible exact H2_)|with_reducible exact H|(rw [hy165];exact H)|exact H
         have Ny165:=Aside0.mk hy165
         clear hy165
         have H':=Aside0.mk H
         clear H
         have p161 : 0 ≤ (x12_1 : Int):=of_decide_eq_true (by first|(with_reducible assumption)|assumption)
         have q161 : x12_1 < (l0_1.length : Int):=of_decide_eq_true (by first|(with_reducible assumption)|assumption)
         obtain ⟨ad161,e161,hx161_0⟩:=Kd.at_int HR0_1.out x12_1 p161 q161
         cases e161
         replace hx161_0:=(HB.out.cell (World.block_lt_of_cell? w _ hx161_0)).trans hx161_0
         replace p161:=eq_true p161
         replace q161:=eq_true q161
         have hnb24:=NB160_158.out
         have hnc24:=NB158_160.out
         have hnb25:=NB160_159.out
         have hnc25:=NB159_160.out
         have hcz26_0 : wr.cell? ⟨gb160,0,none⟩ = some (.int .i64 a0_0):=(blk_cell BK160.out 0).trans rfl
         have hcz26_1 : wr.cell? ⟨gb160,1,none⟩ = some (u161001):=(blk_cell BK160.out 1).trans rfl
         have hfz26_0:=blk_frozen BK160.out 0
         have hfz26_1:=blk_frozen BK160.out 1
         go_wp2_with (first|((with_reducible refine gate_builtin (b:=.append) (xs:=#[.tmp 32,.tmp 33]) rfl ?_);at_builtin;refine Kd.R_append (Kd.int .i64) (w0:=w) w.heap.size rfl (.tmp 32) (.tmp 33) 24 3 (.int .i64 0) 8 rfl Try.underlying24 info3 rfl (by decide) (by omega) u161001 x161001_1 3 [.int .i64 3] (fun _ => True) (fun _ => False) rfl rfl ?aP (fun _ hk => hk.elim) ?aF ?aO ?aB ?aS ?aL ?_;(case aP => exact rfl);(case aB => exact (be3_ HB.out GE158.out GE159.out GE160.out));(case aF => exact (fun _ _ => trivial));(case aO => exact (pr_ HO_161001.out));(case aS => exact (below_size (be3_ HB.out GE158.out GE159.out GE160.out)));(case aL => have:=LMc23.out;omega);intro v166 w27 ho hb hg hat;rw [← Ny165.out] at ho;have n0_:=Aside0.mk (blk_grown (g:=gb158) (o:=.cells #[.int .i64 a0_0,.slice (some ad161) l0_1.length c0_1] 28 (0,0)) (pe_ BK158.out) hg (Kd.R_ne HO_161001.out BK158.out (by decide)));have n1_:=Aside0.mk (blk_grown (g:=gb159) (o:=.cells #[.int .i64 0,.slice none 0 0] 28 (0,0)) (pe_ BK159.out) hg (Kd.R_ne HO_161001.out BK159.out (by decide)));have n2_:=Aside0.mk (blk_grown (g:=gb160) (o:=.cells #[.int .i64 a0_0,u161001] 28 (0,0)) (pe_ BK160.out) hg (Kd.R_ne HO_161001.out BK160.out (by decide)));have n3_:=Aside0.mk (hb);have n4_:=Aside0.mk (ho);clear BK158;clear BK159;clear BK160;clear HB;clear HO_161001;have BK158:=n0_;have BK159:=n1_;have BK160:=n2_;have HB:=n3_;have HO167:=n4_;clear n0_ n1_ n2_ n3_ n4_;clear ho hb hg hat;obtain ⟨Ao28,co28,eo28⟩:=Kd.R_slice HO167.out;subst eo28;have hcz29_0 : w27.cell? ⟨gb160,0,none⟩ = some (.int .i64 a0_0):=(blk_cell BK160.out 0).trans rfl;have hcz29_1 : w27.cell? ⟨gb160,1,none⟩ = some (u161001):=(blk_cell BK160.out 1).trans rfl;have hfz29_0:=blk_frozen BK160.out 0;have hfz29_1:=blk_frozen BK160.out 1))
         go_roundg k1
         case measure => have:=HK1.out;omega
         case rel => exact ⟨(wrap64 (x12_1 + 1)),(y165),(.slice Ao28 y165.length co28),(by first|rfl|(simp;done)|(simp [*];done)),H',⟨by have:=HK1.out;omega⟩,⟨by refine pr_ ?_;exact Kd.R_mono (Kd.R_far (p:=⟨gb160,1,none⟩) (Kd.R_types HO167.out BK160.out (by decide)) (fun _ hk => hk.2) (.slice Ao28 y165.length co28)) (fun _ hk => trivial)⟩,⟨by refine pe_ ?_;refine blk_far ?_ NB158_160.out _;refine pe_ ?_;exact BK158.out⟩,⟨by refine pe_ ?_;refine blk_far ?_ NB159_160.out _;refine pe_ ?_;exact BK159.out⟩,⟨by refine pe_ ?_;refine blk_put (cs:=#[.int .i64 a0_0,u161001]) ?_ 1 _ rfl;refine pe_ ?_;exact BK160.out⟩,⟨be3_ HB.out GE158.out GE159.out GE160.out⟩⟩
        ·rw [if_neg c23] at H
         exact absurd H (by simp)
       ·rw [if_neg c22] at H
        have c22b0 : ((rd l0_1 x12_1) == 1000000) = false:=beq_eq_false_iff_ne.mpr c22
        have c22b1 : ((rd l0_1 x12_1) != 1000000) = true:=bne_iff_ne.mpr c22
        by_cases c30 : x161001_1.length < 17592186044416
        ·rw [if_pos c30] at H
         have LMc30:=Aside0.mk c30
         clear c30
         obtain ⟨y168,hy168⟩ : ∃ y_ : List Int,y_ = (x161001_1 ++ [1]):=⟨_,rfl⟩
         replace H : (spec_l6Grades.l0 k1 l0_1 (l0_1.length : Int) (wrap64 (x12_1 + 1)) a0_0 y168) = some (r1,r2):=by first|(rw [hy168];with_reducible exact H)|(have H2_:=(Option.bind_some _ _).symm.trans H;rw [hy168];with_reducible exact H2_)|(have H2_:=(Option.bind_some _ _).symm.trans H;with_reducible exact H2_)|with_reducible exact H|(rw [hy168];exact H)|exact H
         have Ny168:=Aside0.mk hy168
         clear hy168
         have H':=Aside0.mk H
         clear H
         have p161 : 0 ≤ (x12_1 : Int):=of_decide_eq_true (by first|(with_reducible assumption)|assumption)
         have q161 : x12_1 < (l0_1.length : Int):=of_decide_eq_true (by first|(with_reducible assumption)|assumption)
         obtain ⟨ad161,e161,hx161_0⟩:=Kd.at_int HR0_1.out x12_1 p161 q161
         cases e161
         replace hx161_0:=(HB.out.cell (World.block_lt_of_cell? w _ hx161_0)).trans hx161_0
         replace p161:=eq_true p161
         replace q161:=eq_true q161
         have hnb31:=NB160_158.out
         have hnc31:=NB158_160.out
         have hnb32:=NB160_159.out
         have hnc32:=NB159_160.out
         have hcz33_0 : wr.cell? ⟨gb160,0,none⟩ = some (.int .i64 a0_0):=(blk_cell BK160.out 0).trans rfl
         have hcz33_1 : wr.cell? ⟨gb160,1,none⟩ = some (u161001):=(blk_cell BK160.out 1).trans rfl
         have hfz33_0:=blk_frozen BK160.out 0
         have hfz33_1:=blk_frozen BK160.out 1
         go_wp2_with (first|((with_reducible refine gate_builtin (b:=.append) (xs:=#[.tmp 18,.tmp 19]) rfl ?_);at_builtin;refine Kd.R_append (Kd.int .i64) (w0:=w) w.heap.size rfl (.tmp 18) (.tmp 19) 24 3 (.int .i64 0) 8 rfl Try.underlying24 info3 rfl (by decide) (by omega) u161001 x161001_1 1 [.int .i64 1] (fun _ => True) (fun _ => False) rfl rfl ?aP (fun _ hk => hk.elim) ?aF ?aO ?aB ?aS ?aL ?_;(case aP => exact rfl);(case aB => exact (be3_ HB.out GE158.out GE159.out GE160.out));(case aF => exact (fun _ _ => trivial));(case aO => exact (pr_ HO_161001.out));(case aS => exact (below_size (be3_ HB.out GE158.out GE159.out GE160.out)));(case aL => have:=LMc30.out;omega);intro v169 w34 ho hb hg hat;rw [← Ny168.out] at ho;have n0_:=Aside0.mk (blk_grown (g:=gb158) (o:=.cells #[.int .i64 a0_0,.slice (some ad161) l0_1.length c0_1] 28 (0,0)) (pe_ BK158.out) hg (Kd.R_ne HO_161001.out BK158.out (by decide)));have n1_:=Aside0.mk (blk_grown (g:=gb159) (o:=.cells #[.int .i64 0,.slice none 0 0] 28 (0,0)) (pe_ BK159.out) hg (Kd.R_ne HO_161001.out BK159.out (by decide)));have n2_:=Aside0.mk (blk_grown (g:=gb160) (o:=.cells #[.int .i64 a0_0,u161001] 28 (0,0)) (pe_ BK160.out) hg (Kd.R_ne HO_161001.out BK160.out (by decide)));have n3_:=Aside0.mk (hb);have n4_:=Aside0.mk (ho);clear BK158;clear BK159;clear BK160;clear HB;clear HO_161001;have BK158:=n0_;have BK159:=n1_;have BK160:=n2_;have HB:=n3_;have HO170:=n4_;clear n0_ n1_ n2_ n3_ n4_;clear ho hb hg hat;obtain ⟨Ao35,co35,eo35⟩:=Kd.R_slice HO170.out;subst eo35;have hcz36_0 : w34.cell? ⟨gb160,0,none⟩ = some (.int .i64 a0_0):=(blk_cell BK160.out 0).trans rfl;have hcz36_1 : w34.cell? ⟨gb160,1,none⟩ = some (u161001):=(blk_cell BK160.out 1).trans rfl;have hfz36_0:=blk_frozen BK160.out 0;have hfz36_1:=blk_frozen BK160.out 1))
         go_roundg k1
         case measure => have:=HK1.out;omega
         case rel => exact ⟨(wrap64 (x12_1 + 1)),(y168),(.slice Ao35 y168.length co35),(by first|rfl|(simp;done)|(simp [*];done)),H',⟨by have:=HK1.out;omega⟩,⟨by refine pr_ ?_;exact Kd.R_mono (Kd.R_far (p:=⟨gb160,1,none⟩) (Kd.R_types HO170.out BK160.out (by decide)) (fun _ hk => hk.2) (.slice Ao35 y168.length co35)) (fun _ hk => trivial)⟩,⟨by refine pe_ ?_;refine blk_far ?_ NB158_160.out _;refine pe_ ?_;exact BK158.out⟩,⟨by refine pe_ ?_;refine blk_far ?_ NB159_160.out _;refine pe_ ?_;exact BK159.out⟩,⟨by refine pe_ ?_;refine blk_put (cs:=#[.int .i64 a0_0,u161001]) ?_ 1 _ rfl;refine pe_ ?_;exact BK160.out⟩,⟨be3_ HB.out GE158.out GE159.out GE160.out⟩⟩
        ·rw [if_neg c30] at H
         exact absurd H (by simp)
     ·rw [if_neg c13] at H
      exact absurd H (by simp)
    ·rw [if_neg c12] at H
     exact absurd H (by simp)
   ·rw [if_neg c11] at H
    have c11b0 : decide (x12_1 < (l0_1.length : Int)) = false:=decide_eq_false c11
    clear c11
    simp only [Option.some.injEq,Prod.mk.injEq] at H
    obtain ⟨rfl,rfl⟩:=H
    have hnb37:=NB160_158.out
    have hnc37:=NB158_160.out
    have hnb38:=NB160_159.out
    have hnc38:=NB159_160.out
    have hcz39_0 : wr.cell? ⟨gb160,0,none⟩ = some (.int .i64 a0_0):=(blk_cell BK160.out 0).trans rfl
    have hcz39_1 : wr.cell? ⟨gb160,1,none⟩ = some (u161001):=(blk_cell BK160.out 1).trans rfl
    have hfz39_0:=blk_frozen BK160.out 0
    have hfz39_1:=blk_frozen BK160.out 1
    have hnb40:=NB159_158.out
    have hnc40:=NB158_159.out
    have hcz41_0 : wr.cell? ⟨gb159,0,none⟩ = some (.int .i64 0):=(blk_cell BK159.out 0).trans rfl
    have hcz41_1 : wr.cell? ⟨gb159,1,none⟩ = some (.slice none 0 0):=(blk_cell BK159.out 1).trans rfl
    have hfz41_0:=blk_frozen BK159.out 0
    have hfz41_1:=blk_frozen BK159.out 1
    obtain ⟨Ao42,co42,eo42⟩:=Kd.R_slice HO_161001.out
    subst eo42
    go_wp2
    refine bodyPost_ret (results_cell_row rfl _ _ gb159 28 #[.int .i64 a0_0,.slice Ao42 x161001_1.length co42] (0,0) _ rfl (by refine pe_ ?_;refine blk_put (cs:=#[.int .i64 a0_0,.slice none 0 0]) ?_ 1 _ rfl;refine pe_ ?_;refine blk_put (cs:=#[.int .i64 0,.slice none 0 0]) ?_ 0 _ rfl;refine pe_ ?_;exact BK159.out) Try.underlying28 rfl (by kernel_rfl)) rfl ?_
    exact ⟨_,by first|rfl|(simp [errW_none,errW_some] <;> rfl)|(simp [*,errW_none,errW_some] <;> rfl),by refine pr_ ?_;exact Kd.R_mono (Kd.R_far (p:=⟨gb159,1,none⟩) (Kd.R_far (p:=⟨gb159,0,none⟩) (Kd.R_types HO_161001.out BK159.out (by decide)) (fun _ hk => hk.2) (.int .i64 a0_0)) (fun _ hk => hk.2) (.slice Ao42 x161001_1.length co42)) (fun _ hk => trivial),be3_ HB.out GE158.out GE159.out GE160.out⟩
end Go.Proofs.Ytengegdaiphfeaa.X
end
section
namespace Go.Proofs.Ytengegdaiphfeaa.X
open Go.RowKit Go.Proofs.YtengegdaiphfeaaW.PrintWords Go.Proofs.YtengegdaiphfeaaW.PrintLast Go.Proofs.YtengegdaiphfeaaW.PrintMore
attribute [local go_sem] max2_int min2_int max_two min_two max_three min_three max_four min_four
set_option linter.unusedVariables false
set_option linter.unusedSimpArgs false
def spec_GradesOf.f (k : Nat) (a0_0 : Int) (l0_1 : List Int) : Option (Int × List Int × Bool):=(spec_MatrixValid.f k a0_0 l0_1).bind fun t173 => (if t173 = true then ((spec_l6Grades.f k a0_0 l0_1).bind fun bt174 => (some (bt174.1,bt174.2,true))) else (some (0,([] : List Int),false)))
theorem spec_GradesOf.mono : ∀ a0 a1 k,LeO (spec_GradesOf.f k a0 a1) (spec_GradesOf.f (k + 1) a0 a1):=by
 intro a0 a1 k
 unfold spec_GradesOf.f
 repeat' first
   | (with_reducible exact spec_MatrixValid.mono _ _ _)
   | (with_reducible exact spec_l6Grades.mono _ _ _)
   | (with_reducible exact LeO.refl _)
   | (with_reducible exact LeO.none _)
   | (with_reducible refine LeO.ite ?_ ?_)
   | (with_reducible refine LeO.bind ?_ (fun _ => ?_))
   | exact spec_MatrixValid.mono _ _ _
   | exact spec_l6Grades.mono _ _ _
   | exact LeO.none _
   | refine LeO.ite ?_ ?_
   | refine LeO.bind ?_ (fun _ => ?_)
set_option maxHeartbeats 8000000 in
set_option maxRecDepth 100000 in
theorem spec_GradesOf.calls (k : Nat) (a0_0 : Int) (A0_1 : Option Addr) (c0_1 : Nat) (l0_1 : List Int) (r1 : Int) (r2 : List Int) (r3 : Bool) (w : World) (hr0_1 : Kd.C (Kd.int .i64) w A0_1 l0_1.length l0_1) (hc0_1 : l0_1.length ≤ c0_1) (h : spec_GradesOf.f k a0_0 l0_1 = some (r1,r2,r3)) :
  Calls Try.prog 18 #[.agg #[.int .i64 a0_0,.slice A0_1 l0_1.length c0_1]] w fun e w' => ∃ v1_ : Value,e = .returned (.tuple #[.agg #[.int .i64 r1,v1_],.bool r3]) ∧ Kd.R (Kd.int .i64) 3 w' w.heap.size (fun _ => True) v1_ r2 ∧ Below w.heap.size w w':=by
 have hu28:=Try.underlying28
 have HR0_1:=Aside0.mk hr0_1
 have HC0_1:=Aside0.mk hc0_1
 clear hr0_1 hc0_1
 have HB:=Aside0.mk (Below.refl w.heap.size w)
 have H : ((spec_MatrixValid.f k a0_0 l0_1).bind fun t173 => (if t173 = true then ((spec_l6Grades.f k a0_0 l0_1).bind fun bt174 => (some (bt174.1,bt174.2,true))) else (some (0,([] : List Int),false)))) = some (r1,r2,r3):=h
 clear h
 replace H:=Option.bind_eq_some_iff.mp H
 obtain ⟨t173,A20,H⟩:=H
 replace H : (if t173 = true then ((spec_l6Grades.f k a0_0 l0_1).bind fun bt174 => (some (bt174.1,bt174.2,true))) else (some (0,([] : List Int),false))) = some (r1,r2,r3):=H
 have A2:=Aside0.mk A20
 clear A20
 by_cases c3 : t173 = true
 ·subst c3
  have H1 : ((spec_l6Grades.f k a0_0 l0_1).bind fun bt174 => (some (bt174.1,bt174.2,true))) = some (r1,r2,r3):=by rw [if_pos rfl] at H;exact H
  clear H
  have H:=H1
  clear H1
  replace H:=Option.bind_eq_some_iff.mp H
  obtain ⟨⟨t174,t175⟩,A40,H⟩:=H
  replace H : (some (t174,t175,true)) = some (r1,r2,r3):=H
  have A4:=Aside0.mk A40
  clear A40
  simp only [Option.some.injEq,Prod.mk.injEq] at H
  obtain ⟨rfl,rfl,rfl⟩:=H
  go_enter Try.func18,Try.ntmps18
  go_wp2_with (first|((with_reducible refine gate_dst (N:=1) rfl ?_);refine box_event ?hg (N:=1) ?hd (cs:=#[.int .i64 a0_0,.slice A0_1 l0_1.length c0_1]) (t:=28) ?hr ?_;(case hd => rfl);(case hg => rfl);(case hr => first|(go_simp;done)|(go_simp;rfl));intro gb171 hg w5 hbox hb;have n0_:=Aside0.mk (below_step (be0_ HB.out) hb);have n1_:=Aside0.mk (hbox);have n2_:=Aside0.mk ((by rw [hg];exact (below_size (be0_ HB.out)) : w.heap.size ≤ gb171));have n3_:=Aside0.mk ((by rw [hg];exact (below_size (be0_ HB.out)) : w.heap.size ≤ gb171));clear HB;have HB:=n0_;have BK171:=n1_;have GW171:=n2_;have GE171:=n3_;clear n0_ n1_ n2_ n3_;clear hb hbox hg)|((with_reducible refine gate_dst (N:=2) rfl ?_);refine box_event ?hg (N:=2) ?hd (cs:=#[.int .i64 0,.slice none 0 0]) (t:=28) ?hr ?_;(case hd => rfl);(case hg => rfl);(case hr => first|(go_simp;done)|(go_simp;rfl));intro gb172 hg w6 hbox hb;have n0_:=Aside0.mk (blk_below (g:=gb171) (o:=.cells #[.int .i64 a0_0,.slice A0_1 l0_1.length c0_1] 28 (0,0)) (pe_ BK171.out) hb);have n1_:=Aside0.mk (below_step (be1_ HB.out GE171.out) hb);have n2_:=Aside0.mk (hbox);have n3_:=Aside0.mk ((by rw [hg];exact (below_size (be1_ HB.out GE171.out)) : w.heap.size ≤ gb172));have n4_:=Aside0.mk ((by rw [hg];exact (below_size (be1_ HB.out GE171.out)) : w.heap.size ≤ gb172));have n5_:=Aside0.mk ((by rw [hg];exact Nat.ne_of_lt (blk_lt (g:=gb171) (o:=.cells #[.int .i64 a0_0,.slice A0_1 l0_1.length c0_1] 28 (0,0)) (pe_ BK171.out)) : gb171 ≠ gb172));have n6_:=Aside0.mk ((by rw [hg];exact Nat.ne_of_gt (blk_lt (g:=gb171) (o:=.cells #[.int .i64 a0_0,.slice A0_1 l0_1.length c0_1] 28 (0,0)) (pe_ BK171.out)) : gb172 ≠ gb171));clear BK171;clear HB;have BK171:=n0_;have HB:=n1_;have BK172:=n2_;have GW172:=n3_;have GE172:=n4_;have NB171_172:=n5_;have NB172_171:=n6_;clear n0_ n1_ n2_ n3_ n4_ n5_ n6_;clear hb hbox hg;have hnb7:=NB171_172.out;have hnc7:=NB172_171.out;have hcz8_0 : w6.cell? ⟨gb171,0,none⟩ = some (.int .i64 a0_0):=(blk_cell BK171.out 0).trans rfl;have hcz8_1 : w6.cell? ⟨gb171,1,none⟩ = some (.slice A0_1 l0_1.length c0_1):=(blk_cell BK171.out 1).trans rfl;have hfz8_0:=blk_frozen BK171.out 0;have hfz8_1:=blk_frozen BK171.out 1)|((with_reducible refine gate_callee (f:=55) rfl ?_);refine goesL_ (some 5) rfl rfl Try.func55 (by kernel_rfl) rfl #[.agg #[.int .i64 a0_0,.slice A0_1 l0_1.length c0_1]] rfl lp_ ?_;(with_reducible refine (spec_MatrixValid.calls k a0_0 _ _ l0_1 true _ ?side1 ?side2 A2.out).mono ?_);(case side1 => repeat (first|exact (Kd.C_below HR0_1.out HB.out)|(with_reducible refine Kd.C_alloc ?_ _)|(with_reducible refine Kd.C_drewN ?_ _)|(with_reducible refine Kd.C_drew ?_)));(case side2 => exact HC0_1.out);rintro e w9 ⟨rfl,hb⟩;refine ⟨_,rfl,?_⟩;have n0_:=Aside0.mk (blk_below (g:=gb171) (o:=.cells #[.int .i64 a0_0,.slice A0_1 l0_1.length c0_1] 28 (0,0)) (pe_ BK171.out) hb);have n1_:=Aside0.mk (blk_below (g:=gb172) (o:=.cells #[.int .i64 0,.slice none 0 0] 28 (0,0)) (pe_ BK172.out) hb);have n2_:=Aside0.mk (below_step (be2_ HB.out GE171.out GE172.out) hb);clear BK171;clear BK172;clear HB;have BK171:=n0_;have BK172:=n1_;have HB:=n2_;clear n0_ n1_ n2_;(try clear hb);(try clear hb2);(try clear hk);(try clear hi);have hcz10_0 : w9.cell? ⟨gb171,0,none⟩ = some (.int .i64 a0_0):=(blk_cell BK171.out 0).trans rfl;have hcz10_1 : w9.cell? ⟨gb171,1,none⟩ = some (.slice A0_1 l0_1.length c0_1):=(blk_cell BK171.out 1).trans rfl;have hfz10_0:=blk_frozen BK171.out 0;have hfz10_1:=blk_frozen BK171.out 1)|((with_reducible refine gate_callee (f:=56) rfl ?_);refine goesL_ (some 9) rfl rfl Try.func56 (by kernel_rfl) rfl #[.agg #[.int .i64 a0_0,.slice A0_1 l0_1.length c0_1]] rfl lp_ ?_;(with_reducible refine (spec_l6Grades.calls k a0_0 _ _ l0_1 t174 t175 _ ?side1 ?side2 A4.out).mono ?_);(case side1 => repeat (first|exact (Kd.C_below HR0_1.out HB.out)|(with_reducible refine Kd.C_alloc ?_ _)|(with_reducible refine Kd.C_drewN ?_ _)|(with_reducible refine Kd.C_drew ?_)));(case side2 => exact HC0_1.out);rintro e w11 ⟨v176,rfl,ho0,hb⟩;refine ⟨_,rfl,?_⟩;have n0_:=Aside0.mk (Kd.R_lower ho0 (below_size (be2_ HB.out GE171.out GE172.out)));have n1_:=Aside0.mk (blk_below (g:=gb171) (o:=.cells #[.int .i64 a0_0,.slice A0_1 l0_1.length c0_1] 28 (0,0)) (pe_ BK171.out) hb);have n2_:=Aside0.mk (blk_below (g:=gb172) (o:=.cells #[.int .i64 0,.slice none 0 0] 28 (0,0)) (pe_ BK172.out) hb);have n3_:=Aside0.mk (below_step (be2_ HB.out GE171.out GE172.out) hb);clear BK171;clear BK172;clear HB;have HO177:=n0_;have BK171:=n1_;have BK172:=n2_;have HB:=n3_;clear n0_ n1_ n2_ n3_;(try clear hb);(try clear hb2);(try clear hk);(try clear hi);(try clear ho0);have hcz12_0 : w11.cell? ⟨gb172,0,none⟩ = some (.int .i64 0):=(blk_cell BK172.out 0).trans rfl;have hcz12_1 : w11.cell? ⟨gb172,1,none⟩ = some (.slice none 0 0):=(blk_cell BK172.out 1).trans rfl;have hfz12_0:=blk_frozen BK172.out 0;have hfz12_1:=blk_frozen BK172.out 1;obtain ⟨Ao13,co13,eo13⟩:=Kd.R_slice HO177.out;subst eo13))
  refine bodyPost_ret (results_ct rfl _ _ gb172 28 #[.int .i64 t174,.slice Ao13 t175.length co13] (0,0) _ rfl (by refine pe_ ?_;refine blk_put (cs:=#[.int .i64 t174,.slice none 0 0]) ?_ 1 _ rfl;refine pe_ ?_;refine blk_put (cs:=#[.int .i64 0,.slice none 0 0]) ?_ 0 _ rfl;refine pe_ ?_;exact BK172.out) Try.underlying28 rfl (by kernel_rfl)) rfl ?_
  exact ⟨_,by first|rfl|(simp [errW_none,errW_some] <;> rfl)|(simp [*,errW_none,errW_some] <;> rfl),by refine pr_ ?_;exact Kd.R_mono (Kd.R_far (p:=⟨gb172,1,none⟩) (Kd.R_far (p:=⟨gb172,0,none⟩) (Kd.R_types HO177.out BK172.out (by decide)) (fun _ hk => hk.2) (.int .i64 t174)) (fun _ hk => hk.2) (.slice Ao13 t175.length co13)) (fun _ hk => trivial),be2_ HB.out GE171.out GE172.out⟩
 ·replace c3:=Bool.eq_false_iff.mpr c3
  subst c3
  have H1 : (some (0,([] : List Int),false)) = some (r1,r2,r3):=by rw [if_neg (show ¬ (false = true) by decide)] at H;exact H
  clear H
  have H:=H1
  clear H1
  simp only [Option.some.injEq,Prod.mk.injEq] at H
  obtain ⟨rfl,rfl,rfl⟩:=H
  go_enter Try.func18,Try.ntmps18
  go_wp2_with (first|((with_reducible refine gate_dst (N:=1) rfl ?_);refine box_event ?hg (N:=1) ?hd (cs:=#[.int .i64 a0_0,.slice A0_1 l0_1.length c0_1]) (t:=28) ?hr ?_;(case hd => rfl);(case hg => rfl);(case hr => first|(go_simp;done)|(go_simp;rfl));intro gb171 hg w14 hbox hb;have n0_:=Aside0.mk (below_step (be0_ HB.out) hb);have n1_:=Aside0.mk (hbox);have n2_:=Aside0.mk ((by rw [hg];exact (below_size (be0_ HB.out)) : w.heap.size ≤ gb171));have n3_:=Aside0.mk ((by rw [hg];exact (below_size (be0_ HB.out)) : w.heap.size ≤ gb171));clear HB;have HB:=n0_;have BK171:=n1_;have GW171:=n2_;have GE171:=n3_;clear n0_ n1_ n2_ n3_;clear hb hbox hg)|((with_reducible refine gate_dst (N:=2) rfl ?_);refine box_event ?hg (N:=2) ?hd (cs:=#[.int .i64 0,.slice none 0 0]) (t:=28) ?hr ?_;(case hd => rfl);(case hg => rfl);(case hr => first|(go_simp;done)|(go_simp;rfl));intro gb172 hg w15 hbox hb;have n0_:=Aside0.mk (blk_below (g:=gb171) (o:=.cells #[.int .i64 a0_0,.slice A0_1 l0_1.length c0_1] 28 (0,0)) (pe_ BK171.out) hb);have n1_:=Aside0.mk (below_step (be1_ HB.out GE171.out) hb);have n2_:=Aside0.mk (hbox);have n3_:=Aside0.mk ((by rw [hg];exact (below_size (be1_ HB.out GE171.out)) : w.heap.size ≤ gb172));have n4_:=Aside0.mk ((by rw [hg];exact (below_size (be1_ HB.out GE171.out)) : w.heap.size ≤ gb172));have n5_:=Aside0.mk ((by rw [hg];exact Nat.ne_of_lt (blk_lt (g:=gb171) (o:=.cells #[.int .i64 a0_0,.slice A0_1 l0_1.length c0_1] 28 (0,0)) (pe_ BK171.out)) : gb171 ≠ gb172));have n6_:=Aside0.mk ((by rw [hg];exact Nat.ne_of_gt (blk_lt (g:=gb171) (o:=.cells #[.int .i64 a0_0,.slice A0_1 l0_1.length c0_1] 28 (0,0)) (pe_ BK171.out)) : gb172 ≠ gb171));clear BK171;clear HB;have BK171:=n0_;have HB:=n1_;have BK172:=n2_;have GW172:=n3_;have GE172:=n4_;have NB171_172:=n5_;have NB172_171:=n6_;clear n0_ n1_ n2_ n3_ n4_ n5_ n6_;clear hb hbox hg;have hnb16:=NB171_172.out;have hnc16:=NB172_171.out;have hcz17_0 : w15.cell? ⟨gb171,0,none⟩ = some (.int .i64 a0_0):=(blk_cell BK171.out 0).trans rfl;have hcz17_1 : w15.cell? ⟨gb171,1,none⟩ = some (.slice A0_1 l0_1.length c0_1):=(blk_cell BK171.out 1).trans rfl;have hfz17_0:=blk_frozen BK171.out 0;have hfz17_1:=blk_frozen BK171.out 1)|((with_reducible refine gate_callee (f:=55) rfl ?_);refine goesL_ (some 5) rfl rfl Try.func55 (by kernel_rfl) rfl #[.agg #[.int .i64 a0_0,.slice A0_1 l0_1.length c0_1]] rfl lp_ ?_;(with_reducible refine (spec_MatrixValid.calls k a0_0 _ _ l0_1 false _ ?side1 ?side2 A2.out).mono ?_);(case side1 => repeat (first|exact (Kd.C_below HR0_1.out HB.out)|(with_reducible refine Kd.C_alloc ?_ _)|(with_reducible refine Kd.C_drewN ?_ _)|(with_reducible refine Kd.C_drew ?_)));(case side2 => exact HC0_1.out);rintro e w18 ⟨rfl,hb⟩;refine ⟨_,rfl,?_⟩;have n0_:=Aside0.mk (blk_below (g:=gb171) (o:=.cells #[.int .i64 a0_0,.slice A0_1 l0_1.length c0_1] 28 (0,0)) (pe_ BK171.out) hb);have n1_:=Aside0.mk (blk_below (g:=gb172) (o:=.cells #[.int .i64 0,.slice none 0 0] 28 (0,0)) (pe_ BK172.out) hb);have n2_:=Aside0.mk (below_step (be2_ HB.out GE171.out GE172.out) hb);clear BK171;clear BK172;clear HB;have BK171:=n0_;have BK172:=n1_;have HB:=n2_;clear n0_ n1_ n2_;(try clear hb);(try clear hb2);(try clear hk);(try clear hi);have hcz19_0 : w18.cell? ⟨gb172,0,none⟩ = some (.int .i64 0):=(blk_cell BK172.out 0).trans rfl;have hcz19_1 : w18.cell? ⟨gb172,1,none⟩ = some (.slice none 0 0):=(blk_cell BK172.out 1).trans rfl;have hfz19_0:=blk_frozen BK172.out 0;have hfz19_1:=blk_frozen BK172.out 1))
  refine bodyPost_ret (results_ct rfl _ _ gb172 28 #[.int .i64 0,.slice none 0 0] (0,0) _ rfl (by refine pe_ ?_;refine blk_put (cs:=#[.int .i64 0,.slice none 0 0]) ?_ 1 _ rfl;refine pe_ ?_;refine blk_put (cs:=#[.int .i64 0,.slice none 0 0]) ?_ 0 _ rfl;refine pe_ ?_;exact BK172.out) Try.underlying28 rfl (by kernel_rfl)) rfl ?_
  exact ⟨_,by first|rfl|(simp [errW_none,errW_some] <;> rfl)|(simp [*,errW_none,errW_some] <;> rfl),by first|exact Kd.R_nil _ _ _ _ _|exact Kd.N_nil _ _ _ _ _|exact Kd.V_nil _ _ _ _ _|exact Kd.Q_nil _ _ _ _ _|exact Kd.S_nil _ _ _ _ _,be2_ HB.out GE171.out GE172.out⟩
end Go.Proofs.Ytengegdaiphfeaa.X
end
section
namespace Go.Proofs.Ytengegdaiphfeaa.Y
open Go.RowKit Go.Proofs.Ytengegdaiphfeaa.X Go.Proofs.YtengegdaiphfeaaW.PrintWords Go.Proofs.YtengegdaiphfeaaW.PrintLast Go.Proofs.YtengegdaiphfeaaW.PrintMore
set_option linter.unusedVariables false
set_option linter.unusedSimpArgs false
def gr (x : Int) : Int:=if x = 0 then 0 else if x = 1000000 then 3 else 1
def gradesR (n : Int) (l : List Int) : Int × List Int × Bool:=if MV n l then (n,l.map gr,true) else (0,[],false)
theorem MV_nat {n : Int} {l : List Int} (h : MV n l) : ∃ m : Nat,n = (m : Int) ∧ 1 ≤ m ∧ m ≤ 4 ∧ l.length = m * m:=by
 refine ⟨n.toNat,?_⟩
 have h1:=h.1
 have h2:=h.2.1
 have h3:=h.2.2.1
 obtain ⟨m,rfl⟩ : ∃ m : Nat,n = (m : Int):=⟨n.toNat,by omega⟩
 refine ⟨by simp,by simp;omega,by simp;omega,?_⟩
 simp only [Int.toNat_natCast]
 exact_mod_cast h3
theorem gradesR_len (n : Int) (l : List Int) (h : l.length ≤ 1048576) : (gradesR n l).2.1.length ≤ 1048576:=by
 unfold gradesR
 by_cases g : MV n l
 ·rw [if_pos g];simpa using h
 ·rw [if_neg g];simp
theorem iGrades (n : Int) (l : List Int) (hl : l.length ≤ maxLen) : Ev (fun k => impl_GradesOf.f k n l) (gradesR n l):=by
 unfold impl_GradesOf.f
 refine Ev.bind (iMV n l hl) ?_
 by_cases g : MV n l
 ·refine Ev_t (decide_eq_true g) ?_
  have e : gradesR n l = (n,l.map gr,true):=by unfold gradesR;rw [if_pos g]
  rw [e]
  obtain ⟨m,rfl,h1,h4,hs⟩:=MV_nat g
  have em : l.map gr = sqL m (fun i k => gr (l.getD (i * m + k) 0)):=by
   rw [eq_sqL m (l.map gr) (by simpa using hs)]
   refine sqL_congr m _ _ (fun i k hi hk => ?_)
   have hc:=cell_lt m i k hi hk
   have hc' : i * m + k < l.length:=by omega
   simp [List.getD_eq_getElem?_getD,List.getElem?_eq_getElem hc']
  rw [em]
  refine Ev.bind (a:=((m : Int),sqL m (fun i k => gr (l.getD (i * m + k) 0)))) ?_ (Ev.now _)
  exact filled_ev m h4 (fun i k => gr (l.getD (i * m + k) 0)) (fun K y0 y1 => impl_GradesOf_1.f y0 y1 m l) (fun i hi k hk => ev_some (fun K => by
   unfold impl_GradesOf_1.f gr
   rw [at_eq m h4 l hs i k hi hk,Option.bind_some]
   by_cases a : l.getD (i * m + k) 0 = 0
   ·rw [if_pos a,if_pos a]
   ·rw [if_neg a,if_neg a]
    by_cases b : l.getD (i * m + k) 0 = 1000000
    ·rw [if_pos b,if_pos b]
    ·rw [if_neg b,if_neg b]))
 ·refine Ev_f (by rw [decide_eq_false g];simp) ((Ev.now _).is ?_)
  unfold gradesR;rw [if_neg g]
theorem sGradesL (n : Int) (l : List Int) (hl : l.length ≤ 1048576) : Ev (fun k => spec_l6Grades.f k n l) (n,l.map gr):=by
 have go : ∀ (t pre : List Int),l = pre ++ t → Ev (fun k => spec_l6Grades.l0 k l (l.length : Int) (pre.length : Int) n (pre.map gr)) (n,l.map gr):=by
  intro t
  induction t with
  | nil =>
   intro pre hp
   refine Ev.step (f:=fun _ => some (n,pre.map gr)) (fun k => ?_) ((Ev.now _).is (by rw [hp];simp))
   simp only [spec_l6Grades.l0];rw [if_neg (by rw [hp];simp)]
  | cons x t ih =>
   intro pre hp
   have hlen : l.length = pre.length + (t.length + 1):=by rw [hp];simp
   have hx : rd l (pre.length : Int) = x:=by rw [hp,rd_mid]
   have hi:=ih (pre ++ [x]) (by simp [hp])
   refine Ev.step (fun k => ?_) hi
   simp only [spec_l6Grades.l0]
   rw [if_pos (by omega),if_pos (by omega),if_pos (by omega),hx,w64 (x:=(pre.length : Int) + 1) (by omega) (by omega),snoc_len,List.map_append,List.map_cons,List.map_nil]
   have hm : (pre.map gr).length < 17592186044416:=by rw [List.length_map];omega
   by_cases a : x = 0
   ·have e : gr x = 0:=by unfold gr;rw [if_pos a]
    rw [if_pos a,if_pos hm,e]
   ·rw [if_neg a]
    by_cases b : x = 1000000
    ·have e : gr x = 3:=by unfold gr;rw [if_neg a,if_pos b]
     rw [if_pos b,if_pos hm,e]
    ·have e : gr x = 1:=by unfold gr;rw [if_neg a,if_neg b]
     rw [if_neg b,if_pos hm,e]
 exact go l [] rfl
theorem sGrades (n : Int) (l : List Int) (hl : l.length ≤ 1048576) : Ev (fun k => spec_GradesOf.f k n l) (gradesR n l):=by
 unfold spec_GradesOf.f
 refine Ev.bind (sMV n l (by rw [maxLen_eq];omega)) ?_
 by_cases g : MV n l
 ·refine Ev_t (decide_eq_true g) (Ev.bind (sGradesL n l hl) ((Ev.now _).is ?_))
  unfold gradesR;rw [if_pos g]
 ·refine Ev_f (by rw [decide_eq_false g];simp) ((Ev.now _).is ?_)
  unfold gradesR;rw [if_neg g]
end Go.Proofs.Ytengegdaiphfeaa.Y
end
