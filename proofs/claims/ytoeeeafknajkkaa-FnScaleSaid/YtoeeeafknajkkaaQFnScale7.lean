import Derived.Test.YtoeeeafknajkkaaQFnScale2
import Derived.Test.YtoeeeafknajkkaaQFnScale4
import Derived.Deep.Slices
import Derived.Deep.Fields
import Derived.ChangeSame
import Derived.ChangeSlices
import Derived.Lib.SmallJoins
import Derived.WalkKit
import Derived.ProofKit
import Derived.OpenShut
import Derived.ShutString
import Derived.ChangeOld
import Derived.Below
import Derived.Test.YtoeeeafknajkkaaQFnScale3
import Derived.Test.YtoeeeafknajkkaaQFnScale6
import Derived.Lib.Bytealg
import Derived.Lib.Repeat
section
namespace Go.Proofs.Ytoeeeafknajkkaa.V
open Go Go.Proofs.Ytoeeeafknajkkaa.R Go.RowKit Go.Proofs.Ytoeeeafknajkkaa.X Go.ChangeShapes Go.WideShapes Go.Deep Go.Proofs.YtoeeeafknajkkaaW.PrintWords Go.Proofs.YtoeeeafknajkkaaW.PrintLast Go.Proofs.YtoeeeafknajkkaaW.PrintMore
set_option linter.unusedVariables false
open Go.ChangeShapes Go.WideShapes Go.Deep
theorem field_ints {H : Type} {enc : TypeId × Value → H} {P : Program} {w : World} {base : Nat} {spare : Nat → Bool} {held : Bool} {t e : TypeId} {k : IntKind} {fuel : Nat} {v : Value} {x : DataW H × List MemPlace}
  (ht : P.underlying t = some (.slice e)) (he : P.underlying e = some (.int k)) (hc : P.cellsOf e = 1) (h : DataW.trod enc P w base spare held fuel t [v] = some x) :
  ∃ (A : Option Addr) (c : Nat) (l : List Int),v = .slice A l.length c ∧ Kd.C (Kd.int k) w A l.length l ∧ l.length ≤ c ∧ l.length ≤ maxLen ∧ ∀ n ∈ l,(Lit.int k n).wf = true:=by
 rcases open_ints ht he hc h with ⟨hcs,_⟩ | ⟨a,len,cap,zs,hcs,_,hl,hm,hz,_,hcell,hwf⟩
 ·simp at hcs
  obtain ⟨l,h1,h2,h3,h4,h5⟩:=ReadsInt.ofRowC (k:=k) (w:=w) (a:=none) (len:=0) (cap:=0) (zs:=[]) (.inl ⟨rfl,rfl,rfl,rfl⟩)
  exact ⟨none,0,l,by rw [hcs,← h1],Kd.C_of_reads (d:=(0 : Int)) (h1:=fun _ => rfl) h2,h5,h3,h4⟩
 ·simp at hcs
  have hr : ∃ l : List Int,len = l.length ∧ ReadsInt w k (some a) l.length l ∧ l.length ≤ maxLen ∧ (∀ x ∈ l,(Lit.int k x).wf = true):=by
   refine ⟨zs.take len,?_,?_,?_,fun x hx => hwf x (List.mem_of_mem_take hx)⟩
   ·rw [List.length_take,hz];split <;> omega
   ·have hlen : (zs.take len).length = len:=by rw [List.length_take,hz];split <;> omega
    refine ⟨rfl,by rw [hlen];exact Nat.le_trans hl hm,fun hn => ⟨a,rfl,fun j hj => ?_⟩⟩
    rw [hlen] at hj
    have hj2 : j < zs.length:=by rw [hz];split <;> omega
    rw [hcell j hj2]
    simp [List.getD_eq_getElem?_getD,hj]
   ·rw [List.length_take];exact Nat.le_trans (Nat.min_le_left _ _) (Nat.le_trans hl hm)
  obtain ⟨l,h1,h2,h3,h4⟩:=hr
  exact ⟨some a,cap,l,by rw [hcs,← h1],Kd.C_of_reads (d:=(0 : Int)) (h1:=fun _ => rfl) h2,by omega,h3,h4⟩
open Go.ChangeShapes Go.WideShapes Go.Deep
end Go.Proofs.Ytoeeeafknajkkaa.V
end
section
namespace Go.Proofs.Ytoeeeafknajkkaa.V
open Go Go.Proofs.Ytoeeeafknajkkaa.R Go.RowKit Go.Proofs.Ytoeeeafknajkkaa.X Go.ChangeShapes Go.WideShapes Go.Deep Go.Proofs.YtoeeeafknajkkaaW.PrintWords Go.Proofs.YtoeeeafknajkkaaW.PrintLast Go.Proofs.YtoeeeafknajkkaaW.PrintMore
set_option linter.unusedVariables false
set_option maxRecDepth 100000 in
theorem row_bytes {H : Type} {enc : TypeId × Value → H} {w : World} {base b0 : Nat} {r : Reach} {spare : Nat → Bool} {held : Bool} {v : Value} {d : DataW H} {p : List MemPlace}
  (hv : Value.okWide Try.prog w r b0 45 v) (h : DataW.Trod enc Try.prog w base spare held 45 v d p) :
  ∃ (A : Option Addr) (c : Nat) (l : List Int),v = .slice A l.length c ∧ Kd.C (Kd.int .u8) w A l.length l ∧ l.length ≤ c ∧ l.length ≤ maxLen ∧ ∀ x ∈ l,(Lit.int .u8 x).wf = true:=by
 obtain ⟨a0,len0,cap0,rfl⟩:=okWide_slice Try.underlying45 hv
 obtain ⟨fuel,hf⟩:=h
 exact field_ints Try.underlying45 Try.underlying5 (by kernel_rfl) (by simpa [Value.cells] using hf)
theorem ints_of_u8 {w : World} {A : Option Addr} {l : List Int} (h : Kd.C (Kd.int .u8) w A l.length l) : 0 < l.length → ∃ ad,A = some ad ∧ ∀ (i : Nat) (x : Int),l[i]? = some x → w.cell? (ad.add i) = some (.int .u8 x):=fun hp => by
 obtain ⟨ad,e,hh⟩:=h.2.2 hp
 refine ⟨ad,e,fun i x hx => ?_⟩
 obtain ⟨c,_,hk,hc⟩:=hh i x hx
 have hk : c = [Value.int .u8 x]:=hk
 subst hk
 have:=hc 0 _ rfl
 rw [show (Kd.int IntKind.u8).sz = 1 from rfl,Nat.mul_one,Nat.add_zero] at this
 exact this
end Go.Proofs.Ytoeeeafknajkkaa.V
end
section
set_option linter.unusedVariables false
set_option linter.unusedSimpArgs false
namespace Go.Proofs.Ytoeeeafknajkkaa.V
open Go Go.Proofs.Ytoeeeafknajkkaa.R Go.RowKit
open Go.Proofs.YtoeeeafknajkkaaW.PrintWords hiding mn mx
def L (s : ByteArray) : List UInt8:=s.data.toList
theorem L_size (s : ByteArray) : s.size = (L s).length:=by simp [L]
theorem L_mk (l : List UInt8) : L ⟨l.toArray⟩ = l:=by simp [L]
theorem L_inj {s t : ByteArray} (h : L s = L t) : s = t:=by
 cases s;cases t;simp [L] at h;subst h;rfl
theorem toList_L (s : ByteArray) : s.toList = L s:=ByteArray.toList_eq s
theorem L_extract (s : ByteArray) (a b : Nat) : L (s.extract a b) = ((L s).take b).drop a:=by
 simp [L,ByteArray.data_extract,Array.toList_extract,List.extract,List.drop_take]
theorem L_append (s t : ByteArray) : L (s ++ t) = L s ++ L t:=by simp [L,ByteArray.data_append]
theorem L_nil {s : ByteArray} : s.toList = ([] : List UInt8) ↔ L s = []:=by rw [toList_L]
theorem bt_L (s : ByteArray) (i : Int) : btI s i = (((L s).getD i.toNat 0).toNat : Int):=by
 unfold btI L
 split
 ·next h =>
  have h' : i.toNat < s.data.toList.length:=by simpa using h
  rw [List.getD_eq_getElem?_getD,List.getElem?_eq_getElem h']
  simp;rfl
 ·next h =>
  have h' : s.data.toList.length ≤ i.toNat:=by simpa using h
  rw [List.getD_eq_getElem?_getD,List.getElem?_eq_none h'];rfl
theorem w64 {x : Int} (h0 : -9223372036854775808 ≤ x) (h1 : x ≤ 9223372036854775807) : wrap64 x = x:=by unfold wrap64;omega
theorem _root_.Go.Proofs.YtoeeeafknajkkaaW.PrintWords.Ev.is {α : Type} {g : Nat → Option α} {r r' : α} (h : Ev g r) (e : r = r') : Ev g r':=e ▸ h
theorem bt_suffix {s : ByteArray} {u : List UInt8} {c : UInt8} {e : List UInt8} (h : L s = u ++ c :: e) : btI s u.length = (c.toNat : Int):=by
 rw [bt_L,h];simp [List.getD_eq_getElem?_getD]
theorem size_suffix {s : ByteArray} {u e : List UInt8} (h : L s = u ++ e) : s.size = u.length + e.length:=by rw [L_size,h];simp
theorem u8_ne {c d : UInt8} (h : c ≠ d) : ¬ ((c.toNat : Int) = (d.toNat : Int)):=by
 intro e;exact h (UInt8.toNat.inj (by exact_mod_cast e))
def wOk (c : UInt8) : Bool:=c == 97 || c == 98
def wordB (l : List UInt8) : Bool:=l.all wOk && decide (l.length ≤ 1000)
theorem iWord_loop (s : ByteArray) (hn : s.size ≤ 4000000) : ∀ (e u : List UInt8),L s = u ++ e → Ev (fun k => impl_WordValid.l0 k s s.size u.length) (e.all wOk && decide (s.size ≤ 1000)):=by
 intro e
 induction e with
 | nil =>
  intro u h
  have hz:=size_suffix h
  simp only [List.length_nil] at hz
  refine Ev.step (f:=fun _ => some (decide (s.size ≤ 1000))) (fun k => ?_) ((Ev.now _).is (by simp))
  simp only [impl_WordValid.l0]
  rw [if_neg (by omega)]
  congr 1
  exact decide_eq_decide.mpr (by omega)
 | cons c e ih =>
  intro u h
  have hz:=size_suffix h
  simp only [List.length_cons] at hz
  have hbt:=bt_suffix h
  have hl : (u.length : Int) + 1 = (((u ++ [c]).length : Nat) : Int):=by simp
  have h2:=ih (u ++ [c]) (by rw [h];simp)
  by_cases h97 : c = 97
  ·subst h97
   refine Ev.step (fun k => ?_) (h2.is (by rfl))
   simp only [impl_WordValid.l0]
   rw [if_pos (by omega),if_pos (by omega),if_pos (by omega),hbt,if_pos (show (((97 : UInt8).toNat : Nat) : Int) = 97 from rfl),w64 (x:=(u.length : Int) + 1) (by omega) (by omega),hl]
  ·by_cases h98 : c = 98
   ·subst h98
    refine Ev.step (fun k => ?_) (h2.is (by rfl))
    simp only [impl_WordValid.l0]
    rw [if_pos (by omega),if_pos (by omega),if_pos (by omega),hbt,if_neg (by decide),if_pos (show (((98 : UInt8).toNat : Nat) : Int) = 98 from rfl),w64 (x:=(u.length : Int) + 1) (by omega) (by omega),hl]
   ·have hw : wOk c = false:=by unfold wOk;simp [h97,h98]
    refine Ev.step (f:=fun _ => some false) (fun k => ?_) ((Ev.now _).is (by simp [hw]))
    simp only [impl_WordValid.l0]
    rw [if_pos (by omega),if_pos (by omega),if_pos (by omega),hbt,if_neg (show ¬ ((c.toNat : Int) = 97) from u8_ne h97),if_neg (show ¬ ((c.toNat : Int) = 98) from u8_ne h98)]
theorem iWord_ev (s : ByteArray) (hn : s.size ≤ 4000000) : Ev (fun k => impl_WordValid.f k s) (wordB (L s)):=by
 have h:=iWord_loop s hn (L s) [] rfl
 unfold impl_WordValid.f wordB
 rw [← L_size]
 exact h
theorem rd_mid (pre : List Int) (x : Int) (t : List Int) : rdI (pre ++ x :: t) (pre.length : Int) = x:=by simp [rdI,List.getD_eq_getElem?_getD]
theorem rd_nat (l : List Int) (i : Nat) : rdI l (i : Int) = l.getD i 0:=by simp [rdI]
theorem snoc_len (pre : List Int) (x : Int) : (((pre ++ [x]).length : Nat) : Int) = (pre.length : Int) + 1:=by simp
theorem wf_in {n : Int} (h : (Lit.int .i64 n).wf = true) : -9223372036854775808 ≤ n ∧ n ≤ 9223372036854775807:=by
 have hmin : IntKind.i64.min = -9223372036854775808:=rfl
 have hmax : IntKind.i64.max = 9223372036854775807:=rfl
 simp only [Lit.wf,Bool.and_eq_true,decide_eq_true_eq] at h
 omega
theorem maxLen_eq : maxLen = 9223372036854775807:=rfl
theorem ev_all {α : Type} {f : Nat → Nat → Option α} {g : Nat → α} (n : Nat) (h : ∀ i,i < n → Ev (f i) (g i)) : ∃ K0,∀ K,K0 ≤ K → ∀ i,i < n → f i K = some (g i):=by
 induction n with
 | zero => exact ⟨0,fun _ _ i hi => by omega⟩
 | succ n ih =>
  obtain ⟨K0,h0⟩:=ih (fun i hi => h i (by omega))
  obtain ⟨K1,h1⟩:=h n (by omega)
  refine ⟨max K0 K1,fun K hK i hi => ?_⟩
  by_cases e : i = n
  ·subst e;exact h1 K (by omega)
  ·exact h0 K (by omega) i (by omega)
theorem ev_up {α : Type} {f : Nat → Option α} {p : Nat → Nat → Option α} {r : α} (h : Ev f r) (hp : ∃ K0,∀ K,K0 ≤ K → ∀ j,LeO (f j) (p K (j + 1))) (hm : ∀ K j,LeO (p K j) (p K (j + 1))) : Ev (fun K => p K K) r:=by
 obtain ⟨K1,h1⟩:=h
 obtain ⟨K0,h0⟩:=hp
 refine ⟨max K0 (K1 + 1),fun K hK => ?_⟩
 have a:=h0 K (by omega) K1 r (h1 K1 (Nat.le_refl _))
 exact at_rounds (g:=p K) (hm K) (show K1 + 1 ≤ K by omega) a
theorem ev_some {α : Type} {f : Nat → Option α} {r : α} (h : ∀ k,f k = some r) : Ev f r:=⟨0,fun k _ => h k⟩
theorem up_loop {β : Type} (n : Nat) (L : Nat → Nat → Option β) (r : β) (step : ∀ i,i < n → Ev (L (i + 1)) r → Ev (L i) r) (h : Ev (L n) r) : Ev (L 0) r:=by
 have go : ∀ d,d ≤ n → Ev (L (n - d)) r:=by
  intro d
  induction d with
  | zero => intro _;exact h
  | succ d ih =>
   intro hd
   have e : n - (d + 1) + 1 = n - d:=by omega
   exact step (n - (d + 1)) (by omega) (by rw [e];exact ih (by omega))
 have:=go n (Nat.le_refl _)
 rwa [Nat.sub_self] at this
def tab (N : Nat) (F : Nat → Int) : List Int:=(List.range N).map F
theorem tab_length (N : Nat) (F : Nat → Int) : (tab N F).length = N:=by simp [tab]
theorem tab_snoc (N : Nat) (F : Nat → Int) : tab N F ++ [F N] = tab (N + 1) F:=by simp [tab,List.range_succ]
theorem tab_get (N : Nat) (F : Nat → Int) (j : Nat) (h : j < N) : (tab N F).getD j 0 = F j:=by
 simp [tab,List.getD_eq_getElem?_getD,List.getElem?_map,List.getElem?_range h]
theorem tab_congr (N : Nat) (F G : Nat → Int) (h : ∀ j,j < N → F j = G j) : tab N F = tab N G:=by
 unfold tab
 exact List.map_congr_left (fun j hj => h j (List.mem_range.mp hj))
theorem mem_tab {N : Nat} {F : Nat → Int} {x : Int} : x ∈ tab N F ↔ ∃ j,j < N ∧ F j = x:=by simp [tab]
theorem eq_tab (l : List Int) (N : Nat) (h : l.length = N) : l = tab N (fun j => l.getD j 0):=by
 apply List.ext_getElem
 ·simp [tab,h]
 ·intro i h1 h2
  simp [tab,List.getD_eq_getElem?_getD,List.getElem?_eq_getElem h1]
theorem fold_snoc {β : Type} (n : Nat) (f : β → Nat → β) (b : β) : (List.range (n + 1)).foldl f b = f ((List.range n).foldl f b) n:=by simp [List.range_succ]
theorem Ev_t {α : Type} {f g : Nat → Option α} {r : α} {c : Prop} [Decidable c] (h : c) (k : Ev f r) : Ev (fun n => if c then f n else g n) r:=Ev.congr (fun n => if_pos h) k
theorem Ev_f {α : Type} {f g : Nat → Option α} {r : α} {c : Prop} [Decidable c] (h : ¬ c) (k : Ev g r) : Ev (fun n => if c then f n else g n) r:=Ev.congr (fun n => if_neg h) k
def okCost (x : Int) : Bool:=decide (0 ≤ x ∧ x ≤ 1000000)
def MV (n : Int) (l : List Int) : Prop:=1 ≤ n ∧ n ≤ 4 ∧ (l.length : Int) = n * n ∧ ∀ x ∈ l,0 ≤ x ∧ x ≤ 1000000
def GV (n : Int) (l : List Int) : Prop:=MV n l ∧ ∀ x ∈ l,x ≤ 3
instance (n : Int) (l : List Int) : Decidable (MV n l):=by unfold MV;infer_instance
instance (n : Int) (l : List Int) : Decidable (GV n l):=by unfold GV;infer_instance
theorem icost (a : Int) : impl_CostValid.f a = some (okCost a):=by
 unfold impl_CostValid.f okCost
 by_cases h : a ≥ 0
 ·rw [if_pos h];by_cases h2 : a ≤ 1000000 <;> simp [h2] <;> omega
 ·rw [if_neg h];simp;omega
theorem sIn (a lo hi : Int) : spec_l1In.f a lo hi = some (decide (lo ≤ a ∧ a ≤ hi)):=by
 unfold spec_l1In.f
 by_cases h : a ≥ lo
 ·rw [if_pos h];by_cases h2 : a ≤ hi <;> simp [h2] <;> omega
 ·rw [if_neg h];simp;omega
theorem indexG {α : Type} (rdA : List α → Int → α) (hrd : ∀ (pre : List α) (x : α) (t : List α),rdA (pre ++ x :: t) (pre.length : Int) = x) (q : α → Bool) (p : Nat → α → Option Bool) (l : List α) (hp : ∀ x ∈ l,Ev (fun k => p k x) (q x)) (L0 : Nat → List α → Int → Int → Option Int)
  (hL : ∀ k x0 x7 x8,L0 (k + 1) x0 x7 x8 = if x8 < x7 then (if 0 ≤ x8 then (if x8 < (x0.length : Int) then ((p k (rdA x0 x8)).bind fun t1 => if t1 = true then some x8 else L0 k x0 x7 (wrap64 (x8 + 1))) else none) else none) else some (-1)) (h : l.length ≤ 9223372036854775807) :
  Ev (fun k => (L0 k l (l.length : Int) 0).bind fun t1 => some (decide (t1 ≥ 0))) (l.any q):=by
 have go : ∀ (t pre : List α),l = pre ++ t → ∃ z : Int,Ev (fun k => L0 k l (l.length : Int) (pre.length : Int)) z ∧ decide (z ≥ 0) = t.any q:=by
  intro t
  induction t with
  | nil =>
   intro pre hl
   refine ⟨-1,?_,rfl⟩
   refine Ev.step (f:=fun _ => some (-1)) (fun k => ?_) (Ev.now _)
   rw [hL,if_neg (by rw [hl];simp)]
  | cons x t ih =>
   intro pre hl
   have hlen : l.length = pre.length + (t.length + 1):=by rw [hl];simp
   have hx : rdA l (pre.length : Int) = x:=by rw [hl,hrd]
   have hpx:=hp x (by rw [hl];simp)
   have a0 : (pre.length : Int) < (l.length : Int):=by omega
   cases hq : q x with
   | true =>
    rw [hq] at hpx
    refine ⟨pre.length,?_,by simp [hq]⟩
    refine Ev.step (f:=fun k => (p k x).bind fun t1 => if t1 = true then some (pre.length : Int) else L0 k l (l.length : Int) (wrap64 ((pre.length : Int) + 1))) (fun k => ?_) (Ev.bind hpx (Ev.congr (f:=fun _ => some (pre.length : Int)) (fun k => if_pos rfl) (Ev.now _)))
    rw [hL,if_pos a0,if_pos (Int.natCast_nonneg _),if_pos a0,hx]
   | false =>
    rw [hq] at hpx
    obtain ⟨z,hz,hd⟩:=ih (pre ++ [x]) (by simp [hl])
    refine ⟨z,?_,by simp [hq,hd]⟩
    have e : (((pre ++ [x]).length : Nat) : Int) = wrap64 ((pre.length : Int) + 1):=by rw [w64 (by omega) (by omega)];simp
    rw [e] at hz
    refine Ev.step (f:=fun k => (p k x).bind fun t1 => if t1 = true then some (pre.length : Int) else L0 k l (l.length : Int) (wrap64 ((pre.length : Int) + 1))) (fun k => ?_) (Ev.bind hpx (Ev.congr (fun k => if_neg (by simp)) hz))
    rw [hL,if_pos a0,if_pos (Int.natCast_nonneg _),if_pos a0,hx]
 obtain ⟨z,hz,hd⟩:=go l [] rfl
 exact Ev.bind hz ((Ev.now _).is hd)
theorem div_mod_at (n i k : Nat) (hk : k < n) : (i * n + k) / n = i ∧ (i * n + k) % n = k:=by
 have hn : 0 < n:=by omega
 constructor
 ·rw [Nat.mul_comm,Nat.mul_add_div hn,Nat.div_eq_of_lt hk,Nat.add_zero]
 ·rw [Nat.mul_comm,Nat.mul_add_mod,Nat.mod_eq_of_lt hk]
theorem cell_lt (n i k : Nat) (hi : i < n) (hk : k < n) : i * n + k < n * n:=by
 have : (i + 1) * n ≤ n * n:=Nat.mul_le_mul_right n hi
 rw [Nat.succ_mul] at this
 omega
theorem sq_le (n : Nat) (h : n ≤ 4) : n * n ≤ 16:=by
 have:=Nat.mul_le_mul h h
 omega
theorem row_le (n i : Nat) (hn : n ≤ 4) (hi : i ≤ n) : i * n ≤ 16:=by
 have:=Nat.mul_le_mul (Nat.le_trans hi hn) hn
 omega
def cutF (n : Nat) (g : Nat → Nat → Int) : Int → Int → Option Int:=fun i k => if 0 ≤ i ∧ i < n ∧ 0 ≤ k ∧ k < n then some (g i.toNat k.toNat) else none
theorem cutF_at (n : Nat) (g : Nat → Nat → Int) (i k : Nat) (hi : i < n) (hk : k < n) : cutF n g (i : Int) (k : Int) = some (g i k):=by
 unfold cutF;rw [if_pos (by omega)];simp
def sqL (n : Nat) (g : Nat → Nat → Int) : List Int:=tab (n * n) (fun m => g (m / n) (m % n))
theorem sqL_get (n : Nat) (g : Nat → Nat → Int) (i k : Nat) (hi : i < n) (hk : k < n) : (sqL n g).getD (i * n + k) 0 = g i k:=by
 unfold sqL
 rw [tab_get _ _ _ (cell_lt n i k hi hk)]
 obtain ⟨h1,h2⟩:=div_mod_at n i k hk
 rw [h1,h2]
theorem sqL_congr (n : Nat) (g h : Nat → Nat → Int) (e : ∀ i k,i < n → k < n → g i k = h i k) : sqL n g = sqL n h:=by
 refine tab_congr _ _ _ (fun j hj => e _ _ (Nat.div_lt_of_lt_mul hj) (Nat.mod_lt _ ?_))
 rcases n with _|n
 ·simp at hj
 ·omega
theorem eq_sqL (n : Nat) (l : List Int) (h : l.length = n * n) : l = sqL n (fun i k => l.getD (i * n + k) 0):=by
 refine (eq_tab l _ h).trans (tab_congr _ _ _ (fun j _ => ?_))
 show l.getD j 0 = l.getD (j / n * n + j % n) 0
 rw [Nat.mul_comm,Nat.div_add_mod]
theorem filledG (n : Nat) (hn : n ≤ 4) (g : Nat → Nat → Int) (c : Nat → Int → Int → Option Int) (hc : ∀ i,i < n → ∀ k,k < n → Ev (fun K => c K (i : Int) (k : Int)) (g i k)) (L0 : Nat → Int → Int → Int → Int → List Int → Option (Int × List Int)) (L1 : Nat → Int → Int → Int → Int → Int → Int → Int → List Int → Option (Int × List Int))
  (h0 : ∀ k x0 x10 x11 y z,L0 (k + 1) x0 x10 x11 y z = if x11 < x10 then L1 k x0 x11 x10 x11 x0 0 y z else some (y,z))
  (h1 : ∀ k x0 x6 x10 x11 x14 x15 y z,L1 (k + 1) x0 x6 x10 x11 x14 x15 y z = if x15 < x14 then ((c k x6 x15).bind fun t1 => if z.length < 17592186044416 then L1 k x0 x6 x10 x11 x14 (wrap64 (x15 + 1)) y (z ++ [t1]) else none) else L0 k x0 x10 (wrap64 (x11 + 1)) y z) :
  Ev (fun k => L0 k (n : Int) (n : Int) 0 (n : Int) []) ((n : Int),sqL n g):=by
 have inner : ∀ (i : Nat) (r : Int × List Int),i < n → Ev (fun j => L0 j n n ((i + 1 : Nat) : Int) n (tab ((i + 1) * n) (fun m => g (m / n) (m % n)))) r →
   Ev (fun j => L0 j n n (i : Int) n (tab (i * n) (fun m => g (m / n) (m % n)))) r:=by
  intro i r hi h
  refine Ev.step (f:=fun j => L1 j n i n i n ((0 : Nat) : Int) n (tab (i * n + 0) (fun m => g (m / n) (m % n)))) (fun k => ?_) ?_
  ·rw [h0,if_pos (by omega)];rfl
  refine up_loop n (fun k j => L1 j n i n i n (k : Int) n (tab (i * n + k) (fun m => g (m / n) (m % n)))) r (fun k hk hs => ?_) ?_
  ·have hr:=row_le n i hn (by omega)
   obtain ⟨d1,d2⟩:=div_mod_at n i k hk
   have e : tab (i * n + k) (fun m => g (m / n) (m % n)) ++ [g i k] = tab (i * n + (k + 1)) (fun m => g (m / n) (m % n)):=by
    rw [← Nat.add_assoc,← tab_snoc,d1,d2]
   have b0 : (tab (i * n + k) (fun m => g (m / n) (m % n))).length < 17592186044416:=by rw [tab_length];omega
   have a0 : (k : Int) < (n : Int):=by omega
   have wk : wrap64 ((k : Int) + 1) = ((k + 1 : Nat) : Int):=by rw [w64 (by omega) (by omega)];rfl
   refine Ev.step (f:=fun j => (c j (i : Int) (k : Int)).bind fun t1 => if (tab (i * n + k) (fun m => g (m / n) (m % n))).length < 17592186044416 then L1 j n i n i n (wrap64 ((k : Int) + 1)) n (tab (i * n + k) (fun m => g (m / n) (m % n)) ++ [t1]) else none) (fun j => ?_) (Ev.bind (hc i hi k hk) (Ev_t b0 ?_))
   ·rw [h1,if_pos a0]
   ·rw [wk,e];exact hs
  ·refine Ev.step (fun j => ?_) h
   rw [h1,if_neg (by omega),w64 (by omega) (by omega),Nat.succ_mul];rfl
 refine Ev.congr (f:=fun j => L0 j n n ((0 : Nat) : Int) n (tab (0 * n) (fun m => g (m / n) (m % n)))) (fun k => ?_) ?_
 ·simp [tab]
 refine up_loop n (fun i j => L0 j n n (i : Int) n (tab (i * n) (fun m => g (m / n) (m % n)))) _ (fun i hi hs => inner i _ hi hs) ?_
 refine Ev.step (f:=fun _ => some ((n : Int),sqL n g)) (fun j => ?_) (Ev.now _)
 rw [h0,if_neg (by omega)];rfl
theorem tdiv_nat (m n : Nat) : Int.tdiv (m : Int) (n : Int) = ((m / n : Nat) : Int):=by rw [Int.tdiv_eq_ediv_of_nonneg (by omega)];simp
theorem tmod_nat (m n : Nat) : Int.tmod (m : Int) (n : Int) = ((m % n : Nat) : Int):=by rw [Int.tmod_eq_emod_of_nonneg (by omega)];simp
theorem idx1 (n m l : Nat) (hn : n ≤ 4) (hi : m / n < n) (hl : l < n) : wrap64 (wrap64 (wrap64 (Int.tdiv (m : Int) (n : Int)) * (n : Int)) + l) = ((m / n * n + l : Nat) : Int):=by
 have r1:=row_le n (m / n) hn (by omega)
 rw [tdiv_nat]
 obtain ⟨q,hq⟩ : ∃ q : Nat,m / n = q:=⟨_,rfl⟩
 rw [hq] at hi r1 ⊢
 have h1 : ((q : Nat) : Int) * (n : Int) = ((q * n : Nat) : Int):=by simp
 obtain ⟨s,hs⟩ : ∃ s : Nat,q * n = s:=⟨_,rfl⟩
 rw [w64 (x:=((q : Nat) : Int)) (by omega) (by omega),h1]
 rw [hs] at r1 ⊢
 clear h1 hs hq
 rw [w64 (x:=((s : Nat) : Int)) (by omega) (by omega),w64 (by omega) (by omega)];simp
theorem idx2 (n m l : Nat) (hn : n ≤ 4) (hk : m % n < n) (hl : l < n) : wrap64 (wrap64 ((l : Int) * (n : Int)) + Int.tmod (m : Int) (n : Int)) = ((l * n + m % n : Nat) : Int):=by
 have r2:=row_le n l hn (by omega)
 rw [tmod_nat]
 obtain ⟨q,hq⟩ : ∃ q : Nat,m % n = q:=⟨_,rfl⟩
 rw [hq] at hk ⊢
 have h1 : (l : Int) * (n : Int) = ((l * n : Nat) : Int):=by simp
 obtain ⟨s,hs⟩ : ∃ s : Nat,l * n = s:=⟨_,rfl⟩
 rw [h1]
 rw [hs] at r2 ⊢
 clear h1 hs hq
 rw [w64 (x:=((s : Nat) : Int)) (by omega) (by omega),w64 (by omega) (by omega)];simp
theorem MV_nat {n : Int} {l : List Int} (h : MV n l) : ∃ m : Nat,n = (m : Int) ∧ 1 ≤ m ∧ m ≤ 4 ∧ l.length = m * m:=by
 refine ⟨n.toNat,?_⟩
 have h1:=h.1
 have h2:=h.2.1
 have h3:=h.2.2.1
 obtain ⟨m,rfl⟩ : ∃ m : Nat,n = (m : Int):=⟨n.toNat,by omega⟩
 refine ⟨by simp,by simp;omega,by simp;omega,?_⟩
 simp only [Int.toNat_natCast]
 exact_mod_cast h3
theorem Ev_sz {α : Type} {o : Option Int} {z : Int} {g : Nat → Int → Option α} {r : α} (h : o = some z) (k : Ev (fun n => g n z) r) : Ev (fun n => o.bind (g n)) r:=Ev.congr (fun n => by rw [h];rfl) k
theorem rdS_mid (pre : List Stp) (x : Stp) (t : List Stp) : rdT (pre ++ x :: t) (pre.length : Int) = x:=by simp [rdT,List.getD_eq_getElem?_getD]
theorem snocA {α : Type} (pre : List α) (x : α) : (((pre ++ [x]).length : Nat) : Int) = (pre.length : Int) + 1:=by simp
def mrk (n : Int) : Option Int → List Int → Bool
 | _,[] => true
 | p,x :: t => decide (0 ≤ x ∧ x < n) && (match p with|none => true|some y => decide (y < x)) && mrk n (some x) t
def stepOk (n : Int) (s : Stp) : Bool:=decide (0 ≤ s.f0 ∧ s.f0 < n ∧ 0 ≤ s.f2 ∧ s.f2 < n ∧ 0 ≤ s.f3 ∧ s.f3 ≤ 3 ∧ (s.f1.toList = ([97] : List UInt8) ∨ s.f1.toList = ([98] : List UInt8)))
def bef (s t : Stp) : Bool:=if s.f0 = t.f0 then (if s.f1.toList = t.f1.toList then decide (s.f2 < t.f2) else Op.bytesLess s.f1.toList t.f1.toList) else decide (s.f0 < t.f0)
def stp (n : Int) : Option Stp → List Stp → Bool
 | _,[] => true
 | p,x :: t => stepOk n x && (match p with|none => true|some y => bef y x) && stp n (some x) t
def AV (n : Int) (s f : List Int) (t : List Stp) : Bool:=decide (1 ≤ n ∧ n ≤ 4 ∧ t.length ≤ 24) && mrk n none s && mrk n none f && stp n none t
theorem iMarks (n : Int) (l : List Int) (h : l.length ≤ 1000000000) : Ev (fun k => impl_statesOk.f k l n) (mrk n none l):=by
 have go : ∀ (t pre : List Int),l = pre ++ t → Ev (fun k => impl_statesOk.l0 k l n l (l.length : Int) (pre.length : Int)) (mrk n pre.getLast? t):=by
  intro t
  induction t with
  | nil =>
   intro pre hl
   refine Ev.step (f:=fun _ => some true) (fun k => ?_) (Ev.now _)
   simp only [impl_statesOk.l0];rw [if_neg (by rw [hl];simp)]
  | cons x t ih =>
   intro pre hl
   have hlen : l.length = pre.length + (t.length + 1):=by rw [hl];simp
   have hx : rdI l (pre.length : Int) = x:=by rw [hl,rd_mid]
   have i1:=ih (pre ++ [x]) (by simp [hl])
   rw [List.getLast?_concat,snoc_len] at i1
   by_cases h0 : x < 0
   ·refine Ev.step (f:=fun _ => some false) (fun k => ?_) ((Ev.now _).is ?_)
    ·simp only [impl_statesOk.l0];rw [if_pos (by omega),if_pos (by omega),if_pos (by omega),hx,if_pos h0]
    ·simp only [mrk];rw [decide_eq_false (by omega)];rfl
   by_cases h1 : x ≥ n
   ·refine Ev.step (f:=fun _ => some false) (fun k => ?_) ((Ev.now _).is ?_)
    ·simp only [impl_statesOk.l0];rw [if_pos (by omega),if_pos (by omega),if_pos (by omega),hx,if_neg h0,if_pos h1]
    ·simp only [mrk];rw [decide_eq_false (by omega)];rfl
   rcases List.eq_nil_or_concat pre with rfl | ⟨q,y,rfl⟩
   ·refine Ev.step (fun k => ?_) (i1.is ?_)
    ·simp only [impl_statesOk.l0];rw [if_pos (by omega),if_pos (by omega),if_pos (by omega),hx,if_neg h0,if_neg h1,if_neg (by simp),w64 (by omega) (by omega)]
    ·simp only [mrk,List.getLast?_nil];rw [decide_eq_true (by omega)];rfl
   ·rw [List.concat_eq_append] at *
    have e : wrap64 (((q ++ [y]).length : Int) - 1) = (q.length : Int):=by rw [snoc_len,w64 (by omega) (by rw [List.length_append] at hlen;omega)];omega
    have hy : rdI l (q.length : Int) = y:=by rw [hl,List.append_assoc];exact rd_mid q y (x :: t)
    have hq:=hlen
    rw [List.length_append,List.length_singleton] at hq
    by_cases h2 : y ≥ x
    ·refine Ev.step (f:=fun _ => some false) (fun k => ?_) ((Ev.now _).is ?_)
     ·simp only [impl_statesOk.l0];rw [if_pos (by omega),if_pos (by omega),if_pos (by omega),hx,if_neg h0,if_neg h1,if_pos (by rw [snoc_len];omega),e,if_pos (by omega),if_pos (by omega),hy,if_pos h2]
     ·simp only [mrk,List.getLast?_concat];rw [decide_eq_false (p:=y < x) (by omega)];simp
    ·refine Ev.step (fun k => ?_) (i1.is ?_)
     ·simp only [impl_statesOk.l0];rw [if_pos (by omega),if_pos (by omega),if_pos (by omega),hx,if_neg h0,if_neg h1,if_pos (by rw [snoc_len];omega),e,if_pos (by omega),if_pos (by omega),hy,if_neg h2,w64 (by omega) (by omega)]
     ·simp only [mrk,List.getLast?_concat];rw [decide_eq_true (p:=y < x) (by omega),decide_eq_true (by omega)];rfl
 exact go l [] rfl
theorem sMarks (n : Int) (hn : 1 ≤ n ∧ n ≤ 4) (l : List Int) (h : l.length ≤ 1000000000) : Ev (fun k => spec_l3Marks.f k n l) (mrk n none l):=by
 have go : ∀ (t pre : List Int),l = pre ++ t → Ev (fun k => spec_l3Marks.l0 k n l l (l.length : Int) (pre.length : Int)) (mrk n pre.getLast? t):=by
  intro t
  induction t with
  | nil =>
   intro pre hl
   refine Ev.step (f:=fun _ => some true) (fun k => ?_) (Ev.now _)
   simp only [spec_l3Marks.l0];rw [if_neg (by rw [hl];simp)]
  | cons x t ih =>
   intro pre hl
   have hlen : l.length = pre.length + (t.length + 1):=by rw [hl];simp
   have hx : rdI l (pre.length : Int) = x:=by rw [hl,rd_mid]
   have i1:=ih (pre ++ [x]) (by simp [hl])
   rw [List.getLast?_concat,snoc_len] at i1
   have hw : wrap64 (n - 1) = n - 1:=w64 (by omega) (by omega)
   by_cases h0 : 0 ≤ x ∧ x < n
   case neg =>
    refine Ev.step (f:=fun _ => some false) (fun k => ?_) ((Ev.now _).is ?_)
    ·simp only [spec_l3Marks.l0];rw [if_pos (by omega),if_pos (by omega),if_pos (by omega),hx,sIn,hw,decide_eq_false (by omega),Option.bind_some,if_neg (by simp)]
    ·simp only [mrk];rw [decide_eq_false h0];rfl
   have hd : decide (0 ≤ x ∧ x ≤ n - 1) = true:=decide_eq_true (by omega)
   rcases List.eq_nil_or_concat pre with rfl | ⟨q,y,rfl⟩
   ·refine Ev.step (fun k => ?_) (i1.is ?_)
    ·simp only [spec_l3Marks.l0];rw [if_pos (by omega),if_pos (by omega),if_pos (by omega),hx,sIn,hw,hd,Option.bind_some,if_pos rfl,if_neg (by simp),w64 (by omega) (by omega)]
    ·simp only [mrk,List.getLast?_nil];rw [decide_eq_true h0];rfl
   ·rw [List.concat_eq_append] at *
    have e : wrap64 (((q ++ [y]).length : Int) - 1) = (q.length : Int):=by rw [snoc_len,w64 (by omega) (by rw [List.length_append] at hlen;omega)];omega
    have hy : rdI l (q.length : Int) = y:=by rw [hl,List.append_assoc];exact rd_mid q y (x :: t)
    have hq:=hlen
    rw [List.length_append,List.length_singleton] at hq
    by_cases h2 : y ≥ x
    ·refine Ev.step (f:=fun _ => some false) (fun k => ?_) ((Ev.now _).is ?_)
     ·simp only [spec_l3Marks.l0];rw [if_pos (by omega),if_pos (by omega),if_pos (by omega),hx,sIn,hw,hd,Option.bind_some,if_pos rfl,if_pos (by rw [snoc_len];omega),e,if_pos (by omega),if_pos (by omega),hy,if_pos h2]
     ·simp only [mrk,List.getLast?_concat];rw [decide_eq_false (p:=y < x) (by omega)];simp
    ·refine Ev.step (fun k => ?_) (i1.is ?_)
     ·simp only [spec_l3Marks.l0];rw [if_pos (by omega),if_pos (by omega),if_pos (by omega),hx,sIn,hw,hd,Option.bind_some,if_pos rfl,if_pos (by rw [snoc_len];omega),e,if_pos (by omega),if_pos (by omega),hy,if_neg h2,w64 (by omega) (by omega)]
     ·simp only [mrk,List.getLast?_concat];rw [decide_eq_true (p:=y < x) (by omega),decide_eq_true h0];rfl
 exact go l [] rfl
def cmp0 (a b : Int) : Int:=if a < b then -1 else if a > b then 1 else 0
def ordL (s t : Stp) : Int:=if cmp0 s.f0 t.f0 = 0 then (if Lib.compareBytes s.f1.data.toList t.f1.data.toList = 0 then cmp0 s.f2 t.f2 else Lib.compareBytes s.f1.data.toList t.f1.data.toList) else cmp0 s.f0 t.f0
theorem cmp_eq (a b : Int) : cmp_Compare_int.f a b = some (cmp0 a b):=by
 unfold cmp_Compare_int.f cmp_isNaN_int.f cmp0
 simp only [decide_true,Bool.not_true,Option.bind_some,Bool.false_eq_true,if_false]
 by_cases h : a < b
 ·rw [if_pos h,if_pos h]
 ·rw [if_neg h,if_neg h];by_cases h2 : a > b
  ·rw [if_pos h2,if_pos h2]
  ·rw [if_neg h2,if_neg h2]
theorem cmpOr_ev (l : List Int) (h : l.length ≤ 1000000000) : Ev (fun k => cmp_Or_int.f k l) ((l.find? (· != 0)).getD 0):=by
 have go : ∀ (t pre : List Int),l = pre ++ t → Ev (fun k => cmp_Or_int.l0 k l (l.length : Int) (pre.length : Int)) ((t.find? (· != 0)).getD 0):=by
  intro t
  induction t with
  | nil =>
   intro pre hl
   refine Ev.step (f:=fun _ => some 0) (fun k => ?_) (Ev.now _)
   simp only [cmp_Or_int.l0];rw [if_neg (by rw [hl];simp)]
  | cons x t ih =>
   intro pre hl
   have hlen : l.length = pre.length + (t.length + 1):=by rw [hl];simp
   have hx : rdI l (pre.length : Int) = x:=by rw [hl,rd_mid]
   have i1:=ih (pre ++ [x]) (by simp [hl])
   rw [snoc_len] at i1
   by_cases h0 : x = 0
   ·refine Ev.step (fun k => ?_) (i1.is ?_)
    ·simp only [cmp_Or_int.l0];rw [if_pos (by omega),if_pos (by omega),if_pos (by omega),hx,if_pos h0,w64 (by omega) (by omega)]
    ·simp [List.find?_cons,h0]
   ·refine Ev.step (f:=fun _ => some x) (fun k => ?_) ((Ev.now _).is ?_)
    ·simp only [cmp_Or_int.l0];rw [if_pos (by omega),if_pos (by omega),if_pos (by omega),hx,if_neg h0]
    ·simp [List.find?_cons,h0]
 exact go l [] rfl
theorem iOrder (s t : Stp) : Ev (fun k => impl_stepOrder.f k s.f0 s.f1 s.f2 s.f3 t.f0 t.f1 t.f2 t.f3) (ordL s t):=by
 refine Ev.congr (f:=?f1) (fun k => ?h1) ?k1
 case h1 => unfold impl_stepOrder.f strings_Compare.f bytealg_CompareString.f;rw [cmp_eq,cmp_eq,Option.bind_some,Option.bind_some,Option.bind_some,Option.bind_some] <;> exact rfl
 refine (Ev.bind (cmpOr_ev _ (by simp)) (Ev.now _)).is ?_
 unfold ordL
 by_cases h : cmp0 s.f0 t.f0 = 0
 ·by_cases h2 : Lib.compareBytes s.f1.data.toList t.f1.data.toList = 0
  ·by_cases h3 : cmp0 s.f2 t.f2 = 0 <;> simp [List.find?_cons,h,h2,h3]
  ·simp [List.find?_cons,h,h2]
 ·simp [List.find?_cons,h]
theorem sBefore (s t : Stp) : spec_l3Before.f s.f0 s.f1 s.f2 s.f3 t.f0 t.f1 t.f2 t.f3 = some (bef s t):=by
 unfold spec_l3Before.f bef
 by_cases h : s.f0 = t.f0
 ·rw [if_pos h,if_pos h];by_cases h2 : s.f1.toList = t.f1.toList
  ·rw [if_pos h2,if_pos h2]
  ·rw [if_neg h2,if_neg h2]
 ·rw [if_neg h,if_neg h]
theorem cmp0_lt {a b : Int} : cmp0 a b < 0 ↔ a < b:=by
 unfold cmp0
 by_cases h : a < b
 ·simp [h]
 ·by_cases h2 : a > b <;> simp [h,h2]
theorem cmp0_eq {a b : Int} : cmp0 a b = 0 ↔ a = b:=by
 unfold cmp0
 by_cases h : a < b
 ·rw [if_pos h];omega
 ·by_cases h2 : a > b
  ·rw [if_neg h,if_pos h2];omega
  ·rw [if_neg h,if_neg h2];omega
theorem ord_bef {n : Int} {s t : Stp} (hs : stepOk n s = true) (ht : stepOk n t = true) : ordL s t < 0 ↔ bef s t = true:=by
 unfold stepOk at hs ht
 have hs:=of_decide_eq_true hs
 have ht:=of_decide_eq_true ht
 unfold ordL bef
 have e1:=toList_L s.f1
 have e2:=toList_L t.f1
 unfold L at e1 e2
 rw [← e1,← e2]
 by_cases h : s.f0 = t.f0
 ·rw [if_pos (cmp0_eq.mpr h),if_pos h]
  rcases hs.2.2.2.2.2.2 with a|a <;> rcases ht.2.2.2.2.2.2 with b|b <;> rw [a,b]
  ·rw [if_pos rfl,show Lib.compareBytes ([97] : List UInt8) [97] = 0 by decide,if_pos rfl,cmp0_lt,decide_eq_true_eq]
  ·rw [if_neg (show ¬ Lib.compareBytes ([97] : List UInt8) [98] = 0 by decide),if_neg (by decide)];decide
  ·rw [if_neg (show ¬ Lib.compareBytes ([98] : List UInt8) [97] = 0 by decide),if_neg (by decide)];decide
  ·rw [if_pos rfl,show Lib.compareBytes ([98] : List UInt8) [98] = 0 by decide,if_pos rfl,cmp0_lt,decide_eq_true_eq]
 ·rw [if_neg (fun g => h (cmp0_eq.mp g)),if_neg h,cmp0_lt,decide_eq_true_eq]
theorem iSteps (n : Int) (s f : List Int) (t : List Stp) (h : t.length ≤ 1000000000) : Ev (fun k => impl_AutomatonValid.l0 k t (t.length : Int) 0 n s f t) (stp n none t):=by
 have go : ∀ (u pre : List Stp),t = pre ++ u → (∀ y,pre.getLast? = some y → stepOk n y = true) → Ev (fun k => impl_AutomatonValid.l0 k t (t.length : Int) (pre.length : Int) n s f t) (stp n pre.getLast? u):=by
  intro u
  induction u with
  | nil =>
   intro pre hl _
   refine Ev.step (f:=fun _ => some true) (fun k => ?_) (Ev.now _)
   simp only [impl_AutomatonValid.l0];rw [if_neg (by rw [hl];simp)]
  | cons x u ih =>
   intro pre hl hp
   have hlen : t.length = pre.length + (u.length + 1):=by rw [hl];simp
   have hx : rdT t (pre.length : Int) = x:=by rw [hl,rdS_mid]
   have tail : stepOk n x = true → Ev (fun k => if (pre.length : Int) > 0 then (if 0 ≤ (wrap64 ((pre.length : Int) - 1)) then (if (wrap64 ((pre.length : Int) - 1)) < (t.length : Int) then ((impl_stepOrder.f k ((rdT t (wrap64 ((pre.length : Int) - 1))).f0) ((rdT t (wrap64 ((pre.length : Int) - 1))).f1) ((rdT t (wrap64 ((pre.length : Int) - 1))).f2) ((rdT t (wrap64 ((pre.length : Int) - 1))).f3) x.f0 x.f1 x.f2 x.f3).bind fun z => (if z ≥ 0 then (some false) else (impl_AutomatonValid.l0 k t (t.length : Int) (wrap64 ((pre.length : Int) + 1)) n s f t))) else none) else none) else (impl_AutomatonValid.l0 k t (t.length : Int) (wrap64 ((pre.length : Int) + 1)) n s f t)) (stp n pre.getLast? (x :: u)):=by
    intro hok
    have i1:=ih (pre ++ [x]) (by simp [hl]) (fun y hy => by rw [List.getLast?_concat] at hy;obtain rfl:=Option.some.inj hy;exact hok)
    rw [List.getLast?_concat,snocA] at i1
    have ew : wrap64 ((pre.length : Int) + 1) = (pre.length : Int) + 1:=w64 (by omega) (by omega)
    rw [ew]
    rcases List.eq_nil_or_concat pre with rfl | ⟨q,y,rfl⟩
    ·refine Ev.congr (fun k => by rw [if_neg (by simp)] <;> exact rfl) (i1.is ?_)
     simp only [stp,List.getLast?_nil,hok,Bool.true_and]
    ·rw [List.concat_eq_append] at *
     have hq:=hlen
     rw [List.length_append,List.length_singleton] at hq
     have e : wrap64 (((q ++ [y]).length : Int) - 1) = (q.length : Int):=by rw [snocA,w64 (by omega) (by omega)];omega
     have hy : rdT t (q.length : Int) = y:=by rw [hl,List.append_assoc];exact rdS_mid q y (x :: u)
     have hoy : stepOk n y = true:=hp y (by rw [List.getLast?_concat])
     refine Ev.congr (f:=?f1) (fun k => ?h1) ?k1
     case h1 => rw [e,if_pos (by rw [snocA];omega),if_pos (by omega),if_pos (by omega),hy] <;> exact rfl
     refine Ev.bind (iOrder y x) ?_
     by_cases hb : bef y x = true
     ·refine Ev.congr (fun k => if_neg (by have:=(ord_bef hoy hok).mpr hb;omega)) (i1.is ?_)
      simp only [stp,List.getLast?_concat,hok,hb,Bool.true_and]
     ·refine Ev.congr (f:=fun _ => some false) (fun k => if_pos (Int.not_lt.mp fun h => hb ((ord_bef hoy hok).mp h))) ((Ev.now _).is ?_)
      simp only [stp,List.getLast?_concat,hok,Bool.true_and]
      rw [Bool.not_eq_true] at hb
      rw [hb];rfl
   by_cases hok : stepOk n x = true
   ·have ho:=of_decide_eq_true (show decide _ = true from hok)
    refine Ev.step (fun k => ?_) (tail hok)
    simp only [impl_AutomatonValid.l0]
    rw [if_pos (by omega),if_pos (by omega),if_pos (by omega),hx,if_neg (by omega),if_neg (by omega),if_neg (by omega),if_neg (by omega)]
    rcases ho.2.2.2.2.2.2 with a|a
    ·rw [if_pos a,if_neg (by omega),if_neg (by omega)]
    ·rw [if_neg (by rw [a];decide),if_pos a,if_neg (by omega),if_neg (by omega)]
   ·refine Ev.step (f:=fun _ => some false) (fun k => ?_) ((Ev.now _).is ?_)
    ·simp only [impl_AutomatonValid.l0]
     rw [if_pos (by omega),if_pos (by omega),if_pos (by omega),hx]
     by_cases a1 : x.f0 < 0
     ·rw [if_pos a1]
     by_cases a2 : x.f0 ≥ n
     ·rw [if_neg a1,if_pos a2]
     by_cases a3 : x.f2 < 0
     ·rw [if_neg a1,if_neg a2,if_pos a3]
     by_cases a4 : x.f2 ≥ n
     ·rw [if_neg a1,if_neg a2,if_neg a3,if_pos a4]
     rw [if_neg a1,if_neg a2,if_neg a3,if_neg a4]
     by_cases b1 : x.f1.toList = ([97] : List UInt8)
     ·rw [if_pos b1]
      by_cases a5 : x.f3 < 0
      ·rw [if_pos a5]
      by_cases a6 : x.f3 > 3
      ·rw [if_neg a5,if_pos a6]
      exact absurd (show stepOk n x = true from decide_eq_true ⟨by omega,by omega,by omega,by omega,by omega,by omega,.inl b1⟩) hok
     ·rw [if_neg b1]
      by_cases b2 : x.f1.toList = ([98] : List UInt8)
      ·rw [if_pos b2]
       by_cases a5 : x.f3 < 0
       ·rw [if_pos a5]
       by_cases a6 : x.f3 > 3
       ·rw [if_neg a5,if_pos a6]
       exact absurd (show stepOk n x = true from decide_eq_true ⟨by omega,by omega,by omega,by omega,by omega,by omega,.inr b2⟩) hok
      ·rw [if_neg b2]
    ·rw [Bool.not_eq_true] at hok
     simp only [stp,hok,Bool.false_and]
 exact go t [] rfl (fun y hy => by simp at hy)
theorem sStepOk (n : Int) (hn : 1 ≤ n ∧ n ≤ 4) (x : Stp) : spec_l3Step.f n x.f0 x.f1 x.f2 x.f3 = some (stepOk n x):=by
 unfold spec_l3Step.f stepOk
 rw [sIn,sIn,sIn,w64 (x:=n - 1) (by omega) (by omega),Option.bind_some]
 by_cases a1 : 0 ≤ x.f0 ∧ x.f0 ≤ n - 1
 ·rw [decide_eq_true a1,if_pos rfl,Option.bind_some]
  by_cases a2 : 0 ≤ x.f2 ∧ x.f2 ≤ n - 1
  ·rw [decide_eq_true a2,if_pos rfl,Option.bind_some]
   by_cases a3 : 0 ≤ x.f3 ∧ x.f3 ≤ 3
   ·rw [decide_eq_true a3,if_pos rfl]
    by_cases b : x.f1.toList = ([97] : List UInt8)
    ·rw [if_pos b,decide_eq_true (by refine ⟨?_,?_,?_,?_,?_,?_,.inl b⟩ <;> omega)]
    ·rw [if_neg b]
     by_cases b2 : x.f1.toList = ([98] : List UInt8)
     ·rw [decide_eq_true b2,decide_eq_true (by refine ⟨?_,?_,?_,?_,?_,?_,.inr b2⟩ <;> omega)]
     ·rw [decide_eq_false b2,decide_eq_false (by intro g;rcases g.2.2.2.2.2.2 with c|c;exact b c;exact b2 c)]
   ·rw [decide_eq_false a3,if_neg (by simp),decide_eq_false (by omega)]
  ·rw [decide_eq_false a2,if_neg (by simp),decide_eq_false (by omega)]
 ·rw [decide_eq_false a1,if_neg (by simp),decide_eq_false (by omega)]
theorem sSteps (n : Int) (hn : 1 ≤ n ∧ n ≤ 4) (s f : List Int) (t : List Stp) (h : t.length ≤ 1000000000) : Ev (fun k => spec_AutomatonValid.l0 k t (t.length : Int) 0 n s f t) (stp n none t):=by
 have go : ∀ (u pre : List Stp),t = pre ++ u → Ev (fun k => spec_AutomatonValid.l0 k t (t.length : Int) (pre.length : Int) n s f t) (stp n pre.getLast? u):=by
  intro u
  induction u with
  | nil =>
   intro pre hl
   refine Ev.step (f:=fun _ => some true) (fun k => ?_) (Ev.now _)
   simp only [spec_AutomatonValid.l0];rw [if_neg (by rw [hl];simp)]
  | cons x u ih =>
   intro pre hl
   have hlen : t.length = pre.length + (u.length + 1):=by rw [hl];simp
   have hx : rdT t (pre.length : Int) = x:=by rw [hl,rdS_mid]
   have i1:=ih (pre ++ [x]) (by simp [hl])
   rw [List.getLast?_concat,snocA] at i1
   by_cases hok : stepOk n x = true
   ·rcases List.eq_nil_or_concat pre with rfl | ⟨q,y,rfl⟩
    ·refine Ev.step (fun k => ?_) (i1.is ?_)
     ·simp only [spec_AutomatonValid.l0];rw [if_pos (by omega),if_pos (by omega),if_pos (by omega),hx,sStepOk n hn,hok,Option.bind_some,if_pos rfl,if_neg (by simp),w64 (by omega) (by omega)]
     ·simp only [stp,List.getLast?_nil,hok,Bool.true_and]
    ·rw [List.concat_eq_append] at *
     have hq:=hlen
     rw [List.length_append,List.length_singleton] at hq
     have e : wrap64 (((q ++ [y]).length : Int) - 1) = (q.length : Int):=by rw [snocA,w64 (by omega) (by omega)];omega
     have hy : rdT t (q.length : Int) = y:=by rw [hl,List.append_assoc];exact rdS_mid q y (x :: u)
     by_cases hb : bef y x = true
     ·refine Ev.step (fun k => ?_) (i1.is ?_)
      ·simp only [spec_AutomatonValid.l0];rw [if_pos (by omega),if_pos (by omega),if_pos (by omega),hx,sStepOk n hn,hok,Option.bind_some,if_pos rfl,if_pos (by rw [snocA];omega),e,if_pos (by omega),if_pos (by omega),hy,sBefore,hb,Option.bind_some,if_pos rfl,w64 (by omega) (by omega)]
      ·simp only [stp,List.getLast?_concat,hok,hb,Bool.true_and]
     ·rw [Bool.not_eq_true] at hb
      refine Ev.step (f:=fun _ => some false) (fun k => ?_) ((Ev.now _).is ?_)
      ·simp only [spec_AutomatonValid.l0];rw [if_pos (by omega),if_pos (by omega),if_pos (by omega),hx,sStepOk n hn,hok,Option.bind_some,if_pos rfl,if_pos (by rw [snocA];omega),e,if_pos (by omega),if_pos (by omega),hy,sBefore,hb,Option.bind_some,if_neg (by simp)]
      ·simp only [stp,List.getLast?_concat,hok,hb,Bool.true_and];rfl
   ·rw [Bool.not_eq_true] at hok
    refine Ev.step (f:=fun _ => some false) (fun k => ?_) ((Ev.now _).is ?_)
    ·simp only [spec_AutomatonValid.l0];rw [if_pos (by omega),if_pos (by omega),if_pos (by omega),hx,sStepOk n hn,hok,Option.bind_some,if_neg (by simp)]
    ·simp only [stp,hok,Bool.false_and]
 exact go t [] rfl
theorem iAV (n : Int) (s f : List Int) (t : List Stp) (hs : s.length ≤ 1000000000) (hf : f.length ≤ 1000000000) (ht : t.length ≤ 1000000000) : Ev (fun k => impl_AutomatonValid.f k n s f t) (AV n s f t):=by
 have bad : ∀ g : Nat → Option Bool,(∀ k,g k = some false) → AV n s f t = false → Ev g (AV n s f t):=fun g hg he => ⟨0,fun k _ => by rw [hg,he]⟩
 by_cases h1 : n < 1
 ·exact bad _ (fun k => by unfold impl_AutomatonValid.f;rw [if_pos h1]) (by unfold AV;rw [decide_eq_false (by omega)];rfl)
 by_cases h2 : n > 4
 ·exact bad _ (fun k => by unfold impl_AutomatonValid.f;rw [if_neg h1,if_pos h2]) (by unfold AV;rw [decide_eq_false (by omega)];rfl)
 by_cases h3 : (t.length : Int) > 24
 ·exact bad _ (fun k => by unfold impl_AutomatonValid.f;rw [if_neg h1,if_neg h2,if_pos h3]) (by unfold AV;rw [decide_eq_false (by omega)];rfl)
 have hd : decide (1 ≤ n ∧ n ≤ 4 ∧ t.length ≤ 24) = true:=decide_eq_true (by omega)
 refine Ev.congr (f:=?f1) (fun k => ?h1) ?k1
 case h1 => unfold impl_AutomatonValid.f;rw [if_neg h1,if_neg h2,if_neg h3] <;> exact rfl
 refine Ev.bind (iMarks n s hs) ?_
 by_cases g1 : mrk n none s = true
 case neg =>
  exact bad _ (fun k => by rw [if_neg g1]) (by unfold AV;rw [Bool.not_eq_true] at g1;rw [g1];simp)
 refine Ev_t g1 ?_
 refine Ev.bind (iMarks n f hf) ?_
 by_cases g2 : mrk n none f = true
 case neg =>
  rw [Bool.not_eq_true] at g2
  exact bad _ (fun k => by rw [g2];rfl) (by unfold AV;rw [g2];simp)
 refine Ev.congr (fun k => by rw [if_pos g2]) ((iSteps n s f t ht).is ?_)
 unfold AV;rw [hd,g1,g2];rfl
theorem sAV (n : Int) (s f : List Int) (t : List Stp) (hs : s.length ≤ 1000000000) (hf : f.length ≤ 1000000000) (ht : t.length ≤ 1000000000) : Ev (fun k => spec_AutomatonValid.f k n s f t) (AV n s f t):=by
 have bad : ∀ g : Nat → Option Bool,(∀ k,g k = some false) → AV n s f t = false → Ev g (AV n s f t):=fun g hg he => ⟨0,fun k _ => by rw [hg,he]⟩
 by_cases h1 : 1 ≤ n ∧ n ≤ 4
 case neg => exact bad _ (fun k => by unfold spec_AutomatonValid.f;rw [sIn,decide_eq_false h1,Option.bind_some,if_neg (by simp)]) (by unfold AV;rw [decide_eq_false (by omega)];rfl)
 refine Ev.congr (f:=?f1) (fun k => ?h1) ?k1
 case h1 => unfold spec_AutomatonValid.f;rw [sIn,decide_eq_true h1,Option.bind_some,if_pos rfl] <;> exact rfl
 refine Ev.bind (sMarks n h1 s hs) ?_
 by_cases g1 : mrk n none s = true
 case neg =>
  exact bad _ (fun k => by rw [if_neg g1]) (by unfold AV;rw [Bool.not_eq_true] at g1;rw [g1];simp)
 refine Ev_t g1 ?_
 refine Ev.bind (sMarks n h1 f hf) ?_
 by_cases g2 : mrk n none f = true
 case neg =>
  exact bad _ (fun k => by rw [if_neg g2]) (by unfold AV;rw [Bool.not_eq_true] at g2;rw [g2];simp)
 refine Ev_t g2 ?_
 by_cases h3 : (t.length : Int) > 24
 ·exact bad _ (fun k => by rw [if_pos h3]) (by unfold AV;rw [decide_eq_false (by omega)];rfl)
 refine Ev.congr (fun k => by rw [if_neg h3]) ((sSteps n h1 s f t ht).is ?_)
 unfold AV;rw [decide_eq_true (by omega),g1,g2];rfl
theorem mrk_mem {n : Int} : ∀ {l : List Int} {p : Option Int},mrk n p l = true → ∀ x ∈ l,0 ≤ x ∧ x < n
 | [],_,_,x,hx => by cases hx
 | y :: t,p,h,x,hx => by
  simp only [mrk,Bool.and_eq_true,decide_eq_true_eq] at h
  rcases List.mem_cons.mp hx with rfl|hx
  ·exact h.1.1
  ·exact mrk_mem h.2 x hx
theorem cellZ {n i k : Int} (hn : 1 ≤ n ∧ n ≤ 4) (hi : 0 ≤ i ∧ i < n) (hk : 0 ≤ k ∧ k < n) : 0 ≤ i * n + k ∧ i * n + k < n * n ∧ i * n + k ≤ 16 ∧ 0 ≤ i * n ∧ i * n ≤ 16:=by
 have h1 : n = 1 ∨ n = 2 ∨ n = 3 ∨ n = 4:=by omega
 rcases h1 with rfl|rfl|rfl|rfl <;> omega
theorem cellW {n i k : Int} (hn : 1 ≤ n ∧ n ≤ 4) (hi : 0 ≤ i ∧ i < n) (hk : 0 ≤ k ∧ k < n) : wrap64 (wrap64 (i * n) + k) = i * n + k:=by
 have c:=cellZ hn hi hk
 rw [w64 (x:=i * n) (by omega) (by omega),w64 (by omega) (by omega)]
theorem AV_parts {n : Int} {s f : List Int} {t : List Stp} (h : AV n s f t = true) : (1 ≤ n ∧ n ≤ 4) ∧ t.length ≤ 24 ∧ mrk n none s = true ∧ mrk n none f = true ∧ stp n none t = true:=by
 simp only [AV,Bool.and_eq_true,decide_eq_true_eq] at h
 exact ⟨⟨h.1.1.1.1,h.1.1.1.2.1⟩,h.1.1.1.2.2,h.1.1.2,h.1.2,h.2⟩
def cvS (x : Stp) : Stp:=⟨x.f0,x.f1,x.f2,x.f3⟩
theorem rdL_mid (pre : List Stp) (x : Stp) (t : List Stp) : rdT (pre ++ x :: t) (pre.length : Int) = x:=by simp [rdT,List.getD_eq_getElem?_getD]
def count : Int → Nat → List Int
 | _,0 => []
 | k,n + 1 => k :: count (k + 1) n
theorem count_length (n : Nat) : ∀ k,(count k n).length = n:=by induction n with
 | zero => intro k;rfl
 | succ n ih => intro k;simp [count,ih]
theorem bless : ∀ (a b : List UInt8),Op.bytesLess a b = decide (Lib.compareBytes a b < 0)
 | [],[] => rfl
 | [],_ :: _ => rfl
 | _ :: _,[] => rfl
 | a :: x,b :: y => by
  have e : Lib.compareBytes (a :: x) (b :: y) = if a < b then -1 else if b < a then 1 else Lib.compareBytes x y:=rfl
  by_cases h1 : a < b
  ·have h2 : Op.bytesLess (a :: x) (b :: y) = true:=by simp [Op.bytesLess,h1]
   exact h2.trans (decide_eq_true (by rw [e,if_pos h1];decide)).symm
  ·by_cases h2 : b < a
   ·have h3 : (a == b) = false:=by
     rw [beq_eq_false_iff_ne]
     rintro rfl
     exact h1 h2
    have h4 : Op.bytesLess (a :: x) (b :: y) = false:=by simp [Op.bytesLess,h1,h3]
    exact h4.trans (decide_eq_false (by rw [e,if_neg h1,if_pos h2];decide)).symm
   ·have q : a = b:=UInt8.le_antisymm (UInt8.not_lt.1 h2) (UInt8.not_lt.1 h1)
    subst q
    have h4 : Op.bytesLess (a :: x) (a :: y) = Op.bytesLess x y:=by simp [Op.bytesLess,h1]
    refine h4.trans ((bless x y).trans (decide_eq_decide.2 ?_))
    rw [e,if_neg h1,if_neg h1]
theorem bef_ord (s t : Stp) : bef s t = decide (ordT s t < 0):=by
 have e1:=toList_L s.f1
 have e2:=toList_L t.f1
 unfold L at e1 e2
 unfold bef
 by_cases h : s.f0 = t.f0
 ·rw [if_pos h]
  by_cases g : s.f1.toList = t.f1.toList
  ·rw [if_pos g]
   refine decide_eq_decide.2 ?_
   rw [ordT_lt,e1.symm.trans (g.trans e2),cB_refl]
   constructor
   ·exact fun q => .inr ⟨h,.inr ⟨rfl,q⟩⟩
   ·rintro (q | ⟨_,q | ⟨_,q⟩⟩)
    ·omega
    ·omega
    ·exact q
  ·rw [if_neg g,bless]
   refine decide_eq_decide.2 ?_
   rw [ordT_lt,e1,e2]
   constructor
   ·exact fun q => .inr ⟨h,.inl q⟩
   ·rintro (q | ⟨_,q | ⟨q,_⟩⟩)
    ·omega
    ·exact q
    ·exact absurd (e1.trans (q.trans e2.symm)) g
 ·rw [if_neg h]
  refine decide_eq_decide.2 ?_
  rw [ordT_lt]
  constructor
  ·exact .inl
  ·rintro (q | ⟨q,_⟩)
   ·exact q
   ·exact absurd q h
def ascT (t : List Stp) : Prop:=t.Pairwise fun x y => ordT x y < 0
def ascI (l : List Int) : Prop:=l.Pairwise fun x y => x < y
theorem stp_asc {n : Int} : ∀ {t : List Stp} {p : Option Stp},stp n p t = true ↔ (∀ x ∈ t,stepOk n x = true) ∧ ascT t ∧ ∀ y,p = some y → ∀ x ∈ t,ordT y x < 0
 | [],p => by simp [stp,ascT]
 | x :: t,p => by
  simp only [stp,Bool.and_eq_true,stp_asc (t:=t) (p:=some x),ascT,List.pairwise_cons,List.mem_cons,forall_eq_or_imp]
  constructor
  ·rintro ⟨⟨h1,h2⟩,h3,h4,h5⟩
   refine ⟨⟨h1,h3⟩,⟨h5 x rfl,h4⟩,?_⟩
   rintro y rfl
   simp only [bef_ord,decide_eq_true_eq] at h2
   exact ⟨h2,fun z hz => ordT_trans h2 (h5 x rfl z hz)⟩
  ·rintro ⟨⟨h1,h3⟩,⟨h4,h5⟩,h6⟩
   refine ⟨⟨h1,?_⟩,h3,h5,fun y hy => by cases hy;exact h4⟩
   cases p with
   | none => rfl
   | some y => simp only [bef_ord,decide_eq_true_eq];exact (h6 y rfl).1
theorem mrk_asc {n : Int} : ∀ {t : List Int} {p : Option Int},mrk n p t = true ↔ (∀ x ∈ t,0 ≤ x ∧ x < n) ∧ ascI t ∧ ∀ y,p = some y → ∀ x ∈ t,y < x
 | [],p => by simp [mrk,ascI]
 | x :: t,p => by
  simp only [mrk,Bool.and_eq_true,mrk_asc (t:=t) (p:=some x),ascI,List.pairwise_cons,List.mem_cons,forall_eq_or_imp,decide_eq_true_eq]
  constructor
  ·rintro ⟨⟨h1,h2⟩,h3,h4,h5⟩
   refine ⟨⟨h1,h3⟩,⟨h5 x rfl,h4⟩,?_⟩
   rintro y rfl
   simp only [decide_eq_true_eq] at h2
   exact ⟨h2,fun z hz => Int.lt_trans h2 (h5 x rfl z hz)⟩
  ·rintro ⟨⟨h1,h3⟩,⟨h4,h5⟩,h6⟩
   refine ⟨⟨h1,?_⟩,h3,h5,fun y hy => by cases hy;exact h4⟩
   cases p with
   | none => rfl
   | some y => simp only [decide_eq_true_eq];exact (h6 y rfl).1
theorem asc_ne {t : List Stp} (h : ascT t) {x y : Stp} (hx : x ∈ t) (hy : y ∈ t) (e : ordT x y = 0) : x = y:=by
 induction t with
 | nil => cases hx
 | cons z t ih =>
  unfold ascT at h
  rw [List.pairwise_cons] at h
  rcases List.mem_cons.1 hx with q1|q1
  ·rcases List.mem_cons.1 hy with q2|q2
   ·rw [q1,q2]
   ·have:=h.1 y q2;rw [← q1] at this;omega
  ·rcases List.mem_cons.1 hy with q2|q2
   ·have:=h.1 x q1
    have:=ordT_neg x y
    rw [← q2] at *
    omega
   ·exact ih h.2 q1 q2
theorem sortT_of {u t : List Stp} (h : ascT u) (p : u.Perm t) : sortT t = u:=by
 refine List.Perm.eq_of_pairwise (le:=fun x y => ¬ ordT y x < 0) (fun x y hx hy q1 q2 => ?_) (sortT_sorted t) (h.imp fun {x y} q => ?_) ((sortT_perm t).trans p.symm)
 ·have hx : x ∈ u:=p.symm.subset ((sortT_perm t).subset hx)
  have:=ordT_neg x y
  exact asc_ne h hx hy (by omega)
 ·have:=ordT_neg x y
  omega
theorem sortT_id {t : List Stp} (h : ascT t) : sortT t = t:=sortT_of h (.refl _)
theorem sortI_of {u t : List Int} (h : ascI u) (p : u.Perm t) : sortI t = u:=by
 refine List.Perm.eq_of_pairwise (le:=fun x y => x ≤ y) (fun x y _ _ q1 q2 => Int.le_antisymm q1 q2) (sortI_sorted t) (h.imp fun {x y} q => Int.le_of_lt q) ((sortI_perm t).trans p.symm)
theorem sortI_id {t : List Int} (h : ascI t) : sortI t = t:=sortI_of h (.refl _)
def putL : List Stp → Stp → List Stp
 | [],s => [s]
 | y :: l,s => if bef y s = true then y :: putL l s else if bef s y = true then s :: y :: l else ⟨y.f0,y.f1,y.f2,mn y.f3 s.f3⟩ :: l
theorem putL_len : ∀ (l : List Stp) (s : Stp),(putL l s).length ≤ l.length + 1
 | [],s => Nat.le_refl _
 | y :: l,s => by
  simp only [putL]
  split
  ·have:=putL_len l s;simp only [List.length_cons];omega
  ·split <;> simp
theorem ord_mn (y s x : Stp) : ordT ⟨y.f0,y.f1,y.f2,mn y.f3 s.f3⟩ x = ordT y x:=rfl
theorem putL_mem {l : List Stp} {s z : Stp} (h : z ∈ putL l s) : ordT s z = 0 ∨ ∃ x ∈ l,ordT x z = 0:=by
 have rf : ∀ a : Stp,ordT a a = 0:=fun a => ordT_zero.2 ⟨rfl,rfl,rfl⟩
 induction l with
 | nil =>
  simp only [putL,List.mem_singleton] at h
  subst h
  exact .inl (rf _)
 | cons y l ih =>
  simp only [putL] at h
  split at h
  ·rcases List.mem_cons.1 h with rfl|h
   ·exact .inr ⟨_,List.mem_cons_self ..,rf _⟩
   ·rcases ih h with q | ⟨x,q1,q2⟩
    ·exact .inl q
    ·exact .inr ⟨x,List.mem_cons_of_mem _ q1,q2⟩
  ·split at h
   ·rcases List.mem_cons.1 h with rfl|h
    ·exact .inl (rf _)
    ·exact .inr ⟨z,h,rf _⟩
   ·rcases List.mem_cons.1 h with rfl|h
    ·exact .inr ⟨y,List.mem_cons_self ..,by rw [ordT_zero];exact ⟨rfl,rfl,rfl⟩⟩
    ·exact .inr ⟨z,List.mem_cons_of_mem _ h,rf _⟩
theorem ord_same2 {y z s : Stp} (h : ordT s z = 0) : ordT y z = ordT y s:=by
 have a:=ordT_same (u:=y) h
 have b:=ordT_neg y z
 have c:=ordT_neg y s
 omega
theorem putL_asc {l : List Stp} (h : ascT l) (s : Stp) : ascT (putL l s):=by
 induction l with
 | nil => simp [putL,ascT]
 | cons y l ih =>
  unfold ascT at h ih ⊢
  rw [List.pairwise_cons] at h
  simp only [putL,bef_ord,decide_eq_true_eq]
  split
  ·rename_i q
   rw [List.pairwise_cons]
   refine ⟨fun z hz => ?_,ih h.2⟩
   rcases putL_mem hz with e | ⟨x,hx,e⟩
   ·rw [ord_same2 e];exact q
   ·rw [ord_same2 e];exact h.1 x hx
  ·split
   ·rename_i q
    rw [List.pairwise_cons,List.pairwise_cons]
    refine ⟨fun z hz => ?_,h.1,h.2⟩
    rcases List.mem_cons.1 hz with rfl|hz
    ·exact q
    ·exact ordT_trans q (h.1 z hz)
   ·rw [List.pairwise_cons]
    exact ⟨fun z hz => by rw [ord_mn];exact h.1 z hz,h.2⟩
theorem putL_perm {l : List Stp} {s : Stp} (h : ∀ y ∈ l,ordT y s ≠ 0) : (putL l s).Perm (s :: l):=by
 induction l with
 | nil => exact .refl _
 | cons y l ih =>
  simp only [putL,bef_ord,decide_eq_true_eq]
  split
  ·exact ((ih fun z hz => h z (List.mem_cons_of_mem _ hz)).cons y).trans (.swap ..)
  ·split
   ·exact .refl _
   ·have:=h y (List.mem_cons_self ..)
    have:=ordT_neg y s
    omega
def putAll (l u : List Stp) : List Stp:=u.foldl putL l
theorem putAll_len : ∀ (u l : List Stp),(putAll l u).length ≤ l.length + u.length
 | [],l => Nat.le_refl _
 | x :: u,l => by
  have h1:=putAll_len u (putL l x)
  have h2:=putL_len l x
  simp only [putAll,List.foldl_cons,List.length_cons] at *
  omega
theorem putAll_perm : ∀ (u l : List Stp),(l ++ u).Pairwise (fun x y => ordT x y ≠ 0) → (putAll l u).Perm (l ++ u)
 | [],l,_ => by rw [List.append_nil];exact .refl _
 | x :: u,l,h => by
  have hl : ∀ y ∈ l,ordT y x ≠ 0:=fun y hy => (List.pairwise_append.1 h).2.2 y hy x (List.mem_cons_self ..)
  have p:=putL_perm hl
  have e : (putL l x ++ u).Perm (l ++ x :: u):=(p.append_right u).trans (List.perm_middle.symm)
  refine (putAll_perm u (putL l x) ?_).trans e
  exact (e.pairwise_iff (fun {a b} q => by have:=ordT_neg a b;omega)).2 h
theorem putAll_asc : ∀ (u l : List Stp),ascT l → ascT (putAll l u)
 | [],l,h => h
 | x :: u,l,h => putAll_asc u (putL l x) (putL_asc h x)
theorem sortT_put {u : List Stp} (h : u.Pairwise fun x y => ordT x y ≠ 0) : sortT u = putAll [] u :=
 sortT_of (putAll_asc u [] List.Pairwise.nil) (by simpa using putAll_perm u [] (by simpa using h))
theorem put_ev (x : List Stp) (hx : x.length ≤ 1000000) (s : Stp) : Ev (fun k => spec_l3Put.f k x s.f0 s.f1 s.f2 s.f3) (putL x s):=by
 have ins : ∀ (pre v : List Stp),x = pre ++ v → (if (pre.length : Int) ≤ (x.length : Int) then (if ([] : List Stp).length + ((x.drop 0).take ((pre.length : Int).toNat - 0)).length ≤ 3518437208883 then (if (([] : List Stp) ++ ((x.drop 0).take ((pre.length : Int).toNat - 0))).length < 3518437208883 then (if (x.length : Int) ≤ (x.length : Int) then (if ((([] : List Stp) ++ ((x.drop 0).take ((pre.length : Int).toNat - 0))) ++ [(⟨s.f0,s.f1,s.f2,s.f3⟩ : Stp)]).length + ((x.drop (pre.length : Int).toNat).take (x.length - (pre.length : Int).toNat)).length ≤ 3518437208883 then (some (((([] : List Stp) ++ ((x.drop 0).take ((pre.length : Int).toNat - 0))) ++ [(⟨s.f0,s.f1,s.f2,s.f3⟩ : Stp)]) ++ ((x.drop (pre.length : Int).toNat).take (x.length - (pre.length : Int).toNat)))) else none) else none) else none) else none) else none) = some (pre ++ s :: v):=by
  intro pre v hp
  have hl : x.length = pre.length + v.length:=by rw [hp];simp
  have e1 : (x.drop 0).take ((pre.length : Int).toNat - 0) = pre:=by rw [Int.toNat_natCast,List.drop_zero,Nat.sub_zero,hp];exact List.take_left
  have e2 : (x.drop (pre.length : Int).toNat).take (x.length - (pre.length : Int).toNat) = v:=by
   rw [Int.toNat_natCast,hl,Nat.add_sub_cancel_left,hp,List.drop_left];exact List.take_length
  rw [e1,e2,if_pos (by omega),if_pos (by simp only [List.length_nil];omega),if_pos (by rw [List.nil_append];omega),if_pos (Int.le_refl _),if_pos (by simp only [List.nil_append,List.length_append,List.length_cons,List.length_nil];omega)]
  simp
 have go : ∀ (v pre : List Stp),x = pre ++ v → Ev (fun k => spec_l3Put.l0 k x (pre.length : Int) s.f0 s.f1 s.f2 s.f3) (pre ++ putL v s):=by
  intro v
  induction v with
  | nil =>
   intro pre hp
   refine Ev.step (f:=fun _ => some (pre ++ [s])) (fun k => ?_) (Ev.now _)
   simp only [spec_l3Put.l0]
   rw [if_neg (by rw [hp];simp),if_pos (Int.natCast_nonneg _)]
   exact ins pre [] hp
  | cons y v ih =>
   intro pre hp
   have hlen : x.length = pre.length + (v.length + 1):=by rw [hp];simp
   have hy : rdT x (pre.length : Int) = y:=by rw [hp,rdS_mid]
   have a0 : (pre.length : Int) < (x.length : Int):=by omega
   have wn : wrap64 ((pre.length : Int) + 1) = ((pre.length + 1 : Nat) : Int):=by rw [w64 (by omega) (by omega)];rfl
   have i1:=ih (pre ++ [y]) (by rw [hp];simp)
   rw [List.length_append,List.length_singleton] at i1
   simp only [putL]
   by_cases h1 : bef y s = true
   ·rw [if_pos h1]
    refine Ev.step (fun k => ?_) (i1.is (by simp))
    simp only [spec_l3Put.l0]
    rw [if_pos a0,if_pos (Int.natCast_nonneg _),hy,sBefore y s,h1,Option.bind_some,if_pos rfl,wn]
   ·have h1f : bef y s = false:=Bool.eq_false_iff.2 h1
    rw [if_neg h1]
    by_cases h2 : bef s y = true
    ·rw [if_pos h2]
     refine Ev.step (f:=fun _ => some (pre ++ s :: y :: v)) (fun k => ?_) (Ev.now _)
     simp only [spec_l3Put.l0]
     rw [if_pos a0,if_pos (Int.natCast_nonneg _),hy,sBefore y s,h1f,Option.bind_some,if_neg (by simp),sBefore s y,h2,Option.bind_some,if_pos rfl]
     exact ins pre (y :: v) hp
    ·have h2f : bef s y = false:=Bool.eq_false_iff.2 h2
     rw [if_neg h2]
     refine Ev.step (f:=fun _ => some (pre ++ (⟨y.f0,y.f1,y.f2,mn y.f3 s.f3⟩ : Stp) :: v)) (fun k => ?_) (Ev.now _)
     simp only [spec_l3Put.l0]
     rw [if_pos a0,if_pos (Int.natCast_nonneg _),hy,sBefore y s,h1f,Option.bind_some,if_neg (by simp),sBefore s y,h2f,Option.bind_some,if_neg (by simp),if_pos (by simp only [List.length_nil];omega),if_pos (by rw [List.nil_append];exact a0)]
     rw [List.nil_append,hy,Int.toNat_natCast,hp]
     congr 1
     rw [List.set_append_right _ _ (Nat.le_refl _),Nat.sub_self,List.set_cons_zero]
 have:=go x [] rfl
 unfold spec_l3Put.f
 exact this
abbrev At5:=Int × List Int × List Int × List Stp × Bool
def wholeR (n : Int) (s f : List Int) (t : List Stp) : At5:=if AV n s f t = true then (n,s,f,t,true) else (0,[],[],[],false)
theorem whole_ev (n : Int) (s f : List Int) (t : List Stp) (hs : s.length ≤ 1000000) (hf : f.length ≤ 1000000) (ht : t.length ≤ 1000000) : Ev (fun k => spec_l5Whole.f k n s f t) (wholeR n s f t):=by
 unfold spec_l5Whole.f wholeR
 refine Ev.bind (sAV n s f t (by omega) (by omega) (by omega)) ?_
 by_cases h : AV n s f t = true
 ·exact (Ev_t h (Ev.now _)).is (if_pos h).symm
 ·exact (Ev_f h (Ev.now _)).is (if_neg h).symm
theorem made_ev (n : Int) (s f : List Int) (t : List Stp) (hs : s.length ≤ 1000000) (hf : f.length ≤ 1000000) (ht : t.length ≤ 1000000) : Ev (fun k => impl_made.f k n s f t) (wholeR n (sortI s) (sortI f) (sortT t)):=by
 have l1:=sortI_length s
 have l2:=sortI_length f
 have l3:=sortT_length t
 unfold impl_made.f wholeR slices_Clone_int_int.f slices_Clone_impl_Step_impl_Step.f slices_Sort_int_int.f slices_SortFunc_impl_Step_impl_Step.f
 simp only [if_pos (show s.length ≤ 1000000000 from by omega),if_pos (show f.length ≤ 1000000000 from by omega),if_pos (show t.length ≤ 1000000000 from by omega),Option.bind_some]
 refine Ev.bind (iAV n (sortI s) (sortI f) (sortT t) (by omega) (by omega) (by omega)) ?_
 by_cases h : AV n (sortI s) (sortI f) (sortT t) = true
 ·exact (Ev_t h (Ev.now _)).is (if_pos h).symm
 ·exact (Ev_f h (Ev.now _)).is (if_neg h).symm
theorem AV_iff {n : Int} {s f : List Int} {t : List Stp} : AV n s f t = true ↔ (1 ≤ n ∧ n ≤ 4 ∧ t.length ≤ 24) ∧ ((∀ x ∈ s,0 ≤ x ∧ x < n) ∧ ascI s) ∧ ((∀ x ∈ f,0 ≤ x ∧ x < n) ∧ ascI f) ∧ (∀ x ∈ t,stepOk n x = true) ∧ ascT t:=by
 unfold AV
 simp only [Bool.and_eq_true,decide_eq_true_eq,mrk_asc,stp_asc]
 constructor
 ·rintro ⟨⟨⟨h1,h2,h3,_⟩,h4,h5,_⟩,h6,h7,_⟩
  exact ⟨h1,⟨h2,h3⟩,⟨h4,h5⟩,h6,h7⟩
 ·rintro ⟨h1,⟨h2,h3⟩,⟨h4,h5⟩,h6,h7⟩
  exact ⟨⟨⟨h1,h2,h3,fun y q => by cases q⟩,h4,h5,fun y q => by cases q⟩,h6,h7,fun y q => by cases q⟩
theorem asc_count {n : Int} : ∀ (l : List Int) (lo : Int),(∀ x ∈ l,lo ≤ x ∧ x < n) → ascI l → (l.length : Int) ≤ max 0 (n - lo)
 | [],lo,_,_ => by simp only [List.length_nil];omega
 | x :: l,lo,h,hs => by
  unfold ascI at hs
  rw [List.pairwise_cons] at hs
  have h0:=h x (List.mem_cons_self ..)
  have:=asc_count l (x + 1) (fun y hy => ⟨by have:=hs.1 y hy;omega,(h y (List.mem_cons_of_mem _ hy)).2⟩) hs.2
  simp only [List.length_cons]
  omega
theorem AV_len {n : Int} {s f : List Int} {t : List Stp} (h : AV n s f t = true) : s.length ≤ 4 ∧ f.length ≤ 4 ∧ t.length ≤ 24:=by
 obtain ⟨h1,⟨h2,h3⟩,⟨h4,h5⟩,h6,h7⟩:=AV_iff.1 h
 have a:=asc_count s 0 h2 h3
 have b:=asc_count f 0 h4 h5
 omega
theorem set_mid (pre : List Stp) (x y : Stp) (u : List Stp) : (pre ++ x :: u).set pre.length y = pre ++ y :: u:=by
 rw [List.set_append_right _ _ (Nat.le_refl _),Nat.sub_self,List.set_cons_zero]
theorem Ev_o {α γ : Type} {o : Option γ} {z : γ} {g : Nat → γ → Option α} {r : α} (h : o = some z) (k : Ev (fun n => g n z) r) : Ev (fun n => o.bind (g n)) r:=Ev.congr (fun n => by rw [h];rfl) k
def Sm (r : At5) : Prop:=r.2.1.length ≤ 1000000 ∧ r.2.2.1.length ≤ 1000000 ∧ r.2.2.2.1.length ≤ 1000000
theorem whole_sm {n : Int} {s f : List Int} {t : List Stp} : Sm (wholeR n s f t):=by
 unfold wholeR
 by_cases h : AV n s f t = true
 ·rw [if_pos h]
  have:=AV_len h
  exact ⟨by show s.length ≤ _;omega,by show f.length ≤ _;omega,by show t.length ≤ _;omega⟩
 ·rw [if_neg h];exact ⟨Nat.zero_le _,Nat.zero_le _,Nat.zero_le _⟩
theorem ev_list {α γ : Type} {r : γ} (t : List α) (F : List α → Nat → Option γ) (step : ∀ (pre : List α) (x : α) (v : List α),t = pre ++ x :: v → Ev (F (pre ++ [x])) r → Ev (F pre) r) (fin : Ev (F t) r) : Ev (F []) r:=by
 have go : ∀ (v pre : List α),t = pre ++ v → Ev (F pre) r:=by
  intro v
  induction v with
  | nil => intro pre h;rw [List.append_nil] at h;rw [← h];exact fin
  | cons x v ih => intro pre h;exact step pre x v h (ih (pre ++ [x]) (by rw [h];simp))
 exact go t [] rfl
theorem at_T {t pre v : List Stp} {x : Stp} (h : t = pre ++ x :: v) (hl : t.length ≤ 1000000) : (pre.length : Int) < (t.length : Int) ∧ rdT t (pre.length : Int) = x ∧ wrap64 ((pre.length : Int) + 1) = (((pre ++ [x]).length : Nat) : Int):=by
 have e : t.length = pre.length + (v.length + 1):=by rw [h];simp
 refine ⟨by omega,by rw [h,rdS_mid],?_⟩
 rw [w64 (by omega) (by omega)];simp
theorem at_I {t pre v : List Int} {x : Int} (h : t = pre ++ x :: v) (hl : t.length ≤ 1000000) : (pre.length : Int) < (t.length : Int) ∧ rdI t (pre.length : Int) = x ∧ wrap64 ((pre.length : Int) + 1) = (((pre ++ [x]).length : Nat) : Int):=by
 have e : t.length = pre.length + (v.length + 1):=by rw [h];simp
 refine ⟨by omega,by rw [h,rd_mid],?_⟩
 rw [w64 (by omega) (by omega)];simp
theorem own_eq (n : Int) (s f : List Int) (t : List Stp) (hs : s.length ≤ 1048576) (hf : f.length ≤ 1048576) (ht : t.length ≤ 1048576) : spec_l13OwnAutomaton.f n s f t = some (n,s,f,t):=by
 unfold spec_l13OwnAutomaton.f
 rw [if_pos (by simp only [List.length_nil];omega),if_pos (by simp only [List.length_nil];omega),if_pos (by simp only [List.length_nil];omega)]
 rfl
def noneR : At5:=(0,[],[],[],false)
theorem none_sm : Sm noneR:=⟨Nat.zero_le _,Nat.zero_le _,Nat.zero_le _⟩
theorem map_asc {g : Stp → Stp} (h : ∀ x y : Stp,ordT x y < 0 → ordT (g x) (g y) < 0) {t : List Stp} (ht : ascT t) : ascT (t.map g):=by
 unfold ascT at *
 rw [List.pairwise_map]
 exact ht.imp fun {a b} q => h a b q
theorem asc_diff {t : List Stp} (h : ascT t) : t.Pairwise fun x y => ordT x y ≠ 0:=h.imp fun {a b} q => by omega
theorem diff_map {g : Stp → Stp} {t : List Stp} (h : ∀ x ∈ t,∀ y ∈ t,ordT (g x) (g y) = 0 → ordT x y = 0) (ht : ascT t) : (t.map g).Pairwise fun x y => ordT x y ≠ 0:=by
 rw [List.pairwise_map]
 unfold ascT at ht
 refine List.Pairwise.imp_of_mem (fun {a b} ha hb q e => ?_) ht
 have:=h a ha b hb e
 omega
theorem len_flat {α β : Type} (f : α → List β) (b : Nat) : ∀ (l : List α),(∀ x ∈ l,(f x).length ≤ b) → (l.flatMap f).length ≤ b * l.length
 | [],_ => by simp
 | x :: l,h => by
  have h1:=len_flat f b l fun y hy => h y (List.mem_cons_of_mem _ hy)
  have h2:=h x (List.mem_cons_self ..)
  rw [List.flatMap_cons,List.length_append,List.length_cons,Nat.mul_succ]
  omega
def sclS (n : Int) (x : Stp) : Stp:=⟨x.f0,x.f1,x.f2,x.f3 * n⟩
theorem iScaleLoop (n : Int) (hn : 0 ≤ n ∧ n ≤ 3) (t : List Stp) (ht : t.length ≤ 24) (hc : ∀ x ∈ t,0 ≤ x.f3 ∧ x.f3 ≤ 3) : Ev (fun k => impl_stepped.f k t n) (t.map (sclS n)):=by
 have go : ∀ (v pre : List Stp),t = pre ++ v → Ev (fun k => impl_stepped.l0 k (pre.map (sclS n)) t (t.length : Int) (pre.length : Int) n) (t.map (sclS n)):=by
  intro v
  induction v with
  | nil =>
   intro pre hp
   refine Ev.step (f:=fun _ => some (pre.map (sclS n))) (fun k => ?_) ((Ev.now _).is (by rw [hp];simp))
   simp only [impl_stepped.l0];rw [if_neg (by rw [hp];simp)]
  | cons x v ih =>
   intro pre hp
   have hlen : t.length = pre.length + (v.length + 1):=by rw [hp];simp
   have hx : rdT t (pre.length : Int) = x:=by rw [hp,rdS_mid]
   have a0 : (pre.length : Int) < (t.length : Int):=by omega
   have wn : wrap64 ((pre.length : Int) + 1) = ((pre.length + 1 : Nat) : Int):=by rw [w64 (by omega) (by omega)];rfl
   have c:=hc x (by rw [hp];simp)
   have m1 : 0 ≤ x.f3 * n:=Int.mul_nonneg c.1 hn.1
   have m2 : x.f3 * n ≤ 3 * 3:=Int.mul_le_mul c.2 hn.2 hn.1 (by decide)
   have wm : wrap64 (x.f3 * n) = x.f3 * n:=w64 (by omega) (by omega)
   have i1:=ih (pre ++ [x]) (by rw [hp];simp)
   rw [List.length_append,List.length_singleton] at i1
   refine Ev.step (fun k => ?_) i1
   simp only [impl_stepped.l0,impl_ScaleAutomaton_1.f]
   rw [if_pos a0,if_pos (Int.natCast_nonneg _),if_pos a0,hx,Option.bind_some,if_pos (by rw [List.length_map];omega),wn]
   simp only [wm,List.map_append,List.map_cons,List.map_nil]
   rfl
 unfold impl_stepped.f
 exact go t [] rfl
theorem sScaleLoop (n m : Int) (hn : 0 ≤ n ∧ n ≤ 3) (s f : List Int) (t : List Stp) (hs : s.length ≤ 1000000) (hf : f.length ≤ 1000000) (ht : t.length ≤ 24) (hc : ∀ x ∈ t,0 ≤ x.f3 ∧ x.f3 ≤ 3) :
  Ev (fun k => spec_ScaleAutomaton.l0 k n t (t.length : Int) 0 m s f []) (wholeR m s f (t.map (sclS n))):=by
 have go : ∀ (v pre : List Stp),t = pre ++ v → Ev (fun k => spec_ScaleAutomaton.l0 k n t (t.length : Int) (pre.length : Int) m s f (pre.map (sclS n))) (wholeR m s f (t.map (sclS n))):=by
  intro v
  induction v with
  | nil =>
   intro pre hp
   refine Ev.step (fun k => ?_) (Ev.bind (whole_ev m s f (t.map (sclS n)) hs hf (by rw [List.length_map];omega)) (Ev.now _))
   simp only [spec_ScaleAutomaton.l0];rw [if_neg (by rw [hp];simp)]
   rw [hp,List.append_nil]
  | cons x v ih =>
   intro pre hp
   have hlen : t.length = pre.length + (v.length + 1):=by rw [hp];simp
   have hx : rdT t (pre.length : Int) = x:=by rw [hp,rdS_mid]
   have a0 : (pre.length : Int) < (t.length : Int):=by omega
   have wn : wrap64 ((pre.length : Int) + 1) = ((pre.length + 1 : Nat) : Int):=by rw [w64 (by omega) (by omega)];rfl
   have c:=hc x (by rw [hp];simp)
   have m1 : 0 ≤ x.f3 * n:=Int.mul_nonneg c.1 hn.1
   have m2 : x.f3 * n ≤ 3 * 3:=Int.mul_le_mul c.2 hn.2 hn.1 (by decide)
   have wm : wrap64 (x.f3 * n) = x.f3 * n:=w64 (by omega) (by omega)
   have i1:=ih (pre ++ [x]) (by rw [hp];simp)
   rw [List.length_append,List.length_singleton] at i1
   refine Ev.step (fun k => ?_) i1
   simp only [spec_ScaleAutomaton.l0]
   rw [if_pos a0,if_pos (Int.natCast_nonneg _),if_pos a0,hx,if_pos (by rw [List.length_map];omega),wn,wm]
   simp only [List.map_append,List.map_cons,List.map_nil]
   rfl
 exact go t [] rfl
def scaleR (n : Int) (s f : List Int) (t : List Stp) (m : Int) : At5:=if AV n s f t = true ∧ 0 ≤ m ∧ m ≤ 3 then wholeR n s f (t.map (sclS m)) else (0,[],[],[],false)
theorem scale_sm (n : Int) (s f : List Int) (t : List Stp) (m : Int) : Sm (scaleR n s f t m):=by
 unfold scaleR
 split
 ·exact whole_sm
 ·exact ⟨Nat.zero_le _,Nat.zero_le _,Nat.zero_le _⟩
theorem stepOk_cost {n : Int} {x : Stp} (h : stepOk n x = true) : 0 ≤ x.f3 ∧ x.f3 ≤ 3:=by
 have:=of_decide_eq_true (show decide _ = true from h)
 exact ⟨this.2.2.2.2.1,this.2.2.2.2.2.1⟩
theorem sScale (n : Int) (s f : List Int) (t : List Stp) (m : Int) (hs : s.length ≤ 1048576) (hf : f.length ≤ 1048576) (ht : t.length ≤ 1048576) : Ev (fun k => spec_ScaleAutomaton.f k n s f t m) (scaleR n s f t m):=by
 unfold spec_ScaleAutomaton.f
 refine Ev_o (own_eq n s f t hs hf ht) (Ev.bind (sAV n s f t (by omega) (by omega) (by omega)) ?_)
 unfold scaleR
 by_cases h : AV n s f t = true
 ·refine Ev_t h ?_
  obtain ⟨_,⟨_,_⟩,_,h6,_⟩:=AV_iff.1 h
  have hl:=AV_len h
  rw [sIn]
  simp only [Option.bind_some]
  by_cases hm : 0 ≤ m ∧ m ≤ 3
  ·refine Ev_t (decide_eq_true hm) ((sScaleLoop m n hm s f t (by omega) (by omega) hl.2.2 (fun x hx => stepOk_cost (h6 x hx))).is ?_)
   exact (if_pos ⟨h,hm⟩).symm
  ·exact (Ev_f (by simp [hm]) (Ev.now _)).is (if_neg (fun q => hm q.2)).symm
 ·exact (Ev_f h (Ev.now _)).is (if_neg (fun q => h q.1)).symm
theorem iScale (n : Int) (s f : List Int) (t : List Stp) (m : Int) (hs : s.length ≤ 1048576) (hf : f.length ≤ 1048576) (ht : t.length ≤ 1048576) : Ev (fun k => impl_ScaleAutomaton.f k n s f t m) (scaleR n s f t m):=by
 unfold impl_ScaleAutomaton.f
 refine Ev.bind (iAV n s f t (by omega) (by omega) (by omega)) ?_
 unfold scaleR
 by_cases h : AV n s f t = true
 ·refine Ev_t h ?_
  obtain ⟨_,⟨_,h2⟩,⟨_,h4⟩,h6,h7⟩:=AV_iff.1 h
  have hl:=AV_len h
  by_cases h0 : m < 0
  ·exact (Ev_t h0 (Ev.now _)).is (if_neg (fun q => by omega)).symm
  refine Ev_f h0 ?_
  by_cases h1 : m > 3
  ·exact (Ev_t h1 (Ev.now _)).is (if_neg (fun q => by omega)).symm
  refine Ev_f h1 ?_
  have hm : 0 ≤ m ∧ m ≤ 3:=by omega
  refine Ev.bind (iScaleLoop m hm t hl.2.2 (fun x hx => stepOk_cost (h6 x hx))) (Ev.bind (made_ev n s f (t.map (sclS m)) (by omega) (by omega) (by rw [List.length_map];omega)) ((Ev.now _).is ?_))
  rw [if_pos ⟨h,hm⟩,sortI_id h2,sortI_id h4,sortT_id]
  unfold ascT at h7 ⊢
  rw [List.pairwise_map]
  exact h7
 ·exact (Ev_f h (Ev.now _)).is (if_neg (fun q => h q.1)).symm
def upd (b : Int → Bool) (v : Int) : Int → Bool:=fun q => if q = v then true else b q
def wk1 (a c : Stp → Int) (b : Int → Bool) (s : Stp) : Int → Bool:=if b (a s) = true then upd b (c s) else b
def wk (a c : Stp → Int) (t : List Stp) (b : Int → Bool) : Int → Bool:=t.foldl (wk1 a c) b
def itw (a c : Stp → Int) (t : List Stp) : Nat → (Int → Bool) → (Int → Bool)
 | 0,b => b
 | k + 1,b => itw a c t k (wk a c t b)
def ini (l : List Int) : Int → Bool:=l.foldl upd (fun _ => false)
theorem upd_self (b : Int → Bool) (v : Int) : upd b v v = true:=if_pos rfl
theorem upd_mono {b : Int → Bool} {v q : Int} (h : b q = true) : upd b v q = true:=by unfold upd;split <;> first|rfl|exact h
theorem upd_id {b : Int → Bool} {v : Int} (h : b v = true) : upd b v = b:=by
 funext q
 unfold upd
 split
 ·rename_i e;rw [e,h]
 ·rfl
theorem fold_upd (q : Int) : ∀ (l : List Int) (b : Int → Bool),l.foldl upd b q = true ↔ b q = true ∨ q ∈ l
 | [],b => by simp
 | x :: l,b => by
  rw [List.foldl_cons,fold_upd q l]
  unfold upd
  by_cases e : q = x
  ·rw [if_pos e];simp [e]
  ·rw [if_neg e];simp [e]
theorem ini_iff {l : List Int} {q : Int} : ini l q = true ↔ q ∈ l:=by unfold ini;rw [fold_upd];simp
theorem wk1_mono {a c : Stp → Int} {b : Int → Bool} {s : Stp} {q : Int} (h : b q = true) : wk1 a c b s q = true:=by
 unfold wk1
 split
 ·exact upd_mono h
 ·exact h
theorem wk_mono {a c : Stp → Int} {q : Int} : ∀ {t : List Stp} {b : Int → Bool},b q = true → wk a c t b q = true
 | [],_,h => h
 | s :: t,b,h => wk_mono (t:=t) (b:=wk1 a c b s) (wk1_mono h)
theorem wk_step {a c : Stp → Int} {s : Stp} : ∀ {t : List Stp} {b : Int → Bool},s ∈ t → b (a s) = true → wk a c t b (c s) = true
 | x :: t,b,hs,h => by
  rcases List.mem_cons.1 hs with e|hs
  ·subst e
   refine wk_mono (t:=t) (b:=wk1 a c b s) ?_
   unfold wk1
   rw [if_pos h]
   exact upd_self b (c s)
  ·exact wk_step (t:=t) (b:=wk1 a c b x) hs (wk1_mono h)
def Closed (a c : Stp → Int) (t : List Stp) (b : Int → Bool) : Prop := ∀ s ∈ t,b (a s) = true → b (c s) = true
theorem wk_id {a c : Stp → Int} : ∀ {t : List Stp} {b : Int → Bool},Closed a c t b → wk a c t b = b
 | [],_,_ => rfl
 | x :: t,b,h => by
  have e : wk1 a c b x = b:=by
   unfold wk1
   split
   ·rename_i g;exact upd_id (h x (by simp) g)
   ·rfl
  show wk a c t (wk1 a c b x) = b
  rw [e]
  exact wk_id fun s hs => h s (List.mem_cons_of_mem _ hs)
theorem wk_sub {a c : Stp → Int} (P : Int → Prop) : ∀ {t : List Stp} {b : Int → Bool},(∀ s ∈ t,P (a s) → P (c s)) → (∀ q,b q = true → P q) → ∀ q,wk a c t b q = true → P q
 | [],_,_,h,q,g => h q g
 | x :: t,b,ht,h,q,g => by
  refine wk_sub P (t:=t) (b:=wk1 a c b x) (fun s hs => ht s (List.mem_cons_of_mem _ hs)) (fun q g => ?_) q g
  unfold wk1 at g
  split at g
  ·rename_i g2
   unfold upd at g
   split at g
   ·rename_i e;rw [e];exact ht x (by simp) (h _ g2)
   ·exact h q g
  ·exact h q g
def cnt : Nat → (Int → Bool) → Nat
 | 0,_ => 0
 | n + 1,b => cnt n b + (if b (n : Int) = true then 1 else 0)
theorem cnt_le (b : Int → Bool) : ∀ n,cnt n b ≤ n
 | 0 => Nat.le_refl _
 | n + 1 => by have:=cnt_le b n;unfold cnt;split <;> omega
theorem cnt_full {b : Int → Bool} : ∀ {n : Nat},n ≤ cnt n b → ∀ i : Nat,i < n → b (i : Int) = true
 | 0,_,i,h => absurd h (Nat.not_lt_zero _)
 | n + 1,g,i,h => by
  have:=cnt_le b n
  unfold cnt at g
  split at g
  ·rename_i e
   by_cases q : i = n
   ·rw [q];exact e
   ·exact cnt_full (n:=n) (by omega) i (by omega)
  ·omega
theorem cnt_mono {b b' : Int → Bool} (h : ∀ q,b q = true → b' q = true) : ∀ n,cnt n b ≤ cnt n b'
 | 0 => Nat.le_refl _
 | n + 1 => by
  have:=cnt_mono h n
  unfold cnt
  by_cases e : b (n : Int) = true
  ·rw [if_pos e,if_pos (h _ e)];omega
  ·rw [if_neg e];omega
theorem cnt_lt {b b' : Int → Bool} (h : ∀ q,b q = true → b' q = true) : ∀ {n i : Nat},i < n → b' (i : Int) = true → ¬ b (i : Int) = true → cnt n b < cnt n b'
 | 0,i,g,_,_ => absurd g (Nat.not_lt_zero _)
 | n + 1,i,g,h1,h2 => by
  have m:=cnt_mono h n
  unfold cnt
  by_cases q : i = n
  ·subst q
   rw [if_neg h2,if_pos h1];omega
  ·have:=cnt_lt h (n:=n) (i:=i) (by omega) h1 h2
   by_cases e : b (n : Int) = true
   ·rw [if_pos e,if_pos (h _ e)];omega
   ·rw [if_neg e];omega
theorem itw_closed {a c : Stp → Int} {t : List Stp} {n : Nat} (ht : ∀ s ∈ t,0 ≤ c s ∧ c s < (n : Int)) : ∀ (k : Nat) (b : Int → Bool),Closed a c t (itw a c t k b) ∨ k + cnt n b ≤ cnt n (itw a c t k b)
 | 0,b => .inr (by show 0 + cnt n b ≤ cnt n b;omega)
 | k + 1,b => by
  by_cases q : Closed a c t b
  ·left
   have e : ∀ k,itw a c t k b = b:=by
    intro k
    induction k with
    | zero => rfl
    | succ k ih => show itw a c t k (wk a c t b) = b;rw [wk_id q,ih]
   rw [e];exact q
  ·have : ∃ s ∈ t,b (a s) = true ∧ ¬ b (c s) = true:=by
    refine Classical.byContradiction fun h => q fun s hs h1 => Classical.byContradiction fun h2 => h ⟨s,hs,h1,h2⟩
   obtain ⟨s,hs,h1,h2⟩:=this
   have o:=ht s hs
   have e : ((c s).toNat : Int) = c s:=by omega
   have lt:=cnt_lt (b:=b) (b':=wk a c t b) (n:=n) (i:=(c s).toNat) (fun q (hq : b q = true) => wk_mono (a:=a) (c:=c) (t:=t) hq) (by omega) (by rw [e];exact wk_step hs h1) (by rw [e];exact h2)
   rcases itw_closed ht k (wk a c t b) with g|g
   ·exact .inl g
   ·exact .inr (by show k + 1 + cnt n b ≤ cnt n (itw a c t k (wk a c t b));omega)
inductive Cl (a c : Stp → Int) (t : List Stp) (l : List Int) : Int → Prop
 | base {p : Int} : p ∈ l → Cl a c t l p
 | step {s : Stp} : s ∈ t → Cl a c t l (a s) → Cl a c t l (c s)
theorem itw_sub {a c : Stp → Int} {t : List Stp} (P : Int → Prop) (ht : ∀ s ∈ t,P (a s) → P (c s)) : ∀ (k : Nat) (b : Int → Bool),(∀ q,b q = true → P q) → ∀ q,itw a c t k b q = true → P q
 | 0,_,h => h
 | k + 1,b,h => itw_sub P ht k (wk a c t b) (wk_sub P ht h)
theorem itw_mono {a c : Stp → Int} {t : List Stp} {q : Int} : ∀ (k : Nat) (b : Int → Bool),b q = true → itw a c t k b q = true
 | 0,_,h => h
 | k + 1,b,h => itw_mono k (wk a c t b) (wk_mono h)
theorem reach_iff {a c : Stp → Int} {t : List Stp} {n : Nat} (ht : ∀ s ∈ t,0 ≤ c s ∧ c s < (n : Int)) {l : List Int} {q : Int} : itw a c t n (ini l) q = true ↔ Cl a c t l q:=by
 constructor
 ·exact itw_sub (Cl a c t l) (fun s hs h => .step hs h) n (ini l) (fun q h => .base (ini_iff.1 h)) q
 ·intro h
  have cl : Closed a c t (itw a c t n (ini l)):=by
   rcases itw_closed ht n (ini l) with g|g
   ·exact g
   ·intro s hs _
    have o:=ht s hs
    have:=cnt_full (b:=itw a c t n (ini l)) (n:=n) (by omega) (c s).toNat (by omega)
    rwa [show ((c s).toNat : Int) = c s from by omega] at this
  induction h with
  | base h => exact itw_mono n _ (ini_iff.2 h)
  | step hs _ ih => exact cl _ hs ih
theorem Cl_of {a c a' c' : Stp → Int} {t t' : List Stp} {l : List Int} (h : ∀ s ∈ t,∃ s' ∈ t',a' s' = a s ∧ c' s' = c s) {q : Int} (g : Cl a c t l q) : Cl a' c' t' l q:=by
 induction g with
 | base h => exact .base h
 | step hs _ ih =>
  obtain ⟨s',h1,h2,h3⟩:=h _ hs
  rw [← h3]
  exact .step h1 (by rw [h2];exact ih)
def tabB (n : Nat) (b : Int → Bool) : List Bool:=(List.range n).map fun (i : Nat) => b (i : Int)
theorem tabB_len (n : Nat) (b : Int → Bool) : (tabB n b).length = n:=by unfold tabB;rw [List.length_map,List.length_range]
theorem tabB_get {n : Nat} {b : Int → Bool} {v : Int} (h : 0 ≤ v ∧ v < (n : Int)) : rdB (tabB n b) v = b v:=by
 have e : v.toNat < n:=by omega
 unfold rdB tabB
 rw [List.getD_eq_getElem?_getD,List.getElem?_map,List.getElem?_range e]
 show b (v.toNat : Int) = b v
 rw [show (v.toNat : Int) = v from by omega]
theorem tabB_at (n : Nat) (b : Int → Bool) (i : Nat) (h : i < (tabB n b).length) : (tabB n b)[i] = b (i : Int):=by
 simp [tabB]
theorem tabB_set {n : Nat} {b : Int → Bool} {v : Int} {x : Bool} (h : 0 ≤ v ∧ v < (n : Int)) : (tabB n b).set v.toNat x = tabB n (fun q => if q = v then x else b q):=by
 refine List.ext_getElem (by rw [List.length_set,tabB_len,tabB_len]) fun i h1 h2 => ?_
 rw [tabB_at,List.getElem_set,tabB_at]
 by_cases e : v.toNat = i
 ·rw [if_pos e,if_pos (by omega)]
 ·rw [if_neg e,if_neg (by omega)]
theorem tabB_upd {n : Nat} {b : Int → Bool} {v : Int} (h : 0 ≤ v ∧ v < (n : Int)) : (tabB n b).set v.toNat true = tabB n (upd b v):=tabB_set h
theorem tabB_false (n : Nat) : List.replicate n false = tabB n (fun _ => false):=by
 unfold tabB
 rw [List.map_const',List.length_range]
def frS (s : Stp) : Int:=s.f0
def toS (s : Stp) : Int:=s.f2
theorem wk_snoc (a c : Stp → Int) (pre : List Stp) (x : Stp) (b : Int → Bool) : wk a c (pre ++ [x]) b = wk1 a c (wk a c pre b) x:=by unfold wk;rw [List.foldl_append];rfl
theorem iReached (n : Nat) (hn : n ≤ 4) (s f l : List Int) (t : List Stp) (hl : ∀ q ∈ l,0 ≤ q ∧ q < (n : Int)) (ll : l.length ≤ 1000) (ht : ∀ x ∈ t,(0 ≤ x.f0 ∧ x.f0 < (n : Int)) ∧ (0 ≤ x.f2 ∧ x.f2 < (n : Int))) (lt : t.length ≤ 1000) : Ev (fun k => impl_reached.f k (n : Int) s f t l) (tabB n (itw frS toS t n (ini l))):=by
 have rounds : ∀ (d i : Nat) (b : Int → Bool),i + d = n → Ev (fun k => impl_reached.l1 k (tabB n b) (n : Int) (i : Int) (n : Int) s f t) (tabB n (itw frS toS t d b)):=by
  intro d
  induction d with
  | zero =>
   intro i b h
   refine Ev.step (f:=fun _ => some (tabB n b)) (fun k => ?_) (Ev.now _)
   simp only [impl_reached.l1];rw [if_neg (by omega)]
  | succ d ih =>
   intro i b h
   have nx:=ih (i + 1) (wk frS toS t b) (by omega)
   have a1 : (i : Int) < (n : Int):=by omega
   have key:=ev_list (r:=tabB n (itw frS toS t d (wk frS toS t b))) t (fun pre k => impl_reached.l2 k (tabB n (wk frS toS pre b)) (n : Int) (i : Int) t (t.length : Int) (pre.length : Int) (n : Int) s f t) (fun pre x v h i1 => ?_) ?_
   ·refine Ev.step (fun k => ?_) key
    simp only [impl_reached.l1];rw [if_pos a1];rfl
   ·obtain ⟨a0,hx,wn⟩:=at_T h (by omega)
    obtain ⟨o1,o2⟩:=ht x (by rw [h];simp)
    rw [wk_snoc] at i1
    obtain ⟨B,hB⟩ : ∃ B,wk frS toS pre b = B:=⟨_,rfl⟩
    rw [hB] at i1 ⊢
    have l0 : x.f0 < ((tabB n B).length : Int):=by rw [tabB_len];exact o1.2
    have l2 : x.f2 < ((tabB n B).length : Int):=by rw [tabB_len];exact o2.2
    by_cases c2 : B x.f2 = true
    ·have e : wk1 frS toS B x = upd B x.f2:=by
      unfold wk1
      split
      ·rfl
      ·exact (upd_id c2).symm
     rw [e] at i1
     refine Ev.step (fun k => ?_) i1
     simp only [impl_reached.l2]
     rw [if_pos a0,if_pos (Int.natCast_nonneg _),if_pos a0,hx,if_pos o2.1,if_pos l2,tabB_get o2,if_pos c2,tabB_upd o2,wn]
    ·have e : tabB n (wk1 frS toS B x) = tabB n (fun q => if q = x.f2 then B x.f0 else B q):=by
      unfold wk1
      by_cases c0 : B x.f0 = true
      ·rw [if_pos (show B (frS x) = true from c0),c0];rfl
      ·rw [if_neg (show ¬ B (frS x) = true from c0)]
       congr 1
       funext q
       by_cases g : q = x.f2
       ·rw [if_pos g,g,Bool.eq_false_iff.2 c2,Bool.eq_false_iff.2 c0]
       ·rw [if_neg g]
     rw [e] at i1
     refine Ev.step (fun k => ?_) i1
     simp only [impl_reached.l2]
     rw [if_pos a0,if_pos (Int.natCast_nonneg _),if_pos a0,hx,if_pos o2.1,if_pos l2,tabB_get o2,if_neg c2,if_pos o1.1,if_pos l0,tabB_get o1,tabB_set o2,wn]
   ·refine Ev.step (fun k => ?_) nx
    simp only [impl_reached.l2]
    rw [if_neg (by omega),show wrap64 ((i : Int) + 1) = ((i + 1 : Nat) : Int) from by rw [w64 (by omega) (by omega)];omega]
 have first:=ev_list (r:=tabB n (itw frS toS t n (ini l))) l (fun pre k => impl_reached.l0 k (tabB n (ini pre)) l (l.length : Int) (pre.length : Int) (n : Int) s f t) (fun pre x v h i1 => ?_) ?_
 ·unfold impl_reached.f
  refine Ev_t (Int.natCast_nonneg _) (Ev_t (by rw [Int.toNat_natCast];omega) ?_)
  rw [Int.toNat_natCast,tabB_false]
  exact first
 ·obtain ⟨a0,hx,wn⟩:=at_I h (by omega)
  have o:=hl x (by rw [h];simp)
  have e : ini (pre ++ [x]) = upd (ini pre) x:=by unfold ini;rw [List.foldl_append];rfl
  rw [e] at i1
  refine Ev.step (fun k => ?_) i1
  simp only [impl_reached.l0]
  rw [if_pos a0,if_pos (Int.natCast_nonneg _),if_pos a0,hx,if_pos o.1,if_pos (by rw [tabB_len];exact o.2),tabB_upd o,wn]
 ·refine Ev.step (fun k => ?_) (rounds n 0 (ini l) (by omega))
  simp only [impl_reached.l0];rw [if_neg (by omega)];rfl
theorem four {v : Int} (h : 0 ≤ v ∧ v < 4) : v = 0 ∨ v = 1 ∨ v = 2 ∨ v = 3:=by omega
theorem upd0 (b : Int → Bool) : upd b 0 0 = true ∧ upd b 0 1 = b 1 ∧ upd b 0 2 = b 2 ∧ upd b 0 3 = b 3:=⟨rfl,rfl,rfl,rfl⟩
theorem upd1 (b : Int → Bool) : upd b 1 0 = b 0 ∧ upd b 1 1 = true ∧ upd b 1 2 = b 2 ∧ upd b 1 3 = b 3:=⟨rfl,rfl,rfl,rfl⟩
theorem upd2 (b : Int → Bool) : upd b 2 0 = b 0 ∧ upd b 2 1 = b 1 ∧ upd b 2 2 = true ∧ upd b 2 3 = b 3:=⟨rfl,rfl,rfl,rfl⟩
theorem upd3 (b : Int → Bool) : upd b 3 0 = b 0 ∧ upd b 3 1 = b 1 ∧ upd b 3 2 = b 2 ∧ upd b 3 3 = true:=⟨rfl,rfl,rfl,rfl⟩
theorem sReach (n : Nat) (hn : n ≤ 4) (s f l : List Int) (t : List Stp) (z : Bool) (hl : ∀ q ∈ l,0 ≤ q ∧ q < (n : Int)) (ll : l.length ≤ 1000) (ht : ∀ x ∈ t,(0 ≤ x.f0 ∧ x.f0 < (n : Int)) ∧ (0 ≤ x.f2 ∧ x.f2 < (n : Int))) (lt : t.length ≤ 1000) (B : Int → Bool) (hB : B = if z = true then itw toS frS t n (ini l) else itw frS toS t n (ini l)) : Ev (fun k => spec_l3Reach.f k (n : Int) s f t l z) (B 0,B 1,B 2,B 3):=by
 have rounds : ∀ (d i : Nat) (b : Int → Bool),i + d = n → Ev (fun k => spec_l3Reach.l1 k z (n : Int) (i : Int) (n : Int) s f t (b 0) (b 1) (b 2) (b 3)) (let c:=if z = true then itw toS frS t d b else itw frS toS t d b;(c 0,c 1,c 2,c 3)):=by
  intro d
  induction d with
  | zero =>
   intro i b h
   refine Ev.step (f:=fun _ => some (b 0,b 1,b 2,b 3)) (fun k => ?_) ((Ev.now _).is (by cases z <;> rfl))
   simp only [spec_l3Reach.l1];rw [if_neg (by omega)]
  | succ d ih =>
   intro i b h
   have a1 : (i : Int) < (n : Int):=by omega
   have wi : wrap64 ((i : Int) + 1) = ((i + 1 : Nat) : Int):=by rw [w64 (by omega) (by omega)];omega
   cases z with
   | true =>
    have nx:=ih (i + 1) (wk toS frS t b) (by omega)
    have key:=ev_list (r:=(itw toS frS t d (wk toS frS t b) 0,itw toS frS t d (wk toS frS t b) 1,itw toS frS t d (wk toS frS t b) 2,itw toS frS t d (wk toS frS t b) 3)) t (fun pre k => spec_l3Reach.l2 k true (n : Int) (i : Int) t (t.length : Int) (pre.length : Int) (n : Int) s f t (wk toS frS pre b 0) (wk toS frS pre b 1) (wk toS frS pre b 2) (wk toS frS pre b 3)) (fun pre x v h i1 => ?_) ?_
    ·refine Ev.step (fun k => ?_) key
     simp only [spec_l3Reach.l1];rw [if_pos a1];rfl
    ·obtain ⟨a0,hx,wn⟩:=at_T h (by omega)
     obtain ⟨o1,o2⟩:=ht x (by rw [h];simp)
     rw [wk_snoc] at i1
     obtain ⟨C,hC⟩ : ∃ C,wk toS frS pre b = C:=⟨_,rfl⟩
     rw [hC] at i1 ⊢
     refine Ev.step (fun k => ?_) i1
     simp only [spec_l3Reach.l2]
     rw [if_pos a0,if_pos (Int.natCast_nonneg _),if_pos a0,hx,wn,if_pos trivial]
     unfold wk1 toS frS
     rcases four (v:=x.f2) (by omega) with e|e|e|e <;> rw [e] <;> (by_cases c : C (x.f2) = true <;> rw [e] at c) <;> first
      | (rw [if_pos c];rcases four (v:=x.f0) (by omega) with g|g|g|g <;> rw [g] <;> simp [c,upd0,upd1,upd2,upd3])
      | (rw [if_neg c];simp [c])
    ·refine Ev.step (fun k => ?_) nx
     simp only [spec_l3Reach.l2]
     rw [if_neg (by omega),wi]
   | false =>
    have nx:=ih (i + 1) (wk frS toS t b) (by omega)
    have key:=ev_list (r:=(itw frS toS t d (wk frS toS t b) 0,itw frS toS t d (wk frS toS t b) 1,itw frS toS t d (wk frS toS t b) 2,itw frS toS t d (wk frS toS t b) 3)) t (fun pre k => spec_l3Reach.l2 k false (n : Int) (i : Int) t (t.length : Int) (pre.length : Int) (n : Int) s f t (wk frS toS pre b 0) (wk frS toS pre b 1) (wk frS toS pre b 2) (wk frS toS pre b 3)) (fun pre x v h i1 => ?_) ?_
    ·refine Ev.step (fun k => ?_) key
     simp only [spec_l3Reach.l1];rw [if_pos a1];rfl
    ·obtain ⟨a0,hx,wn⟩:=at_T h (by omega)
     obtain ⟨o1,o2⟩:=ht x (by rw [h];simp)
     rw [wk_snoc] at i1
     obtain ⟨C,hC⟩ : ∃ C,wk frS toS pre b = C:=⟨_,rfl⟩
     rw [hC] at i1 ⊢
     refine Ev.step (fun k => ?_) i1
     simp only [spec_l3Reach.l2]
     rw [if_pos a0,if_pos (Int.natCast_nonneg _),if_pos a0,hx,wn,if_neg (by decide)]
     unfold wk1 toS frS
     rcases four (v:=x.f0) (by omega) with e|e|e|e <;> rw [e] <;> (by_cases c : C (x.f0) = true <;> rw [e] at c) <;> first
      | (rw [if_pos c];rcases four (v:=x.f2) (by omega) with g|g|g|g <;> rw [g] <;> simp [c,upd0,upd1,upd2,upd3])
      | (rw [if_neg c];simp [c])
    ·refine Ev.step (fun k => ?_) nx
     simp only [spec_l3Reach.l2]
     rw [if_neg (by omega),wi]
 have first:=ev_list (r:=(B 0,B 1,B 2,B 3)) l (fun pre k => spec_l3Reach.l0 k z l (l.length : Int) (pre.length : Int) (n : Int) s f t (ini pre 0) (ini pre 1) (ini pre 2) (ini pre 3)) (fun pre x v h i1 => ?_) ?_
 ·exact first
 ·obtain ⟨a0,hx,wn⟩:=at_I h (by omega)
  have o:=hl x (by rw [h];simp)
  have e : ini (pre ++ [x]) = upd (ini pre) x:=by unfold ini;rw [List.foldl_append];rfl
  rw [e] at i1
  refine Ev.step (fun k => ?_) i1
  simp only [spec_l3Reach.l0]
  rw [if_pos a0,if_pos (Int.natCast_nonneg _),if_pos a0,hx,wn]
  rcases four (v:=x) (by omega) with g|g|g|g <;> rw [g] <;> simp [upd0,upd1,upd2,upd3]
 ·refine Ev.step (fun k => ?_) ((rounds n 0 (ini l) (by omega)).is (by rw [hB]))
  simp only [spec_l3Reach.l0];rw [if_neg (by omega)];rfl
def usl (A B : Int → Bool) : Nat → List Int
 | 0 => []
 | n + 1 => usl A B n ++ (if A (n : Int) = true ∧ B (n : Int) = true then [(n : Int)] else [])
theorem usl_succ (A B : Int → Bool) (n : Nat) : usl A B (n + 1) = usl A B n ++ (if A (n : Int) = true ∧ B (n : Int) = true then [(n : Int)] else []):=rfl
theorem usl_mem {A B : Int → Bool} {q : Int} : ∀ {n : Nat},q ∈ usl A B n ↔ (0 ≤ q ∧ q < (n : Int)) ∧ A q = true ∧ B q = true
 | 0 => by
  constructor
  ·intro h;exact absurd h (by simp [usl])
  ·rintro ⟨h,_⟩;omega
 | n + 1 => by
  unfold usl
  rw [List.mem_append,usl_mem (n:=n)]
  by_cases c : A (n : Int) = true ∧ B (n : Int) = true
  ·rw [if_pos c,List.mem_singleton]
   constructor
   ·rintro (⟨h,g⟩|rfl)
    ·exact ⟨by omega,g⟩
    ·exact ⟨by omega,c⟩
   ·rintro ⟨h,g⟩
    by_cases e : q = (n : Int)
    ·exact .inr e
    ·exact .inl ⟨by omega,g⟩
  ·rw [if_neg c]
   constructor
   ·rintro (⟨h,g⟩|h)
    ·exact ⟨by omega,g⟩
    ·exact absurd h (by simp)
   ·rintro ⟨h,g⟩
    by_cases e : q = (n : Int)
    ·exact absurd (e ▸ g) c
    ·exact .inl ⟨by omega,g⟩
theorem usl_asc (A B : Int → Bool) : ∀ n,ascI (usl A B n)
 | 0 => List.Pairwise.nil
 | n + 1 => by
  unfold ascI usl
  rw [List.pairwise_append]
  refine ⟨usl_asc A B n,?_,fun a ha b hb => ?_⟩
  ·split <;> simp
  ·have:=(usl_mem.1 ha).1
   split at hb
   ·rw [List.mem_singleton] at hb;omega
   ·exact absurd hb (by simp)
theorem usl_len (A B : Int → Bool) : ∀ n,(usl A B n).length ≤ n
 | 0 => Nat.le_refl _
 | n + 1 => by
  have:=usl_len A B n
  unfold usl
  rw [List.length_append]
  split <;> simp <;> omega
theorem usl_congr {A B B' : Int → Bool} : ∀ {n : Nat},(∀ q : Int,0 ≤ q ∧ q < (n : Int) → B q = B' q) → usl A B n = usl A B' n
 | 0,_ => rfl
 | n + 1,h => by
  unfold usl
  rw [usl_congr (n:=n) fun q hq => h q (by omega),h (n : Int) (by omega)]
def rvS (x : Stp) : Stp:=⟨x.f2,x.f1,x.f0,x.f3⟩
theorem iRevLoop (t : List Stp) (ht : t.length ≤ 1000) : Ev (fun k => impl_stepped_b.f k t) (t.map rvS):=by
 unfold impl_stepped_b.f
 refine ev_list t (fun pre k => impl_stepped_b.l0 k (pre.map rvS) t (t.length : Int) (pre.length : Int)) (fun pre x v h i1 => ?_) ?_
 ·obtain ⟨a0,hx',wn⟩:=at_T h (by omega)
  have hl' : pre.length ≤ t.length:=by rw [h];simp
  refine Ev.step (fun k => ?_) i1
  simp only [impl_stepped_b.l0,impl_ReverseAutomaton_1.f]
  rw [if_pos a0,if_pos (Int.natCast_nonneg _),if_pos a0,hx',Option.bind_some,if_pos (by rw [List.length_map];omega),wn,List.map_append]
  rfl
 ·refine Ev.step (f:=fun _ => some (t.map rvS)) (fun k => ?_) (Ev.now _)
  simp only [impl_stepped_b.l0];rw [if_neg (by omega)]
theorem rev_AV {n : Int} {s f : List Int} {t : List Stp} (h : AV n s f t = true) : AV n f s (sortT (t.map rvS)) = true ∧ ∀ x,x ∈ sortT (t.map rvS) ↔ x ∈ t.map rvS:=by
 obtain ⟨h1,h2,h4,h6,h7⟩:=AV_iff.1 h
 have hd : (t.map rvS).Pairwise fun x y => ordT x y ≠ 0:=diff_map (fun x hx y hy e => by
  obtain ⟨a,b,c⟩:=ordT_zero.1 e
  exact ordT_zero.2 ⟨c,b,a⟩) h7
 have hp : (putAll [] (t.map rvS)).Perm (t.map rvS):=by simpa using putAll_perm (t.map rvS) [] (by simpa using hd)
 rw [sortT_put hd]
 refine ⟨AV_iff.2 ⟨⟨h1.1,h1.2.1,by rw [hp.length_eq,List.length_map];exact h1.2.2⟩,h4,h2,fun x hx => ?_,putAll_asc _ _ List.Pairwise.nil⟩,fun x => hp.mem_iff⟩
 obtain ⟨y,hy,rfl⟩:=List.mem_map.1 (hp.subset hx)
 have q:=of_decide_eq_true (show decide _ = true from h6 y hy)
 exact decide_eq_true ⟨q.2.2.1,q.2.2.2.1,q.1,q.2.1,q.2.2.2.2.1,q.2.2.2.2.2.1,q.2.2.2.2.2.2⟩
theorem iRev (n : Int) (s f : List Int) (t : List Stp) (hs : s.length ≤ 1048576) (hf : f.length ≤ 1048576) (ht : t.length ≤ 1048576) : Ev (fun k => impl_ReverseAutomaton.f k n s f t) (if AV n s f t = true then (n,f,s,sortT (t.map rvS),true) else noneR):=by
 unfold impl_ReverseAutomaton.f
 refine Ev.bind (iAV n s f t (by omega) (by omega) (by omega)) ?_
 by_cases h : AV n s f t = true
 ·have hl:=AV_len h
  obtain ⟨h1,h2,h4,h6,h7⟩:=AV_iff.1 h
  refine Ev_t h (Ev.bind (iRevLoop t (by omega)) (Ev.bind (made_ev n f s (t.map rvS) (by omega) (by omega) (by rw [List.length_map];omega)) ((Ev.now _).is ?_)))
  rw [if_pos h,sortI_id h2.2,sortI_id h4.2]
  unfold wholeR
  rw [if_pos (rev_AV h).1]
 ·exact (Ev_f h (Ev.now _)).is (if_neg h).symm
def useR (n : Int) (s f : List Int) (t : List Stp) : List Int:=if AV n s f t = true then usl (itw frS toS t n.toNat (ini s)) (itw toS frS t n.toNat (ini f)) n.toNat else []
theorem iUseLoop (n : Nat) (hn : n ≤ 4) (A B : Int → Bool) : ∀ (d i : Nat),i + d = n → Ev (fun k => impl_UsefulOf.l0 k (tabB n A) (tabB n B) (usl A B i) (n : Int) (i : Int)) (usl A B n):=by
 intro d
 induction d with
 | zero =>
  intro i h
  have h : i = n:=by omega
  subst h
  refine Ev.step (f:=fun _ => some (usl A B i)) (fun k => ?_) (Ev.now _)
  simp only [impl_UsefulOf.l0];rw [if_neg (Int.lt_irrefl _)]
 | succ d ih =>
  intro i h
  have nx:=ih (i + 1) (by omega)
  have a0 : (i : Int) < (n : Int):=by omega
  have wi : wrap64 ((i : Int) + 1) = ((i + 1 : Nat) : Int):=by rw [w64 (by omega) (by omega)];omega
  have ul:=usl_len A B i
  have la : (i : Int) < ((tabB n A).length : Int):=by rw [tabB_len];exact a0
  have lb : (i : Int) < ((tabB n B).length : Int):=by rw [tabB_len];exact a0
  rw [usl_succ] at nx
  refine Ev.step (fun k => ?_) nx
  simp only [impl_UsefulOf.l0]
  rw [if_pos a0,if_pos (Int.natCast_nonneg _),if_pos la,tabB_get ⟨Int.natCast_nonneg _,a0⟩,if_pos lb,tabB_get ⟨Int.natCast_nonneg _,a0⟩,wi,if_pos (show (usl A B i).length < 17592186044416 by omega)]
  by_cases ca : A (i : Int) = true
  ·rw [if_pos ca]
   by_cases cb : B (i : Int) = true
   ·rw [if_pos cb,if_pos ⟨ca,cb⟩]
   ·rw [if_neg cb,if_neg (fun g => cb g.2),List.append_nil]
  ·rw [if_neg ca,if_neg (fun g => ca g.1),List.append_nil]
theorem sUseLoop (n : Nat) (hn : n ≤ 4) (A B : Int → Bool) : ∀ (d i : Nat),i + d = n → Ev (fun k => spec_UsefulOf.l0 k (usl A B i) (n : Int) (i : Int) (A 0) (A 1) (A 2) (A 3) (B 0) (B 1) (B 2) (B 3)) (usl A B n):=by
 intro d
 induction d with
 | zero =>
  intro i h
  have h : i = n:=by omega
  subst h
  refine Ev.step (f:=fun _ => some (usl A B i)) (fun k => ?_) (Ev.now _)
  simp only [spec_UsefulOf.l0];rw [if_neg (Int.lt_irrefl _)]
 | succ d ih =>
  intro i h
  have nx:=ih (i + 1) (by omega)
  have a0 : (i : Int) < (n : Int):=by omega
  have wi : wrap64 ((i : Int) + 1) = ((i + 1 : Nat) : Int):=by rw [w64 (by omega) (by omega)];omega
  have ul:=usl_len A B i
  have ul : (usl A B i).length < 17592186044416:=by omega
  rw [usl_succ] at nx
  refine Ev.step (fun k => ?_) nx
  simp only [spec_UsefulOf.l0]
  rw [if_pos a0,wi,if_pos ul]
  have : i = 0 ∨ i = 1 ∨ i = 2 ∨ i = 3:=by omega
  rcases this with rfl|rfl|rfl|rfl
  ·rw [if_pos (by decide)]
   by_cases ca : A 0 = true <;> by_cases cb : B 0 = true <;> simp [ca,cb]
  ·rw [if_neg (by decide),if_pos (by decide)]
   by_cases ca : A 1 = true <;> by_cases cb : B 1 = true <;> simp [ca,cb]
  ·rw [if_neg (by decide),if_neg (by decide),if_pos (by decide)]
   by_cases ca : A 2 = true <;> by_cases cb : B 2 = true <;> simp [ca,cb]
  ·rw [if_neg (by decide),if_neg (by decide),if_neg (by decide),if_pos (by decide)]
   by_cases ca : A 3 = true <;> by_cases cb : B 3 = true <;> simp [ca,cb]
theorem stepIn {n : Int} {t : List Stp} (h : ∀ x ∈ t,stepOk n x = true) : ∀ x ∈ t,(0 ≤ x.f0 ∧ x.f0 < n) ∧ (0 ≤ x.f2 ∧ x.f2 < n):=fun x hx => by
 have q:=of_decide_eq_true (show decide _ = true from h x hx)
 exact ⟨⟨q.1,q.2.1⟩,⟨q.2.2.1,q.2.2.2.1⟩⟩
theorem home_eq {n : Nat} {s f : List Int} {t : List Stp} (h : AV (n : Int) s f t = true) (q : Int) : itw frS toS (sortT (t.map rvS)) n (ini f) q = itw toS frS t n (ini f) q:=by
 obtain ⟨h1,h2,h4,h6,h7⟩:=AV_iff.1 h
 obtain ⟨r1,r2⟩:=rev_AV h
 obtain ⟨g1,g2,g4,g6,g7⟩:=AV_iff.1 r1
 rw [Bool.eq_iff_iff,reach_iff (a:=frS) (c:=toS) (fun x hx => (stepIn g6 x hx).2),reach_iff (a:=toS) (c:=frS) (fun x hx => (stepIn h6 x hx).1)]
 constructor
 ·exact Cl_of fun x hx => by
   obtain ⟨y,hy,rfl⟩:=List.mem_map.1 ((r2 x).1 hx)
   exact ⟨y,hy,rfl,rfl⟩
 ·exact Cl_of (a:=toS) (c:=frS) (a':=frS) (c':=toS) fun x hx => ⟨rvS x,(r2 _).2 (List.mem_map_of_mem hx),rfl,rfl⟩
theorem iUse (n : Int) (s f : List Int) (t : List Stp) (hs : s.length ≤ 1048576) (hf : f.length ≤ 1048576) (ht : t.length ≤ 1048576) : Ev (fun k => impl_UsefulOf.f k n s f t) (useR n s f t):=by
 unfold impl_UsefulOf.f useR
 have rv:=iRev n s f t hs hf ht
 refine Ev.bind rv ?_
 by_cases h : AV n s f t = true
 ·have hl:=AV_len h
  obtain ⟨h1,h2,h4,h6,h7⟩:=AV_iff.1 h
  obtain ⟨r1,r2⟩:=rev_AV h
  obtain ⟨g1,g2,g4,g6,g7⟩:=AV_iff.1 r1
  have hl2:=AV_len r1
  rw [if_pos h,if_pos h]
  obtain ⟨m,rfl⟩ : ∃ m : Nat,n = (m : Int):=⟨n.toNat,by omega⟩
  rw [Int.toNat_natCast]
  refine Ev_t rfl (Ev.bind (iReached m (by omega) s f s t h2.1 (by omega) (stepIn h6) (by omega)) (Ev.bind (iReached m (by omega) f s f (sortT (t.map rvS)) h4.1 (by omega) (stepIn g6) (by omega)) ?_))
  refine (iUseLoop m (by omega) (itw frS toS t m (ini s)) (itw frS toS (sortT (t.map rvS)) m (ini f)) m 0 (by omega)).is ?_
  exact usl_congr fun q _ => home_eq h q
 ·rw [if_neg h,if_neg h]
  exact Ev_f (by simp [noneR]) (Ev.now _)
theorem sUse (n : Int) (s f : List Int) (t : List Stp) (hs : s.length ≤ 1048576) (hf : f.length ≤ 1048576) (ht : t.length ≤ 1048576) : Ev (fun k => spec_UsefulOf.f k n s f t) (useR n s f t):=by
 unfold spec_UsefulOf.f useR
 refine Ev.bind (sAV n s f t (by omega) (by omega) (by omega)) ?_
 by_cases h : AV n s f t = true
 ·have hl:=AV_len h
  obtain ⟨h1,h2,h4,h6,h7⟩:=AV_iff.1 h
  obtain ⟨m,rfl⟩ : ∃ m : Nat,n = (m : Int):=⟨n.toNat,by omega⟩
  rw [if_pos h,Int.toNat_natCast]
  exact Ev_t h (Ev.bind (sReach m (by omega) s f s t false h2.1 (by omega) (stepIn h6) (by omega) (itw frS toS t m (ini s)) rfl) (Ev.bind (sReach m (by omega) s f f t true h4.1 (by omega) (stepIn h6) (by omega) (itw toS frS t m (ini f)) rfl) (sUseLoop m (by omega) _ _ m 0 (by omega))))
 ·exact (Ev_f h (Ev.now _)).is (if_neg h).symm
theorem at_T' {t pre v : List Stp} {x : Stp} (h : t = pre ++ x :: v) (hl : t.length ≤ 2000000) : (pre.length : Int) < (t.length : Int) ∧ rdT t (pre.length : Int) = x ∧ wrap64 ((pre.length : Int) + 1) = (((pre ++ [x]).length : Nat) : Int):=by
 have e : t.length = pre.length + (v.length + 1):=by rw [h];simp
 refine ⟨by omega,by rw [h,rdS_mid],?_⟩
 rw [w64 (by omega) (by omega)];simp
theorem at_I' {t pre v : List Int} {x : Int} (h : t = pre ++ x :: v) (hl : t.length ≤ 2000000) : (pre.length : Int) < (t.length : Int) ∧ rdI t (pre.length : Int) = x ∧ wrap64 ((pre.length : Int) + 1) = (((pre ++ [x]).length : Nat) : Int):=by
 have e : t.length = pre.length + (v.length + 1):=by rw [h];simp
 refine ⟨by omega,by rw [h,rd_mid],?_⟩
 rw [w64 (by omega) (by omega)];simp
theorem sIn4 (l : List Int) (q : Int) (hl : l.length ≤ 2000000) : Ev (fun k => spec_l4In.f k l q) (decide (q ∈ l)):=by
 unfold spec_l4In.f
 have go : ∀ (v pre : List Int),l = pre ++ v → Ev (fun k => spec_l4In.l0 k q l (l.length : Int) (pre.length : Int)) (decide (q ∈ v)):=by
  intro v
  induction v with
  | nil =>
   intro pre h
   refine Ev.step (f:=fun _ => some false) (fun k => ?_) ((Ev.now _).is (by simp))
   simp only [spec_l4In.l0];rw [if_neg (by rw [h];simp)]
  | cons x v ih =>
   intro pre h
   obtain ⟨a0,hx,wn⟩:=at_I' h (by omega)
   have i1:=ih (pre ++ [x]) (by rw [h];simp)
   by_cases e : x = q
   ·refine Ev.step (f:=fun _ => some true) (fun k => ?_) ((Ev.now _).is (by simp [e]))
    simp only [spec_l4In.l0];rw [if_pos a0,if_pos (Int.natCast_nonneg _),if_pos a0,hx,if_pos e]
   ·refine Ev.step (fun k => ?_) (i1.is (by simp [Ne.symm e]))
    simp only [spec_l4In.l0];rw [if_pos a0,if_pos (Int.natCast_nonneg _),if_pos a0,hx,if_neg e,wn]
 exact go l [] rfl
def plc (U : List Int) (q : Int) : Int:=((U.idxOf q : Nat) : Int)
theorem idx_ev (l : List Int) (q : Int) (hl : l.length ≤ 1000) : Ev (fun k => slices_Index_int_int.f k l q) (if q ∈ l then plc l q else -1):=by
 unfold slices_Index_int_int.f
 have go : ∀ (v pre : List Int),l = pre ++ v → Ev (fun k => slices_Index_int_int.l0 k l q (l.length : Int) (pre.length : Int)) (if q ∈ v then ((pre.length + v.idxOf q : Nat) : Int) else -1):=by
  intro v
  induction v with
  | nil =>
   intro pre h
   refine Ev.step (f:=fun _ => some (-1)) (fun k => ?_) ((Ev.now _).is (by simp))
   simp only [slices_Index_int_int.l0];rw [if_neg (by rw [h];simp)]
  | cons x v ih =>
   intro pre h
   obtain ⟨a0,hx,wn⟩:=at_I h (by omega)
   by_cases e : q = x
   ·refine Ev.step (f:=fun _ => some (pre.length : Int)) (fun k => ?_) ((Ev.now _).is (by rw [if_pos (by rw [e];simp),e];simp))
    simp only [slices_Index_int_int.l0];rw [if_pos a0,if_pos (Int.natCast_nonneg _),if_pos a0,hx,if_pos e]
   ·have i1:=ih (pre ++ [x]) (by rw [h];simp)
    refine Ev.step (fun k => ?_) (i1.is ?_)
    ·simp only [slices_Index_int_int.l0];rw [if_pos a0,if_pos (Int.natCast_nonneg _),if_pos a0,hx,if_neg e,wn]
    ·have e2 : (x :: v).idxOf q = v.idxOf q + 1:=by
      have b : (x == q) = false:=by rw [beq_eq_false_iff_ne];exact fun g => e g.symm
      rw [List.idxOf_cons,b];rfl
     by_cases g : q ∈ v
     ·rw [if_pos g,if_pos (List.mem_cons_of_mem _ g),e2,List.length_append];simp;omega
     ·rw [if_neg g,if_neg (by simp [e,g])]
 refine (go l [] rfl).is ?_
 unfold plc
 rw [List.length_nil,Nat.zero_add]
def plS (U : List Int) (x : Stp) : Stp:=⟨plc U x.f0,x.f1,plc U x.f2,x.f3⟩
def inS (U : List Int) (x : Stp) : Bool:=decide (x.f0 ∈ U) && decide (x.f2 ∈ U)
def keepI (U l : List Int) : List Int:=(l.filter (fun q => decide (q ∈ U))).map (plc U)
def keepT (U : List Int) (t : List Stp) : List Stp:=(t.filter (inS U)).map (plS U)
theorem plc_in {U : List Int} {q : Int} (h : q ∈ U) : 0 ≤ plc U q ∧ plc U q < (U.length : Int):=⟨Int.natCast_nonneg _,Int.ofNat_lt.2 (List.idxOf_lt_length_of_mem h)⟩
theorem plc_lt {U : List Int} (hU : ascI U) {p q : Int} (hp : p ∈ U) (hq : q ∈ U) (h : p < q) : plc U p < plc U q:=by
 have lp:=List.idxOf_lt_length_of_mem hp
 have lq:=List.idxOf_lt_length_of_mem hq
 have ep : U[U.idxOf p] = p:=List.getElem_idxOf lp
 have eq : U[U.idxOf q] = q:=List.getElem_idxOf lq
 unfold plc
 by_cases g : U.idxOf p < U.idxOf q
 ·exact Int.ofNat_lt.2 g
 ·exfalso
  by_cases g2 : U.idxOf q = U.idxOf p
  ·have : U[U.idxOf q] = U[U.idxOf p]:=by simp only [g2]
   omega
  ·have:=List.pairwise_iff_getElem.1 hU (U.idxOf q) (U.idxOf p) lq lp (by omega)
   omega
theorem keepI_asc {U l : List Int} (hU : ascI U) (hl : ascI l) : ascI (keepI U l):=by
 unfold keepI ascI
 rw [List.pairwise_map]
 refine List.Pairwise.imp_of_mem (fun {a b} ha hb h => ?_) (List.Pairwise.filter _ hl)
 exact plc_lt hU (of_decide_eq_true (List.mem_filter.1 ha).2) (of_decide_eq_true (List.mem_filter.1 hb).2) h
theorem inS_iff {U : List Int} {x : Stp} : inS U x = true ↔ x.f0 ∈ U ∧ x.f2 ∈ U:=by unfold inS;rw [Bool.and_eq_true,decide_eq_true_eq,decide_eq_true_eq]
theorem keepT_asc {U : List Int} {t : List Stp} (hU : ascI U) (ht : ascT t) : ascT (keepT U t):=by
 unfold keepT ascT
 rw [List.pairwise_map]
 refine List.Pairwise.imp_of_mem (fun {a b} ha hb h => ?_) (List.Pairwise.filter _ ht)
 obtain ⟨a0,a2⟩:=inS_iff.1 (List.mem_filter.1 ha).2
 obtain ⟨b0,b2⟩:=inS_iff.1 (List.mem_filter.1 hb).2
 rw [ordT_lt] at h ⊢
 rcases h with h | ⟨h,h' | ⟨h',h2⟩⟩
 ·exact .inl (plc_lt hU a0 b0 h)
 ·exact .inr ⟨congrArg (plc U) h,.inl h'⟩
 ·exact .inr ⟨congrArg (plc U) h,.inr ⟨h',plc_lt hU a2 b2 h2⟩⟩
theorem asc_ext {a b : List Int} (ha : ascI a) (hb : ascI b) (h : ∀ x,x ∈ a ↔ x ∈ b) : a = b:=by
 have na : a.Nodup:=ha.imp fun {x y} q => by omega
 have nb : b.Nodup:=hb.imp fun {x y} q => by omega
 rw [← sortI_of ha ((List.perm_ext_iff_of_nodup na nb).2 h),sortI_id hb]
theorem swap_keep {U l : List Int} (hU : ascI U) (hl : ascI l) : (U.filter (fun q => decide (q ∈ l))).map (plc U) = keepI U l:=by
 unfold keepI
 congr 1
 refine asc_ext (List.Pairwise.filter _ hU) (List.Pairwise.filter _ hl) fun x => ?_
 rw [List.mem_filter,List.mem_filter,decide_eq_true_eq,decide_eq_true_eq]
 exact ⟨fun h => ⟨h.2,h.1⟩,fun h => ⟨h.2,h.1⟩⟩
theorem iThose (U l : List Int) (hU : U.length ≤ 1000) (hl : l.length ≤ 1048576) : Ev (fun k => impl_TrimAutomaton_1.f k l U) (keepI U l):=by
 unfold impl_TrimAutomaton_1.f
 refine ev_list l (fun pre k => impl_TrimAutomaton_1.l0 k (keepI U pre) l (l.length : Int) (pre.length : Int) U) (fun pre x v h i1 => ?_) ?_
 ·obtain ⟨a0,hx,wn⟩:=at_I' h (by omega)
  have hpre : pre.length ≤ l.length:=by rw [h];simp
  have hk : (keepI U pre).length ≤ pre.length:=by unfold keepI;rw [List.length_map];exact List.length_filter_le ..
  refine Ev.step (f:=?f1) (fun k => ?_) ?k1
  rotate_left
  ·simp only [impl_TrimAutomaton_1.l0]
   rw [if_pos a0,if_pos (Int.natCast_nonneg _),if_pos a0,hx,wn] <;> exact rfl
  ·refine Ev.bind (idx_ev U x hU) ?_
   by_cases g : x ∈ U
   ·have e : keepI U (pre ++ [x]) = keepI U pre ++ [plc U x]:=by unfold keepI;rw [List.filter_append,List.map_append];simp [g]
    rw [if_pos g]
    rw [e] at i1
    exact Ev_t (plc_in g).1 (Ev_t (by omega) i1)
   ·have e : keepI U (pre ++ [x]) = keepI U pre:=by unfold keepI;rw [List.filter_append,List.map_append];simp [g]
    rw [if_neg g]
    rw [e] at i1
    exact Ev_f (by omega) i1
 ·refine Ev.step (f:=fun _ => some (keepI U l)) (fun k => ?_) (Ev.now _)
  simp only [impl_TrimAutomaton_1.l0];rw [if_neg (by omega)]
def trimR (n : Int) (s f : List Int) (t : List Stp) : At5:=if useR n s f t = [] then noneR else (((useR n s f t).length : Int),keepI (useR n s f t) s,keepI (useR n s f t) f,keepT (useR n s f t) t,true)
theorem use_asc (n : Int) (s f : List Int) (t : List Stp) : ascI (useR n s f t):=by
 unfold useR
 split
 ·exact usl_asc ..
 ·exact List.Pairwise.nil
theorem use_AV {n : Int} {s f : List Int} {t : List Stp} (h : useR n s f t ≠ []) : AV n s f t = true:=Classical.byContradiction fun g => h (if_neg g)
theorem use_in {n : Int} {s f : List Int} {t : List Stp} {q : Int} (h : q ∈ useR n s f t) : 0 ≤ q ∧ q < n:=by
 have g : AV n s f t = true:=use_AV (List.ne_nil_of_mem h)
 obtain ⟨h1,_⟩:=AV_iff.1 g
 unfold useR at h
 rw [if_pos g] at h
 have:=(usl_mem.1 h).1
 omega
theorem use_len (n : Int) (s f : List Int) (t : List Stp) : (useR n s f t).length ≤ 4:=by
 unfold useR
 split
 ·rename_i g
  obtain ⟨h1,_⟩:=AV_iff.1 g
  exact Nat.le_trans (usl_len ..) (by omega)
 ·exact Nat.zero_le _
theorem keepI_len (U l : List Int) : (keepI U l).length ≤ l.length:=by unfold keepI;rw [List.length_map];exact List.length_filter_le ..
theorem keepT_len (U : List Int) (t : List Stp) : (keepT U t).length ≤ t.length:=by unfold keepT;rw [List.length_map];exact List.length_filter_le ..
theorem trim_AV {n : Int} {s f : List Int} {t : List Stp} (h : useR n s f t ≠ []) : AV ((useR n s f t).length : Int) (keepI (useR n s f t) s) (keepI (useR n s f t) f) (keepT (useR n s f t) t) = true:=by
 obtain ⟨h1,h2,h4,h6,h7⟩:=AV_iff.1 (use_AV h)
 have l4:=use_len n s f t
 have ua:=use_asc n s f t
 obtain ⟨U,hU⟩ : ∃ U,useR n s f t = U:=⟨_,rfl⟩
 rw [hU] at h l4 ua ⊢
 have l1 : 1 ≤ U.length:=List.length_pos_iff.2 h
 have mem : ∀ l : List Int,∀ x ∈ keepI U l,0 ≤ x ∧ x < (U.length : Int):=fun l x hx => by
  obtain ⟨y,hy,rfl⟩:=List.mem_map.1 hx
  exact plc_in (of_decide_eq_true (List.mem_filter.1 hy).2)
 refine AV_iff.2 ⟨⟨by omega,by omega,by have:=keepT_len U t;omega⟩,⟨mem s,keepI_asc ua h2.2⟩,⟨mem f,keepI_asc ua h4.2⟩,fun x hx => ?_,keepT_asc ua h7⟩
 obtain ⟨y,hy,rfl⟩:=List.mem_map.1 hx
 rw [List.mem_filter] at hy
 obtain ⟨y0,y2⟩:=inS_iff.1 hy.2
 have q:=of_decide_eq_true (show decide _ = true from h6 y hy.1)
 exact decide_eq_true ⟨(plc_in y0).1,(plc_in y0).2,(plc_in y2).1,(plc_in y2).2,q.2.2.2.2.1,q.2.2.2.2.2.1,q.2.2.2.2.2.2⟩
theorem keepI_nil (l : List Int) : keepI [] l = []:=by
 unfold keepI
 rw [show l.filter (fun q => decide (q ∈ ([] : List Int))) = [] from List.filter_eq_nil_iff.2 (fun a _ => by simp)]
 rfl
theorem keepT_nil (t : List Stp) : keepT [] t = []:=by
 unfold keepT
 rw [show t.filter (inS []) = [] from List.filter_eq_nil_iff.2 (fun a _ => by simp [inS])]
 rfl
theorem iTrim (n : Int) (s f : List Int) (t : List Stp) (hs : s.length ≤ 1048576) (hf : f.length ≤ 1048576) (ht : t.length ≤ 1048576) : Ev (fun k => impl_TrimAutomaton.f k n s f t) (trimR n s f t):=by
 unfold impl_TrimAutomaton.f
 refine Ev.bind (iUse n s f t hs hf ht) ?_
 have l4:=use_len n s f t
 have fin : Ev (fun k => (impl_made.f k ((useR n s f t).length : Int) (keepI (useR n s f t) s) (keepI (useR n s f t) f) (keepT (useR n s f t) t)).bind fun t6 => some (t6.1,t6.2.1,t6.2.2.1,t6.2.2.2.1,t6.2.2.2.2)) (trimR n s f t):=by
  unfold trimR
  by_cases h : useR n s f t = []
  ·rw [if_pos h,h,keepI_nil,keepI_nil,keepT_nil]
   refine Ev.bind (made_ev _ [] [] [] (Nat.zero_le _) (Nat.zero_le _) (Nat.zero_le _)) ((Ev.now _).is ?_)
   unfold wholeR
   rw [if_neg (fun q => by have:=(AV_iff.1 q).1.1;simp at this)]
   rfl
  ·obtain ⟨h1,h2,h4,h6,h7⟩:=AV_iff.1 (use_AV h)
   have hl:=AV_len (use_AV h)
   have ua:=use_asc n s f t
   have k1:=keepI_len (useR n s f t) s
   have k2:=keepI_len (useR n s f t) f
   have k3:=keepT_len (useR n s f t) t
   rw [if_neg h]
   refine Ev.bind (made_ev _ _ _ _ (by omega) (by omega) (by omega)) ((Ev.now _).is ?_)
   rw [sortI_id (keepI_asc ua h2.2),sortI_id (keepI_asc ua h4.2),sortT_id (keepT_asc ua h7)]
   unfold wholeR
   rw [if_pos (trim_AV h)]
 obtain ⟨U,hU⟩ : ∃ U,useR n s f t = U:=⟨_,rfl⟩
 rw [hU] at fin l4 ⊢
 refine ev_list t (fun pre k => impl_TrimAutomaton.l0 k (keepT U pre) t (t.length : Int) (pre.length : Int) n s f t U) (fun pre x v h i1 => ?_) ?_
 ·obtain ⟨a0,hx,wn⟩:=at_T' h (by omega)
  have hpre : pre.length ≤ t.length:=by rw [h];simp
  have hk:=keepT_len U pre
  refine Ev.step (f:=?f1) (fun k => ?_) ?k1
  rotate_left
  ·simp only [impl_TrimAutomaton.l0]
   rw [if_pos a0,if_pos (Int.natCast_nonneg _),if_pos a0,hx,wn] <;> exact rfl
  ·refine Ev.bind (idx_ev U x.f0 (by omega)) (Ev.bind (idx_ev U x.f2 (by omega)) ?_)
   by_cases g0 : x.f0 ∈ U
   ·by_cases g2 : x.f2 ∈ U
    ·have e : keepT U (pre ++ [x]) = keepT U pre ++ [plS U x]:=by unfold keepT;rw [List.filter_append,List.map_append];simp [inS,g0,g2]
     rw [if_pos g0,if_pos g2]
     rw [e] at i1
     exact Ev_t (plc_in g0).1 (Ev_t (plc_in g2).1 (Ev_t (by omega) i1))
    ·have e : keepT U (pre ++ [x]) = keepT U pre:=by unfold keepT;rw [List.filter_append,List.map_append];simp [inS,g2]
     rw [if_pos g0,if_neg g2]
     rw [e] at i1
     exact Ev_t (plc_in g0).1 (Ev_f (by omega) i1)
   ·have e : keepT U (pre ++ [x]) = keepT U pre:=by unfold keepT;rw [List.filter_append,List.map_append];simp [inS,g0]
    rw [if_neg g0]
    rw [e] at i1
    exact Ev_f (by omega) i1
 ·refine Ev.step (f:=?f2) (fun k => ?_) ?k2
  rotate_left
  ·simp only [impl_TrimAutomaton.l0]
   rw [if_neg (by omega)] <;> exact rfl
  ·exact Ev.bind (iThose U s (by omega) hs) (Ev.bind (iThose U f (by omega) hf) fin)
theorem pick4 {α : Type} {x : Int} (h : 0 ≤ x ∧ x < 4) {A B C D : Nat → Option α} {r : α} (ha : x = 0 → Ev A r) (hb : x = 1 → Ev B r) (hc : x = 2 → Ev C r) (hd : x = 3 → Ev D r) : Ev (fun k => if x = 0 then A k else if x = 1 then B k else if x = 2 then C k else if x = 3 then D k else none) r:=by
 rcases four h with e|e|e|e
 ·exact Ev_t e (ha e)
 ·exact Ev_f (by omega) (Ev_t e (hb e))
 ·exact Ev_f (by omega) (Ev_f (by omega) (Ev_t e (hc e)))
 ·exact Ev_f (by omega) (Ev_f (by omega) (Ev_f (by omega) (Ev_t e (hd e))))
def Pf (U pre : List Int) : Int → Int:=fun x => if x ∈ pre then plc U x else 0
theorem plc_at {U pre v : List Int} {x : Int} (hU : ascI U) (h : U = pre ++ x :: v) : plc U x = (pre.length : Int):=by
 have hx : x ∈ U:=by rw [h];simp
 have lx:=List.idxOf_lt_length_of_mem hx
 have ex : U[U.idxOf x] = x:=List.getElem_idxOf lx
 have lp : pre.length < U.length:=by rw [h];simp
 have ep : U[pre.length] = x:=by simp [h]
 unfold plc
 by_cases g : U.idxOf x = pre.length
 ·rw [g]
 ·exfalso
  by_cases g2 : U.idxOf x < pre.length
  ·have:=List.pairwise_iff_getElem.1 hU (U.idxOf x) pre.length lx lp g2
   omega
  ·have:=List.pairwise_iff_getElem.1 hU pre.length (U.idxOf x) lp lx (by omega)
   omega
theorem Pf_snoc {U pre : List Int} {x : Int} (h : plc U x = (pre.length : Int)) : Pf U (pre ++ [x]) = fun y => if y = x then (pre.length : Int) else Pf U pre y:=by
 funext y
 unfold Pf
 by_cases e : y = x
 ·rw [if_pos (by simp [e]),if_pos e,e,h]
 ·rw [if_neg e]
  simp [e]
def sel (U l : List Int) (pre : List Int) : List Int:=(pre.filter (fun q => decide (q ∈ l))).map (plc U)
theorem sel_yes {U l pre : List Int} {x : Int} (h : x ∈ l) : sel U l (pre ++ [x]) = sel U l pre ++ [plc U x]:=by unfold sel;rw [List.filter_append,List.map_append];simp [h]
theorem sel_no {U l pre : List Int} {x : Int} (h : ¬ x ∈ l) : sel U l (pre ++ [x]) = sel U l pre:=by unfold sel;rw [List.filter_append,List.map_append];simp [h]
theorem sel_len (U l pre : List Int) : (sel U l pre).length ≤ pre.length:=by unfold sel;rw [List.length_map];exact List.length_filter_le ..
theorem sTrim2 (U : List Int) (lU : U.length ≤ 4) (hU : ∀ q ∈ U,0 ≤ q ∧ q < 4) (t : List Stp) (lt : t.length ≤ 1000) (S F : List Int) :
  Ev (fun k => spec_TrimAutomaton.l2 k U t (t.length : Int) 0 (Pf U U 0) (Pf U U 1) (Pf U U 2) (Pf U U 3) (U.length : Int) S F []) ((U.length : Int),S,F,keepT U t,true):=by
 have key:=ev_list (r:=((U.length : Int),S,F,keepT U t,true)) t (fun pre k => spec_TrimAutomaton.l2 k U t (t.length : Int) (pre.length : Int) (Pf U U 0) (Pf U U 1) (Pf U U 2) (Pf U U 3) (U.length : Int) S F (keepT U pre)) (fun pre x v h i1 => ?_) ?_
 ·exact key
 ·obtain ⟨a0,hx,wn⟩:=at_T h (by omega)
  have hpre : pre.length ≤ t.length:=by rw [h];simp
  have hk:=keepT_len U pre
  refine Ev.step (f:=?f1) (fun k => ?_) ?k1
  rotate_left
  ·simp only [spec_TrimAutomaton.l2]
   rw [if_pos a0,if_pos (Int.natCast_nonneg _),if_pos a0,hx,wn] <;> exact rfl
  ·refine Ev.bind (sIn4 U x.f0 (by omega)) ?_
   by_cases g0 : x.f0 ∈ U
   ·refine Ev_t (decide_eq_true g0) (Ev.bind (sIn4 U x.f2 (by omega)) ?_)
    by_cases g2 : x.f2 ∈ U
    ·have e : keepT U (pre ++ [x]) = keepT U pre ++ [plS U x]:=by unfold keepT;rw [List.filter_append,List.map_append];simp [inS,g0,g2]
     rw [e] at i1
     have common : ∀ z0 z2 : Int,z0 = plc U x.f0 → z2 = plc U x.f2 → Ev (fun k => if (keepT U pre).length < 3518437208883 then spec_TrimAutomaton.l2 k U t (t.length : Int) (((pre ++ [x]).length : Nat) : Int) (Pf U U 0) (Pf U U 1) (Pf U U 2) (Pf U U 3) (U.length : Int) S F (keepT U pre ++ [(⟨z0,x.f1,z2,x.f3⟩ : Stp)]) else none) ((U.length : Int),S,F,keepT U t,true):=by
      intro z0 z2 e0 e2
      refine Ev_t (by omega) ?_
      rw [e0,e2]
      exact i1
     have P0 : ∀ c : Int,x.f0 = c → Pf U U c = plc U x.f0:=fun c e => by rw [← e];exact if_pos g0
     have P2 : ∀ c : Int,x.f2 = c → Pf U U c = plc U x.f2:=fun c e => by rw [← e];exact if_pos g2
     refine Ev_t (decide_eq_true g2) (pick4 (hU _ g0) (fun e0 => ?_) (fun e0 => ?_) (fun e0 => ?_) (fun e0 => ?_)) <;>
      exact pick4 (hU _ g2) (fun e2 => common _ _ (P0 _ e0) (P2 _ e2)) (fun e2 => common _ _ (P0 _ e0) (P2 _ e2)) (fun e2 => common _ _ (P0 _ e0) (P2 _ e2)) (fun e2 => common _ _ (P0 _ e0) (P2 _ e2))
    ·have e : keepT U (pre ++ [x]) = keepT U pre:=by unfold keepT;rw [List.filter_append,List.map_append];simp [inS,g2]
     rw [e] at i1
     exact Ev_f (by simp [g2]) i1
   ·have e : keepT U (pre ++ [x]) = keepT U pre:=by unfold keepT;rw [List.filter_append,List.map_append];simp [inS,g0]
    rw [e] at i1
    exact Ev_f (by simp [g0]) i1
 ·refine Ev.step (f:=fun _ => some ((U.length : Int),S,F,keepT U t,true)) (fun k => ?_) (Ev.now _)
  simp only [spec_TrimAutomaton.l2];rw [if_neg (by omega)]
theorem sTrim1 (U : List Int) (lU : U.length ≤ 4) (hU : ∀ q ∈ U,0 ≤ q ∧ q < 4) (n : Int) (s f : List Int) (t : List Stp) (ls : s.length ≤ 1000) (lf : f.length ≤ 1000) (lt : t.length ≤ 1000) :
  Ev (fun k => spec_TrimAutomaton.l1 k U (U.length : Int) 0 n s f t (Pf U U 0) (Pf U U 1) (Pf U U 2) (Pf U U 3) (U.length : Int) [] []) ((U.length : Int),sel U s U,sel U f U,keepT U t,true):=by
 have key:=ev_list (r:=((U.length : Int),sel U s U,sel U f U,keepT U t,true)) U (fun pre k => spec_TrimAutomaton.l1 k U (U.length : Int) (pre.length : Int) n s f t (Pf U U 0) (Pf U U 1) (Pf U U 2) (Pf U U 3) (U.length : Int) (sel U s pre) (sel U f pre)) (fun pre x v h i1 => ?_) ?_
 ·exact key
 ·obtain ⟨a0,hx,wn⟩:=at_I h (by omega)
  have hpre : pre.length ≤ U.length:=by rw [h];simp
  have hk1:=sel_len U s pre
  have hk2:=sel_len U f pre
  have gU : x ∈ U:=by rw [h];simp
  have P : ∀ c : Int,x = c → Pf U U c = plc U x:=fun c e => by rw [← e];exact if_pos gU
  refine Ev.step (f:=?f1) (fun k => ?_) ?k1
  rotate_left
  ·simp only [spec_TrimAutomaton.l1]
   rw [if_pos a0,if_pos (Int.natCast_nonneg _),if_pos a0,hx,wn] <;> exact rfl
  ·refine Ev.bind (sIn4 s x (by omega)) ?_
   by_cases g1 : x ∈ s
   ·rw [sel_yes g1] at i1
    have common : ∀ z : Int,z = plc U x → Ev (fun k => if (sel U s pre).length < 17592186044416 then (spec_l4In.f k f x).bind fun t3 => (if t3 = true then (if (sel U f pre).length < 17592186044416 then spec_TrimAutomaton.l1 k U (U.length : Int) (((pre ++ [x]).length : Nat) : Int) n s f t (Pf U U 0) (Pf U U 1) (Pf U U 2) (Pf U U 3) (U.length : Int) (sel U s pre ++ [z]) (sel U f pre ++ [z]) else none) else spec_TrimAutomaton.l1 k U (U.length : Int) (((pre ++ [x]).length : Nat) : Int) n s f t (Pf U U 0) (Pf U U 1) (Pf U U 2) (Pf U U 3) (U.length : Int) (sel U s pre ++ [z]) (sel U f pre)) else none) ((U.length : Int),sel U s U,sel U f U,keepT U t,true):=by
     intro z e
     rw [e]
     refine Ev_t (by omega) (Ev.bind (sIn4 f x (by omega)) ?_)
     by_cases g2 : x ∈ f
     ·rw [sel_yes g2] at i1
      exact Ev_t (decide_eq_true g2) (Ev_t (by omega) i1)
     ·rw [sel_no g2] at i1
      exact Ev_f (by simp [g2]) i1
    exact Ev_t (decide_eq_true g1) (pick4 (hU _ gU) (fun e => common _ (P _ e)) (fun e => common _ (P _ e)) (fun e => common _ (P _ e)) (fun e => common _ (P _ e)))
   ·rw [sel_no g1] at i1
    refine Ev_f (by simp [g1]) (Ev.bind (sIn4 f x (by omega)) ?_)
    by_cases g2 : x ∈ f
    ·rw [sel_yes g2] at i1
     have common : ∀ z : Int,z = plc U x → Ev (fun k => if (sel U f pre).length < 17592186044416 then spec_TrimAutomaton.l1 k U (U.length : Int) (((pre ++ [x]).length : Nat) : Int) n s f t (Pf U U 0) (Pf U U 1) (Pf U U 2) (Pf U U 3) (U.length : Int) (sel U s pre) (sel U f pre ++ [z]) else none) ((U.length : Int),sel U s U,sel U f U,keepT U t,true):=by
      intro z e
      rw [e]
      exact Ev_t (by omega) i1
     exact Ev_t (decide_eq_true g2) (pick4 (hU _ gU) (fun e => common _ (P _ e)) (fun e => common _ (P _ e)) (fun e => common _ (P _ e)) (fun e => common _ (P _ e)))
    ·rw [sel_no g2] at i1
     exact Ev_f (by simp [g2]) i1
 ·refine Ev.step (fun k => ?_) (sTrim2 U lU hU t lt (sel U s U) (sel U f U))
  simp only [spec_TrimAutomaton.l1];rw [if_neg (by omega)]
theorem sTrim (n : Int) (s f : List Int) (t : List Stp) (hs : s.length ≤ 1048576) (hf : f.length ≤ 1048576) (ht : t.length ≤ 1048576) : Ev (fun k => spec_TrimAutomaton.f k n s f t) (trimR n s f t):=by
 unfold spec_TrimAutomaton.f trimR
 refine Ev.bind (sUse n s f t hs hf ht) ?_
 have l4:=use_len n s f t
 by_cases h : useR n s f t = []
 ·rw [if_pos h,h]
  exact Ev_t rfl (Ev.now _)
 ·obtain ⟨h1,h2,h4,h6,h7⟩:=AV_iff.1 (use_AV h)
  have hl:=AV_len (use_AV h)
  have ua:=use_asc n s f t
  have ui : ∀ q ∈ useR n s f t,0 ≤ q ∧ q < 4:=fun q hq => by have:=use_in hq;omega
  rw [if_neg h,← swap_keep ua h2.2,← swap_keep ua h4.2]
  obtain ⟨U,hU⟩ : ∃ U,useR n s f t = U:=⟨_,rfl⟩
  rw [hU] at h l4 ua ui ⊢
  refine Ev_f (fun g => h (List.eq_nil_of_length_eq_zero (by omega))) ?_
  have key:=ev_list (r:=((U.length : Int),sel U s U,sel U f U,keepT U t,true)) U (fun pre k => spec_TrimAutomaton.l0 k U (U.length : Int) (pre.length : Int) n s f t (Pf U pre 0) (Pf U pre 1) (Pf U pre 2) (Pf U pre 3)) (fun pre x v h i1 => ?_) ?_
  ·exact key
  ·obtain ⟨a0,hx,wn⟩:=at_I h (by omega)
   have o:=ui x (by rw [h];simp)
   rw [Pf_snoc (plc_at ua h)] at i1
   refine Ev.step (fun k => ?_) i1
   simp only [spec_TrimAutomaton.l0]
   rw [if_pos a0,if_pos (Int.natCast_nonneg _),if_pos a0,hx,wn]
   rcases four o with g|g|g|g <;> rw [g] <;> simp
  ·refine Ev.step (fun k => ?_) (sTrim1 U l4 ui n s f t (by omega) (by omega) (by omega))
   simp only [spec_TrimAutomaton.l0];rw [if_neg (by omega)]
theorem trim_sm (n : Int) (s f : List Int) (t : List Stp) : Sm (trimR n s f t):=by
 unfold trimR
 split
 ·exact none_sm
 ·rename_i h
  have:=AV_len (trim_AV h)
  exact ⟨by show (keepI (useR n s f t) s).length ≤ _;omega,by show (keepI (useR n s f t) f).length ≤ _;omega,by show (keepT (useR n s f t) t).length ≤ _;omega⟩
def unitE (i k : Nat) : Int:=if i = k then 0 else 1000000
def oneE (i k : Nat) : Int:=if i = k then 0 else 3
theorem unit_MV (n : Nat) (h1 : 1 ≤ n) (h4 : n ≤ 4) : MV (n : Int) (sqL n unitE):=by
 refine ⟨by omega,by omega,?_,?_⟩
 ·unfold sqL;rw [tab_length];exact_mod_cast rfl
 ·intro x hx
  unfold sqL tab at hx
  obtain ⟨m,_,rfl⟩:=List.mem_map.mp hx
  unfold unitE
  by_cases e : m / n = m % n
  ·simp only [e,if_true];omega
  ·rw [if_neg e];omega
theorem MV_of {n : Nat} (h1 : 1 ≤ n) (h4 : n ≤ 4) (g : Nat → Nat → Int) (h : ∀ i k,i < n → k < n → 0 ≤ g i k ∧ g i k ≤ 1000000) : MV (n : Int) (sqL n g):=by
 refine ⟨by omega,by omega,?_,?_⟩
 ·unfold sqL;rw [tab_length];exact_mod_cast rfl
 ·intro x hx
  unfold sqL at hx
  obtain ⟨j,hj,rfl⟩:=mem_tab.mp hx
  exact h _ _ (Nat.div_lt_of_lt_mul hj) (Nat.mod_lt _ (by omega))
theorem MV_len {n : Nat} {l : List Int} (h : MV (n : Int) l) : l.length = n * n:=by
 have:=h.2.2.1
 exact_mod_cast this
theorem MV_at {n : Nat} {l : List Int} (h : MV (n : Int) l) (i k : Nat) (hi : i < n) (hk : k < n) : 0 ≤ l.getD (i * n + k) 0 ∧ l.getD (i * n + k) 0 ≤ 1000000:=by
 have hc:=cell_lt n i k hi hk
 have hl:=MV_len h
 rw [List.getD_eq_getElem?_getD,List.getElem?_eq_getElem (by omega)]
 exact h.2.2.2 _ (List.getElem_mem _)
theorem MV_max {n : Nat} {l : List Int} (h : MV (n : Int) l) : l.length ≤ maxLen:=by
 have h1:=h.2.1
 have:=sq_le n (by omega)
 have:=MV_len h
 rw [maxLen_eq];omega
def stepL (n : Nat) (c : List UInt8) (t : List Stp) (l : List Int) : List Int:=t.foldl (fun (l : List Int) (s : Stp) => if s.f1.toList = c then l.set (s.f0 * (n : Int) + s.f2).toNat s.f3 else l) l
def cst (n : Nat) : List Int:=List.replicate (n * n) 1000000
theorem stepL_len (n : Nat) (c : List UInt8) : ∀ (t : List Stp) (l : List Int),(stepL n c t l).length = l.length:=by
 intro t
 induction t with
 | nil => intro l;rfl
 | cons s t ih =>
  intro l
  show (stepL n c t (if s.f1.toList = c then l.set (s.f0 * n + s.f2).toNat s.f3 else l)).length = l.length
  rw [ih]
  by_cases h : s.f1.toList = c
  ·rw [if_pos h,List.length_set]
  ·rw [if_neg h]
theorem stp_mem {n : Int} : ∀ {t : List Stp} {p : Option Stp},stp n p t = true → ∀ x ∈ t,stepOk n x = true
 | [],_,_,x,hx => by cases hx
 | y :: t,p,h,x,hx => by
  simp only [stp,Bool.and_eq_true] at h
  rcases List.mem_cons.mp hx with rfl|hx
  ·exact h.1.1
  ·exact stp_mem h.2 x hx
theorem stepL_MV (n : Nat) (h1 : 1 ≤ n) (h4 : n ≤ 4) (c : List UInt8) : ∀ (t : List Stp) (l : List Int),(∀ x ∈ t,stepOk n x = true) → MV (n : Int) l → MV (n : Int) (stepL n c t l):=by
 intro t
 induction t with
 | nil => intro l _ h;exact h
 | cons s t ih =>
  intro l ht h
  show MV (n : Int) (stepL n c t (if s.f1.toList = c then l.set (s.f0 * n + s.f2).toNat s.f3 else l))
  refine ih _ (fun x hx => ht x (List.mem_cons_of_mem _ hx)) ?_
  by_cases e : s.f1.toList = c
  ·rw [if_pos e]
   refine ⟨h.1,h.2.1,by rw [List.length_set];exact h.2.2.1,fun x hx => ?_⟩
   rcases List.mem_or_eq_of_mem_set hx with hx|rfl
   ·exact h.2.2.2 x hx
   ·have o:=of_decide_eq_true (show decide _ = true from ht s (by simp));omega
  ·rw [if_neg e];exact h
theorem cst_MV (n : Nat) (h1 : 1 ≤ n) (h4 : n ≤ 4) : MV (n : Int) (cst n):=by
 refine ⟨by omega,by omega,?_,fun x hx => ?_⟩
 ·unfold cst;rw [List.length_replicate];exact_mod_cast rfl
 ·rw [(List.mem_replicate.mp hx).2];omega
theorem cst_sq (n : Nat) : sqL n (fun _ _ => 1000000) = cst n:=by
 unfold sqL tab cst
 rw [List.map_const',List.length_range]
def letL (n : Nat) (t : List Stp) (c : UInt8) : List Int:=stepL n [c] t (cst n)
theorem letL_MV (n : Nat) (h1 : 1 ≤ n) (h4 : n ≤ 4) (t : List Stp) (ht : ∀ y ∈ t,stepOk n y = true) (c : UInt8) : MV (n : Int) (letL n t c):=stepL_MV n h1 h4 [c] t (cst n) ht (cst_MV n h1 h4)
def addC (x y : Int) : Int:=mn (x + y) 1000000
def mulCE (n : Nat) (a b : List Int) (i k : Nat) : Int:=(List.range n).foldl (fun acc l => mn acc (addC (a.getD (i * n + l) 0) (b.getD (l * n + k) 0))) 1000000
def mulCL (n : Nat) (a b : List Int) : List Int:=sqL n (mulCE n a b)
theorem mn_le1 (x y : Int) : mn x y ≤ x ∧ mn x y ≤ y:=by unfold mn;by_cases h : y < x <;> simp only [h,if_true,if_false] <;> omega
theorem mn_ge {x y t : Int} (h1 : t ≤ x) (h2 : t ≤ y) : t ≤ mn x y:=by unfold mn;by_cases h : y < x <;> simp only [h,if_true,if_false] <;> omega
theorem addC_in {x y : Int} (hx : 0 ≤ x) (hy : 0 ≤ y) : 0 ≤ addC x y ∧ addC x y ≤ 1000000:=⟨mn_ge (by omega) (by omega),(mn_le1 _ _).2⟩
theorem mulCE_in {n : Nat} {a b : List Int} (ha : MV (n : Int) a) (hb : MV (n : Int) b) (i k : Nat) (hi : i < n) (hk : k < n) : 0 ≤ mulCE n a b i k ∧ mulCE n a b i k ≤ 1000000:=by
 unfold mulCE
 have go : ∀ m,m ≤ n → 0 ≤ (List.range m).foldl (fun acc l => mn acc (addC (a.getD (i * n + l) 0) (b.getD (l * n + k) 0))) 1000000 ∧ (List.range m).foldl (fun acc l => mn acc (addC (a.getD (i * n + l) 0) (b.getD (l * n + k) 0))) 1000000 ≤ 1000000:=by
  intro m
  induction m with
  | zero => intro _;exact ⟨by simp,by simp⟩
  | succ m ih =>
   intro hm
   have h:=ih (by omega)
   rw [fold_snoc]
   have c:=addC_in (MV_at ha i m hi (by omega)).1 (MV_at hb m k (by omega) hk).1
   exact ⟨mn_ge h.1 c.1,Int.le_trans (mn_le1 _ _).1 h.2⟩
 exact go n (Nat.le_refl _)
theorem mulCL_MV {n : Nat} {a b : List Int} (ha : MV (n : Int) a) (hb : MV (n : Int) b) : MV (n : Int) (mulCL n a b):=by
 have h1:=ha.1
 have h2:=ha.2.1
 exact MV_of (by omega) (by omega) _ (fun i k hi hk => mulCE_in ha hb i k hi hk)
def wordL (n : Nat) (t : List Stp) (w : List UInt8) (a : List Int) : List Int:=w.foldl (fun a c => mulCL n a (letL n t c)) a
theorem wordL_MV (n : Nat) (h1 : 1 ≤ n) (h4 : n ≤ 4) (t : List Stp) (ht : ∀ y ∈ t,stepOk n y = true) : ∀ (w : List UInt8) (a : List Int),MV (n : Int) a → MV (n : Int) (wordL n t w a)
 | [],_,h => h
 | c :: w,a,h => wordL_MV n h1 h4 t ht w _ (mulCL_MV h (letL_MV n h1 h4 t ht c))
theorem one_letter (w : ByteArray) {u : List UInt8} {c : UInt8} {e : List UInt8} (h : L w = u ++ c :: e) : (w.extract u.length (u.length + 1)).toList = [c]:=by
 rw [toList_L,L_extract,h]
 rw [List.drop_take,List.drop_left']
 ·simp
 ·rfl
def wmR (n : Int) (s f : List Int) (t : List Stp) (w : ByteArray) : Int × List Int × Bool:=if AV n s f t = true ∧ wordB (L w) = true then (n,wordL n.toNat t (L w) (sqL n.toNat unitE),true) else (0,[],false)
theorem wordB_size {w : ByteArray} (h : wordB (L w) = true) : w.size ≤ 1000 ∧ (L w).all wOk = true:=by
 unfold wordB at h
 rw [Bool.and_eq_true,decide_eq_true_eq,← L_size] at h
 exact ⟨h.2,h.1⟩
theorem wmR_len (n : Int) (s f : List Int) (t : List Stp) (w : ByteArray) : (wmR n s f t w).2.1.length ≤ 1048576:=by
 unfold wmR
 by_cases g : AV n s f t = true ∧ wordB (L w) = true
 ·rw [if_pos g]
  obtain ⟨h1,h2,h3,h4,h5⟩:=AV_parts g.1
  obtain ⟨m,rfl⟩ : ∃ m : Nat,n = (m : Int):=⟨n.toNat,by omega⟩
  have h:=wordL_MV m (by omega) (by omega) t (stp_mem h5) (L w) (sqL m unitE) (unit_MV m (by omega) (by omega))
  have:=MV_len h
  have:=sq_le m (by omega)
  show (wordL m t (L w) (sqL m unitE)).length ≤ 1048576
  omega
 ·rw [if_neg g];decide
theorem le_mn {x a b : Int} : x ≤ mn a b ↔ x ≤ a ∧ x ≤ b:=⟨fun h => ⟨by have:=(mn_le1 a b).1;omega,by have:=(mn_le1 a b).2;omega⟩,fun h => mn_ge h.1 h.2⟩
theorem le_foldmn (f : Nat → Int) (x : Int) : ∀ (ls : List Nat) (acc : Int),x ≤ ls.foldl (fun a l => mn a (f l)) acc ↔ x ≤ acc ∧ ∀ l ∈ ls,x ≤ f l
 | [],acc => by simp
 | l :: ls,acc => by
  rw [List.foldl_cons,le_foldmn f x ls,le_mn]
  constructor
  ·rintro ⟨⟨h1,h2⟩,h3⟩
   exact ⟨h1,fun y hy => by rcases List.mem_cons.1 hy with rfl|h;exact h2;exact h3 y h⟩
  ·rintro ⟨h1,h2⟩
   exact ⟨⟨h1,h2 l (List.mem_cons_self ..)⟩,fun y hy => h2 y (List.mem_cons_of_mem _ hy)⟩
theorem eq_le' {a b : Int} (h : ∀ x,x ≤ a ↔ x ≤ b) : a = b:=Int.le_antisymm ((h a).1 (Int.le_refl a)) ((h b).2 (Int.le_refl b))
def mvE (n : Nat) (a v : List Int) (p : Nat) : Int:=(List.range n).foldl (fun acc l => mn acc (addC (a.getD (p * n + l) 0) (v.getD l 0))) 1000000
def mvL (n : Nat) (a v : List Int) : List Int:=(List.range n).map (mvE n a v)
theorem le_mvE {n : Nat} {a v : List Int} {p : Nat} {x : Int} : x ≤ mvE n a v p ↔ x ≤ 1000000 ∧ ∀ l,l < n → x ≤ a.getD (p * n + l) 0 + v.getD l 0:=by
 unfold mvE
 rw [le_foldmn (fun l => addC (a.getD (p * n + l) 0) (v.getD l 0))]
 constructor
 ·rintro ⟨h1,h2⟩
  exact ⟨h1,fun l hl => (le_mn.1 (h2 l (List.mem_range.2 hl))).1⟩
 ·rintro ⟨h1,h2⟩
  exact ⟨h1,fun l hl => le_mn.2 ⟨h2 l (List.mem_range.1 hl),h1⟩⟩
theorem le_mulCE {n : Nat} {a b : List Int} {i k : Nat} {x : Int} : x ≤ mulCE n a b i k ↔ x ≤ 1000000 ∧ ∀ l,l < n → x ≤ a.getD (i * n + l) 0 + b.getD (l * n + k) 0:=by
 unfold mulCE
 rw [le_foldmn (fun l => addC (a.getD (i * n + l) 0) (b.getD (l * n + k) 0))]
 constructor
 ·rintro ⟨h1,h2⟩
  exact ⟨h1,fun l hl => (le_mn.1 (h2 l (List.mem_range.2 hl))).1⟩
 ·rintro ⟨h1,h2⟩
  exact ⟨h1,fun l hl => le_mn.2 ⟨h2 l (List.mem_range.1 hl),h1⟩⟩
theorem mvL_get (n : Nat) (a v : List Int) (p : Nat) (hp : p < n) : (mvL n a v).getD p 0 = mvE n a v p:=by
 unfold mvL
 rw [List.getD_eq_getElem?_getD,List.getElem?_map,List.getElem?_range hp]
 rfl
theorem mv_mul {n : Nat} {a b v : List Int} (ha : MV (n : Int) a) (hb : MV (n : Int) b) (hv : ∀ l,l < n → 0 ≤ v.getD l 0) (p : Nat) (hp : p < n) : mvE n (mulCL n a b) v p = mvE n a (mvL n b v) p:=by
 refine eq_le' fun x => ?_
 rw [le_mvE,le_mvE]
 constructor
 ·rintro ⟨h1,h2⟩
  refine ⟨h1,fun l hl => ?_⟩
  rw [mvL_get n b v l hl]
  have ha0:=MV_at ha p l hp hl
  have : x - a.getD (p * n + l) 0 ≤ mvE n b v l:=by
   refine le_mvE.2 ⟨by omega,fun k hk => ?_⟩
   have h3:=h2 k hk
   unfold mulCL at h3
   rw [sqL_get n _ p k hp hk] at h3
   have h4 : x - v.getD k 0 ≤ mulCE n a b p k:=by omega
   have:=(le_mulCE.1 h4).2 l hl
   omega
  omega
 ·rintro ⟨h1,h2⟩
  refine ⟨h1,fun k hk => ?_⟩
  unfold mulCL
  rw [sqL_get n _ p k hp hk]
  have hv0:=hv k hk
  have : x - v.getD k 0 ≤ mulCE n a b p k:=by
   refine le_mulCE.2 ⟨by omega,fun l hl => ?_⟩
   have h3:=h2 l hl
   rw [mvL_get n b v l hl] at h3
   have h4 : x - a.getD (p * n + l) 0 ≤ mvE n b v l:=by omega
   have:=(le_mvE.1 h4).2 k hk
   omega
  omega
theorem mvL_mul {n : Nat} {a b v : List Int} (ha : MV (n : Int) a) (hb : MV (n : Int) b) (hv : ∀ l,l < n → 0 ≤ v.getD l 0) : mvL n (mulCL n a b) v = mvL n a (mvL n b v):=by
 unfold mvL
 refine List.map_congr_left fun p hp => ?_
 exact mv_mul ha hb hv p (List.mem_range.1 hp)
theorem mvE_in {n : Nat} {a v : List Int} (ha : MV (n : Int) a) (hv : ∀ l,l < n → 0 ≤ v.getD l 0) (p : Nat) (hp : p < n) : 0 ≤ mvE n a v p ∧ mvE n a v p ≤ 1000000:=by
 refine ⟨le_mvE.2 ⟨by omega,fun l hl => ?_⟩,(le_mvE.1 (Int.le_refl _)).1⟩
 have h1:=MV_at ha p l hp hl
 have h2:=hv l hl
 omega
def colL (n : Nat) (t : List Stp) : List UInt8 → List Int → List Int
 | [],v => v
 | c :: w,v => mvL n (letL n t c) (colL n t w v)
theorem mvL_in {n : Nat} {a v : List Int} (ha : MV (n : Int) a) (hv : ∀ l,l < n → 0 ≤ v.getD l 0) : ∀ l,l < n → 0 ≤ (mvL n a v).getD l 0 ∧ (mvL n a v).getD l 0 ≤ 1000000:=by
 intro l hl
 rw [mvL_get n a v l hl]
 exact mvE_in ha hv l hl
theorem colL_in (n : Nat) (h1 : 1 ≤ n) (h4 : n ≤ 4) (t : List Stp) (ht : ∀ y ∈ t,stepOk n y = true) : ∀ (w : List UInt8) (v : List Int),(∀ l,l < n → 0 ≤ v.getD l 0) → ∀ l,l < n → 0 ≤ (colL n t w v).getD l 0
 | [],v,hv => hv
 | c :: w,v,hv => fun l hl => (mvL_in (letL_MV n h1 h4 t ht c) (colL_in n h1 h4 t ht w v hv) l hl).1
theorem word_col (n : Nat) (h1 : 1 ≤ n) (h4 : n ≤ 4) (t : List Stp) (ht : ∀ y ∈ t,stepOk n y = true) (v : List Int) (hv : ∀ l,l < n → 0 ≤ v.getD l 0) : ∀ (w : List UInt8) (a : List Int),MV (n : Int) a → mvL n (wordL n t w a) v = mvL n a (colL n t w v)
 | [],a,_ => rfl
 | c :: w,a,ha => by
  have hc:=letL_MV n h1 h4 t ht c
  show mvL n (wordL n t w (mulCL n a (letL n t c))) v = _
  rw [word_col n h1 h4 t ht v hv w _ (mulCL_MV ha hc)]
  exact mvL_mul ha hc (colL_in n h1 h4 t ht w v hv)
theorem unit_col (n : Nat) (v : List Int) (hl : v.length = n) (hv : ∀ l,l < n → 0 ≤ v.getD l 0 ∧ v.getD l 0 ≤ 1000000) : mvL n (sqL n unitE) v = v:=by
 apply List.ext_getElem?
 intro p
 by_cases hp : p < n
 ·have e1:=mvL_get n (sqL n unitE) v p hp
  have : mvE n (sqL n unitE) v p = v.getD p 0:=by
   refine eq_le' fun x => ?_
   rw [le_mvE]
   constructor
   ·rintro ⟨_,h2⟩
    have:=h2 p hp
    rw [sqL_get n _ p p hp hp] at this
    simp [unitE] at this
    simpa using this
   ·intro h
    have hp1:=hv p hp
    refine ⟨by omega,fun l hl => ?_⟩
    rw [sqL_get n _ p l hp hl]
    have h3:=hv l hl
    unfold unitE
    by_cases e : p = l
    ·subst e;simp;simpa using h
    ·simp [e];simp at h h3 hp1;omega
  rw [this] at e1
  have l1 : (mvL n (sqL n unitE) v).length = n:=by simp [mvL]
  rw [List.getElem?_eq_getElem (by omega),List.getElem?_eq_getElem (by omega)]
  simp only [List.getD_eq_getElem?_getD,List.getElem?_eq_getElem (show p < (mvL n (sqL n unitE) v).length by omega),List.getElem?_eq_getElem (show p < v.length by omega),Option.getD_some] at e1
  rw [e1]
 ·rw [List.getElem?_eq_none (by simp [mvL];omega),List.getElem?_eq_none (by omega)]
def endL (c : List UInt8) (t : List Stp) (v nx : List Int) : List Int:=t.foldl (fun (nx : List Int) (s : Stp) => if s.f1.toList = c then nx.set s.f0.toNat (mn (nx.getD s.f0.toNat 0) (s.f3 + v.getD s.f2.toNat 0)) else nx) nx
theorem endL_len (c : List UInt8) (v : List Int) : ∀ (t : List Stp) (nx : List Int),(endL c t v nx).length = nx.length
 | [],nx => rfl
 | s :: t,nx => by
  show (endL c t v (if s.f1.toList = c then nx.set s.f0.toNat (mn (nx.getD s.f0.toNat 0) (s.f3 + v.getD s.f2.toNat 0)) else nx)).length = nx.length
  rw [endL_len c v t]
  by_cases h : s.f1.toList = c
  ·rw [if_pos h,List.length_set]
  ·rw [if_neg h]
theorem getD_set' (l : List Int) (i j : Nat) (x : Int) (hj : j < l.length) : (l.set i x).getD j 0 = if i = j then x else l.getD j 0:=by
 simp only [List.getD_eq_getElem?_getD,List.getElem?_set]
 by_cases h : i = j
 ·subst h;simp [hj]
 ·simp [h]
theorem le_endL (c : List UInt8) (v : List Int) (x : Int) (p : Nat) : ∀ (t : List Stp) (nx : List Int),p < nx.length → (x ≤ (endL c t v nx).getD p 0 ↔ x ≤ nx.getD p 0 ∧ ∀ s ∈ t,s.f1.toList = c → s.f0.toNat = p → x ≤ s.f3 + v.getD s.f2.toNat 0)
 | [],nx,_ => by
  show x ≤ nx.getD p 0 ↔ _
  exact ⟨fun h => ⟨h,fun s hs => by cases hs⟩,fun h => h.1⟩
 | s :: t,nx,hp => by
  show x ≤ (endL c t v (if s.f1.toList = c then nx.set s.f0.toNat (mn (nx.getD s.f0.toNat 0) (s.f3 + v.getD s.f2.toNat 0)) else nx)).getD p 0 ↔ _
  have key : x ≤ (if s.f1.toList = c then nx.set s.f0.toNat (mn (nx.getD s.f0.toNat 0) (s.f3 + v.getD s.f2.toNat 0)) else nx).getD p 0 ↔ x ≤ nx.getD p 0 ∧ (s.f1.toList = c → s.f0.toNat = p → x ≤ s.f3 + v.getD s.f2.toNat 0):=by
   by_cases h : s.f1.toList = c
   ·rw [if_pos h,getD_set' _ _ _ _ hp]
    by_cases e : s.f0.toNat = p
    ·rw [if_pos e,le_mn,e]
     exact ⟨fun q => ⟨q.1,fun _ _ => q.2⟩,fun q => ⟨q.1,q.2 h rfl⟩⟩
    ·rw [if_neg e]
     exact ⟨fun q => ⟨q,fun _ e' => absurd e' e⟩,fun q => q.1⟩
   ·rw [if_neg h]
    exact ⟨fun q => ⟨q,fun h' => absurd h' h⟩,fun q => q.1⟩
  rw [le_endL c v x p t _ (by by_cases h : s.f1.toList = c <;> simp [h,hp]),key]
  constructor
  ·rintro ⟨⟨h1,h2⟩,h3⟩
   refine ⟨h1,fun y hy => ?_⟩
   rcases List.mem_cons.1 hy with rfl|hy
   ·exact h2
   ·exact h3 y hy
  ·rintro ⟨h1,h2⟩
   exact ⟨⟨h1,h2 s (List.mem_cons_self ..)⟩,fun y hy => h2 y (List.mem_cons_of_mem _ hy)⟩
def num (s : Stp) : Int:=s.f0 * 8 + (if s.f1.toList = ([97] : List UInt8) then 0 else 4) + s.f2
theorem bef_num {n : Int} (h4 : n ≤ 4) {x y : Stp} (hx : stepOk n x = true) (hy : stepOk n y = true) (h : bef x y = true) : num x < num y:=by
 have ox:=of_decide_eq_true hx
 have oy:=of_decide_eq_true hy
 obtain ⟨x1,x2,x3,x4,x5,x6,x7⟩:=ox
 obtain ⟨y1,y2,y3,y4,y5,y6,y7⟩:=oy
 unfold bef at h
 unfold num
 by_cases e : x.f0 = y.f0
 ·rw [if_pos e] at h
  rcases x7 with q1|q1 <;> rcases y7 with q2|q2 <;> rw [q1,q2] at h ⊢
  ·have h:=of_decide_eq_true (show decide (x.f2 < y.f2) = true from h)
   omega
  ·have r1 : (if ([97] : List UInt8) = [97] then (0 : Int) else 4) = 0:=if_pos rfl
   have r2 : (if ([98] : List UInt8) = [97] then (0 : Int) else 4) = 4:=if_neg (by decide)
   rw [r1,r2];omega
  ·rw [if_neg (by decide)] at h
   exact absurd h (by decide)
  ·have h:=of_decide_eq_true (show decide (x.f2 < y.f2) = true from h)
   omega
 ·rw [if_neg e] at h
  have h:=of_decide_eq_true h
  have b : ∀ (s : Stp),(0 : Int) ≤ (if s.f1.toList = ([97] : List UInt8) then (0 : Int) else 4) ∧ (if s.f1.toList = ([97] : List UInt8) then (0 : Int) else 4) ≤ 4:=fun s => by split <;> omega
  have bx:=b x
  have bY:=b y
  omega
theorem stp_lt {n : Int} (h4 : n ≤ 4) : ∀ {t : List Stp} {y : Stp},stepOk n y = true → stp n (some y) t = true → ∀ x ∈ t,num y < num x
 | [],_,_,_,x,hx => by cases hx
 | z :: t,y,hy,h,x,hx => by
  simp only [stp,Bool.and_eq_true] at h
  have h1:=bef_num h4 hy h.1.1 h.1.2
  rcases List.mem_cons.mp hx with rfl|hx
  ·exact h1
  ·exact Int.lt_trans h1 (stp_lt h4 h.1.1 h.2 x hx)
theorem stp_uniq {n : Int} (h4 : n ≤ 4) : ∀ {t : List Stp} {p : Option Stp},stp n p t = true → ∀ x ∈ t,∀ y ∈ t,num x = num y → x = y
 | [],_,_,x,hx,_,_,_ => by cases hx
 | z :: t,p,h,x,hx,y,hy,e => by
  simp only [stp,Bool.and_eq_true] at h
  rcases List.mem_cons.mp hx with ex|hx' <;> rcases List.mem_cons.mp hy with ey|hy'
  ·rw [ex,ey]
  ·rw [ex] at e;have:=stp_lt h4 h.1.1 h.2 y hy';omega
  ·rw [ey] at e;have:=stp_lt h4 h.1.1 h.2 x hx';omega
  ·exact stp_uniq h4 h.2 x hx' y hy' e
theorem stepL_get (n : Nat) (c : List UInt8) (p q : Nat) (hp : p < n) (hq : q < n) : ∀ (t : List Stp) (l : List Int),l.length = n * n → (∀ y ∈ t,stepOk n y = true) →
  (∃ s ∈ t,s.f1.toList = c ∧ s.f0.toNat = p ∧ s.f2.toNat = q ∧ (stepL n c t l).getD (p * n + q) 0 = s.f3) ∨ ((∀ s ∈ t,s.f1.toList = c → s.f0.toNat = p → s.f2.toNat = q → False) ∧ (stepL n c t l).getD (p * n + q) 0 = l.getD (p * n + q) 0)
 | [],l,_,_ => .inr ⟨fun s hs => (by cases hs),rfl⟩
 | s :: t,l,hl,ht => by
  have hlt : p * n + q < n * n:=by
   have : (p + 1) * n ≤ n * n:=Nat.mul_le_mul_right n hp
   rw [Nat.succ_mul] at this;omega
  have e : stepL n c (s :: t) l = stepL n c t (if s.f1.toList = c then l.set (s.f0 * (n : Int) + s.f2).toNat s.f3 else l):=rfl
  rw [e]
  have hl' : (if s.f1.toList = c then l.set (s.f0 * (n : Int) + s.f2).toNat s.f3 else l).length = n * n:=by by_cases h : s.f1.toList = c <;> simp [h,hl]
  rcases stepL_get n c p q hp hq t _ hl' (fun y hy => ht y (List.mem_cons_of_mem _ hy)) with ⟨y,hy,h⟩ | ⟨h1,h2⟩
  ·exact .inl ⟨y,List.mem_cons_of_mem _ hy,h⟩
  ·rw [h2]
   have os:=of_decide_eq_true (show decide _ = true from ht s (List.mem_cons_self ..))
   have e1 : (s.f0 * (n : Int) + s.f2).toNat = s.f0.toNat * n + s.f2.toNat:=by
    obtain ⟨m0,f0⟩ : ∃ m : Nat,s.f0 = (m : Int):=⟨s.f0.toNat,by omega⟩
    obtain ⟨m2,f2⟩ : ∃ m : Nat,s.f2 = (m : Int):=⟨s.f2.toNat,by omega⟩
    rw [f0,f2]
    have : ((m0 : Int) * (n : Int) + (m2 : Int)) = ((m0 * n + m2 : Nat) : Int):=by push_cast;rfl
    rw [this]
    simp only [Int.toNat_natCast]
   by_cases hc : s.f1.toList = c
   ·rw [if_pos hc,getD_set' _ _ _ _ (by omega),e1]
    by_cases k : s.f0.toNat = p ∧ s.f2.toNat = q
    ·obtain ⟨k1,k2⟩:=k
     exact .inl ⟨s,List.mem_cons_self ..,hc,k1,k2,by rw [k1,k2,if_pos rfl]⟩
    ·have hne : ¬ s.f0.toNat * n + s.f2.toNat = p * n + q:=by
      intro hh
      have hq2 : s.f2.toNat < n:=by omega
      have d1 : (s.f0.toNat * n + s.f2.toNat) / n = s.f0.toNat:=by rw [Nat.mul_comm,Nat.mul_add_div (by omega),Nat.div_eq_of_lt hq2];rfl
      have d2 : (p * n + q) / n = p:=by rw [Nat.mul_comm,Nat.mul_add_div (by omega),Nat.div_eq_of_lt hq];rfl
      have e0 : s.f0.toNat = p:=by rw [← d1,hh,d2]
      exact k ⟨e0,by rw [e0] at hh;omega⟩
     rw [if_neg hne]
     refine .inr ⟨fun y hy a b d => ?_,rfl⟩
     rcases List.mem_cons.mp hy with rfl|hy
     ·exact k ⟨b,d⟩
     ·exact h1 y hy a b d
   ·rw [if_neg hc]
    refine .inr ⟨fun y hy a b d => ?_,rfl⟩
    rcases List.mem_cons.mp hy with rfl|hy
    ·exact hc a
    ·exact h1 y hy a b d
theorem col_step (n : Nat) (h4 : n ≤ 4) (t : List Stp) (hs : stp (n : Int) none t = true) (c : UInt8) (v : List Int) (hv : ∀ l,l < n → 0 ≤ v.getD l 0) : mvL n (letL n t c) v = endL [c] t v (List.replicate n 1000000):=by
 have ht:=stp_mem hs
 have lenE : (endL [c] t v (List.replicate n 1000000)).length = n:=by rw [endL_len,List.length_replicate]
 have lenM : (mvL n (letL n t c) v).length = n:=by simp [mvL]
 apply List.ext_getElem (by rw [lenE,lenM])
 intro p hp1 hp2
 have hp : p < n:=by omega
 have key : (mvL n (letL n t c) v).getD p 0 = (endL [c] t v (List.replicate n 1000000)).getD p 0:=by
  rw [mvL_get n _ v p hp]
  refine eq_le' fun x => ?_
  rw [le_mvE,le_endL [c] v x p t _ (by rw [List.length_replicate];exact hp)]
  have e0 : (List.replicate n (1000000 : Int)).getD p 0 = 1000000:=by simp [List.getD_eq_getElem?_getD,hp]
  rw [e0]
  have hcst : (cst n).length = n * n:=by unfold cst;rw [List.length_replicate]
  constructor
  ·rintro ⟨h1,h2⟩
   refine ⟨h1,fun s hs' hc hf => ?_⟩
   have os:=of_decide_eq_true (show decide _ = true from ht s hs')
   have hq : s.f2.toNat < n:=by omega
   have h3:=h2 s.f2.toNat hq
   have : (letL n t c).getD (p * n + s.f2.toNat) 0 = s.f3:=by
    rcases stepL_get n [c] p s.f2.toNat hp hq t (cst n) hcst ht with ⟨y,hy,a,b,d,e⟩ | ⟨hn,_⟩
    ·have oy:=of_decide_eq_true (show decide _ = true from ht y hy)
     have : y = s:=stp_uniq (by omega) hs y hy s hs' (by unfold num;rw [a,hc,show y.f0 = s.f0 from (by omega),show y.f2 = s.f2 from (by omega)])
     unfold letL
     rw [e,this]
    ·exact (hn s hs' hc hf rfl).elim
   rw [this] at h3
   exact h3
  ·rintro ⟨h1,h2⟩
   refine ⟨h1,fun q hq => ?_⟩
   have v0:=hv q hq
   rcases stepL_get n [c] p q hp hq t (cst n) hcst ht with ⟨y,hy,a,b,d,e⟩ | ⟨_,e⟩
   ·unfold letL
    rw [e,← d]
    exact h2 y hy a b
   ·unfold letL
    rw [e]
    have hlt : p * n + q < n * n:=by
     have : (p + 1) * n ≤ n * n:=Nat.mul_le_mul_right n hp
     rw [Nat.succ_mul] at this;omega
    have : (cst n).getD (p * n + q) 0 = 1000000:=by unfold cst;simp [List.getD_eq_getElem?_getD,hlt]
    rw [this];omega
 simpa [List.getD_eq_getElem?_getD,hp1,hp2] using key
def finL (n : Nat) (f : List Int) : List Int:=f.foldl (fun (v : List Int) (q : Int) => v.set q.toNat 0) (List.replicate n 1000000)
theorem fin_get (l : Nat) : ∀ (f : List Int) (v : List Int),l < v.length → (f.foldl (fun (v : List Int) (q : Int) => v.set q.toNat 0) v).length = v.length ∧ (((∃ q ∈ f,q.toNat = l) ∧ (f.foldl (fun (v : List Int) (q : Int) => v.set q.toNat 0) v).getD l 0 = 0) ∨ ((∀ q ∈ f,q.toNat = l → False) ∧ (f.foldl (fun (v : List Int) (q : Int) => v.set q.toNat 0) v).getD l 0 = v.getD l 0) ∨ ((∃ q ∈ f,q.toNat = l) ∧ False))
 | [],v,_ => ⟨rfl,.inr (.inl ⟨fun q hq => (by cases hq),rfl⟩)⟩
 | q :: f,v,hl => by
  have ih:=fin_get l f (v.set q.toNat 0) (by rw [List.length_set];exact hl)
  rw [List.foldl_cons]
  refine ⟨by rw [ih.1,List.length_set],?_⟩
  rcases ih.2 with ⟨⟨y,hy,e⟩,h⟩ | ⟨h1,h2⟩ | ⟨_,h⟩
  ·exact .inl ⟨⟨y,List.mem_cons_of_mem _ hy,e⟩,h⟩
  ·by_cases e : q.toNat = l
   ·refine .inl ⟨⟨q,List.mem_cons_self ..,e⟩,?_⟩
    rw [h2,getD_set' _ _ _ _ hl,if_pos e]
   ·refine .inr (.inl ⟨fun y hy e' => ?_,?_⟩)
    ·rcases List.mem_cons.mp hy with ey|hy
     ·rw [ey] at e';exact e e'
     ·exact h1 y hy e'
    ·rw [h2,getD_set' _ _ _ _ hl,if_neg e]
  ·exact h.elim
theorem finL_len (n : Nat) (f : List Int) (h : 1 ≤ n) : (finL n f).length = n:=by
 have:=(fin_get 0 f (List.replicate n 1000000) (by rw [List.length_replicate];omega)).1
 rw [List.length_replicate] at this;exact this
theorem finL_get (n : Nat) (f : List Int) (l : Nat) (hl : l < n) : ((∃ q ∈ f,q.toNat = l) ∧ (finL n f).getD l 0 = 0) ∨ ((∀ q ∈ f,q.toNat = l → False) ∧ (finL n f).getD l 0 = 1000000):=by
 rcases (fin_get l f (List.replicate n 1000000) (by rw [List.length_replicate];exact hl)).2 with h | ⟨h1,h2⟩ | ⟨_,h⟩
 ·exact .inl h
 ·refine .inr ⟨h1,?_⟩
  show (f.foldl (fun (v : List Int) (q : Int) => v.set q.toNat 0) (List.replicate n 1000000)).getD l 0 = _
  rw [h2];simp [List.getD_eq_getElem?_getD,hl]
 ·exact h.elim
theorem finL_in (n : Nat) (f : List Int) (l : Nat) (hl : l < n) : 0 ≤ (finL n f).getD l 0 ∧ (finL n f).getD l 0 ≤ 1000000:=by
 rcases finL_get n f l hl with ⟨_,h⟩ | ⟨_,h⟩ <;> rw [h] <;> omega
def leastL (n : Nat) (s f d : List Int) : Int:=s.foldl (fun acc p => f.foldl (fun acc q => mn acc (d.getD (p.toNat * n + q.toNat) 0)) acc) 1000000
def costL (s v : List Int) : Int:=s.foldl (fun acc p => mn acc (v.getD p.toNat 0)) 1000000
theorem le_foldI (g : Int → Int) (x : Int) : ∀ (ls : List Int) (acc : Int),x ≤ ls.foldl (fun a l => mn a (g l)) acc ↔ x ≤ acc ∧ ∀ l ∈ ls,x ≤ g l
 | [],acc => by simp
 | l :: ls,acc => by
  rw [List.foldl_cons,le_foldI g x ls,le_mn]
  constructor
  ·rintro ⟨⟨h1,h2⟩,h3⟩
   exact ⟨h1,fun y hy => by rcases List.mem_cons.1 hy with rfl|h;exact h2;exact h3 y h⟩
  ·rintro ⟨h1,h2⟩
   exact ⟨⟨h1,h2 l (List.mem_cons_self ..)⟩,fun y hy => h2 y (List.mem_cons_of_mem _ hy)⟩
theorem le_foldI2 (f : List Int) (g : Int → Int → Int) (x : Int) : ∀ (ls : List Int) (acc : Int),x ≤ ls.foldl (fun a l => f.foldl (fun a q => mn a (g l q)) a) acc ↔ x ≤ acc ∧ ∀ l ∈ ls,∀ q ∈ f,x ≤ g l q
 | [],acc => by simp
 | l :: ls,acc => by
  rw [List.foldl_cons,le_foldI2 f g x ls,le_foldI]
  constructor
  ·rintro ⟨⟨h1,h2⟩,h3⟩
   exact ⟨h1,fun y hy => by rcases List.mem_cons.1 hy with rfl|h;exact h2;exact h3 y h⟩
  ·rintro ⟨h1,h2⟩
   exact ⟨⟨h1,h2 l (List.mem_cons_self ..)⟩,fun y hy => h2 y (List.mem_cons_of_mem _ hy)⟩
theorem least_cost (n : Nat) (s f d : List Int) (hs : ∀ p ∈ s,p.toNat < n) (hf : ∀ q ∈ f,q.toNat < n) (hd : MV (n : Int) d) : leastL n s f d = costL s (mvL n d (finL n f)):=by
 refine eq_le' fun x => ?_
 unfold leastL costL
 rw [le_foldI2 f (fun p q => d.getD (p.toNat * n + q.toNat) 0),le_foldI (fun p => (mvL n d (finL n f)).getD p.toNat 0)]
 constructor
 ·rintro ⟨h1,h2⟩
  refine ⟨h1,fun p hp => ?_⟩
  show x ≤ (mvL n d (finL n f)).getD p.toNat 0
  rw [mvL_get n d _ _ (hs p hp),le_mvE]
  refine ⟨h1,fun l hl => ?_⟩
  have d0:=MV_at hd p.toNat l (hs p hp) hl
  rcases finL_get n f l hl with ⟨⟨q,hq,e⟩,h⟩ | ⟨_,h⟩
  ·have h3:=h2 p hp q hq
   simp only [e] at h3
   rw [h];omega
  ·rw [h];omega
 ·rintro ⟨h1,h2⟩
  refine ⟨h1,fun p hp q hq => ?_⟩
  have h3:=h2 p hp
  have h3 : x ≤ (mvL n d (finL n f)).getD p.toNat 0:=h3
  rw [mvL_get n d _ _ (hs p hp),le_mvE] at h3
  have h4:=h3.2 q.toNat (hf q hq)
  rcases finL_get n f q.toNat (hf q hq) with ⟨_,h⟩ | ⟨hn,_⟩
  ·rw [h] at h4;simpa using h4
  ·exact (hn q hq rfl).elim
theorem col_full (n : Nat) (h1 : 1 ≤ n) (h4 : n ≤ 4) (t : List Stp) (ht : ∀ y ∈ t,stepOk n y = true) (f : List Int) : ∀ (w : List UInt8),(colL n t w (finL n f)).length = n ∧ ∀ l,l < n → 0 ≤ (colL n t w (finL n f)).getD l 0 ∧ (colL n t w (finL n f)).getD l 0 ≤ 1000000
 | [] => ⟨finL_len n f h1,fun l hl => finL_in n f l hl⟩
 | c :: w => ⟨by simp [colL,mvL],fun l hl => mvL_in (letL_MV n h1 h4 t ht c) (fun l hl => ((col_full n h1 h4 t ht f w).2 l hl).1) l hl⟩
theorem cost_word (n : Nat) (h1 : 1 ≤ n) (h4 : n ≤ 4) (s f : List Int) (t : List Stp) (ht : ∀ y ∈ t,stepOk n y = true) (hs : ∀ p ∈ s,p.toNat < n) (hf : ∀ q ∈ f,q.toNat < n) (hu : MV (n : Int) (sqL n unitE)) (w : List UInt8) : leastL n s f (wordL n t w (sqL n unitE)) = costL s (colL n t w (finL n f)):=by
 rw [least_cost n s f _ hs hf (wordL_MV n h1 h4 t ht w _ hu),word_col n h1 h4 t ht _ (fun l hl => (finL_in n f l hl).1) w _ hu,unit_col n _ (col_full n h1 h4 t ht f w).1 (col_full n h1 h4 t ht f w).2]
end Go.Proofs.Ytoeeeafknajkkaa.V
end
section
set_option linter.unusedVariables false
set_option linter.unusedSimpArgs false
namespace Go.Proofs.Ytoeeeafknajkkaa.V
open Go Go.Proofs.Ytoeeeafknajkkaa.R Go.RowKit
open Go.Proofs.YtoeeeafknajkkaaW.PrintWords hiding mn mx
theorem wnat {i : Nat} (h : i < 1000000000000) : wrap64 ((i : Int) + 1) = ((i + 1 : Nat) : Int):=by rw [w64 (by omega) (by omega)];rfl
theorem xor_nat (a b : Nat) (ha : a < 4611686018427387904) (hb : b < 4611686018427387904) : xorK .i64 (a : Int) (b : Int) = ((a ^^^ b : Nat) : Int):=by
 have hx : a ^^^ b < 2 ^ 62:=Nat.xor_lt_two_pow (by omega) (by omega)
 have h1 : (BitVec.ofInt 64 (a : Int)).toNat = a:=by
  rw [BitVec.ofInt_natCast,BitVec.toNat_ofNat];exact Nat.mod_eq_of_lt (by omega)
 have h2 : (BitVec.ofInt 64 (b : Int)).toNat = b:=by
  rw [BitVec.ofInt_natCast,BitVec.toNat_ofNat];exact Nat.mod_eq_of_lt (by omega)
 show IntKind.i64.wrap ((BitVec.ofInt 64 (a : Int) ^^^ BitVec.ofInt 64 (b : Int)).toNat : Int) = _
 rw [BitVec.toNat_xor,h1,h2]
 simp [IntKind.wrap,IntKind.bits,IntKind.signed]
 omega
def Bytes (l : List Int) : Prop := ∀ x ∈ l,0 ≤ x ∧ x ≤ 255
theorem bytes_of {l : List Int} (h : ∀ x ∈ l,(Lit.int .u8 x).wf = true) : Bytes l:=by
 intro x hx
 have:=h x hx
 have hmin : IntKind.u8.min = 0:=rfl
 have hmax : IntKind.u8.max = 255:=rfl
 simp only [Lit.wf,Bool.and_eq_true,decide_eq_true_eq] at this
 omega
theorem rd_byte {l : List Int} (h : Bytes l) (i : Int) : ∃ b : Nat,rdI l i = (b : Int) ∧ b ≤ 255:=by
 have : 0 ≤ rdI l i ∧ rdI l i ≤ 255:=by
  unfold rdI
  rw [List.getD_eq_getElem?_getD]
  by_cases hj : i.toNat < l.length
  ·rw [List.getElem?_eq_getElem hj];exact h _ (List.getElem_mem hj)
  ·rw [List.getElem?_eq_none (by omega)];simp
 exact ⟨(rdI l i).toNat,by omega,by omega⟩
theorem mixed (b c s q : Nat) (hb : b ≤ 255) (hc : c ≤ 255) (hs : s ≤ 1000000) (hq : q ≤ 1000000) :
  wrap64 ((wrap64 ((wrap64 ((wrap64 ((wrap64 (b : Int)) * 131)) + (wrap64 ((wrap64 (c : Int)) * 1117)))) + (wrap64 ((s : Int) * 29)))) + (wrap64 ((wrap64 (q : Int)) * 53))) = ((b * 131 + c * 1117 + s * 29 + q * 53 : Nat) : Int):=by
 rw [w64 (x:=(b : Int)) (by omega) (by omega),w64 (x:=(c : Int)) (by omega) (by omega),w64 (x:=(q : Int)) (by omega) (by omega),w64 (x:=(b : Int) * 131) (by omega) (by omega),w64 (x:=(c : Int) * 1117) (by omega) (by omega),w64 (x:=(s : Int) * 29) (by omega) (by omega),w64 (x:=(q : Int) * 53) (by omega) (by omega),
  w64 (x:=(b : Int) * 131 + (c : Int) * 1117) (by omega) (by omega),w64 (x:=(b : Int) * 131 + (c : Int) * 1117 + (s : Int) * 29) (by omega) (by omega),w64 (x:=(b : Int) * 131 + (c : Int) * 1117 + (s : Int) * 29 + (q : Int) * 53) (by omega) (by omega)]
 omega
theorem second (s : Nat) (hs : s ≤ 1000000) : wrap64 ((wrap64 ((s : Int) * 7)) + 3) = ((s * 7 + 3 : Nat) : Int):=by
 rw [w64 (x:=(s : Int) * 7) (by omega) (by omega),w64 (x:=(s : Int) * 7 + 3) (by omega) (by omega)];omega
theorem at_up (s : Nat) (hs : s ≤ 1000000) : wrap64 ((s : Int) + 1) = ((s + 1 : Nat) : Int):=by rw [w64 (x:=(s : Int) + 1) (by omega) (by omega)];omega
theorem at_down (s : Nat) (hs : s ≤ 1000000) : wrap64 (((s + 1 : Nat) : Int) - 1) = (s : Int):=by rw [w64 (x:=((s + 1 : Nat) : Int) - 1) (by omega) (by omega)];omega
theorem at_64 (m : Nat) (hm : m ≤ 100000000) : wrap64 (Int.tdiv (m : Int) 64) = ((m / 64 : Nat) : Int):=by
 have hmq : m / 64 ≤ 100000000:=Nat.le_trans (Nat.div_le_self _ _) hm
 have : (64 : Int) = ((64 : Nat) : Int):=rfl
 rw [this,tdiv_nat,w64 (x:=((m / 64 : Nat) : Int)) (by omega) (by omega)]
theorem pick_r (l : List Int) (hl : l.length ≤ 2000) (hb : Bytes l) (s n : Nat) (hs : s ≤ 1000000) (h1 : 1 ≤ n) (hn : n ≤ 1000000) :
  ∃ v : Nat,v < n ∧ spec_l13Rd_pick.f (n : Int) l (s : Int) = some ((v : Int),l,((s + 1 : Nat) : Int)):=by
 have hn0 : ¬ (n : Int) < 1:=by omega
 have hnz : ¬ (n : Int) = 0:=by omega
 obtain ⟨L,hL⟩ : ∃ L,l.length = L:=⟨_,rfl⟩
 unfold spec_l13Rd_pick.f
 rw [if_neg hn0,at_up s hs,at_down s hs,hL]
 by_cases h0 : (L : Int) = 0
 ·exact ⟨0,by omega,by rw [if_pos h0];rfl⟩
 rw [if_neg h0]
 have hL1 : 1 ≤ L:=by omega
 by_cases hlt : s < L
 ·obtain ⟨b,hb1,hb2⟩:=rd_byte hb (s : Int)
  refine ⟨b % n,Nat.mod_lt _ (by omega),?_⟩
  rw [if_pos (by omega),if_pos (by omega),if_neg hnz,hb1,w64 (x:=(b : Int)) (by omega) (by omega),tmod_nat]
 ·obtain ⟨b,hb1,hb2⟩:=rd_byte hb ((s % L : Nat) : Int)
  obtain ⟨c,hc1,hc2⟩:=rd_byte hb (((s * 7 + 3) % L : Nat) : Int)
  have hq : s / L ≤ 1000000:=Nat.le_trans (Nat.div_le_self _ _) hs
  obtain ⟨q,hqe⟩ : ∃ q,s / L = q:=⟨_,rfl⟩
  rw [hqe] at hq
  obtain ⟨m,hm⟩ : ∃ m : Nat,b * 131 + c * 1117 + s * 29 + q * 53 = m:=⟨_,rfl⟩
  have hmb : m ≤ 100000000:=by omega
  have hmq : m / 64 ≤ 100000000:=Nat.le_trans (Nat.div_le_self _ _) hmb
  have m1 : s % L < L:=Nat.mod_lt _ (by omega)
  have m2 : (s * 7 + 3) % L < L:=Nat.mod_lt _ (by omega)
  have x1 : m < 4611686018427387904:=by omega
  have x2 : m / 64 < 4611686018427387904:=by omega
  have y1 : ¬ (s : Int) < (L : Int):=by omega
  have y2 : ((s % L : Nat) : Int) < (L : Int):=by omega
  have y3 : (((s * 7 + 3) % L : Nat) : Int) < (L : Int):=by omega
  refine ⟨(m ^^^ (m / 64)) % n,Nat.mod_lt _ (by omega),?_⟩
  rw [if_neg y1,tmod_nat,if_pos (Int.natCast_nonneg _),if_pos y2,second s hs,tmod_nat,if_pos (Int.natCast_nonneg _),if_pos y3,if_neg hnz,hb1,hc1,tdiv_nat,hqe,mixed b c s q hb2 hc2 hs hq,hm,at_64 m hmb,xor_nat m (m / 64) x1 x2,tmod_nat]
theorem of_r (l : List Int) (hl : l.length ≤ 2000) (hb : Bytes l) (s : Nat) (hs : s ≤ 1000000) (z : List ByteArray) (h1 : 1 ≤ z.length) (hn : z.length ≤ 1000000) :
  ∃ x ∈ z,spec_l13Rd_of.f z l (s : Int) = some (x,l,((s + 1 : Nat) : Int)):=by
 obtain ⟨v,hv,h⟩:=pick_r l hl hb s z.length hs h1 hn
 refine ⟨z[v],List.getElem_mem hv,?_⟩
 unfold spec_l13Rd_of.f
 rw [h,Option.bind_some]
 show (if (0 : Int) ≤ (v : Int) then (if (v : Int) < (z.length : Int) then some (rdS z (v : Int),l,((s + 1 : Nat) : Int)) else none) else none) = _
 rw [if_pos (by omega),if_pos (by omega)]
 simp [rdS,List.getD_eq_getElem?_getD,hv]
theorem num_r (l : List Int) (hl : l.length ≤ 2000) (hb : Bytes l) (s : Nat) (hs : s ≤ 1000000) (z : List Int) (h1 : 1 ≤ z.length) (hn : z.length ≤ 1000000) :
  ∃ x ∈ z,spec_l13Rd_num.f z l (s : Int) = some (x,l,((s + 1 : Nat) : Int)):=by
 obtain ⟨v,hv,h⟩:=pick_r l hl hb s z.length hs h1 hn
 refine ⟨z[v],List.getElem_mem hv,?_⟩
 unfold spec_l13Rd_num.f
 rw [h,Option.bind_some]
 show (if (0 : Int) ≤ (v : Int) then (if (v : Int) < (z.length : Int) then some (rdI z (v : Int),l,((s + 1 : Nat) : Int)) else none) else none) = _
 rw [if_pos (by omega),if_pos (by omega)]
 simp [rdI,List.getD_eq_getElem?_getD,hv]
theorem bnd {α β γ : Type} {o : Option γ} {z : γ} {g : Nat → γ → Option α} {r : α} (h : o = some z) (k : Ev (fun n => g n z) r) : Ev (fun n => o.bind (g n)) r:=Ev.congr (fun n => by rw [h];rfl) k
theorem some_r (l : List Int) (hl : l.length ≤ 2000) (hb : Bytes l) (n : Nat) (hn : n ≤ 100) (s : Nat) (hs : s ≤ 900000) : ∃ r : List Int,r.length ≤ n ∧ Ev (fun k => spec_l3Some.f k (n : Int) l (s : Int)) (r,l,((s + n : Nat) : Int)):=by
 have go : ∀ (d i s : Nat) (acc : List Int),i + d = n → acc.length ≤ i → s ≤ 900000 + i → ∃ r : List Int,r.length ≤ n ∧ Ev (fun k => spec_l3Some.l0 k acc (n : Int) (i : Int) l (s : Int)) (r,l,((s + d : Nat) : Int)):=by
  intro d
  induction d with
  | zero =>
   intro i s acc hi ha hs
   refine ⟨acc,by omega,?_⟩
   refine Ev.step (f:=fun _ => some (acc,l,(s : Int))) (fun k => ?_) ((Ev.now _).is (by simp))
   simp only [spec_l3Some.l0];rw [if_neg (by omega)]
  | succ d ih =>
   intro i s acc hi ha hs
   obtain ⟨v,_,hv⟩:=pick_r l hl hb s 2 (by omega) (by omega) (by omega)
   have hv : spec_l13Rd_pick.f 2 l (s : Int) = some ((v : Int),l,((s + 1 : Nat) : Int)):=hv
   have wn : wrap64 ((i : Int) + 1) = ((i + 1 : Nat) : Int):=wnat (by omega)
   have a0 : (i : Int) < (n : Int):=by clear wn;omega
   have b0 : acc.length < 17592186044416:=by clear wn;omega
   have es : s + (d + 1) = s + 1 + d:=by omega
   rw [es]
   by_cases q : (v : Int) = 0
   ·obtain ⟨r,r0,r1⟩:=ih (i + 1) (s + 1) (acc ++ [(i : Int)]) (by omega) (by simp;omega) (by omega)
    refine ⟨r,r0,Ev.step (fun k => ?_) r1⟩
    simp only [spec_l3Some.l0]
    rw [if_pos a0,hv,Option.bind_some,if_pos q,if_pos b0,wn]
   ·obtain ⟨r,r0,r1⟩:=ih (i + 1) (s + 1) acc (by omega) (by omega) (by omega)
    refine ⟨r,r0,Ev.step (fun k => ?_) r1⟩
    simp only [spec_l3Some.l0]
    rw [if_pos a0,hv,Option.bind_some,if_neg q,wn]
 unfold spec_l3Some.f
 exact go n 0 s [] (by omega) (Nat.le_refl _) (by omega)
theorem before_r (a0 : Int) (a1 : ByteArray) (a2 a3 b0 : Int) (b1 : ByteArray) (b2 b3 : Int) : ∃ b,spec_l3Before.f a0 a1 a2 a3 b0 b1 b2 b3 = some b:=by
 unfold spec_l3Before.f
 by_cases h : a0 = b0
 ·rw [if_pos h]
  by_cases h2 : a1.toList = b1.toList
  ·rw [if_pos h2];exact ⟨_,rfl⟩
  ·rw [if_neg h2];exact ⟨_,rfl⟩
 ·rw [if_neg h];exact ⟨_,rfl⟩
theorem put_r (x : List Stp) (hx : x.length ≤ 1000) (a : Int) (b : ByteArray) (c d : Int) : ∃ r : List Stp,r.length ≤ x.length + 1 ∧ Ev (fun k => spec_l3Put.f k x a b c d) r:=by
 have ins : ∀ i : Nat,i ≤ x.length → ∃ r : List Stp,r.length ≤ x.length + 1 ∧ (if (i : Int) ≤ (x.length : Int) then (if ([] : List Stp).length + ((x.drop 0).take ((i : Int).toNat - 0)).length ≤ 3518437208883 then (if (([] : List Stp) ++ ((x.drop 0).take ((i : Int).toNat - 0))).length < 3518437208883 then (if (x.length : Int) ≤ (x.length : Int) then (if ((([] : List Stp) ++ ((x.drop 0).take ((i : Int).toNat - 0))) ++ [(⟨a,b,c,d⟩ : Stp)]).length + ((x.drop (i : Int).toNat).take (x.length - (i : Int).toNat)).length ≤ 3518437208883 then (some (((([] : List Stp) ++ ((x.drop 0).take ((i : Int).toNat - 0))) ++ [(⟨a,b,c,d⟩ : Stp)]) ++ ((x.drop (i : Int).toNat).take (x.length - (i : Int).toNat)))) else none) else none) else none) else none) else none) = some r:=fun i hi => by
  have l1 : ((x.drop 0).take ((i : Int).toNat - 0)).length = i:=by rw [Int.toNat_natCast,List.drop_zero,List.length_take];omega
  have l2 : ((x.drop (i : Int).toNat).take (x.length - (i : Int).toNat)).length = x.length - i:=by rw [Int.toNat_natCast,List.length_take,List.length_drop];omega
  refine ⟨_,?_,by rw [if_pos (by omega),if_pos (by rw [l1];simp only [List.length_nil];omega),if_pos (by rw [List.length_append,l1];simp only [List.length_nil];omega),if_pos (Int.le_refl _),if_pos (by rw [List.length_append,List.length_append,l1,l2];simp only [List.length_nil,List.length_cons];omega)]⟩
  rw [List.length_append,List.length_append,List.length_append,l1,l2];simp only [List.length_nil,List.length_cons];omega
 have go : ∀ (m i : Nat),i + m = x.length → ∃ r : List Stp,r.length ≤ x.length + 1 ∧ Ev (fun k => spec_l3Put.l0 k x (i : Int) a b c d) r:=by
  intro m
  induction m with
  | zero =>
   intro i hi
   obtain ⟨r,r0,r1⟩:=ins i (by omega)
   refine ⟨r,r0,Ev.step (f:=fun _ => some r) (fun k => ?_) (Ev.now _)⟩
   simp only [spec_l3Put.l0]
   rw [if_neg (by omega),if_pos (Int.natCast_nonneg _)];exact r1
  | succ m ih =>
   intro i hi
   obtain ⟨t1,h1⟩:=before_r (rdT x (i : Int)).f0 (rdT x (i : Int)).f1 (rdT x (i : Int)).f2 (rdT x (i : Int)).f3 a b c d
   obtain ⟨t2,h2⟩:=before_r a b c d (rdT x (i : Int)).f0 (rdT x (i : Int)).f1 (rdT x (i : Int)).f2 (rdT x (i : Int)).f3
   have wn : wrap64 ((i : Int) + 1) = ((i + 1 : Nat) : Int):=wnat (by omega)
   have a0 : (i : Int) < (x.length : Int):=by clear wn;omega
   cases t1 with
   | true =>
    obtain ⟨r,r0,r1⟩:=ih (i + 1) (by omega)
    refine ⟨r,r0,Ev.step (fun k => ?_) r1⟩
    simp only [spec_l3Put.l0]
    rw [if_pos a0,if_pos (Int.natCast_nonneg _),h1,Option.bind_some,if_pos rfl,wn]
   | false =>
    cases t2 with
    | true =>
     obtain ⟨r,r0,r1⟩:=ins i (by omega)
     refine ⟨r,r0,Ev.step (f:=fun _ => some r) (fun k => ?_) (Ev.now _)⟩
     simp only [spec_l3Put.l0]
     rw [if_pos a0,if_pos (Int.natCast_nonneg _),h1,Option.bind_some,if_neg (by simp),h2,Option.bind_some,if_pos rfl];exact r1
    | false =>
     refine ⟨(([] : List Stp) ++ x).set (i : Int).toNat (⟨(rdT (([] : List Stp) ++ x) (i : Int)).f0,(rdT (([] : List Stp) ++ x) (i : Int)).f1,(rdT (([] : List Stp) ++ x) (i : Int)).f2,(mn (rdT (([] : List Stp) ++ x) (i : Int)).f3 d)⟩ : Stp),by simp,Ev.step (f:=fun _ => some _) (fun k => ?_) (Ev.now _)⟩
     simp only [spec_l3Put.l0]
     rw [if_pos a0,if_pos (Int.natCast_nonneg _),h1,Option.bind_some,if_neg (by simp),h2,Option.bind_some,if_neg (by simp),if_pos (by simp only [List.length_nil];omega),if_pos (by rw [List.nil_append];exact a0)]
 unfold spec_l3Put.f
 exact go x.length 0 (by omega)
theorem known0 : ∀ k,spec_l3Known.f (k + 300) 0 = some (1,[0],[0],[⟨0,⟨#[97]⟩,0,1⟩,⟨0,⟨#[98]⟩,0,0⟩]):=by
 intro k
 kernel_rfl
theorem known1 : ∀ k,spec_l3Known.f (k + 300) 1 = some (2,[0],[1],[⟨0,⟨#[97]⟩,0,0⟩,⟨0,⟨#[97]⟩,1,1⟩,⟨1,⟨#[98]⟩,1,0⟩]):=by
 intro k
 kernel_rfl
theorem known2 : ∀ k,spec_l3Known.f (k + 300) 2 = some (2,[0,1],[0,1],[⟨0,⟨#[97]⟩,0,1⟩,⟨0,⟨#[98]⟩,0,0⟩,⟨1,⟨#[97]⟩,1,0⟩,⟨1,⟨#[98]⟩,1,1⟩]):=by
 intro k
 kernel_rfl
theorem known3 : ∀ k,spec_l3Known.f (k + 300) 3 = some (3,[0],[0,2],[⟨0,⟨#[97]⟩,0,0⟩,⟨0,⟨#[97]⟩,1,0⟩,⟨0,⟨#[98]⟩,0,1⟩,⟨1,⟨#[97]⟩,1,1⟩,⟨1,⟨#[98]⟩,2,0⟩,⟨2,⟨#[97]⟩,2,0⟩,⟨2,⟨#[98]⟩,2,0⟩]):=by
 intro k
 kernel_rfl
theorem known4 : ∀ k,spec_l3Known.f (k + 300) 4 = some (2,[0],[0],[⟨0,⟨#[97]⟩,1,1⟩,⟨1,⟨#[98]⟩,0,0⟩]):=by
 intro k
 kernel_rfl
theorem known5 : ∀ k,spec_l3Known.f (k + 300) 5 = some (3,[0],[2],[⟨0,⟨#[97]⟩,0,0⟩,⟨0,⟨#[98]⟩,0,0⟩,⟨0,⟨#[98]⟩,1,0⟩,⟨1,⟨#[97]⟩,1,1⟩,⟨1,⟨#[98]⟩,2,0⟩,⟨2,⟨#[97]⟩,2,0⟩,⟨2,⟨#[98]⟩,2,0⟩]):=by
 intro k
 kernel_rfl
theorem known6 : ∀ k,spec_l3Known.f (k + 300) 6 = some (1,[0],[0],[⟨0,⟨#[97]⟩,0,0⟩]):=by
 intro k
 kernel_rfl
theorem known7 : ∀ k,spec_l3Known.f (k + 300) 7 = some (2,[0],[0,1],[⟨0,⟨#[97]⟩,0,0⟩,⟨0,⟨#[98]⟩,1,1⟩,⟨1,⟨#[97]⟩,0,0⟩,⟨1,⟨#[98]⟩,1,0⟩]):=by
 intro k
 kernel_rfl
theorem known8 : ∀ k,spec_l3Known.f (k + 300) 8 = some (2,[0],[1],[⟨0,⟨#[97]⟩,1,2⟩,⟨1,⟨#[97]⟩,1,0⟩,⟨1,⟨#[98]⟩,0,1⟩]):=by
 intro k
 kernel_rfl
def Small (r : Int × List Int × List Int × List Stp) : Prop:=r.2.1.length ≤ 100 ∧ r.2.2.1.length ≤ 100 ∧ r.2.2.2.length ≤ 100
theorem known_r (v : Nat) (hv : v < 9) : ∃ r,Small r ∧ Ev (fun k => spec_l3Known.f k (v : Int)) r:=by
 have ev : ∀ r,(∀ k,spec_l3Known.f (k + 300) (v : Int) = some r) → Ev (fun k => spec_l3Known.f k (v : Int)) r:=fun r h => ⟨300,fun k hk => by have:=h (k - 300);rwa [Nat.sub_add_cancel hk] at this⟩
 have : v = 0 ∨ v = 1 ∨ v = 2 ∨ v = 3 ∨ v = 4 ∨ v = 5 ∨ v = 6 ∨ v = 7 ∨ v = 8:=by omega
 rcases this with rfl|rfl|rfl|rfl|rfl|rfl|rfl|rfl|rfl
 ·exact ⟨_,⟨by decide,by decide,by decide⟩,ev _ known0⟩
 ·exact ⟨_,⟨by decide,by decide,by decide⟩,ev _ known1⟩
 ·exact ⟨_,⟨by decide,by decide,by decide⟩,ev _ known2⟩
 ·exact ⟨_,⟨by decide,by decide,by decide⟩,ev _ known3⟩
 ·exact ⟨_,⟨by decide,by decide,by decide⟩,ev _ known4⟩
 ·exact ⟨_,⟨by decide,by decide,by decide⟩,ev _ known5⟩
 ·exact ⟨_,⟨by decide,by decide,by decide⟩,ev _ known6⟩
 ·exact ⟨_,⟨by decide,by decide,by decide⟩,ev _ known7⟩
 ·exact ⟨_,⟨by decide,by decide,by decide⟩,ev _ known8⟩
theorem steps_r (l : List Int) (hl : l.length ≤ 2000) (hb : Bytes l) (n : Nat) (h1 : 1 ≤ n) (h4 : n ≤ 10) (st fi : List Int) (hs0 : st.length ≤ 100) (hf0 : fi.length ≤ 100) (c : Nat) (hc : c ≤ 60) : ∀ (d i s : Nat) (x : List Stp),i + d = c → x.length ≤ i → s ≤ 900000 + 4 * i →
  ∃ (r : Int × List Int × List Int × List Stp) (s' : Nat),Small r ∧ s' ≤ 900000 + 4 * c ∧ Ev (fun k => spec_l3Draw.l0 k (n : Int) (c : Int) (i : Int) l (s : Int) (n : Int) st fi x) (r.1,r.2.1,r.2.2.1,r.2.2.2,l,(s' : Int)):=by
 intro d
 induction d with
 | zero =>
  intro i s x hi hx hs
  refine ⟨((n : Int),st,fi,x),s,⟨hs0,hf0,by show x.length ≤ 100;omega⟩,by omega,?_⟩
  refine Ev.step (f:=fun _ => some ((n : Int),st,fi,x,l,(s : Int))) (fun k => ?_) (Ev.now _)
  simp only [spec_l3Draw.l0];rw [if_neg (by omega)]
 | succ d ih =>
  intro i s x hi hx hs
  obtain ⟨v1,_,p1⟩:=pick_r l hl hb s n (by omega) h1 (by omega)
  obtain ⟨v2,_,p2⟩:=of_r l hl hb (s + 1) (by omega) [(⟨#[97]⟩ : ByteArray),(⟨#[98]⟩ : ByteArray)] (by simp) (by simp)
  obtain ⟨v3,_,p3⟩:=pick_r l hl hb (s + 1 + 1) n (by omega) h1 (by omega)
  obtain ⟨v4,_,p4⟩:=num_r l hl hb (s + 1 + 1 + 1) (by omega) [0,1,0,1,2,0] (by simp) (by simp)
  obtain ⟨y,hy,py⟩:=put_r x (by omega) (v1 : Int) v2 (v3 : Int) v4
  obtain ⟨r,s',g1,g2,g3⟩:=ih (i + 1) (s + 1 + 1 + 1 + 1) y (by omega) (by omega) (by omega)
  have wn : wrap64 ((i : Int) + 1) = ((i + 1 : Nat) : Int):=wnat (by omega)
  have a0 : (i : Int) < (c : Int):=by clear wn;omega
  rw [← wn] at g3
  refine ⟨r,s',g1,g2,?_⟩
  refine Ev.step (f:=fun k => (spec_l3Put.f k x (v1 : Int) v2 (v3 : Int) v4).bind fun t16 => spec_l3Draw.l0 k (n : Int) (c : Int) (wrap64 ((i : Int) + 1)) l ((s + 1 + 1 + 1 + 1 : Nat) : Int) (n : Int) st fi t16) (fun k => ?_) (Ev.bind py g3)
  simp only [spec_l3Draw.l0]
  rw [if_pos a0,p1,Option.bind_some,p2,Option.bind_some,p3,Option.bind_some,p4,Option.bind_some]
theorem w1p (v : Nat) (h : v ≤ 1000000) : wrap64 (1 + (v : Int)) = ((v + 1 : Nat) : Int):=by rw [w64 (by omega) (by omega)];omega
theorem w2p (v : Nat) (h : v ≤ 1000000) : wrap64 (wrap64 (2 * ((v + 1 : Nat) : Int)) + 1) = ((2 * (v + 1) + 1 : Nat) : Int):=by rw [w64 (x:=2 * ((v + 1 : Nat) : Int)) (by omega) (by omega),w64 (by omega) (by omega)];omega
theorem draw_r (l : List Int) (hl : l.length ≤ 2000) (hb : Bytes l) (m : Nat) (h1 : 1 ≤ m) (h4 : m ≤ 4) (s : Nat) (hs : s ≤ 800000) :
  ∃ (r : Int × List Int × List Int × List Stp) (s' : Nat),Small r ∧ s' ≤ 901000 ∧ Ev (fun k => spec_l3Draw.f k (m : Int) l (s : Int)) (r.1,r.2.1,r.2.2.1,r.2.2.2,l,(s' : Int)):=by
 have rest : ∀ s : Nat,s ≤ 850000 → ∃ (r : Int × List Int × List Int × List Stp) (s' : Nat),Small r ∧ s' ≤ 901000 ∧ Ev (fun k => (spec_l13Rd_pick.f (m : Int) l (s : Int)).bind fun t8 => (spec_l3Some.f k (wrap64 (1 + t8.1)) t8.2.1 t8.2.2).bind fun t9 => (spec_l3Some.f k (wrap64 (1 + t8.1)) t9.2.1 t9.2.2).bind fun t10 => (spec_l13Rd_pick.f (wrap64 ((wrap64 (2 * (wrap64 (1 + t8.1)))) + 1)) t10.2.1 t10.2.2).bind fun t11 => spec_l3Draw.l0 k (wrap64 (1 + t8.1)) (wrap64 (1 + t11.1)) 0 t11.2.1 t11.2.2 (wrap64 (1 + t8.1)) t9.1 t10.1 ([] : List Stp)) (r.1,r.2.1,r.2.2.1,r.2.2.2,l,(s' : Int)):=fun s hs => by
  obtain ⟨v,hv,p1⟩:=pick_r l hl hb s m (by omega) h1 (by omega)
  obtain ⟨st,hst,p2⟩:=some_r l hl hb (v + 1) (by omega) (s + 1) (by omega)
  obtain ⟨fi,hfi,p3⟩:=some_r l hl hb (v + 1) (by omega) (s + 1 + (v + 1)) (by omega)
  obtain ⟨c,hc,p4⟩:=pick_r l hl hb (s + 1 + (v + 1) + (v + 1)) (2 * (v + 1) + 1) (by omega) (by omega) (by omega)
  obtain ⟨r,s',g1,g2,g3⟩:=steps_r l hl hb (v + 1) (by omega) (by omega) st fi (by omega) (by omega) (c + 1) (by omega) (c + 1) 0 (s + 1 + (v + 1) + (v + 1) + 1) [] (by omega) (Nat.le_refl _) (by omega)
  refine ⟨r,s',g1,by omega,?_⟩
  have e1:=w1p v (by omega)
  have e2:=w2p v
  have e3:=w1p c
  replace e2:=e2 (by clear e1 e2 e3;omega)
  replace e3:=e3 (by clear e1 e2 e3;omega)
  refine Ev.bind (ev_some (fun _ => p1)) ?_
  simp only [e1]
  refine Ev.bind p2 (Ev.bind p3 ?_)
  simp only [e2]
  refine Ev.bind (ev_some (fun _ => p4)) ?_
  simp only [e3]
  exact g3
 obtain ⟨v,hv,p1⟩:=pick_r l hl hb s 3 (by omega) (by omega) (by omega)
 have p1 : spec_l13Rd_pick.f 3 l (s : Int) = some ((v : Int),l,((s + 1 : Nat) : Int)):=p1
 by_cases q : (v : Int) = 0
 ·obtain ⟨u,hu,p2⟩:=pick_r l hl hb (s + 1) 9 (by omega) (by omega) (by omega)
  have p2 : spec_l13Rd_pick.f 9 l ((s + 1 : Nat) : Int) = some ((u : Int),l,((s + 1 + 1 : Nat) : Int)):=p2
  obtain ⟨r,r1,r2⟩:=known_r u hu
  by_cases q2 : r.1 ≤ (m : Int)
  ·refine ⟨r,s + 1 + 1,r1,by omega,?_⟩
   unfold spec_l3Draw.f
   exact Ev.bind (ev_some (fun _ => p1)) (Ev_t q (Ev.bind (ev_some (fun _ => p2)) (Ev.bind r2 (Ev_t q2 (Ev.now _)))))
  ·obtain ⟨r',s',g1,g2,g3⟩:=rest (s + 1 + 1) (by omega)
   refine ⟨r',s',g1,g2,?_⟩
   unfold spec_l3Draw.f
   exact Ev.bind (ev_some (fun _ => p1)) (Ev_t q (Ev.bind (ev_some (fun _ => p2)) (Ev.bind r2 (Ev_f q2 g3))))
 ·obtain ⟨r',s',g1,g2,g3⟩:=rest (s + 1) (by omega)
  refine ⟨r',s',g1,g2,?_⟩
  unfold spec_l3Draw.f
  exact Ev.bind (ev_some (fun _ => p1)) (Ev_f q g3)
theorem bad_r (l : List Int) (hl : l.length ≤ 2000) (hb : Bytes l) (a : Int × List Int × List Int × List Stp) (ha : Small a) (s : Nat) (hs : s ≤ 901000) :
  ∃ (r : Int × List Int × List Int × List Stp) (s' : Nat),(r.2.1.length ≤ 1000 ∧ r.2.2.1.length ≤ 1000 ∧ r.2.2.2.length ≤ 1000) ∧ s' ≤ 902000 ∧ spec_l3Bad.f a.1 a.2.1 a.2.2.1 a.2.2.2 l (s : Int) = some (r.1,r.2.1,r.2.2.1,r.2.2.2,l,(s' : Int)):=by
 obtain ⟨a0,a1,a2,a3⟩:=a
 obtain ⟨h1,h2,h3⟩:=ha
 have h1 : a1.length ≤ 100:=h1
 have h2 : a2.length ≤ 100:=h2
 have h3 : a3.length ≤ 100:=h3
 obtain ⟨v,_,p1⟩:=pick_r l hl hb s 36 (by omega) (by omega) (by omega)
 have p1 : spec_l13Rd_pick.f 36 l (s : Int) = some ((v : Int),l,((s + 1 : Nat) : Int)):=p1
 unfold spec_l3Bad.f
 simp only [p1,Option.bind_some]
 by_cases c0 : (v : Int) = 0
 ·obtain ⟨x,_,p2⟩:=num_r l hl hb (s + 1) (by omega) [0,5,(-1),1,9223372036854775807] (by simp) (by simp)
  refine ⟨(x,a1,a2,a3),s + 1 + 1,⟨by show a1.length ≤ 1000;omega,by show a2.length ≤ 1000;omega,by show a3.length ≤ 1000;omega⟩,by omega,?_⟩
  rw [if_pos c0,p2,Option.bind_some]
 rw [if_neg c0]
 by_cases c1 : (v : Int) = 1
 ·obtain ⟨w,_,p2⟩:=pick_r l hl hb (s + 1) 2 (by omega) (by omega) (by omega)
  have p2 : spec_l13Rd_pick.f 2 l ((s + 1 : Nat) : Int) = some ((w : Int),l,((s + 1 + 1 : Nat) : Int)):=p2
  obtain ⟨x,_,p3⟩:=of_r l hl hb (s + 1 + 1) (by omega) [(⟨#[97]⟩ : ByteArray),(⟨#[99]⟩ : ByteArray),(⟨#[]⟩ : ByteArray)] (by simp) (by simp)
  obtain ⟨y,_,p4⟩:=num_r l hl hb (s + 1 + 1 + 1) (by omega) [0,4,(-1)] (by simp) (by simp)
  obtain ⟨z,_,p5⟩:=num_r l hl hb (s + 1 + 1 + 1 + 1) (by omega) [0,4,(-1)] (by simp) (by simp)
  refine ⟨(a0,a1,a2,(([] : List Stp) ++ a3) ++ [(⟨(w : Int),x,y,z⟩ : Stp)]),s + 1 + 1 + 1 + 1 + 1,⟨by show a1.length ≤ 1000;omega,by show a2.length ≤ 1000;omega,by simp;omega⟩,by omega,?_⟩
  rw [if_pos c1,if_pos (by simp only [List.length_nil];omega),p2,Option.bind_some,p3,Option.bind_some,p4,Option.bind_some,p5,Option.bind_some,if_pos (by simp;omega)]
 rw [if_neg c1]
 by_cases c2 : (v : Int) = 2
 ·obtain ⟨x,_,p2⟩:=num_r l hl hb (s + 1) (by omega) [0,4,(-1)] (by simp) (by simp)
  refine ⟨(a0,(([] : List Int) ++ a1) ++ [x],a2,a3),s + 1 + 1,⟨by simp;omega,by show a2.length ≤ 1000;omega,by show a3.length ≤ 1000;omega⟩,by omega,?_⟩
  rw [if_pos c2,if_pos (by simp only [List.length_nil];omega),p2,Option.bind_some,if_pos (by simp;omega)]
 ·exact ⟨(a0,a1,a2,a3),s + 1,⟨by show a1.length ≤ 1000;omega,by show a2.length ≤ 1000;omega,by show a3.length ≤ 1000;omega⟩,by omega,by rw [if_neg c2]⟩
theorem any_r (l : List Int) (hl : l.length ≤ 2000) (hb : Bytes l) : ∃ (r : Int × List Int × List Int × List Stp) (s' : Nat),(r.2.1.length ≤ 1000 ∧ r.2.2.1.length ≤ 1000 ∧ r.2.2.2.length ≤ 1000) ∧ s' ≤ 902000 ∧ Ev (fun k => spec_l3Any.f k l 0) (r.1,r.2.1,r.2.2.1,r.2.2.2,l,(s' : Int)):=by
 obtain ⟨a,s1,a1,a2,a3⟩:=draw_r l hl hb 3 (by omega) (by omega) 0 (by omega)
 obtain ⟨r,s',g1,g2,g3⟩:=bad_r l hl hb a a1 s1 a2
 refine ⟨r,s',g1,g2,?_⟩
 unfold spec_l3Any.f
 exact Ev.bind a3 (Ev.bind (ev_some (fun _ => g3)) (Ev.now _))
theorem open_r (l : List Int) (hb : Bytes l) : ∃ z : List Int,z.length ≤ 2000 ∧ Bytes z ∧ spec_l13Open.f l = some (z,0):=by
 unfold spec_l13Open.f
 by_cases h : (l.length : Int) > 2000
 ·refine ⟨(l.drop 0).take (2000 - 0),by rw [List.length_take];omega,fun x hx => hb x (List.mem_of_mem_drop (List.mem_of_mem_take hx)),?_⟩
  rw [if_pos h,if_pos (by omega)]
 ·exact ⟨l,by omega,hb,by rw [if_neg h]⟩
theorem steps_q (l : List Int) (hl : l.length ≤ 2000) (hb : Bytes l) (n : Nat) (h1 : 1 ≤ n) (h4 : n ≤ 10) (st fi : List Int) (hs0 : st.length ≤ 100) (hf0 : fi.length ≤ 100) (B : Nat) (hB : B ≤ 910000) (c : Nat) (hc : c ≤ 60) : ∀ (d i s : Nat) (x : List Stp),i + d = c → x.length ≤ i → s ≤ B + 4 * i →
  ∃ (r : Int × List Int × List Int × List Stp) (s' : Nat),Small r ∧ s' ≤ B + 4 * c ∧ Ev (fun k => spec_l3Draw.l0 k (n : Int) (c : Int) (i : Int) l (s : Int) (n : Int) st fi x) (r.1,r.2.1,r.2.2.1,r.2.2.2,l,(s' : Int)):=by
 intro d
 induction d with
 | zero =>
  intro i s x hi hx hs
  refine ⟨((n : Int),st,fi,x),s,⟨hs0,hf0,by show x.length ≤ 100;omega⟩,by omega,?_⟩
  refine Ev.step (f:=fun _ => some ((n : Int),st,fi,x,l,(s : Int))) (fun k => ?_) (Ev.now _)
  simp only [spec_l3Draw.l0];rw [if_neg (by omega)]
 | succ d ih =>
  intro i s x hi hx hs
  obtain ⟨v1,_,p1⟩:=pick_r l hl hb s n (by omega) h1 (by omega)
  obtain ⟨v2,_,p2⟩:=of_r l hl hb (s + 1) (by omega) [(⟨#[97]⟩ : ByteArray),(⟨#[98]⟩ : ByteArray)] (by simp) (by simp)
  obtain ⟨v3,_,p3⟩:=pick_r l hl hb (s + 1 + 1) n (by omega) h1 (by omega)
  obtain ⟨v4,_,p4⟩:=num_r l hl hb (s + 1 + 1 + 1) (by omega) [0,1,0,1,2,0] (by simp) (by simp)
  obtain ⟨y,hy,py⟩:=put_r x (by omega) (v1 : Int) v2 (v3 : Int) v4
  obtain ⟨r,s',g1,g2,g3⟩:=ih (i + 1) (s + 1 + 1 + 1 + 1) y (by omega) (by omega) (by omega)
  have wn : wrap64 ((i : Int) + 1) = ((i + 1 : Nat) : Int):=wnat (by omega)
  have a0 : (i : Int) < (c : Int):=by clear wn;omega
  rw [← wn] at g3
  refine ⟨r,s',g1,g2,?_⟩
  refine Ev.step (f:=fun k => (spec_l3Put.f k x (v1 : Int) v2 (v3 : Int) v4).bind fun t16 => spec_l3Draw.l0 k (n : Int) (c : Int) (wrap64 ((i : Int) + 1)) l ((s + 1 + 1 + 1 + 1 : Nat) : Int) (n : Int) st fi t16) (fun k => ?_) (Ev.bind py g3)
  simp only [spec_l3Draw.l0]
  rw [if_pos a0,p1,Option.bind_some,p2,Option.bind_some,p3,Option.bind_some,p4,Option.bind_some]
theorem draw_q (l : List Int) (hl : l.length ≤ 2000) (hb : Bytes l) (m : Nat) (h1 : 1 ≤ m) (h4 : m ≤ 4) (s : Nat) (hs : s ≤ 800000) :
  ∃ (r : Int × List Int × List Int × List Stp) (s' : Nat),Small r ∧ s' ≤ s + 1000 ∧ Ev (fun k => spec_l3Draw.f k (m : Int) l (s : Int)) (r.1,r.2.1,r.2.2.1,r.2.2.2,l,(s' : Int)):=by
 have rest : ∀ s : Nat,s ≤ 850000 → ∃ (r : Int × List Int × List Int × List Stp) (s' : Nat),Small r ∧ s' ≤ s + 500 ∧ Ev (fun k => (spec_l13Rd_pick.f (m : Int) l (s : Int)).bind fun t8 => (spec_l3Some.f k (wrap64 (1 + t8.1)) t8.2.1 t8.2.2).bind fun t9 => (spec_l3Some.f k (wrap64 (1 + t8.1)) t9.2.1 t9.2.2).bind fun t10 => (spec_l13Rd_pick.f (wrap64 ((wrap64 (2 * (wrap64 (1 + t8.1)))) + 1)) t10.2.1 t10.2.2).bind fun t11 => spec_l3Draw.l0 k (wrap64 (1 + t8.1)) (wrap64 (1 + t11.1)) 0 t11.2.1 t11.2.2 (wrap64 (1 + t8.1)) t9.1 t10.1 ([] : List Stp)) (r.1,r.2.1,r.2.2.1,r.2.2.2,l,(s' : Int)):=fun s hs => by
  obtain ⟨v,hv,p1⟩:=pick_r l hl hb s m (by omega) h1 (by omega)
  obtain ⟨st,hst,p2⟩:=some_r l hl hb (v + 1) (by omega) (s + 1) (by omega)
  obtain ⟨fi,hfi,p3⟩:=some_r l hl hb (v + 1) (by omega) (s + 1 + (v + 1)) (by omega)
  obtain ⟨c,hc,p4⟩:=pick_r l hl hb (s + 1 + (v + 1) + (v + 1)) (2 * (v + 1) + 1) (by omega) (by omega) (by omega)
  obtain ⟨r,s',g1,g2,g3⟩:=steps_q l hl hb (v + 1) (by omega) (by omega) st fi (by omega) (by omega) (s + 1 + (v + 1) + (v + 1) + 1) (by omega) (c + 1) (by omega) (c + 1) 0 (s + 1 + (v + 1) + (v + 1) + 1) [] (by omega) (Nat.le_refl _) (by omega)
  refine ⟨r,s',g1,by omega,?_⟩
  have e1:=w1p v (by omega)
  have e2:=w2p v
  have e3:=w1p c
  replace e2:=e2 (by clear e1 e2 e3;omega)
  replace e3:=e3 (by clear e1 e2 e3;omega)
  refine Ev.bind (ev_some (fun _ => p1)) ?_
  simp only [e1]
  refine Ev.bind p2 (Ev.bind p3 ?_)
  simp only [e2]
  refine Ev.bind (ev_some (fun _ => p4)) ?_
  simp only [e3]
  exact g3
 obtain ⟨v,hv,p1⟩:=pick_r l hl hb s 3 (by omega) (by omega) (by omega)
 have p1 : spec_l13Rd_pick.f 3 l (s : Int) = some ((v : Int),l,((s + 1 : Nat) : Int)):=p1
 by_cases q : (v : Int) = 0
 ·obtain ⟨u,hu,p2⟩:=pick_r l hl hb (s + 1) 9 (by omega) (by omega) (by omega)
  have p2 : spec_l13Rd_pick.f 9 l ((s + 1 : Nat) : Int) = some ((u : Int),l,((s + 1 + 1 : Nat) : Int)):=p2
  obtain ⟨r,r1,r2⟩:=known_r u hu
  by_cases q2 : r.1 ≤ (m : Int)
  ·refine ⟨r,s + 1 + 1,r1,by omega,?_⟩
   unfold spec_l3Draw.f
   exact Ev.bind (ev_some (fun _ => p1)) (Ev_t q (Ev.bind (ev_some (fun _ => p2)) (Ev.bind r2 (Ev_t q2 (Ev.now _)))))
  ·obtain ⟨r',s',g1,g2,g3⟩:=rest (s + 1 + 1) (by omega)
   refine ⟨r',s',g1,by omega,?_⟩
   unfold spec_l3Draw.f
   exact Ev.bind (ev_some (fun _ => p1)) (Ev_t q (Ev.bind (ev_some (fun _ => p2)) (Ev.bind r2 (Ev_f q2 g3))))
 ·obtain ⟨r',s',g1,g2,g3⟩:=rest (s + 1) (by omega)
  refine ⟨r',s',g1,by omega,?_⟩
  unfold spec_l3Draw.f
  exact Ev.bind (ev_some (fun _ => p1)) (Ev_f q g3)
theorem bad_q (l : List Int) (hl : l.length ≤ 2000) (hb : Bytes l) (a : Int × List Int × List Int × List Stp) (ha : Small a) (s : Nat) (hs : s ≤ 901000) :
  ∃ (r : Int × List Int × List Int × List Stp) (s' : Nat),(r.2.1.length ≤ 1000 ∧ r.2.2.1.length ≤ 1000 ∧ r.2.2.2.length ≤ 1000) ∧ s' ≤ s + 10 ∧ spec_l3Bad.f a.1 a.2.1 a.2.2.1 a.2.2.2 l (s : Int) = some (r.1,r.2.1,r.2.2.1,r.2.2.2,l,(s' : Int)):=by
 obtain ⟨a0,a1,a2,a3⟩:=a
 obtain ⟨h1,h2,h3⟩:=ha
 have h1 : a1.length ≤ 100:=h1
 have h2 : a2.length ≤ 100:=h2
 have h3 : a3.length ≤ 100:=h3
 obtain ⟨v,_,p1⟩:=pick_r l hl hb s 36 (by omega) (by omega) (by omega)
 have p1 : spec_l13Rd_pick.f 36 l (s : Int) = some ((v : Int),l,((s + 1 : Nat) : Int)):=p1
 unfold spec_l3Bad.f
 simp only [p1,Option.bind_some]
 by_cases c0 : (v : Int) = 0
 ·obtain ⟨x,_,p2⟩:=num_r l hl hb (s + 1) (by omega) [0,5,(-1),1,9223372036854775807] (by simp) (by simp)
  refine ⟨(x,a1,a2,a3),s + 1 + 1,⟨by show a1.length ≤ 1000;omega,by show a2.length ≤ 1000;omega,by show a3.length ≤ 1000;omega⟩,by omega,?_⟩
  rw [if_pos c0,p2,Option.bind_some]
 rw [if_neg c0]
 by_cases c1 : (v : Int) = 1
 ·obtain ⟨w,_,p2⟩:=pick_r l hl hb (s + 1) 2 (by omega) (by omega) (by omega)
  have p2 : spec_l13Rd_pick.f 2 l ((s + 1 : Nat) : Int) = some ((w : Int),l,((s + 1 + 1 : Nat) : Int)):=p2
  obtain ⟨x,_,p3⟩:=of_r l hl hb (s + 1 + 1) (by omega) [(⟨#[97]⟩ : ByteArray),(⟨#[99]⟩ : ByteArray),(⟨#[]⟩ : ByteArray)] (by simp) (by simp)
  obtain ⟨y,_,p4⟩:=num_r l hl hb (s + 1 + 1 + 1) (by omega) [0,4,(-1)] (by simp) (by simp)
  obtain ⟨z,_,p5⟩:=num_r l hl hb (s + 1 + 1 + 1 + 1) (by omega) [0,4,(-1)] (by simp) (by simp)
  refine ⟨(a0,a1,a2,(([] : List Stp) ++ a3) ++ [(⟨(w : Int),x,y,z⟩ : Stp)]),s + 1 + 1 + 1 + 1 + 1,⟨by show a1.length ≤ 1000;omega,by show a2.length ≤ 1000;omega,by simp;omega⟩,by omega,?_⟩
  rw [if_pos c1,if_pos (by simp only [List.length_nil];omega),p2,Option.bind_some,p3,Option.bind_some,p4,Option.bind_some,p5,Option.bind_some,if_pos (by simp;omega)]
 rw [if_neg c1]
 by_cases c2 : (v : Int) = 2
 ·obtain ⟨x,_,p2⟩:=num_r l hl hb (s + 1) (by omega) [0,4,(-1)] (by simp) (by simp)
  refine ⟨(a0,(([] : List Int) ++ a1) ++ [x],a2,a3),s + 1 + 1,⟨by simp;omega,by show a2.length ≤ 1000;omega,by show a3.length ≤ 1000;omega⟩,by omega,?_⟩
  rw [if_pos c2,if_pos (by simp only [List.length_nil];omega),p2,Option.bind_some,if_pos (by simp;omega)]
 ·exact ⟨(a0,a1,a2,a3),s + 1,⟨by show a1.length ≤ 1000;omega,by show a2.length ≤ 1000;omega,by show a3.length ≤ 1000;omega⟩,by omega,by rw [if_neg c2]⟩
end Go.Proofs.Ytoeeeafknajkkaa.V
end
section
set_option linter.unusedVariables false
set_option linter.unusedSimpArgs false
namespace Go.Proofs.Ytoeeeafknajkkaa.V
open Go Go.Proofs.Ytoeeeafknajkkaa.R Go.RowKit
open Go.Proofs.YtoeeeafknajkkaaW.PrintWords hiding mn mx
theorem endL_hit (c : List UInt8) (v : List Int) (p : Nat) (t : List Stp) (nx : List Int) (hp : p < nx.length) (hlt : (endL c t v nx).getD p 0 < nx.getD p 0) : ∃ s ∈ t,s.f1.toList = c ∧ s.f0.toNat = p ∧ s.f3 + v.getD s.f2.toNat 0 = (endL c t v nx).getD p 0:=by
 have h:=(le_endL c v ((endL c t v nx).getD p 0) p t nx hp).1 (Int.le_refl _)
 have h2 : ¬ (endL c t v nx).getD p 0 + 1 ≤ (endL c t v nx).getD p 0:=by omega
 rw [le_endL c v _ p t nx hp] at h2
 by_cases q : ∀ s ∈ t,s.f1.toList = c → s.f0.toNat = p → (endL c t v nx).getD p 0 + 1 ≤ s.f3 + v.getD s.f2.toNat 0
 ·exact absurd ⟨by omega,q⟩ h2
 ·simp only [Classical.not_forall] at q
  obtain ⟨s,q1,q2,q3,q4⟩:=q
  have:=h.2 s q1 q2 q3
  exact ⟨s,q1,q2,q3,by omega⟩
theorem le_costL (v s : List Int) (x : Int) : x ≤ costL s v ↔ x ≤ 1000000 ∧ ∀ l ∈ s,x ≤ v.getD l.toNat 0:=le_foldI (fun p => v.getD p.toNat 0) x s 1000000
theorem costL_hit (v : List Int) (s : List Int) (h : costL s v < 1000000) : ∃ p ∈ s,v.getD p.toNat 0 = costL s v:=by
 by_cases q : ∀ p ∈ s,costL s v + 1 ≤ v.getD p.toNat 0
 ·have:=(le_costL v s _).2 ⟨by omega,q⟩;omega
 ·simp only [Classical.not_forall] at q
  obtain ⟨p,q1,q2⟩:=q
  have:=((le_costL v s _).1 (Int.le_refl _)).2 p q1
  exact ⟨p,q1,by omega⟩
theorem costL_in (v s : List Int) (hv : ∀ p ∈ s,0 ≤ v.getD p.toNat 0) : 0 ≤ costL s v ∧ costL s v ≤ 1000000:=⟨(le_costL v s 0).2 ⟨by omega,hv⟩,((le_costL v s _).1 (Int.le_refl _)).1⟩
def endsL (n : Nat) (t : List Stp) (f : List Int) : List UInt8 → List (List Int)
 | [] => [finL n f]
 | c :: w => endsL n t f w ++ [colL n t (c :: w) (finL n f)]
theorem endsL_len (n : Nat) (t : List Stp) (f : List Int) : ∀ w,(endsL n t f w).length = w.length + 1
 | [] => rfl
 | c :: w => by simp [endsL,endsL_len n t f w]
theorem endsL_get (n : Nat) (t : List Stp) (f : List Int) : ∀ (u e : List UInt8),(endsL n t f (u ++ e)).getD e.length [] = colL n t e (finL n f)
 | [],[] => rfl
 | [],c :: e => by
  show (endsL n t f e ++ [colL n t (c :: e) (finL n f)]).getD (e.length + 1) [] = _
  rw [List.getD_eq_getElem?_getD,List.getElem?_append_right (by rw [endsL_len];omega),endsL_len]
  simp
 | c :: u,e => by
  show (endsL n t f (u ++ e) ++ [colL n t (c :: (u ++ e)) (finL n f)]).getD e.length [] = _
  have:=endsL_get n t f u e
  rw [List.getD_eq_getElem?_getD] at this ⊢
  rw [List.getElem?_append_left (by rw [endsL_len];simp;omega)]
  exact this
def hitB (n : Nat) (t : List Stp) (f : List Int) (c : UInt8) (w : List UInt8) (p : Int) (s : Stp) : Bool:=decide (s.f0 = p ∧ s.f1.toList = [c] ∧ s.f3 + (colL n t w (finL n f)).getD s.f2.toNat 0 = (colL n t (c :: w) (finL n f)).getD p.toNat 0)
theorem hit_ex (n : Nat) (h1 : 1 ≤ n) (h4 : n ≤ 4) (t : List Stp) (hs : stp (n : Int) none t = true) (f : List Int) (c : UInt8) (w : List UInt8) (p : Int) (h0 : 0 ≤ p) (hp : p < (n : Int)) (hlt : (colL n t (c :: w) (finL n f)).getD p.toNat 0 < 1000000) : ∃ s,t.find? (hitB n t f c w p) = some s:=by
 have ht:=stp_mem hs
 have e:=col_step n h4 t hs c (colL n t w (finL n f)) (fun l hl => ((col_full n h1 h4 t ht f w).2 l hl).1)
 have e : colL n t (c :: w) (finL n f) = endL [c] t (colL n t w (finL n f)) (List.replicate n 1000000):=e
 have hpn : p.toNat < n:=by omega
 obtain ⟨s,q1,q2,q3,q4⟩:=endL_hit [c] (colL n t w (finL n f)) p.toNat t (List.replicate n 1000000) (by rw [List.length_replicate];exact hpn) (by
  rw [← e]
  have : (List.replicate n (1000000 : Int)).getD p.toNat 0 = 1000000:=by simp [List.getD_eq_getElem?_getD,hpn]
  rw [this];exact hlt)
 have os:=of_decide_eq_true (show decide _ = true from ht s q1)
 have : hitB n t f c w p s = true:=decide_eq_true ⟨by omega,q2,by rw [q4,← e]⟩
 cases q : t.find? (hitB n t f c w p) with
 | some s => exact ⟨s,rfl⟩
 | none => exact absurd this (List.find?_eq_none.1 q s q1)
def runL (n : Nat) (t : List Stp) (f : List Int) : List UInt8 → Int → List Int
 | [],_ => []
 | c :: w,p => match t.find? (hitB n t f c w p) with
  | some s => s.f2 :: runL n t f w s.f2
  | none => []
theorem runL_len (n : Nat) (t : List Stp) (f : List Int) : ∀ w p,(runL n t f w p).length ≤ w.length
 | [],_ => Nat.le_refl _
 | c :: w,p => by
  unfold runL
  split
  ·simp only [List.length_cons];have:=runL_len n t f w;rename_i s _;have:=this s.f2;omega
  ·simp
def startB (v : List Int) (c : Int) (q : Int) : Bool:=decide (v.getD q.toNat 0 = c)
theorem start_ex (v s : List Int) (h : costL s v < 1000000) : ∃ q,s.find? (startB v (costL s v)) = some q:=by
 obtain ⟨p,h1,h2⟩:=costL_hit v s h
 cases q : s.find? (startB v (costL s v)) with
 | some s => exact ⟨s,rfl⟩
 | none => exact absurd (decide_eq_true h2) (List.find?_eq_none.1 q p h1)
def runR (n : Int) (s f : List Int) (t : List Stp) (w : ByteArray) : List Int × Bool :=
 if AV n s f t = true ∧ wordB (L w) = true ∧ costL s (colL n.toNat t (L w) (finL n.toNat f)) < 1000000 then
  match s.find? (startB (colL n.toNat t (L w) (finL n.toNat f)) (costL s (colL n.toNat t (L w) (finL n.toNat f)))) with
  | some q => (q :: runL n.toNat t f (L w) q,true)
  | none => ([],true)
 else ([],false)
theorem endL_cons (c : List UInt8) (s : Stp) (t : List Stp) (v nx : List Int) : endL c (s :: t) v nx = endL c t v (if s.f1.toList = c then nx.set s.f0.toNat (mn (nx.getD s.f0.toNat 0) (s.f3 + v.getD s.f2.toNat 0)) else nx):=rfl
theorem plt {a b c : Nat} (h : b = a + (c + 1)) : (a : Int) < (b : Int):=by omega
theorem psm {a b c : Nat} (h : b = a + (c + 1)) (hb : b ≤ 1000000000) : a < 1000000000000:=by omega
theorem wpre {α : Type} {pre : List α} {y : α} {b c : Nat} (h : b = pre.length + (c + 1)) (hb : b ≤ 1000000000) : wrap64 ((pre.length : Int) + 1) = (((pre ++ [y]).length : Nat) : Int):=by rw [wnat (psm h hb),List.length_append];rfl
theorem wadd {a b : Int} (h : 0 ≤ a ∧ a ≤ 1000000000) (h' : 0 ≤ b ∧ b ≤ 1000000000) : wrap64 (a + b) = a + b:=w64 (by omega) (by omega)
theorem wsub {a b c : Int} (e : a + b = c) (h' : 0 ≤ b ∧ b ≤ 1000000000) : wrap64 (c - a) = b:=by rw [← e,w64 (by omega) (by omega)];omega
theorem lt_of_add {a b c : Int} (e : a + b = c) (h0 : 0 ≤ a) (h : c < 1000000) : b < 1000000:=by omega
theorem int_nat {y : Int} (h : 0 ≤ y) : ∃ m : Nat,y = (m : Int):=⟨y.toNat,by omega⟩
theorem toNat_lt' {y : Int} {n : Nat} (h : y < (n : Int)) (h0 : 0 ≤ y) : y.toNat < n:=by omega
theorem iEnd2 (n : Nat) (s f : List Int) (t : List Stp) (ht : ∀ y ∈ t,stepOk n y = true) (hl : t.length ≤ 1000000000) (w : ByteArray) (hw : w.size ≤ 1000) (v : List Int) (hv : v.length = n) (hvb : ∀ l,l < n → 0 ≤ v.getD l 0 ∧ v.getD l 0 ≤ 1000000) (o : List (List Int)) (ho : o.length ≤ 2000) (i : Nat) (c : UInt8) (hi : i < w.size) (hc : (w.extract i (i + 1)).toList = [c]) (R : List (List Int)) :
  ∀ (u pre : List Stp) (nx : List Int),t = pre ++ u → nx.length = n →
   Ev (fun k => impl_toEnd.l1 k w (endL [c] u v nx) (o ++ [endL [c] u v nx]) (wrap64 ((i : Int) - 1)) (n : Int) s f t) R →
   Ev (fun k => impl_toEnd.l2 k w v o (i : Int) nx t (t.length : Int) (pre.length : Int) (n : Int) s f t) R:=by
 intro u
 induction u with
 | nil =>
  intro pre nx hp hn h
  refine Ev.step (fun k => ?_) h
  simp only [impl_toEnd.l2];rw [if_neg (by rw [hp];simp),if_pos (by omega)];rfl
 | cons y u ih =>
  intro pre nx hp hn h
  have hlen : t.length = pre.length + (u.length + 1):=by rw [hp];simp
  have hx : rdT t (pre.length : Int) = y:=by rw [hp,rdS_mid]
  obtain ⟨o1,o2,o3,o4,o5,o6,_⟩:=of_decide_eq_true (show decide _ = true from ht y (by rw [hp];simp))
  have a0 : (pre.length : Int) < (t.length : Int):=Int.ofNat_lt.2 (by clear ih h;omega)
  have a1 : 0 ≤ (pre.length : Int):=Int.natCast_nonneg _
  have a2 : 0 ≤ (i : Int):=Int.natCast_nonneg _
  have a3 : (i : Int) ≤ ((i + 1 : Nat) : Int):=Int.ofNat_le.2 (Nat.le_succ i)
  have a4 : ((i + 1 : Nat) : Int) ≤ (w.size : Int):=Int.ofNat_le.2 hi
  have wi : wrap64 ((i : Int) + 1) = ((i + 1 : Nat) : Int):=wnat (by clear ih h;omega)
  have wp : wrap64 ((pre.length : Int) + 1) = (((pre ++ [y]).length : Nat) : Int):=by rw [wnat (by clear ih h;omega),List.length_append];rfl
  rw [endL_cons] at h
  by_cases e : y.f1.toList = [c]
  ·rw [if_pos e] at h
   have b:=hvb y.f2.toNat (by omega)
   have a5 : y.f0 < (nx.length : Int):=by omega
   have a6 : y.f2 < (v.length : Int):=by omega
   have hw3 : wrap64 (y.f3 + v.getD y.f2.toNat 0) = y.f3 + v.getD y.f2.toNat 0:=w64 (by omega) (by omega)
   refine Ev.step (fun k => ?_) (ih (pre ++ [y]) (nx.set y.f0.toNat (mn (nx.getD y.f0.toNat 0) (y.f3 + v.getD y.f2.toNat 0))) (by simp [hp]) (by rw [List.length_set];exact hn) h)
   simp only [impl_toEnd.l2]
   rw [if_pos a0,if_pos a1,if_pos a0,if_pos a2,wi,if_pos a3,if_pos a4,hx]
   simp only [Int.toNat_natCast]
   rw [if_pos (e.trans hc.symm),if_pos o1,if_pos a5,if_pos o3,if_pos a6,wp]
   unfold rdI
   rw [hw3]
  ·rw [if_neg e] at h
   refine Ev.step (fun k => ?_) (ih (pre ++ [y]) nx (by simp [hp]) hn h)
   simp only [impl_toEnd.l2]
   rw [if_pos a0,if_pos a1,if_pos a0,if_pos a2,wi,if_pos a3,if_pos a4,hx]
   simp only [Int.toNat_natCast]
   rw [if_neg (fun q => e (q.trans hc)),wp]
theorem repInt (n : Nat) (h1 : 1 ≤ n) (h4 : n ≤ 4) : slices_Repeat_int_int.f [1000000] (n : Int) = some (List.replicate n 1000000):=by
 unfold slices_Repeat_int_int.f
 rw [if_pos ⟨rfl,by omega,by omega⟩]
 simp [rdI]
theorem iEnd1 (n : Nat) (h1 : 1 ≤ n) (h4 : n ≤ 4) (s f : List Int) (t : List Stp) (hs : stp (n : Int) none t = true) (hl : t.length ≤ 1000000000) (w : ByteArray) (hw : w.size ≤ 1000) :
  ∀ (m : Nat) (u e : List UInt8),u.length = m → L w = u ++ e → Ev (fun k => impl_toEnd.l1 k w (colL n t e (finL n f)) (endsL n t f e) ((u.length : Int) - 1) (n : Int) s f t) (endsL n t f (L w)):=by
 have ht:=stp_mem hs
 intro m
 induction m with
 | zero =>
  intro u e hm he
  have : u = []:=List.eq_nil_of_length_eq_zero hm
  subst this
  refine Ev.step (f:=fun _ => some (endsL n t f e)) (fun k => ?_) ((Ev.now _).is (by rw [he];rfl))
  simp only [impl_toEnd.l1];rw [if_neg (by simp)]
 | succ m ih =>
  intro u e hm he
  obtain ⟨u',c,rfl⟩ : ∃ u' c,u = u' ++ [c]:=by
   rcases List.eq_nil_or_concat u with h | ⟨u',c,h⟩
   ·subst h;simp at hm
   ·exact ⟨u',c,by simpa using h⟩
  have he' : L w = u' ++ c :: e:=by rw [he];simp
  have hz:=size_suffix he'
  simp only [List.length_cons] at hz
  have full:=col_full n h1 h4 t ht f e
  have ex : (((u' ++ [c]).length : Nat) : Int) - 1 = (u'.length : Int):=by simp
  have step:=col_step n h4 t hs c (colL n t e (finL n f)) (fun l hl => (full.2 l hl).1)
  have step : colL n t (c :: e) (finL n f) = endL [c] t (colL n t e (finL n f)) (List.replicate n 1000000):=step
  have nxt:=ih u' (c :: e) (by simpa using hm) he'
  refine Ev.step (fun k => ?_) (iEnd2 n s f t ht hl w hw (colL n t e (finL n f)) full.1 full.2 (endsL n t f e) (by rw [endsL_len];omega) u'.length c (by omega) (one_letter w he') (endsL n t f (L w)) t [] (List.replicate n 1000000) rfl (by simp) ?_)
  ·simp only [impl_toEnd.l1]
   rw [ex,if_pos (by omega),repInt n h1 h4,Option.bind_some];rfl
  ·rw [← step,w64 (by omega) (by omega)]
   exact nxt
theorem iEnd0 (n : Nat) (s f : List Int) (t : List Stp) (hf : ∀ q ∈ f,0 ≤ q ∧ q < (n : Int)) (lf : f.length ≤ 1000000000) (w : ByteArray) (R : List (List Int)) :
  ∀ (u pre : List Int) (v : List Int),f = pre ++ u → v.length = n →
   Ev (fun k => impl_toEnd.l1 k w (u.foldl (fun (v : List Int) (q : Int) => v.set q.toNat 0) v) [u.foldl (fun (v : List Int) (q : Int) => v.set q.toNat 0) v] (wrap64 ((w.size : Int) - 1)) (n : Int) s f t) R →
   Ev (fun k => impl_toEnd.l0 k w v f (f.length : Int) (pre.length : Int) (n : Int) s f t) R:=by
 intro u
 induction u with
 | nil =>
  intro pre v hp hn h
  refine Ev.step (fun k => ?_) h
  simp only [impl_toEnd.l0];rw [if_neg (by rw [hp];simp)];rfl
 | cons y u ih =>
  intro pre v hp hn h
  have hlen : f.length = pre.length + (u.length + 1):=by rw [hp];simp
  have hx : rdI f (pre.length : Int) = y:=by rw [hp,rd_mid]
  obtain ⟨y0,yn⟩:=hf y (by rw [hp];simp)
  have a0 : (pre.length : Int) < (f.length : Int):=by omega
  have wp : wrap64 ((pre.length : Int) + 1) = (((pre ++ [y]).length : Nat) : Int):=by rw [w64 (by omega) (by omega),snocA]
  refine Ev.step (fun k => ?_) (ih (pre ++ [y]) (v.set y.toNat 0) (by simp [hp]) (by simp [hn]) h)
  simp only [impl_toEnd.l0]
  rw [if_pos a0,if_pos (by omega),if_pos a0,hx,if_pos y0,if_pos (by omega),wp]
theorem iToEnd (n : Nat) (h1 : 1 ≤ n) (h4 : n ≤ 4) (s f : List Int) (t : List Stp) (hs : stp (n : Int) none t = true) (hl : t.length ≤ 1000000000) (hf : ∀ q ∈ f,0 ≤ q ∧ q < (n : Int)) (lf : f.length ≤ 1000000000) (w : ByteArray) (hw : w.size ≤ 1000) : Ev (fun k => impl_toEnd.f k (n : Int) s f t w) (endsL n t f (L w)):=by
 unfold impl_toEnd.f
 simp only [repInt n h1 h4,Option.bind_some]
 refine iEnd0 n s f t hf lf w _ f [] (List.replicate n 1000000) rfl (by simp) ?_
 rw [w64 (by omega) (by omega)]
 have h:=iEnd1 n h1 h4 s f t hs hl w hw (L w).length (L w) [] rfl (by simp)
 rw [← L_size] at h
 exact h
theorem iCost0 (n : Nat) (w : ByteArray) (o : List (List Int)) (v : List Int) (hv : v.length = n) (ho : (w.size : Int) < (o.length : Int)) (hr : rdL o (w.size : Int) = v) (s : List Int) (hs : ∀ q ∈ s,0 ≤ q ∧ q < (n : Int)) (ls : s.length ≤ 1000000000) :
  ∀ (u pre : List Int) (acc : Int),s = pre ++ u → Ev (fun k => impl_CostOf.l0 k w o acc s (s.length : Int) (pre.length : Int)) (u.foldl (fun acc p => mn acc (v.getD p.toNat 0)) acc):=by
 intro u
 induction u with
 | nil =>
  intro pre acc hp
  refine Ev.step (f:=fun _ => some acc) (fun k => ?_) (Ev.now _)
  simp only [impl_CostOf.l0];rw [if_neg (by rw [hp];simp)]
 | cons y u ih =>
  intro pre acc hp
  have hlen : s.length = pre.length + (u.length + 1):=by rw [hp];simp
  have hx : rdI s (pre.length : Int) = y:=by rw [hp,rd_mid]
  obtain ⟨y0,yn⟩:=hs y (by rw [hp];simp)
  have a0 : (pre.length : Int) < (s.length : Int):=by omega
  have wp : wrap64 ((pre.length : Int) + 1) = (((pre ++ [y]).length : Nat) : Int):=by rw [w64 (by omega) (by omega),snocA]
  refine Ev.step (fun k => ?_) (ih (pre ++ [y]) (mn acc (v.getD y.toNat 0)) (by simp [hp]))
  simp only [impl_CostOf.l0]
  rw [if_pos a0,if_pos (by omega),if_pos a0,if_pos (by omega),if_pos ho,hx,if_pos y0,hr,if_pos (by omega),wp];rfl
def costR (n : Int) (s f : List Int) (t : List Stp) (w : ByteArray) : Int:=if AV n s f t = true ∧ wordB (L w) = true then costL s (colL n.toNat t (L w) (finL n.toNat f)) else -1
theorem iCostOf (n : Int) (s f : List Int) (t : List Stp) (w : ByteArray) (ls : s.length ≤ 1000000000) (lf : f.length ≤ 1000000000) (hl : t.length ≤ 1000000000) (hw : w.size ≤ 4000000) : Ev (fun k => impl_CostOf.f k n s f t w) (costR n s f t w):=by
 unfold impl_CostOf.f
 refine Ev.bind (iAV n s f t ls lf hl) ?_
 by_cases g1 : AV n s f t = true
 case neg => exact Ev_f g1 ((Ev.now _).is (by unfold costR;rw [if_neg (fun h => g1 h.1)]))
 refine Ev_t g1 (Ev.bind (iWord_ev w hw) ?_)
 by_cases g2 : wordB (L w) = true
 case neg => exact Ev_f g2 ((Ev.now _).is (by unfold costR;rw [if_neg (fun h => g2 h.2)]))
 refine Ev_t g2 ?_
 obtain ⟨h1,h2,h3,h4,h5⟩:=AV_parts g1
 obtain ⟨z1,z2⟩:=wordB_size g2
 obtain ⟨m,rfl⟩ : ∃ m : Nat,n = (m : Int):=⟨n.toNat,by omega⟩
 refine Ev.bind (iToEnd m (by omega) (by omega) s f t h5 hl (mrk_mem h4) lf w z1) ?_
 have full:=col_full m (by omega) (by omega) t (stp_mem h5) f (L w)
 have hg:=endsL_get m t f [] (L w)
 rw [List.nil_append,← L_size] at hg
 have hr : rdL (endsL m t f (L w)) (w.size : Int) = colL m t (L w) (finL m f):=by unfold rdL;rw [Int.toNat_natCast];exact hg
 refine (iCost0 m w (endsL m t f (L w)) _ full.1 (by rw [endsL_len,← L_size];omega) hr s (mrk_mem h3) ls s [] 1000000 rfl).is ?_
 unfold costR costL
 rw [if_pos ⟨g1,g2⟩];rfl
def Rn (t : List Stp) : List UInt8 → Int → Int → Int → Prop
 | [],p,q,d => p = q ∧ d = 0
 | c :: w,p,q,d => ∃ (s : Stp) (e : Int),s ∈ t ∧ s.f0 = p ∧ s.f1.toList = [c] ∧ Rn t w s.f2 q e ∧ d = s.f3 + e
theorem mn_ge' {a b x : Int} : x ≤ a → x ≤ b → x ≤ mn a b:=fun h1 h2 => by unfold mn;split <;> assumption
def Lst (R : Int → Prop) (v : Int) : Prop:=v ≤ 1000000 ∧ (∀ d,R d → v ≤ d) ∧ (v < 1000000 → R v)
theorem Lst.uniq {R R' : Int → Prop} {v v' : Int} (h : Lst R v) (h' : Lst R' v') (e : ∀ d,R d ↔ R' d) : v = v':=by
 have a : v ≤ v':=by
  by_cases q : v' < 1000000
  ·exact h.2.1 v' ((e v').2 (h'.2.2 q))
  ·have:=h.1;omega
 have b : v' ≤ v:=by
  by_cases q : v < 1000000
  ·exact h'.2.1 v ((e v).1 (h.2.2 q))
  ·have:=h'.1;omega
 omega
theorem Lst.nn {R : Int → Prop} {v : Int} (h : Lst R v) (n : ∀ d,R d → 0 ≤ d) : 0 ≤ v:=by
 by_cases q : v < 1000000
 ·exact n v (h.2.2 q)
 ·omega
theorem Lst.or {R R' : Int → Prop} {v v' : Int} (h : Lst R v) (h' : Lst R' v') : Lst (fun d => R d ∨ R' d) (mn v v'):=by
 have a:=mn_le1 v v'
 refine ⟨by have:=h.1;omega,fun d g => ?_,fun q => ?_⟩
 ·rcases g with g|g
  ·have:=h.2.1 d g;omega
  ·have:=h'.2.1 d g;omega
 ·have:=mn_ge' (a:=v) (b:=v') (x:=mn v v' + 1)
  by_cases g : v = mn v v'
  ·left;rw [← g];exact h.2.2 (by omega)
  ·have : v' = mn v v':=by
    by_cases g2 : v' = mn v v'
    ·exact g2
    ·have:=this (by omega) (by omega);omega
   right;rw [← this];exact h'.2.2 (by omega)
theorem Lst.add {R R' : Int → Prop} {v v' : Int} (h : Lst R v) (h' : Lst R' v') (n : ∀ d,R d → 0 ≤ d) (n' : ∀ d,R' d → 0 ≤ d) : Lst (fun d => ∃ a b,R a ∧ R' b ∧ d = a + b) (mn (v + v') 1000000):=by
 have m:=mn_le1 (v + v') 1000000
 have p:=h.nn n
 have p':=h'.nn n'
 refine ⟨m.2,?_,fun q => ?_⟩
 ·rintro d ⟨a,b,ha,hb,rfl⟩
  have:=h.2.1 a ha
  have:=h'.2.1 b hb
  omega
 ·have e : mn (v + v') 1000000 = v + v':=by
   have:=mn_ge' (a:=v + v') (b:=1000000) (x:=mn (v + v') 1000000 + 1)
   by_cases g : v + v' = mn (v + v') 1000000
   ·exact g.symm
   ·have:=this (by omega) (by omega);omega
  rw [e] at q ⊢
  exact ⟨v,v',h.2.2 (by omega),h'.2.2 (by omega),rfl⟩
theorem Rn_nn {t : List Stp} (ht : ∀ x ∈ t,0 ≤ x.f3) : ∀ {w : List UInt8} {p q d : Int},Rn t w p q d → 0 ≤ d
 | [],_,_,_,h => by have:=h.2;omega
 | _ :: _,_,_,_,⟨s,e,hs,_,_,hr,he⟩ => by have:=ht s hs;have:=Rn_nn ht hr;omega
theorem stepOk_all {n : Int} {x : Stp} (h : stepOk n x = true) : 0 ≤ x.f0 ∧ x.f0 < n ∧ 0 ≤ x.f2 ∧ x.f2 < n ∧ 0 ≤ x.f3:=by
 have q:=of_decide_eq_true (show decide _ = true from h)
 exact ⟨q.1,q.2.1,q.2.2.1,q.2.2.2.1,q.2.2.2.2.1⟩
theorem Rn_nn' {n : Int} {t : List Stp} (ht : ∀ x ∈ t,stepOk n x = true) {w : List UInt8} {p q d : Int} (h : Rn t w p q d) : 0 ≤ d:=Rn_nn (fun x hx => (stepOk_all (ht x hx)).2.2.2.2) h
theorem Rn_in {n : Int} {t : List Stp} (ht : ∀ x ∈ t,stepOk n x = true) : ∀ {w : List UInt8} {p q d : Int},0 ≤ p ∧ p < n → Rn t w p q d → 0 ≤ q ∧ q < n
 | [],_,_,_,hp,h => by have:=h.1;omega
 | _ :: _,_,_,_,_,⟨s,e,hs,_,_,hr,_⟩ => Rn_in ht ⟨(stepOk_all (ht s hs)).2.2.1,(stepOk_all (ht s hs)).2.2.2.1⟩ hr
theorem Rn_mono {t u : List Stp} (h : ∀ x ∈ t,x ∈ u) : ∀ {w : List UInt8} {p q d : Int},Rn t w p q d → Rn u w p q d
 | [],_,_,_,g => g
 | _ :: _,_,_,_,⟨s,e,hs,a,b,hr,c⟩ => ⟨s,e,h s hs,a,b,Rn_mono h hr,c⟩
theorem col_runs (n : Nat) (h1 : 1 ≤ n) (h4 : n ≤ 4) (t : List Stp) (hs : stp (n : Int) none t = true) (f : List Int) (hf : ∀ q ∈ f,0 ≤ q ∧ q < (n : Int)) : ∀ (w : List UInt8) (p : Int),0 ≤ p → p < (n : Int) → Lst (fun d => ∃ q ∈ f,Rn t w p q d) ((colL n t w (finL n f)).getD p.toNat 0):=by
 intro w
 have ht:=stp_mem hs
 induction w with
 | nil =>
  intro p p0 pn
  have e : colL n t [] (finL n f) = finL n f:=rfl
  rw [e]
  rcases finL_get n f p.toNat (by omega) with ⟨⟨q,hq,e⟩,h⟩ | ⟨hno,h⟩
  ·rw [h]
   have:=hf q hq
   refine ⟨by omega,?_,fun _ => ⟨q,hq,by omega,rfl⟩⟩
   rintro d ⟨q',_,_,e2⟩
   omega
  ·rw [h]
   refine ⟨Int.le_refl _,?_,fun h => absurd h (by omega)⟩
   rintro d ⟨q',hq',e1,_⟩
   exact (hno q' hq' (by rw [e1])).elim
 | cons c w ih =>
  intro p p0 pn
  have full:=col_full n h1 h4 t ht f w
  have full2:=col_full n h1 h4 t ht f (c :: w)
  have step:=col_step n h4 t hs c (colL n t w (finL n f)) (fun l hl => (full.2 l hl).1)
  have step : colL n t (c :: w) (finL n f) = endL [c] t (colL n t w (finL n f)) (List.replicate n 1000000):=step
  refine ⟨(full2.2 p.toNat (by omega)).2,?_,fun hlt => ?_⟩
  ·rintro d ⟨q,hq,s,e,hm,s0,s1,hr,rfl⟩
   have le:=((le_endL [c] (colL n t w (finL n f)) ((endL [c] t (colL n t w (finL n f)) (List.replicate n 1000000)).getD p.toNat 0) p.toNat t (List.replicate n 1000000) (by rw [List.length_replicate];omega)).1 (Int.le_refl _)).2 s hm s1 (by rw [s0])
   rw [← step] at le
   have os:=stepOk_all (ht s hm)
   have:=(ih s.f2 os.2.2.1 os.2.2.2.1).2.1 e ⟨q,hq,hr⟩
   omega
  ·obtain ⟨s0,hs0⟩:=hit_ex n h1 h4 t hs f c w p p0 pn hlt
   have hm:=List.mem_of_find?_eq_some hs0
   have os:=stepOk_all (ht s0 hm)
   have hh : hitB n t f c w p s0 = true:=by simpa using List.find?_some hs0
   obtain ⟨g1,g2,g3⟩:=of_decide_eq_true (show decide _ = true from hh)
   obtain ⟨q,hq,hr⟩:=(ih s0.f2 os.2.2.1 os.2.2.2.1).2.2 (by have:=os.2.2.2.2;omega)
   exact ⟨q,hq,s0,_,hm,g1,g2,hr,g3.symm⟩
def Acc (s f : List Int) (t : List Stp) (w : List UInt8) (d : Int) : Prop := ∃ p ∈ s,∃ q ∈ f,Rn t w p q d
theorem cost_runs {n : Int} {s f : List Int} {t : List Stp} (g : AV n s f t = true) {w : ByteArray} (hw : wordB (L w) = true) : Lst (Acc s f t (L w)) (costR n s f t w):=by
 obtain ⟨h1,h2,h3,h4,h5⟩:=AV_parts g
 unfold costR
 rw [if_pos ⟨g,hw⟩]
 obtain ⟨m,rfl⟩ : ∃ m : Nat,n = (m : Int):=⟨n.toNat,by omega⟩
 have hf : ∀ q ∈ f,0 ≤ q ∧ q < (m : Int):=mrk_mem h4
 have hs : ∀ q ∈ s,0 ≤ q ∧ q < (m : Int):=mrk_mem h3
 have key:=col_runs m (by omega) (by omega) t h5 f hf (L w)
 rw [Int.toNat_natCast]
 refine ⟨((le_costL _ _ _).1 (Int.le_refl _)).1,?_,fun h => ?_⟩
 ·rintro d ⟨p,hp,q,hq,hr⟩
  have a:=((le_costL (colL m t (L w) (finL m f)) s _).1 (Int.le_refl _)).2 p hp
  have b:=(key p (hs p hp).1 (hs p hp).2).2.1 d ⟨q,hq,hr⟩
  omega
 ·obtain ⟨p,hp,e⟩:=costL_hit _ _ h
  obtain ⟨q,hq,hr⟩:=(key p (hs p hp).1 (hs p hp).2).2.2 (by rw [e];exact h)
  rw [e] at hr
  exact ⟨p,hp,q,hq,hr⟩
theorem acc_nn {n : Int} {s f : List Int} {t : List Stp} (g : AV n s f t = true) {w : List UInt8} {d : Int} (h : Acc s f t w d) : 0 ≤ d:=by
 obtain ⟨p,_,q,_,hr⟩:=h
 obtain ⟨_,_,_,_,h5⟩:=AV_parts g
 exact Rn_nn' (stp_mem h5) hr
theorem cost_in {n : Int} {s f : List Int} {t : List Stp} (g : AV n s f t = true) {w : ByteArray} (hw : wordB (L w) = true) : 0 ≤ costR n s f t w ∧ costR n s f t w ≤ 1000000:=⟨(cost_runs g hw).nn fun d => acc_nn g,(cost_runs g hw).1⟩
def words4 : List ByteArray:=[⟨#[]⟩,⟨#[97]⟩,⟨#[98]⟩,⟨#[97,97]⟩,⟨#[97,98]⟩,⟨#[98,97]⟩,⟨#[98,98]⟩,⟨#[97,97,97]⟩,⟨#[97,97,98]⟩,⟨#[97,98,97]⟩,⟨#[97,98,98]⟩,⟨#[98,97,97]⟩,⟨#[98,97,98]⟩,⟨#[98,98,97]⟩,⟨#[98,98,98]⟩,⟨#[97,97,97,97]⟩,⟨#[97,97,97,98]⟩,⟨#[97,97,98,97]⟩,⟨#[97,97,98,98]⟩,⟨#[97,98,97,97]⟩,⟨#[97,98,97,98]⟩,⟨#[97,98,98,97]⟩,⟨#[97,98,98,98]⟩,⟨#[98,97,97,97]⟩,⟨#[98,97,97,98]⟩,⟨#[98,97,98,97]⟩,⟨#[98,97,98,98]⟩,⟨#[98,98,97,97]⟩,⟨#[98,98,97,98]⟩,⟨#[98,98,98,97]⟩,⟨#[98,98,98,98]⟩]
theorem short4 : ∀ k,impl_ShortWords.f (k + 100) 4 = some (words4,true):=by
 intro k
 kernel_rfl
theorem iShort4 : Ev (fun k => impl_ShortWords.f k 4) (words4,true):=⟨100,fun k hk => by have:=short4 (k - 100);rwa [Nat.sub_add_cancel hk] at this⟩
theorem words4_ok : ∀ w ∈ words4,wordB (L w) = true ∧ w.size ≤ 4:=by
 have h : words4.all (fun w => wordB w.data.toList && decide (w.size ≤ 4)) = true:=by decide
 intro w hw
 have:=List.all_eq_true.1 h w hw
 rw [Bool.and_eq_true,decide_eq_true_eq] at this
 exact this
theorem at_S {t pre v : List ByteArray} {x : ByteArray} (h : t = pre ++ x :: v) (hl : t.length ≤ 1000000) : (pre.length : Int) < (t.length : Int) ∧ rdS t (pre.length : Int) = x ∧ wrap64 ((pre.length : Int) + 1) = (((pre ++ [x]).length : Nat) : Int):=by
 have e : t.length = pre.length + (v.length + 1):=by rw [h];simp
 refine ⟨by omega,by rw [h];simp [rdS],?_⟩
 rw [w64 (by omega) (by omega)];simp
theorem daSame_ev (a : List Int) (h : a.length ≤ 1000000000) : Ev (fun k => laws_daSame.f k a a) true:=by
 have go : ∀ (t pre : List Int),a = pre ++ t → Ev (fun k => laws_daSame.l0 k a a (a.length : Int) (pre.length : Int)) true:=by
  intro t
  induction t with
  | nil =>
   intro pre hp
   refine Ev.step (f:=fun _ => some (decide ((a.length : Int) = (a.length : Int)))) (fun k => ?_) ((Ev.now _).is (decide_eq_true rfl))
   simp only [laws_daSame.l0];rw [if_neg (by rw [hp];simp)]
  | cons x t ih =>
   intro pre hp
   have hlen : a.length = pre.length + (t.length + 1):=by rw [hp];simp
   have a0 : (pre.length : Int) < (a.length : Int):=by omega
   have e : (((pre ++ [x]).length : Nat) : Int) = wrap64 ((pre.length : Int) + 1):=by rw [w64 (by omega) (by omega)];simp
   have nx:=ih (pre ++ [x]) (by simp [hp])
   rw [e] at nx
   refine Ev.step (fun k => ?_) nx
   simp only [laws_daSame.l0]
   rw [if_pos a0,if_pos (Int.natCast_nonneg _),if_pos a0,if_pos a0,if_pos trivial]
 have e : mn (a.length : Int) (a.length : Int) = (a.length : Int):=by unfold mn;rw [if_neg (by omega)]
 unfold laws_daSame.f
 rw [e]
 exact go a [] rfl
def Tame (r : Int × List Int × List Int × List Stp) : Prop:=r.2.1.length ≤ 1000 ∧ r.2.2.1.length ≤ 1000 ∧ r.2.2.2.length ≤ 1000
theorem daAuto_ev (n : Int) (s f : List Int) (t : List Stp) (hs : s.length ≤ 1000000) (hf : f.length ≤ 1000000) (ht : t.length ≤ 1000000) : Ev (fun k => laws_daAutomaton.f k n s f t n s f t) true:=by
 have e : mn (t.length : Int) (t.length : Int) = (t.length : Int):=by unfold mn;rw [if_neg (by omega)]
 unfold laws_daAutomaton.f
 rw [e]
 refine ev_list t (fun pre k => laws_daAutomaton.l0 k (t.length : Int) (pre.length : Int) n s f t n s f t) (fun pre x v h i1 => ?_) ?_
 ·obtain ⟨a0,hx,wn⟩:=at_T h (by omega)
  refine Ev.step (fun k => ?_) i1
  simp only [laws_daAutomaton.l0]
  rw [if_pos a0,if_pos (Int.natCast_nonneg _),if_pos a0,if_pos a0,hx,if_neg (by simp [eqT]),wn]
 ·refine Ev.step (f:=?f1) (fun k => ?_) ?k1
  rotate_left
  ·simp only [laws_daAutomaton.l0]
   rw [if_neg (by omega)] <;> exact rfl
  ·exact Ev_t trivial (Ev.bind (daSame_ev s (by omega)) (Ev_t rfl (Ev.bind (daSame_ev f (by omega)) (Ev_t rfl ((Ev.now _).is (decide_eq_true trivial))))))
theorem daR_ev (r : At5) (h : Sm r) : Ev (fun k => laws_daAutomaton.f k r.1 r.2.1 r.2.2.1 r.2.2.2.1 r.1 r.2.1 r.2.2.1 r.2.2.2.1) true:=daAuto_ev _ _ _ _ h.1 h.2.1 h.2.2
end Go.Proofs.Ytoeeeafknajkkaa.V
end
section
set_option linter.unusedVariables false
set_option linter.unusedSimpArgs false
namespace Go.Proofs.Ytoeeeafknajkkaa.V
open Go Go.Proofs.Ytoeeeafknajkkaa.R Go.RowKit
open Go.Proofs.YtoeeeafknajkkaaW.PrintWords hiding mn mx
theorem Lst.uniq' {R R' : Int → Prop} {v v' : Int} (h : Lst R v) (h' : Lst R' v') (e : ∀ d,R d → ∃ d',d' ≤ d ∧ R' d') (e' : ∀ d,R' d → ∃ d',d' ≤ d ∧ R d') : v = v':=by
 have a : v ≤ v':=by
  by_cases q : v' < 1000000
  ·obtain ⟨d,h1,h2⟩:=e' v' (h'.2.2 q)
   have:=h.2.1 d h2;omega
  ·have:=h.1;omega
 have b : v' ≤ v:=by
  by_cases q : v < 1000000
  ·obtain ⟨d,h1,h2⟩:=e v (h.2.2 q)
   have:=h'.2.1 d h2;omega
  ·have:=h'.1;omega
 omega
def Dom (t u : List Stp) : Prop := ∀ x ∈ u,∃ z ∈ t,z.f0 = x.f0 ∧ z.f1.toList = x.f1.toList ∧ z.f2 = x.f2 ∧ z.f3 ≤ x.f3
theorem Rn_dom {t u : List Stp} (h : Dom t u) : ∀ {w : List UInt8} {p q d : Int},Rn u w p q d → ∃ d',d' ≤ d ∧ Rn t w p q d'
 | [],_,_,d,g => ⟨d,Int.le_refl _,g⟩
 | _ :: _,_,_,_,⟨s,e,hs,a,b,hr,c⟩ => by
  obtain ⟨z,z0,z1,z2,z3,z4⟩:=h s hs
  obtain ⟨e',h1,h2⟩:=Rn_dom h hr
  exact ⟨z.f3 + e',by omega,z,e',z0,by omega,by rw [z2];exact b,by rw [z3];exact h2,rfl⟩
theorem bef_none {x y : Stp} (h1 : ¬ bef x y = true) (h2 : ¬ bef y x = true) : x.f0 = y.f0 ∧ x.f1 = y.f1 ∧ x.f2 = y.f2:=by
 rw [bef_ord,decide_eq_true_eq] at h1 h2
 have z : ordT x y = 0:=by have:=ordT_neg x y;omega
 obtain ⟨e0,e1,e2⟩:=ordT_zero.1 z
 exact ⟨e0,ByteArray.ext (Array.ext' e1),e2⟩
theorem putL_sub : ∀ {l : List Stp} {s z : Stp},z ∈ putL l s → z = s ∨ z ∈ l
 | [],s,z,h => .inl (by simpa [putL] using h)
 | y :: l,s,z,h => by
  simp only [putL] at h
  by_cases c1 : bef y s = true
  ·rw [if_pos c1] at h
   rcases List.mem_cons.1 h with h|h
   ·exact .inr (by rw [h];simp)
   ·rcases putL_sub h with h|h
    ·exact .inl h
    ·exact .inr (List.mem_cons_of_mem _ h)
  ·rw [if_neg c1] at h
   by_cases c2 : bef s y = true
   ·rw [if_pos c2] at h
    rcases List.mem_cons.1 h with h|h
    ·exact .inl h
    ·exact .inr h
   ·rw [if_neg c2] at h
    rcases List.mem_cons.1 h with h|h
    ·obtain ⟨e0,e1,e2⟩:=bef_none c1 c2
     rw [h]
     unfold mn
     split
     ·left;rw [e0,e1,e2]
     ·right;simp
    ·exact .inr (List.mem_cons_of_mem _ h)
theorem putL_dom : ∀ {l : List Stp} {s x : Stp},x = s ∨ x ∈ l → ∃ z ∈ putL l s,z.f0 = x.f0 ∧ z.f1.toList = x.f1.toList ∧ z.f2 = x.f2 ∧ z.f3 ≤ x.f3
 | [],s,x,h => by
  have : x = s:=by simpa using h
  exact ⟨s,by simp [putL],by rw [this],by rw [this],by rw [this],by rw [this];omega⟩
 | y :: l,s,x,h => by
  simp only [putL]
  by_cases c1 : bef y s = true
  ·rw [if_pos c1]
   have : x = y ∨ (x = s ∨ x ∈ l):=by
    rcases h with h|h
    ·exact .inr (.inl h)
    ·rcases List.mem_cons.1 h with h|h
     ·exact .inl h
     ·exact .inr (.inr h)
   rcases this with h|h
   ·exact ⟨x,by rw [h];simp,rfl,rfl,rfl,Int.le_refl _⟩
   ·obtain ⟨z,z0,z1⟩:=putL_dom h
    exact ⟨z,List.mem_cons_of_mem _ z0,z1⟩
  ·rw [if_neg c1]
   by_cases c2 : bef s y = true
   ·rw [if_pos c2]
    refine ⟨x,?_,rfl,rfl,rfl,Int.le_refl _⟩
    rcases h with h|h
    ·rw [h];simp
    ·exact List.mem_cons_of_mem _ h
   ·rw [if_neg c2]
    obtain ⟨e0,e1,e2⟩:=bef_none c1 c2
    have m:=mn_le1 y.f3 s.f3
    rcases h with h|h
    ·exact ⟨_,List.mem_cons_self,by rw [h];exact e0,by rw [h,← e1],by rw [h];exact e2,by rw [h];exact m.2⟩
    ·rcases List.mem_cons.1 h with h|h
     ·exact ⟨_,List.mem_cons_self,by rw [h],by rw [h],by rw [h],by rw [h];exact m.1⟩
     ·exact ⟨x,List.mem_cons_of_mem _ h,rfl,rfl,rfl,Int.le_refl _⟩
theorem putAll_sub : ∀ {u l : List Stp} {z : Stp},z ∈ putAll l u → z ∈ l ++ u
 | [],l,z,h => by rw [List.append_nil];exact h
 | x :: u,l,z,h => by
  rcases List.mem_append.1 (putAll_sub (l:=putL l x) (u:=u) h) with h|h
  ·rcases putL_sub h with h|h
   ·rw [h];simp
   ·exact List.mem_append_left _ h
  ·exact List.mem_append_right _ (List.mem_cons_of_mem _ h)
theorem putAll_dom : ∀ {u l : List Stp},Dom (putAll l u) (l ++ u)
 | [],l => fun x hx => ⟨x,by rw [List.append_nil] at hx;exact hx,rfl,rfl,rfl,Int.le_refl _⟩
 | y :: u,l => fun x hx => by
  have step : ∀ a ∈ putL l y ++ u,∃ z ∈ putAll l (y :: u),z.f0 = a.f0 ∧ z.f1.toList = a.f1.toList ∧ z.f2 = a.f2 ∧ z.f3 ≤ a.f3:=putAll_dom (u:=u) (l:=putL l y)
  have : (x = y ∨ x ∈ l) ∨ x ∈ u:=by
   rcases List.mem_append.1 hx with h|h
   ·exact .inl (.inr h)
   ·rcases List.mem_cons.1 h with h|h
    ·exact .inl (.inl h)
    ·exact .inr h
  rcases this with h|h
  ·obtain ⟨z,z0,z1,z2,z3,z4⟩:=putL_dom h
   obtain ⟨v,v0,v1,v2,v3,v4⟩:=step z (List.mem_append_left _ z0)
   exact ⟨v,v0,by rw [v1,z1],by rw [v2,z2],by rw [v3,z3],by omega⟩
  ·exact step x (List.mem_append_right _ h)
theorem acc_put {s f : List Int} {l u : List Stp} {w : List UInt8} {v v' : Int} (h : Lst (Acc s f (putAll l u) w) v) (h' : Lst (Acc s f (l ++ u) w) v') : v = v' :=
 h.uniq' h' (fun d ⟨p,hp,q,hq,hr⟩ => ⟨d,Int.le_refl _,p,hp,q,hq,Rn_mono (fun x hx => putAll_sub hx) hr⟩) (fun d ⟨p,hp,q,hq,hr⟩ => by
  obtain ⟨d',h1,h2⟩:=Rn_dom putAll_dom hr
  exact ⟨d',h1,p,hp,q,hq,h2⟩)
theorem lst_put {s f : List Int} {l u : List Stp} {w : List UInt8} {v : Int} (h : Lst (Acc s f (putAll l u) w) v) : Lst (Acc s f (l ++ u) w) v:=by
 refine ⟨h.1,fun d ⟨p,hp,q,hq,hr⟩ => ?_,fun g => ?_⟩
 ·obtain ⟨d',h1,h2⟩:=Rn_dom putAll_dom hr
  have:=h.2.1 d' ⟨p,hp,q,hq,h2⟩
  omega
 ·obtain ⟨p,hp,q,hq,hr⟩:=h.2.2 g
  exact ⟨p,hp,q,hq,Rn_mono (fun x hx => putAll_sub hx) hr⟩
theorem Rn_top {n : Int} {t : List Stp} (ht : ∀ x ∈ t,stepOk n x = true) : ∀ {w : List UInt8} {p q d : Int},Rn t w p q d → d ≤ 3 * (w.length : Int)
 | [],_,_,_,h => by rw [h.2];exact Int.le_refl _
 | c :: w,_,_,_,⟨s,e,hs,_,_,hr,he⟩ => by
  have a:=stepOk_cost (ht s hs)
  have:=Rn_top ht hr
  rw [List.length_cons]
  omega
theorem Rn_scale {m : Int} {t : List Stp} : ∀ {w : List UInt8} {p q D : Int},Rn (t.map (sclS m)) w p q D ↔ ∃ d,Rn t w p q d ∧ D = d * m
 | [],p,q,D => by
  constructor
  ·rintro ⟨h1,h2⟩;exact ⟨0,⟨h1,rfl⟩,by rw [h2,Int.zero_mul]⟩
  ·rintro ⟨d,⟨h1,h2⟩,h3⟩;exact ⟨h1,by rw [h3,h2,Int.zero_mul]⟩
 | c :: w,p,q,D => by
  constructor
  ·rintro ⟨s,e,hs,a,b,hr,hd⟩
   obtain ⟨y,hy,rfl⟩:=List.mem_map.1 hs
   obtain ⟨d',hr',rfl⟩:=Rn_scale.1 hr
   exact ⟨y.f3 + d',⟨y,d',hy,a,b,hr',rfl⟩,by rw [hd,Int.add_mul];rfl⟩
  ·rintro ⟨d,⟨s,e,hs,a,b,hr,hd⟩,hD⟩
   exact ⟨sclS m s,e * m,List.mem_map_of_mem hs,a,b,Rn_scale.2 ⟨e,hr,rfl⟩,by rw [hD,hd,Int.add_mul];rfl⟩
theorem scale_cost {n m : Int} {s f : List Int} {t : List Stp} (hm : 0 ≤ m ∧ m ≤ 3) (g : AV n s f t = true) (g2 : AV n s f (t.map (sclS m)) = true) {w : ByteArray} (hw : wordB (L w) = true) (hz : w.size ≤ 4) : (costR n s f t w = 1000000 ∧ costR n s f (t.map (sclS m)) w = 1000000) ∨ (costR n s f t w ≤ 12 ∧ costR n s f (t.map (sclS m)) w = costR n s f t w * m):=by
 have c1:=cost_runs g hw
 have c2:=cost_runs g2 hw
 obtain ⟨h1,h2,h4,h6,h7⟩:=AV_iff.1 g
 have top : ∀ d,Acc s f t (L w) d → d ≤ 12:=by
  rintro d ⟨p,_,q,_,hr⟩
  have:=Rn_top h6 hr
  rw [← L_size] at this
  omega
 have c0:=cost_in g hw
 by_cases q : costR n s f t w < 1000000
 ·right
  have a:=c1.2.2 q
  have b:=top _ a
  refine ⟨b,?_⟩
  obtain ⟨p,hp,r,hr,hn⟩:=a
  have m1 : costR n s f t w * m ≤ 12 * 3:=Int.mul_le_mul b hm.2 hm.1 (by decide)
  have le:=c2.2.1 (costR n s f t w * m) ⟨p,hp,r,hr,Rn_scale.2 ⟨_,hn,rfl⟩⟩
  obtain ⟨p',hp',r',hr',hn'⟩:=c2.2.2 (by omega)
  obtain ⟨d,hd,e⟩:=Rn_scale.1 hn'
  have ge:=c1.2.1 d ⟨p',hp',r',hr',hd⟩
  have : costR n s f t w * m ≤ d * m:=Int.mul_le_mul_of_nonneg_right ge hm.1
  omega
 ·left
  refine ⟨by omega,?_⟩
  by_cases q2 : costR n s f (t.map (sclS m)) w < 1000000
  ·obtain ⟨p',hp',r',hr',hn'⟩:=c2.2.2 q2
   obtain ⟨d,hd,e⟩:=Rn_scale.1 hn'
   have ge:=c1.2.1 d ⟨p',hp',r',hr',hd⟩
   have:=top d ⟨p',hp',r',hr',hd⟩
   omega
  ·have:=c2.1;omega
theorem costB_ok {x : Int} (h : 0 ≤ x ∧ x ≤ 1000000) : impl_CostValid.f x = some true:=by
 unfold impl_CostValid.f
 rw [if_pos h.1,decide_eq_true h.2]
theorem times_ok {m x : Int} (hm : 0 ≤ m ∧ m ≤ 3) (h : 0 ≤ x ∧ x ≤ 12) : impl_TimesCost.f m x = some (x * m):=by
 unfold impl_TimesCost.f
 rw [if_neg (by omega),costB_ok ⟨h.1,by omega⟩,Option.bind_some,if_pos rfl]
 by_cases e : x = 0
 ·rw [if_pos e,e,Int.zero_mul]
 ·rw [if_neg e]
  unfold impl_times.f
  have t0 : (1000000 : Int).tdiv x = 1000000 / x:=Int.tdiv_eq_ediv_of_nonneg (by decide)
  have t1 : 3 ≤ (1000000 : Int) / x:=(Int.le_ediv_iff_mul_le (by omega)).2 (by omega)
  have t2 : (1000000 : Int) / x ≤ 1000000:=Int.ediv_le_self _ (by decide)
  have m0 : 0 ≤ m * x:=Int.mul_nonneg hm.1 h.1
  have m1 : m * x ≤ 3 * 12:=Int.mul_le_mul hm.2 h.2 h.1 (by decide)
  rw [if_neg e,t0,w64 (x:=1000000 / x) (by omega) (by omega),if_neg (by omega),w64 (x:=m * x) (by omega) (by omega),Option.bind_some,Int.mul_comm]
theorem use_iff {n : Int} {s f : List Int} {t : List Stp} (g : AV n s f t = true) {q : Int} : q ∈ useR n s f t ↔ (0 ≤ q ∧ q < n) ∧ Cl frS toS t s q ∧ Cl toS frS t f q:=by
 obtain ⟨h1,h2,h4,h6,h7⟩:=AV_iff.1 g
 unfold useR
 rw [if_pos g,usl_mem]
 obtain ⟨m,rfl⟩ : ∃ m : Nat,n = (m : Int):=⟨n.toNat,by omega⟩
 rw [Int.toNat_natCast,reach_iff (a:=frS) (c:=toS) (fun x hx => (stepIn h6 x hx).2),reach_iff (a:=toS) (c:=frS) (fun x hx => (stepIn h6 x hx).1)]
theorem Cl_in {a c : Stp → Int} {t : List Stp} {l : List Int} {n : Int} (hl : ∀ q ∈ l,0 ≤ q ∧ q < n) (ht : ∀ x ∈ t,0 ≤ c x ∧ c x < n) {q : Int} (h : Cl a c t l q) : 0 ≤ q ∧ q < n:=by
 cases h with
 | base h => exact hl _ h
 | step h _ => exact ht _ h
theorem use_iff' {n : Int} {s f : List Int} {t : List Stp} (g : AV n s f t = true) {q : Int} : q ∈ useR n s f t ↔ Cl frS toS t s q ∧ Cl toS frS t f q:=by
 obtain ⟨h1,h2,h4,h6,h7⟩:=AV_iff.1 g
 rw [use_iff g]
 exact ⟨fun h => h.2,fun h => ⟨Cl_in h2.1 (fun x hx => (stepIn h6 x hx).2) h.1,h⟩⟩
theorem plc_inj {U : List Int} {p q : Int} (hp : p ∈ U) (hq : q ∈ U) (h : plc U p = plc U q) : p = q:=by
 have lp:=List.idxOf_lt_length_of_mem hp
 have lq:=List.idxOf_lt_length_of_mem hq
 have ep : U[U.idxOf p] = p:=List.getElem_idxOf lp
 have eq : U[U.idxOf q] = q:=List.getElem_idxOf lq
 have e : U.idxOf p = U.idxOf q:=Int.ofNat.inj h
 rw [← ep,← eq]
 simp only [e]
theorem mem_keepT {U : List Int} {t : List Stp} {x : Stp} : x ∈ keepT U t ↔ ∃ y,y ∈ t ∧ y.f0 ∈ U ∧ y.f2 ∈ U ∧ x = plS U y:=by
 unfold keepT
 rw [List.mem_map]
 constructor
 ·rintro ⟨y,hy,rfl⟩
  rw [List.mem_filter,inS_iff] at hy
  exact ⟨y,hy.1,hy.2.1,hy.2.2,rfl⟩
 ·rintro ⟨y,h1,h2,h3,rfl⟩
  exact ⟨y,List.mem_filter.2 ⟨h1,inS_iff.2 ⟨h2,h3⟩⟩,rfl⟩
theorem mem_keepI {U l : List Int} {x : Int} : x ∈ keepI U l ↔ ∃ y,y ∈ l ∧ y ∈ U ∧ x = plc U y:=by
 unfold keepI
 rw [List.mem_map]
 constructor
 ·rintro ⟨y,hy,rfl⟩
  rw [List.mem_filter,decide_eq_true_eq] at hy
  exact ⟨y,hy.1,hy.2,rfl⟩
 ·rintro ⟨y,h1,h2,rfl⟩
  exact ⟨y,List.mem_filter.2 ⟨h1,decide_eq_true h2⟩,rfl⟩
theorem Rn_kept {U : List Int} {t : List Stp} : ∀ {w : List UInt8} {p Q d : Int},p ∈ U → Rn (keepT U t) w (plc U p) Q d → ∃ q,q ∈ U ∧ Q = plc U q ∧ Rn t w p q d
 | [],p,Q,d,hp,h => ⟨p,hp,h.1.symm,rfl,h.2⟩
 | c :: w,p,Q,d,hp,⟨s,e,hs,a,b,hr,hd⟩ => by
  obtain ⟨y,h1,h2,h3,rfl⟩:=mem_keepT.1 hs
  obtain ⟨q,r1,r2,r3⟩:=Rn_kept (p:=y.f2) h3 hr
  exact ⟨q,r1,r2,y,e,h1,plc_inj h2 hp a,b,r3,hd⟩
theorem Rn_home {t : List Stp} {f : List Int} : ∀ {w : List UInt8} {p q d : Int},Rn t w p q d → Cl toS frS t f q → Cl toS frS t f p
 | [],_,_,_,h,g => by rw [h.1];exact g
 | c :: w,p,q,d,⟨s,e,hs,a,b,hr,hd⟩,g => by rw [← a];exact Cl.step (a:=toS) (c:=frS) hs (Rn_home hr g)
theorem Rn_keep {n : Int} {s f : List Int} {t : List Stp} (g : AV n s f t = true) : ∀ {w : List UInt8} {p q d : Int},Rn t w p q d → Cl frS toS t s p → Cl toS frS t f q → p ∈ useR n s f t ∧ q ∈ useR n s f t ∧ Rn (keepT (useR n s f t) t) w (plc (useR n s f t) p) (plc (useR n s f t) q) d
 | [],p,q,d,h,h1,h2 => by
  obtain ⟨rfl,h⟩:=h
  have:=(use_iff' g).2 ⟨h1,h2⟩
  exact ⟨this,this,rfl,h⟩
 | c :: w,p,q,d,⟨x,e,hs,a,b,hr,hd⟩,h1,h2 => by
  have x1 : Cl frS toS t s x.f2:=Cl.step (a:=frS) (c:=toS) hs (by show Cl frS toS t s x.f0;rw [a];exact h1)
  obtain ⟨k1,k2,k3⟩:=Rn_keep g hr x1 h2
  have hp : p ∈ useR n s f t:=(use_iff' g).2 ⟨h1,Rn_home (w:=c :: w) ⟨x,e,hs,a,b,hr,hd⟩ h2⟩
  exact ⟨hp,k2,plS (useR n s f t) x,e,mem_keepT.2 ⟨x,hs,by rw [a];exact hp,k1,rfl⟩,by show plc (useR n s f t) x.f0 = _;rw [a],b,k3,hd⟩
theorem acc_trim {n : Int} {s f : List Int} {t : List Stp} (g : AV n s f t = true) (w : List UInt8) (d : Int) : Acc (keepI (useR n s f t) s) (keepI (useR n s f t) f) (keepT (useR n s f t) t) w d ↔ Acc s f t w d:=by
 constructor
 ·rintro ⟨P,hP,Q,hQ,hr⟩
  obtain ⟨p,p1,p2,rfl⟩:=mem_keepI.1 hP
  obtain ⟨q,q1,q2,rfl⟩:=mem_keepI.1 hQ
  obtain ⟨q',r1,r2,r3⟩:=Rn_kept p2 hr
  have e:=plc_inj q2 r1 r2
  subst e
  exact ⟨p,p1,q,q1,r3⟩
 ·rintro ⟨p,hp,q,hq,hr⟩
  obtain ⟨k1,k2,k3⟩:=Rn_keep g hr (.base hp) (.base hq)
  exact ⟨_,mem_keepI.2 ⟨p,hp,k1,rfl⟩,_,mem_keepI.2 ⟨q,hq,k2,rfl⟩,k3⟩
theorem Cl_there {n : Int} {s f : List Int} {t : List Stp} (g : AV n s f t = true) {q : Int} (h : Cl frS toS t s q) : Cl toS frS t f q → Cl frS toS (keepT (useR n s f t) t) (keepI (useR n s f t) s) (plc (useR n s f t) q):=by
 induction h with
 | base h => intro h2;exact .base (mem_keepI.2 ⟨_,h,(use_iff' g).2 ⟨.base h,h2⟩,rfl⟩)
 | @step x hx h1 ih =>
  intro h2
  have hb : Cl toS frS t f (frS x):=Cl.step (a:=toS) (c:=frS) hx h2
  have i:=ih hb
  have m : plS (useR n s f t) x ∈ keepT (useR n s f t) t:=mem_keepT.2 ⟨x,hx,(use_iff' g).2 ⟨h1,hb⟩,(use_iff' g).2 ⟨Cl.step (a:=frS) (c:=toS) hx h1,h2⟩,rfl⟩
  exact Cl.step (a:=frS) (c:=toS) m i
theorem Cl_back {n : Int} {s f : List Int} {t : List Stp} (g : AV n s f t = true) {q : Int} (h : Cl toS frS t f q) : Cl frS toS t s q → Cl toS frS (keepT (useR n s f t) t) (keepI (useR n s f t) f) (plc (useR n s f t) q):=by
 induction h with
 | base h => intro h2;exact .base (mem_keepI.2 ⟨_,h,(use_iff' g).2 ⟨h2,.base h⟩,rfl⟩)
 | @step x hx h1 ih =>
  intro h2
  have hb : Cl frS toS t s (toS x):=Cl.step (a:=frS) (c:=toS) hx h2
  have i:=ih hb
  have m : plS (useR n s f t) x ∈ keepT (useR n s f t) t:=mem_keepT.2 ⟨x,hx,(use_iff' g).2 ⟨h2,Cl.step (a:=toS) (c:=frS) hx h1⟩,(use_iff' g).2 ⟨hb,h1⟩,rfl⟩
  exact Cl.step (a:=toS) (c:=frS) m i
theorem useR_eq {n : Int} {s f : List Int} {t : List Stp} (g : AV n s f t = true) : useR n s f t = usl (itw frS toS t n.toNat (ini s)) (itw toS frS t n.toNat (ini f)) n.toNat:=if_pos g
theorem usl_all {A B : Int → Bool} : ∀ {n : Nat},(∀ i : Nat,i < n → A (i : Int) = true ∧ B (i : Int) = true) → (usl A B n).length = n
 | 0,_ => rfl
 | n + 1,h => by
  rw [usl_succ,if_pos (h n (Nat.lt_succ_self n)),List.length_append,usl_all (n:=n) fun i hi => h i (by omega)]
  rfl
theorem trim_use {n : Int} {s f : List Int} {t : List Stp} (h : useR n s f t ≠ []) : (useR ((useR n s f t).length : Int) (keepI (useR n s f t) s) (keepI (useR n s f t) f) (keepT (useR n s f t) t)).length = (useR n s f t).length:=by
 have g:=use_AV h
 have ua:=use_asc n s f t
 have g2:=trim_AV h
 obtain ⟨_,_,_,h6,_⟩:=AV_iff.1 g2
 have e : useR ((useR n s f t).length : Int) (keepI (useR n s f t) s) (keepI (useR n s f t) f) (keepT (useR n s f t) t) = usl (itw frS toS (keepT (useR n s f t) t) (useR n s f t).length (ini (keepI (useR n s f t) s))) (itw toS frS (keepT (useR n s f t) t) (useR n s f t).length (ini (keepI (useR n s f t) f))) (useR n s f t).length:=by
  rw [useR_eq g2,Int.toNat_natCast]
 rw [e]
 refine usl_all fun i hi => ?_
 rw [reach_iff (a:=frS) (c:=toS) (fun x hx => (stepIn h6 x hx).2),reach_iff (a:=toS) (c:=frS) (fun x hx => (stepIn h6 x hx).1)]
 have hm : (useR n s f t)[i] ∈ useR n s f t:=List.getElem_mem hi
 have ep : plc (useR n s f t) (useR n s f t)[i] = (i : Int):=by
  refine (plc_at ua (pre:=(useR n s f t).take i) (v:=(useR n s f t).drop (i + 1)) ?_).trans ?_
  ·rw [List.getElem_cons_drop,List.take_append_drop]
  ·rw [List.length_take];omega
 obtain ⟨u1,u2⟩:=(use_iff' g).1 hm
 have a:=Cl_there g u1 u2
 have b:=Cl_back g u2 u1
 rw [ep] at a b
 exact ⟨a,b⟩
theorem trim_ok {n : Int} {s f : List Int} {t : List Stp} (h : useR n s f t ≠ []) {w : ByteArray} (hw : wordB (L w) = true) : costR ((useR n s f t).length : Int) (keepI (useR n s f t) s) (keepI (useR n s f t) f) (keepT (useR n s f t) t) w = costR n s f t w:=(cost_runs (trim_AV h) hw).uniq (cost_runs (use_AV h) hw) (acc_trim (use_AV h) (L w))
theorem trim_no {n : Int} {s f : List Int} {t : List Stp} (g : AV n s f t = true) (h : useR n s f t = []) {w : ByteArray} (hw : wordB (L w) = true) : costR n s f t w = 1000000:=by
 have c:=cost_runs g hw
 by_cases q : costR n s f t w < 1000000
 ·obtain ⟨p,hp,r,hr,hn⟩:=c.2.2 q
  have:=(Rn_keep g hn (.base hp) (.base hr)).1
  rw [h] at this
  exact absurd this (by simp)
 ·have:=c.1;omega
theorem costR_inv {n : Int} {s f : List Int} {t : List Stp} {w : ByteArray} (h : ¬ AV n s f t = true) : costR n s f t w = -1:=if_neg fun q => h q.1
theorem drawScale_r (l : List Int) (hb : Bytes l) : ∃ (r : Int × List Int × List Int × List Stp) (m : Int),Tame r ∧ Ev (fun k => spec_DrawScaleAutomaton.f k l) (r.1,r.2.1,r.2.2.1,r.2.2.2,m):=by
 obtain ⟨z,z1,z2,z3⟩:=open_r l hb
 obtain ⟨r,s',g1,g2,g3⟩:=any_r z z1 z2
 obtain ⟨m,_,p⟩:=num_r z z1 z2 s' (by omega) [1,0,2,3,4,(-1)] (by simp) (by simp)
 refine ⟨r,m,g1,?_⟩
 unfold spec_DrawScaleAutomaton.f
 exact Ev.bind (ev_some (fun _ => z3)) (Ev.bind g3 (Ev.bind (ev_some (fun _ => p)) (Ev.now _)))
theorem drawTrim_r (l : List Int) (hb : Bytes l) : ∃ (r : Int × List Int × List Int × List Stp),Tame r ∧ Ev (fun k => spec_DrawTrimAutomaton.f k l) (r.1,r.2.1,r.2.2.1,r.2.2.2):=by
 obtain ⟨z,z1,z2,z3⟩:=open_r l hb
 obtain ⟨a,s1,a1,a2,a3⟩:=draw_q z z1 z2 4 (by omega) (by omega) 0 (by omega)
 obtain ⟨r,s2,g1,g2,g3⟩:=bad_q z z1 z2 a a1 s1 (by omega)
 refine ⟨r,g1,?_⟩
 unfold spec_DrawTrimAutomaton.f
 exact Ev.bind (ev_some (fun _ => z3)) (Ev.bind a3 (Ev.bind (ev_some (fun _ => g3)) (Ev.now _)))
theorem scale_ok {n m : Int} {s f : List Int} {t : List Stp} (h : (scaleR n s f t m).2.2.2.2 = true) : AV n s f t = true ∧ (0 ≤ m ∧ m ≤ 3) ∧ AV n s f (t.map (sclS m)) = true ∧ scaleR n s f t m = (n,s,f,t.map (sclS m),true):=by
 unfold scaleR at h ⊢
 by_cases g : AV n s f t = true ∧ 0 ≤ m ∧ m ≤ 3
 ·rw [if_pos g] at h ⊢
  unfold wholeR at h ⊢
  by_cases g2 : AV n s f (t.map (sclS m)) = true
  ·rw [if_pos g2];exact ⟨g.1,g.2,g2,rfl⟩
  ·rw [if_neg g2] at h;exact absurd h (by simp)
 ·rw [if_neg g] at h;exact absurd h (by simp)
theorem scaleLoop (m n : Int) (s f : List Int) (t : List Stp) (ok fine : Bool) (bn : Int) (bs bf : List Int) (btI : List Stp) (cn : Int) (cs cf : List Int) (ct : List Stp) (dn : Int) (ds df : List Int) (dt : List Stp)
  (z1 : s.length ≤ 1000) (z2 : f.length ≤ 1000) (z3 : t.length ≤ 1000) (y1 : bs.length ≤ 1000000) (y2 : bf.length ≤ 1000000) (y3 : btI.length ≤ 1000000) (x1 : cs.length ≤ 1000) (x2 : cf.length ≤ 1000) (x3 : ct.length ≤ 1000) (u1 : ds.length ≤ 1000000) (u2 : df.length ≤ 1000000) (u3 : dt.length ≤ 1000000)
  (hb : ok = true → (0 ≤ m ∧ m ≤ 3) ∧ ∀ w : ByteArray,wordB (L w) = true → w.size ≤ 4 → ((costR n s f t w = 1000000 ∧ costR bn bs bf btI w = 1000000) ∨ ((0 ≤ costR n s f t w ∧ costR n s f t w ≤ 12) ∧ costR bn bs bf btI w = costR n s f t w * m)))
  (hd1 : fine = true → ∀ w : ByteArray,wordB (L w) = true → costR dn ds df dt w = costR cn cs cf ct w)
  (hd0 : fine = false → AV cn cs cf ct = true → ∀ w : ByteArray,wordB (L w) = true → costR cn cs cf ct w = 1000000)
  (fin : Ev (fun k => if fine = true then (impl_UsefulOf.f k dn ds df dt).bind fun t46 => some (decide ((t46.length : Int) = dn)) else some true) true) :
  Ev (fun k => laws_FnScale.l0 k m ok fine words4 (words4.length : Int) 0 n s f t bn bs bf btI cn cs cf ct dn ds df dt) true:=by
 have key:=ev_list (r:=true) words4 (fun pre k => laws_FnScale.l0 k m ok fine words4 (words4.length : Int) (pre.length : Int) n s f t bn bs bf btI cn cs cf ct dn ds df dt) (fun pre x v h i1 => ?_) ?_
 ·exact key
 ·obtain ⟨a0,hx,wn⟩:=at_S h (by decide)
  obtain ⟨w1,w2⟩:=words4_ok x (by rw [h];simp)
  have ca:=iCostOf n s f t x (by omega) (by omega) (by omega) (by omega)
  have cb:=iCostOf bn bs bf btI x (by omega) (by omega) (by omega) (by omega)
  have cc:=iCostOf cn cs cf ct x (by omega) (by omega) (by omega) (by omega)
  have cd:=iCostOf dn ds df dt x (by omega) (by omega) (by omega) (by omega)
  have fp : Ev (fun k => if fine = true then (impl_CostOf.f k dn ds df dt x).bind fun t14 => (impl_CostOf.f k cn cs cf ct x).bind fun t15 => (if t14 = t15 then (laws_FnScale.l0 k m ok fine words4 (words4.length : Int) (((pre ++ [x]).length : Nat) : Int) n s f t bn bs bf btI cn cs cf ct dn ds df dt) else some false) else (impl_AutomatonValid.f k cn cs cf ct).bind fun t18 => (if t18 = true then (impl_CostOf.f k cn cs cf ct x).bind fun t19 => (if t19 = 1000000 then (laws_FnScale.l0 k m ok fine words4 (words4.length : Int) (((pre ++ [x]).length : Nat) : Int) n s f t bn bs bf btI cn cs cf ct dn ds df dt) else some false) else (laws_FnScale.l0 k m ok fine words4 (words4.length : Int) (((pre ++ [x]).length : Nat) : Int) n s f t bn bs bf btI cn cs cf ct dn ds df dt))) true:=by
   by_cases hf : fine = true
   ·exact Ev_t hf (Ev.bind cd (Ev.bind cc (Ev_t (hd1 hf x w1) i1)))
   ·refine Ev_f hf (Ev.bind (iAV cn cs cf ct (by omega) (by omega) (by omega)) ?_)
    by_cases g : AV cn cs cf ct = true
    ·exact Ev_t g (Ev.bind cc (Ev_t (hd0 (Bool.eq_false_iff.2 hf) g x w1) i1))
    ·exact Ev_f g i1
  refine Ev.step (f:=?f1) (fun k => ?_) ?k1
  rotate_left
  ·simp only [laws_FnScale.l0]
   rw [if_pos a0,if_pos (Int.natCast_nonneg _),if_pos a0,hx,wn] <;> exact rfl
  ·refine Ev.bind ca ?_
   by_cases ho : ok = true
   ·obtain ⟨hm,hb⟩:=hb ho
    refine Ev_t ho ?_
    rcases hb x w1 w2 with ⟨e1,e2⟩ | ⟨e1,e2⟩
    ·exact Ev_t e1 (Ev.bind cb (Ev_t e2 (Ev_f (by omega) fp)))
    ·exact Ev_f (by omega) (Ev_t (by omega) (Ev.bind cb (Ev_o (times_ok hm e1) (Ev_t e2 fp))))
   ·exact Ev_f ho fp
 ·refine Ev.step (f:=?f2) (fun k => ?_) ?k2
  rotate_left
  ·simp only [laws_FnScale.l0]
   rw [if_neg (by omega)] <;> exact rfl
  ·exact fin
theorem PureFnScale (l : List Int) (l' : List Int) (e0 : l.length ≤ maxLen) (e1 : ∀ x ∈ l,(Lit.int .u8 x).wf = true) (e2 : l.length * 1 ≤ 140737488351232) (g0 : l'.length ≤ maxLen) (g1 : ∀ x ∈ l',(Lit.int .u8 x).wf = true) (g2 : l'.length * 1 ≤ 140737488351232) : ∃ k,laws_FnScale.f k l l' = some true:=by
 refine Ev.rounds (g:=fun k => laws_FnScale.f k l l') (r:=true) ?_
 unfold laws_FnScale.f
 by_cases h0 : (l.length : Int) > 1048576
 ·exact Ev_t h0 (Ev.now _)
 refine Ev_f h0 ?_
 by_cases h0' : (l'.length : Int) > 1048576
 ·exact Ev_t h0' (Ev.now _)
 refine Ev_f h0' ?_
 obtain ⟨⟨n,s,f,t⟩,m,⟨ls,lf,lt⟩,hd⟩:=drawScale_r l (bytes_of e1)
 obtain ⟨⟨cn,cs,cf,ct⟩,⟨ls2,lf2,lt2⟩,hd2⟩:=drawTrim_r l' (bytes_of g1)
 have ls : s.length ≤ 1000:=ls
 have lf : f.length ≤ 1000:=lf
 have lt : t.length ≤ 1000:=lt
 have ls2 : cs.length ≤ 1000:=ls2
 have lf2 : cf.length ≤ 1000:=lf2
 have lt2 : ct.length ≤ 1000:=lt2
 have hbs:=scale_sm n s f t m
 have hds:=trim_sm cn cs cf ct
 have da:=daR_ev (scaleR n s f t m) hbs
 have da2:=daR_ev (trimR cn cs cf ct) hds
 have b1:=iScale n s f t m (by omega) (by omega) (by omega)
 have b2:=sScale n s f t m (by omega) (by omega) (by omega)
 have c1:=iTrim cn cs cf ct (by omega) (by omega) (by omega)
 have c2:=sTrim cn cs cf ct (by omega) (by omega) (by omega)
 have ob : (scaleR n s f t m).2.2.2.2 = true → (0 ≤ m ∧ m ≤ 3) ∧ ∀ w : ByteArray,wordB (L w) = true → w.size ≤ 4 → ((costR n s f t w = 1000000 ∧ costR (scaleR n s f t m).1 (scaleR n s f t m).2.1 (scaleR n s f t m).2.2.1 (scaleR n s f t m).2.2.2.1 w = 1000000) ∨ ((0 ≤ costR n s f t w ∧ costR n s f t w ≤ 12) ∧ costR (scaleR n s f t m).1 (scaleR n s f t m).2.1 (scaleR n s f t m).2.2.1 (scaleR n s f t m).2.2.2.1 w = costR n s f t w * m)):=by
  intro h
  obtain ⟨k1,k2,k3,k4⟩:=scale_ok h
  rw [k4]
  refine ⟨k2,fun w w1 w2 => ?_⟩
  rcases scale_cost k2 k1 k3 w1 w2 with h|h
  ·exact .inl h
  ·exact .inr ⟨⟨(cost_in k1 w1).1,h.1⟩,h.2⟩
 have od1 : (trimR cn cs cf ct).2.2.2.2 = true → ∀ w : ByteArray,wordB (L w) = true → costR (trimR cn cs cf ct).1 (trimR cn cs cf ct).2.1 (trimR cn cs cf ct).2.2.1 (trimR cn cs cf ct).2.2.2.1 w = costR cn cs cf ct w:=by
  intro h w w1
  unfold trimR at h ⊢
  by_cases q : useR cn cs cf ct = []
  ·rw [if_pos q] at h;exact absurd h (by simp [noneR])
  ·rw [if_neg q];exact trim_ok q w1
 have od0 : (trimR cn cs cf ct).2.2.2.2 = false → AV cn cs cf ct = true → ∀ w : ByteArray,wordB (L w) = true → costR cn cs cf ct w = 1000000:=by
  intro h g w w1
  unfold trimR at h
  by_cases q : useR cn cs cf ct = []
  ·exact trim_no g q w1
  ·rw [if_neg q] at h;exact absurd h (by simp)
 have fin : Ev (fun k => if (trimR cn cs cf ct).2.2.2.2 = true then (impl_UsefulOf.f k (trimR cn cs cf ct).1 (trimR cn cs cf ct).2.1 (trimR cn cs cf ct).2.2.1 (trimR cn cs cf ct).2.2.2.1).bind fun t46 => some (decide ((t46.length : Int) = (trimR cn cs cf ct).1)) else some true) true:=by
  by_cases h : (trimR cn cs cf ct).2.2.2.2 = true
  ·refine Ev_t h ?_
   unfold trimR at h hds ⊢
   by_cases q : useR cn cs cf ct = []
   ·rw [if_pos q] at h;exact absurd h (by simp [noneR])
   ·rw [if_neg q] at hds ⊢
    have k1:=hds.1
    have k2:=hds.2.1
    have k3:=hds.2.2
    refine Ev.bind (iUse _ _ _ _ (Nat.le_trans k1 (by decide)) (Nat.le_trans k2 (by decide)) (Nat.le_trans k3 (by decide))) ((Ev.now _).is (decide_eq_true ?_))
    exact congrArg (fun (x : Nat) => (x : Int)) (trim_use q)
  ·exact Ev_f h (Ev.now _)
 obtain ⟨⟨bn,bs,bf,btI,ok⟩,hB⟩ : ∃ r,scaleR n s f t m = r:=⟨_,rfl⟩
 obtain ⟨⟨dn,ds,df,dt,fine⟩,hD⟩ : ∃ r,trimR cn cs cf ct = r:=⟨_,rfl⟩
 rw [hB] at hbs da b1 b2 ob
 rw [hD] at hds da2 c1 c2 od1 od0 fin
 have v1 : bs.length ≤ 1000000:=hbs.1
 have v2 : bf.length ≤ 1000000:=hbs.2.1
 have v3 : btI.length ≤ 1000000:=hbs.2.2
 have v4 : ds.length ≤ 1000000:=hds.1
 have v5 : df.length ≤ 1000000:=hds.2.1
 have v6 : dt.length ≤ 1000000:=hds.2.2
 refine Ev.bind hd (Ev.bind b1 (Ev.bind b2 (Ev.bind hd2 (Ev.bind c1 (Ev.bind c2 (Ev.bind da (Ev_t rfl (Ev_f (by simp) (Ev.bind da2 (Ev_t rfl (Ev_f (by simp) (Ev.bind iShort4 ?_))))))))))))
 exact scaleLoop m n s f t ok fine bn bs bf btI cn cs cf ct dn ds df dt ls lf lt v1 v2 v3 ls2 lf2 lt2 v4 v5 v6 ob od1 od0 fin
end Go.Proofs.Ytoeeeafknajkkaa.V
end
