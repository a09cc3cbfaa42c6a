import Derived.Test.YtoeeeafknajkkaaQFnExactChainAutomaton2
import Derived.Test.YtoeeeafknajkkaaQFnExactChainAutomaton4
import Derived.Deep.Slices
import Derived.Deep.Fields
import Derived.ChangeSame
import Derived.ChangeSlices
import Derived.Lib.SmallJoins
import Derived.WalkKit
import Derived.ProofKit
import Derived.OpenShut
import Derived.ShutString
import Derived.ChangeOld
import Derived.Below
import Derived.Test.YtoeeeafknajkkaaQFnExactChainAutomaton5
import Derived.Lib.Bytealg
import Derived.Lib.Repeat
import Derived.Test.YtoeeeafknajkkaaQFnExactChainAutomaton3
section
namespace Go.Proofs.Ytoeeeafknajkkaa.V
open Go Go.Proofs.Ytoeeeafknajkkaa.R Go.RowKit Go.Proofs.Ytoeeeafknajkkaa.X Go.ChangeShapes Go.WideShapes Go.Deep Go.Proofs.YtoeeeafknajkkaaW.PrintWords Go.Proofs.YtoeeeafknajkkaaW.PrintLast Go.Proofs.YtoeeeafknajkkaaW.PrintMore
set_option linter.unusedVariables false
open Go.ChangeShapes Go.WideShapes Go.Deep
theorem field_ints {H : Type} {enc : TypeId × Value → H} {P : Program} {w : World} {base : Nat} {spare : Nat → Bool} {held : Bool} {t e : TypeId} {k : IntKind} {fuel : Nat} {v : Value} {x : DataW H × List MemPlace}
  (ht : P.underlying t = some (.slice e)) (he : P.underlying e = some (.int k)) (hc : P.cellsOf e = 1) (h : DataW.trod enc P w base spare held fuel t [v] = some x) :
  ∃ (A : Option Addr) (c : Nat) (l : List Int),v = .slice A l.length c ∧ Kd.C (Kd.int k) w A l.length l ∧ l.length ≤ c ∧ l.length ≤ maxLen ∧ ∀ n ∈ l,(Lit.int k n).wf = true:=by
 rcases open_ints ht he hc h with ⟨hcs,_⟩ | ⟨a,len,cap,zs,hcs,_,hl,hm,hz,_,hcell,hwf⟩
 ·simp at hcs
  obtain ⟨l,h1,h2,h3,h4,h5⟩:=ReadsInt.ofRowC (k:=k) (w:=w) (a:=none) (len:=0) (cap:=0) (zs:=[]) (.inl ⟨rfl,rfl,rfl,rfl⟩)
  exact ⟨none,0,l,by rw [hcs,← h1],Kd.C_of_reads (d:=(0 : Int)) (h1:=fun _ => rfl) h2,h5,h3,h4⟩
 ·simp at hcs
  have hr : ∃ l : List Int,len = l.length ∧ ReadsInt w k (some a) l.length l ∧ l.length ≤ maxLen ∧ (∀ x ∈ l,(Lit.int k x).wf = true):=by
   refine ⟨zs.take len,?_,?_,?_,fun x hx => hwf x (List.mem_of_mem_take hx)⟩
   ·rw [List.length_take,hz];split <;> omega
   ·have hlen : (zs.take len).length = len:=by rw [List.length_take,hz];split <;> omega
    refine ⟨rfl,by rw [hlen];exact Nat.le_trans hl hm,fun hn => ⟨a,rfl,fun j hj => ?_⟩⟩
    rw [hlen] at hj
    have hj2 : j < zs.length:=by rw [hz];split <;> omega
    rw [hcell j hj2]
    simp [List.getD_eq_getElem?_getD,hj]
   ·rw [List.length_take];exact Nat.le_trans (Nat.min_le_left _ _) (Nat.le_trans hl hm)
  obtain ⟨l,h1,h2,h3,h4⟩:=hr
  exact ⟨some a,cap,l,by rw [hcs,← h1],Kd.C_of_reads (d:=(0 : Int)) (h1:=fun _ => rfl) h2,by omega,h3,h4⟩
theorem field_int {H : Type} {enc : TypeId × Value → H} {P : Program} {w : World} {base : Nat} {spare : Nat → Bool} {held : Bool} {t : TypeId} {k : IntKind} {fuel : Nat} {v : Value} {x : DataW H × List MemPlace}
  (ht : P.underlying t = some (.int k)) (h : DataW.trod enc P w base spare held fuel t [v] = some x) : ∃ n : Int,v = .int k n ∧ (Lit.int k n).wf = true:=by
 obtain ⟨n,h1,_,h2⟩:=DataW.trod_int ht h
 simp at h1
 exact ⟨n,h1,h2⟩
theorem field_str {H : Type} {enc : TypeId × Value → H} {P : Program} {w : World} {base : Nat} {spare : Nat → Bool} {held : Bool} {t : TypeId} {fuel : Nat} {v : Value} {x : DataW H × List MemPlace}
  (ht : P.underlying t = some .string) (h : DataW.trod enc P w base spare held fuel t [v] = some x) : ∃ s : ByteArray,v = .string s ∧ s.size ≤ maxLen:=by
 obtain ⟨s,h1,_,h2⟩:=DataW.trod_string ht h
 simp at h1
 exact ⟨s,h1,h2⟩
open Go.ChangeShapes Go.WideShapes Go.Deep
set_option maxRecDepth 100000 in
theorem field_steps {H : Type} {enc : TypeId × Value → H} {w : World} {base : Nat} {spare : Nat → Bool} {held : Bool} {fuel : Nat} {v : Value} {x : DataW H × List MemPlace}
  (h : DataW.trod enc Try.prog w base spare held fuel 23 [v] = some x) :
  ∃ (A : Option Addr) (c : Nat) (l : List Stp),v = .slice A l.length c ∧ StepRow w A l ∧ l.length ≤ c ∧ l.length ≤ maxLen ∧ ∀ s ∈ l,(Lit.int .i64 s.f0).wf = true ∧ s.f1.size ≤ maxLen ∧ (Lit.int .i64 s.f2).wf = true ∧ (Lit.int .i64 s.f3).wf = true:=by
 rcases open_slice Try.underlying23 h with ⟨hcs,_⟩ | ⟨a,len,cap,m,n,D,Pl,hcs,_,hl,hm,hmm,_,hi⟩
 ·simp at hcs
  exact ⟨none,0,[],hcs,fun h => absurd h (by simp),Nat.le_refl _,by simp,fun s hs => by cases hs⟩
 ·simp at hcs
  have hlm : len ≤ m:=by rw [hmm];split <;> omega
  have one : ∀ i,i < len → ∃ s : Stp,(∀ u : Nat,∀ y,[Value.int .i64 s.f0,.string s.f1,.int .i64 s.f2,.int .i64 s.f3][u]? = some y → w.cell? (a.add (i * 4 + u)) = some y) ∧ (Lit.int .i64 s.f0).wf = true ∧ s.f1.size ≤ maxLen ∧ (Lit.int .i64 s.f2).wf = true ∧ (Lit.int .i64 s.f3).wf = true:=by
   intro i hil
   obtain ⟨cs',hc,ht'⟩:=hi i (by omega)
   rw [show Try.prog.cellsOf 103 = 4 by kernel_rfl] at hc
   obtain ⟨_,hcl,hat⟩:=World.cells?_some hc
   match cs',hcl with
   | [q0,q1,q2,q3],_ =>
   obtain ⟨y0,y1,y2,y3,n',_,_,t0,t1,t2,t3⟩:=Go.Joins.trod_struct4 Try.underlying103 ht'
   have ei : Try.prog.cellsOf 3 = 1:=by kernel_rfl
   have es : Try.prog.cellsOf 9 = 1:=by kernel_rfl
   have t0 : DataW.trod enc Try.prog w base spare held n' 3 [q0] = some y0:=by simpa [ei,es] using t0
   have t1 : DataW.trod enc Try.prog w base spare held n' 9 [q1] = some y1:=by simpa [ei,es] using t1
   have t2 : DataW.trod enc Try.prog w base spare held n' 3 [q2] = some y2:=by simpa [ei,es] using t2
   have t3 : DataW.trod enc Try.prog w base spare held n' 3 [q3] = some y3:=by simpa [ei,es] using t3
   have hat' : ∀ u,u < 4 → w.cell? (a.add (i * 4 + u)) = [q0,q1,q2,q3][u]?:=fun u hu => by rw [← Go.Deep.add_add];exact hat u hu
   have c0:=hat' 0 (by omega)
   have c1:=hat' 1 (by omega)
   have c2:=hat' 2 (by omega)
   have c3:=hat' 3 (by omega)
   clear hat hat' hc ht'
   obtain ⟨z0,rfl,w0⟩:=field_int Try.underlying3 t0
   obtain ⟨z1,rfl,w1⟩:=field_str Try.underlying9 t1
   obtain ⟨z2,rfl,w2⟩:=field_int Try.underlying3 t2
   obtain ⟨z3,rfl,w3⟩:=field_int Try.underlying3 t3
   refine ⟨⟨z0,z1,z2,z3⟩,?_,w0,w1,w2,w3⟩
   intro u y hu
   match u,hu with
   | 0,hu => obtain rfl:=Option.some.inj hu;exact c0
   | 1,hu => obtain rfl:=Option.some.inj hu;exact c1
   | 2,hu => obtain rfl:=Option.some.inj hu;exact c2
   | 3,hu => obtain rfl:=Option.some.inj hu;exact c3
   | u + 4,hu => simp at hu
  obtain ⟨l,hll,hlp⟩ : ∃ l : List Stp,l.length = len ∧ ∀ i s,l[i]? = some s → (∀ u : Nat,∀ y,[Value.int .i64 s.f0,.string s.f1,.int .i64 s.f2,.int .i64 s.f3][u]? = some y → w.cell? (a.add (i * 4 + u)) = some y) ∧ (Lit.int .i64 s.f0).wf = true ∧ s.f1.size ≤ maxLen ∧ (Lit.int .i64 s.f2).wf = true ∧ (Lit.int .i64 s.f3).wf = true:=by
   have : ∀ q,q ≤ len → ∃ l : List Stp,l.length = q ∧ ∀ i s,l[i]? = some s → (∀ u : Nat,∀ y,[Value.int .i64 s.f0,.string s.f1,.int .i64 s.f2,.int .i64 s.f3][u]? = some y → w.cell? (a.add (i * 4 + u)) = some y) ∧ (Lit.int .i64 s.f0).wf = true ∧ s.f1.size ≤ maxLen ∧ (Lit.int .i64 s.f2).wf = true ∧ (Lit.int .i64 s.f3).wf = true:=by
    intro q
    induction q with
    | zero => intro _;exact ⟨[],rfl,fun i s h => by simp at h⟩
    | succ q ih =>
     intro hq
     obtain ⟨l,h1,h2⟩:=ih (by omega)
     obtain ⟨s,hs⟩:=one q (by omega)
     refine ⟨l ++ [s],by simp [h1],fun i s' h => ?_⟩
     by_cases e : i < l.length
     ·rw [List.getElem?_append_left e] at h;exact h2 i s' h
     ·rw [List.getElem?_append_right (by omega)] at h
      have : i = q:=by
       have:=(List.getElem?_eq_some_iff.mp h).1
       simp at this;omega
      subst this
      rw [h1,Nat.sub_self] at h
      obtain rfl:=Option.some.inj h
      exact hs
   exact this len (Nat.le_refl _)
  refine ⟨some a,cap,l,by rw [hcs,hll],?_,by omega,by omega,fun s hs => ?_⟩
  ·exact fun _ => ⟨a,rfl,fun i s h => (hlp i s h).1⟩
  ·obtain ⟨i,hi',rfl⟩:=List.mem_iff_getElem.mp hs
   exact (hlp i _ (List.getElem?_eq_getElem hi')).2
theorem ints_of {w : World} {A : Option Addr} {l : List Int} (h : Kd.C (Kd.int .i64) w A l.length l) : 0 < l.length → ∃ ad,A = some ad ∧ ∀ (i : Nat) (x : Int),l[i]? = some x → w.cell? (ad.add i) = some (.int .i64 x):=fun hp => by
 obtain ⟨ad,e,hh⟩:=h.2.2 hp
 refine ⟨ad,e,fun i x hx => ?_⟩
 obtain ⟨c,_,hk,hc⟩:=hh i x hx
 have hk : c = [Value.int .i64 x]:=hk
 subst hk
 have:=hc 0 _ rfl
 rw [show (Kd.int IntKind.i64).sz = 1 from rfl,Nat.mul_one,Nat.add_zero] at this
 exact this
theorem automaton_vr {w : World} {n : Int} {A1 A2 A3 : Option Addr} {c1 c2 c3 : Nat} {l1 l2 : List Int} {l3 : List Stp} (h1 : Kd.C (Kd.int .i64) w A1 l1.length l1) (q1 : l1.length ≤ c1) (h2 : Kd.C (Kd.int .i64) w A2 l2.length l2) (q2 : l2.length ≤ c2) (h3 : StepRow w A3 l3) (q3 : l3.length ≤ c3) :
  VR w (fun _ _ => True) R.M0 (.agg [.int .i64 n,.imm (.I .i64 l1),.imm (.I .i64 l2),.imm (.T l3)]) (.agg #[.int .i64 n,.slice A1 l1.length c1,.slice A2 l2.length c2,.slice A3 l3.length c3]):=by
 refine VR.agg_of _ [_,_,_,_] rfl fun i v V p q => ?_
 match i with
 | 0 => cases p;cases q;exact .closed (.int _ _)
 | 1 => cases p;cases q;exact ints_vr q1 (ints_of h1)
 | 2 => cases p;cases q;exact ints_vr q2 (ints_of h2)
 | 3 => cases p;cases q;exact h3.vr q3
 | i + 4 => simp at p
set_option maxRecDepth 100000 in
theorem row_automaton {H : Type} {enc : TypeId × Value → H} {w : World} {base b0 : Nat} {r : Reach} {spare : Nat → Bool} {held : Bool} {v : Value} {d : DataW H} {p : List MemPlace}
  (hv : Value.okWide Try.prog w r b0 25 v) (h : DataW.Trod enc Try.prog w base spare held 25 v d p) :
  ∃ (n : Int) (A1 : Option Addr) (c1 : Nat) (l1 : List Int) (A2 : Option Addr) (c2 : Nat) (l2 : List Int) (A3 : Option Addr) (c3 : Nat) (l3 : List Stp),v = .agg #[.int .i64 n,.slice A1 l1.length c1,.slice A2 l2.length c2,.slice A3 l3.length c3] ∧
   Kd.C (Kd.int .i64) w A1 l1.length l1 ∧ l1.length ≤ c1 ∧ Kd.C (Kd.int .i64) w A2 l2.length l2 ∧ l2.length ≤ c2 ∧ StepRow w A3 l3 ∧ l3.length ≤ c3 ∧ (Lit.int .i64 n).wf = true ∧
   l1.length ≤ maxLen ∧ (∀ x ∈ l1,(Lit.int .i64 x).wf = true) ∧ l2.length ≤ maxLen ∧ (∀ x ∈ l2,(Lit.int .i64 x).wf = true) ∧ l3.length ≤ maxLen ∧ (∀ s ∈ l3,(Lit.int .i64 s.f0).wf = true ∧ s.f1.size ≤ maxLen ∧ (Lit.int .i64 s.f2).wf = true ∧ (Lit.int .i64 s.f3).wf = true):=by
 obtain ⟨v0,v1,v2,v3,y0,y1,y2,y3,n,rfl,_,_,h0,h1,h2,h3⟩:=Go.Joins.open_agg4 Try.underlying25 (by kernel_rfl) (by kernel_rfl) hv h
 obtain ⟨z,rfl,hz⟩:=field_int Try.underlying3 h0
 obtain ⟨A1,c1,l1,rfl,hC1,hc1,hm1,hw1⟩:=field_ints Try.underlying22 Try.underlying3 (by kernel_rfl) h1
 obtain ⟨A2,c2,l2,rfl,hC2,hc2,hm2,hw2⟩:=field_ints Try.underlying22 Try.underlying3 (by kernel_rfl) h2
 obtain ⟨A3,c3,l3,rfl,hC3,hc3,hm3,hw3⟩:=field_steps h3
 exact ⟨z,A1,c1,l1,A2,c2,l2,A3,c3,l3,rfl,hC1,hc1,hC2,hc2,hC3,hc3,hz,hm1,hw1,hm2,hw2,hm3,hw3⟩
end Go.Proofs.Ytoeeeafknajkkaa.V
end
section
set_option linter.unusedVariables false
set_option linter.unusedSimpArgs false
namespace Go.Proofs.Ytoeeeafknajkkaa.V
open Go Go.Proofs.Ytoeeeafknajkkaa.R Go.RowKit
open Go.Proofs.YtoeeeafknajkkaaW.PrintWords hiding mn mx
def L (s : ByteArray) : List UInt8:=s.data.toList
theorem L_size (s : ByteArray) : s.size = (L s).length:=by simp [L]
theorem L_mk (l : List UInt8) : L ⟨l.toArray⟩ = l:=by simp [L]
theorem L_inj {s t : ByteArray} (h : L s = L t) : s = t:=by
 cases s;cases t;simp [L] at h;subst h;rfl
theorem toList_L (s : ByteArray) : s.toList = L s:=ByteArray.toList_eq s
theorem L_extract (s : ByteArray) (a b : Nat) : L (s.extract a b) = ((L s).take b).drop a:=by
 simp [L,ByteArray.data_extract,Array.toList_extract,List.extract,List.drop_take]
theorem L_append (s t : ByteArray) : L (s ++ t) = L s ++ L t:=by simp [L,ByteArray.data_append]
theorem L_nil {s : ByteArray} : s.toList = ([] : List UInt8) ↔ L s = []:=by rw [toList_L]
theorem bt_L (s : ByteArray) (i : Int) : btI s i = (((L s).getD i.toNat 0).toNat : Int):=by
 unfold btI L
 split
 ·next h =>
  have h' : i.toNat < s.data.toList.length:=by simpa using h
  rw [List.getD_eq_getElem?_getD,List.getElem?_eq_getElem h']
  simp;rfl
 ·next h =>
  have h' : s.data.toList.length ≤ i.toNat:=by simpa using h
  rw [List.getD_eq_getElem?_getD,List.getElem?_eq_none h'];rfl
theorem w64 {x : Int} (h0 : -9223372036854775808 ≤ x) (h1 : x ≤ 9223372036854775807) : wrap64 x = x:=by unfold wrap64;omega
theorem _root_.Go.Proofs.YtoeeeafknajkkaaW.PrintWords.Ev.is {α : Type} {g : Nat → Option α} {r r' : α} (h : Ev g r) (e : r = r') : Ev g r':=e ▸ h
theorem bt_suffix {s : ByteArray} {u : List UInt8} {c : UInt8} {e : List UInt8} (h : L s = u ++ c :: e) : btI s u.length = (c.toNat : Int):=by
 rw [bt_L,h];simp [List.getD_eq_getElem?_getD]
theorem size_suffix {s : ByteArray} {u e : List UInt8} (h : L s = u ++ e) : s.size = u.length + e.length:=by rw [L_size,h];simp
theorem u8_ne {c d : UInt8} (h : c ≠ d) : ¬ ((c.toNat : Int) = (d.toNat : Int)):=by
 intro e;exact h (UInt8.toNat.inj (by exact_mod_cast e))
def wOk (c : UInt8) : Bool:=c == 97 || c == 98
def wordB (l : List UInt8) : Bool:=l.all wOk && decide (l.length ≤ 1000)
theorem rd_mid (pre : List Int) (x : Int) (t : List Int) : rdI (pre ++ x :: t) (pre.length : Int) = x:=by simp [rdI,List.getD_eq_getElem?_getD]
theorem rd_nat (l : List Int) (i : Nat) : rdI l (i : Int) = l.getD i 0:=by simp [rdI]
theorem snoc_len (pre : List Int) (x : Int) : (((pre ++ [x]).length : Nat) : Int) = (pre.length : Int) + 1:=by simp
theorem wf_in {n : Int} (h : (Lit.int .i64 n).wf = true) : -9223372036854775808 ≤ n ∧ n ≤ 9223372036854775807:=by
 have hmin : IntKind.i64.min = -9223372036854775808:=rfl
 have hmax : IntKind.i64.max = 9223372036854775807:=rfl
 simp only [Lit.wf,Bool.and_eq_true,decide_eq_true_eq] at h
 omega
theorem maxLen_eq : maxLen = 9223372036854775807:=rfl
theorem ev_all {α : Type} {f : Nat → Nat → Option α} {g : Nat → α} (n : Nat) (h : ∀ i,i < n → Ev (f i) (g i)) : ∃ K0,∀ K,K0 ≤ K → ∀ i,i < n → f i K = some (g i):=by
 induction n with
 | zero => exact ⟨0,fun _ _ i hi => by omega⟩
 | succ n ih =>
  obtain ⟨K0,h0⟩:=ih (fun i hi => h i (by omega))
  obtain ⟨K1,h1⟩:=h n (by omega)
  refine ⟨max K0 K1,fun K hK i hi => ?_⟩
  by_cases e : i = n
  ·subst e;exact h1 K (by omega)
  ·exact h0 K (by omega) i (by omega)
theorem ev_up {α : Type} {f : Nat → Option α} {p : Nat → Nat → Option α} {r : α} (h : Ev f r) (hp : ∃ K0,∀ K,K0 ≤ K → ∀ j,LeO (f j) (p K (j + 1))) (hm : ∀ K j,LeO (p K j) (p K (j + 1))) : Ev (fun K => p K K) r:=by
 obtain ⟨K1,h1⟩:=h
 obtain ⟨K0,h0⟩:=hp
 refine ⟨max K0 (K1 + 1),fun K hK => ?_⟩
 have a:=h0 K (by omega) K1 r (h1 K1 (Nat.le_refl _))
 exact at_rounds (g:=p K) (hm K) (show K1 + 1 ≤ K by omega) a
theorem ev_some {α : Type} {f : Nat → Option α} {r : α} (h : ∀ k,f k = some r) : Ev f r:=⟨0,fun k _ => h k⟩
theorem up_loop {β : Type} (n : Nat) (L : Nat → Nat → Option β) (r : β) (step : ∀ i,i < n → Ev (L (i + 1)) r → Ev (L i) r) (h : Ev (L n) r) : Ev (L 0) r:=by
 have go : ∀ d,d ≤ n → Ev (L (n - d)) r:=by
  intro d
  induction d with
  | zero => intro _;exact h
  | succ d ih =>
   intro hd
   have e : n - (d + 1) + 1 = n - d:=by omega
   exact step (n - (d + 1)) (by omega) (by rw [e];exact ih (by omega))
 have:=go n (Nat.le_refl _)
 rwa [Nat.sub_self] at this
def tab (N : Nat) (F : Nat → Int) : List Int:=(List.range N).map F
theorem tab_length (N : Nat) (F : Nat → Int) : (tab N F).length = N:=by simp [tab]
theorem tab_snoc (N : Nat) (F : Nat → Int) : tab N F ++ [F N] = tab (N + 1) F:=by simp [tab,List.range_succ]
theorem tab_get (N : Nat) (F : Nat → Int) (j : Nat) (h : j < N) : (tab N F).getD j 0 = F j:=by
 simp [tab,List.getD_eq_getElem?_getD,List.getElem?_map,List.getElem?_range h]
theorem tab_congr (N : Nat) (F G : Nat → Int) (h : ∀ j,j < N → F j = G j) : tab N F = tab N G:=by
 unfold tab
 exact List.map_congr_left (fun j hj => h j (List.mem_range.mp hj))
theorem mem_tab {N : Nat} {F : Nat → Int} {x : Int} : x ∈ tab N F ↔ ∃ j,j < N ∧ F j = x:=by simp [tab]
theorem eq_tab (l : List Int) (N : Nat) (h : l.length = N) : l = tab N (fun j => l.getD j 0):=by
 apply List.ext_getElem
 ·simp [tab,h]
 ·intro i h1 h2
  simp [tab,List.getD_eq_getElem?_getD,List.getElem?_eq_getElem h1]
theorem fold_snoc {β : Type} (n : Nat) (f : β → Nat → β) (b : β) : (List.range (n + 1)).foldl f b = f ((List.range n).foldl f b) n:=by simp [List.range_succ]
theorem Ev_t {α : Type} {f g : Nat → Option α} {r : α} {c : Prop} [Decidable c] (h : c) (k : Ev f r) : Ev (fun n => if c then f n else g n) r:=Ev.congr (fun n => if_pos h) k
theorem Ev_f {α : Type} {f g : Nat → Option α} {r : α} {c : Prop} [Decidable c] (h : ¬ c) (k : Ev g r) : Ev (fun n => if c then f n else g n) r:=Ev.congr (fun n => if_neg h) k
def okCost (x : Int) : Bool:=decide (0 ≤ x ∧ x ≤ 1000000)
def MV (n : Int) (l : List Int) : Prop:=1 ≤ n ∧ n ≤ 4 ∧ (l.length : Int) = n * n ∧ ∀ x ∈ l,0 ≤ x ∧ x ≤ 1000000
def GV (n : Int) (l : List Int) : Prop:=MV n l ∧ ∀ x ∈ l,x ≤ 3
instance (n : Int) (l : List Int) : Decidable (MV n l):=by unfold MV;infer_instance
instance (n : Int) (l : List Int) : Decidable (GV n l):=by unfold GV;infer_instance
theorem sIn (a lo hi : Int) : spec_l1In.f a lo hi = some (decide (lo ≤ a ∧ a ≤ hi)):=by
 unfold spec_l1In.f
 by_cases h : a ≥ lo
 ·rw [if_pos h];by_cases h2 : a ≤ hi <;> simp [h2] <;> omega
 ·rw [if_neg h];simp;omega
theorem indexG {α : Type} (rdA : List α → Int → α) (hrd : ∀ (pre : List α) (x : α) (t : List α),rdA (pre ++ x :: t) (pre.length : Int) = x) (q : α → Bool) (p : Nat → α → Option Bool) (l : List α) (hp : ∀ x ∈ l,Ev (fun k => p k x) (q x)) (L0 : Nat → List α → Int → Int → Option Int)
  (hL : ∀ k x0 x7 x8,L0 (k + 1) x0 x7 x8 = if x8 < x7 then (if 0 ≤ x8 then (if x8 < (x0.length : Int) then ((p k (rdA x0 x8)).bind fun t1 => if t1 = true then some x8 else L0 k x0 x7 (wrap64 (x8 + 1))) else none) else none) else some (-1)) (h : l.length ≤ 9223372036854775807) :
  Ev (fun k => (L0 k l (l.length : Int) 0).bind fun t1 => some (decide (t1 ≥ 0))) (l.any q):=by
 have go : ∀ (t pre : List α),l = pre ++ t → ∃ z : Int,Ev (fun k => L0 k l (l.length : Int) (pre.length : Int)) z ∧ decide (z ≥ 0) = t.any q:=by
  intro t
  induction t with
  | nil =>
   intro pre hl
   refine ⟨-1,?_,rfl⟩
   refine Ev.step (f:=fun _ => some (-1)) (fun k => ?_) (Ev.now _)
   rw [hL,if_neg (by rw [hl];simp)]
  | cons x t ih =>
   intro pre hl
   have hlen : l.length = pre.length + (t.length + 1):=by rw [hl];simp
   have hx : rdA l (pre.length : Int) = x:=by rw [hl,hrd]
   have hpx:=hp x (by rw [hl];simp)
   have a0 : (pre.length : Int) < (l.length : Int):=by omega
   cases hq : q x with
   | true =>
    rw [hq] at hpx
    refine ⟨pre.length,?_,by simp [hq]⟩
    refine Ev.step (f:=fun k => (p k x).bind fun t1 => if t1 = true then some (pre.length : Int) else L0 k l (l.length : Int) (wrap64 ((pre.length : Int) + 1))) (fun k => ?_) (Ev.bind hpx (Ev.congr (f:=fun _ => some (pre.length : Int)) (fun k => if_pos rfl) (Ev.now _)))
    rw [hL,if_pos a0,if_pos (Int.natCast_nonneg _),if_pos a0,hx]
   | false =>
    rw [hq] at hpx
    obtain ⟨z,hz,hd⟩:=ih (pre ++ [x]) (by simp [hl])
    refine ⟨z,?_,by simp [hq,hd]⟩
    have e : (((pre ++ [x]).length : Nat) : Int) = wrap64 ((pre.length : Int) + 1):=by rw [w64 (by omega) (by omega)];simp
    rw [e] at hz
    refine Ev.step (f:=fun k => (p k x).bind fun t1 => if t1 = true then some (pre.length : Int) else L0 k l (l.length : Int) (wrap64 ((pre.length : Int) + 1))) (fun k => ?_) (Ev.bind hpx (Ev.congr (fun k => if_neg (by simp)) hz))
    rw [hL,if_pos a0,if_pos (Int.natCast_nonneg _),if_pos a0,hx]
 obtain ⟨z,hz,hd⟩:=go l [] rfl
 exact Ev.bind hz ((Ev.now _).is hd)
theorem div_mod_at (n i k : Nat) (hk : k < n) : (i * n + k) / n = i ∧ (i * n + k) % n = k:=by
 have hn : 0 < n:=by omega
 constructor
 ·rw [Nat.mul_comm,Nat.mul_add_div hn,Nat.div_eq_of_lt hk,Nat.add_zero]
 ·rw [Nat.mul_comm,Nat.mul_add_mod,Nat.mod_eq_of_lt hk]
theorem cell_lt (n i k : Nat) (hi : i < n) (hk : k < n) : i * n + k < n * n:=by
 have : (i + 1) * n ≤ n * n:=Nat.mul_le_mul_right n hi
 rw [Nat.succ_mul] at this
 omega
theorem sq_le (n : Nat) (h : n ≤ 4) : n * n ≤ 16:=by
 have:=Nat.mul_le_mul h h
 omega
theorem row_le (n i : Nat) (hn : n ≤ 4) (hi : i ≤ n) : i * n ≤ 16:=by
 have:=Nat.mul_le_mul (Nat.le_trans hi hn) hn
 omega
def cutF (n : Nat) (g : Nat → Nat → Int) : Int → Int → Option Int:=fun i k => if 0 ≤ i ∧ i < n ∧ 0 ≤ k ∧ k < n then some (g i.toNat k.toNat) else none
theorem cutF_at (n : Nat) (g : Nat → Nat → Int) (i k : Nat) (hi : i < n) (hk : k < n) : cutF n g (i : Int) (k : Int) = some (g i k):=by
 unfold cutF;rw [if_pos (by omega)];simp
def sqL (n : Nat) (g : Nat → Nat → Int) : List Int:=tab (n * n) (fun m => g (m / n) (m % n))
theorem sqL_get (n : Nat) (g : Nat → Nat → Int) (i k : Nat) (hi : i < n) (hk : k < n) : (sqL n g).getD (i * n + k) 0 = g i k:=by
 unfold sqL
 rw [tab_get _ _ _ (cell_lt n i k hi hk)]
 obtain ⟨h1,h2⟩:=div_mod_at n i k hk
 rw [h1,h2]
theorem sqL_congr (n : Nat) (g h : Nat → Nat → Int) (e : ∀ i k,i < n → k < n → g i k = h i k) : sqL n g = sqL n h:=by
 refine tab_congr _ _ _ (fun j hj => e _ _ (Nat.div_lt_of_lt_mul hj) (Nat.mod_lt _ ?_))
 rcases n with _|n
 ·simp at hj
 ·omega
theorem eq_sqL (n : Nat) (l : List Int) (h : l.length = n * n) : l = sqL n (fun i k => l.getD (i * n + k) 0):=by
 refine (eq_tab l _ h).trans (tab_congr _ _ _ (fun j _ => ?_))
 show l.getD j 0 = l.getD (j / n * n + j % n) 0
 rw [Nat.mul_comm,Nat.div_add_mod]
theorem filledG (n : Nat) (hn : n ≤ 4) (g : Nat → Nat → Int) (c : Nat → Int → Int → Option Int) (hc : ∀ i,i < n → ∀ k,k < n → Ev (fun K => c K (i : Int) (k : Int)) (g i k)) (L0 : Nat → Int → Int → Int → Int → List Int → Option (Int × List Int)) (L1 : Nat → Int → Int → Int → Int → Int → Int → Int → List Int → Option (Int × List Int))
  (h0 : ∀ k x0 x10 x11 y z,L0 (k + 1) x0 x10 x11 y z = if x11 < x10 then L1 k x0 x11 x10 x11 x0 0 y z else some (y,z))
  (h1 : ∀ k x0 x6 x10 x11 x14 x15 y z,L1 (k + 1) x0 x6 x10 x11 x14 x15 y z = if x15 < x14 then ((c k x6 x15).bind fun t1 => if z.length < 17592186044416 then L1 k x0 x6 x10 x11 x14 (wrap64 (x15 + 1)) y (z ++ [t1]) else none) else L0 k x0 x10 (wrap64 (x11 + 1)) y z) :
  Ev (fun k => L0 k (n : Int) (n : Int) 0 (n : Int) []) ((n : Int),sqL n g):=by
 have inner : ∀ (i : Nat) (r : Int × List Int),i < n → Ev (fun j => L0 j n n ((i + 1 : Nat) : Int) n (tab ((i + 1) * n) (fun m => g (m / n) (m % n)))) r →
   Ev (fun j => L0 j n n (i : Int) n (tab (i * n) (fun m => g (m / n) (m % n)))) r:=by
  intro i r hi h
  refine Ev.step (f:=fun j => L1 j n i n i n ((0 : Nat) : Int) n (tab (i * n + 0) (fun m => g (m / n) (m % n)))) (fun k => ?_) ?_
  ·rw [h0,if_pos (by omega)];rfl
  refine up_loop n (fun k j => L1 j n i n i n (k : Int) n (tab (i * n + k) (fun m => g (m / n) (m % n)))) r (fun k hk hs => ?_) ?_
  ·have hr:=row_le n i hn (by omega)
   obtain ⟨d1,d2⟩:=div_mod_at n i k hk
   have e : tab (i * n + k) (fun m => g (m / n) (m % n)) ++ [g i k] = tab (i * n + (k + 1)) (fun m => g (m / n) (m % n)):=by
    rw [← Nat.add_assoc,← tab_snoc,d1,d2]
   have b0 : (tab (i * n + k) (fun m => g (m / n) (m % n))).length < 17592186044416:=by rw [tab_length];omega
   have a0 : (k : Int) < (n : Int):=by omega
   have wk : wrap64 ((k : Int) + 1) = ((k + 1 : Nat) : Int):=by rw [w64 (by omega) (by omega)];rfl
   refine Ev.step (f:=fun j => (c j (i : Int) (k : Int)).bind fun t1 => if (tab (i * n + k) (fun m => g (m / n) (m % n))).length < 17592186044416 then L1 j n i n i n (wrap64 ((k : Int) + 1)) n (tab (i * n + k) (fun m => g (m / n) (m % n)) ++ [t1]) else none) (fun j => ?_) (Ev.bind (hc i hi k hk) (Ev_t b0 ?_))
   ·rw [h1,if_pos a0]
   ·rw [wk,e];exact hs
  ·refine Ev.step (fun j => ?_) h
   rw [h1,if_neg (by omega),w64 (by omega) (by omega),Nat.succ_mul];rfl
 refine Ev.congr (f:=fun j => L0 j n n ((0 : Nat) : Int) n (tab (0 * n) (fun m => g (m / n) (m % n)))) (fun k => ?_) ?_
 ·simp [tab]
 refine up_loop n (fun i j => L0 j n n (i : Int) n (tab (i * n) (fun m => g (m / n) (m % n)))) _ (fun i hi hs => inner i _ hi hs) ?_
 refine Ev.step (f:=fun _ => some ((n : Int),sqL n g)) (fun j => ?_) (Ev.now _)
 rw [h0,if_neg (by omega)];rfl
theorem tdiv_nat (m n : Nat) : Int.tdiv (m : Int) (n : Int) = ((m / n : Nat) : Int):=by rw [Int.tdiv_eq_ediv_of_nonneg (by omega)];simp
theorem tmod_nat (m n : Nat) : Int.tmod (m : Int) (n : Int) = ((m % n : Nat) : Int):=by rw [Int.tmod_eq_emod_of_nonneg (by omega)];simp
theorem idx1 (n m l : Nat) (hn : n ≤ 4) (hi : m / n < n) (hl : l < n) : wrap64 (wrap64 (wrap64 (Int.tdiv (m : Int) (n : Int)) * (n : Int)) + l) = ((m / n * n + l : Nat) : Int):=by
 have r1:=row_le n (m / n) hn (by omega)
 rw [tdiv_nat]
 obtain ⟨q,hq⟩ : ∃ q : Nat,m / n = q:=⟨_,rfl⟩
 rw [hq] at hi r1 ⊢
 have h1 : ((q : Nat) : Int) * (n : Int) = ((q * n : Nat) : Int):=by simp
 obtain ⟨s,hs⟩ : ∃ s : Nat,q * n = s:=⟨_,rfl⟩
 rw [w64 (x:=((q : Nat) : Int)) (by omega) (by omega),h1]
 rw [hs] at r1 ⊢
 clear h1 hs hq
 rw [w64 (x:=((s : Nat) : Int)) (by omega) (by omega),w64 (by omega) (by omega)];simp
theorem idx2 (n m l : Nat) (hn : n ≤ 4) (hk : m % n < n) (hl : l < n) : wrap64 (wrap64 ((l : Int) * (n : Int)) + Int.tmod (m : Int) (n : Int)) = ((l * n + m % n : Nat) : Int):=by
 have r2:=row_le n l hn (by omega)
 rw [tmod_nat]
 obtain ⟨q,hq⟩ : ∃ q : Nat,m % n = q:=⟨_,rfl⟩
 rw [hq] at hk ⊢
 have h1 : (l : Int) * (n : Int) = ((l * n : Nat) : Int):=by simp
 obtain ⟨s,hs⟩ : ∃ s : Nat,l * n = s:=⟨_,rfl⟩
 rw [h1]
 rw [hs] at r2 ⊢
 clear h1 hs hq
 rw [w64 (x:=((s : Nat) : Int)) (by omega) (by omega),w64 (by omega) (by omega)];simp
theorem MV_nat {n : Int} {l : List Int} (h : MV n l) : ∃ m : Nat,n = (m : Int) ∧ 1 ≤ m ∧ m ≤ 4 ∧ l.length = m * m:=by
 refine ⟨n.toNat,?_⟩
 have h1:=h.1
 have h2:=h.2.1
 have h3:=h.2.2.1
 obtain ⟨m,rfl⟩ : ∃ m : Nat,n = (m : Int):=⟨n.toNat,by omega⟩
 refine ⟨by simp,by simp;omega,by simp;omega,?_⟩
 simp only [Int.toNat_natCast]
 exact_mod_cast h3
theorem toIntS_ev (l : List Int) (h : l.length ≤ 1048576) : Ev (fun k => laws_toIntS.f k l) l:=by
 have go : ∀ (t pre : List Int),l = pre ++ t → Ev (fun k => laws_toIntS.l0 k l (pre ++ List.replicate t.length 0) (pre.length : Int)) l:=by
  intro t
  induction t with
  | nil =>
   intro pre hl
   refine Ev.step (f:=fun _ => some l) (fun k => ?_) (Ev.now _)
   simp only [laws_toIntS.l0]
   rw [if_neg (by rw [hl];simp)]
   simp [hl]
  | cons x t ih =>
   intro pre hl
   have hlen : l.length = pre.length + (t.length + 1):=by rw [hl];simp
   refine Ev.step (fun k => ?_) (ih (pre ++ [x]) (by simp [hl]))
   simp only [laws_toIntS.l0]
   rw [if_pos (by omega),if_pos (by omega),if_pos (by simp;omega),w64 (by omega) (by omega),hl,rd_mid,snoc_len,← hl]
   congr 1
   simp [List.replicate_succ,List.set_append]
 refine Ev.congr (fun k => ?_) (go l [] rfl)
 unfold laws_toIntS.f
 rw [if_pos (by omega),if_pos (by omega)]
 simp
theorem eqIntS_ev (a b : List Int) (h : a.length ≤ 1000000000) : Ev (fun k => laws_eqIntS.f k a b) (decide (a = b)):=by
 by_cases hl : a.length = b.length
 ·have go : ∀ (t u pre : List Int),a = pre ++ t → b = pre ++ u → Ev (fun k => laws_eqIntS.l0 k a b (pre.length : Int)) (decide (a = b)):=by
   intro t
   induction t with
   | nil =>
    intro u pre ha hb
    have hu : u = []:=by
     have h1:=congrArg List.length ha
     have h2:=congrArg List.length hb
     simp at h1 h2
     exact List.length_eq_zero_iff.mp (by omega)
    subst hu
    have hab : a = b:=by rw [ha,hb]
    refine Ev.step (f:=fun _ => some true) (fun k => ?_) ((Ev.now _).is (by rw [decide_eq_true hab]))
    simp only [laws_eqIntS.l0]
    rw [if_neg (by rw [ha];simp)]
   | cons x t ih =>
    intro u pre ha hb
    have hla : a.length = pre.length + (t.length + 1):=by rw [ha];simp
    cases u with
    | nil => have h2:=congrArg List.length hb;simp at h2;omega
    | cons y u =>
     by_cases hxy : x = y
     ·subst hxy
      refine Ev.step (fun k => ?_) (ih u (pre ++ [x]) (by simp [ha]) (by simp [hb]))
      simp only [laws_eqIntS.l0]
      rw [if_pos (by omega),if_pos (by omega),if_pos (by omega),w64 (by omega) (by omega),snoc_len,if_pos (by rw [ha,hb,rd_mid,rd_mid])]
     ·have hab : ¬ a = b:=by
       intro e
       rw [ha,hb] at e
       have:=List.append_cancel_left e
       simp at this
       exact hxy this.1
      refine Ev.step (f:=fun _ => some false) (fun k => ?_) ((Ev.now _).is (by rw [decide_eq_false hab]))
      simp only [laws_eqIntS.l0]
      rw [if_pos (by omega),if_pos (by omega),if_pos (by omega),if_neg (by rw [ha,hb,rd_mid,rd_mid];exact hxy)]
  refine Ev.congr (fun k => ?_) (go a b [] rfl rfl)
  unfold laws_eqIntS.f
  rw [if_pos (by omega)];rfl
 ·have hab : ¬ a = b:=fun e => hl (by rw [e])
  refine Ev.congr (f:=fun _ => some false) (fun k => ?_) ((Ev.now _).is (by rw [decide_eq_false hab]))
  unfold laws_eqIntS.f
  rw [if_neg (by omega)]
theorem Ev_sz {α : Type} {o : Option Int} {z : Int} {g : Nat → Int → Option α} {r : α} (h : o = some z) (k : Ev (fun n => g n z) r) : Ev (fun n => o.bind (g n)) r:=Ev.congr (fun n => by rw [h];rfl) k
theorem rdS_mid (pre : List Stp) (x : Stp) (t : List Stp) : rdT (pre ++ x :: t) (pre.length : Int) = x:=by simp [rdT,List.getD_eq_getElem?_getD]
theorem snocA {α : Type} (pre : List α) (x : α) : (((pre ++ [x]).length : Nat) : Int) = (pre.length : Int) + 1:=by simp
def mrk (n : Int) : Option Int → List Int → Bool
 | _,[] => true
 | p,x :: t => decide (0 ≤ x ∧ x < n) && (match p with|none => true|some y => decide (y < x)) && mrk n (some x) t
def stepOk (n : Int) (s : Stp) : Bool:=decide (0 ≤ s.f0 ∧ s.f0 < n ∧ 0 ≤ s.f2 ∧ s.f2 < n ∧ 0 ≤ s.f3 ∧ s.f3 ≤ 3 ∧ (s.f1.toList = ([97] : List UInt8) ∨ s.f1.toList = ([98] : List UInt8)))
def bef (s t : Stp) : Bool:=if s.f0 = t.f0 then (if s.f1.toList = t.f1.toList then decide (s.f2 < t.f2) else Op.bytesLess s.f1.toList t.f1.toList) else decide (s.f0 < t.f0)
def stp (n : Int) : Option Stp → List Stp → Bool
 | _,[] => true
 | p,x :: t => stepOk n x && (match p with|none => true|some y => bef y x) && stp n (some x) t
def AV (n : Int) (s f : List Int) (t : List Stp) : Bool:=decide (1 ≤ n ∧ n ≤ 4 ∧ t.length ≤ 24) && mrk n none s && mrk n none f && stp n none t
theorem iMarks (n : Int) (l : List Int) (h : l.length ≤ 1000000000) : Ev (fun k => impl_statesOk.f k l n) (mrk n none l):=by
 have go : ∀ (t pre : List Int),l = pre ++ t → Ev (fun k => impl_statesOk.l0 k l n l (l.length : Int) (pre.length : Int)) (mrk n pre.getLast? t):=by
  intro t
  induction t with
  | nil =>
   intro pre hl
   refine Ev.step (f:=fun _ => some true) (fun k => ?_) (Ev.now _)
   simp only [impl_statesOk.l0];rw [if_neg (by rw [hl];simp)]
  | cons x t ih =>
   intro pre hl
   have hlen : l.length = pre.length + (t.length + 1):=by rw [hl];simp
   have hx : rdI l (pre.length : Int) = x:=by rw [hl,rd_mid]
   have i1:=ih (pre ++ [x]) (by simp [hl])
   rw [List.getLast?_concat,snoc_len] at i1
   by_cases h0 : x < 0
   ·refine Ev.step (f:=fun _ => some false) (fun k => ?_) ((Ev.now _).is ?_)
    ·simp only [impl_statesOk.l0];rw [if_pos (by omega),if_pos (by omega),if_pos (by omega),hx,if_pos h0]
    ·simp only [mrk];rw [decide_eq_false (by omega)];rfl
   by_cases h1 : x ≥ n
   ·refine Ev.step (f:=fun _ => some false) (fun k => ?_) ((Ev.now _).is ?_)
    ·simp only [impl_statesOk.l0];rw [if_pos (by omega),if_pos (by omega),if_pos (by omega),hx,if_neg h0,if_pos h1]
    ·simp only [mrk];rw [decide_eq_false (by omega)];rfl
   rcases List.eq_nil_or_concat pre with rfl | ⟨q,y,rfl⟩
   ·refine Ev.step (fun k => ?_) (i1.is ?_)
    ·simp only [impl_statesOk.l0];rw [if_pos (by omega),if_pos (by omega),if_pos (by omega),hx,if_neg h0,if_neg h1,if_neg (by simp),w64 (by omega) (by omega)]
    ·simp only [mrk,List.getLast?_nil];rw [decide_eq_true (by omega)];rfl
   ·rw [List.concat_eq_append] at *
    have e : wrap64 (((q ++ [y]).length : Int) - 1) = (q.length : Int):=by rw [snoc_len,w64 (by omega) (by rw [List.length_append] at hlen;omega)];omega
    have hy : rdI l (q.length : Int) = y:=by rw [hl,List.append_assoc];exact rd_mid q y (x :: t)
    have hq:=hlen
    rw [List.length_append,List.length_singleton] at hq
    by_cases h2 : y ≥ x
    ·refine Ev.step (f:=fun _ => some false) (fun k => ?_) ((Ev.now _).is ?_)
     ·simp only [impl_statesOk.l0];rw [if_pos (by omega),if_pos (by omega),if_pos (by omega),hx,if_neg h0,if_neg h1,if_pos (by rw [snoc_len];omega),e,if_pos (by omega),if_pos (by omega),hy,if_pos h2]
     ·simp only [mrk,List.getLast?_concat];rw [decide_eq_false (p:=y < x) (by omega)];simp
    ·refine Ev.step (fun k => ?_) (i1.is ?_)
     ·simp only [impl_statesOk.l0];rw [if_pos (by omega),if_pos (by omega),if_pos (by omega),hx,if_neg h0,if_neg h1,if_pos (by rw [snoc_len];omega),e,if_pos (by omega),if_pos (by omega),hy,if_neg h2,w64 (by omega) (by omega)]
     ·simp only [mrk,List.getLast?_concat];rw [decide_eq_true (p:=y < x) (by omega),decide_eq_true (by omega)];rfl
 exact go l [] rfl
theorem sMarks (n : Int) (hn : 1 ≤ n ∧ n ≤ 4) (l : List Int) (h : l.length ≤ 1000000000) : Ev (fun k => spec_l3Marks.f k n l) (mrk n none l):=by
 have go : ∀ (t pre : List Int),l = pre ++ t → Ev (fun k => spec_l3Marks.l0 k n l l (l.length : Int) (pre.length : Int)) (mrk n pre.getLast? t):=by
  intro t
  induction t with
  | nil =>
   intro pre hl
   refine Ev.step (f:=fun _ => some true) (fun k => ?_) (Ev.now _)
   simp only [spec_l3Marks.l0];rw [if_neg (by rw [hl];simp)]
  | cons x t ih =>
   intro pre hl
   have hlen : l.length = pre.length + (t.length + 1):=by rw [hl];simp
   have hx : rdI l (pre.length : Int) = x:=by rw [hl,rd_mid]
   have i1:=ih (pre ++ [x]) (by simp [hl])
   rw [List.getLast?_concat,snoc_len] at i1
   have hw : wrap64 (n - 1) = n - 1:=w64 (by omega) (by omega)
   by_cases h0 : 0 ≤ x ∧ x < n
   case neg =>
    refine Ev.step (f:=fun _ => some false) (fun k => ?_) ((Ev.now _).is ?_)
    ·simp only [spec_l3Marks.l0];rw [if_pos (by omega),if_pos (by omega),if_pos (by omega),hx,sIn,hw,decide_eq_false (by omega),Option.bind_some,if_neg (by simp)]
    ·simp only [mrk];rw [decide_eq_false h0];rfl
   have hd : decide (0 ≤ x ∧ x ≤ n - 1) = true:=decide_eq_true (by omega)
   rcases List.eq_nil_or_concat pre with rfl | ⟨q,y,rfl⟩
   ·refine Ev.step (fun k => ?_) (i1.is ?_)
    ·simp only [spec_l3Marks.l0];rw [if_pos (by omega),if_pos (by omega),if_pos (by omega),hx,sIn,hw,hd,Option.bind_some,if_pos rfl,if_neg (by simp),w64 (by omega) (by omega)]
    ·simp only [mrk,List.getLast?_nil];rw [decide_eq_true h0];rfl
   ·rw [List.concat_eq_append] at *
    have e : wrap64 (((q ++ [y]).length : Int) - 1) = (q.length : Int):=by rw [snoc_len,w64 (by omega) (by rw [List.length_append] at hlen;omega)];omega
    have hy : rdI l (q.length : Int) = y:=by rw [hl,List.append_assoc];exact rd_mid q y (x :: t)
    have hq:=hlen
    rw [List.length_append,List.length_singleton] at hq
    by_cases h2 : y ≥ x
    ·refine Ev.step (f:=fun _ => some false) (fun k => ?_) ((Ev.now _).is ?_)
     ·simp only [spec_l3Marks.l0];rw [if_pos (by omega),if_pos (by omega),if_pos (by omega),hx,sIn,hw,hd,Option.bind_some,if_pos rfl,if_pos (by rw [snoc_len];omega),e,if_pos (by omega),if_pos (by omega),hy,if_pos h2]
     ·simp only [mrk,List.getLast?_concat];rw [decide_eq_false (p:=y < x) (by omega)];simp
    ·refine Ev.step (fun k => ?_) (i1.is ?_)
     ·simp only [spec_l3Marks.l0];rw [if_pos (by omega),if_pos (by omega),if_pos (by omega),hx,sIn,hw,hd,Option.bind_some,if_pos rfl,if_pos (by rw [snoc_len];omega),e,if_pos (by omega),if_pos (by omega),hy,if_neg h2,w64 (by omega) (by omega)]
     ·simp only [mrk,List.getLast?_concat];rw [decide_eq_true (p:=y < x) (by omega),decide_eq_true h0];rfl
 exact go l [] rfl
def cmp0 (a b : Int) : Int:=if a < b then -1 else if a > b then 1 else 0
def ordL (s t : Stp) : Int:=if cmp0 s.f0 t.f0 = 0 then (if Lib.compareBytes s.f1.data.toList t.f1.data.toList = 0 then cmp0 s.f2 t.f2 else Lib.compareBytes s.f1.data.toList t.f1.data.toList) else cmp0 s.f0 t.f0
theorem cmp_eq (a b : Int) : cmp_Compare_int.f a b = some (cmp0 a b):=by
 unfold cmp_Compare_int.f cmp_isNaN_int.f cmp0
 simp only [decide_true,Bool.not_true,Option.bind_some,Bool.false_eq_true,if_false]
 by_cases h : a < b
 ·rw [if_pos h,if_pos h]
 ·rw [if_neg h,if_neg h];by_cases h2 : a > b
  ·rw [if_pos h2,if_pos h2]
  ·rw [if_neg h2,if_neg h2]
theorem cmpOr_ev (l : List Int) (h : l.length ≤ 1000000000) : Ev (fun k => cmp_Or_int.f k l) ((l.find? (· != 0)).getD 0):=by
 have go : ∀ (t pre : List Int),l = pre ++ t → Ev (fun k => cmp_Or_int.l0 k l (l.length : Int) (pre.length : Int)) ((t.find? (· != 0)).getD 0):=by
  intro t
  induction t with
  | nil =>
   intro pre hl
   refine Ev.step (f:=fun _ => some 0) (fun k => ?_) (Ev.now _)
   simp only [cmp_Or_int.l0];rw [if_neg (by rw [hl];simp)]
  | cons x t ih =>
   intro pre hl
   have hlen : l.length = pre.length + (t.length + 1):=by rw [hl];simp
   have hx : rdI l (pre.length : Int) = x:=by rw [hl,rd_mid]
   have i1:=ih (pre ++ [x]) (by simp [hl])
   rw [snoc_len] at i1
   by_cases h0 : x = 0
   ·refine Ev.step (fun k => ?_) (i1.is ?_)
    ·simp only [cmp_Or_int.l0];rw [if_pos (by omega),if_pos (by omega),if_pos (by omega),hx,if_pos h0,w64 (by omega) (by omega)]
    ·simp [List.find?_cons,h0]
   ·refine Ev.step (f:=fun _ => some x) (fun k => ?_) ((Ev.now _).is ?_)
    ·simp only [cmp_Or_int.l0];rw [if_pos (by omega),if_pos (by omega),if_pos (by omega),hx,if_neg h0]
    ·simp [List.find?_cons,h0]
 exact go l [] rfl
theorem iOrder (s t : Stp) : Ev (fun k => impl_stepOrder.f k s.f0 s.f1 s.f2 s.f3 t.f0 t.f1 t.f2 t.f3) (ordL s t):=by
 refine Ev.congr (f:=?f1) (fun k => ?h1) ?k1
 case h1 => unfold impl_stepOrder.f strings_Compare.f bytealg_CompareString.f;rw [cmp_eq,cmp_eq,Option.bind_some,Option.bind_some,Option.bind_some,Option.bind_some] <;> exact rfl
 refine (Ev.bind (cmpOr_ev _ (by simp)) (Ev.now _)).is ?_
 unfold ordL
 by_cases h : cmp0 s.f0 t.f0 = 0
 ·by_cases h2 : Lib.compareBytes s.f1.data.toList t.f1.data.toList = 0
  ·by_cases h3 : cmp0 s.f2 t.f2 = 0 <;> simp [List.find?_cons,h,h2,h3]
  ·simp [List.find?_cons,h,h2]
 ·simp [List.find?_cons,h]
theorem sBefore (s t : Stp) : spec_l3Before.f s.f0 s.f1 s.f2 s.f3 t.f0 t.f1 t.f2 t.f3 = some (bef s t):=by
 unfold spec_l3Before.f bef
 by_cases h : s.f0 = t.f0
 ·rw [if_pos h,if_pos h];by_cases h2 : s.f1.toList = t.f1.toList
  ·rw [if_pos h2,if_pos h2]
  ·rw [if_neg h2,if_neg h2]
 ·rw [if_neg h,if_neg h]
theorem cmp0_lt {a b : Int} : cmp0 a b < 0 ↔ a < b:=by
 unfold cmp0
 by_cases h : a < b
 ·simp [h]
 ·by_cases h2 : a > b <;> simp [h,h2]
theorem cmp0_eq {a b : Int} : cmp0 a b = 0 ↔ a = b:=by
 unfold cmp0
 by_cases h : a < b
 ·rw [if_pos h];omega
 ·by_cases h2 : a > b
  ·rw [if_neg h,if_pos h2];omega
  ·rw [if_neg h,if_neg h2];omega
theorem ord_bef {n : Int} {s t : Stp} (hs : stepOk n s = true) (ht : stepOk n t = true) : ordL s t < 0 ↔ bef s t = true:=by
 unfold stepOk at hs ht
 have hs:=of_decide_eq_true hs
 have ht:=of_decide_eq_true ht
 unfold ordL bef
 have e1:=toList_L s.f1
 have e2:=toList_L t.f1
 unfold L at e1 e2
 rw [← e1,← e2]
 by_cases h : s.f0 = t.f0
 ·rw [if_pos (cmp0_eq.mpr h),if_pos h]
  rcases hs.2.2.2.2.2.2 with a|a <;> rcases ht.2.2.2.2.2.2 with b|b <;> rw [a,b]
  ·rw [if_pos rfl,show Lib.compareBytes ([97] : List UInt8) [97] = 0 by decide,if_pos rfl,cmp0_lt,decide_eq_true_eq]
  ·rw [if_neg (show ¬ Lib.compareBytes ([97] : List UInt8) [98] = 0 by decide),if_neg (by decide)];decide
  ·rw [if_neg (show ¬ Lib.compareBytes ([98] : List UInt8) [97] = 0 by decide),if_neg (by decide)];decide
  ·rw [if_pos rfl,show Lib.compareBytes ([98] : List UInt8) [98] = 0 by decide,if_pos rfl,cmp0_lt,decide_eq_true_eq]
 ·rw [if_neg (fun g => h (cmp0_eq.mp g)),if_neg h,cmp0_lt,decide_eq_true_eq]
theorem iSteps (n : Int) (s f : List Int) (t : List Stp) (h : t.length ≤ 1000000000) : Ev (fun k => impl_AutomatonValid.l0 k t (t.length : Int) 0 n s f t) (stp n none t):=by
 have go : ∀ (u pre : List Stp),t = pre ++ u → (∀ y,pre.getLast? = some y → stepOk n y = true) → Ev (fun k => impl_AutomatonValid.l0 k t (t.length : Int) (pre.length : Int) n s f t) (stp n pre.getLast? u):=by
  intro u
  induction u with
  | nil =>
   intro pre hl _
   refine Ev.step (f:=fun _ => some true) (fun k => ?_) (Ev.now _)
   simp only [impl_AutomatonValid.l0];rw [if_neg (by rw [hl];simp)]
  | cons x u ih =>
   intro pre hl hp
   have hlen : t.length = pre.length + (u.length + 1):=by rw [hl];simp
   have hx : rdT t (pre.length : Int) = x:=by rw [hl,rdS_mid]
   have tail : stepOk n x = true → Ev (fun k => if (pre.length : Int) > 0 then (if 0 ≤ (wrap64 ((pre.length : Int) - 1)) then (if (wrap64 ((pre.length : Int) - 1)) < (t.length : Int) then ((impl_stepOrder.f k ((rdT t (wrap64 ((pre.length : Int) - 1))).f0) ((rdT t (wrap64 ((pre.length : Int) - 1))).f1) ((rdT t (wrap64 ((pre.length : Int) - 1))).f2) ((rdT t (wrap64 ((pre.length : Int) - 1))).f3) x.f0 x.f1 x.f2 x.f3).bind fun z => (if z ≥ 0 then (some false) else (impl_AutomatonValid.l0 k t (t.length : Int) (wrap64 ((pre.length : Int) + 1)) n s f t))) else none) else none) else (impl_AutomatonValid.l0 k t (t.length : Int) (wrap64 ((pre.length : Int) + 1)) n s f t)) (stp n pre.getLast? (x :: u)):=by
    intro hok
    have i1:=ih (pre ++ [x]) (by simp [hl]) (fun y hy => by rw [List.getLast?_concat] at hy;obtain rfl:=Option.some.inj hy;exact hok)
    rw [List.getLast?_concat,snocA] at i1
    have ew : wrap64 ((pre.length : Int) + 1) = (pre.length : Int) + 1:=w64 (by omega) (by omega)
    rw [ew]
    rcases List.eq_nil_or_concat pre with rfl | ⟨q,y,rfl⟩
    ·refine Ev.congr (fun k => by rw [if_neg (by simp)] <;> exact rfl) (i1.is ?_)
     simp only [stp,List.getLast?_nil,hok,Bool.true_and]
    ·rw [List.concat_eq_append] at *
     have hq:=hlen
     rw [List.length_append,List.length_singleton] at hq
     have e : wrap64 (((q ++ [y]).length : Int) - 1) = (q.length : Int):=by rw [snocA,w64 (by omega) (by omega)];omega
     have hy : rdT t (q.length : Int) = y:=by rw [hl,List.append_assoc];exact rdS_mid q y (x :: u)
     have hoy : stepOk n y = true:=hp y (by rw [List.getLast?_concat])
     refine Ev.congr (f:=?f1) (fun k => ?h1) ?k1
     case h1 => rw [e,if_pos (by rw [snocA];omega),if_pos (by omega),if_pos (by omega),hy] <;> exact rfl
     refine Ev.bind (iOrder y x) ?_
     by_cases hb : bef y x = true
     ·refine Ev.congr (fun k => if_neg (by have:=(ord_bef hoy hok).mpr hb;omega)) (i1.is ?_)
      simp only [stp,List.getLast?_concat,hok,hb,Bool.true_and]
     ·refine Ev.congr (f:=fun _ => some false) (fun k => if_pos (Int.not_lt.mp fun h => hb ((ord_bef hoy hok).mp h))) ((Ev.now _).is ?_)
      simp only [stp,List.getLast?_concat,hok,Bool.true_and]
      rw [Bool.not_eq_true] at hb
      rw [hb];rfl
   by_cases hok : stepOk n x = true
   ·have ho:=of_decide_eq_true (show decide _ = true from hok)
    refine Ev.step (fun k => ?_) (tail hok)
    simp only [impl_AutomatonValid.l0]
    rw [if_pos (by omega),if_pos (by omega),if_pos (by omega),hx,if_neg (by omega),if_neg (by omega),if_neg (by omega),if_neg (by omega)]
    rcases ho.2.2.2.2.2.2 with a|a
    ·rw [if_pos a,if_neg (by omega),if_neg (by omega)]
    ·rw [if_neg (by rw [a];decide),if_pos a,if_neg (by omega),if_neg (by omega)]
   ·refine Ev.step (f:=fun _ => some false) (fun k => ?_) ((Ev.now _).is ?_)
    ·simp only [impl_AutomatonValid.l0]
     rw [if_pos (by omega),if_pos (by omega),if_pos (by omega),hx]
     by_cases a1 : x.f0 < 0
     ·rw [if_pos a1]
     by_cases a2 : x.f0 ≥ n
     ·rw [if_neg a1,if_pos a2]
     by_cases a3 : x.f2 < 0
     ·rw [if_neg a1,if_neg a2,if_pos a3]
     by_cases a4 : x.f2 ≥ n
     ·rw [if_neg a1,if_neg a2,if_neg a3,if_pos a4]
     rw [if_neg a1,if_neg a2,if_neg a3,if_neg a4]
     by_cases b1 : x.f1.toList = ([97] : List UInt8)
     ·rw [if_pos b1]
      by_cases a5 : x.f3 < 0
      ·rw [if_pos a5]
      by_cases a6 : x.f3 > 3
      ·rw [if_neg a5,if_pos a6]
      exact absurd (show stepOk n x = true from decide_eq_true ⟨by omega,by omega,by omega,by omega,by omega,by omega,.inl b1⟩) hok
     ·rw [if_neg b1]
      by_cases b2 : x.f1.toList = ([98] : List UInt8)
      ·rw [if_pos b2]
       by_cases a5 : x.f3 < 0
       ·rw [if_pos a5]
       by_cases a6 : x.f3 > 3
       ·rw [if_neg a5,if_pos a6]
       exact absurd (show stepOk n x = true from decide_eq_true ⟨by omega,by omega,by omega,by omega,by omega,by omega,.inr b2⟩) hok
      ·rw [if_neg b2]
    ·rw [Bool.not_eq_true] at hok
     simp only [stp,hok,Bool.false_and]
 exact go t [] rfl (fun y hy => by simp at hy)
theorem sStepOk (n : Int) (hn : 1 ≤ n ∧ n ≤ 4) (x : Stp) : spec_l3Step.f n x.f0 x.f1 x.f2 x.f3 = some (stepOk n x):=by
 unfold spec_l3Step.f stepOk
 rw [sIn,sIn,sIn,w64 (x:=n - 1) (by omega) (by omega),Option.bind_some]
 by_cases a1 : 0 ≤ x.f0 ∧ x.f0 ≤ n - 1
 ·rw [decide_eq_true a1,if_pos rfl,Option.bind_some]
  by_cases a2 : 0 ≤ x.f2 ∧ x.f2 ≤ n - 1
  ·rw [decide_eq_true a2,if_pos rfl,Option.bind_some]
   by_cases a3 : 0 ≤ x.f3 ∧ x.f3 ≤ 3
   ·rw [decide_eq_true a3,if_pos rfl]
    by_cases b : x.f1.toList = ([97] : List UInt8)
    ·rw [if_pos b,decide_eq_true (by refine ⟨?_,?_,?_,?_,?_,?_,.inl b⟩ <;> omega)]
    ·rw [if_neg b]
     by_cases b2 : x.f1.toList = ([98] : List UInt8)
     ·rw [decide_eq_true b2,decide_eq_true (by refine ⟨?_,?_,?_,?_,?_,?_,.inr b2⟩ <;> omega)]
     ·rw [decide_eq_false b2,decide_eq_false (by intro g;rcases g.2.2.2.2.2.2 with c|c;exact b c;exact b2 c)]
   ·rw [decide_eq_false a3,if_neg (by simp),decide_eq_false (by omega)]
  ·rw [decide_eq_false a2,if_neg (by simp),decide_eq_false (by omega)]
 ·rw [decide_eq_false a1,if_neg (by simp),decide_eq_false (by omega)]
theorem sSteps (n : Int) (hn : 1 ≤ n ∧ n ≤ 4) (s f : List Int) (t : List Stp) (h : t.length ≤ 1000000000) : Ev (fun k => spec_AutomatonValid.l0 k t (t.length : Int) 0 n s f t) (stp n none t):=by
 have go : ∀ (u pre : List Stp),t = pre ++ u → Ev (fun k => spec_AutomatonValid.l0 k t (t.length : Int) (pre.length : Int) n s f t) (stp n pre.getLast? u):=by
  intro u
  induction u with
  | nil =>
   intro pre hl
   refine Ev.step (f:=fun _ => some true) (fun k => ?_) (Ev.now _)
   simp only [spec_AutomatonValid.l0];rw [if_neg (by rw [hl];simp)]
  | cons x u ih =>
   intro pre hl
   have hlen : t.length = pre.length + (u.length + 1):=by rw [hl];simp
   have hx : rdT t (pre.length : Int) = x:=by rw [hl,rdS_mid]
   have i1:=ih (pre ++ [x]) (by simp [hl])
   rw [List.getLast?_concat,snocA] at i1
   by_cases hok : stepOk n x = true
   ·rcases List.eq_nil_or_concat pre with rfl | ⟨q,y,rfl⟩
    ·refine Ev.step (fun k => ?_) (i1.is ?_)
     ·simp only [spec_AutomatonValid.l0];rw [if_pos (by omega),if_pos (by omega),if_pos (by omega),hx,sStepOk n hn,hok,Option.bind_some,if_pos rfl,if_neg (by simp),w64 (by omega) (by omega)]
     ·simp only [stp,List.getLast?_nil,hok,Bool.true_and]
    ·rw [List.concat_eq_append] at *
     have hq:=hlen
     rw [List.length_append,List.length_singleton] at hq
     have e : wrap64 (((q ++ [y]).length : Int) - 1) = (q.length : Int):=by rw [snocA,w64 (by omega) (by omega)];omega
     have hy : rdT t (q.length : Int) = y:=by rw [hl,List.append_assoc];exact rdS_mid q y (x :: u)
     by_cases hb : bef y x = true
     ·refine Ev.step (fun k => ?_) (i1.is ?_)
      ·simp only [spec_AutomatonValid.l0];rw [if_pos (by omega),if_pos (by omega),if_pos (by omega),hx,sStepOk n hn,hok,Option.bind_some,if_pos rfl,if_pos (by rw [snocA];omega),e,if_pos (by omega),if_pos (by omega),hy,sBefore,hb,Option.bind_some,if_pos rfl,w64 (by omega) (by omega)]
      ·simp only [stp,List.getLast?_concat,hok,hb,Bool.true_and]
     ·rw [Bool.not_eq_true] at hb
      refine Ev.step (f:=fun _ => some false) (fun k => ?_) ((Ev.now _).is ?_)
      ·simp only [spec_AutomatonValid.l0];rw [if_pos (by omega),if_pos (by omega),if_pos (by omega),hx,sStepOk n hn,hok,Option.bind_some,if_pos rfl,if_pos (by rw [snocA];omega),e,if_pos (by omega),if_pos (by omega),hy,sBefore,hb,Option.bind_some,if_neg (by simp)]
      ·simp only [stp,List.getLast?_concat,hok,hb,Bool.true_and];rfl
   ·rw [Bool.not_eq_true] at hok
    refine Ev.step (f:=fun _ => some false) (fun k => ?_) ((Ev.now _).is ?_)
    ·simp only [spec_AutomatonValid.l0];rw [if_pos (by omega),if_pos (by omega),if_pos (by omega),hx,sStepOk n hn,hok,Option.bind_some,if_neg (by simp)]
    ·simp only [stp,hok,Bool.false_and]
 exact go t [] rfl
theorem iAV (n : Int) (s f : List Int) (t : List Stp) (hs : s.length ≤ 1000000000) (hf : f.length ≤ 1000000000) (ht : t.length ≤ 1000000000) : Ev (fun k => impl_AutomatonValid.f k n s f t) (AV n s f t):=by
 have bad : ∀ g : Nat → Option Bool,(∀ k,g k = some false) → AV n s f t = false → Ev g (AV n s f t):=fun g hg he => ⟨0,fun k _ => by rw [hg,he]⟩
 by_cases h1 : n < 1
 ·exact bad _ (fun k => by unfold impl_AutomatonValid.f;rw [if_pos h1]) (by unfold AV;rw [decide_eq_false (by omega)];rfl)
 by_cases h2 : n > 4
 ·exact bad _ (fun k => by unfold impl_AutomatonValid.f;rw [if_neg h1,if_pos h2]) (by unfold AV;rw [decide_eq_false (by omega)];rfl)
 by_cases h3 : (t.length : Int) > 24
 ·exact bad _ (fun k => by unfold impl_AutomatonValid.f;rw [if_neg h1,if_neg h2,if_pos h3]) (by unfold AV;rw [decide_eq_false (by omega)];rfl)
 have hd : decide (1 ≤ n ∧ n ≤ 4 ∧ t.length ≤ 24) = true:=decide_eq_true (by omega)
 refine Ev.congr (f:=?f1) (fun k => ?h1) ?k1
 case h1 => unfold impl_AutomatonValid.f;rw [if_neg h1,if_neg h2,if_neg h3] <;> exact rfl
 refine Ev.bind (iMarks n s hs) ?_
 by_cases g1 : mrk n none s = true
 case neg =>
  exact bad _ (fun k => by rw [if_neg g1]) (by unfold AV;rw [Bool.not_eq_true] at g1;rw [g1];simp)
 refine Ev_t g1 ?_
 refine Ev.bind (iMarks n f hf) ?_
 by_cases g2 : mrk n none f = true
 case neg =>
  rw [Bool.not_eq_true] at g2
  exact bad _ (fun k => by rw [g2];rfl) (by unfold AV;rw [g2];simp)
 refine Ev.congr (fun k => by rw [if_pos g2]) ((iSteps n s f t ht).is ?_)
 unfold AV;rw [hd,g1,g2];rfl
theorem sAV (n : Int) (s f : List Int) (t : List Stp) (hs : s.length ≤ 1000000000) (hf : f.length ≤ 1000000000) (ht : t.length ≤ 1000000000) : Ev (fun k => spec_AutomatonValid.f k n s f t) (AV n s f t):=by
 have bad : ∀ g : Nat → Option Bool,(∀ k,g k = some false) → AV n s f t = false → Ev g (AV n s f t):=fun g hg he => ⟨0,fun k _ => by rw [hg,he]⟩
 by_cases h1 : 1 ≤ n ∧ n ≤ 4
 case neg => exact bad _ (fun k => by unfold spec_AutomatonValid.f;rw [sIn,decide_eq_false h1,Option.bind_some,if_neg (by simp)]) (by unfold AV;rw [decide_eq_false (by omega)];rfl)
 refine Ev.congr (f:=?f1) (fun k => ?h1) ?k1
 case h1 => unfold spec_AutomatonValid.f;rw [sIn,decide_eq_true h1,Option.bind_some,if_pos rfl] <;> exact rfl
 refine Ev.bind (sMarks n h1 s hs) ?_
 by_cases g1 : mrk n none s = true
 case neg =>
  exact bad _ (fun k => by rw [if_neg g1]) (by unfold AV;rw [Bool.not_eq_true] at g1;rw [g1];simp)
 refine Ev_t g1 ?_
 refine Ev.bind (sMarks n h1 f hf) ?_
 by_cases g2 : mrk n none f = true
 case neg =>
  exact bad _ (fun k => by rw [if_neg g2]) (by unfold AV;rw [Bool.not_eq_true] at g2;rw [g2];simp)
 refine Ev_t g2 ?_
 by_cases h3 : (t.length : Int) > 24
 ·exact bad _ (fun k => by rw [if_pos h3]) (by unfold AV;rw [decide_eq_false (by omega)];rfl)
 refine Ev.congr (fun k => by rw [if_neg h3]) ((sSteps n h1 s f t ht).is ?_)
 unfold AV;rw [decide_eq_true (by omega),g1,g2];rfl
theorem mrk_mem {n : Int} : ∀ {l : List Int} {p : Option Int},mrk n p l = true → ∀ x ∈ l,0 ≤ x ∧ x < n
 | [],_,_,x,hx => by cases hx
 | y :: t,p,h,x,hx => by
  simp only [mrk,Bool.and_eq_true,decide_eq_true_eq] at h
  rcases List.mem_cons.mp hx with rfl|hx
  ·exact h.1.1
  ·exact mrk_mem h.2 x hx
theorem cellZ {n i k : Int} (hn : 1 ≤ n ∧ n ≤ 4) (hi : 0 ≤ i ∧ i < n) (hk : 0 ≤ k ∧ k < n) : 0 ≤ i * n + k ∧ i * n + k < n * n ∧ i * n + k ≤ 16 ∧ 0 ≤ i * n ∧ i * n ≤ 16:=by
 have h1 : n = 1 ∨ n = 2 ∨ n = 3 ∨ n = 4:=by omega
 rcases h1 with rfl|rfl|rfl|rfl <;> omega
theorem cellW {n i k : Int} (hn : 1 ≤ n ∧ n ≤ 4) (hi : 0 ≤ i ∧ i < n) (hk : 0 ≤ k ∧ k < n) : wrap64 (wrap64 (i * n) + k) = i * n + k:=by
 have c:=cellZ hn hi hk
 rw [w64 (x:=i * n) (by omega) (by omega),w64 (by omega) (by omega)]
theorem AV_parts {n : Int} {s f : List Int} {t : List Stp} (h : AV n s f t = true) : (1 ≤ n ∧ n ≤ 4) ∧ t.length ≤ 24 ∧ mrk n none s = true ∧ mrk n none f = true ∧ stp n none t = true:=by
 simp only [AV,Bool.and_eq_true,decide_eq_true_eq] at h
 exact ⟨⟨h.1.1.1.1,h.1.1.1.2.1⟩,h.1.1.1.2.2,h.1.1.2,h.1.2,h.2⟩
def cvS (x : Stp) : Stp:=⟨x.f0,x.f1,x.f2,x.f3⟩
theorem rdL_mid (pre : List Stp) (x : Stp) (t : List Stp) : rdT (pre ++ x :: t) (pre.length : Int) = x:=by simp [rdT,List.getD_eq_getElem?_getD]
theorem toStepS_ev (l : List Stp) (h : l.length ≤ 1048576) : Ev (fun k => laws_toStepS.f k l) (l.map cvS):=by
 have go : ∀ (t pre : List Stp),l = pre ++ t → Ev (fun k => laws_toStepS.l0 k l (pre.map cvS ++ List.replicate t.length zStp) (pre.length : Int)) (l.map cvS):=by
  intro t
  induction t with
  | nil =>
   intro pre hl
   refine Ev.step (f:=fun _ => some (l.map cvS)) (fun k => ?_) (Ev.now _)
   simp only [laws_toStepS.l0]
   rw [if_neg (by rw [hl];simp)]
   simp [hl]
  | cons x t ih =>
   intro pre hl
   have hlen : l.length = pre.length + (t.length + 1):=by rw [hl];simp
   have hx : rdT l (pre.length : Int) = x:=by rw [hl,rdL_mid]
   refine Ev.step (fun k => ?_) (ih (pre ++ [x]) (by simp [hl]))
   simp only [laws_toStepS.l0,laws_toStep.f]
   rw [if_pos (by omega),if_pos (by omega),hx,Option.bind_some,if_pos (by simp;omega),w64 (by omega) (by omega),snocA]
   congr 1
   simp [List.replicate_succ,List.set_append,cvS]
 refine Ev.congr (fun k => ?_) (go l [] rfl)
 unfold laws_toStepS.f
 rw [if_pos (by omega),if_pos (by omega)]
 simp
 rfl
theorem eqStepS_ev (a : List Stp) (h : a.length ≤ 1000000000) : Ev (fun k => laws_eqStepS.f k a a) true:=by
 have go : ∀ (t pre : List Stp),a = pre ++ t → Ev (fun k => laws_eqStepS.l0 k a a (pre.length : Int)) true:=by
  intro t
  induction t with
  | nil =>
   intro pre hl
   refine Ev.step (f:=fun _ => some true) (fun k => ?_) (Ev.now _)
   simp only [laws_eqStepS.l0]
   rw [if_neg (by rw [hl];simp)]
  | cons x t ih =>
   intro pre hl
   have hlen : a.length = pre.length + (t.length + 1):=by rw [hl];simp
   have hx : rdT a (pre.length : Int) = x:=by rw [hl,rdS_mid]
   refine Ev.step (fun k => ?_) (ih (pre ++ [x]) (by simp [hl]))
   simp only [laws_eqStepS.l0,laws_eqStep.f]
   rw [if_pos (by omega),if_pos (by omega),if_pos (by omega)]
   simp only [if_true,Option.bind_some]
   rw [w64 (by omega) (by omega),snocA]
 refine Ev.congr (fun k => ?_) (go a [] rfl)
 unfold laws_eqStepS.f
 rw [if_pos rfl];rfl
theorem toAutomaton_ev (n : Int) (s f : List Int) (t : List Stp) (hs : s.length ≤ 1048576) (hf : f.length ≤ 1048576) (ht : t.length ≤ 1048576) : Ev (fun k => laws_toAutomaton.f k n s f t) (n,s,f,t.map cvS):=by
 refine Ev.congr (f:=?f1) (fun k => ?h1) ?k1
 case h1 => unfold laws_toAutomaton.f;exact rfl
 exact Ev.bind (toIntS_ev s hs) (Ev.bind (toIntS_ev f hf) (Ev.bind (toStepS_ev t ht) (Ev.now _)))
theorem eqAutomaton_ev (n : Int) (s f : List Int) (t : List Stp) (hs : s.length ≤ 1000000000) (hf : f.length ≤ 1000000000) (ht : t.length ≤ 1000000000) : Ev (fun k => laws_eqAutomaton.f k n s f t n s f t) true:=by
 refine Ev.congr (f:=?f1) (fun k => ?h1) ?k1
 case h1 => unfold laws_eqAutomaton.f;rw [if_pos rfl] <;> exact rfl
 refine Ev.bind (eqIntS_ev s s hs) (Ev_t (by simp) (Ev.bind (eqIntS_ev f f hf) (Ev_t (by simp) (Ev.bind (eqStepS_ev t ht) (Ev_t rfl (Ev.now _))))))
theorem szIntS_eq (l : List Int) (z : Int) (h : l.length ≤ maxLen) (h0 : 0 ≤ z) (h1 : z ≤ 1048576) : laws_szIntS.f l z = some (if (l.length : Int) ≤ z then z - l.length else -1):=by
 rw [maxLen_eq] at h
 unfold laws_szIntS.f
 rw [w64 (by omega) (by omega)]
 by_cases hl : (l.length : Int) ≤ z
 ·rw [if_neg (by omega),if_pos hl]
 ·rw [if_pos (by omega),if_neg hl]
theorem szStepS_ev (l : List Stp) (h : l.length ≤ maxLen) (hx : ∀ x ∈ l,x.f1.size ≤ maxLen) (z : Int) (h0 : 0 ≤ z) (h1 : z ≤ 1048576) : ∃ r : Int,Ev (fun k => laws_szStepS.f k l z) r ∧ (r < 0 ∨ (0 ≤ r ∧ r ≤ z ∧ l.length ≤ z)):=by
 rw [maxLen_eq] at h
 by_cases hl : (l.length : Int) ≤ z
 ·have go : ∀ (t pre : List Stp) (y : Int),l = pre ++ t → 0 ≤ y → y ≤ z → ∃ r : Int,Ev (fun k => laws_szStepS.l0 k l y (pre.length : Int)) r ∧ (r < 0 ∨ (0 ≤ r ∧ r ≤ z)):=by
   intro t
   induction t with
   | nil =>
    intro pre y hp hy hz
    refine ⟨y,Ev.step (f:=fun _ => some y) (fun k => ?_) (Ev.now _),.inr ⟨hy,hz⟩⟩
    simp only [laws_szStepS.l0]
    rw [if_neg (by rw [hp];simp)]
   | cons x t ih =>
    intro pre y hp hy hz
    have hlen : l.length = pre.length + (t.length + 1):=by rw [hp];simp
    have hr : rdT l (pre.length : Int) = x:=by rw [hp,rdL_mid]
    have hm:=hx x (by rw [hp];simp)
    rw [maxLen_eq] at hm
    have hw : wrap64 (y - (x.f1.size : Int)) = y - x.f1.size:=w64 (by omega) (by omega)
    by_cases hq : y - x.f1.size < 0
    ·refine ⟨-1,Ev.step (f:=fun _ => some (-1)) (fun k => ?_) (Ev.now _),.inl (by omega)⟩
     simp only [laws_szStepS.l0,laws_szStep.f]
     rw [if_pos (by omega),if_pos (by omega),hr,hw,if_pos hq,Option.bind_some,if_pos (by omega)]
    ·obtain ⟨r,e,c⟩:=ih (pre ++ [x]) (y - x.f1.size) (by simp [hp]) (by omega) (by omega)
     refine ⟨r,Ev.step (fun k => ?_) e,c⟩
     simp only [laws_szStepS.l0,laws_szStep.f]
     rw [if_pos (by omega),if_pos (by omega),hr,hw,if_neg hq,Option.bind_some,if_neg hq,w64 (by omega) (by omega),snocA]
  obtain ⟨r,e,c⟩:=go l [] (z - l.length) rfl (by omega) (by omega)
  refine ⟨r,Ev.congr (fun k => ?_) e,c.imp id (fun c => ⟨c.1,c.2,by omega⟩)⟩
  unfold laws_szStepS.f
  rw [w64 (by omega) (by omega),if_neg (by omega)];rfl
 ·refine ⟨-1,Ev.congr (f:=fun _ => some (-1)) (fun k => ?_) (Ev.now _),.inl (by omega)⟩
  unfold laws_szStepS.f
  rw [w64 (by omega) (by omega),if_pos (by omega)]
theorem szAutomaton_ev (n : Int) (s f : List Int) (t : List Stp) (hs : s.length ≤ maxLen) (hf : f.length ≤ maxLen) (ht : t.length ≤ maxLen) (hx : ∀ x ∈ t,x.f1.size ≤ maxLen) (z : Int) (h0 : 0 ≤ z) (h1 : z ≤ 1048576) :
  ∃ r : Int,Ev (fun k => laws_szAutomaton.f k n s f t z) r ∧ (r < 0 ∨ (0 ≤ r ∧ r ≤ z ∧ s.length ≤ 1048576 ∧ f.length ≤ 1048576 ∧ t.length ≤ 1048576)):=by
 by_cases a1 : (s.length : Int) ≤ z
 case neg => exact ⟨-1,Ev.congr (f:=fun _ => some (-1)) (fun k => by unfold laws_szAutomaton.f;rw [szIntS_eq s z hs h0 h1,if_neg a1,Option.bind_some,if_pos (by omega)]) (Ev.now _),.inl (by omega)⟩
 by_cases a2 : (f.length : Int) ≤ z - s.length
 case neg => exact ⟨-1,Ev.congr (f:=fun _ => some (-1)) (fun k => by unfold laws_szAutomaton.f;rw [szIntS_eq s z hs h0 h1,if_pos a1,Option.bind_some,if_neg (by omega),szIntS_eq f _ hf (by omega) (by omega),if_neg a2,Option.bind_some,if_pos (by omega)]) (Ev.now _),.inl (by omega)⟩
 obtain ⟨r,e,c⟩:=szStepS_ev t ht hx (z - s.length - f.length) (by omega) (by omega)
 by_cases hr : r < 0
 ·refine ⟨-1,?_,.inl (by omega)⟩
  unfold laws_szAutomaton.f
  simp only [szIntS_eq s z hs h0 h1,if_pos a1,Option.bind_some,if_neg (show ¬ z - (s.length : Int) < 0 by omega),szIntS_eq f (z - (s.length : Int)) hf (by omega) (by omega),if_pos a2,if_neg (show ¬ z - (s.length : Int) - (f.length : Int) < 0 by omega)]
  exact Ev.bind e (Ev_t hr (Ev.now _))
 ·have c:=c.resolve_left hr
  refine ⟨r,?_,.inr ⟨c.1,by omega,by omega,by omega,by omega⟩⟩
  unfold laws_szAutomaton.f
  simp only [szIntS_eq s z hs h0 h1,if_pos a1,Option.bind_some,if_neg (show ¬ z - (s.length : Int) < 0 by omega),szIntS_eq f (z - (s.length : Int)) hf (by omega) (by omega),if_pos a2,if_neg (show ¬ z - (s.length : Int) - (f.length : Int) < 0 by omega)]
  exact Ev.bind e (Ev_f hr (Ev.now _))
def count : Int → Nat → List Int
 | _,0 => []
 | k,n + 1 => k :: count (k + 1) n
theorem count_length (n : Nat) : ∀ k,(count k n).length = n:=by induction n with
 | zero => intro k;rfl
 | succ n ih => intro k;simp [count,ih]
theorem markIntS_ev (l : List Int) (c : Int) (h : l.length ≤ 1000000000) (h0 : 0 ≤ c) (h1 : c ≤ 1000000000) : Ev (fun k => laws_markIntS.f k l c) (c + l.length,count c l.length):=by
 have go : ∀ (t pre : List Int) (m : Int),pre.length + t.length = l.length → m = c + pre.length → Ev (fun k => laws_markIntS.l0 k (pre ++ t) m (pre.length : Int)) (c + l.length,pre ++ count m t.length):=by
  intro t
  induction t with
  | nil =>
   intro pre m hl hm
   refine Ev.step (f:=fun _ => some (m,pre)) (fun k => ?_) ((Ev.now _).is ?_)
   ·simp only [laws_markIntS.l0];rw [if_neg (by simp)];simp
   ·simp at hl;simp [count];omega
  | cons x t ih =>
   intro pre m hl hm
   simp at hl
   have i:=ih (pre ++ [m]) (m + 1) (by simp;omega) (by simp;omega)
   refine Ev.step (fun k => ?_) (i.is (by simp [count]))
   simp only [laws_markIntS.l0]
   rw [if_pos (by simp;omega),if_pos (by omega),w64 (by omega) (by omega),w64 (by omega) (by omega),snoc_len]
   congr 1
   simp [List.set_append]
 exact (go l [] c (by simp) (by simp))
theorem heldIntS_ev (n : Nat) (c : Int) (h : n ≤ 1000000000) (h0 : 0 ≤ c) (h1 : c ≤ 1000000000) : Ev (fun k => laws_heldIntS.f k (count c n) c) (c + n):=by
 have go : ∀ (m : Nat) (pre : List Int) (z : Int),pre.length + m = n → z = c + pre.length → Ev (fun k => laws_heldIntS.l0 k (pre ++ count z m) z (pre.length : Int)) (c + n):=by
  intro m
  induction m with
  | zero =>
   intro pre z hl hz
   refine Ev.step (f:=fun _ => some z) (fun k => ?_) ((Ev.now _).is (by omega))
   simp only [laws_heldIntS.l0];rw [if_neg (by simp [count])]
  | succ m ih =>
   intro pre z hl hz
   have i:=ih (pre ++ [z]) (z + 1) (by simp;omega) (by simp;omega)
   show Ev (fun k => laws_heldIntS.l0 k (pre ++ z :: count (z + 1) m) z (pre.length : Int)) (c + n)
   refine Ev.step (fun k => ?_) i
   simp only [laws_heldIntS.l0]
   rw [if_pos (by simp [count_length];omega),if_pos (by omega),if_pos (by rw [rd_mid]),w64 (by omega) (by omega),w64 (by omega) (by omega),snoc_len]
   simp
 exact go n [] c (by simp) (by simp)
theorem markText_ev (c : Int) (h0 : 1 ≤ c) (h1 : c ≤ 1000000000) : ∃ r,Ev (fun k => laws_markText.f k c) r:=by
 have go : ∀ (d : Nat) (x : Int) (s : ByteArray),0 ≤ x → x.toNat ≤ d → s.size + d ≤ 2000000000 → ∃ r,Ev (fun k => laws_markText.l0 k x s) r:=by
  intro d
  induction d with
  | zero =>
   intro x s hx hd hs
   refine ⟨_,Ev.step (f:=fun _ => some ((⟨#[109]⟩ : ByteArray) ++ s)) (fun k => ?_) (Ev.now _)⟩
   simp only [laws_markText.l0];rw [if_neg (by omega),if_pos (by omega)]
  | succ d ih =>
   intro x s hx hd hs
   by_cases hx0 : x > 0
   ·have e1 : Int.tdiv x 10 = x / 10:=Int.tdiv_eq_ediv_of_nonneg (by omega)
    have hz : (strOfNums [(wrap64 (48 + (Int.tmod x 10))) % 256]).size = 1:=rfl
    obtain ⟨r,hr⟩:=ih (x / 10) (strOfNums [(wrap64 (48 + (Int.tmod x 10))) % 256] ++ s) (by omega) (by omega) (by rw [ByteArray.size_append,hz];omega)
    refine ⟨r,Ev.step (fun k => ?_) hr⟩
    simp only [laws_markText.l0]
    rw [if_pos hx0,hz,if_pos (by omega),e1,w64 (x:=x / 10) (by omega) (by omega)]
   ·refine ⟨_,Ev.step (f:=fun _ => some ((⟨#[109]⟩ : ByteArray) ++ s)) (fun k => ?_) (Ev.now _)⟩
    simp only [laws_markText.l0];rw [if_neg hx0,if_pos (by omega)]
 obtain ⟨r,hr⟩:=go c.toNat c ⟨#[]⟩ (by omega) (Nat.le_refl _) (by show 0 + c.toNat ≤ 2000000000;omega)
 exact ⟨r,Ev.congr (fun k => by unfold laws_markText.f;rw [if_neg (by omega)]) hr⟩
theorem markStepS_ev (l : List Stp) (c : Int) (h : l.length ≤ 20000000) (h0 : 1 ≤ c) (h1 : c ≤ 20000000) : ∃ l',Ev (fun k => laws_markStepS.f k l c) (c + 4 * l.length,l'):=by
 have go : ∀ (d : Nat) (m : List Stp) (i : Nat) (z : Int),m.length = l.length → i + d = l.length → z = c + 4 * i → ∃ l',Ev (fun k => laws_markStepS.l0 k m z (i : Int)) (c + 4 * l.length,l'):=by
  intro d
  induction d with
  | zero =>
   intro m i z hm hi hz
   refine ⟨m,Ev.step (f:=fun _ => some (z,m)) (fun k => ?_) ((Ev.now _).is (by rw [hz];congr 1;omega))⟩
   simp only [laws_markStepS.l0];rw [if_neg (by omega)]
  | succ d ih =>
   intro m i z hm hi hz
   obtain ⟨r,hr⟩:=markText_ev (z + 1) (by omega) (by omega)
   have i1 : (i : Int) < (m.length : Int):=by omega
   have i2 : 0 ≤ (i : Int):=by omega
   have key : ∀ m' : List Stp,m'.length = l.length → ∃ l',Ev (fun k => laws_markStepS.l0 k m' (z + 1 + 1 + 1 + 1) ((i + 1 : Nat) : Int)) (c + 4 * l.length,l'):=fun m' hm' => ih m' (i + 1) (z + 1 + 1 + 1 + 1) hm' (by omega) (by rw [hz];push_cast;omega)
   have hw1 : wrap64 (z + 1) = z + 1:=w64 (by omega) (by omega)
   have hw2 : wrap64 (z + 1 + 1) = z + 1 + 1:=w64 (by omega) (by omega)
   have hw3 : wrap64 (z + 1 + 1 + 1) = z + 1 + 1 + 1:=w64 (by omega) (by omega)
   have hw4 : wrap64 (z + 1 + 1 + 1 + 1) = z + 1 + 1 + 1 + 1:=w64 (by omega) (by omega)
   have hw5 : wrap64 ((i : Int) + 1) = ((i + 1 : Nat) : Int):=by rw [w64 (by omega) (by omega)];rfl
   have pS : ∀ {f g : Nat → Option (Int × List Stp)},(∀ k,f (k + 1) = g k) → (∃ l',Ev g (c + 4 * l.length,l')) → ∃ l',Ev f (c + 4 * l.length,l'):=fun h e => e.elim fun l' e => ⟨l',Ev.step h e⟩
   have pB : ∀ {α : Type} {f : Nat → Option α} {a : α} {g : Nat → α → Option (Int × List Stp)},Ev f a → (∃ l',Ev (fun k => g k a) (c + 4 * l.length,l')) → ∃ l',Ev (fun k => (f k).bind (g k)) (c + 4 * l.length,l'):=fun h e => e.elim fun l' e => ⟨l',Ev.bind h e⟩
   refine pS (fun k => by simp only [laws_markStepS.l0];rw [if_pos i1,if_pos i2,hw1] <;> exact rfl) ?_
   refine pB hr ?_
   simp only [List.length_set,if_pos i1,hw1,hw2,hw3,hw4,hw5]
   exact key _ (by simp only [List.length_set];exact hm)
 exact go l.length l 0 c rfl (by omega) (by simp)
theorem markAutomaton_ev (n : Int) (s f : List Int) (t : List Stp) (hs : s.length ≤ 1048576) (hf : f.length ≤ 1048576) (ht : t.length ≤ 1048576) : ∃ (z : Int) (s' f' : List Int) (t' : List Stp),Ev (fun k => laws_markAutomaton.f k n s f t 1) (z,s',f',t') ∧ 1 ≤ z ∧ z ≤ 20000000:=by
 obtain ⟨t',h⟩:=markStepS_ev t (1 + s.length + f.length) (by omega) (by omega) (by omega)
 refine ⟨1 + s.length + f.length + 4 * t.length,count 1 s.length,count (1 + s.length) f.length,t',?_,by omega,by omega⟩
 unfold laws_markAutomaton.f
 exact Ev.bind (markIntS_ev s 1 (by omega) (by omega) (by omega)) (Ev.bind (markIntS_ev f (1 + s.length) (by omega) (by omega) (by omega)) (Ev.bind h (Ev.now _)))
theorem bless : ∀ (a b : List UInt8),Op.bytesLess a b = decide (Lib.compareBytes a b < 0)
 | [],[] => rfl
 | [],_ :: _ => rfl
 | _ :: _,[] => rfl
 | a :: x,b :: y => by
  have e : Lib.compareBytes (a :: x) (b :: y) = if a < b then -1 else if b < a then 1 else Lib.compareBytes x y:=rfl
  by_cases h1 : a < b
  ·have h2 : Op.bytesLess (a :: x) (b :: y) = true:=by simp [Op.bytesLess,h1]
   exact h2.trans (decide_eq_true (by rw [e,if_pos h1];decide)).symm
  ·by_cases h2 : b < a
   ·have h3 : (a == b) = false:=by
     rw [beq_eq_false_iff_ne]
     rintro rfl
     exact h1 h2
    have h4 : Op.bytesLess (a :: x) (b :: y) = false:=by simp [Op.bytesLess,h1,h3]
    exact h4.trans (decide_eq_false (by rw [e,if_neg h1,if_pos h2];decide)).symm
   ·have q : a = b:=UInt8.le_antisymm (UInt8.not_lt.1 h2) (UInt8.not_lt.1 h1)
    subst q
    have h4 : Op.bytesLess (a :: x) (a :: y) = Op.bytesLess x y:=by simp [Op.bytesLess,h1]
    refine h4.trans ((bless x y).trans (decide_eq_decide.2 ?_))
    rw [e,if_neg h1,if_neg h1]
theorem bef_ord (s t : Stp) : bef s t = decide (ordT s t < 0):=by
 have e1:=toList_L s.f1
 have e2:=toList_L t.f1
 unfold L at e1 e2
 unfold bef
 by_cases h : s.f0 = t.f0
 ·rw [if_pos h]
  by_cases g : s.f1.toList = t.f1.toList
  ·rw [if_pos g]
   refine decide_eq_decide.2 ?_
   rw [ordT_lt,e1.symm.trans (g.trans e2),cB_refl]
   constructor
   ·exact fun q => .inr ⟨h,.inr ⟨rfl,q⟩⟩
   ·rintro (q | ⟨_,q | ⟨_,q⟩⟩)
    ·omega
    ·omega
    ·exact q
  ·rw [if_neg g,bless]
   refine decide_eq_decide.2 ?_
   rw [ordT_lt,e1,e2]
   constructor
   ·exact fun q => .inr ⟨h,.inl q⟩
   ·rintro (q | ⟨_,q | ⟨q,_⟩⟩)
    ·omega
    ·exact q
    ·exact absurd (e1.trans (q.trans e2.symm)) g
 ·rw [if_neg h]
  refine decide_eq_decide.2 ?_
  rw [ordT_lt]
  constructor
  ·exact .inl
  ·rintro (q | ⟨q,_⟩)
   ·exact q
   ·exact absurd q h
def ascT (t : List Stp) : Prop:=t.Pairwise fun x y => ordT x y < 0
def ascI (l : List Int) : Prop:=l.Pairwise fun x y => x < y
theorem stp_asc {n : Int} : ∀ {t : List Stp} {p : Option Stp},stp n p t = true ↔ (∀ x ∈ t,stepOk n x = true) ∧ ascT t ∧ ∀ y,p = some y → ∀ x ∈ t,ordT y x < 0
 | [],p => by simp [stp,ascT]
 | x :: t,p => by
  simp only [stp,Bool.and_eq_true,stp_asc (t:=t) (p:=some x),ascT,List.pairwise_cons,List.mem_cons,forall_eq_or_imp]
  constructor
  ·rintro ⟨⟨h1,h2⟩,h3,h4,h5⟩
   refine ⟨⟨h1,h3⟩,⟨h5 x rfl,h4⟩,?_⟩
   rintro y rfl
   simp only [bef_ord,decide_eq_true_eq] at h2
   exact ⟨h2,fun z hz => ordT_trans h2 (h5 x rfl z hz)⟩
  ·rintro ⟨⟨h1,h3⟩,⟨h4,h5⟩,h6⟩
   refine ⟨⟨h1,?_⟩,h3,h5,fun y hy => by cases hy;exact h4⟩
   cases p with
   | none => rfl
   | some y => simp only [bef_ord,decide_eq_true_eq];exact (h6 y rfl).1
theorem mrk_asc {n : Int} : ∀ {t : List Int} {p : Option Int},mrk n p t = true ↔ (∀ x ∈ t,0 ≤ x ∧ x < n) ∧ ascI t ∧ ∀ y,p = some y → ∀ x ∈ t,y < x
 | [],p => by simp [mrk,ascI]
 | x :: t,p => by
  simp only [mrk,Bool.and_eq_true,mrk_asc (t:=t) (p:=some x),ascI,List.pairwise_cons,List.mem_cons,forall_eq_or_imp,decide_eq_true_eq]
  constructor
  ·rintro ⟨⟨h1,h2⟩,h3,h4,h5⟩
   refine ⟨⟨h1,h3⟩,⟨h5 x rfl,h4⟩,?_⟩
   rintro y rfl
   simp only [decide_eq_true_eq] at h2
   exact ⟨h2,fun z hz => Int.lt_trans h2 (h5 x rfl z hz)⟩
  ·rintro ⟨⟨h1,h3⟩,⟨h4,h5⟩,h6⟩
   refine ⟨⟨h1,?_⟩,h3,h5,fun y hy => by cases hy;exact h4⟩
   cases p with
   | none => rfl
   | some y => simp only [decide_eq_true_eq];exact (h6 y rfl).1
theorem asc_ne {t : List Stp} (h : ascT t) {x y : Stp} (hx : x ∈ t) (hy : y ∈ t) (e : ordT x y = 0) : x = y:=by
 induction t with
 | nil => cases hx
 | cons z t ih =>
  unfold ascT at h
  rw [List.pairwise_cons] at h
  rcases List.mem_cons.1 hx with q1|q1
  ·rcases List.mem_cons.1 hy with q2|q2
   ·rw [q1,q2]
   ·have:=h.1 y q2;rw [← q1] at this;omega
  ·rcases List.mem_cons.1 hy with q2|q2
   ·have:=h.1 x q1
    have:=ordT_neg x y
    rw [← q2] at *
    omega
   ·exact ih h.2 q1 q2
theorem sortT_of {u t : List Stp} (h : ascT u) (p : u.Perm t) : sortT t = u:=by
 refine List.Perm.eq_of_pairwise (le:=fun x y => ¬ ordT y x < 0) (fun x y hx hy q1 q2 => ?_) (sortT_sorted t) (h.imp fun {x y} q => ?_) ((sortT_perm t).trans p.symm)
 ·have hx : x ∈ u:=p.symm.subset ((sortT_perm t).subset hx)
  have:=ordT_neg x y
  exact asc_ne h hx hy (by omega)
 ·have:=ordT_neg x y
  omega
theorem sortT_id {t : List Stp} (h : ascT t) : sortT t = t:=sortT_of h (.refl _)
theorem sortI_of {u t : List Int} (h : ascI u) (p : u.Perm t) : sortI t = u:=by
 refine List.Perm.eq_of_pairwise (le:=fun x y => x ≤ y) (fun x y _ _ q1 q2 => Int.le_antisymm q1 q2) (sortI_sorted t) (h.imp fun {x y} q => Int.le_of_lt q) ((sortI_perm t).trans p.symm)
theorem sortI_id {t : List Int} (h : ascI t) : sortI t = t:=sortI_of h (.refl _)
def putL : List Stp → Stp → List Stp
 | [],s => [s]
 | y :: l,s => if bef y s = true then y :: putL l s else if bef s y = true then s :: y :: l else ⟨y.f0,y.f1,y.f2,mn y.f3 s.f3⟩ :: l
theorem putL_len : ∀ (l : List Stp) (s : Stp),(putL l s).length ≤ l.length + 1
 | [],s => Nat.le_refl _
 | y :: l,s => by
  simp only [putL]
  split
  ·have:=putL_len l s;simp only [List.length_cons];omega
  ·split <;> simp
theorem ord_mn (y s x : Stp) : ordT ⟨y.f0,y.f1,y.f2,mn y.f3 s.f3⟩ x = ordT y x:=rfl
theorem putL_mem {l : List Stp} {s z : Stp} (h : z ∈ putL l s) : ordT s z = 0 ∨ ∃ x ∈ l,ordT x z = 0:=by
 have rf : ∀ a : Stp,ordT a a = 0:=fun a => ordT_zero.2 ⟨rfl,rfl,rfl⟩
 induction l with
 | nil =>
  simp only [putL,List.mem_singleton] at h
  subst h
  exact .inl (rf _)
 | cons y l ih =>
  simp only [putL] at h
  split at h
  ·rcases List.mem_cons.1 h with rfl|h
   ·exact .inr ⟨_,List.mem_cons_self ..,rf _⟩
   ·rcases ih h with q | ⟨x,q1,q2⟩
    ·exact .inl q
    ·exact .inr ⟨x,List.mem_cons_of_mem _ q1,q2⟩
  ·split at h
   ·rcases List.mem_cons.1 h with rfl|h
    ·exact .inl (rf _)
    ·exact .inr ⟨z,h,rf _⟩
   ·rcases List.mem_cons.1 h with rfl|h
    ·exact .inr ⟨y,List.mem_cons_self ..,by rw [ordT_zero];exact ⟨rfl,rfl,rfl⟩⟩
    ·exact .inr ⟨z,List.mem_cons_of_mem _ h,rf _⟩
theorem ord_same2 {y z s : Stp} (h : ordT s z = 0) : ordT y z = ordT y s:=by
 have a:=ordT_same (u:=y) h
 have b:=ordT_neg y z
 have c:=ordT_neg y s
 omega
theorem putL_asc {l : List Stp} (h : ascT l) (s : Stp) : ascT (putL l s):=by
 induction l with
 | nil => simp [putL,ascT]
 | cons y l ih =>
  unfold ascT at h ih ⊢
  rw [List.pairwise_cons] at h
  simp only [putL,bef_ord,decide_eq_true_eq]
  split
  ·rename_i q
   rw [List.pairwise_cons]
   refine ⟨fun z hz => ?_,ih h.2⟩
   rcases putL_mem hz with e | ⟨x,hx,e⟩
   ·rw [ord_same2 e];exact q
   ·rw [ord_same2 e];exact h.1 x hx
  ·split
   ·rename_i q
    rw [List.pairwise_cons,List.pairwise_cons]
    refine ⟨fun z hz => ?_,h.1,h.2⟩
    rcases List.mem_cons.1 hz with rfl|hz
    ·exact q
    ·exact ordT_trans q (h.1 z hz)
   ·rw [List.pairwise_cons]
    exact ⟨fun z hz => by rw [ord_mn];exact h.1 z hz,h.2⟩
theorem putL_perm {l : List Stp} {s : Stp} (h : ∀ y ∈ l,ordT y s ≠ 0) : (putL l s).Perm (s :: l):=by
 induction l with
 | nil => exact .refl _
 | cons y l ih =>
  simp only [putL,bef_ord,decide_eq_true_eq]
  split
  ·exact ((ih fun z hz => h z (List.mem_cons_of_mem _ hz)).cons y).trans (.swap ..)
  ·split
   ·exact .refl _
   ·have:=h y (List.mem_cons_self ..)
    have:=ordT_neg y s
    omega
def putAll (l u : List Stp) : List Stp:=u.foldl putL l
theorem putAll_len : ∀ (u l : List Stp),(putAll l u).length ≤ l.length + u.length
 | [],l => Nat.le_refl _
 | x :: u,l => by
  have h1:=putAll_len u (putL l x)
  have h2:=putL_len l x
  simp only [putAll,List.foldl_cons,List.length_cons] at *
  omega
theorem putAll_perm : ∀ (u l : List Stp),(l ++ u).Pairwise (fun x y => ordT x y ≠ 0) → (putAll l u).Perm (l ++ u)
 | [],l,_ => by rw [List.append_nil];exact .refl _
 | x :: u,l,h => by
  have hl : ∀ y ∈ l,ordT y x ≠ 0:=fun y hy => (List.pairwise_append.1 h).2.2 y hy x (List.mem_cons_self ..)
  have p:=putL_perm hl
  have e : (putL l x ++ u).Perm (l ++ x :: u):=(p.append_right u).trans (List.perm_middle.symm)
  refine (putAll_perm u (putL l x) ?_).trans e
  exact (e.pairwise_iff (fun {a b} q => by have:=ordT_neg a b;omega)).2 h
theorem putAll_asc : ∀ (u l : List Stp),ascT l → ascT (putAll l u)
 | [],l,h => h
 | x :: u,l,h => putAll_asc u (putL l x) (putL_asc h x)
theorem sortT_put {u : List Stp} (h : u.Pairwise fun x y => ordT x y ≠ 0) : sortT u = putAll [] u :=
 sortT_of (putAll_asc u [] List.Pairwise.nil) (by simpa using putAll_perm u [] (by simpa using h))
theorem put_ev (x : List Stp) (hx : x.length ≤ 1000000) (s : Stp) : Ev (fun k => spec_l3Put.f k x s.f0 s.f1 s.f2 s.f3) (putL x s):=by
 have ins : ∀ (pre v : List Stp),x = pre ++ v → (if (pre.length : Int) ≤ (x.length : Int) then (if ([] : List Stp).length + ((x.drop 0).take ((pre.length : Int).toNat - 0)).length ≤ 3518437208883 then (if (([] : List Stp) ++ ((x.drop 0).take ((pre.length : Int).toNat - 0))).length < 3518437208883 then (if (x.length : Int) ≤ (x.length : Int) then (if ((([] : List Stp) ++ ((x.drop 0).take ((pre.length : Int).toNat - 0))) ++ [(⟨s.f0,s.f1,s.f2,s.f3⟩ : Stp)]).length + ((x.drop (pre.length : Int).toNat).take (x.length - (pre.length : Int).toNat)).length ≤ 3518437208883 then (some (((([] : List Stp) ++ ((x.drop 0).take ((pre.length : Int).toNat - 0))) ++ [(⟨s.f0,s.f1,s.f2,s.f3⟩ : Stp)]) ++ ((x.drop (pre.length : Int).toNat).take (x.length - (pre.length : Int).toNat)))) else none) else none) else none) else none) else none) = some (pre ++ s :: v):=by
  intro pre v hp
  have hl : x.length = pre.length + v.length:=by rw [hp];simp
  have e1 : (x.drop 0).take ((pre.length : Int).toNat - 0) = pre:=by rw [Int.toNat_natCast,List.drop_zero,Nat.sub_zero,hp];exact List.take_left
  have e2 : (x.drop (pre.length : Int).toNat).take (x.length - (pre.length : Int).toNat) = v:=by
   rw [Int.toNat_natCast,hl,Nat.add_sub_cancel_left,hp,List.drop_left];exact List.take_length
  rw [e1,e2,if_pos (by omega),if_pos (by simp only [List.length_nil];omega),if_pos (by rw [List.nil_append];omega),if_pos (Int.le_refl _),if_pos (by simp only [List.nil_append,List.length_append,List.length_cons,List.length_nil];omega)]
  simp
 have go : ∀ (v pre : List Stp),x = pre ++ v → Ev (fun k => spec_l3Put.l0 k x (pre.length : Int) s.f0 s.f1 s.f2 s.f3) (pre ++ putL v s):=by
  intro v
  induction v with
  | nil =>
   intro pre hp
   refine Ev.step (f:=fun _ => some (pre ++ [s])) (fun k => ?_) (Ev.now _)
   simp only [spec_l3Put.l0]
   rw [if_neg (by rw [hp];simp),if_pos (Int.natCast_nonneg _)]
   exact ins pre [] hp
  | cons y v ih =>
   intro pre hp
   have hlen : x.length = pre.length + (v.length + 1):=by rw [hp];simp
   have hy : rdT x (pre.length : Int) = y:=by rw [hp,rdS_mid]
   have a0 : (pre.length : Int) < (x.length : Int):=by omega
   have wn : wrap64 ((pre.length : Int) + 1) = ((pre.length + 1 : Nat) : Int):=by rw [w64 (by omega) (by omega)];rfl
   have i1:=ih (pre ++ [y]) (by rw [hp];simp)
   rw [List.length_append,List.length_singleton] at i1
   simp only [putL]
   by_cases h1 : bef y s = true
   ·rw [if_pos h1]
    refine Ev.step (fun k => ?_) (i1.is (by simp))
    simp only [spec_l3Put.l0]
    rw [if_pos a0,if_pos (Int.natCast_nonneg _),hy,sBefore y s,h1,Option.bind_some,if_pos rfl,wn]
   ·have h1f : bef y s = false:=Bool.eq_false_iff.2 h1
    rw [if_neg h1]
    by_cases h2 : bef s y = true
    ·rw [if_pos h2]
     refine Ev.step (f:=fun _ => some (pre ++ s :: y :: v)) (fun k => ?_) (Ev.now _)
     simp only [spec_l3Put.l0]
     rw [if_pos a0,if_pos (Int.natCast_nonneg _),hy,sBefore y s,h1f,Option.bind_some,if_neg (by simp),sBefore s y,h2,Option.bind_some,if_pos rfl]
     exact ins pre (y :: v) hp
    ·have h2f : bef s y = false:=Bool.eq_false_iff.2 h2
     rw [if_neg h2]
     refine Ev.step (f:=fun _ => some (pre ++ (⟨y.f0,y.f1,y.f2,mn y.f3 s.f3⟩ : Stp) :: v)) (fun k => ?_) (Ev.now _)
     simp only [spec_l3Put.l0]
     rw [if_pos a0,if_pos (Int.natCast_nonneg _),hy,sBefore y s,h1f,Option.bind_some,if_neg (by simp),sBefore s y,h2f,Option.bind_some,if_neg (by simp),if_pos (by simp only [List.length_nil];omega),if_pos (by rw [List.nil_append];exact a0)]
     rw [List.nil_append,hy,Int.toNat_natCast,hp]
     congr 1
     rw [List.set_append_right _ _ (Nat.le_refl _),Nat.sub_self,List.set_cons_zero]
 have:=go x [] rfl
 unfold spec_l3Put.f
 exact this
abbrev At5:=Int × List Int × List Int × List Stp × Bool
def wholeR (n : Int) (s f : List Int) (t : List Stp) : At5:=if AV n s f t = true then (n,s,f,t,true) else (0,[],[],[],false)
theorem whole_ev (n : Int) (s f : List Int) (t : List Stp) (hs : s.length ≤ 1000000) (hf : f.length ≤ 1000000) (ht : t.length ≤ 1000000) : Ev (fun k => spec_l5Whole.f k n s f t) (wholeR n s f t):=by
 unfold spec_l5Whole.f wholeR
 refine Ev.bind (sAV n s f t (by omega) (by omega) (by omega)) ?_
 by_cases h : AV n s f t = true
 ·exact (Ev_t h (Ev.now _)).is (if_pos h).symm
 ·exact (Ev_f h (Ev.now _)).is (if_neg h).symm
theorem made_ev (n : Int) (s f : List Int) (t : List Stp) (hs : s.length ≤ 1000000) (hf : f.length ≤ 1000000) (ht : t.length ≤ 1000000) : Ev (fun k => impl_made.f k n s f t) (wholeR n (sortI s) (sortI f) (sortT t)):=by
 have l1:=sortI_length s
 have l2:=sortI_length f
 have l3:=sortT_length t
 unfold impl_made.f wholeR slices_Clone_int_int.f slices_Clone_impl_Step_impl_Step.f slices_Sort_int_int.f slices_SortFunc_impl_Step_impl_Step.f
 simp only [if_pos (show s.length ≤ 1000000000 from by omega),if_pos (show f.length ≤ 1000000000 from by omega),if_pos (show t.length ≤ 1000000000 from by omega),Option.bind_some]
 refine Ev.bind (iAV n (sortI s) (sortI f) (sortT t) (by omega) (by omega) (by omega)) ?_
 by_cases h : AV n (sortI s) (sortI f) (sortT t) = true
 ·exact (Ev_t h (Ev.now _)).is (if_pos h).symm
 ·exact (Ev_f h (Ev.now _)).is (if_neg h).symm
theorem AV_iff {n : Int} {s f : List Int} {t : List Stp} : AV n s f t = true ↔ (1 ≤ n ∧ n ≤ 4 ∧ t.length ≤ 24) ∧ ((∀ x ∈ s,0 ≤ x ∧ x < n) ∧ ascI s) ∧ ((∀ x ∈ f,0 ≤ x ∧ x < n) ∧ ascI f) ∧ (∀ x ∈ t,stepOk n x = true) ∧ ascT t:=by
 unfold AV
 simp only [Bool.and_eq_true,decide_eq_true_eq,mrk_asc,stp_asc]
 constructor
 ·rintro ⟨⟨⟨h1,h2,h3,_⟩,h4,h5,_⟩,h6,h7,_⟩
  exact ⟨h1,⟨h2,h3⟩,⟨h4,h5⟩,h6,h7⟩
 ·rintro ⟨h1,⟨h2,h3⟩,⟨h4,h5⟩,h6,h7⟩
  exact ⟨⟨⟨h1,h2,h3,fun y q => by cases q⟩,h4,h5,fun y q => by cases q⟩,h6,h7,fun y q => by cases q⟩
theorem asc_count {n : Int} : ∀ (l : List Int) (lo : Int),(∀ x ∈ l,lo ≤ x ∧ x < n) → ascI l → (l.length : Int) ≤ max 0 (n - lo)
 | [],lo,_,_ => by simp only [List.length_nil];omega
 | x :: l,lo,h,hs => by
  unfold ascI at hs
  rw [List.pairwise_cons] at hs
  have h0:=h x (List.mem_cons_self ..)
  have:=asc_count l (x + 1) (fun y hy => ⟨by have:=hs.1 y hy;omega,(h y (List.mem_cons_of_mem _ hy)).2⟩) hs.2
  simp only [List.length_cons]
  omega
theorem AV_len {n : Int} {s f : List Int} {t : List Stp} (h : AV n s f t = true) : s.length ≤ 4 ∧ f.length ≤ 4 ∧ t.length ≤ 24:=by
 obtain ⟨h1,⟨h2,h3⟩,⟨h4,h5⟩,h6,h7⟩:=AV_iff.1 h
 have a:=asc_count s 0 h2 h3
 have b:=asc_count f 0 h4 h5
 omega
noncomputable def mtx (c : Int) : ByteArray:=if h : 1 ≤ c ∧ c ≤ 1000000000 then Classical.choose (markText_ev c h.1 h.2) else ⟨#[]⟩
theorem mtx_ev (c : Int) (h : 1 ≤ c ∧ c ≤ 1000000000) : Ev (fun k => laws_markText.f k c) (mtx c):=by
 unfold mtx
 rw [dif_pos h]
 exact Classical.choose_spec (markText_ev c h.1 h.2)
noncomputable def countT : Int → Nat → List Stp
 | _,0 => []
 | c,n + 1 => ⟨c,mtx (c + 1),c + 2,c + 3⟩ :: countT (c + 4) n
theorem countT_length (n : Nat) : ∀ c,(countT c n).length = n:=by
 induction n with
 | zero => exact fun c => rfl
 | succ n ih => exact fun c => by simp [countT,ih]
theorem set_mid (pre : List Stp) (x y : Stp) (u : List Stp) : (pre ++ x :: u).set pre.length y = pre ++ y :: u:=by
 rw [List.set_append_right _ _ (Nat.le_refl _),Nat.sub_self,List.set_cons_zero]
theorem markT_ev (l : List Stp) (c : Int) (h : l.length ≤ 2000000) (h0 : 1 ≤ c) (h1 : c ≤ 30000000) : Ev (fun k => laws_markStepS.f k l c) (c + 4 * l.length,countT c l.length):=by
 have go : ∀ (u pre : List Stp) (z : Int),pre.length + u.length ≤ 2000000 → 1 ≤ z → z + 4 * u.length ≤ 50000000 → Ev (fun k => laws_markStepS.l0 k (pre ++ u) z (pre.length : Int)) (z + 4 * u.length,pre ++ countT z u.length):=by
  intro u
  induction u with
  | nil =>
   intro pre z hl hz hz2
   refine Ev.step (f:=fun _ => some (z,pre ++ [])) (fun k => ?_) ((Ev.now _).is (by simp [countT]))
   simp only [laws_markStepS.l0];rw [if_neg (by simp)]
  | cons x u ih =>
   intro pre z hl hz hz2
   simp only [List.length_cons] at hl hz2
   have hw1 : wrap64 (z + 1) = z + 1:=w64 (by omega) (by omega)
   have hw2 : wrap64 (z + 1 + 1) = z + 1 + 1:=w64 (by omega) (by omega)
   have hw3 : wrap64 (z + 1 + 1 + 1) = z + 1 + 1 + 1:=w64 (by omega) (by omega)
   have hw4 : wrap64 (z + 1 + 1 + 1 + 1) = z + 1 + 1 + 1 + 1:=w64 (by omega) (by omega)
   have hw5 : wrap64 ((pre.length : Int) + 1) = ((pre.length + 1 : Nat) : Int):=by rw [w64 (by omega) (by omega)];rfl
   have i1:=ih (pre ++ [⟨z,mtx (z + 1),z + 2,z + 3⟩]) (z + 4) (by rw [List.length_append,List.length_singleton];omega) (by omega) (by omega)
   have a0 : ∀ y : Stp,(pre.length : Int) < ((pre ++ y :: u).length : Int):=fun y => by simp only [List.length_append,List.length_cons];omega
   refine Ev.step (f:=?_) (fun k => ?_) ?_
   rotate_left 1
   ·simp only [laws_markStepS.l0]
    rw [if_pos (a0 x),if_pos (Int.natCast_nonneg _)]
   ·refine Ev.bind (by rw [hw1];exact mtx_ev (z + 1) (by omega)) ?_
    simp only [Int.toNat_natCast,set_mid,rdS_mid,hw1,hw2,hw3,hw4,hw5]
    refine Ev_t (a0 _) (Ev_t (a0 _) (Ev_t (a0 _) ?_))
    have e2 : z + 1 + 1 = z + 2:=by omega
    have e3 : z + 1 + 1 + 1 = z + 3:=by omega
    have e4 : z + 1 + 1 + 1 + 1 = z + 4:=by omega
    rw [e4,e3,e2]
    rw [List.length_append,List.length_singleton,List.append_assoc,List.append_assoc] at i1
    refine i1.is ?_
    refine Prod.ext ?_ ?_
    ·show z + 4 + 4 * (u.length : Int) = z + 4 * ((u.length + 1 : Nat) : Int)
     omega
    ·simp [countT]
 exact go l [] c (by simpa using h) h0 (by omega)
theorem heldT_ev (n : Nat) (c : Int) (h : n ≤ 2000000) (h0 : 1 ≤ c) (h1 : c ≤ 20000000) : Ev (fun k => laws_heldStepS.f k (countT c n) c) (c + 4 * n):=by
 have go : ∀ (m : Nat) (pre : List Stp) (z : Int),pre.length + m ≤ 2000000 → 1 ≤ z → z + 4 * m ≤ 30000000 → Ev (fun k => laws_heldStepS.l0 k (pre ++ countT z m) z (pre.length : Int)) (z + 4 * m):=by
  intro m
  induction m with
  | zero =>
   intro pre z hl hz hz2
   refine Ev.step (f:=fun _ => some z) (fun k => ?_) ((Ev.now _).is (by simp))
   simp only [laws_heldStepS.l0];rw [if_neg (by simp [countT])]
  | succ m ih =>
   intro pre z hl hz hz2
   have hw1 : wrap64 (z + 1) = z + 1:=w64 (by omega) (by omega)
   have hw2 : wrap64 (z + 1 + 1) = z + 1 + 1:=w64 (by omega) (by omega)
   have hw3 : wrap64 (z + 1 + 1 + 1) = z + 1 + 1 + 1:=w64 (by omega) (by omega)
   have hw4 : wrap64 (z + 1 + 1 + 1 + 1) = z + 1 + 1 + 1 + 1:=w64 (by omega) (by omega)
   have hw5 : wrap64 ((pre.length : Int) + 1) = ((pre.length + 1 : Nat) : Int):=by rw [w64 (by omega) (by omega)];rfl
   have i1:=ih (pre ++ [⟨z,mtx (z + 1),z + 2,z + 3⟩]) (z + 4) (by rw [List.length_append,List.length_singleton];omega) (by omega) (by omega)
   rw [List.length_append,List.length_singleton,List.append_assoc] at i1
   have a0 : (pre.length : Int) < ((pre ++ countT z (m + 1)).length : Int):=by simp only [List.length_append,countT_length];omega
   refine Ev.step (f:=?_) (fun k => ?_) ?_
   rotate_left 1
   ·simp only [laws_heldStepS.l0]
    rw [if_pos a0,if_pos (Int.natCast_nonneg _)]
   ·simp only [countT,rdS_mid,hw1]
    refine Ev_t trivial (Ev.bind (mtx_ev (z + 1) (by omega)) ?_)
    simp only [hw2,hw3,hw4,hw5]
    refine Ev_t trivial (Ev_t (by omega) (Ev_t (by omega) ?_))
    rw [show z + 1 + 1 + 1 + 1 = z + 4 from by omega]
    refine i1.is ?_
    omega
 exact go n [] c (by simpa using h) h0 (by omega)
theorem markHeld (n : Int) (s f : List Int) (t : List Stp) (hs : s.length ≤ 1000000) (hf : f.length ≤ 1000000) (ht : t.length ≤ 1000000) : ∃ (z : Int) (s' f' : List Int) (t' : List Stp),
  Ev (fun k => laws_markAutomaton.f k n s f t 1) (z,s',f',t') ∧ Ev (fun k => laws_heldAutomaton.f k n s' f' t' 1) z ∧ 1 ≤ z:=by
 refine ⟨1 + s.length + f.length + 4 * t.length,count 1 s.length,count (1 + s.length) f.length,countT (1 + s.length + f.length) t.length,?_,?_,by omega⟩
 ·unfold laws_markAutomaton.f
  exact Ev.bind (markIntS_ev s 1 (by omega) (by omega) (by omega)) (Ev.bind (markIntS_ev f (1 + s.length) (by omega) (by omega) (by omega)) (Ev.bind (markT_ev t _ (by omega) (by omega) (by omega)) (Ev.now _)))
 ·unfold laws_heldAutomaton.f
  refine Ev.bind (heldIntS_ev s.length 1 (by omega) (by omega) (by omega)) (Ev_f (by omega) (Ev.bind (heldIntS_ev f.length (1 + s.length) (by omega) (by omega) (by omega)) (Ev_f (by omega) (Ev.bind (heldT_ev t.length _ (by omega) (by omega) (by omega)) (Ev_f (by omega) (Ev.now _))))))
theorem Ev_o {α γ : Type} {o : Option γ} {z : γ} {g : Nat → γ → Option α} {r : α} (h : o = some z) (k : Ev (fun n => g n z) r) : Ev (fun n => o.bind (g n)) r:=Ev.congr (fun n => by rw [h];rfl) k
def Sm (r : At5) : Prop:=r.2.1.length ≤ 1000000 ∧ r.2.2.1.length ≤ 1000000 ∧ r.2.2.2.1.length ≤ 1000000
theorem whole_sm {n : Int} {s f : List Int} {t : List Stp} : Sm (wholeR n s f t):=by
 unfold wholeR
 by_cases h : AV n s f t = true
 ·rw [if_pos h]
  have:=AV_len h
  exact ⟨by show s.length ≤ _;omega,by show f.length ≤ _;omega,by show t.length ≤ _;omega⟩
 ·rw [if_neg h];exact ⟨Nat.zero_le _,Nat.zero_le _,Nat.zero_le _⟩
theorem eqR_ev (r : At5) (h : Sm r) : Ev (fun k => laws_eqAutomaton.f k r.1 r.2.1 r.2.2.1 r.2.2.2.1 r.1 r.2.1 r.2.2.1 r.2.2.2.1) true :=
 eqAutomaton_ev r.1 r.2.1 r.2.2.1 r.2.2.2.1 (by have:=h.1;omega) (by have:=h.2.1;omega) (by have:=h.2.2;omega)
theorem ev_list {α γ : Type} {r : γ} (t : List α) (F : List α → Nat → Option γ) (step : ∀ (pre : List α) (x : α) (v : List α),t = pre ++ x :: v → Ev (F (pre ++ [x])) r → Ev (F pre) r) (fin : Ev (F t) r) : Ev (F []) r:=by
 have go : ∀ (v pre : List α),t = pre ++ v → Ev (F pre) r:=by
  intro v
  induction v with
  | nil => intro pre h;rw [List.append_nil] at h;rw [← h];exact fin
  | cons x v ih => intro pre h;exact step pre x v h (ih (pre ++ [x]) (by rw [h];simp))
 exact go t [] rfl
theorem at_T {t pre v : List Stp} {x : Stp} (h : t = pre ++ x :: v) (hl : t.length ≤ 1000000) : (pre.length : Int) < (t.length : Int) ∧ rdT t (pre.length : Int) = x ∧ wrap64 ((pre.length : Int) + 1) = (((pre ++ [x]).length : Nat) : Int):=by
 have e : t.length = pre.length + (v.length + 1):=by rw [h];simp
 refine ⟨by omega,by rw [h,rdS_mid],?_⟩
 rw [w64 (by omega) (by omega)];simp
theorem at_I {t pre v : List Int} {x : Int} (h : t = pre ++ x :: v) (hl : t.length ≤ 1000000) : (pre.length : Int) < (t.length : Int) ∧ rdI t (pre.length : Int) = x ∧ wrap64 ((pre.length : Int) + 1) = (((pre ++ [x]).length : Nat) : Int):=by
 have e : t.length = pre.length + (v.length + 1):=by rw [h];simp
 refine ⟨by omega,by rw [h,rd_mid],?_⟩
 rw [w64 (by omega) (by omega)];simp
def noneR : At5:=(0,[],[],[],false)
theorem none_sm : Sm noneR:=⟨Nat.zero_le _,Nat.zero_le _,Nat.zero_le _⟩
theorem map_asc {g : Stp → Stp} (h : ∀ x y : Stp,ordT x y < 0 → ordT (g x) (g y) < 0) {t : List Stp} (ht : ascT t) : ascT (t.map g):=by
 unfold ascT at *
 rw [List.pairwise_map]
 exact ht.imp fun {a b} q => h a b q
theorem asc_diff {t : List Stp} (h : ascT t) : t.Pairwise fun x y => ordT x y ≠ 0:=h.imp fun {a b} q => by omega
theorem diff_map {g : Stp → Stp} {t : List Stp} (h : ∀ x ∈ t,∀ y ∈ t,ordT (g x) (g y) = 0 → ordT x y = 0) (ht : ascT t) : (t.map g).Pairwise fun x y => ordT x y ≠ 0:=by
 rw [List.pairwise_map]
 unfold ascT at ht
 refine List.Pairwise.imp_of_mem (fun {a b} ha hb q e => ?_) ht
 have:=h a ha b hb e
 omega
theorem markFrom (n : Int) (s f : List Int) (t : List Stp) (hs : s.length ≤ 1048576) (hf : f.length ≤ 1048576) (ht : t.length ≤ 1048576) (c : Int) (h0 : 1 ≤ c) (h1 : c ≤ 20000000) : ∃ (z : Int) (s' f' : List Int) (t' : List Stp),Ev (fun k => laws_markAutomaton.f k n s f t c) (z,s',f',t') ∧ 1 ≤ z ∧ z ≤ 50000000:=by
 refine ⟨c + s.length + f.length + 4 * t.length,count c s.length,count (c + s.length) f.length,countT (c + s.length + f.length) t.length,?_,by omega,by omega⟩
 unfold laws_markAutomaton.f
 exact Ev.bind (markIntS_ev s c (by omega) (by omega) (by omega)) (Ev.bind (markIntS_ev f (c + s.length) (by omega) (by omega) (by omega)) (Ev.bind (markT_ev t _ (by omega) (by omega) (by omega)) (Ev.now _)))
theorem len_flat {α β : Type} (f : α → List β) (b : Nat) : ∀ (l : List α),(∀ x ∈ l,(f x).length ≤ b) → (l.flatMap f).length ≤ b * l.length
 | [],_ => by simp
 | x :: l,h => by
  have h1:=len_flat f b l fun y hy => h y (List.mem_cons_of_mem _ hy)
  have h2:=h x (List.mem_cons_self ..)
  rw [List.flatMap_cons,List.length_append,List.length_cons,Nat.mul_succ]
  omega
theorem stepOk_st {n : Int} {x : Stp} (h : stepOk n x = true) : 0 ≤ x.f0 ∧ x.f0 < n ∧ 0 ≤ x.f2 ∧ x.f2 < n:=by
 have q:=of_decide_eq_true (show decide _ = true from h)
 exact ⟨q.1,q.2.1,q.2.2.1,q.2.2.2.1⟩
theorem sTwo (n : Int) (s f : List Int) (t : List Stp) (m : Int) (s2 f2 : List Int) (t2 : List Stp) (hs : s.length ≤ 1048576) (hf : f.length ≤ 1048576) (ht : t.length ≤ 1048576) (hs2 : s2.length ≤ 1048576) (hf2 : f2.length ≤ 1048576) (ht2 : t2.length ≤ 1048576) :
  Ev (fun k => spec_l5Two.f k n s f t m s2 f2 t2) (AV n s f t && AV m s2 f2 t2):=by
 unfold spec_l5Two.f
 refine Ev.bind (sAV n s f t (by omega) (by omega) (by omega)) ?_
 by_cases h : AV n s f t = true
 ·exact Ev_t h ((Ev.bind (sAV m s2 f2 t2 (by omega) (by omega) (by omega)) (Ev.now _)).is (by rw [h,Bool.true_and]))
 ·exact Ev_f h ((Ev.now _).is (by rw [Bool.eq_false_iff.2 h,Bool.false_and]))
def shI (n x : Int) : Int:=x + n
def shS (n : Int) (x : Stp) : Stp:=⟨x.f0 + n,x.f1,x.f2 + n,x.f3⟩
theorem iMoved (n : Int) (hn : 0 ≤ n ∧ n ≤ 4) (l : List Int) (hl : l.length ≤ 1000) (hx : ∀ x ∈ l,0 ≤ x ∧ x ≤ 1000) : Ev (fun k => impl_moved.f k l n) (l.map (shI n)):=by
 unfold impl_moved.f
 refine ev_list l (fun pre k => impl_moved.l0 k n (pre.map (shI n)) l (l.length : Int) (pre.length : Int)) (fun pre x v h i1 => ?_) ?_
 ·obtain ⟨a0,hx',wn⟩:=at_I h (by omega)
  have hl' : pre.length ≤ l.length:=by rw [h];simp
  have q:=hx x (by rw [h];simp)
  have wm : wrap64 (x + n) = x + n:=w64 (by omega) (by omega)
  refine Ev.step (fun k => ?_) i1
  simp only [impl_moved.l0]
  rw [if_pos a0,if_pos (Int.natCast_nonneg _),if_pos a0,hx',if_pos (by rw [List.length_map];omega),wn,wm,List.map_append]
  rfl
 ·refine Ev.step (f:=fun _ => some (l.map (shI n))) (fun k => ?_) (Ev.now _)
  simp only [impl_moved.l0];rw [if_neg (by omega)]
theorem sShift (n : Int) (hn : 0 ≤ n ∧ n ≤ 4) (l : List Int) (hl : l.length ≤ 1000) (hx : ∀ x ∈ l,0 ≤ x ∧ x ≤ 1000) : Ev (fun k => spec_l5Shift.f k l n) (l.map (shI n)):=by
 unfold spec_l5Shift.f
 refine ev_list l (fun pre k => spec_l5Shift.l0 k n (pre.map (shI n)) l (l.length : Int) (pre.length : Int)) (fun pre x v h i1 => ?_) ?_
 ·obtain ⟨a0,hx',wn⟩:=at_I h (by omega)
  have hl' : pre.length ≤ l.length:=by rw [h];simp
  have q:=hx x (by rw [h];simp)
  have wm : wrap64 (x + n) = x + n:=w64 (by omega) (by omega)
  refine Ev.step (fun k => ?_) i1
  simp only [spec_l5Shift.l0]
  rw [if_pos a0,if_pos (Int.natCast_nonneg _),if_pos a0,hx',if_pos (by rw [List.length_map];omega),wn,wm,List.map_append]
  rfl
 ·refine Ev.step (f:=fun _ => some (l.map (shI n))) (fun k => ?_) (Ev.now _)
  simp only [spec_l5Shift.l0];rw [if_neg (by omega)]
theorem iBehind (n : Int) (hn : 0 ≤ n ∧ n ≤ 4) (m : Int) (s f : List Int) (t : List Stp) (ht : t.length ≤ 1000) (hx : ∀ x ∈ t,0 ≤ x.f0 ∧ x.f0 ≤ 1000 ∧ 0 ≤ x.f2 ∧ x.f2 ≤ 1000) : Ev (fun k => impl_behind.f k m s f t n) (t.map (shS n)):=by
 unfold impl_behind.f
 refine Ev.bind ?_ (Ev.now _)
 unfold impl_stepped.f
 refine ev_list t (fun pre k => impl_stepped.l0 k (pre.map (shS n)) t (t.length : Int) (pre.length : Int) n) (fun pre x v h i1 => ?_) ?_
 ·obtain ⟨a0,hx',wn⟩:=at_T h (by omega)
  have hl' : pre.length ≤ t.length:=by rw [h];simp
  have q:=hx x (by rw [h];simp)
  have w1 : wrap64 (x.f0 + n) = x.f0 + n:=w64 (by omega) (by omega)
  have w2 : wrap64 (x.f2 + n) = x.f2 + n:=w64 (by omega) (by omega)
  refine Ev.step (fun k => ?_) i1
  simp only [impl_stepped.l0,impl_behind_1.f]
  rw [if_pos a0,if_pos (Int.natCast_nonneg _),if_pos a0,hx',Option.bind_some,if_pos (by rw [List.length_map];omega),wn,List.map_append]
  simp only [w1,w2]
  rfl
 ·refine Ev.step (f:=fun _ => some (t.map (shS n))) (fun k => ?_) (Ev.now _)
  simp only [impl_stepped.l0];rw [if_neg (by omega)]
theorem sBeside (n m : Int) (hn : 0 ≤ n ∧ n ≤ 4) (hm : 0 ≤ m ∧ m ≤ 4) (s f s2 f2 : List Int) (t u : List Stp) (hu : u.length ≤ 1000) (ht : t.length ≤ 1000) (hx : ∀ x ∈ t,0 ≤ x.f0 ∧ x.f0 ≤ 1000 ∧ 0 ≤ x.f2 ∧ x.f2 ≤ 1000) :
  Ev (fun k => spec_l5Beside.f k n s f u m s2 f2 t) (n + m,[],[],u ++ t.map (shS n)):=by
 unfold spec_l5Beside.f
 refine Ev_t (by simp only [List.length_nil];omega) ?_
 rw [w64 (x:=n + m) (by omega) (by omega),List.nil_append]
 have key:=ev_list (r:=(n + m,([] : List Int),([] : List Int),u ++ t.map (shS n))) t (fun pre k => spec_l5Beside.l0 k t (t.length : Int) (pre.length : Int) n s f u (n + m) (u ++ pre.map (shS n))) (fun pre x v h i1 => ?_) ?_
 ·simpa using key
 ·obtain ⟨a0,hx',wn⟩:=at_T h (by omega)
  have hl' : pre.length ≤ t.length:=by rw [h];simp
  have q:=hx x (by rw [h];simp)
  have w1 : wrap64 (x.f0 + n) = x.f0 + n:=w64 (by omega) (by omega)
  have w2 : wrap64 (x.f2 + n) = x.f2 + n:=w64 (by omega) (by omega)
  refine Ev.step (fun k => ?_) i1
  simp only [spec_l5Beside.l0]
  rw [if_pos a0,if_pos (Int.natCast_nonneg _),if_pos a0,hx',if_pos (by rw [List.length_append,List.length_map];omega),wn,List.map_append]
  simp only [w1,w2,List.append_assoc]
  rfl
 ·refine Ev.step (f:=fun _ => some (n + m,([] : List Int),([] : List Int),u ++ t.map (shS n))) (fun k => ?_) (Ev.now _)
  simp only [spec_l5Beside.l0];rw [if_neg (by omega)]
theorem concatT (a b : List Stp) (ha : a.length ≤ 1000) (hb : b.length ≤ 1000) : Ev (fun k => slices_Concat_impl_Step_impl_Step.f k [a,b]) (a ++ b):=by
 have r0 : rdM [a,b] 0 = a:=rfl
 have r1 : rdM [a,b] 1 = b:=rfl
 have w1 : wrap64 ((0 : Int) + 1) = 1:=w64 (by omega) (by omega)
 have w2 : wrap64 ((1 : Int) + 1) = 2:=w64 (by omega) (by omega)
 have wa : wrap64 ((0 : Int) + (a.length : Int)) = (a.length : Int):=by rw [w64 (by omega) (by omega)];omega
 have wb : wrap64 ((a.length : Int) + (b.length : Int)) = (a.length : Int) + (b.length : Int):=w64 (by omega) (by omega)
 have i1 : ([] : List Stp).length + a.length ≤ 3518437208883:=by simp only [List.length_nil];omega
 have i2 : (([] : List Stp) ++ a).length + b.length ≤ 3518437208883:=by rw [List.nil_append];omega
 have n1 : ¬ ((a.length : Int) < 0):=by omega
 have n2 : ¬ ((a.length : Int) + (b.length : Int) < 0):=by omega
 have g : slices_Grow_impl_Step_impl_Step.f ((a.length : Int) + (b.length : Int)) = some []:=by
  unfold slices_Grow_impl_Step_impl_Step.f
  rw [if_pos (by omega)]
 have e : (([a,b].length : Nat) : Int) = 2:=rfl
 refine ⟨6,fun k hk => ?_⟩
 obtain ⟨j,rfl⟩ : ∃ j,k = j + 1 + 1 + 1 + 1 + 1 + 1:=⟨k - 6,by omega⟩
 unfold slices_Concat_impl_Step_impl_Step.f
 simp only [slices_Concat_impl_Step_impl_Step.l0,slices_Concat_impl_Step_impl_Step.l1,e,r0,r1,w1,w2,wa,wb]
 rw [if_pos (by decide),if_pos (by decide),if_pos (by decide),if_neg n1,if_pos (by decide),if_pos (by decide),if_pos (by decide),if_neg n2,if_neg (by decide),g,Option.bind_some,
  if_pos (by decide),if_pos (by decide),if_pos (by decide),if_pos i1,if_pos (by decide),if_pos (by decide),if_pos (by decide),if_pos i2,if_neg (by decide),List.nil_append]
def minR (n : Int) (s f : List Int) (t : List Stp) (m : Int) (s2 f2 : List Int) (t2 : List Stp) : At5 :=
 if AV n s f t = true ∧ AV m s2 f2 t2 = true then wholeR (n + m) (s ++ s2.map (shI n)) (f ++ f2.map (shI n)) (t ++ t2.map (shS n)) else noneR
theorem min_sm (n : Int) (s f : List Int) (t : List Stp) (m : Int) (s2 f2 : List Int) (t2 : List Stp) : Sm (minR n s f t m s2 f2 t2):=by
 unfold minR
 split
 ·exact whole_sm
 ·exact none_sm
theorem shift_asc {n : Int} {s s2 : List Int} (h1 : (∀ x ∈ s,0 ≤ x ∧ x < n) ∧ ascI s) (h2 : (∀ x ∈ s2,0 ≤ x) ∧ ascI s2) : ascI (s ++ s2.map (shI n)):=by
 unfold ascI at *
 rw [List.pairwise_append,List.pairwise_map]
 refine ⟨h1.2,h2.2.imp fun {a b} q => by show a + n < b + n;omega,fun a ha b hb => ?_⟩
 obtain ⟨c,hc,rfl⟩:=List.mem_map.1 hb
 have:=h1.1 a ha
 have:=h2.1 c hc
 show a < c + n
 omega
theorem shiftS_lt {n : Int} {x y : Stp} (h : ordT x y < 0) : ordT (shS n x) (shS n y) < 0:=by
 rw [ordT_lt] at *
 unfold shS
 rcases h with h | ⟨h,k | ⟨k,j⟩⟩
 ·exact .inl (by show x.f0 + n < y.f0 + n;omega)
 ·exact .inr ⟨by show x.f0 + n = y.f0 + n;omega,.inl k⟩
 ·exact .inr ⟨by show x.f0 + n = y.f0 + n;omega,.inr ⟨k,by show x.f2 + n < y.f2 + n;omega⟩⟩
theorem beside_asc {n : Int} {t t2 : List Stp} (h : ∀ x ∈ t,x.f0 < n) (h2 : ∀ x ∈ t2,0 ≤ x.f0) (a : ascT t) (b : ascT t2) : ascT (t ++ t2.map (shS n)):=by
 have c:=map_asc (fun x y => shiftS_lt (n:=n)) b
 unfold ascT at *
 rw [List.pairwise_append]
 refine ⟨a,c,fun x hx y hy => ?_⟩
 obtain ⟨z,hz,rfl⟩:=List.mem_map.1 hy
 have:=h x hx
 have:=h2 z hz
 rw [ordT_lt]
 exact .inl (by show x.f0 < z.f0 + n;omega)
theorem sIn4 (l : List Int) (q : Int) (hl : l.length ≤ 1000) : Ev (fun k => spec_l4In.f k l q) (decide (q ∈ l)):=by
 unfold spec_l4In.f
 have go : ∀ (v pre : List Int),l = pre ++ v → Ev (fun k => spec_l4In.l0 k q l (l.length : Int) (pre.length : Int)) (decide (q ∈ v)):=by
  intro v
  induction v with
  | nil =>
   intro pre h
   refine Ev.step (f:=fun _ => some false) (fun k => ?_) ((Ev.now _).is (by simp))
   simp only [spec_l4In.l0];rw [if_neg (by rw [h];simp)]
  | cons x v ih =>
   intro pre h
   obtain ⟨a0,hx,wn⟩:=at_I h (by omega)
   have i1:=ih (pre ++ [x]) (by rw [h];simp)
   by_cases e : x = q
   ·refine Ev.step (f:=fun _ => some true) (fun k => ?_) ((Ev.now _).is (by simp [e]))
    simp only [spec_l4In.l0];rw [if_pos a0,if_pos (Int.natCast_nonneg _),if_pos a0,hx,if_pos e]
   ·refine Ev.step (fun k => ?_) (i1.is (by simp [Ne.symm e]))
    simp only [spec_l4In.l0];rw [if_pos a0,if_pos (Int.natCast_nonneg _),if_pos a0,hx,if_neg e,wn]
 exact go l [] rfl
theorem index_ev (l : List Int) (q : Int) (hl : l.length ≤ 1000) : ∃ z : Int,Ev (fun k => slices_Index_int_int.f k l q) z ∧ ((q ∈ l ∧ 0 ≤ z ∧ z < l.length ∧ rdI l z = q) ∨ (q ∉ l ∧ z = -1)):=by
 unfold slices_Index_int_int.f
 have go : ∀ (v pre : List Int),l = pre ++ v → ∃ z : Int,Ev (fun k => slices_Index_int_int.l0 k l q (l.length : Int) (pre.length : Int)) z ∧ ((q ∈ v ∧ 0 ≤ z ∧ z < l.length ∧ rdI l z = q) ∨ (q ∉ v ∧ z = -1)):=by
  intro v
  induction v with
  | nil =>
   intro pre h
   refine ⟨-1,Ev.step (f:=fun _ => some (-1)) (fun k => ?_) (Ev.now _),.inr ⟨by simp,rfl⟩⟩
   simp only [slices_Index_int_int.l0];rw [if_neg (by rw [h];simp)]
  | cons x v ih =>
   intro pre h
   obtain ⟨a0,hx,wn⟩:=at_I h (by omega)
   by_cases e : q = x
   ·refine ⟨pre.length,Ev.step (f:=fun _ => some (pre.length : Int)) (fun k => ?_) (Ev.now _),.inl ⟨by simp [e],Int.natCast_nonneg _,a0,by rw [hx,e]⟩⟩
    simp only [slices_Index_int_int.l0];rw [if_pos a0,if_pos (Int.natCast_nonneg _),if_pos a0,hx,if_pos e]
   ·obtain ⟨z,z1,z2⟩:=ih (pre ++ [x]) (by rw [h];simp)
    refine ⟨z,Ev.step (fun k => ?_) z1,?_⟩
    ·simp only [slices_Index_int_int.l0];rw [if_pos a0,if_pos (Int.natCast_nonneg _),if_pos a0,hx,if_neg e,wn]
    ·rcases z2 with ⟨q1,q2⟩ | ⟨q1,q2⟩
     ·exact .inl ⟨List.mem_cons_of_mem _ q1,q2⟩
     ·exact .inr ⟨by simp [e,q1],q2⟩
 exact go l [] rfl
theorem contains_ev (l : List Int) (q : Int) (hl : l.length ≤ 1000) : Ev (fun k => slices_Contains_int_int.f k l q) (decide (q ∈ l)):=by
 obtain ⟨z,z1,z2⟩:=index_ev l q hl
 unfold slices_Contains_int_int.f
 refine Ev.bind z1 ((Ev.now _).is (decide_eq_decide.2 ?_))
 rcases z2 with ⟨q1,q2⟩ | ⟨q1,q2⟩
 ·exact ⟨fun _ => q1,fun _ => q2.1⟩
 ·exact ⟨fun h => by omega,fun h => absurd h q1⟩
def anyIn (a b : List Int) : Bool:=a.any fun x => decide (x ∈ b)
theorem shared_ev (a b : List Int) (ha : a.length ≤ 1000) (hb : b.length ≤ 1000) : Ev (fun k => impl_shared.f k a b) (anyIn a b):=by
 unfold impl_shared.f slices_ContainsFunc_int_int.f
 have go : ∀ (v pre : List Int),a = pre ++ v → ∃ z : Int,Ev (fun k => slices_IndexFunc_int_int.l0 k a (a.length : Int) (pre.length : Int) b) z ∧ decide (z ≥ 0) = anyIn v b:=by
  intro v
  induction v with
  | nil =>
   intro pre h
   refine ⟨-1,Ev.step (f:=fun _ => some (-1)) (fun k => ?_) (Ev.now _),rfl⟩
   simp only [slices_IndexFunc_int_int.l0];rw [if_neg (by rw [h];simp)]
  | cons x v ih =>
   intro pre h
   obtain ⟨a0,hx,wn⟩:=at_I h (by omega)
   obtain ⟨z,z1,z2⟩:=ih (pre ++ [x]) (by rw [h];simp)
   have c : Ev (fun k => impl_shared_1.f k x b) (decide (x ∈ b)):=by
    unfold impl_shared_1.f
    exact Ev.bind (contains_ev b x hb) (Ev.now _)
   by_cases e : x ∈ b
   ·refine ⟨pre.length,Ev.step (f:=?f1) (fun k => ?_) ?k1,?_⟩
    rotate_left
    ·simp only [slices_IndexFunc_int_int.l0];rw [if_pos a0,if_pos (Int.natCast_nonneg _),if_pos a0,hx] <;> exact rfl
    ·exact Ev.bind c (Ev_t (decide_eq_true e) (Ev.now _))
    ·simp [anyIn,e]
   ·refine ⟨z,Ev.step (f:=?f2) (fun k => ?_) ?k2,?_⟩
    rotate_left
    ·simp only [slices_IndexFunc_int_int.l0];rw [if_pos a0,if_pos (Int.natCast_nonneg _),if_pos a0,hx,wn] <;> exact rfl
    ·exact Ev.bind c (Ev_f (by simp [e]) z1)
    ·rw [z2];simp [anyIn,e]
 obtain ⟨z,z1,z2⟩:=go a [] rfl
 unfold slices_IndexFunc_int_int.f
 exact Ev.bind (Ev.bind z1 (Ev.now _)) ((Ev.now _).is z2)
theorem empty_ev (n : Int) (s f : List Int) (t : List Stp) (hs : s.length ≤ 1000) (hf : f.length ≤ 1000) : Ev (fun k => spec_l5Empty.f k n s f t) (anyIn s f):=by
 unfold spec_l5Empty.f
 have go : ∀ (v pre : List Int),s = pre ++ v → Ev (fun k => spec_l5Empty.l0 k s (s.length : Int) (pre.length : Int) n s f t) (anyIn v f):=by
  intro v
  induction v with
  | nil =>
   intro pre h
   refine Ev.step (f:=fun _ => some false) (fun k => ?_) (Ev.now _)
   simp only [spec_l5Empty.l0];rw [if_neg (by rw [h];simp)]
  | cons x v ih =>
   intro pre h
   obtain ⟨a0,hx,wn⟩:=at_I h (by omega)
   have i1:=ih (pre ++ [x]) (by rw [h];simp)
   refine Ev.step (f:=?f1) (fun k => ?_) ?k1
   rotate_left
   ·simp only [spec_l5Empty.l0];rw [if_pos a0,if_pos (Int.natCast_nonneg _),if_pos a0,hx,wn] <;> exact rfl
   refine Ev.bind (sIn4 f x hf) ?_
   by_cases e : x ∈ f
   ·exact Ev_t (decide_eq_true e) ((Ev.now _).is (by simp [anyIn,e]))
   ·exact Ev_f (by simp [e]) (i1.is (by simp [anyIn,e]))
 exact go s [] rfl
def putE : List Stp → Stp → List Stp
 | [],x => [x]
 | y :: l,x => if ordT y x = 0 then ⟨y.f0,y.f1,y.f2,mn y.f3 x.f3⟩ :: l else y :: putE l x
theorem putE_len : ∀ (l : List Stp) (x : Stp),(putE l x).length ≤ l.length + 1
 | [],x => Nat.le_refl _
 | y :: l,x => by
  have:=putE_len l x
  simp only [putE]
  split <;> simp only [List.length_cons] <;> omega
theorem ordL_eq (x y : Stp) : ordL x y = ordT x y:=rfl
theorem putE_ev (l : List Stp) (hl : l.length ≤ 1000000) (x : Stp) : Ev (fun k => impl_ChainAutomaton_1.f k x.f0 x.f1 x.f2 x.f3 l) (putE l x):=by
 unfold impl_ChainAutomaton_1.f
 have go : ∀ (v pre : List Stp),l = pre ++ v → Ev (fun k => impl_ChainAutomaton_1.l0 k l (l.length : Int) (pre.length : Int) x.f0 x.f1 x.f2 x.f3) (pre ++ putE v x):=by
  intro v
  induction v with
  | nil =>
   intro pre h
   rw [List.append_nil] at h
   refine Ev.step (f:=fun _ => some (pre ++ [x])) (fun k => ?_) (Ev.now _)
   simp only [impl_ChainAutomaton_1.l0];rw [if_neg (by rw [h];omega),if_pos (by omega),h]
  | cons y v ih =>
   intro pre h
   obtain ⟨a0,hx,wn⟩:=at_T h hl
   have i1:=ih (pre ++ [y]) (by rw [h];simp)
   refine Ev.step (f:=?f1) (fun k => ?_) ?k1
   rotate_left
   ·simp only [impl_ChainAutomaton_1.l0];rw [if_pos a0,if_pos (Int.natCast_nonneg _),if_pos a0,hx,wn] <;> exact rfl
   refine Ev.bind (iOrder y x) ?_
   rw [ordL_eq]
   simp only [putE]
   by_cases e : ordT y x = 0
   ·rw [if_pos e]
    refine Ev_t e ((Ev.now _).is ?_)
    rw [Int.toNat_natCast,h]
    exact set_mid pre y _ v
   ·rw [if_neg e]
    exact Ev_f e (i1.is (by simp))
 exact go l [] rfl
def updS (x y : Stp) : Stp:=if ordT y x = 0 then ⟨y.f0,y.f1,y.f2,mn y.f3 x.f3⟩ else y
theorem upd_id {x : Stp} : ∀ {l : List Stp},(∀ y ∈ l,ordT y x ≠ 0) → l.map (updS x) = l
 | [],_ => rfl
 | y :: l,h => by
  rw [List.map_cons,upd_id (fun z hz => h z (List.mem_cons_of_mem _ hz))]
  unfold updS
  rw [if_neg (h y (List.mem_cons_self ..))]
theorem same_of {x y z : Stp} (h : ordT y x = 0) (k : ordT z x = 0) : ordT y z = 0:=by
 have a:=ordT_same (u:=z) h
 have b:=ordT_neg z x
 omega
theorem putE_no {x : Stp} : ∀ {l : List Stp},(∀ y ∈ l,ordT y x ≠ 0) → putE l x = l ++ [x]
 | [],_ => rfl
 | y :: l,h => by
  simp only [putE]
  rw [if_neg (h y (List.mem_cons_self ..)),putE_no (fun z hz => h z (List.mem_cons_of_mem _ hz))]
  rfl
theorem putE_yes {x : Stp} : ∀ {l : List Stp},l.Pairwise (fun a b => ordT a b ≠ 0) → (∃ y ∈ l,ordT y x = 0) → putE l x = l.map (updS x)
 | [],_,h => by obtain ⟨y,hy,_⟩:=h;cases hy
 | y :: l,hd,h => by
  rw [List.pairwise_cons] at hd
  simp only [putE]
  by_cases e : ordT y x = 0
  ·rw [if_pos e,List.map_cons,upd_id (fun z hz q => hd.1 z hz (same_of e q))]
   unfold updS
   rw [if_pos e]
  ·rw [if_neg e,List.map_cons,putE_yes hd.2 (by
    obtain ⟨z,hz,q⟩:=h
    rcases List.mem_cons.1 hz with rfl|hz
    ·exact absurd q e
    ·exact ⟨z,hz,q⟩)]
   unfold updS
   rw [if_neg e]
theorem putL_yes {x : Stp} : ∀ {l : List Stp},ascT l → (∃ y ∈ l,ordT y x = 0) → putL l x = l.map (updS x)
 | [],_,h => by obtain ⟨y,hy,_⟩:=h;cases hy
 | y :: l,hd,h => by
  have hd0:=asc_diff hd
  unfold ascT at hd
  rw [List.pairwise_cons] at hd hd0
  simp only [putL,bef_ord,decide_eq_true_eq]
  by_cases h1 : ordT y x < 0
  ·rw [if_pos h1,List.map_cons,putL_yes hd.2 (by
    obtain ⟨z,hz,q⟩:=h
    rcases List.mem_cons.1 hz with rfl|hz
    ·omega
    ·exact ⟨z,hz,q⟩)]
   unfold updS
   rw [if_neg (by omega)]
  ·rw [if_neg h1]
   have h2 : ¬ ordT x y < 0:=by
    intro q
    obtain ⟨z,hz,e⟩:=h
    have e':=ordT_neg z x
    rcases List.mem_cons.1 hz with rfl|hz
    ·omega
    ·have a:=hd.1 z hz
     have b:=ordT_trans q a
     omega
   have e : ordT y x = 0:=by have:=ordT_neg x y;omega
   rw [if_neg h2,List.map_cons,upd_id (fun z hz q => hd0.1 z hz (same_of e q))]
   unfold updS
   rw [if_pos e]
theorem put_same {l l' : List Stp} (p : l.Perm l') (h : ascT l') (x : Stp) : (putE l x).Perm (putL l' x):=by
 have hd : l.Pairwise (fun a b => ordT a b ≠ 0):=(p.pairwise_iff (fun {a b} q => by have:=ordT_neg a b;omega)).2 (asc_diff h)
 by_cases e : ∃ y ∈ l',ordT y x = 0
 ·obtain ⟨y,hy,q⟩:=e
  rw [putL_yes h ⟨y,hy,q⟩,putE_yes hd ⟨y,p.symm.subset hy,q⟩]
  exact p.map _
 ·have e' : ∀ y ∈ l',ordT y x ≠ 0:=fun y hy q => e ⟨y,hy,q⟩
  rw [putE_no (fun y hy => e' y (p.subset hy))]
  exact ((p.append_right [x]).trans (List.perm_append_singleton x l')).trans (putL_perm e').symm
def putAllE (l u : List Stp) : List Stp:=u.foldl putE l
theorem putAllE_len : ∀ (u l : List Stp),(putAllE l u).length ≤ l.length + u.length
 | [],l => Nat.le_refl _
 | x :: u,l => by
  have h1:=putAllE_len u (putE l x)
  have h2:=putE_len l x
  simp only [putAllE,List.foldl_cons,List.length_cons] at *
  omega
theorem putAll_same : ∀ (u : List Stp) {l l' : List Stp},l.Perm l' → ascT l' → (putAllE l u).Perm (putAll l' u)
 | [],_,_,p,_ => p
 | x :: u,l,l',p,h => putAll_same u (put_same p h x) (putL_asc h x)
def lnkS (n : Int) (s : Stp) (q : Int) : Stp:=⟨s.f0,s.f1,q + n,s.f3⟩
def lnks (n : Int) (f s2 : List Int) (s : Stp) : List Stp:=if s.f2 ∈ f then s2.map (lnkS n s) else []
def linkT (n : Int) (f s2 : List Int) (t : List Stp) : List Stp:=t.flatMap (lnks n f s2)
theorem link_len (n : Int) (f s2 : List Int) (t : List Stp) (h : s2.length ≤ 4) : (linkT n f s2 t).length ≤ 4 * t.length:=len_flat _ 4 t fun s _ => by
 unfold lnks
 split
 ·rw [List.length_map];exact h
 ·exact Nat.zero_le _
theorem link_snoc (n : Int) (f s2 : List Int) (pre : List Stp) (x : Stp) : linkT n f s2 (pre ++ [x]) = linkT n f s2 pre ++ lnks n f s2 x:=by
 unfold linkT
 rw [List.flatMap_append,List.flatMap_singleton]
theorem putAll_snoc (b u v : List Stp) : putAll b (u ++ v) = putAll (putAll b u) v:=by unfold putAll;rw [List.foldl_append]
theorem putAllE_snoc (b u v : List Stp) : putAllE b (u ++ v) = putAllE (putAllE b u) v:=by unfold putAllE;rw [List.foldl_append]
def chStarts (n : Int) (s f s2 : List Int) : List Int:=if anyIn s f = true then s ++ s2.map (shI n) else s
def chFinals (n : Int) (f s2 f2 : List Int) : List Int:=if anyIn s2 f2 = true then f ++ f2.map (shI n) else f2.map (shI n)
theorem iChainLoop (n m : Int) (hn : 0 ≤ n ∧ n ≤ 4) (s f s2 f2 : List Int) (t t2 b : List Stp) (lt : t.length ≤ 24) (ls2 : s2.length ≤ 4) (lf : f.length ≤ 4) (hs2 : ∀ q ∈ s2,0 ≤ q ∧ q ≤ 4) (lb : b.length ≤ 1000) (r : At5)
  (hend : Ev (fun k => impl_ChainAutomaton.l0 k n t (t.length : Int) (t.length : Int) n s f t m s2 f2 t2 (putAllE b (linkT n f s2 t))) r) : Ev (fun k => impl_ChainAutomaton.l0 k n t (t.length : Int) 0 n s f t m s2 f2 t2 b) r:=by
 refine ev_list t (fun pre k => impl_ChainAutomaton.l0 k n t (t.length : Int) (pre.length : Int) n s f t m s2 f2 t2 (putAllE b (linkT n f s2 pre))) (fun pre x v h i1 => ?_) hend
 obtain ⟨a0,hp,wn⟩:=at_T h (by omega)
 have hpl:=link_len n f s2 pre ls2
 have hpre : pre.length ≤ t.length:=by rw [h];simp
 have hal:=putAllE_len (linkT n f s2 pre) b
 rw [link_snoc,putAllE_snoc] at i1
 refine Ev.step (f:=?f1) (fun k => ?_) ?k1
 rotate_left
 ·simp only [impl_ChainAutomaton.l0]
  rw [if_pos a0,if_pos (Int.natCast_nonneg _),if_pos a0,hp] <;> exact rfl
 refine Ev.bind (contains_ev f x.f2 (by omega)) ?_
 unfold lnks at i1
 by_cases hf : x.f2 ∈ f
 ·rw [if_pos hf] at i1
  refine Ev_t (decide_eq_true hf) ?_
  have key:=ev_list (r:=r) s2 (fun pr k => impl_ChainAutomaton.l1 k n t (t.length : Int) (pre.length : Int) s2 (s2.length : Int) (pr.length : Int) n s f t m s2 f2 t2 (putAllE (putAllE b (linkT n f s2 pre)) (pr.map (lnkS n x))) x.f0 x.f1 x.f2 x.f3) (fun pr q v' h' i2 => ?_) ?_
  ·simpa [putAllE] using key
  ·obtain ⟨b0,hq,wm⟩:=at_I h' (by omega)
   have hpr : pr.length ≤ s2.length:=by rw [h'];simp
   have hq4:=hs2 q (by rw [h'];simp)
   have hal2:=putAllE_len (pr.map (lnkS n x)) (putAllE b (linkT n f s2 pre))
   rw [List.length_map] at hal2
   rw [List.map_append,putAllE_snoc] at i2
   refine Ev.step (f:=?f2) (fun k => ?_) ?k2
   rotate_left
   ·simp only [impl_ChainAutomaton.l1]
    rw [if_pos b0,if_pos (Int.natCast_nonneg _),if_pos b0,hq,wm,w64 (x:=q + n) (by omega) (by omega)] <;> exact rfl
   ·exact Ev.bind (putE_ev _ (by omega) (lnkS n x q)) i2
  ·refine Ev.step (fun k => ?_) i1
   simp only [impl_ChainAutomaton.l1]
   rw [if_neg (by omega),wn]
 ·rw [if_neg hf] at i1
  refine Ev_f (by simp [hf]) ?_
  rw [wn]
  exact i1
theorem sChainLoop (n m z : Int) (hn : 0 ≤ n ∧ n ≤ 4) (s f s2 f2 : List Int) (t t2 b : List Stp) (lt : t.length ≤ 24) (ls2 : s2.length ≤ 4) (lf : f.length ≤ 4) (hs2 : ∀ q ∈ s2,0 ≤ q ∧ q ≤ 4) (lb : b.length ≤ 1000) (r : At5)
  (hend : Ev (fun k => spec_ChainAutomaton.l0 k t (t.length : Int) (t.length : Int) n s f t m s2 f2 t2 z [] [] (putAll b (linkT n f s2 t))) r) : Ev (fun k => spec_ChainAutomaton.l0 k t (t.length : Int) 0 n s f t m s2 f2 t2 z [] [] b) r:=by
 refine ev_list t (fun pre k => spec_ChainAutomaton.l0 k t (t.length : Int) (pre.length : Int) n s f t m s2 f2 t2 z [] [] (putAll b (linkT n f s2 pre))) (fun pre x v h i1 => ?_) hend
 obtain ⟨a0,hp,wn⟩:=at_T h (by omega)
 have hpl:=link_len n f s2 pre ls2
 have hpre : pre.length ≤ t.length:=by rw [h];simp
 have hal:=putAll_len (linkT n f s2 pre) b
 rw [link_snoc,putAll_snoc] at i1
 refine Ev.step (f:=fun k => spec_ChainAutomaton.l1 k t (t.length : Int) (pre.length : Int) s2 (s2.length : Int) 0 n s f t m s2 f2 t2 z [] [] (putAll b (linkT n f s2 pre)) x.f0 x.f1 x.f2 x.f3) (fun k => ?_) ?_
 ·simp only [spec_ChainAutomaton.l0]
  rw [if_pos a0,if_pos (Int.natCast_nonneg _),if_pos a0,hp]
 have key:=ev_list (r:=r) s2 (fun pr k => spec_ChainAutomaton.l1 k t (t.length : Int) (pre.length : Int) s2 (s2.length : Int) (pr.length : Int) n s f t m s2 f2 t2 z [] [] (putAll (putAll b (linkT n f s2 pre)) (lnks n f pr x)) x.f0 x.f1 x.f2 x.f3) (fun pr q v' h' i2 => ?_) ?_
 ·have e : lnks n f [] x = []:=by unfold lnks;split <;> rfl
  rw [e] at key
  exact key
 ·obtain ⟨b0,hq,wm⟩:=at_I h' (by omega)
  have hpr : pr.length ≤ s2.length:=by rw [h'];simp
  have hq4:=hs2 q (by rw [h'];simp)
  refine Ev.step (f:=?f2) (fun k => ?_) ?k2
  rotate_left
  ·simp only [spec_ChainAutomaton.l1]
   rw [if_pos b0,if_pos (Int.natCast_nonneg _),if_pos b0,hq,wm,w64 (x:=q + n) (by omega) (by omega)] <;> exact rfl
  refine Ev.bind (sIn4 f x.f2 (by omega)) ?_
  unfold lnks at i2 ⊢
  by_cases hf : x.f2 ∈ f
  ·rw [if_pos hf] at i2 ⊢
   have hal2:=putAll_len (pr.map (lnkS n x)) (putAll b (linkT n f s2 pre))
   rw [List.length_map] at hal2
   rw [List.map_append,putAll_snoc] at i2
   exact Ev_t (decide_eq_true hf) (Ev.bind (put_ev _ (by omega) (lnkS n x q)) i2)
  ·rw [if_neg hf] at i2 ⊢
   exact Ev_f (by simp [hf]) i2
 ·refine Ev.step (fun k => ?_) i1
  simp only [spec_ChainAutomaton.l1]
  rw [if_neg (by omega),wn]
def chainR (n : Int) (s f : List Int) (t : List Stp) (m : Int) (s2 f2 : List Int) (t2 : List Stp) : At5 :=
 if AV n s f t = true ∧ AV m s2 f2 t2 = true then wholeR (n + m) (chStarts n s f s2) (chFinals n f s2 f2) (putAll (t ++ t2.map (shS n)) (linkT n f s2 t)) else noneR
theorem chain_sm (n : Int) (s f : List Int) (t : List Stp) (m : Int) (s2 f2 : List Int) (t2 : List Stp) : Sm (chainR n s f t m s2 f2 t2):=by
 unfold chainR
 split
 ·exact whole_sm
 ·exact none_sm
theorem sChainA (n : Int) (s f : List Int) (t : List Stp) (m : Int) (s2 f2 : List Int) (t2 : List Stp) (hs : s.length ≤ 1048576) (hf : f.length ≤ 1048576) (ht : t.length ≤ 1048576) (hs2 : s2.length ≤ 1048576) (hf2 : f2.length ≤ 1048576) (ht2 : t2.length ≤ 1048576) :
  Ev (fun k => spec_ChainAutomaton.f k n s f t m s2 f2 t2) (chainR n s f t m s2 f2 t2):=by
 unfold spec_ChainAutomaton.f chainR
 refine Ev.bind (sTwo n s f t m s2 f2 t2 hs hf ht hs2 hf2 ht2) ?_
 by_cases h : AV n s f t = true ∧ AV m s2 f2 t2 = true
 case neg =>
  refine (Ev_f ?_ (Ev.now _)).is (if_neg h).symm
  simpa using h
 have l1:=AV_len h.1
 have l2:=AV_len h.2
 obtain ⟨p1,p2,p4,p6,p7⟩:=AV_iff.1 h.1
 obtain ⟨q1,q2,q4,q6,q7⟩:=AV_iff.1 h.2
 have lk:=link_len n f s2 t l2.1
 have lp:=putAll_len (linkT n f s2 t) (t ++ t2.map (shS n))
 rw [List.length_append,List.length_map] at lp
 refine Ev_t (by rw [h.1,h.2];rfl) (Ev.bind (sBeside n m (by omega) (by omega) s f s2 f2 t2 t (by omega) (by omega) (fun x hx => by have:=stepOk_st (q6 x hx);omega)) ?_)
 refine sChainLoop n m (n + m) (by omega) s f s2 f2 t t2 _ l1.2.2 l2.1 l1.2.1 (fun x hx => by have:=q2.1 x hx;omega) (by rw [List.length_append,List.length_map];omega) _ ?_
 have e1:=empty_ev n s f t (by omega) (by omega)
 have e2:=empty_ev m s2 f2 t2 (by omega) (by omega)
 have h1:=sShift n (by omega) s2 (by omega) (fun x hx => by have:=q2.1 x hx;omega)
 have h2:=sShift n (by omega) f2 (by omega) (fun x hx => by have:=q4.1 x hx;omega)
 refine Ev.step (f:=?f1) (fun k => ?_) ?k1
 rotate_left
 ·simp only [spec_ChainAutomaton.l0]
  rw [if_neg (by omega),if_pos (by simp only [List.length_nil];omega)] <;> exact rfl
 rw [if_pos h]
 unfold chStarts chFinals
 have hw : ∀ a b : List Int,a.length ≤ 1000 → b.length ≤ 1000 → Ev (fun k => (spec_l5Whole.f k (n + m) a b (putAll (t ++ t2.map (shS n)) (linkT n f s2 t))).bind fun t7 => some (t7.1,t7.2.1,t7.2.2.1,t7.2.2.2.1,t7.2.2.2.2)) (wholeR (n + m) a b (putAll (t ++ t2.map (shS n)) (linkT n f s2 t))):=fun a b ha hb =>
  Ev.bind (whole_ev (n + m) a b _ (by omega) (by omega) (by omega)) (Ev.now _)
 refine Ev.bind e1 ?_
 by_cases c1 : anyIn s f = true
 ·refine Ev_t c1 (Ev.bind h1 (Ev_t (by simp only [List.nil_append,List.length_map];omega) (Ev.bind e2 ?_)))
  rw [if_pos c1]
  by_cases c2 : anyIn s2 f2 = true
  ·rw [if_pos c2]
   exact Ev_t c2 (Ev_t (by simp only [List.length_nil];omega) (Ev.bind h2 (Ev_t (by simp only [List.nil_append,List.length_map];omega) (hw _ _ (by simp only [List.nil_append,List.length_append,List.length_map];omega) (by simp only [List.nil_append,List.length_append,List.length_map];omega)))))
  ·rw [if_neg c2]
   exact Ev_f c2 (Ev.bind h2 (Ev_t (by simp only [List.length_nil,List.length_map];omega) (hw _ _ (by simp only [List.nil_append,List.length_append,List.length_map];omega) (by simp only [List.nil_append,List.length_map];omega))))
 ·refine Ev_f c1 (Ev.bind e2 ?_)
  rw [if_neg c1]
  by_cases c2 : anyIn s2 f2 = true
  ·rw [if_pos c2]
   exact Ev_t c2 (Ev_t (by simp only [List.length_nil];omega) (Ev.bind h2 (Ev_t (by simp only [List.nil_append,List.length_map];omega) (hw _ _ (by simp only [List.nil_append];omega) (by simp only [List.nil_append,List.length_append,List.length_map];omega)))))
  ·rw [if_neg c2]
   exact Ev_f c2 (Ev.bind h2 (Ev_t (by simp only [List.length_nil,List.length_map];omega) (hw _ _ (by simp only [List.nil_append];omega) (by simp only [List.nil_append,List.length_map];omega))))
theorem chStarts_asc {n : Int} {s f s2 : List Int} (h1 : (∀ x ∈ s,0 ≤ x ∧ x < n) ∧ ascI s) (h2 : (∀ x ∈ s2,0 ≤ x) ∧ ascI s2) : ascI (chStarts n s f s2):=by
 unfold chStarts
 split
 ·exact shift_asc h1 h2
 ·exact h1.2
theorem chFinals_asc {n : Int} {f s2 f2 : List Int} (h1 : (∀ x ∈ f,0 ≤ x ∧ x < n) ∧ ascI f) (h2 : (∀ x ∈ f2,0 ≤ x) ∧ ascI f2) : ascI (chFinals n f s2 f2):=by
 unfold chFinals
 split
 ·exact shift_asc h1 h2
 ·have:=shift_asc (s:=[]) (n:=n) ⟨fun x q => (by cases q),List.Pairwise.nil⟩ h2
  simpa using this
theorem iChainA (n : Int) (s f : List Int) (t : List Stp) (m : Int) (s2 f2 : List Int) (t2 : List Stp) (hs : s.length ≤ 1048576) (hf : f.length ≤ 1048576) (ht : t.length ≤ 1048576) (hs2 : s2.length ≤ 1048576) (hf2 : f2.length ≤ 1048576) (ht2 : t2.length ≤ 1048576) :
  Ev (fun k => impl_ChainAutomaton.f k n s f t m s2 f2 t2) (chainR n s f t m s2 f2 t2):=by
 unfold impl_ChainAutomaton.f chainR
 refine Ev.bind (iAV n s f t (by omega) (by omega) (by omega)) ?_
 by_cases h1 : AV n s f t = true
 case neg => exact (Ev_f h1 (Ev.now _)).is (if_neg (fun q => h1 q.1)).symm
 refine Ev_t h1 (Ev.bind (iAV m s2 f2 t2 (by omega) (by omega) (by omega)) ?_)
 by_cases h2 : AV m s2 f2 t2 = true
 case neg => exact (Ev_f h2 (Ev.now _)).is (if_neg (fun q => h2 q.2)).symm
 refine Ev_t h2 ?_
 have l1:=AV_len h1
 have l2:=AV_len h2
 obtain ⟨p1,p2,p4,p6,p7⟩:=AV_iff.1 h1
 obtain ⟨q1,q2,q4,q6,q7⟩:=AV_iff.1 h2
 have lk:=link_len n f s2 t l2.1
 have lp:=putAllE_len (linkT n f s2 t) (t ++ t2.map (shS n))
 rw [List.length_append,List.length_map] at lp
 refine Ev.bind (iBehind n (by omega) m s2 f2 t2 (by omega) (fun x hx => by have:=stepOk_st (q6 x hx);omega)) (Ev.bind (concatT t (t2.map (shS n)) (by omega) (by rw [List.length_map];omega)) ?_)
 refine iChainLoop n m (by omega) s f s2 f2 t t2 _ l1.2.2 l2.1 l1.2.1 (fun x hx => by have:=q2.1 x hx;omega) (by rw [List.length_append,List.length_map];omega) _ ?_
 have e1:=shared_ev s f (by omega) (by omega)
 have e2:=shared_ev s2 f2 (by omega) (by omega)
 have k1:=iMoved n (by omega) s2 (by omega) (fun x hx => by have:=q2.1 x hx;omega)
 have k2:=iMoved n (by omega) f2 (by omega) (fun x hx => by have:=q4.1 x hx;omega)
 have hb : ascT (t ++ t2.map (shS n)):=beside_asc (fun x hx => (stepOk_st (p6 x hx)).2.1) (fun x hx => (stepOk_st (q6 x hx)).1) p7 q7
 have hsort : sortT (putAllE (t ++ t2.map (shS n)) (linkT n f s2 t)) = putAll (t ++ t2.map (shS n)) (linkT n f s2 t) :=
  sortT_of (putAll_asc _ _ hb) (putAll_same (linkT n f s2 t) (.refl _) hb).symm
 have ha1:=chStarts_asc (f:=f) p2 ⟨fun x hx => (q2.1 x hx).1,q2.2⟩
 have ha2:=chFinals_asc (s2:=s2) p4 ⟨fun x hx => (q4.1 x hx).1,q4.2⟩
 have hw : ∀ a b a' b' : List Int,a.length ≤ 1000 → b.length ≤ 1000 → ascI a' → a'.Perm a → ascI b' → b'.Perm b → Ev (fun k => (impl_made.f k (n + m) a b (putAllE (t ++ t2.map (shS n)) (linkT n f s2 t))).bind fun t7 => some (t7.1,t7.2.1,t7.2.2.1,t7.2.2.2.1,t7.2.2.2.2)) (wholeR (n + m) a' b' (putAll (t ++ t2.map (shS n)) (linkT n f s2 t))):=fun a b a' b' ha hb c1 c2 c3 c4 => by
  have:=made_ev (n + m) a b (putAllE (t ++ t2.map (shS n)) (linkT n f s2 t)) (by omega) (by omega) (by omega)
  rw [sortI_of c1 c2,sortI_of c3 c4,hsort] at this
  exact Ev.bind this (Ev.now _)
 have hcl : slices_Clone_int_int.f s = some s:=by unfold slices_Clone_int_int.f;rw [if_pos (by omega)]
 refine Ev.step (f:=?f1) (fun k => ?_) ?k1
 rotate_left
 ·simp only [impl_ChainAutomaton.l0]
  rw [if_neg (by omega),hcl,Option.bind_some,w64 (x:=n + m) (by omega) (by omega)] <;> exact rfl
 rw [if_pos ⟨h1,h2⟩]
 unfold chStarts at ha1 ⊢
 unfold chFinals at ha2 ⊢
 refine Ev.bind k2 (Ev.bind e1 ?_)
 by_cases c1 : anyIn s f = true
 ·rw [if_pos c1] at ha1 ⊢
  refine Ev_t c1 (Ev.bind k1 (Ev_t (by rw [List.length_map];omega) (Ev.bind e2 ?_)))
  by_cases c2 : anyIn s2 f2 = true
  ·rw [if_pos c2] at ha2 ⊢
   exact Ev_t c2 (Ev_t (by rw [List.length_map];omega) (hw _ _ _ _ (by simp only [List.length_append,List.length_map];omega) (by simp only [List.length_append,List.length_map];omega) ha1 (.refl _) ha2 List.perm_append_comm))
  ·rw [if_neg c2] at ha2 ⊢
   exact Ev_f c2 (hw _ _ _ _ (by simp only [List.length_append,List.length_map];omega) (by simp only [List.length_map];omega) ha1 (.refl _) ha2 (.refl _))
 ·rw [if_neg c1] at ha1 ⊢
  refine Ev_f c1 (Ev.bind e2 ?_)
  by_cases c2 : anyIn s2 f2 = true
  ·rw [if_pos c2] at ha2 ⊢
   exact Ev_t c2 (Ev_t (by rw [List.length_map];omega) (hw _ _ _ _ (by omega) (by simp only [List.length_append,List.length_map];omega) ha1 (.refl _) ha2 List.perm_append_comm))
  ·rw [if_neg c2] at ha2 ⊢
   exact Ev_f c2 (hw _ _ _ _ (by omega) (by simp only [List.length_map];omega) ha1 (.refl _) ha2 (.refl _))
theorem PureFnExactChainAutomaton (n : Int) (s f : List Int) (t : List Stp) (m : Int) (s2 f2 : List Int) (t2 : List Stp) (hn : (Lit.int .i64 n).wf = true) (hs : s.length ≤ maxLen) (hsw : ∀ x ∈ s,(Lit.int .i64 x).wf = true) (hf : f.length ≤ maxLen) (hfw : ∀ x ∈ f,(Lit.int .i64 x).wf = true) (ht : t.length ≤ maxLen) (htw : ∀ x ∈ t,(Lit.int .i64 x.f0).wf = true ∧ x.f1.size ≤ maxLen ∧ (Lit.int .i64 x.f2).wf = true ∧ (Lit.int .i64 x.f3).wf = true) (hm : (Lit.int .i64 m).wf = true) (hs2 : s2.length ≤ maxLen) (hs2w : ∀ x ∈ s2,(Lit.int .i64 x).wf = true) (hf2 : f2.length ≤ maxLen) (hf2w : ∀ x ∈ f2,(Lit.int .i64 x).wf = true) (ht2 : t2.length ≤ maxLen) (ht2w : ∀ x ∈ t2,(Lit.int .i64 x.f0).wf = true ∧ x.f1.size ≤ maxLen ∧ (Lit.int .i64 x.f2).wf = true ∧ (Lit.int .i64 x.f3).wf = true) : ∃ k,laws_FnExactChainAutomaton.f k n s f t m s2 f2 t2 = some true:=by
 refine Ev.rounds (g:=fun k => laws_FnExactChainAutomaton.f k n s f t m s2 f2 t2) (r:=true) ?_
 unfold laws_FnExactChainAutomaton.f
 obtain ⟨z,hz,hc⟩:=szAutomaton_ev n s f t hs hf ht (fun x hx => (htw x hx).2.1) 1048576 (by omega) (by omega)
 refine Ev.bind hz ?_
 by_cases h1 : z < 0
 ·exact Ev_t h1 (Ev.now _)
 have hc:=hc.resolve_left h1
 refine Ev_f h1 ?_
 obtain ⟨y,hy,hd⟩:=szAutomaton_ev m s2 f2 t2 hs2 hf2 ht2 (fun x hx => (ht2w x hx).2.1) z hc.1 (by have:=hc.2.1;omega)
 refine Ev.bind hy ?_
 by_cases g1 : y < 0
 ·exact Ev_t g1 (Ev.now _)
 have hd:=hd.resolve_left g1
 refine Ev_f g1 ?_
 have c1:=hc.2.2
 have d1:=hd.2.2
 have a1:=toAutomaton_ev n s f t (by omega) (by omega) (by omega)
 have a2:=toAutomaton_ev m s2 f2 t2 (by omega) (by omega) (by omega)
 have hT : (t.map cvS).length ≤ 1048576:=by rw [List.length_map];omega
 have hT2 : (t2.map cvS).length ≤ 1048576:=by rw [List.length_map];omega
 have b1:=sChainA n s f (t.map cvS) m s2 f2 (t2.map cvS) (by omega) (by omega) (by omega) (by omega) (by omega) (by omega)
 have b2:=iChainA n s f (t.map cvS) m s2 f2 (t2.map cvS) (by omega) (by omega) (by omega) (by omega) (by omega) (by omega)
 have hr:=chain_sm n s f (t.map cvS) m s2 f2 (t2.map cvS)
 obtain ⟨r,re⟩ : ∃ r,chainR n s f (t.map cvS) m s2 f2 (t2.map cvS) = r:=⟨_,rfl⟩
 rw [re] at b1 b2 hr
 have eqr:=eqR_ev r hr
 have eqa:=eqAutomaton_ev n s f (t.map cvS) (by omega) (by omega) (by omega)
 have eqb:=eqAutomaton_ev m s2 f2 (t2.map cvS) (by omega) (by omega) (by omega)
 obtain ⟨z2,s',f',t',hmk,hz0,hz1⟩:=markAutomaton_ev n s f (t.map cvS) (by omega) (by omega) hT
 obtain ⟨y2,u',g',v',hmk2,hy0,hy1⟩:=markFrom m s2 f2 (t2.map cvS) (by omega) (by omega) hT2 z2 (by omega) (by omega)
 obtain ⟨z3,s3,f3,t3,hm3,hh3,hz3⟩:=markHeld r.1 r.2.1 r.2.2.1 r.2.2.2.1 hr.1 hr.2.1 hr.2.2
 refine Ev.bind a1 (Ev.bind a2 (Ev.bind b1 (Ev.bind a1 (Ev.bind a2 (Ev.bind b2 (Ev.bind eqr (Ev_t rfl (Ev_f (by simp) ?_))))))))
 refine Ev.bind a1 (Ev.bind eqa (Ev_t rfl (Ev.bind a2 (Ev.bind eqb (Ev_t rfl ?_)))))
 refine Ev.bind hmk (Ev.bind hmk2 (Ev_f (by show ¬ y2 < 0;omega) (Ev.bind eqr (Ev_t rfl (Ev.bind hm3 (Ev.bind hh3 (Ev_f (by omega) (Ev_t rfl ?_))))))))
 refine Ev.bind a1 (Ev.bind a2 (Ev.bind b2 (Ev.bind eqr (Ev_t rfl (Ev_f (by simp) (Ev.bind hh3 (Ev_f (by omega) (Ev_t rfl (Ev.now _)))))))))
end Go.Proofs.Ytoeeeafknajkkaa.V
end
