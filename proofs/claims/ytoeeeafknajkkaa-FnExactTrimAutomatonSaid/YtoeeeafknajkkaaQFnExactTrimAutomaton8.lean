import Derived.Test.YtoeeeafknajkkaaQFnExactTrimAutomaton2
import Derived.Test.YtoeeeafknajkkaaQFnExactTrimAutomaton4
import Derived.Deep.Slices
import Derived.Deep.Fields
import Derived.ChangeSame
import Derived.ChangeSlices
import Derived.Lib.SmallJoins
import Derived.WalkKit
import Derived.ProofKit
import Derived.OpenShut
import Derived.ShutString
import Derived.ChangeOld
import Derived.Below
import Derived.Test.YtoeeeafknajkkaaQFnExactTrimAutomaton7
import Derived.Lib.Bytealg
import Derived.Lib.Repeat
import Derived.Test.YtoeeeafknajkkaaQFnExactTrimAutomaton3
section
namespace Go.Proofs.Ytoeeeafknajkkaa.V
open Go Go.Proofs.Ytoeeeafknajkkaa.R Go.RowKit Go.Proofs.Ytoeeeafknajkkaa.X Go.ChangeShapes Go.WideShapes Go.Deep Go.Proofs.YtoeeeafknajkkaaW.PrintWords Go.Proofs.YtoeeeafknajkkaaW.PrintLast Go.Proofs.YtoeeeafknajkkaaW.PrintMore
set_option linter.unusedVariables false
open Go.ChangeShapes Go.WideShapes Go.Deep
theorem field_ints {H : Type} {enc : TypeId × Value → H} {P : Program} {w : World} {base : Nat} {spare : Nat → Bool} {held : Bool} {t e : TypeId} {k : IntKind} {fuel : Nat} {v : Value} {x : DataW H × List MemPlace}
  (ht : P.underlying t = some (.slice e)) (he : P.underlying e = some (.int k)) (hc : P.cellsOf e = 1) (h : DataW.trod enc P w base spare held fuel t [v] = some x) :
  ∃ (A : Option Addr) (c : Nat) (l : List Int),v = .slice A l.length c ∧ Kd.C (Kd.int k) w A l.length l ∧ l.length ≤ c ∧ l.length ≤ maxLen ∧ ∀ n ∈ l,(Lit.int k n).wf = true:=by
 rcases open_ints ht he hc h with ⟨hcs,_⟩ | ⟨a,len,cap,zs,hcs,_,hl,hm,hz,_,hcell,hwf⟩
 ·simp at hcs
  obtain ⟨l,h1,h2,h3,h4,h5⟩:=ReadsInt.ofRowC (k:=k) (w:=w) (a:=none) (len:=0) (cap:=0) (zs:=[]) (.inl ⟨rfl,rfl,rfl,rfl⟩)
  exact ⟨none,0,l,by rw [hcs,← h1],Kd.C_of_reads (d:=(0 : Int)) (h1:=fun _ => rfl) h2,h5,h3,h4⟩
 ·simp at hcs
  have hr : ∃ l : List Int,len = l.length ∧ ReadsInt w k (some a) l.length l ∧ l.length ≤ maxLen ∧ (∀ x ∈ l,(Lit.int k x).wf = true):=by
   refine ⟨zs.take len,?_,?_,?_,fun x hx => hwf x (List.mem_of_mem_take hx)⟩
   ·rw [List.length_take,hz];split <;> omega
   ·have hlen : (zs.take len).length = len:=by rw [List.length_take,hz];split <;> omega
    refine ⟨rfl,by rw [hlen];exact Nat.le_trans hl hm,fun hn => ⟨a,rfl,fun j hj => ?_⟩⟩
    rw [hlen] at hj
    have hj2 : j < zs.length:=by rw [hz];split <;> omega
    rw [hcell j hj2]
    simp [List.getD_eq_getElem?_getD,hj]
   ·rw [List.length_take];exact Nat.le_trans (Nat.min_le_left _ _) (Nat.le_trans hl hm)
  obtain ⟨l,h1,h2,h3,h4⟩:=hr
  exact ⟨some a,cap,l,by rw [hcs,← h1],Kd.C_of_reads (d:=(0 : Int)) (h1:=fun _ => rfl) h2,by omega,h3,h4⟩
theorem field_int {H : Type} {enc : TypeId × Value → H} {P : Program} {w : World} {base : Nat} {spare : Nat → Bool} {held : Bool} {t : TypeId} {k : IntKind} {fuel : Nat} {v : Value} {x : DataW H × List MemPlace}
  (ht : P.underlying t = some (.int k)) (h : DataW.trod enc P w base spare held fuel t [v] = some x) : ∃ n : Int,v = .int k n ∧ (Lit.int k n).wf = true:=by
 obtain ⟨n,h1,_,h2⟩:=DataW.trod_int ht h
 simp at h1
 exact ⟨n,h1,h2⟩
theorem field_str {H : Type} {enc : TypeId × Value → H} {P : Program} {w : World} {base : Nat} {spare : Nat → Bool} {held : Bool} {t : TypeId} {fuel : Nat} {v : Value} {x : DataW H × List MemPlace}
  (ht : P.underlying t = some .string) (h : DataW.trod enc P w base spare held fuel t [v] = some x) : ∃ s : ByteArray,v = .string s ∧ s.size ≤ maxLen:=by
 obtain ⟨s,h1,_,h2⟩:=DataW.trod_string ht h
 simp at h1
 exact ⟨s,h1,h2⟩
open Go.ChangeShapes Go.WideShapes Go.Deep
set_option maxRecDepth 100000 in
theorem field_steps {H : Type} {enc : TypeId × Value → H} {w : World} {base : Nat} {spare : Nat → Bool} {held : Bool} {fuel : Nat} {v : Value} {x : DataW H × List MemPlace}
  (h : DataW.trod enc Try.prog w base spare held fuel 23 [v] = some x) :
  ∃ (A : Option Addr) (c : Nat) (l : List Stp),v = .slice A l.length c ∧ StepRow w A l ∧ l.length ≤ c ∧ l.length ≤ maxLen ∧ ∀ s ∈ l,(Lit.int .i64 s.f0).wf = true ∧ s.f1.size ≤ maxLen ∧ (Lit.int .i64 s.f2).wf = true ∧ (Lit.int .i64 s.f3).wf = true:=by
 rcases open_slice Try.underlying23 h with ⟨hcs,_⟩ | ⟨a,len,cap,m,n,D,Pl,hcs,_,hl,hm,hmm,_,hi⟩
 ·simp at hcs
  exact ⟨none,0,[],hcs,fun h => absurd h (by simp),Nat.le_refl _,by simp,fun s hs => by cases hs⟩
 ·simp at hcs
  have hlm : len ≤ m:=by rw [hmm];split <;> omega
  have one : ∀ i,i < len → ∃ s : Stp,(∀ u : Nat,∀ y,[Value.int .i64 s.f0,.string s.f1,.int .i64 s.f2,.int .i64 s.f3][u]? = some y → w.cell? (a.add (i * 4 + u)) = some y) ∧ (Lit.int .i64 s.f0).wf = true ∧ s.f1.size ≤ maxLen ∧ (Lit.int .i64 s.f2).wf = true ∧ (Lit.int .i64 s.f3).wf = true:=by
   intro i hil
   obtain ⟨cs',hc,ht'⟩:=hi i (by omega)
   rw [show Try.prog.cellsOf 103 = 4 by kernel_rfl] at hc
   obtain ⟨_,hcl,hat⟩:=World.cells?_some hc
   match cs',hcl with
   | [q0,q1,q2,q3],_ =>
   obtain ⟨y0,y1,y2,y3,n',_,_,t0,t1,t2,t3⟩:=Go.Joins.trod_struct4 Try.underlying103 ht'
   have ei : Try.prog.cellsOf 3 = 1:=by kernel_rfl
   have es : Try.prog.cellsOf 9 = 1:=by kernel_rfl
   have t0 : DataW.trod enc Try.prog w base spare held n' 3 [q0] = some y0:=by simpa [ei,es] using t0
   have t1 : DataW.trod enc Try.prog w base spare held n' 9 [q1] = some y1:=by simpa [ei,es] using t1
   have t2 : DataW.trod enc Try.prog w base spare held n' 3 [q2] = some y2:=by simpa [ei,es] using t2
   have t3 : DataW.trod enc Try.prog w base spare held n' 3 [q3] = some y3:=by simpa [ei,es] using t3
   have hat' : ∀ u,u < 4 → w.cell? (a.add (i * 4 + u)) = [q0,q1,q2,q3][u]?:=fun u hu => by rw [← Go.Deep.add_add];exact hat u hu
   have c0:=hat' 0 (by omega)
   have c1:=hat' 1 (by omega)
   have c2:=hat' 2 (by omega)
   have c3:=hat' 3 (by omega)
   clear hat hat' hc ht'
   obtain ⟨z0,rfl,w0⟩:=field_int Try.underlying3 t0
   obtain ⟨z1,rfl,w1⟩:=field_str Try.underlying9 t1
   obtain ⟨z2,rfl,w2⟩:=field_int Try.underlying3 t2
   obtain ⟨z3,rfl,w3⟩:=field_int Try.underlying3 t3
   refine ⟨⟨z0,z1,z2,z3⟩,?_,w0,w1,w2,w3⟩
   intro u y hu
   match u,hu with
   | 0,hu => obtain rfl:=Option.some.inj hu;exact c0
   | 1,hu => obtain rfl:=Option.some.inj hu;exact c1
   | 2,hu => obtain rfl:=Option.some.inj hu;exact c2
   | 3,hu => obtain rfl:=Option.some.inj hu;exact c3
   | u + 4,hu => simp at hu
  obtain ⟨l,hll,hlp⟩ : ∃ l : List Stp,l.length = len ∧ ∀ i s,l[i]? = some s → (∀ u : Nat,∀ y,[Value.int .i64 s.f0,.string s.f1,.int .i64 s.f2,.int .i64 s.f3][u]? = some y → w.cell? (a.add (i * 4 + u)) = some y) ∧ (Lit.int .i64 s.f0).wf = true ∧ s.f1.size ≤ maxLen ∧ (Lit.int .i64 s.f2).wf = true ∧ (Lit.int .i64 s.f3).wf = true:=by
   have : ∀ q,q ≤ len → ∃ l : List Stp,l.length = q ∧ ∀ i s,l[i]? = some s → (∀ u : Nat,∀ y,[Value.int .i64 s.f0,.string s.f1,.int .i64 s.f2,.int .i64 s.f3][u]? = some y → w.cell? (a.add (i * 4 + u)) = some y) ∧ (Lit.int .i64 s.f0).wf = true ∧ s.f1.size ≤ maxLen ∧ (Lit.int .i64 s.f2).wf = true ∧ (Lit.int .i64 s.f3).wf = true:=by
    intro q
    induction q with
    | zero => intro _;exact ⟨[],rfl,fun i s h => by simp at h⟩
    | succ q ih =>
     intro hq
     obtain ⟨l,h1,h2⟩:=ih (by omega)
     obtain ⟨s,hs⟩:=one q (by omega)
     refine ⟨l ++ [s],by simp [h1],fun i s' h => ?_⟩
     by_cases e : i < l.length
     ·rw [List.getElem?_append_left e] at h;exact h2 i s' h
     ·rw [List.getElem?_append_right (by omega)] at h
      have : i = q:=by
       have:=(List.getElem?_eq_some_iff.mp h).1
       simp at this;omega
      subst this
      rw [h1,Nat.sub_self] at h
      obtain rfl:=Option.some.inj h
      exact hs
   exact this len (Nat.le_refl _)
  refine ⟨some a,cap,l,by rw [hcs,hll],?_,by omega,by omega,fun s hs => ?_⟩
  ·exact fun _ => ⟨a,rfl,fun i s h => (hlp i s h).1⟩
  ·obtain ⟨i,hi',rfl⟩:=List.mem_iff_getElem.mp hs
   exact (hlp i _ (List.getElem?_eq_getElem hi')).2
theorem ints_of {w : World} {A : Option Addr} {l : List Int} (h : Kd.C (Kd.int .i64) w A l.length l) : 0 < l.length → ∃ ad,A = some ad ∧ ∀ (i : Nat) (x : Int),l[i]? = some x → w.cell? (ad.add i) = some (.int .i64 x):=fun hp => by
 obtain ⟨ad,e,hh⟩:=h.2.2 hp
 refine ⟨ad,e,fun i x hx => ?_⟩
 obtain ⟨c,_,hk,hc⟩:=hh i x hx
 have hk : c = [Value.int .i64 x]:=hk
 subst hk
 have:=hc 0 _ rfl
 rw [show (Kd.int IntKind.i64).sz = 1 from rfl,Nat.mul_one,Nat.add_zero] at this
 exact this
theorem automaton_vr {w : World} {n : Int} {A1 A2 A3 : Option Addr} {c1 c2 c3 : Nat} {l1 l2 : List Int} {l3 : List Stp} (h1 : Kd.C (Kd.int .i64) w A1 l1.length l1) (q1 : l1.length ≤ c1) (h2 : Kd.C (Kd.int .i64) w A2 l2.length l2) (q2 : l2.length ≤ c2) (h3 : StepRow w A3 l3) (q3 : l3.length ≤ c3) :
  VR w (fun _ _ => True) R.M0 (.agg [.int .i64 n,.imm (.I .i64 l1),.imm (.I .i64 l2),.imm (.T l3)]) (.agg #[.int .i64 n,.slice A1 l1.length c1,.slice A2 l2.length c2,.slice A3 l3.length c3]):=by
 refine VR.agg_of _ [_,_,_,_] rfl fun i v V p q => ?_
 match i with
 | 0 => cases p;cases q;exact .closed (.int _ _)
 | 1 => cases p;cases q;exact ints_vr q1 (ints_of h1)
 | 2 => cases p;cases q;exact ints_vr q2 (ints_of h2)
 | 3 => cases p;cases q;exact h3.vr q3
 | i + 4 => simp at p
set_option maxRecDepth 100000 in
theorem row_automaton {H : Type} {enc : TypeId × Value → H} {w : World} {base b0 : Nat} {r : Reach} {spare : Nat → Bool} {held : Bool} {v : Value} {d : DataW H} {p : List MemPlace}
  (hv : Value.okWide Try.prog w r b0 25 v) (h : DataW.Trod enc Try.prog w base spare held 25 v d p) :
  ∃ (n : Int) (A1 : Option Addr) (c1 : Nat) (l1 : List Int) (A2 : Option Addr) (c2 : Nat) (l2 : List Int) (A3 : Option Addr) (c3 : Nat) (l3 : List Stp),v = .agg #[.int .i64 n,.slice A1 l1.length c1,.slice A2 l2.length c2,.slice A3 l3.length c3] ∧
   Kd.C (Kd.int .i64) w A1 l1.length l1 ∧ l1.length ≤ c1 ∧ Kd.C (Kd.int .i64) w A2 l2.length l2 ∧ l2.length ≤ c2 ∧ StepRow w A3 l3 ∧ l3.length ≤ c3 ∧ (Lit.int .i64 n).wf = true ∧
   l1.length ≤ maxLen ∧ (∀ x ∈ l1,(Lit.int .i64 x).wf = true) ∧ l2.length ≤ maxLen ∧ (∀ x ∈ l2,(Lit.int .i64 x).wf = true) ∧ l3.length ≤ maxLen ∧ (∀ s ∈ l3,(Lit.int .i64 s.f0).wf = true ∧ s.f1.size ≤ maxLen ∧ (Lit.int .i64 s.f2).wf = true ∧ (Lit.int .i64 s.f3).wf = true):=by
 obtain ⟨v0,v1,v2,v3,y0,y1,y2,y3,n,rfl,_,_,h0,h1,h2,h3⟩:=Go.Joins.open_agg4 Try.underlying25 (by kernel_rfl) (by kernel_rfl) hv h
 obtain ⟨z,rfl,hz⟩:=field_int Try.underlying3 h0
 obtain ⟨A1,c1,l1,rfl,hC1,hc1,hm1,hw1⟩:=field_ints Try.underlying22 Try.underlying3 (by kernel_rfl) h1
 obtain ⟨A2,c2,l2,rfl,hC2,hc2,hm2,hw2⟩:=field_ints Try.underlying22 Try.underlying3 (by kernel_rfl) h2
 obtain ⟨A3,c3,l3,rfl,hC3,hc3,hm3,hw3⟩:=field_steps h3
 exact ⟨z,A1,c1,l1,A2,c2,l2,A3,c3,l3,rfl,hC1,hc1,hC2,hc2,hC3,hc3,hz,hm1,hw1,hm2,hw2,hm3,hw3⟩
end Go.Proofs.Ytoeeeafknajkkaa.V
end
section
set_option linter.unusedVariables false
set_option linter.unusedSimpArgs false
namespace Go.Proofs.Ytoeeeafknajkkaa.V
open Go Go.Proofs.Ytoeeeafknajkkaa.R Go.RowKit
open Go.Proofs.YtoeeeafknajkkaaW.PrintWords hiding mn mx
def L (s : ByteArray) : List UInt8:=s.data.toList
theorem L_size (s : ByteArray) : s.size = (L s).length:=by simp [L]
theorem L_mk (l : List UInt8) : L ⟨l.toArray⟩ = l:=by simp [L]
theorem L_inj {s t : ByteArray} (h : L s = L t) : s = t:=by
 cases s;cases t;simp [L] at h;subst h;rfl
theorem toList_L (s : ByteArray) : s.toList = L s:=ByteArray.toList_eq s
theorem L_extract (s : ByteArray) (a b : Nat) : L (s.extract a b) = ((L s).take b).drop a:=by
 simp [L,ByteArray.data_extract,Array.toList_extract,List.extract,List.drop_take]
theorem L_append (s t : ByteArray) : L (s ++ t) = L s ++ L t:=by simp [L,ByteArray.data_append]
theorem L_nil {s : ByteArray} : s.toList = ([] : List UInt8) ↔ L s = []:=by rw [toList_L]
theorem bt_L (s : ByteArray) (i : Int) : btI s i = (((L s).getD i.toNat 0).toNat : Int):=by
 unfold btI L
 split
 ·next h =>
  have h' : i.toNat < s.data.toList.length:=by simpa using h
  rw [List.getD_eq_getElem?_getD,List.getElem?_eq_getElem h']
  simp;rfl
 ·next h =>
  have h' : s.data.toList.length ≤ i.toNat:=by simpa using h
  rw [List.getD_eq_getElem?_getD,List.getElem?_eq_none h'];rfl
theorem w64 {x : Int} (h0 : -9223372036854775808 ≤ x) (h1 : x ≤ 9223372036854775807) : wrap64 x = x:=by unfold wrap64;omega
theorem _root_.Go.Proofs.YtoeeeafknajkkaaW.PrintWords.Ev.is {α : Type} {g : Nat → Option α} {r r' : α} (h : Ev g r) (e : r = r') : Ev g r':=e ▸ h
theorem bt_suffix {s : ByteArray} {u : List UInt8} {c : UInt8} {e : List UInt8} (h : L s = u ++ c :: e) : btI s u.length = (c.toNat : Int):=by
 rw [bt_L,h];simp [List.getD_eq_getElem?_getD]
theorem size_suffix {s : ByteArray} {u e : List UInt8} (h : L s = u ++ e) : s.size = u.length + e.length:=by rw [L_size,h];simp
theorem u8_ne {c d : UInt8} (h : c ≠ d) : ¬ ((c.toNat : Int) = (d.toNat : Int)):=by
 intro e;exact h (UInt8.toNat.inj (by exact_mod_cast e))
def wOk (c : UInt8) : Bool:=c == 97 || c == 98
def wordB (l : List UInt8) : Bool:=l.all wOk && decide (l.length ≤ 1000)
theorem rd_mid (pre : List Int) (x : Int) (t : List Int) : rdI (pre ++ x :: t) (pre.length : Int) = x:=by simp [rdI,List.getD_eq_getElem?_getD]
theorem rd_nat (l : List Int) (i : Nat) : rdI l (i : Int) = l.getD i 0:=by simp [rdI]
theorem snoc_len (pre : List Int) (x : Int) : (((pre ++ [x]).length : Nat) : Int) = (pre.length : Int) + 1:=by simp
theorem wf_in {n : Int} (h : (Lit.int .i64 n).wf = true) : -9223372036854775808 ≤ n ∧ n ≤ 9223372036854775807:=by
 have hmin : IntKind.i64.min = -9223372036854775808:=rfl
 have hmax : IntKind.i64.max = 9223372036854775807:=rfl
 simp only [Lit.wf,Bool.and_eq_true,decide_eq_true_eq] at h
 omega
theorem maxLen_eq : maxLen = 9223372036854775807:=rfl
theorem ev_all {α : Type} {f : Nat → Nat → Option α} {g : Nat → α} (n : Nat) (h : ∀ i,i < n → Ev (f i) (g i)) : ∃ K0,∀ K,K0 ≤ K → ∀ i,i < n → f i K = some (g i):=by
 induction n with
 | zero => exact ⟨0,fun _ _ i hi => by omega⟩
 | succ n ih =>
  obtain ⟨K0,h0⟩:=ih (fun i hi => h i (by omega))
  obtain ⟨K1,h1⟩:=h n (by omega)
  refine ⟨max K0 K1,fun K hK i hi => ?_⟩
  by_cases e : i = n
  ·subst e;exact h1 K (by omega)
  ·exact h0 K (by omega) i (by omega)
theorem ev_up {α : Type} {f : Nat → Option α} {p : Nat → Nat → Option α} {r : α} (h : Ev f r) (hp : ∃ K0,∀ K,K0 ≤ K → ∀ j,LeO (f j) (p K (j + 1))) (hm : ∀ K j,LeO (p K j) (p K (j + 1))) : Ev (fun K => p K K) r:=by
 obtain ⟨K1,h1⟩:=h
 obtain ⟨K0,h0⟩:=hp
 refine ⟨max K0 (K1 + 1),fun K hK => ?_⟩
 have a:=h0 K (by omega) K1 r (h1 K1 (Nat.le_refl _))
 exact at_rounds (g:=p K) (hm K) (show K1 + 1 ≤ K by omega) a
theorem ev_some {α : Type} {f : Nat → Option α} {r : α} (h : ∀ k,f k = some r) : Ev f r:=⟨0,fun k _ => h k⟩
theorem up_loop {β : Type} (n : Nat) (L : Nat → Nat → Option β) (r : β) (step : ∀ i,i < n → Ev (L (i + 1)) r → Ev (L i) r) (h : Ev (L n) r) : Ev (L 0) r:=by
 have go : ∀ d,d ≤ n → Ev (L (n - d)) r:=by
  intro d
  induction d with
  | zero => intro _;exact h
  | succ d ih =>
   intro hd
   have e : n - (d + 1) + 1 = n - d:=by omega
   exact step (n - (d + 1)) (by omega) (by rw [e];exact ih (by omega))
 have:=go n (Nat.le_refl _)
 rwa [Nat.sub_self] at this
def tab (N : Nat) (F : Nat → Int) : List Int:=(List.range N).map F
theorem tab_length (N : Nat) (F : Nat → Int) : (tab N F).length = N:=by simp [tab]
theorem tab_snoc (N : Nat) (F : Nat → Int) : tab N F ++ [F N] = tab (N + 1) F:=by simp [tab,List.range_succ]
theorem tab_get (N : Nat) (F : Nat → Int) (j : Nat) (h : j < N) : (tab N F).getD j 0 = F j:=by
 simp [tab,List.getD_eq_getElem?_getD,List.getElem?_map,List.getElem?_range h]
theorem tab_congr (N : Nat) (F G : Nat → Int) (h : ∀ j,j < N → F j = G j) : tab N F = tab N G:=by
 unfold tab
 exact List.map_congr_left (fun j hj => h j (List.mem_range.mp hj))
theorem mem_tab {N : Nat} {F : Nat → Int} {x : Int} : x ∈ tab N F ↔ ∃ j,j < N ∧ F j = x:=by simp [tab]
theorem eq_tab (l : List Int) (N : Nat) (h : l.length = N) : l = tab N (fun j => l.getD j 0):=by
 apply List.ext_getElem
 ·simp [tab,h]
 ·intro i h1 h2
  simp [tab,List.getD_eq_getElem?_getD,List.getElem?_eq_getElem h1]
theorem fold_snoc {β : Type} (n : Nat) (f : β → Nat → β) (b : β) : (List.range (n + 1)).foldl f b = f ((List.range n).foldl f b) n:=by simp [List.range_succ]
theorem Ev_t {α : Type} {f g : Nat → Option α} {r : α} {c : Prop} [Decidable c] (h : c) (k : Ev f r) : Ev (fun n => if c then f n else g n) r:=Ev.congr (fun n => if_pos h) k
theorem Ev_f {α : Type} {f g : Nat → Option α} {r : α} {c : Prop} [Decidable c] (h : ¬ c) (k : Ev g r) : Ev (fun n => if c then f n else g n) r:=Ev.congr (fun n => if_neg h) k
def okCost (x : Int) : Bool:=decide (0 ≤ x ∧ x ≤ 1000000)
def MV (n : Int) (l : List Int) : Prop:=1 ≤ n ∧ n ≤ 4 ∧ (l.length : Int) = n * n ∧ ∀ x ∈ l,0 ≤ x ∧ x ≤ 1000000
def GV (n : Int) (l : List Int) : Prop:=MV n l ∧ ∀ x ∈ l,x ≤ 3
instance (n : Int) (l : List Int) : Decidable (MV n l):=by unfold MV;infer_instance
instance (n : Int) (l : List Int) : Decidable (GV n l):=by unfold GV;infer_instance
theorem sIn (a lo hi : Int) : spec_l1In.f a lo hi = some (decide (lo ≤ a ∧ a ≤ hi)):=by
 unfold spec_l1In.f
 by_cases h : a ≥ lo
 ·rw [if_pos h];by_cases h2 : a ≤ hi <;> simp [h2] <;> omega
 ·rw [if_neg h];simp;omega
theorem indexG {α : Type} (rdA : List α → Int → α) (hrd : ∀ (pre : List α) (x : α) (t : List α),rdA (pre ++ x :: t) (pre.length : Int) = x) (q : α → Bool) (p : Nat → α → Option Bool) (l : List α) (hp : ∀ x ∈ l,Ev (fun k => p k x) (q x)) (L0 : Nat → List α → Int → Int → Option Int)
  (hL : ∀ k x0 x7 x8,L0 (k + 1) x0 x7 x8 = if x8 < x7 then (if 0 ≤ x8 then (if x8 < (x0.length : Int) then ((p k (rdA x0 x8)).bind fun t1 => if t1 = true then some x8 else L0 k x0 x7 (wrap64 (x8 + 1))) else none) else none) else some (-1)) (h : l.length ≤ 9223372036854775807) :
  Ev (fun k => (L0 k l (l.length : Int) 0).bind fun t1 => some (decide (t1 ≥ 0))) (l.any q):=by
 have go : ∀ (t pre : List α),l = pre ++ t → ∃ z : Int,Ev (fun k => L0 k l (l.length : Int) (pre.length : Int)) z ∧ decide (z ≥ 0) = t.any q:=by
  intro t
  induction t with
  | nil =>
   intro pre hl
   refine ⟨-1,?_,rfl⟩
   refine Ev.step (f:=fun _ => some (-1)) (fun k => ?_) (Ev.now _)
   rw [hL,if_neg (by rw [hl];simp)]
  | cons x t ih =>
   intro pre hl
   have hlen : l.length = pre.length + (t.length + 1):=by rw [hl];simp
   have hx : rdA l (pre.length : Int) = x:=by rw [hl,hrd]
   have hpx:=hp x (by rw [hl];simp)
   have a0 : (pre.length : Int) < (l.length : Int):=by omega
   cases hq : q x with
   | true =>
    rw [hq] at hpx
    refine ⟨pre.length,?_,by simp [hq]⟩
    refine Ev.step (f:=fun k => (p k x).bind fun t1 => if t1 = true then some (pre.length : Int) else L0 k l (l.length : Int) (wrap64 ((pre.length : Int) + 1))) (fun k => ?_) (Ev.bind hpx (Ev.congr (f:=fun _ => some (pre.length : Int)) (fun k => if_pos rfl) (Ev.now _)))
    rw [hL,if_pos a0,if_pos (Int.natCast_nonneg _),if_pos a0,hx]
   | false =>
    rw [hq] at hpx
    obtain ⟨z,hz,hd⟩:=ih (pre ++ [x]) (by simp [hl])
    refine ⟨z,?_,by simp [hq,hd]⟩
    have e : (((pre ++ [x]).length : Nat) : Int) = wrap64 ((pre.length : Int) + 1):=by rw [w64 (by omega) (by omega)];simp
    rw [e] at hz
    refine Ev.step (f:=fun k => (p k x).bind fun t1 => if t1 = true then some (pre.length : Int) else L0 k l (l.length : Int) (wrap64 ((pre.length : Int) + 1))) (fun k => ?_) (Ev.bind hpx (Ev.congr (fun k => if_neg (by simp)) hz))
    rw [hL,if_pos a0,if_pos (Int.natCast_nonneg _),if_pos a0,hx]
 obtain ⟨z,hz,hd⟩:=go l [] rfl
 exact Ev.bind hz ((Ev.now _).is hd)
theorem div_mod_at (n i k : Nat) (hk : k < n) : (i * n + k) / n = i ∧ (i * n + k) % n = k:=by
 have hn : 0 < n:=by omega
 constructor
 ·rw [Nat.mul_comm,Nat.mul_add_div hn,Nat.div_eq_of_lt hk,Nat.add_zero]
 ·rw [Nat.mul_comm,Nat.mul_add_mod,Nat.mod_eq_of_lt hk]
theorem cell_lt (n i k : Nat) (hi : i < n) (hk : k < n) : i * n + k < n * n:=by
 have : (i + 1) * n ≤ n * n:=Nat.mul_le_mul_right n hi
 rw [Nat.succ_mul] at this
 omega
theorem sq_le (n : Nat) (h : n ≤ 4) : n * n ≤ 16:=by
 have:=Nat.mul_le_mul h h
 omega
theorem row_le (n i : Nat) (hn : n ≤ 4) (hi : i ≤ n) : i * n ≤ 16:=by
 have:=Nat.mul_le_mul (Nat.le_trans hi hn) hn
 omega
def cutF (n : Nat) (g : Nat → Nat → Int) : Int → Int → Option Int:=fun i k => if 0 ≤ i ∧ i < n ∧ 0 ≤ k ∧ k < n then some (g i.toNat k.toNat) else none
theorem cutF_at (n : Nat) (g : Nat → Nat → Int) (i k : Nat) (hi : i < n) (hk : k < n) : cutF n g (i : Int) (k : Int) = some (g i k):=by
 unfold cutF;rw [if_pos (by omega)];simp
def sqL (n : Nat) (g : Nat → Nat → Int) : List Int:=tab (n * n) (fun m => g (m / n) (m % n))
theorem sqL_get (n : Nat) (g : Nat → Nat → Int) (i k : Nat) (hi : i < n) (hk : k < n) : (sqL n g).getD (i * n + k) 0 = g i k:=by
 unfold sqL
 rw [tab_get _ _ _ (cell_lt n i k hi hk)]
 obtain ⟨h1,h2⟩:=div_mod_at n i k hk
 rw [h1,h2]
theorem sqL_congr (n : Nat) (g h : Nat → Nat → Int) (e : ∀ i k,i < n → k < n → g i k = h i k) : sqL n g = sqL n h:=by
 refine tab_congr _ _ _ (fun j hj => e _ _ (Nat.div_lt_of_lt_mul hj) (Nat.mod_lt _ ?_))
 rcases n with _|n
 ·simp at hj
 ·omega
theorem eq_sqL (n : Nat) (l : List Int) (h : l.length = n * n) : l = sqL n (fun i k => l.getD (i * n + k) 0):=by
 refine (eq_tab l _ h).trans (tab_congr _ _ _ (fun j _ => ?_))
 show l.getD j 0 = l.getD (j / n * n + j % n) 0
 rw [Nat.mul_comm,Nat.div_add_mod]
theorem filledG (n : Nat) (hn : n ≤ 4) (g : Nat → Nat → Int) (c : Nat → Int → Int → Option Int) (hc : ∀ i,i < n → ∀ k,k < n → Ev (fun K => c K (i : Int) (k : Int)) (g i k)) (L0 : Nat → Int → Int → Int → Int → List Int → Option (Int × List Int)) (L1 : Nat → Int → Int → Int → Int → Int → Int → Int → List Int → Option (Int × List Int))
  (h0 : ∀ k x0 x10 x11 y z,L0 (k + 1) x0 x10 x11 y z = if x11 < x10 then L1 k x0 x11 x10 x11 x0 0 y z else some (y,z))
  (h1 : ∀ k x0 x6 x10 x11 x14 x15 y z,L1 (k + 1) x0 x6 x10 x11 x14 x15 y z = if x15 < x14 then ((c k x6 x15).bind fun t1 => if z.length < 17592186044416 then L1 k x0 x6 x10 x11 x14 (wrap64 (x15 + 1)) y (z ++ [t1]) else none) else L0 k x0 x10 (wrap64 (x11 + 1)) y z) :
  Ev (fun k => L0 k (n : Int) (n : Int) 0 (n : Int) []) ((n : Int),sqL n g):=by
 have inner : ∀ (i : Nat) (r : Int × List Int),i < n → Ev (fun j => L0 j n n ((i + 1 : Nat) : Int) n (tab ((i + 1) * n) (fun m => g (m / n) (m % n)))) r →
   Ev (fun j => L0 j n n (i : Int) n (tab (i * n) (fun m => g (m / n) (m % n)))) r:=by
  intro i r hi h
  refine Ev.step (f:=fun j => L1 j n i n i n ((0 : Nat) : Int) n (tab (i * n + 0) (fun m => g (m / n) (m % n)))) (fun k => ?_) ?_
  ·rw [h0,if_pos (by omega)];rfl
  refine up_loop n (fun k j => L1 j n i n i n (k : Int) n (tab (i * n + k) (fun m => g (m / n) (m % n)))) r (fun k hk hs => ?_) ?_
  ·have hr:=row_le n i hn (by omega)
   obtain ⟨d1,d2⟩:=div_mod_at n i k hk
   have e : tab (i * n + k) (fun m => g (m / n) (m % n)) ++ [g i k] = tab (i * n + (k + 1)) (fun m => g (m / n) (m % n)):=by
    rw [← Nat.add_assoc,← tab_snoc,d1,d2]
   have b0 : (tab (i * n + k) (fun m => g (m / n) (m % n))).length < 17592186044416:=by rw [tab_length];omega
   have a0 : (k : Int) < (n : Int):=by omega
   have wk : wrap64 ((k : Int) + 1) = ((k + 1 : Nat) : Int):=by rw [w64 (by omega) (by omega)];rfl
   refine Ev.step (f:=fun j => (c j (i : Int) (k : Int)).bind fun t1 => if (tab (i * n + k) (fun m => g (m / n) (m % n))).length < 17592186044416 then L1 j n i n i n (wrap64 ((k : Int) + 1)) n (tab (i * n + k) (fun m => g (m / n) (m % n)) ++ [t1]) else none) (fun j => ?_) (Ev.bind (hc i hi k hk) (Ev_t b0 ?_))
   ·rw [h1,if_pos a0]
   ·rw [wk,e];exact hs
  ·refine Ev.step (fun j => ?_) h
   rw [h1,if_neg (by omega),w64 (by omega) (by omega),Nat.succ_mul];rfl
 refine Ev.congr (f:=fun j => L0 j n n ((0 : Nat) : Int) n (tab (0 * n) (fun m => g (m / n) (m % n)))) (fun k => ?_) ?_
 ·simp [tab]
 refine up_loop n (fun i j => L0 j n n (i : Int) n (tab (i * n) (fun m => g (m / n) (m % n)))) _ (fun i hi hs => inner i _ hi hs) ?_
 refine Ev.step (f:=fun _ => some ((n : Int),sqL n g)) (fun j => ?_) (Ev.now _)
 rw [h0,if_neg (by omega)];rfl
theorem tdiv_nat (m n : Nat) : Int.tdiv (m : Int) (n : Int) = ((m / n : Nat) : Int):=by rw [Int.tdiv_eq_ediv_of_nonneg (by omega)];simp
theorem tmod_nat (m n : Nat) : Int.tmod (m : Int) (n : Int) = ((m % n : Nat) : Int):=by rw [Int.tmod_eq_emod_of_nonneg (by omega)];simp
theorem idx1 (n m l : Nat) (hn : n ≤ 4) (hi : m / n < n) (hl : l < n) : wrap64 (wrap64 (wrap64 (Int.tdiv (m : Int) (n : Int)) * (n : Int)) + l) = ((m / n * n + l : Nat) : Int):=by
 have r1:=row_le n (m / n) hn (by omega)
 rw [tdiv_nat]
 obtain ⟨q,hq⟩ : ∃ q : Nat,m / n = q:=⟨_,rfl⟩
 rw [hq] at hi r1 ⊢
 have h1 : ((q : Nat) : Int) * (n : Int) = ((q * n : Nat) : Int):=by simp
 obtain ⟨s,hs⟩ : ∃ s : Nat,q * n = s:=⟨_,rfl⟩
 rw [w64 (x:=((q : Nat) : Int)) (by omega) (by omega),h1]
 rw [hs] at r1 ⊢
 clear h1 hs hq
 rw [w64 (x:=((s : Nat) : Int)) (by omega) (by omega),w64 (by omega) (by omega)];simp
theorem idx2 (n m l : Nat) (hn : n ≤ 4) (hk : m % n < n) (hl : l < n) : wrap64 (wrap64 ((l : Int) * (n : Int)) + Int.tmod (m : Int) (n : Int)) = ((l * n + m % n : Nat) : Int):=by
 have r2:=row_le n l hn (by omega)
 rw [tmod_nat]
 obtain ⟨q,hq⟩ : ∃ q : Nat,m % n = q:=⟨_,rfl⟩
 rw [hq] at hk ⊢
 have h1 : (l : Int) * (n : Int) = ((l * n : Nat) : Int):=by simp
 obtain ⟨s,hs⟩ : ∃ s : Nat,l * n = s:=⟨_,rfl⟩
 rw [h1]
 rw [hs] at r2 ⊢
 clear h1 hs hq
 rw [w64 (x:=((s : Nat) : Int)) (by omega) (by omega),w64 (by omega) (by omega)];simp
theorem MV_nat {n : Int} {l : List Int} (h : MV n l) : ∃ m : Nat,n = (m : Int) ∧ 1 ≤ m ∧ m ≤ 4 ∧ l.length = m * m:=by
 refine ⟨n.toNat,?_⟩
 have h1:=h.1
 have h2:=h.2.1
 have h3:=h.2.2.1
 obtain ⟨m,rfl⟩ : ∃ m : Nat,n = (m : Int):=⟨n.toNat,by omega⟩
 refine ⟨by simp,by simp;omega,by simp;omega,?_⟩
 simp only [Int.toNat_natCast]
 exact_mod_cast h3
theorem toIntS_ev (l : List Int) (h : l.length ≤ 1048576) : Ev (fun k => laws_toIntS.f k l) l:=by
 have go : ∀ (t pre : List Int),l = pre ++ t → Ev (fun k => laws_toIntS.l0 k l (pre ++ List.replicate t.length 0) (pre.length : Int)) l:=by
  intro t
  induction t with
  | nil =>
   intro pre hl
   refine Ev.step (f:=fun _ => some l) (fun k => ?_) (Ev.now _)
   simp only [laws_toIntS.l0]
   rw [if_neg (by rw [hl];simp)]
   simp [hl]
  | cons x t ih =>
   intro pre hl
   have hlen : l.length = pre.length + (t.length + 1):=by rw [hl];simp
   refine Ev.step (fun k => ?_) (ih (pre ++ [x]) (by simp [hl]))
   simp only [laws_toIntS.l0]
   rw [if_pos (by omega),if_pos (by omega),if_pos (by simp;omega),w64 (by omega) (by omega),hl,rd_mid,snoc_len,← hl]
   congr 1
   simp [List.replicate_succ,List.set_append]
 refine Ev.congr (fun k => ?_) (go l [] rfl)
 unfold laws_toIntS.f
 rw [if_pos (by omega),if_pos (by omega)]
 simp
theorem eqIntS_ev (a b : List Int) (h : a.length ≤ 1000000000) : Ev (fun k => laws_eqIntS.f k a b) (decide (a = b)):=by
 by_cases hl : a.length = b.length
 ·have go : ∀ (t u pre : List Int),a = pre ++ t → b = pre ++ u → Ev (fun k => laws_eqIntS.l0 k a b (pre.length : Int)) (decide (a = b)):=by
   intro t
   induction t with
   | nil =>
    intro u pre ha hb
    have hu : u = []:=by
     have h1:=congrArg List.length ha
     have h2:=congrArg List.length hb
     simp at h1 h2
     exact List.length_eq_zero_iff.mp (by omega)
    subst hu
    have hab : a = b:=by rw [ha,hb]
    refine Ev.step (f:=fun _ => some true) (fun k => ?_) ((Ev.now _).is (by rw [decide_eq_true hab]))
    simp only [laws_eqIntS.l0]
    rw [if_neg (by rw [ha];simp)]
   | cons x t ih =>
    intro u pre ha hb
    have hla : a.length = pre.length + (t.length + 1):=by rw [ha];simp
    cases u with
    | nil => have h2:=congrArg List.length hb;simp at h2;omega
    | cons y u =>
     by_cases hxy : x = y
     ·subst hxy
      refine Ev.step (fun k => ?_) (ih u (pre ++ [x]) (by simp [ha]) (by simp [hb]))
      simp only [laws_eqIntS.l0]
      rw [if_pos (by omega),if_pos (by omega),if_pos (by omega),w64 (by omega) (by omega),snoc_len,if_pos (by rw [ha,hb,rd_mid,rd_mid])]
     ·have hab : ¬ a = b:=by
       intro e
       rw [ha,hb] at e
       have:=List.append_cancel_left e
       simp at this
       exact hxy this.1
      refine Ev.step (f:=fun _ => some false) (fun k => ?_) ((Ev.now _).is (by rw [decide_eq_false hab]))
      simp only [laws_eqIntS.l0]
      rw [if_pos (by omega),if_pos (by omega),if_pos (by omega),if_neg (by rw [ha,hb,rd_mid,rd_mid];exact hxy)]
  refine Ev.congr (fun k => ?_) (go a b [] rfl rfl)
  unfold laws_eqIntS.f
  rw [if_pos (by omega)];rfl
 ·have hab : ¬ a = b:=fun e => hl (by rw [e])
  refine Ev.congr (f:=fun _ => some false) (fun k => ?_) ((Ev.now _).is (by rw [decide_eq_false hab]))
  unfold laws_eqIntS.f
  rw [if_neg (by omega)]
theorem Ev_sz {α : Type} {o : Option Int} {z : Int} {g : Nat → Int → Option α} {r : α} (h : o = some z) (k : Ev (fun n => g n z) r) : Ev (fun n => o.bind (g n)) r:=Ev.congr (fun n => by rw [h];rfl) k
theorem rdS_mid (pre : List Stp) (x : Stp) (t : List Stp) : rdT (pre ++ x :: t) (pre.length : Int) = x:=by simp [rdT,List.getD_eq_getElem?_getD]
theorem snocA {α : Type} (pre : List α) (x : α) : (((pre ++ [x]).length : Nat) : Int) = (pre.length : Int) + 1:=by simp
def mrk (n : Int) : Option Int → List Int → Bool
 | _,[] => true
 | p,x :: t => decide (0 ≤ x ∧ x < n) && (match p with|none => true|some y => decide (y < x)) && mrk n (some x) t
def stepOk (n : Int) (s : Stp) : Bool:=decide (0 ≤ s.f0 ∧ s.f0 < n ∧ 0 ≤ s.f2 ∧ s.f2 < n ∧ 0 ≤ s.f3 ∧ s.f3 ≤ 3 ∧ (s.f1.toList = ([97] : List UInt8) ∨ s.f1.toList = ([98] : List UInt8)))
def bef (s t : Stp) : Bool:=if s.f0 = t.f0 then (if s.f1.toList = t.f1.toList then decide (s.f2 < t.f2) else Op.bytesLess s.f1.toList t.f1.toList) else decide (s.f0 < t.f0)
def stp (n : Int) : Option Stp → List Stp → Bool
 | _,[] => true
 | p,x :: t => stepOk n x && (match p with|none => true|some y => bef y x) && stp n (some x) t
def AV (n : Int) (s f : List Int) (t : List Stp) : Bool:=decide (1 ≤ n ∧ n ≤ 4 ∧ t.length ≤ 24) && mrk n none s && mrk n none f && stp n none t
theorem iMarks (n : Int) (l : List Int) (h : l.length ≤ 1000000000) : Ev (fun k => impl_statesOk.f k l n) (mrk n none l):=by
 have go : ∀ (t pre : List Int),l = pre ++ t → Ev (fun k => impl_statesOk.l0 k l n l (l.length : Int) (pre.length : Int)) (mrk n pre.getLast? t):=by
  intro t
  induction t with
  | nil =>
   intro pre hl
   refine Ev.step (f:=fun _ => some true) (fun k => ?_) (Ev.now _)
   simp only [impl_statesOk.l0];rw [if_neg (by rw [hl];simp)]
  | cons x t ih =>
   intro pre hl
   have hlen : l.length = pre.length + (t.length + 1):=by rw [hl];simp
   have hx : rdI l (pre.length : Int) = x:=by rw [hl,rd_mid]
   have i1:=ih (pre ++ [x]) (by simp [hl])
   rw [List.getLast?_concat,snoc_len] at i1
   by_cases h0 : x < 0
   ·refine Ev.step (f:=fun _ => some false) (fun k => ?_) ((Ev.now _).is ?_)
    ·simp only [impl_statesOk.l0];rw [if_pos (by omega),if_pos (by omega),if_pos (by omega),hx,if_pos h0]
    ·simp only [mrk];rw [decide_eq_false (by omega)];rfl
   by_cases h1 : x ≥ n
   ·refine Ev.step (f:=fun _ => some false) (fun k => ?_) ((Ev.now _).is ?_)
    ·simp only [impl_statesOk.l0];rw [if_pos (by omega),if_pos (by omega),if_pos (by omega),hx,if_neg h0,if_pos h1]
    ·simp only [mrk];rw [decide_eq_false (by omega)];rfl
   rcases List.eq_nil_or_concat pre with rfl | ⟨q,y,rfl⟩
   ·refine Ev.step (fun k => ?_) (i1.is ?_)
    ·simp only [impl_statesOk.l0];rw [if_pos (by omega),if_pos (by omega),if_pos (by omega),hx,if_neg h0,if_neg h1,if_neg (by simp),w64 (by omega) (by omega)]
    ·simp only [mrk,List.getLast?_nil];rw [decide_eq_true (by omega)];rfl
   ·rw [List.concat_eq_append] at *
    have e : wrap64 (((q ++ [y]).length : Int) - 1) = (q.length : Int):=by rw [snoc_len,w64 (by omega) (by rw [List.length_append] at hlen;omega)];omega
    have hy : rdI l (q.length : Int) = y:=by rw [hl,List.append_assoc];exact rd_mid q y (x :: t)
    have hq:=hlen
    rw [List.length_append,List.length_singleton] at hq
    by_cases h2 : y ≥ x
    ·refine Ev.step (f:=fun _ => some false) (fun k => ?_) ((Ev.now _).is ?_)
     ·simp only [impl_statesOk.l0];rw [if_pos (by omega),if_pos (by omega),if_pos (by omega),hx,if_neg h0,if_neg h1,if_pos (by rw [snoc_len];omega),e,if_pos (by omega),if_pos (by omega),hy,if_pos h2]
     ·simp only [mrk,List.getLast?_concat];rw [decide_eq_false (p:=y < x) (by omega)];simp
    ·refine Ev.step (fun k => ?_) (i1.is ?_)
     ·simp only [impl_statesOk.l0];rw [if_pos (by omega),if_pos (by omega),if_pos (by omega),hx,if_neg h0,if_neg h1,if_pos (by rw [snoc_len];omega),e,if_pos (by omega),if_pos (by omega),hy,if_neg h2,w64 (by omega) (by omega)]
     ·simp only [mrk,List.getLast?_concat];rw [decide_eq_true (p:=y < x) (by omega),decide_eq_true (by omega)];rfl
 exact go l [] rfl
theorem sMarks (n : Int) (hn : 1 ≤ n ∧ n ≤ 4) (l : List Int) (h : l.length ≤ 1000000000) : Ev (fun k => spec_l3Marks.f k n l) (mrk n none l):=by
 have go : ∀ (t pre : List Int),l = pre ++ t → Ev (fun k => spec_l3Marks.l0 k n l l (l.length : Int) (pre.length : Int)) (mrk n pre.getLast? t):=by
  intro t
  induction t with
  | nil =>
   intro pre hl
   refine Ev.step (f:=fun _ => some true) (fun k => ?_) (Ev.now _)
   simp only [spec_l3Marks.l0];rw [if_neg (by rw [hl];simp)]
  | cons x t ih =>
   intro pre hl
   have hlen : l.length = pre.length + (t.length + 1):=by rw [hl];simp
   have hx : rdI l (pre.length : Int) = x:=by rw [hl,rd_mid]
   have i1:=ih (pre ++ [x]) (by simp [hl])
   rw [List.getLast?_concat,snoc_len] at i1
   have hw : wrap64 (n - 1) = n - 1:=w64 (by omega) (by omega)
   by_cases h0 : 0 ≤ x ∧ x < n
   case neg =>
    refine Ev.step (f:=fun _ => some false) (fun k => ?_) ((Ev.now _).is ?_)
    ·simp only [spec_l3Marks.l0];rw [if_pos (by omega),if_pos (by omega),if_pos (by omega),hx,sIn,hw,decide_eq_false (by omega),Option.bind_some,if_neg (by simp)]
    ·simp only [mrk];rw [decide_eq_false h0];rfl
   have hd : decide (0 ≤ x ∧ x ≤ n - 1) = true:=decide_eq_true (by omega)
   rcases List.eq_nil_or_concat pre with rfl | ⟨q,y,rfl⟩
   ·refine Ev.step (fun k => ?_) (i1.is ?_)
    ·simp only [spec_l3Marks.l0];rw [if_pos (by omega),if_pos (by omega),if_pos (by omega),hx,sIn,hw,hd,Option.bind_some,if_pos rfl,if_neg (by simp),w64 (by omega) (by omega)]
    ·simp only [mrk,List.getLast?_nil];rw [decide_eq_true h0];rfl
   ·rw [List.concat_eq_append] at *
    have e : wrap64 (((q ++ [y]).length : Int) - 1) = (q.length : Int):=by rw [snoc_len,w64 (by omega) (by rw [List.length_append] at hlen;omega)];omega
    have hy : rdI l (q.length : Int) = y:=by rw [hl,List.append_assoc];exact rd_mid q y (x :: t)
    have hq:=hlen
    rw [List.length_append,List.length_singleton] at hq
    by_cases h2 : y ≥ x
    ·refine Ev.step (f:=fun _ => some false) (fun k => ?_) ((Ev.now _).is ?_)
     ·simp only [spec_l3Marks.l0];rw [if_pos (by omega),if_pos (by omega),if_pos (by omega),hx,sIn,hw,hd,Option.bind_some,if_pos rfl,if_pos (by rw [snoc_len];omega),e,if_pos (by omega),if_pos (by omega),hy,if_pos h2]
     ·simp only [mrk,List.getLast?_concat];rw [decide_eq_false (p:=y < x) (by omega)];simp
    ·refine Ev.step (fun k => ?_) (i1.is ?_)
     ·simp only [spec_l3Marks.l0];rw [if_pos (by omega),if_pos (by omega),if_pos (by omega),hx,sIn,hw,hd,Option.bind_some,if_pos rfl,if_pos (by rw [snoc_len];omega),e,if_pos (by omega),if_pos (by omega),hy,if_neg h2,w64 (by omega) (by omega)]
     ·simp only [mrk,List.getLast?_concat];rw [decide_eq_true (p:=y < x) (by omega),decide_eq_true h0];rfl
 exact go l [] rfl
def cmp0 (a b : Int) : Int:=if a < b then -1 else if a > b then 1 else 0
def ordL (s t : Stp) : Int:=if cmp0 s.f0 t.f0 = 0 then (if Lib.compareBytes s.f1.data.toList t.f1.data.toList = 0 then cmp0 s.f2 t.f2 else Lib.compareBytes s.f1.data.toList t.f1.data.toList) else cmp0 s.f0 t.f0
theorem cmp_eq (a b : Int) : cmp_Compare_int.f a b = some (cmp0 a b):=by
 unfold cmp_Compare_int.f cmp_isNaN_int.f cmp0
 simp only [decide_true,Bool.not_true,Option.bind_some,Bool.false_eq_true,if_false]
 by_cases h : a < b
 ·rw [if_pos h,if_pos h]
 ·rw [if_neg h,if_neg h];by_cases h2 : a > b
  ·rw [if_pos h2,if_pos h2]
  ·rw [if_neg h2,if_neg h2]
theorem cmpOr_ev (l : List Int) (h : l.length ≤ 1000000000) : Ev (fun k => cmp_Or_int.f k l) ((l.find? (· != 0)).getD 0):=by
 have go : ∀ (t pre : List Int),l = pre ++ t → Ev (fun k => cmp_Or_int.l0 k l (l.length : Int) (pre.length : Int)) ((t.find? (· != 0)).getD 0):=by
  intro t
  induction t with
  | nil =>
   intro pre hl
   refine Ev.step (f:=fun _ => some 0) (fun k => ?_) (Ev.now _)
   simp only [cmp_Or_int.l0];rw [if_neg (by rw [hl];simp)]
  | cons x t ih =>
   intro pre hl
   have hlen : l.length = pre.length + (t.length + 1):=by rw [hl];simp
   have hx : rdI l (pre.length : Int) = x:=by rw [hl,rd_mid]
   have i1:=ih (pre ++ [x]) (by simp [hl])
   rw [snoc_len] at i1
   by_cases h0 : x = 0
   ·refine Ev.step (fun k => ?_) (i1.is ?_)
    ·simp only [cmp_Or_int.l0];rw [if_pos (by omega),if_pos (by omega),if_pos (by omega),hx,if_pos h0,w64 (by omega) (by omega)]
    ·simp [List.find?_cons,h0]
   ·refine Ev.step (f:=fun _ => some x) (fun k => ?_) ((Ev.now _).is ?_)
    ·simp only [cmp_Or_int.l0];rw [if_pos (by omega),if_pos (by omega),if_pos (by omega),hx,if_neg h0]
    ·simp [List.find?_cons,h0]
 exact go l [] rfl
theorem iOrder (s t : Stp) : Ev (fun k => impl_stepOrder.f k s.f0 s.f1 s.f2 s.f3 t.f0 t.f1 t.f2 t.f3) (ordL s t):=by
 refine Ev.congr (f:=?f1) (fun k => ?h1) ?k1
 case h1 => unfold impl_stepOrder.f strings_Compare.f bytealg_CompareString.f;rw [cmp_eq,cmp_eq,Option.bind_some,Option.bind_some,Option.bind_some,Option.bind_some] <;> exact rfl
 refine (Ev.bind (cmpOr_ev _ (by simp)) (Ev.now _)).is ?_
 unfold ordL
 by_cases h : cmp0 s.f0 t.f0 = 0
 ·by_cases h2 : Lib.compareBytes s.f1.data.toList t.f1.data.toList = 0
  ·by_cases h3 : cmp0 s.f2 t.f2 = 0 <;> simp [List.find?_cons,h,h2,h3]
  ·simp [List.find?_cons,h,h2]
 ·simp [List.find?_cons,h]
theorem sBefore (s t : Stp) : spec_l3Before.f s.f0 s.f1 s.f2 s.f3 t.f0 t.f1 t.f2 t.f3 = some (bef s t):=by
 unfold spec_l3Before.f bef
 by_cases h : s.f0 = t.f0
 ·rw [if_pos h,if_pos h];by_cases h2 : s.f1.toList = t.f1.toList
  ·rw [if_pos h2,if_pos h2]
  ·rw [if_neg h2,if_neg h2]
 ·rw [if_neg h,if_neg h]
theorem cmp0_lt {a b : Int} : cmp0 a b < 0 ↔ a < b:=by
 unfold cmp0
 by_cases h : a < b
 ·simp [h]
 ·by_cases h2 : a > b <;> simp [h,h2]
theorem cmp0_eq {a b : Int} : cmp0 a b = 0 ↔ a = b:=by
 unfold cmp0
 by_cases h : a < b
 ·rw [if_pos h];omega
 ·by_cases h2 : a > b
  ·rw [if_neg h,if_pos h2];omega
  ·rw [if_neg h,if_neg h2];omega
theorem ord_bef {n : Int} {s t : Stp} (hs : stepOk n s = true) (ht : stepOk n t = true) : ordL s t < 0 ↔ bef s t = true:=by
 unfold stepOk at hs ht
 have hs:=of_decide_eq_true hs
 have ht:=of_decide_eq_true ht
 unfold ordL bef
 have e1:=toList_L s.f1
 have e2:=toList_L t.f1
 unfold L at e1 e2
 rw [← e1,← e2]
 by_cases h : s.f0 = t.f0
 ·rw [if_pos (cmp0_eq.mpr h),if_pos h]
  rcases hs.2.2.2.2.2.2 with a|a <;> rcases ht.2.2.2.2.2.2 with b|b <;> rw [a,b]
  ·rw [if_pos rfl,show Lib.compareBytes ([97] : List UInt8) [97] = 0 by decide,if_pos rfl,cmp0_lt,decide_eq_true_eq]
  ·rw [if_neg (show ¬ Lib.compareBytes ([97] : List UInt8) [98] = 0 by decide),if_neg (by decide)];decide
  ·rw [if_neg (show ¬ Lib.compareBytes ([98] : List UInt8) [97] = 0 by decide),if_neg (by decide)];decide
  ·rw [if_pos rfl,show Lib.compareBytes ([98] : List UInt8) [98] = 0 by decide,if_pos rfl,cmp0_lt,decide_eq_true_eq]
 ·rw [if_neg (fun g => h (cmp0_eq.mp g)),if_neg h,cmp0_lt,decide_eq_true_eq]
theorem iSteps (n : Int) (s f : List Int) (t : List Stp) (h : t.length ≤ 1000000000) : Ev (fun k => impl_AutomatonValid.l0 k t (t.length : Int) 0 n s f t) (stp n none t):=by
 have go : ∀ (u pre : List Stp),t = pre ++ u → (∀ y,pre.getLast? = some y → stepOk n y = true) → Ev (fun k => impl_AutomatonValid.l0 k t (t.length : Int) (pre.length : Int) n s f t) (stp n pre.getLast? u):=by
  intro u
  induction u with
  | nil =>
   intro pre hl _
   refine Ev.step (f:=fun _ => some true) (fun k => ?_) (Ev.now _)
   simp only [impl_AutomatonValid.l0];rw [if_neg (by rw [hl];simp)]
  | cons x u ih =>
   intro pre hl hp
   have hlen : t.length = pre.length + (u.length + 1):=by rw [hl];simp
   have hx : rdT t (pre.length : Int) = x:=by rw [hl,rdS_mid]
   have tail : stepOk n x = true → Ev (fun k => if (pre.length : Int) > 0 then (if 0 ≤ (wrap64 ((pre.length : Int) - 1)) then (if (wrap64 ((pre.length : Int) - 1)) < (t.length : Int) then ((impl_stepOrder.f k ((rdT t (wrap64 ((pre.length : Int) - 1))).f0) ((rdT t (wrap64 ((pre.length : Int) - 1))).f1) ((rdT t (wrap64 ((pre.length : Int) - 1))).f2) ((rdT t (wrap64 ((pre.length : Int) - 1))).f3) x.f0 x.f1 x.f2 x.f3).bind fun z => (if z ≥ 0 then (some false) else (impl_AutomatonValid.l0 k t (t.length : Int) (wrap64 ((pre.length : Int) + 1)) n s f t))) else none) else none) else (impl_AutomatonValid.l0 k t (t.length : Int) (wrap64 ((pre.length : Int) + 1)) n s f t)) (stp n pre.getLast? (x :: u)):=by
    intro hok
    have i1:=ih (pre ++ [x]) (by simp [hl]) (fun y hy => by rw [List.getLast?_concat] at hy;obtain rfl:=Option.some.inj hy;exact hok)
    rw [List.getLast?_concat,snocA] at i1
    have ew : wrap64 ((pre.length : Int) + 1) = (pre.length : Int) + 1:=w64 (by omega) (by omega)
    rw [ew]
    rcases List.eq_nil_or_concat pre with rfl | ⟨q,y,rfl⟩
    ·refine Ev.congr (fun k => by rw [if_neg (by simp)] <;> exact rfl) (i1.is ?_)
     simp only [stp,List.getLast?_nil,hok,Bool.true_and]
    ·rw [List.concat_eq_append] at *
     have hq:=hlen
     rw [List.length_append,List.length_singleton] at hq
     have e : wrap64 (((q ++ [y]).length : Int) - 1) = (q.length : Int):=by rw [snocA,w64 (by omega) (by omega)];omega
     have hy : rdT t (q.length : Int) = y:=by rw [hl,List.append_assoc];exact rdS_mid q y (x :: u)
     have hoy : stepOk n y = true:=hp y (by rw [List.getLast?_concat])
     refine Ev.congr (f:=?f1) (fun k => ?h1) ?k1
     case h1 => rw [e,if_pos (by rw [snocA];omega),if_pos (by omega),if_pos (by omega),hy] <;> exact rfl
     refine Ev.bind (iOrder y x) ?_
     by_cases hb : bef y x = true
     ·refine Ev.congr (fun k => if_neg (by have:=(ord_bef hoy hok).mpr hb;omega)) (i1.is ?_)
      simp only [stp,List.getLast?_concat,hok,hb,Bool.true_and]
     ·refine Ev.congr (f:=fun _ => some false) (fun k => if_pos (Int.not_lt.mp fun h => hb ((ord_bef hoy hok).mp h))) ((Ev.now _).is ?_)
      simp only [stp,List.getLast?_concat,hok,Bool.true_and]
      rw [Bool.not_eq_true] at hb
      rw [hb];rfl
   by_cases hok : stepOk n x = true
   ·have ho:=of_decide_eq_true (show decide _ = true from hok)
    refine Ev.step (fun k => ?_) (tail hok)
    simp only [impl_AutomatonValid.l0]
    rw [if_pos (by omega),if_pos (by omega),if_pos (by omega),hx,if_neg (by omega),if_neg (by omega),if_neg (by omega),if_neg (by omega)]
    rcases ho.2.2.2.2.2.2 with a|a
    ·rw [if_pos a,if_neg (by omega),if_neg (by omega)]
    ·rw [if_neg (by rw [a];decide),if_pos a,if_neg (by omega),if_neg (by omega)]
   ·refine Ev.step (f:=fun _ => some false) (fun k => ?_) ((Ev.now _).is ?_)
    ·simp only [impl_AutomatonValid.l0]
     rw [if_pos (by omega),if_pos (by omega),if_pos (by omega),hx]
     by_cases a1 : x.f0 < 0
     ·rw [if_pos a1]
     by_cases a2 : x.f0 ≥ n
     ·rw [if_neg a1,if_pos a2]
     by_cases a3 : x.f2 < 0
     ·rw [if_neg a1,if_neg a2,if_pos a3]
     by_cases a4 : x.f2 ≥ n
     ·rw [if_neg a1,if_neg a2,if_neg a3,if_pos a4]
     rw [if_neg a1,if_neg a2,if_neg a3,if_neg a4]
     by_cases b1 : x.f1.toList = ([97] : List UInt8)
     ·rw [if_pos b1]
      by_cases a5 : x.f3 < 0
      ·rw [if_pos a5]
      by_cases a6 : x.f3 > 3
      ·rw [if_neg a5,if_pos a6]
      exact absurd (show stepOk n x = true from decide_eq_true ⟨by omega,by omega,by omega,by omega,by omega,by omega,.inl b1⟩) hok
     ·rw [if_neg b1]
      by_cases b2 : x.f1.toList = ([98] : List UInt8)
      ·rw [if_pos b2]
       by_cases a5 : x.f3 < 0
       ·rw [if_pos a5]
       by_cases a6 : x.f3 > 3
       ·rw [if_neg a5,if_pos a6]
       exact absurd (show stepOk n x = true from decide_eq_true ⟨by omega,by omega,by omega,by omega,by omega,by omega,.inr b2⟩) hok
      ·rw [if_neg b2]
    ·rw [Bool.not_eq_true] at hok
     simp only [stp,hok,Bool.false_and]
 exact go t [] rfl (fun y hy => by simp at hy)
theorem sStepOk (n : Int) (hn : 1 ≤ n ∧ n ≤ 4) (x : Stp) : spec_l3Step.f n x.f0 x.f1 x.f2 x.f3 = some (stepOk n x):=by
 unfold spec_l3Step.f stepOk
 rw [sIn,sIn,sIn,w64 (x:=n - 1) (by omega) (by omega),Option.bind_some]
 by_cases a1 : 0 ≤ x.f0 ∧ x.f0 ≤ n - 1
 ·rw [decide_eq_true a1,if_pos rfl,Option.bind_some]
  by_cases a2 : 0 ≤ x.f2 ∧ x.f2 ≤ n - 1
  ·rw [decide_eq_true a2,if_pos rfl,Option.bind_some]
   by_cases a3 : 0 ≤ x.f3 ∧ x.f3 ≤ 3
   ·rw [decide_eq_true a3,if_pos rfl]
    by_cases b : x.f1.toList = ([97] : List UInt8)
    ·rw [if_pos b,decide_eq_true (by refine ⟨?_,?_,?_,?_,?_,?_,.inl b⟩ <;> omega)]
    ·rw [if_neg b]
     by_cases b2 : x.f1.toList = ([98] : List UInt8)
     ·rw [decide_eq_true b2,decide_eq_true (by refine ⟨?_,?_,?_,?_,?_,?_,.inr b2⟩ <;> omega)]
     ·rw [decide_eq_false b2,decide_eq_false (by intro g;rcases g.2.2.2.2.2.2 with c|c;exact b c;exact b2 c)]
   ·rw [decide_eq_false a3,if_neg (by simp),decide_eq_false (by omega)]
  ·rw [decide_eq_false a2,if_neg (by simp),decide_eq_false (by omega)]
 ·rw [decide_eq_false a1,if_neg (by simp),decide_eq_false (by omega)]
theorem sSteps (n : Int) (hn : 1 ≤ n ∧ n ≤ 4) (s f : List Int) (t : List Stp) (h : t.length ≤ 1000000000) : Ev (fun k => spec_AutomatonValid.l0 k t (t.length : Int) 0 n s f t) (stp n none t):=by
 have go : ∀ (u pre : List Stp),t = pre ++ u → Ev (fun k => spec_AutomatonValid.l0 k t (t.length : Int) (pre.length : Int) n s f t) (stp n pre.getLast? u):=by
  intro u
  induction u with
  | nil =>
   intro pre hl
   refine Ev.step (f:=fun _ => some true) (fun k => ?_) (Ev.now _)
   simp only [spec_AutomatonValid.l0];rw [if_neg (by rw [hl];simp)]
  | cons x u ih =>
   intro pre hl
   have hlen : t.length = pre.length + (u.length + 1):=by rw [hl];simp
   have hx : rdT t (pre.length : Int) = x:=by rw [hl,rdS_mid]
   have i1:=ih (pre ++ [x]) (by simp [hl])
   rw [List.getLast?_concat,snocA] at i1
   by_cases hok : stepOk n x = true
   ·rcases List.eq_nil_or_concat pre with rfl | ⟨q,y,rfl⟩
    ·refine Ev.step (fun k => ?_) (i1.is ?_)
     ·simp only [spec_AutomatonValid.l0];rw [if_pos (by omega),if_pos (by omega),if_pos (by omega),hx,sStepOk n hn,hok,Option.bind_some,if_pos rfl,if_neg (by simp),w64 (by omega) (by omega)]
     ·simp only [stp,List.getLast?_nil,hok,Bool.true_and]
    ·rw [List.concat_eq_append] at *
     have hq:=hlen
     rw [List.length_append,List.length_singleton] at hq
     have e : wrap64 (((q ++ [y]).length : Int) - 1) = (q.length : Int):=by rw [snocA,w64 (by omega) (by omega)];omega
     have hy : rdT t (q.length : Int) = y:=by rw [hl,List.append_assoc];exact rdS_mid q y (x :: u)
     by_cases hb : bef y x = true
     ·refine Ev.step (fun k => ?_) (i1.is ?_)
      ·simp only [spec_AutomatonValid.l0];rw [if_pos (by omega),if_pos (by omega),if_pos (by omega),hx,sStepOk n hn,hok,Option.bind_some,if_pos rfl,if_pos (by rw [snocA];omega),e,if_pos (by omega),if_pos (by omega),hy,sBefore,hb,Option.bind_some,if_pos rfl,w64 (by omega) (by omega)]
      ·simp only [stp,List.getLast?_concat,hok,hb,Bool.true_and]
     ·rw [Bool.not_eq_true] at hb
      refine Ev.step (f:=fun _ => some false) (fun k => ?_) ((Ev.now _).is ?_)
      ·simp only [spec_AutomatonValid.l0];rw [if_pos (by omega),if_pos (by omega),if_pos (by omega),hx,sStepOk n hn,hok,Option.bind_some,if_pos rfl,if_pos (by rw [snocA];omega),e,if_pos (by omega),if_pos (by omega),hy,sBefore,hb,Option.bind_some,if_neg (by simp)]
      ·simp only [stp,List.getLast?_concat,hok,hb,Bool.true_and];rfl
   ·rw [Bool.not_eq_true] at hok
    refine Ev.step (f:=fun _ => some false) (fun k => ?_) ((Ev.now _).is ?_)
    ·simp only [spec_AutomatonValid.l0];rw [if_pos (by omega),if_pos (by omega),if_pos (by omega),hx,sStepOk n hn,hok,Option.bind_some,if_neg (by simp)]
    ·simp only [stp,hok,Bool.false_and]
 exact go t [] rfl
theorem iAV (n : Int) (s f : List Int) (t : List Stp) (hs : s.length ≤ 1000000000) (hf : f.length ≤ 1000000000) (ht : t.length ≤ 1000000000) : Ev (fun k => impl_AutomatonValid.f k n s f t) (AV n s f t):=by
 have bad : ∀ g : Nat → Option Bool,(∀ k,g k = some false) → AV n s f t = false → Ev g (AV n s f t):=fun g hg he => ⟨0,fun k _ => by rw [hg,he]⟩
 by_cases h1 : n < 1
 ·exact bad _ (fun k => by unfold impl_AutomatonValid.f;rw [if_pos h1]) (by unfold AV;rw [decide_eq_false (by omega)];rfl)
 by_cases h2 : n > 4
 ·exact bad _ (fun k => by unfold impl_AutomatonValid.f;rw [if_neg h1,if_pos h2]) (by unfold AV;rw [decide_eq_false (by omega)];rfl)
 by_cases h3 : (t.length : Int) > 24
 ·exact bad _ (fun k => by unfold impl_AutomatonValid.f;rw [if_neg h1,if_neg h2,if_pos h3]) (by unfold AV;rw [decide_eq_false (by omega)];rfl)
 have hd : decide (1 ≤ n ∧ n ≤ 4 ∧ t.length ≤ 24) = true:=decide_eq_true (by omega)
 refine Ev.congr (f:=?f1) (fun k => ?h1) ?k1
 case h1 => unfold impl_AutomatonValid.f;rw [if_neg h1,if_neg h2,if_neg h3] <;> exact rfl
 refine Ev.bind (iMarks n s hs) ?_
 by_cases g1 : mrk n none s = true
 case neg =>
  exact bad _ (fun k => by rw [if_neg g1]) (by unfold AV;rw [Bool.not_eq_true] at g1;rw [g1];simp)
 refine Ev_t g1 ?_
 refine Ev.bind (iMarks n f hf) ?_
 by_cases g2 : mrk n none f = true
 case neg =>
  rw [Bool.not_eq_true] at g2
  exact bad _ (fun k => by rw [g2];rfl) (by unfold AV;rw [g2];simp)
 refine Ev.congr (fun k => by rw [if_pos g2]) ((iSteps n s f t ht).is ?_)
 unfold AV;rw [hd,g1,g2];rfl
theorem sAV (n : Int) (s f : List Int) (t : List Stp) (hs : s.length ≤ 1000000000) (hf : f.length ≤ 1000000000) (ht : t.length ≤ 1000000000) : Ev (fun k => spec_AutomatonValid.f k n s f t) (AV n s f t):=by
 have bad : ∀ g : Nat → Option Bool,(∀ k,g k = some false) → AV n s f t = false → Ev g (AV n s f t):=fun g hg he => ⟨0,fun k _ => by rw [hg,he]⟩
 by_cases h1 : 1 ≤ n ∧ n ≤ 4
 case neg => exact bad _ (fun k => by unfold spec_AutomatonValid.f;rw [sIn,decide_eq_false h1,Option.bind_some,if_neg (by simp)]) (by unfold AV;rw [decide_eq_false (by omega)];rfl)
 refine Ev.congr (f:=?f1) (fun k => ?h1) ?k1
 case h1 => unfold spec_AutomatonValid.f;rw [sIn,decide_eq_true h1,Option.bind_some,if_pos rfl] <;> exact rfl
 refine Ev.bind (sMarks n h1 s hs) ?_
 by_cases g1 : mrk n none s = true
 case neg =>
  exact bad _ (fun k => by rw [if_neg g1]) (by unfold AV;rw [Bool.not_eq_true] at g1;rw [g1];simp)
 refine Ev_t g1 ?_
 refine Ev.bind (sMarks n h1 f hf) ?_
 by_cases g2 : mrk n none f = true
 case neg =>
  exact bad _ (fun k => by rw [if_neg g2]) (by unfold AV;rw [Bool.not_eq_true] at g2;rw [g2];simp)
 refine Ev_t g2 ?_
 by_cases h3 : (t.length : Int) > 24
 ·exact bad _ (fun k => by rw [if_pos h3]) (by unfold AV;rw [decide_eq_false (by omega)];rfl)
 refine Ev.congr (fun k => by rw [if_neg h3]) ((sSteps n h1 s f t ht).is ?_)
 unfold AV;rw [decide_eq_true (by omega),g1,g2];rfl
theorem mrk_mem {n : Int} : ∀ {l : List Int} {p : Option Int},mrk n p l = true → ∀ x ∈ l,0 ≤ x ∧ x < n
 | [],_,_,x,hx => by cases hx
 | y :: t,p,h,x,hx => by
  simp only [mrk,Bool.and_eq_true,decide_eq_true_eq] at h
  rcases List.mem_cons.mp hx with rfl|hx
  ·exact h.1.1
  ·exact mrk_mem h.2 x hx
theorem cellZ {n i k : Int} (hn : 1 ≤ n ∧ n ≤ 4) (hi : 0 ≤ i ∧ i < n) (hk : 0 ≤ k ∧ k < n) : 0 ≤ i * n + k ∧ i * n + k < n * n ∧ i * n + k ≤ 16 ∧ 0 ≤ i * n ∧ i * n ≤ 16:=by
 have h1 : n = 1 ∨ n = 2 ∨ n = 3 ∨ n = 4:=by omega
 rcases h1 with rfl|rfl|rfl|rfl <;> omega
theorem cellW {n i k : Int} (hn : 1 ≤ n ∧ n ≤ 4) (hi : 0 ≤ i ∧ i < n) (hk : 0 ≤ k ∧ k < n) : wrap64 (wrap64 (i * n) + k) = i * n + k:=by
 have c:=cellZ hn hi hk
 rw [w64 (x:=i * n) (by omega) (by omega),w64 (by omega) (by omega)]
theorem AV_parts {n : Int} {s f : List Int} {t : List Stp} (h : AV n s f t = true) : (1 ≤ n ∧ n ≤ 4) ∧ t.length ≤ 24 ∧ mrk n none s = true ∧ mrk n none f = true ∧ stp n none t = true:=by
 simp only [AV,Bool.and_eq_true,decide_eq_true_eq] at h
 exact ⟨⟨h.1.1.1.1,h.1.1.1.2.1⟩,h.1.1.1.2.2,h.1.1.2,h.1.2,h.2⟩
def cvS (x : Stp) : Stp:=⟨x.f0,x.f1,x.f2,x.f3⟩
theorem rdL_mid (pre : List Stp) (x : Stp) (t : List Stp) : rdT (pre ++ x :: t) (pre.length : Int) = x:=by simp [rdT,List.getD_eq_getElem?_getD]
theorem toStepS_ev (l : List Stp) (h : l.length ≤ 1048576) : Ev (fun k => laws_toStepS.f k l) (l.map cvS):=by
 have go : ∀ (t pre : List Stp),l = pre ++ t → Ev (fun k => laws_toStepS.l0 k l (pre.map cvS ++ List.replicate t.length zStp) (pre.length : Int)) (l.map cvS):=by
  intro t
  induction t with
  | nil =>
   intro pre hl
   refine Ev.step (f:=fun _ => some (l.map cvS)) (fun k => ?_) (Ev.now _)
   simp only [laws_toStepS.l0]
   rw [if_neg (by rw [hl];simp)]
   simp [hl]
  | cons x t ih =>
   intro pre hl
   have hlen : l.length = pre.length + (t.length + 1):=by rw [hl];simp
   have hx : rdT l (pre.length : Int) = x:=by rw [hl,rdL_mid]
   refine Ev.step (fun k => ?_) (ih (pre ++ [x]) (by simp [hl]))
   simp only [laws_toStepS.l0,laws_toStep.f]
   rw [if_pos (by omega),if_pos (by omega),hx,Option.bind_some,if_pos (by simp;omega),w64 (by omega) (by omega),snocA]
   congr 1
   simp [List.replicate_succ,List.set_append,cvS]
 refine Ev.congr (fun k => ?_) (go l [] rfl)
 unfold laws_toStepS.f
 rw [if_pos (by omega),if_pos (by omega)]
 simp
 rfl
theorem eqStepS_ev (a : List Stp) (h : a.length ≤ 1000000000) : Ev (fun k => laws_eqStepS.f k a a) true:=by
 have go : ∀ (t pre : List Stp),a = pre ++ t → Ev (fun k => laws_eqStepS.l0 k a a (pre.length : Int)) true:=by
  intro t
  induction t with
  | nil =>
   intro pre hl
   refine Ev.step (f:=fun _ => some true) (fun k => ?_) (Ev.now _)
   simp only [laws_eqStepS.l0]
   rw [if_neg (by rw [hl];simp)]
  | cons x t ih =>
   intro pre hl
   have hlen : a.length = pre.length + (t.length + 1):=by rw [hl];simp
   have hx : rdT a (pre.length : Int) = x:=by rw [hl,rdS_mid]
   refine Ev.step (fun k => ?_) (ih (pre ++ [x]) (by simp [hl]))
   simp only [laws_eqStepS.l0,laws_eqStep.f]
   rw [if_pos (by omega),if_pos (by omega),if_pos (by omega)]
   simp only [if_true,Option.bind_some]
   rw [w64 (by omega) (by omega),snocA]
 refine Ev.congr (fun k => ?_) (go a [] rfl)
 unfold laws_eqStepS.f
 rw [if_pos rfl];rfl
theorem toAutomaton_ev (n : Int) (s f : List Int) (t : List Stp) (hs : s.length ≤ 1048576) (hf : f.length ≤ 1048576) (ht : t.length ≤ 1048576) : Ev (fun k => laws_toAutomaton.f k n s f t) (n,s,f,t.map cvS):=by
 refine Ev.congr (f:=?f1) (fun k => ?h1) ?k1
 case h1 => unfold laws_toAutomaton.f;exact rfl
 exact Ev.bind (toIntS_ev s hs) (Ev.bind (toIntS_ev f hf) (Ev.bind (toStepS_ev t ht) (Ev.now _)))
theorem eqAutomaton_ev (n : Int) (s f : List Int) (t : List Stp) (hs : s.length ≤ 1000000000) (hf : f.length ≤ 1000000000) (ht : t.length ≤ 1000000000) : Ev (fun k => laws_eqAutomaton.f k n s f t n s f t) true:=by
 refine Ev.congr (f:=?f1) (fun k => ?h1) ?k1
 case h1 => unfold laws_eqAutomaton.f;rw [if_pos rfl] <;> exact rfl
 refine Ev.bind (eqIntS_ev s s hs) (Ev_t (by simp) (Ev.bind (eqIntS_ev f f hf) (Ev_t (by simp) (Ev.bind (eqStepS_ev t ht) (Ev_t rfl (Ev.now _))))))
theorem szIntS_eq (l : List Int) (z : Int) (h : l.length ≤ maxLen) (h0 : 0 ≤ z) (h1 : z ≤ 1048576) : laws_szIntS.f l z = some (if (l.length : Int) ≤ z then z - l.length else -1):=by
 rw [maxLen_eq] at h
 unfold laws_szIntS.f
 rw [w64 (by omega) (by omega)]
 by_cases hl : (l.length : Int) ≤ z
 ·rw [if_neg (by omega),if_pos hl]
 ·rw [if_pos (by omega),if_neg hl]
theorem szStepS_ev (l : List Stp) (h : l.length ≤ maxLen) (hx : ∀ x ∈ l,x.f1.size ≤ maxLen) (z : Int) (h0 : 0 ≤ z) (h1 : z ≤ 1048576) : ∃ r : Int,Ev (fun k => laws_szStepS.f k l z) r ∧ (r < 0 ∨ (0 ≤ r ∧ r ≤ z ∧ l.length ≤ z)):=by
 rw [maxLen_eq] at h
 by_cases hl : (l.length : Int) ≤ z
 ·have go : ∀ (t pre : List Stp) (y : Int),l = pre ++ t → 0 ≤ y → y ≤ z → ∃ r : Int,Ev (fun k => laws_szStepS.l0 k l y (pre.length : Int)) r ∧ (r < 0 ∨ (0 ≤ r ∧ r ≤ z)):=by
   intro t
   induction t with
   | nil =>
    intro pre y hp hy hz
    refine ⟨y,Ev.step (f:=fun _ => some y) (fun k => ?_) (Ev.now _),.inr ⟨hy,hz⟩⟩
    simp only [laws_szStepS.l0]
    rw [if_neg (by rw [hp];simp)]
   | cons x t ih =>
    intro pre y hp hy hz
    have hlen : l.length = pre.length + (t.length + 1):=by rw [hp];simp
    have hr : rdT l (pre.length : Int) = x:=by rw [hp,rdL_mid]
    have hm:=hx x (by rw [hp];simp)
    rw [maxLen_eq] at hm
    have hw : wrap64 (y - (x.f1.size : Int)) = y - x.f1.size:=w64 (by omega) (by omega)
    by_cases hq : y - x.f1.size < 0
    ·refine ⟨-1,Ev.step (f:=fun _ => some (-1)) (fun k => ?_) (Ev.now _),.inl (by omega)⟩
     simp only [laws_szStepS.l0,laws_szStep.f]
     rw [if_pos (by omega),if_pos (by omega),hr,hw,if_pos hq,Option.bind_some,if_pos (by omega)]
    ·obtain ⟨r,e,c⟩:=ih (pre ++ [x]) (y - x.f1.size) (by simp [hp]) (by omega) (by omega)
     refine ⟨r,Ev.step (fun k => ?_) e,c⟩
     simp only [laws_szStepS.l0,laws_szStep.f]
     rw [if_pos (by omega),if_pos (by omega),hr,hw,if_neg hq,Option.bind_some,if_neg hq,w64 (by omega) (by omega),snocA]
  obtain ⟨r,e,c⟩:=go l [] (z - l.length) rfl (by omega) (by omega)
  refine ⟨r,Ev.congr (fun k => ?_) e,c.imp id (fun c => ⟨c.1,c.2,by omega⟩)⟩
  unfold laws_szStepS.f
  rw [w64 (by omega) (by omega),if_neg (by omega)];rfl
 ·refine ⟨-1,Ev.congr (f:=fun _ => some (-1)) (fun k => ?_) (Ev.now _),.inl (by omega)⟩
  unfold laws_szStepS.f
  rw [w64 (by omega) (by omega),if_pos (by omega)]
theorem szAutomaton_ev (n : Int) (s f : List Int) (t : List Stp) (hs : s.length ≤ maxLen) (hf : f.length ≤ maxLen) (ht : t.length ≤ maxLen) (hx : ∀ x ∈ t,x.f1.size ≤ maxLen) (z : Int) (h0 : 0 ≤ z) (h1 : z ≤ 1048576) :
  ∃ r : Int,Ev (fun k => laws_szAutomaton.f k n s f t z) r ∧ (r < 0 ∨ (0 ≤ r ∧ r ≤ z ∧ s.length ≤ 1048576 ∧ f.length ≤ 1048576 ∧ t.length ≤ 1048576)):=by
 by_cases a1 : (s.length : Int) ≤ z
 case neg => exact ⟨-1,Ev.congr (f:=fun _ => some (-1)) (fun k => by unfold laws_szAutomaton.f;rw [szIntS_eq s z hs h0 h1,if_neg a1,Option.bind_some,if_pos (by omega)]) (Ev.now _),.inl (by omega)⟩
 by_cases a2 : (f.length : Int) ≤ z - s.length
 case neg => exact ⟨-1,Ev.congr (f:=fun _ => some (-1)) (fun k => by unfold laws_szAutomaton.f;rw [szIntS_eq s z hs h0 h1,if_pos a1,Option.bind_some,if_neg (by omega),szIntS_eq f _ hf (by omega) (by omega),if_neg a2,Option.bind_some,if_pos (by omega)]) (Ev.now _),.inl (by omega)⟩
 obtain ⟨r,e,c⟩:=szStepS_ev t ht hx (z - s.length - f.length) (by omega) (by omega)
 by_cases hr : r < 0
 ·refine ⟨-1,?_,.inl (by omega)⟩
  unfold laws_szAutomaton.f
  simp only [szIntS_eq s z hs h0 h1,if_pos a1,Option.bind_some,if_neg (show ¬ z - (s.length : Int) < 0 by omega),szIntS_eq f (z - (s.length : Int)) hf (by omega) (by omega),if_pos a2,if_neg (show ¬ z - (s.length : Int) - (f.length : Int) < 0 by omega)]
  exact Ev.bind e (Ev_t hr (Ev.now _))
 ·have c:=c.resolve_left hr
  refine ⟨r,?_,.inr ⟨c.1,by omega,by omega,by omega,by omega⟩⟩
  unfold laws_szAutomaton.f
  simp only [szIntS_eq s z hs h0 h1,if_pos a1,Option.bind_some,if_neg (show ¬ z - (s.length : Int) < 0 by omega),szIntS_eq f (z - (s.length : Int)) hf (by omega) (by omega),if_pos a2,if_neg (show ¬ z - (s.length : Int) - (f.length : Int) < 0 by omega)]
  exact Ev.bind e (Ev_f hr (Ev.now _))
def count : Int → Nat → List Int
 | _,0 => []
 | k,n + 1 => k :: count (k + 1) n
theorem count_length (n : Nat) : ∀ k,(count k n).length = n:=by induction n with
 | zero => intro k;rfl
 | succ n ih => intro k;simp [count,ih]
theorem markIntS_ev (l : List Int) (c : Int) (h : l.length ≤ 1000000000) (h0 : 0 ≤ c) (h1 : c ≤ 1000000000) : Ev (fun k => laws_markIntS.f k l c) (c + l.length,count c l.length):=by
 have go : ∀ (t pre : List Int) (m : Int),pre.length + t.length = l.length → m = c + pre.length → Ev (fun k => laws_markIntS.l0 k (pre ++ t) m (pre.length : Int)) (c + l.length,pre ++ count m t.length):=by
  intro t
  induction t with
  | nil =>
   intro pre m hl hm
   refine Ev.step (f:=fun _ => some (m,pre)) (fun k => ?_) ((Ev.now _).is ?_)
   ·simp only [laws_markIntS.l0];rw [if_neg (by simp)];simp
   ·simp at hl;simp [count];omega
  | cons x t ih =>
   intro pre m hl hm
   simp at hl
   have i:=ih (pre ++ [m]) (m + 1) (by simp;omega) (by simp;omega)
   refine Ev.step (fun k => ?_) (i.is (by simp [count]))
   simp only [laws_markIntS.l0]
   rw [if_pos (by simp;omega),if_pos (by omega),w64 (by omega) (by omega),w64 (by omega) (by omega),snoc_len]
   congr 1
   simp [List.set_append]
 exact (go l [] c (by simp) (by simp))
theorem heldIntS_ev (n : Nat) (c : Int) (h : n ≤ 1000000000) (h0 : 0 ≤ c) (h1 : c ≤ 1000000000) : Ev (fun k => laws_heldIntS.f k (count c n) c) (c + n):=by
 have go : ∀ (m : Nat) (pre : List Int) (z : Int),pre.length + m = n → z = c + pre.length → Ev (fun k => laws_heldIntS.l0 k (pre ++ count z m) z (pre.length : Int)) (c + n):=by
  intro m
  induction m with
  | zero =>
   intro pre z hl hz
   refine Ev.step (f:=fun _ => some z) (fun k => ?_) ((Ev.now _).is (by omega))
   simp only [laws_heldIntS.l0];rw [if_neg (by simp [count])]
  | succ m ih =>
   intro pre z hl hz
   have i:=ih (pre ++ [z]) (z + 1) (by simp;omega) (by simp;omega)
   show Ev (fun k => laws_heldIntS.l0 k (pre ++ z :: count (z + 1) m) z (pre.length : Int)) (c + n)
   refine Ev.step (fun k => ?_) i
   simp only [laws_heldIntS.l0]
   rw [if_pos (by simp [count_length];omega),if_pos (by omega),if_pos (by rw [rd_mid]),w64 (by omega) (by omega),w64 (by omega) (by omega),snoc_len]
   simp
 exact go n [] c (by simp) (by simp)
theorem markText_ev (c : Int) (h0 : 1 ≤ c) (h1 : c ≤ 1000000000) : ∃ r,Ev (fun k => laws_markText.f k c) r:=by
 have go : ∀ (d : Nat) (x : Int) (s : ByteArray),0 ≤ x → x.toNat ≤ d → s.size + d ≤ 2000000000 → ∃ r,Ev (fun k => laws_markText.l0 k x s) r:=by
  intro d
  induction d with
  | zero =>
   intro x s hx hd hs
   refine ⟨_,Ev.step (f:=fun _ => some ((⟨#[109]⟩ : ByteArray) ++ s)) (fun k => ?_) (Ev.now _)⟩
   simp only [laws_markText.l0];rw [if_neg (by omega),if_pos (by omega)]
  | succ d ih =>
   intro x s hx hd hs
   by_cases hx0 : x > 0
   ·have e1 : Int.tdiv x 10 = x / 10:=Int.tdiv_eq_ediv_of_nonneg (by omega)
    have hz : (strOfNums [(wrap64 (48 + (Int.tmod x 10))) % 256]).size = 1:=rfl
    obtain ⟨r,hr⟩:=ih (x / 10) (strOfNums [(wrap64 (48 + (Int.tmod x 10))) % 256] ++ s) (by omega) (by omega) (by rw [ByteArray.size_append,hz];omega)
    refine ⟨r,Ev.step (fun k => ?_) hr⟩
    simp only [laws_markText.l0]
    rw [if_pos hx0,hz,if_pos (by omega),e1,w64 (x:=x / 10) (by omega) (by omega)]
   ·refine ⟨_,Ev.step (f:=fun _ => some ((⟨#[109]⟩ : ByteArray) ++ s)) (fun k => ?_) (Ev.now _)⟩
    simp only [laws_markText.l0];rw [if_neg hx0,if_pos (by omega)]
 obtain ⟨r,hr⟩:=go c.toNat c ⟨#[]⟩ (by omega) (Nat.le_refl _) (by show 0 + c.toNat ≤ 2000000000;omega)
 exact ⟨r,Ev.congr (fun k => by unfold laws_markText.f;rw [if_neg (by omega)]) hr⟩
theorem markStepS_ev (l : List Stp) (c : Int) (h : l.length ≤ 20000000) (h0 : 1 ≤ c) (h1 : c ≤ 20000000) : ∃ l',Ev (fun k => laws_markStepS.f k l c) (c + 4 * l.length,l'):=by
 have go : ∀ (d : Nat) (m : List Stp) (i : Nat) (z : Int),m.length = l.length → i + d = l.length → z = c + 4 * i → ∃ l',Ev (fun k => laws_markStepS.l0 k m z (i : Int)) (c + 4 * l.length,l'):=by
  intro d
  induction d with
  | zero =>
   intro m i z hm hi hz
   refine ⟨m,Ev.step (f:=fun _ => some (z,m)) (fun k => ?_) ((Ev.now _).is (by rw [hz];congr 1;omega))⟩
   simp only [laws_markStepS.l0];rw [if_neg (by omega)]
  | succ d ih =>
   intro m i z hm hi hz
   obtain ⟨r,hr⟩:=markText_ev (z + 1) (by omega) (by omega)
   have i1 : (i : Int) < (m.length : Int):=by omega
   have i2 : 0 ≤ (i : Int):=by omega
   have key : ∀ m' : List Stp,m'.length = l.length → ∃ l',Ev (fun k => laws_markStepS.l0 k m' (z + 1 + 1 + 1 + 1) ((i + 1 : Nat) : Int)) (c + 4 * l.length,l'):=fun m' hm' => ih m' (i + 1) (z + 1 + 1 + 1 + 1) hm' (by omega) (by rw [hz];push_cast;omega)
   have hw1 : wrap64 (z + 1) = z + 1:=w64 (by omega) (by omega)
   have hw2 : wrap64 (z + 1 + 1) = z + 1 + 1:=w64 (by omega) (by omega)
   have hw3 : wrap64 (z + 1 + 1 + 1) = z + 1 + 1 + 1:=w64 (by omega) (by omega)
   have hw4 : wrap64 (z + 1 + 1 + 1 + 1) = z + 1 + 1 + 1 + 1:=w64 (by omega) (by omega)
   have hw5 : wrap64 ((i : Int) + 1) = ((i + 1 : Nat) : Int):=by rw [w64 (by omega) (by omega)];rfl
   have pS : ∀ {f g : Nat → Option (Int × List Stp)},(∀ k,f (k + 1) = g k) → (∃ l',Ev g (c + 4 * l.length,l')) → ∃ l',Ev f (c + 4 * l.length,l'):=fun h e => e.elim fun l' e => ⟨l',Ev.step h e⟩
   have pB : ∀ {α : Type} {f : Nat → Option α} {a : α} {g : Nat → α → Option (Int × List Stp)},Ev f a → (∃ l',Ev (fun k => g k a) (c + 4 * l.length,l')) → ∃ l',Ev (fun k => (f k).bind (g k)) (c + 4 * l.length,l'):=fun h e => e.elim fun l' e => ⟨l',Ev.bind h e⟩
   refine pS (fun k => by simp only [laws_markStepS.l0];rw [if_pos i1,if_pos i2,hw1] <;> exact rfl) ?_
   refine pB hr ?_
   simp only [List.length_set,if_pos i1,hw1,hw2,hw3,hw4,hw5]
   exact key _ (by simp only [List.length_set];exact hm)
 exact go l.length l 0 c rfl (by omega) (by simp)
theorem markAutomaton_ev (n : Int) (s f : List Int) (t : List Stp) (hs : s.length ≤ 1048576) (hf : f.length ≤ 1048576) (ht : t.length ≤ 1048576) : ∃ (z : Int) (s' f' : List Int) (t' : List Stp),Ev (fun k => laws_markAutomaton.f k n s f t 1) (z,s',f',t') ∧ 1 ≤ z ∧ z ≤ 20000000:=by
 obtain ⟨t',h⟩:=markStepS_ev t (1 + s.length + f.length) (by omega) (by omega) (by omega)
 refine ⟨1 + s.length + f.length + 4 * t.length,count 1 s.length,count (1 + s.length) f.length,t',?_,by omega,by omega⟩
 unfold laws_markAutomaton.f
 exact Ev.bind (markIntS_ev s 1 (by omega) (by omega) (by omega)) (Ev.bind (markIntS_ev f (1 + s.length) (by omega) (by omega) (by omega)) (Ev.bind h (Ev.now _)))
theorem bless : ∀ (a b : List UInt8),Op.bytesLess a b = decide (Lib.compareBytes a b < 0)
 | [],[] => rfl
 | [],_ :: _ => rfl
 | _ :: _,[] => rfl
 | a :: x,b :: y => by
  have e : Lib.compareBytes (a :: x) (b :: y) = if a < b then -1 else if b < a then 1 else Lib.compareBytes x y:=rfl
  by_cases h1 : a < b
  ·have h2 : Op.bytesLess (a :: x) (b :: y) = true:=by simp [Op.bytesLess,h1]
   exact h2.trans (decide_eq_true (by rw [e,if_pos h1];decide)).symm
  ·by_cases h2 : b < a
   ·have h3 : (a == b) = false:=by
     rw [beq_eq_false_iff_ne]
     rintro rfl
     exact h1 h2
    have h4 : Op.bytesLess (a :: x) (b :: y) = false:=by simp [Op.bytesLess,h1,h3]
    exact h4.trans (decide_eq_false (by rw [e,if_neg h1,if_pos h2];decide)).symm
   ·have q : a = b:=UInt8.le_antisymm (UInt8.not_lt.1 h2) (UInt8.not_lt.1 h1)
    subst q
    have h4 : Op.bytesLess (a :: x) (a :: y) = Op.bytesLess x y:=by simp [Op.bytesLess,h1]
    refine h4.trans ((bless x y).trans (decide_eq_decide.2 ?_))
    rw [e,if_neg h1,if_neg h1]
theorem bef_ord (s t : Stp) : bef s t = decide (ordT s t < 0):=by
 have e1:=toList_L s.f1
 have e2:=toList_L t.f1
 unfold L at e1 e2
 unfold bef
 by_cases h : s.f0 = t.f0
 ·rw [if_pos h]
  by_cases g : s.f1.toList = t.f1.toList
  ·rw [if_pos g]
   refine decide_eq_decide.2 ?_
   rw [ordT_lt,e1.symm.trans (g.trans e2),cB_refl]
   constructor
   ·exact fun q => .inr ⟨h,.inr ⟨rfl,q⟩⟩
   ·rintro (q | ⟨_,q | ⟨_,q⟩⟩)
    ·omega
    ·omega
    ·exact q
  ·rw [if_neg g,bless]
   refine decide_eq_decide.2 ?_
   rw [ordT_lt,e1,e2]
   constructor
   ·exact fun q => .inr ⟨h,.inl q⟩
   ·rintro (q | ⟨_,q | ⟨q,_⟩⟩)
    ·omega
    ·exact q
    ·exact absurd (e1.trans (q.trans e2.symm)) g
 ·rw [if_neg h]
  refine decide_eq_decide.2 ?_
  rw [ordT_lt]
  constructor
  ·exact .inl
  ·rintro (q | ⟨q,_⟩)
   ·exact q
   ·exact absurd q h
def ascT (t : List Stp) : Prop:=t.Pairwise fun x y => ordT x y < 0
def ascI (l : List Int) : Prop:=l.Pairwise fun x y => x < y
theorem stp_asc {n : Int} : ∀ {t : List Stp} {p : Option Stp},stp n p t = true ↔ (∀ x ∈ t,stepOk n x = true) ∧ ascT t ∧ ∀ y,p = some y → ∀ x ∈ t,ordT y x < 0
 | [],p => by simp [stp,ascT]
 | x :: t,p => by
  simp only [stp,Bool.and_eq_true,stp_asc (t:=t) (p:=some x),ascT,List.pairwise_cons,List.mem_cons,forall_eq_or_imp]
  constructor
  ·rintro ⟨⟨h1,h2⟩,h3,h4,h5⟩
   refine ⟨⟨h1,h3⟩,⟨h5 x rfl,h4⟩,?_⟩
   rintro y rfl
   simp only [bef_ord,decide_eq_true_eq] at h2
   exact ⟨h2,fun z hz => ordT_trans h2 (h5 x rfl z hz)⟩
  ·rintro ⟨⟨h1,h3⟩,⟨h4,h5⟩,h6⟩
   refine ⟨⟨h1,?_⟩,h3,h5,fun y hy => by cases hy;exact h4⟩
   cases p with
   | none => rfl
   | some y => simp only [bef_ord,decide_eq_true_eq];exact (h6 y rfl).1
theorem mrk_asc {n : Int} : ∀ {t : List Int} {p : Option Int},mrk n p t = true ↔ (∀ x ∈ t,0 ≤ x ∧ x < n) ∧ ascI t ∧ ∀ y,p = some y → ∀ x ∈ t,y < x
 | [],p => by simp [mrk,ascI]
 | x :: t,p => by
  simp only [mrk,Bool.and_eq_true,mrk_asc (t:=t) (p:=some x),ascI,List.pairwise_cons,List.mem_cons,forall_eq_or_imp,decide_eq_true_eq]
  constructor
  ·rintro ⟨⟨h1,h2⟩,h3,h4,h5⟩
   refine ⟨⟨h1,h3⟩,⟨h5 x rfl,h4⟩,?_⟩
   rintro y rfl
   simp only [decide_eq_true_eq] at h2
   exact ⟨h2,fun z hz => Int.lt_trans h2 (h5 x rfl z hz)⟩
  ·rintro ⟨⟨h1,h3⟩,⟨h4,h5⟩,h6⟩
   refine ⟨⟨h1,?_⟩,h3,h5,fun y hy => by cases hy;exact h4⟩
   cases p with
   | none => rfl
   | some y => simp only [decide_eq_true_eq];exact (h6 y rfl).1
theorem asc_ne {t : List Stp} (h : ascT t) {x y : Stp} (hx : x ∈ t) (hy : y ∈ t) (e : ordT x y = 0) : x = y:=by
 induction t with
 | nil => cases hx
 | cons z t ih =>
  unfold ascT at h
  rw [List.pairwise_cons] at h
  rcases List.mem_cons.1 hx with q1|q1
  ·rcases List.mem_cons.1 hy with q2|q2
   ·rw [q1,q2]
   ·have:=h.1 y q2;rw [← q1] at this;omega
  ·rcases List.mem_cons.1 hy with q2|q2
   ·have:=h.1 x q1
    have:=ordT_neg x y
    rw [← q2] at *
    omega
   ·exact ih h.2 q1 q2
theorem sortT_of {u t : List Stp} (h : ascT u) (p : u.Perm t) : sortT t = u:=by
 refine List.Perm.eq_of_pairwise (le:=fun x y => ¬ ordT y x < 0) (fun x y hx hy q1 q2 => ?_) (sortT_sorted t) (h.imp fun {x y} q => ?_) ((sortT_perm t).trans p.symm)
 ·have hx : x ∈ u:=p.symm.subset ((sortT_perm t).subset hx)
  have:=ordT_neg x y
  exact asc_ne h hx hy (by omega)
 ·have:=ordT_neg x y
  omega
theorem sortT_id {t : List Stp} (h : ascT t) : sortT t = t:=sortT_of h (.refl _)
theorem sortI_of {u t : List Int} (h : ascI u) (p : u.Perm t) : sortI t = u:=by
 refine List.Perm.eq_of_pairwise (le:=fun x y => x ≤ y) (fun x y _ _ q1 q2 => Int.le_antisymm q1 q2) (sortI_sorted t) (h.imp fun {x y} q => Int.le_of_lt q) ((sortI_perm t).trans p.symm)
theorem sortI_id {t : List Int} (h : ascI t) : sortI t = t:=sortI_of h (.refl _)
def putL : List Stp → Stp → List Stp
 | [],s => [s]
 | y :: l,s => if bef y s = true then y :: putL l s else if bef s y = true then s :: y :: l else ⟨y.f0,y.f1,y.f2,mn y.f3 s.f3⟩ :: l
theorem putL_len : ∀ (l : List Stp) (s : Stp),(putL l s).length ≤ l.length + 1
 | [],s => Nat.le_refl _
 | y :: l,s => by
  simp only [putL]
  split
  ·have:=putL_len l s;simp only [List.length_cons];omega
  ·split <;> simp
theorem ord_mn (y s x : Stp) : ordT ⟨y.f0,y.f1,y.f2,mn y.f3 s.f3⟩ x = ordT y x:=rfl
theorem putL_mem {l : List Stp} {s z : Stp} (h : z ∈ putL l s) : ordT s z = 0 ∨ ∃ x ∈ l,ordT x z = 0:=by
 have rf : ∀ a : Stp,ordT a a = 0:=fun a => ordT_zero.2 ⟨rfl,rfl,rfl⟩
 induction l with
 | nil =>
  simp only [putL,List.mem_singleton] at h
  subst h
  exact .inl (rf _)
 | cons y l ih =>
  simp only [putL] at h
  split at h
  ·rcases List.mem_cons.1 h with rfl|h
   ·exact .inr ⟨_,List.mem_cons_self ..,rf _⟩
   ·rcases ih h with q | ⟨x,q1,q2⟩
    ·exact .inl q
    ·exact .inr ⟨x,List.mem_cons_of_mem _ q1,q2⟩
  ·split at h
   ·rcases List.mem_cons.1 h with rfl|h
    ·exact .inl (rf _)
    ·exact .inr ⟨z,h,rf _⟩
   ·rcases List.mem_cons.1 h with rfl|h
    ·exact .inr ⟨y,List.mem_cons_self ..,by rw [ordT_zero];exact ⟨rfl,rfl,rfl⟩⟩
    ·exact .inr ⟨z,List.mem_cons_of_mem _ h,rf _⟩
theorem ord_same2 {y z s : Stp} (h : ordT s z = 0) : ordT y z = ordT y s:=by
 have a:=ordT_same (u:=y) h
 have b:=ordT_neg y z
 have c:=ordT_neg y s
 omega
theorem putL_asc {l : List Stp} (h : ascT l) (s : Stp) : ascT (putL l s):=by
 induction l with
 | nil => simp [putL,ascT]
 | cons y l ih =>
  unfold ascT at h ih ⊢
  rw [List.pairwise_cons] at h
  simp only [putL,bef_ord,decide_eq_true_eq]
  split
  ·rename_i q
   rw [List.pairwise_cons]
   refine ⟨fun z hz => ?_,ih h.2⟩
   rcases putL_mem hz with e | ⟨x,hx,e⟩
   ·rw [ord_same2 e];exact q
   ·rw [ord_same2 e];exact h.1 x hx
  ·split
   ·rename_i q
    rw [List.pairwise_cons,List.pairwise_cons]
    refine ⟨fun z hz => ?_,h.1,h.2⟩
    rcases List.mem_cons.1 hz with rfl|hz
    ·exact q
    ·exact ordT_trans q (h.1 z hz)
   ·rw [List.pairwise_cons]
    exact ⟨fun z hz => by rw [ord_mn];exact h.1 z hz,h.2⟩
theorem putL_perm {l : List Stp} {s : Stp} (h : ∀ y ∈ l,ordT y s ≠ 0) : (putL l s).Perm (s :: l):=by
 induction l with
 | nil => exact .refl _
 | cons y l ih =>
  simp only [putL,bef_ord,decide_eq_true_eq]
  split
  ·exact ((ih fun z hz => h z (List.mem_cons_of_mem _ hz)).cons y).trans (.swap ..)
  ·split
   ·exact .refl _
   ·have:=h y (List.mem_cons_self ..)
    have:=ordT_neg y s
    omega
def putAll (l u : List Stp) : List Stp:=u.foldl putL l
theorem putAll_len : ∀ (u l : List Stp),(putAll l u).length ≤ l.length + u.length
 | [],l => Nat.le_refl _
 | x :: u,l => by
  have h1:=putAll_len u (putL l x)
  have h2:=putL_len l x
  simp only [putAll,List.foldl_cons,List.length_cons] at *
  omega
theorem putAll_perm : ∀ (u l : List Stp),(l ++ u).Pairwise (fun x y => ordT x y ≠ 0) → (putAll l u).Perm (l ++ u)
 | [],l,_ => by rw [List.append_nil];exact .refl _
 | x :: u,l,h => by
  have hl : ∀ y ∈ l,ordT y x ≠ 0:=fun y hy => (List.pairwise_append.1 h).2.2 y hy x (List.mem_cons_self ..)
  have p:=putL_perm hl
  have e : (putL l x ++ u).Perm (l ++ x :: u):=(p.append_right u).trans (List.perm_middle.symm)
  refine (putAll_perm u (putL l x) ?_).trans e
  exact (e.pairwise_iff (fun {a b} q => by have:=ordT_neg a b;omega)).2 h
theorem putAll_asc : ∀ (u l : List Stp),ascT l → ascT (putAll l u)
 | [],l,h => h
 | x :: u,l,h => putAll_asc u (putL l x) (putL_asc h x)
theorem sortT_put {u : List Stp} (h : u.Pairwise fun x y => ordT x y ≠ 0) : sortT u = putAll [] u :=
 sortT_of (putAll_asc u [] List.Pairwise.nil) (by simpa using putAll_perm u [] (by simpa using h))
abbrev At5:=Int × List Int × List Int × List Stp × Bool
def wholeR (n : Int) (s f : List Int) (t : List Stp) : At5:=if AV n s f t = true then (n,s,f,t,true) else (0,[],[],[],false)
theorem made_ev (n : Int) (s f : List Int) (t : List Stp) (hs : s.length ≤ 1000000) (hf : f.length ≤ 1000000) (ht : t.length ≤ 1000000) : Ev (fun k => impl_made.f k n s f t) (wholeR n (sortI s) (sortI f) (sortT t)):=by
 have l1:=sortI_length s
 have l2:=sortI_length f
 have l3:=sortT_length t
 unfold impl_made.f wholeR slices_Clone_int_int.f slices_Clone_impl_Step_impl_Step.f slices_Sort_int_int.f slices_SortFunc_impl_Step_impl_Step.f
 simp only [if_pos (show s.length ≤ 1000000000 from by omega),if_pos (show f.length ≤ 1000000000 from by omega),if_pos (show t.length ≤ 1000000000 from by omega),Option.bind_some]
 refine Ev.bind (iAV n (sortI s) (sortI f) (sortT t) (by omega) (by omega) (by omega)) ?_
 by_cases h : AV n (sortI s) (sortI f) (sortT t) = true
 ·exact (Ev_t h (Ev.now _)).is (if_pos h).symm
 ·exact (Ev_f h (Ev.now _)).is (if_neg h).symm
theorem AV_iff {n : Int} {s f : List Int} {t : List Stp} : AV n s f t = true ↔ (1 ≤ n ∧ n ≤ 4 ∧ t.length ≤ 24) ∧ ((∀ x ∈ s,0 ≤ x ∧ x < n) ∧ ascI s) ∧ ((∀ x ∈ f,0 ≤ x ∧ x < n) ∧ ascI f) ∧ (∀ x ∈ t,stepOk n x = true) ∧ ascT t:=by
 unfold AV
 simp only [Bool.and_eq_true,decide_eq_true_eq,mrk_asc,stp_asc]
 constructor
 ·rintro ⟨⟨⟨h1,h2,h3,_⟩,h4,h5,_⟩,h6,h7,_⟩
  exact ⟨h1,⟨h2,h3⟩,⟨h4,h5⟩,h6,h7⟩
 ·rintro ⟨h1,⟨h2,h3⟩,⟨h4,h5⟩,h6,h7⟩
  exact ⟨⟨⟨h1,h2,h3,fun y q => by cases q⟩,h4,h5,fun y q => by cases q⟩,h6,h7,fun y q => by cases q⟩
theorem asc_count {n : Int} : ∀ (l : List Int) (lo : Int),(∀ x ∈ l,lo ≤ x ∧ x < n) → ascI l → (l.length : Int) ≤ max 0 (n - lo)
 | [],lo,_,_ => by simp only [List.length_nil];omega
 | x :: l,lo,h,hs => by
  unfold ascI at hs
  rw [List.pairwise_cons] at hs
  have h0:=h x (List.mem_cons_self ..)
  have:=asc_count l (x + 1) (fun y hy => ⟨by have:=hs.1 y hy;omega,(h y (List.mem_cons_of_mem _ hy)).2⟩) hs.2
  simp only [List.length_cons]
  omega
theorem AV_len {n : Int} {s f : List Int} {t : List Stp} (h : AV n s f t = true) : s.length ≤ 4 ∧ f.length ≤ 4 ∧ t.length ≤ 24:=by
 obtain ⟨h1,⟨h2,h3⟩,⟨h4,h5⟩,h6,h7⟩:=AV_iff.1 h
 have a:=asc_count s 0 h2 h3
 have b:=asc_count f 0 h4 h5
 omega
theorem set_mid (pre : List Stp) (x y : Stp) (u : List Stp) : (pre ++ x :: u).set pre.length y = pre ++ y :: u:=by
 rw [List.set_append_right _ _ (Nat.le_refl _),Nat.sub_self,List.set_cons_zero]
noncomputable def mtx (c : Int) : ByteArray:=if h : 1 ≤ c ∧ c ≤ 1000000000 then Classical.choose (markText_ev c h.1 h.2) else ⟨#[]⟩
theorem mtx_ev (c : Int) (h : 1 ≤ c ∧ c ≤ 1000000000) : Ev (fun k => laws_markText.f k c) (mtx c):=by
 unfold mtx
 rw [dif_pos h]
 exact Classical.choose_spec (markText_ev c h.1 h.2)
noncomputable def countT : Int → Nat → List Stp
 | _,0 => []
 | c,n + 1 => ⟨c,mtx (c + 1),c + 2,c + 3⟩ :: countT (c + 4) n
theorem countT_length (n : Nat) : ∀ c,(countT c n).length = n:=by
 induction n with
 | zero => exact fun c => rfl
 | succ n ih => exact fun c => by simp [countT,ih]
theorem markT_ev (l : List Stp) (c : Int) (h : l.length ≤ 2000000) (h0 : 1 ≤ c) (h1 : c ≤ 30000000) : Ev (fun k => laws_markStepS.f k l c) (c + 4 * l.length,countT c l.length):=by
 have go : ∀ (u pre : List Stp) (z : Int),pre.length + u.length ≤ 2000000 → 1 ≤ z → z + 4 * u.length ≤ 50000000 → Ev (fun k => laws_markStepS.l0 k (pre ++ u) z (pre.length : Int)) (z + 4 * u.length,pre ++ countT z u.length):=by
  intro u
  induction u with
  | nil =>
   intro pre z hl hz hz2
   refine Ev.step (f:=fun _ => some (z,pre ++ [])) (fun k => ?_) ((Ev.now _).is (by simp [countT]))
   simp only [laws_markStepS.l0];rw [if_neg (by simp)]
  | cons x u ih =>
   intro pre z hl hz hz2
   simp only [List.length_cons] at hl hz2
   have hw1 : wrap64 (z + 1) = z + 1:=w64 (by omega) (by omega)
   have hw2 : wrap64 (z + 1 + 1) = z + 1 + 1:=w64 (by omega) (by omega)
   have hw3 : wrap64 (z + 1 + 1 + 1) = z + 1 + 1 + 1:=w64 (by omega) (by omega)
   have hw4 : wrap64 (z + 1 + 1 + 1 + 1) = z + 1 + 1 + 1 + 1:=w64 (by omega) (by omega)
   have hw5 : wrap64 ((pre.length : Int) + 1) = ((pre.length + 1 : Nat) : Int):=by rw [w64 (by omega) (by omega)];rfl
   have i1:=ih (pre ++ [⟨z,mtx (z + 1),z + 2,z + 3⟩]) (z + 4) (by rw [List.length_append,List.length_singleton];omega) (by omega) (by omega)
   have a0 : ∀ y : Stp,(pre.length : Int) < ((pre ++ y :: u).length : Int):=fun y => by simp only [List.length_append,List.length_cons];omega
   refine Ev.step (f:=?_) (fun k => ?_) ?_
   rotate_left 1
   ·simp only [laws_markStepS.l0]
    rw [if_pos (a0 x),if_pos (Int.natCast_nonneg _)]
   ·refine Ev.bind (by rw [hw1];exact mtx_ev (z + 1) (by omega)) ?_
    simp only [Int.toNat_natCast,set_mid,rdS_mid,hw1,hw2,hw3,hw4,hw5]
    refine Ev_t (a0 _) (Ev_t (a0 _) (Ev_t (a0 _) ?_))
    have e2 : z + 1 + 1 = z + 2:=by omega
    have e3 : z + 1 + 1 + 1 = z + 3:=by omega
    have e4 : z + 1 + 1 + 1 + 1 = z + 4:=by omega
    rw [e4,e3,e2]
    rw [List.length_append,List.length_singleton,List.append_assoc,List.append_assoc] at i1
    refine i1.is ?_
    refine Prod.ext ?_ ?_
    ·show z + 4 + 4 * (u.length : Int) = z + 4 * ((u.length + 1 : Nat) : Int)
     omega
    ·simp [countT]
 exact go l [] c (by simpa using h) h0 (by omega)
theorem heldT_ev (n : Nat) (c : Int) (h : n ≤ 2000000) (h0 : 1 ≤ c) (h1 : c ≤ 20000000) : Ev (fun k => laws_heldStepS.f k (countT c n) c) (c + 4 * n):=by
 have go : ∀ (m : Nat) (pre : List Stp) (z : Int),pre.length + m ≤ 2000000 → 1 ≤ z → z + 4 * m ≤ 30000000 → Ev (fun k => laws_heldStepS.l0 k (pre ++ countT z m) z (pre.length : Int)) (z + 4 * m):=by
  intro m
  induction m with
  | zero =>
   intro pre z hl hz hz2
   refine Ev.step (f:=fun _ => some z) (fun k => ?_) ((Ev.now _).is (by simp))
   simp only [laws_heldStepS.l0];rw [if_neg (by simp [countT])]
  | succ m ih =>
   intro pre z hl hz hz2
   have hw1 : wrap64 (z + 1) = z + 1:=w64 (by omega) (by omega)
   have hw2 : wrap64 (z + 1 + 1) = z + 1 + 1:=w64 (by omega) (by omega)
   have hw3 : wrap64 (z + 1 + 1 + 1) = z + 1 + 1 + 1:=w64 (by omega) (by omega)
   have hw4 : wrap64 (z + 1 + 1 + 1 + 1) = z + 1 + 1 + 1 + 1:=w64 (by omega) (by omega)
   have hw5 : wrap64 ((pre.length : Int) + 1) = ((pre.length + 1 : Nat) : Int):=by rw [w64 (by omega) (by omega)];rfl
   have i1:=ih (pre ++ [⟨z,mtx (z + 1),z + 2,z + 3⟩]) (z + 4) (by rw [List.length_append,List.length_singleton];omega) (by omega) (by omega)
   rw [List.length_append,List.length_singleton,List.append_assoc] at i1
   have a0 : (pre.length : Int) < ((pre ++ countT z (m + 1)).length : Int):=by simp only [List.length_append,countT_length];omega
   refine Ev.step (f:=?_) (fun k => ?_) ?_
   rotate_left 1
   ·simp only [laws_heldStepS.l0]
    rw [if_pos a0,if_pos (Int.natCast_nonneg _)]
   ·simp only [countT,rdS_mid,hw1]
    refine Ev_t trivial (Ev.bind (mtx_ev (z + 1) (by omega)) ?_)
    simp only [hw2,hw3,hw4,hw5]
    refine Ev_t trivial (Ev_t (by omega) (Ev_t (by omega) ?_))
    rw [show z + 1 + 1 + 1 + 1 = z + 4 from by omega]
    refine i1.is ?_
    omega
 exact go n [] c (by simpa using h) h0 (by omega)
theorem markHeld (n : Int) (s f : List Int) (t : List Stp) (hs : s.length ≤ 1000000) (hf : f.length ≤ 1000000) (ht : t.length ≤ 1000000) : ∃ (z : Int) (s' f' : List Int) (t' : List Stp),
  Ev (fun k => laws_markAutomaton.f k n s f t 1) (z,s',f',t') ∧ Ev (fun k => laws_heldAutomaton.f k n s' f' t' 1) z ∧ 1 ≤ z:=by
 refine ⟨1 + s.length + f.length + 4 * t.length,count 1 s.length,count (1 + s.length) f.length,countT (1 + s.length + f.length) t.length,?_,?_,by omega⟩
 ·unfold laws_markAutomaton.f
  exact Ev.bind (markIntS_ev s 1 (by omega) (by omega) (by omega)) (Ev.bind (markIntS_ev f (1 + s.length) (by omega) (by omega) (by omega)) (Ev.bind (markT_ev t _ (by omega) (by omega) (by omega)) (Ev.now _)))
 ·unfold laws_heldAutomaton.f
  refine Ev.bind (heldIntS_ev s.length 1 (by omega) (by omega) (by omega)) (Ev_f (by omega) (Ev.bind (heldIntS_ev f.length (1 + s.length) (by omega) (by omega) (by omega)) (Ev_f (by omega) (Ev.bind (heldT_ev t.length _ (by omega) (by omega) (by omega)) (Ev_f (by omega) (Ev.now _))))))
theorem Ev_o {α γ : Type} {o : Option γ} {z : γ} {g : Nat → γ → Option α} {r : α} (h : o = some z) (k : Ev (fun n => g n z) r) : Ev (fun n => o.bind (g n)) r:=Ev.congr (fun n => by rw [h];rfl) k
def Sm (r : At5) : Prop:=r.2.1.length ≤ 1000000 ∧ r.2.2.1.length ≤ 1000000 ∧ r.2.2.2.1.length ≤ 1000000
theorem whole_sm {n : Int} {s f : List Int} {t : List Stp} : Sm (wholeR n s f t):=by
 unfold wholeR
 by_cases h : AV n s f t = true
 ·rw [if_pos h]
  have:=AV_len h
  exact ⟨by show s.length ≤ _;omega,by show f.length ≤ _;omega,by show t.length ≤ _;omega⟩
 ·rw [if_neg h];exact ⟨Nat.zero_le _,Nat.zero_le _,Nat.zero_le _⟩
theorem eqR_ev (r : At5) (h : Sm r) : Ev (fun k => laws_eqAutomaton.f k r.1 r.2.1 r.2.2.1 r.2.2.2.1 r.1 r.2.1 r.2.2.1 r.2.2.2.1) true :=
 eqAutomaton_ev r.1 r.2.1 r.2.2.1 r.2.2.2.1 (by have:=h.1;omega) (by have:=h.2.1;omega) (by have:=h.2.2;omega)
theorem ev_list {α γ : Type} {r : γ} (t : List α) (F : List α → Nat → Option γ) (step : ∀ (pre : List α) (x : α) (v : List α),t = pre ++ x :: v → Ev (F (pre ++ [x])) r → Ev (F pre) r) (fin : Ev (F t) r) : Ev (F []) r:=by
 have go : ∀ (v pre : List α),t = pre ++ v → Ev (F pre) r:=by
  intro v
  induction v with
  | nil => intro pre h;rw [List.append_nil] at h;rw [← h];exact fin
  | cons x v ih => intro pre h;exact step pre x v h (ih (pre ++ [x]) (by rw [h];simp))
 exact go t [] rfl
theorem at_T {t pre v : List Stp} {x : Stp} (h : t = pre ++ x :: v) (hl : t.length ≤ 1000000) : (pre.length : Int) < (t.length : Int) ∧ rdT t (pre.length : Int) = x ∧ wrap64 ((pre.length : Int) + 1) = (((pre ++ [x]).length : Nat) : Int):=by
 have e : t.length = pre.length + (v.length + 1):=by rw [h];simp
 refine ⟨by omega,by rw [h,rdS_mid],?_⟩
 rw [w64 (by omega) (by omega)];simp
theorem at_I {t pre v : List Int} {x : Int} (h : t = pre ++ x :: v) (hl : t.length ≤ 1000000) : (pre.length : Int) < (t.length : Int) ∧ rdI t (pre.length : Int) = x ∧ wrap64 ((pre.length : Int) + 1) = (((pre ++ [x]).length : Nat) : Int):=by
 have e : t.length = pre.length + (v.length + 1):=by rw [h];simp
 refine ⟨by omega,by rw [h,rd_mid],?_⟩
 rw [w64 (by omega) (by omega)];simp
def noneR : At5:=(0,[],[],[],false)
theorem none_sm : Sm noneR:=⟨Nat.zero_le _,Nat.zero_le _,Nat.zero_le _⟩
theorem map_asc {g : Stp → Stp} (h : ∀ x y : Stp,ordT x y < 0 → ordT (g x) (g y) < 0) {t : List Stp} (ht : ascT t) : ascT (t.map g):=by
 unfold ascT at *
 rw [List.pairwise_map]
 exact ht.imp fun {a b} q => h a b q
theorem asc_diff {t : List Stp} (h : ascT t) : t.Pairwise fun x y => ordT x y ≠ 0:=h.imp fun {a b} q => by omega
theorem diff_map {g : Stp → Stp} {t : List Stp} (h : ∀ x ∈ t,∀ y ∈ t,ordT (g x) (g y) = 0 → ordT x y = 0) (ht : ascT t) : (t.map g).Pairwise fun x y => ordT x y ≠ 0:=by
 rw [List.pairwise_map]
 unfold ascT at ht
 refine List.Pairwise.imp_of_mem (fun {a b} ha hb q e => ?_) ht
 have:=h a ha b hb e
 omega
theorem markFrom (n : Int) (s f : List Int) (t : List Stp) (hs : s.length ≤ 1048576) (hf : f.length ≤ 1048576) (ht : t.length ≤ 1048576) (c : Int) (h0 : 1 ≤ c) (h1 : c ≤ 20000000) : ∃ (z : Int) (s' f' : List Int) (t' : List Stp),Ev (fun k => laws_markAutomaton.f k n s f t c) (z,s',f',t') ∧ 1 ≤ z ∧ z ≤ 50000000:=by
 refine ⟨c + s.length + f.length + 4 * t.length,count c s.length,count (c + s.length) f.length,countT (c + s.length + f.length) t.length,?_,by omega,by omega⟩
 unfold laws_markAutomaton.f
 exact Ev.bind (markIntS_ev s c (by omega) (by omega) (by omega)) (Ev.bind (markIntS_ev f (c + s.length) (by omega) (by omega) (by omega)) (Ev.bind (markT_ev t _ (by omega) (by omega) (by omega)) (Ev.now _)))
theorem len_flat {α β : Type} (f : α → List β) (b : Nat) : ∀ (l : List α),(∀ x ∈ l,(f x).length ≤ b) → (l.flatMap f).length ≤ b * l.length
 | [],_ => by simp
 | x :: l,h => by
  have h1:=len_flat f b l fun y hy => h y (List.mem_cons_of_mem _ hy)
  have h2:=h x (List.mem_cons_self ..)
  rw [List.flatMap_cons,List.length_append,List.length_cons,Nat.mul_succ]
  omega
end Go.Proofs.Ytoeeeafknajkkaa.V
end
section
set_option linter.unusedVariables false
set_option linter.unusedSimpArgs false
namespace Go.Proofs.Ytoeeeafknajkkaa.V
open Go Go.Proofs.Ytoeeeafknajkkaa.R Go.RowKit
open Go.Proofs.YtoeeeafknajkkaaW.PrintWords hiding mn mx
def upd (b : Int → Bool) (v : Int) : Int → Bool:=fun q => if q = v then true else b q
def wk1 (a c : Stp → Int) (b : Int → Bool) (s : Stp) : Int → Bool:=if b (a s) = true then upd b (c s) else b
def wk (a c : Stp → Int) (t : List Stp) (b : Int → Bool) : Int → Bool:=t.foldl (wk1 a c) b
def itw (a c : Stp → Int) (t : List Stp) : Nat → (Int → Bool) → (Int → Bool)
 | 0,b => b
 | k + 1,b => itw a c t k (wk a c t b)
def ini (l : List Int) : Int → Bool:=l.foldl upd (fun _ => false)
theorem upd_self (b : Int → Bool) (v : Int) : upd b v v = true:=if_pos rfl
theorem upd_mono {b : Int → Bool} {v q : Int} (h : b q = true) : upd b v q = true:=by unfold upd;split <;> first|rfl|exact h
theorem upd_id {b : Int → Bool} {v : Int} (h : b v = true) : upd b v = b:=by
 funext q
 unfold upd
 split
 ·rename_i e;rw [e,h]
 ·rfl
theorem fold_upd (q : Int) : ∀ (l : List Int) (b : Int → Bool),l.foldl upd b q = true ↔ b q = true ∨ q ∈ l
 | [],b => by simp
 | x :: l,b => by
  rw [List.foldl_cons,fold_upd q l]
  unfold upd
  by_cases e : q = x
  ·rw [if_pos e];simp [e]
  ·rw [if_neg e];simp [e]
theorem ini_iff {l : List Int} {q : Int} : ini l q = true ↔ q ∈ l:=by unfold ini;rw [fold_upd];simp
theorem wk1_mono {a c : Stp → Int} {b : Int → Bool} {s : Stp} {q : Int} (h : b q = true) : wk1 a c b s q = true:=by
 unfold wk1
 split
 ·exact upd_mono h
 ·exact h
theorem wk_mono {a c : Stp → Int} {q : Int} : ∀ {t : List Stp} {b : Int → Bool},b q = true → wk a c t b q = true
 | [],_,h => h
 | s :: t,b,h => wk_mono (t:=t) (b:=wk1 a c b s) (wk1_mono h)
theorem wk_step {a c : Stp → Int} {s : Stp} : ∀ {t : List Stp} {b : Int → Bool},s ∈ t → b (a s) = true → wk a c t b (c s) = true
 | x :: t,b,hs,h => by
  rcases List.mem_cons.1 hs with e|hs
  ·subst e
   refine wk_mono (t:=t) (b:=wk1 a c b s) ?_
   unfold wk1
   rw [if_pos h]
   exact upd_self b (c s)
  ·exact wk_step (t:=t) (b:=wk1 a c b x) hs (wk1_mono h)
def Closed (a c : Stp → Int) (t : List Stp) (b : Int → Bool) : Prop := ∀ s ∈ t,b (a s) = true → b (c s) = true
theorem wk_id {a c : Stp → Int} : ∀ {t : List Stp} {b : Int → Bool},Closed a c t b → wk a c t b = b
 | [],_,_ => rfl
 | x :: t,b,h => by
  have e : wk1 a c b x = b:=by
   unfold wk1
   split
   ·rename_i g;exact upd_id (h x (by simp) g)
   ·rfl
  show wk a c t (wk1 a c b x) = b
  rw [e]
  exact wk_id fun s hs => h s (List.mem_cons_of_mem _ hs)
theorem wk_sub {a c : Stp → Int} (P : Int → Prop) : ∀ {t : List Stp} {b : Int → Bool},(∀ s ∈ t,P (a s) → P (c s)) → (∀ q,b q = true → P q) → ∀ q,wk a c t b q = true → P q
 | [],_,_,h,q,g => h q g
 | x :: t,b,ht,h,q,g => by
  refine wk_sub P (t:=t) (b:=wk1 a c b x) (fun s hs => ht s (List.mem_cons_of_mem _ hs)) (fun q g => ?_) q g
  unfold wk1 at g
  split at g
  ·rename_i g2
   unfold upd at g
   split at g
   ·rename_i e;rw [e];exact ht x (by simp) (h _ g2)
   ·exact h q g
  ·exact h q g
def cnt : Nat → (Int → Bool) → Nat
 | 0,_ => 0
 | n + 1,b => cnt n b + (if b (n : Int) = true then 1 else 0)
theorem cnt_le (b : Int → Bool) : ∀ n,cnt n b ≤ n
 | 0 => Nat.le_refl _
 | n + 1 => by have:=cnt_le b n;unfold cnt;split <;> omega
theorem cnt_full {b : Int → Bool} : ∀ {n : Nat},n ≤ cnt n b → ∀ i : Nat,i < n → b (i : Int) = true
 | 0,_,i,h => absurd h (Nat.not_lt_zero _)
 | n + 1,g,i,h => by
  have:=cnt_le b n
  unfold cnt at g
  split at g
  ·rename_i e
   by_cases q : i = n
   ·rw [q];exact e
   ·exact cnt_full (n:=n) (by omega) i (by omega)
  ·omega
theorem cnt_mono {b b' : Int → Bool} (h : ∀ q,b q = true → b' q = true) : ∀ n,cnt n b ≤ cnt n b'
 | 0 => Nat.le_refl _
 | n + 1 => by
  have:=cnt_mono h n
  unfold cnt
  by_cases e : b (n : Int) = true
  ·rw [if_pos e,if_pos (h _ e)];omega
  ·rw [if_neg e];omega
theorem cnt_lt {b b' : Int → Bool} (h : ∀ q,b q = true → b' q = true) : ∀ {n i : Nat},i < n → b' (i : Int) = true → ¬ b (i : Int) = true → cnt n b < cnt n b'
 | 0,i,g,_,_ => absurd g (Nat.not_lt_zero _)
 | n + 1,i,g,h1,h2 => by
  have m:=cnt_mono h n
  unfold cnt
  by_cases q : i = n
  ·subst q
   rw [if_neg h2,if_pos h1];omega
  ·have:=cnt_lt h (n:=n) (i:=i) (by omega) h1 h2
   by_cases e : b (n : Int) = true
   ·rw [if_pos e,if_pos (h _ e)];omega
   ·rw [if_neg e];omega
theorem itw_closed {a c : Stp → Int} {t : List Stp} {n : Nat} (ht : ∀ s ∈ t,0 ≤ c s ∧ c s < (n : Int)) : ∀ (k : Nat) (b : Int → Bool),Closed a c t (itw a c t k b) ∨ k + cnt n b ≤ cnt n (itw a c t k b)
 | 0,b => .inr (by show 0 + cnt n b ≤ cnt n b;omega)
 | k + 1,b => by
  by_cases q : Closed a c t b
  ·left
   have e : ∀ k,itw a c t k b = b:=by
    intro k
    induction k with
    | zero => rfl
    | succ k ih => show itw a c t k (wk a c t b) = b;rw [wk_id q,ih]
   rw [e];exact q
  ·have : ∃ s ∈ t,b (a s) = true ∧ ¬ b (c s) = true:=by
    refine Classical.byContradiction fun h => q fun s hs h1 => Classical.byContradiction fun h2 => h ⟨s,hs,h1,h2⟩
   obtain ⟨s,hs,h1,h2⟩:=this
   have o:=ht s hs
   have e : ((c s).toNat : Int) = c s:=by omega
   have lt:=cnt_lt (b:=b) (b':=wk a c t b) (n:=n) (i:=(c s).toNat) (fun q (hq : b q = true) => wk_mono (a:=a) (c:=c) (t:=t) hq) (by omega) (by rw [e];exact wk_step hs h1) (by rw [e];exact h2)
   rcases itw_closed ht k (wk a c t b) with g|g
   ·exact .inl g
   ·exact .inr (by show k + 1 + cnt n b ≤ cnt n (itw a c t k (wk a c t b));omega)
inductive Cl (a c : Stp → Int) (t : List Stp) (l : List Int) : Int → Prop
 | base {p : Int} : p ∈ l → Cl a c t l p
 | step {s : Stp} : s ∈ t → Cl a c t l (a s) → Cl a c t l (c s)
theorem itw_sub {a c : Stp → Int} {t : List Stp} (P : Int → Prop) (ht : ∀ s ∈ t,P (a s) → P (c s)) : ∀ (k : Nat) (b : Int → Bool),(∀ q,b q = true → P q) → ∀ q,itw a c t k b q = true → P q
 | 0,_,h => h
 | k + 1,b,h => itw_sub P ht k (wk a c t b) (wk_sub P ht h)
theorem itw_mono {a c : Stp → Int} {t : List Stp} {q : Int} : ∀ (k : Nat) (b : Int → Bool),b q = true → itw a c t k b q = true
 | 0,_,h => h
 | k + 1,b,h => itw_mono k (wk a c t b) (wk_mono h)
theorem reach_iff {a c : Stp → Int} {t : List Stp} {n : Nat} (ht : ∀ s ∈ t,0 ≤ c s ∧ c s < (n : Int)) {l : List Int} {q : Int} : itw a c t n (ini l) q = true ↔ Cl a c t l q:=by
 constructor
 ·exact itw_sub (Cl a c t l) (fun s hs h => .step hs h) n (ini l) (fun q h => .base (ini_iff.1 h)) q
 ·intro h
  have cl : Closed a c t (itw a c t n (ini l)):=by
   rcases itw_closed ht n (ini l) with g|g
   ·exact g
   ·intro s hs _
    have o:=ht s hs
    have:=cnt_full (b:=itw a c t n (ini l)) (n:=n) (by omega) (c s).toNat (by omega)
    rwa [show ((c s).toNat : Int) = c s from by omega] at this
  induction h with
  | base h => exact itw_mono n _ (ini_iff.2 h)
  | step hs _ ih => exact cl _ hs ih
theorem Cl_of {a c a' c' : Stp → Int} {t t' : List Stp} {l : List Int} (h : ∀ s ∈ t,∃ s' ∈ t',a' s' = a s ∧ c' s' = c s) {q : Int} (g : Cl a c t l q) : Cl a' c' t' l q:=by
 induction g with
 | base h => exact .base h
 | step hs _ ih =>
  obtain ⟨s',h1,h2,h3⟩:=h _ hs
  rw [← h3]
  exact .step h1 (by rw [h2];exact ih)
def tabB (n : Nat) (b : Int → Bool) : List Bool:=(List.range n).map fun (i : Nat) => b (i : Int)
theorem tabB_len (n : Nat) (b : Int → Bool) : (tabB n b).length = n:=by unfold tabB;rw [List.length_map,List.length_range]
theorem tabB_get {n : Nat} {b : Int → Bool} {v : Int} (h : 0 ≤ v ∧ v < (n : Int)) : rdB (tabB n b) v = b v:=by
 have e : v.toNat < n:=by omega
 unfold rdB tabB
 rw [List.getD_eq_getElem?_getD,List.getElem?_map,List.getElem?_range e]
 show b (v.toNat : Int) = b v
 rw [show (v.toNat : Int) = v from by omega]
theorem tabB_at (n : Nat) (b : Int → Bool) (i : Nat) (h : i < (tabB n b).length) : (tabB n b)[i] = b (i : Int):=by
 simp [tabB]
theorem tabB_set {n : Nat} {b : Int → Bool} {v : Int} {x : Bool} (h : 0 ≤ v ∧ v < (n : Int)) : (tabB n b).set v.toNat x = tabB n (fun q => if q = v then x else b q):=by
 refine List.ext_getElem (by rw [List.length_set,tabB_len,tabB_len]) fun i h1 h2 => ?_
 rw [tabB_at,List.getElem_set,tabB_at]
 by_cases e : v.toNat = i
 ·rw [if_pos e,if_pos (by omega)]
 ·rw [if_neg e,if_neg (by omega)]
theorem tabB_upd {n : Nat} {b : Int → Bool} {v : Int} (h : 0 ≤ v ∧ v < (n : Int)) : (tabB n b).set v.toNat true = tabB n (upd b v):=tabB_set h
theorem tabB_false (n : Nat) : List.replicate n false = tabB n (fun _ => false):=by
 unfold tabB
 rw [List.map_const',List.length_range]
def frS (s : Stp) : Int:=s.f0
def toS (s : Stp) : Int:=s.f2
theorem wk_snoc (a c : Stp → Int) (pre : List Stp) (x : Stp) (b : Int → Bool) : wk a c (pre ++ [x]) b = wk1 a c (wk a c pre b) x:=by unfold wk;rw [List.foldl_append];rfl
theorem iReached (n : Nat) (hn : n ≤ 4) (s f l : List Int) (t : List Stp) (hl : ∀ q ∈ l,0 ≤ q ∧ q < (n : Int)) (ll : l.length ≤ 1000) (ht : ∀ x ∈ t,(0 ≤ x.f0 ∧ x.f0 < (n : Int)) ∧ (0 ≤ x.f2 ∧ x.f2 < (n : Int))) (lt : t.length ≤ 1000) : Ev (fun k => impl_reached.f k (n : Int) s f t l) (tabB n (itw frS toS t n (ini l))):=by
 have rounds : ∀ (d i : Nat) (b : Int → Bool),i + d = n → Ev (fun k => impl_reached.l1 k (tabB n b) (n : Int) (i : Int) (n : Int) s f t) (tabB n (itw frS toS t d b)):=by
  intro d
  induction d with
  | zero =>
   intro i b h
   refine Ev.step (f:=fun _ => some (tabB n b)) (fun k => ?_) (Ev.now _)
   simp only [impl_reached.l1];rw [if_neg (by omega)]
  | succ d ih =>
   intro i b h
   have nx:=ih (i + 1) (wk frS toS t b) (by omega)
   have a1 : (i : Int) < (n : Int):=by omega
   have key:=ev_list (r:=tabB n (itw frS toS t d (wk frS toS t b))) t (fun pre k => impl_reached.l2 k (tabB n (wk frS toS pre b)) (n : Int) (i : Int) t (t.length : Int) (pre.length : Int) (n : Int) s f t) (fun pre x v h i1 => ?_) ?_
   ·refine Ev.step (fun k => ?_) key
    simp only [impl_reached.l1];rw [if_pos a1];rfl
   ·obtain ⟨a0,hx,wn⟩:=at_T h (by omega)
    obtain ⟨o1,o2⟩:=ht x (by rw [h];simp)
    rw [wk_snoc] at i1
    obtain ⟨B,hB⟩ : ∃ B,wk frS toS pre b = B:=⟨_,rfl⟩
    rw [hB] at i1 ⊢
    have l0 : x.f0 < ((tabB n B).length : Int):=by rw [tabB_len];exact o1.2
    have l2 : x.f2 < ((tabB n B).length : Int):=by rw [tabB_len];exact o2.2
    by_cases c2 : B x.f2 = true
    ·have e : wk1 frS toS B x = upd B x.f2:=by
      unfold wk1
      split
      ·rfl
      ·exact (upd_id c2).symm
     rw [e] at i1
     refine Ev.step (fun k => ?_) i1
     simp only [impl_reached.l2]
     rw [if_pos a0,if_pos (Int.natCast_nonneg _),if_pos a0,hx,if_pos o2.1,if_pos l2,tabB_get o2,if_pos c2,tabB_upd o2,wn]
    ·have e : tabB n (wk1 frS toS B x) = tabB n (fun q => if q = x.f2 then B x.f0 else B q):=by
      unfold wk1
      by_cases c0 : B x.f0 = true
      ·rw [if_pos (show B (frS x) = true from c0),c0];rfl
      ·rw [if_neg (show ¬ B (frS x) = true from c0)]
       congr 1
       funext q
       by_cases g : q = x.f2
       ·rw [if_pos g,g,Bool.eq_false_iff.2 c2,Bool.eq_false_iff.2 c0]
       ·rw [if_neg g]
     rw [e] at i1
     refine Ev.step (fun k => ?_) i1
     simp only [impl_reached.l2]
     rw [if_pos a0,if_pos (Int.natCast_nonneg _),if_pos a0,hx,if_pos o2.1,if_pos l2,tabB_get o2,if_neg c2,if_pos o1.1,if_pos l0,tabB_get o1,tabB_set o2,wn]
   ·refine Ev.step (fun k => ?_) nx
    simp only [impl_reached.l2]
    rw [if_neg (by omega),show wrap64 ((i : Int) + 1) = ((i + 1 : Nat) : Int) from by rw [w64 (by omega) (by omega)];omega]
 have first:=ev_list (r:=tabB n (itw frS toS t n (ini l))) l (fun pre k => impl_reached.l0 k (tabB n (ini pre)) l (l.length : Int) (pre.length : Int) (n : Int) s f t) (fun pre x v h i1 => ?_) ?_
 ·unfold impl_reached.f
  refine Ev_t (Int.natCast_nonneg _) (Ev_t (by rw [Int.toNat_natCast];omega) ?_)
  rw [Int.toNat_natCast,tabB_false]
  exact first
 ·obtain ⟨a0,hx,wn⟩:=at_I h (by omega)
  have o:=hl x (by rw [h];simp)
  have e : ini (pre ++ [x]) = upd (ini pre) x:=by unfold ini;rw [List.foldl_append];rfl
  rw [e] at i1
  refine Ev.step (fun k => ?_) i1
  simp only [impl_reached.l0]
  rw [if_pos a0,if_pos (Int.natCast_nonneg _),if_pos a0,hx,if_pos o.1,if_pos (by rw [tabB_len];exact o.2),tabB_upd o,wn]
 ·refine Ev.step (fun k => ?_) (rounds n 0 (ini l) (by omega))
  simp only [impl_reached.l0];rw [if_neg (by omega)];rfl
theorem four {v : Int} (h : 0 ≤ v ∧ v < 4) : v = 0 ∨ v = 1 ∨ v = 2 ∨ v = 3:=by omega
theorem upd0 (b : Int → Bool) : upd b 0 0 = true ∧ upd b 0 1 = b 1 ∧ upd b 0 2 = b 2 ∧ upd b 0 3 = b 3:=⟨rfl,rfl,rfl,rfl⟩
theorem upd1 (b : Int → Bool) : upd b 1 0 = b 0 ∧ upd b 1 1 = true ∧ upd b 1 2 = b 2 ∧ upd b 1 3 = b 3:=⟨rfl,rfl,rfl,rfl⟩
theorem upd2 (b : Int → Bool) : upd b 2 0 = b 0 ∧ upd b 2 1 = b 1 ∧ upd b 2 2 = true ∧ upd b 2 3 = b 3:=⟨rfl,rfl,rfl,rfl⟩
theorem upd3 (b : Int → Bool) : upd b 3 0 = b 0 ∧ upd b 3 1 = b 1 ∧ upd b 3 2 = b 2 ∧ upd b 3 3 = true:=⟨rfl,rfl,rfl,rfl⟩
theorem sReach (n : Nat) (hn : n ≤ 4) (s f l : List Int) (t : List Stp) (z : Bool) (hl : ∀ q ∈ l,0 ≤ q ∧ q < (n : Int)) (ll : l.length ≤ 1000) (ht : ∀ x ∈ t,(0 ≤ x.f0 ∧ x.f0 < (n : Int)) ∧ (0 ≤ x.f2 ∧ x.f2 < (n : Int))) (lt : t.length ≤ 1000) (B : Int → Bool) (hB : B = if z = true then itw toS frS t n (ini l) else itw frS toS t n (ini l)) : Ev (fun k => spec_l3Reach.f k (n : Int) s f t l z) (B 0,B 1,B 2,B 3):=by
 have rounds : ∀ (d i : Nat) (b : Int → Bool),i + d = n → Ev (fun k => spec_l3Reach.l1 k z (n : Int) (i : Int) (n : Int) s f t (b 0) (b 1) (b 2) (b 3)) (let c:=if z = true then itw toS frS t d b else itw frS toS t d b;(c 0,c 1,c 2,c 3)):=by
  intro d
  induction d with
  | zero =>
   intro i b h
   refine Ev.step (f:=fun _ => some (b 0,b 1,b 2,b 3)) (fun k => ?_) ((Ev.now _).is (by cases z <;> rfl))
   simp only [spec_l3Reach.l1];rw [if_neg (by omega)]
  | succ d ih =>
   intro i b h
   have a1 : (i : Int) < (n : Int):=by omega
   have wi : wrap64 ((i : Int) + 1) = ((i + 1 : Nat) : Int):=by rw [w64 (by omega) (by omega)];omega
   cases z with
   | true =>
    have nx:=ih (i + 1) (wk toS frS t b) (by omega)
    have key:=ev_list (r:=(itw toS frS t d (wk toS frS t b) 0,itw toS frS t d (wk toS frS t b) 1,itw toS frS t d (wk toS frS t b) 2,itw toS frS t d (wk toS frS t b) 3)) t (fun pre k => spec_l3Reach.l2 k true (n : Int) (i : Int) t (t.length : Int) (pre.length : Int) (n : Int) s f t (wk toS frS pre b 0) (wk toS frS pre b 1) (wk toS frS pre b 2) (wk toS frS pre b 3)) (fun pre x v h i1 => ?_) ?_
    ·refine Ev.step (fun k => ?_) key
     simp only [spec_l3Reach.l1];rw [if_pos a1];rfl
    ·obtain ⟨a0,hx,wn⟩:=at_T h (by omega)
     obtain ⟨o1,o2⟩:=ht x (by rw [h];simp)
     rw [wk_snoc] at i1
     obtain ⟨C,hC⟩ : ∃ C,wk toS frS pre b = C:=⟨_,rfl⟩
     rw [hC] at i1 ⊢
     refine Ev.step (fun k => ?_) i1
     simp only [spec_l3Reach.l2]
     rw [if_pos a0,if_pos (Int.natCast_nonneg _),if_pos a0,hx,wn,if_pos trivial]
     unfold wk1 toS frS
     rcases four (v:=x.f2) (by omega) with e|e|e|e <;> rw [e] <;> (by_cases c : C (x.f2) = true <;> rw [e] at c) <;> first
      | (rw [if_pos c];rcases four (v:=x.f0) (by omega) with g|g|g|g <;> rw [g] <;> simp [c,upd0,upd1,upd2,upd3])
      | (rw [if_neg c];simp [c])
    ·refine Ev.step (fun k => ?_) nx
     simp only [spec_l3Reach.l2]
     rw [if_neg (by omega),wi]
   | false =>
    have nx:=ih (i + 1) (wk frS toS t b) (by omega)
    have key:=ev_list (r:=(itw frS toS t d (wk frS toS t b) 0,itw frS toS t d (wk frS toS t b) 1,itw frS toS t d (wk frS toS t b) 2,itw frS toS t d (wk frS toS t b) 3)) t (fun pre k => spec_l3Reach.l2 k false (n : Int) (i : Int) t (t.length : Int) (pre.length : Int) (n : Int) s f t (wk frS toS pre b 0) (wk frS toS pre b 1) (wk frS toS pre b 2) (wk frS toS pre b 3)) (fun pre x v h i1 => ?_) ?_
    ·refine Ev.step (fun k => ?_) key
     simp only [spec_l3Reach.l1];rw [if_pos a1];rfl
    ·obtain ⟨a0,hx,wn⟩:=at_T h (by omega)
     obtain ⟨o1,o2⟩:=ht x (by rw [h];simp)
     rw [wk_snoc] at i1
     obtain ⟨C,hC⟩ : ∃ C,wk frS toS pre b = C:=⟨_,rfl⟩
     rw [hC] at i1 ⊢
     refine Ev.step (fun k => ?_) i1
     simp only [spec_l3Reach.l2]
     rw [if_pos a0,if_pos (Int.natCast_nonneg _),if_pos a0,hx,wn,if_neg (by decide)]
     unfold wk1 toS frS
     rcases four (v:=x.f0) (by omega) with e|e|e|e <;> rw [e] <;> (by_cases c : C (x.f0) = true <;> rw [e] at c) <;> first
      | (rw [if_pos c];rcases four (v:=x.f2) (by omega) with g|g|g|g <;> rw [g] <;> simp [c,upd0,upd1,upd2,upd3])
      | (rw [if_neg c];simp [c])
    ·refine Ev.step (fun k => ?_) nx
     simp only [spec_l3Reach.l2]
     rw [if_neg (by omega),wi]
 have first:=ev_list (r:=(B 0,B 1,B 2,B 3)) l (fun pre k => spec_l3Reach.l0 k z l (l.length : Int) (pre.length : Int) (n : Int) s f t (ini pre 0) (ini pre 1) (ini pre 2) (ini pre 3)) (fun pre x v h i1 => ?_) ?_
 ·exact first
 ·obtain ⟨a0,hx,wn⟩:=at_I h (by omega)
  have o:=hl x (by rw [h];simp)
  have e : ini (pre ++ [x]) = upd (ini pre) x:=by unfold ini;rw [List.foldl_append];rfl
  rw [e] at i1
  refine Ev.step (fun k => ?_) i1
  simp only [spec_l3Reach.l0]
  rw [if_pos a0,if_pos (Int.natCast_nonneg _),if_pos a0,hx,wn]
  rcases four (v:=x) (by omega) with g|g|g|g <;> rw [g] <;> simp [upd0,upd1,upd2,upd3]
 ·refine Ev.step (fun k => ?_) ((rounds n 0 (ini l) (by omega)).is (by rw [hB]))
  simp only [spec_l3Reach.l0];rw [if_neg (by omega)];rfl
end Go.Proofs.Ytoeeeafknajkkaa.V
end
section
set_option linter.unusedVariables false
set_option linter.unusedSimpArgs false
namespace Go.Proofs.Ytoeeeafknajkkaa.V
open Go Go.Proofs.Ytoeeeafknajkkaa.R Go.RowKit
open Go.Proofs.YtoeeeafknajkkaaW.PrintWords hiding mn mx
def usl (A B : Int → Bool) : Nat → List Int
 | 0 => []
 | n + 1 => usl A B n ++ (if A (n : Int) = true ∧ B (n : Int) = true then [(n : Int)] else [])
theorem usl_succ (A B : Int → Bool) (n : Nat) : usl A B (n + 1) = usl A B n ++ (if A (n : Int) = true ∧ B (n : Int) = true then [(n : Int)] else []):=rfl
theorem usl_mem {A B : Int → Bool} {q : Int} : ∀ {n : Nat},q ∈ usl A B n ↔ (0 ≤ q ∧ q < (n : Int)) ∧ A q = true ∧ B q = true
 | 0 => by
  constructor
  ·intro h;exact absurd h (by simp [usl])
  ·rintro ⟨h,_⟩;omega
 | n + 1 => by
  unfold usl
  rw [List.mem_append,usl_mem (n:=n)]
  by_cases c : A (n : Int) = true ∧ B (n : Int) = true
  ·rw [if_pos c,List.mem_singleton]
   constructor
   ·rintro (⟨h,g⟩|rfl)
    ·exact ⟨by omega,g⟩
    ·exact ⟨by omega,c⟩
   ·rintro ⟨h,g⟩
    by_cases e : q = (n : Int)
    ·exact .inr e
    ·exact .inl ⟨by omega,g⟩
  ·rw [if_neg c]
   constructor
   ·rintro (⟨h,g⟩|h)
    ·exact ⟨by omega,g⟩
    ·exact absurd h (by simp)
   ·rintro ⟨h,g⟩
    by_cases e : q = (n : Int)
    ·exact absurd (e ▸ g) c
    ·exact .inl ⟨by omega,g⟩
theorem usl_asc (A B : Int → Bool) : ∀ n,ascI (usl A B n)
 | 0 => List.Pairwise.nil
 | n + 1 => by
  unfold ascI usl
  rw [List.pairwise_append]
  refine ⟨usl_asc A B n,?_,fun a ha b hb => ?_⟩
  ·split <;> simp
  ·have:=(usl_mem.1 ha).1
   split at hb
   ·rw [List.mem_singleton] at hb;omega
   ·exact absurd hb (by simp)
theorem usl_len (A B : Int → Bool) : ∀ n,(usl A B n).length ≤ n
 | 0 => Nat.le_refl _
 | n + 1 => by
  have:=usl_len A B n
  unfold usl
  rw [List.length_append]
  split <;> simp <;> omega
theorem usl_congr {A B B' : Int → Bool} : ∀ {n : Nat},(∀ q : Int,0 ≤ q ∧ q < (n : Int) → B q = B' q) → usl A B n = usl A B' n
 | 0,_ => rfl
 | n + 1,h => by
  unfold usl
  rw [usl_congr (n:=n) fun q hq => h q (by omega),h (n : Int) (by omega)]
def rvS (x : Stp) : Stp:=⟨x.f2,x.f1,x.f0,x.f3⟩
theorem iRevLoop (t : List Stp) (ht : t.length ≤ 1000) : Ev (fun k => impl_stepped.f k t) (t.map rvS):=by
 unfold impl_stepped.f
 refine ev_list t (fun pre k => impl_stepped.l0 k (pre.map rvS) t (t.length : Int) (pre.length : Int)) (fun pre x v h i1 => ?_) ?_
 ·obtain ⟨a0,hx',wn⟩:=at_T h (by omega)
  have hl' : pre.length ≤ t.length:=by rw [h];simp
  refine Ev.step (fun k => ?_) i1
  simp only [impl_stepped.l0,impl_ReverseAutomaton_1.f]
  rw [if_pos a0,if_pos (Int.natCast_nonneg _),if_pos a0,hx',Option.bind_some,if_pos (by rw [List.length_map];omega),wn,List.map_append]
  rfl
 ·refine Ev.step (f:=fun _ => some (t.map rvS)) (fun k => ?_) (Ev.now _)
  simp only [impl_stepped.l0];rw [if_neg (by omega)]
theorem rev_AV {n : Int} {s f : List Int} {t : List Stp} (h : AV n s f t = true) : AV n f s (sortT (t.map rvS)) = true ∧ ∀ x,x ∈ sortT (t.map rvS) ↔ x ∈ t.map rvS:=by
 obtain ⟨h1,h2,h4,h6,h7⟩:=AV_iff.1 h
 have hd : (t.map rvS).Pairwise fun x y => ordT x y ≠ 0:=diff_map (fun x hx y hy e => by
  obtain ⟨a,b,c⟩:=ordT_zero.1 e
  exact ordT_zero.2 ⟨c,b,a⟩) h7
 have hp : (putAll [] (t.map rvS)).Perm (t.map rvS):=by simpa using putAll_perm (t.map rvS) [] (by simpa using hd)
 rw [sortT_put hd]
 refine ⟨AV_iff.2 ⟨⟨h1.1,h1.2.1,by rw [hp.length_eq,List.length_map];exact h1.2.2⟩,h4,h2,fun x hx => ?_,putAll_asc _ _ List.Pairwise.nil⟩,fun x => hp.mem_iff⟩
 obtain ⟨y,hy,rfl⟩:=List.mem_map.1 (hp.subset hx)
 have q:=of_decide_eq_true (show decide _ = true from h6 y hy)
 exact decide_eq_true ⟨q.2.2.1,q.2.2.2.1,q.1,q.2.1,q.2.2.2.2.1,q.2.2.2.2.2.1,q.2.2.2.2.2.2⟩
theorem iRev (n : Int) (s f : List Int) (t : List Stp) (hs : s.length ≤ 1048576) (hf : f.length ≤ 1048576) (ht : t.length ≤ 1048576) : Ev (fun k => impl_ReverseAutomaton.f k n s f t) (if AV n s f t = true then (n,f,s,sortT (t.map rvS),true) else noneR):=by
 unfold impl_ReverseAutomaton.f
 refine Ev.bind (iAV n s f t (by omega) (by omega) (by omega)) ?_
 by_cases h : AV n s f t = true
 ·have hl:=AV_len h
  obtain ⟨h1,h2,h4,h6,h7⟩:=AV_iff.1 h
  refine Ev_t h (Ev.bind (iRevLoop t (by omega)) (Ev.bind (made_ev n f s (t.map rvS) (by omega) (by omega) (by rw [List.length_map];omega)) ((Ev.now _).is ?_)))
  rw [if_pos h,sortI_id h2.2,sortI_id h4.2]
  unfold wholeR
  rw [if_pos (rev_AV h).1]
 ·exact (Ev_f h (Ev.now _)).is (if_neg h).symm
def useR (n : Int) (s f : List Int) (t : List Stp) : List Int:=if AV n s f t = true then usl (itw frS toS t n.toNat (ini s)) (itw toS frS t n.toNat (ini f)) n.toNat else []
theorem iUseLoop (n : Nat) (hn : n ≤ 4) (A B : Int → Bool) : ∀ (d i : Nat),i + d = n → Ev (fun k => impl_UsefulOf.l0 k (tabB n A) (tabB n B) (usl A B i) (n : Int) (i : Int)) (usl A B n):=by
 intro d
 induction d with
 | zero =>
  intro i h
  have h : i = n:=by omega
  subst h
  refine Ev.step (f:=fun _ => some (usl A B i)) (fun k => ?_) (Ev.now _)
  simp only [impl_UsefulOf.l0];rw [if_neg (Int.lt_irrefl _)]
 | succ d ih =>
  intro i h
  have nx:=ih (i + 1) (by omega)
  have a0 : (i : Int) < (n : Int):=by omega
  have wi : wrap64 ((i : Int) + 1) = ((i + 1 : Nat) : Int):=by rw [w64 (by omega) (by omega)];omega
  have ul:=usl_len A B i
  have la : (i : Int) < ((tabB n A).length : Int):=by rw [tabB_len];exact a0
  have lb : (i : Int) < ((tabB n B).length : Int):=by rw [tabB_len];exact a0
  rw [usl_succ] at nx
  refine Ev.step (fun k => ?_) nx
  simp only [impl_UsefulOf.l0]
  rw [if_pos a0,if_pos (Int.natCast_nonneg _),if_pos la,tabB_get ⟨Int.natCast_nonneg _,a0⟩,if_pos lb,tabB_get ⟨Int.natCast_nonneg _,a0⟩,wi,if_pos (show (usl A B i).length < 17592186044416 by omega)]
  by_cases ca : A (i : Int) = true
  ·rw [if_pos ca]
   by_cases cb : B (i : Int) = true
   ·rw [if_pos cb,if_pos ⟨ca,cb⟩]
   ·rw [if_neg cb,if_neg (fun g => cb g.2),List.append_nil]
  ·rw [if_neg ca,if_neg (fun g => ca g.1),List.append_nil]
theorem sUseLoop (n : Nat) (hn : n ≤ 4) (A B : Int → Bool) : ∀ (d i : Nat),i + d = n → Ev (fun k => spec_UsefulOf.l0 k (usl A B i) (n : Int) (i : Int) (A 0) (A 1) (A 2) (A 3) (B 0) (B 1) (B 2) (B 3)) (usl A B n):=by
 intro d
 induction d with
 | zero =>
  intro i h
  have h : i = n:=by omega
  subst h
  refine Ev.step (f:=fun _ => some (usl A B i)) (fun k => ?_) (Ev.now _)
  simp only [spec_UsefulOf.l0];rw [if_neg (Int.lt_irrefl _)]
 | succ d ih =>
  intro i h
  have nx:=ih (i + 1) (by omega)
  have a0 : (i : Int) < (n : Int):=by omega
  have wi : wrap64 ((i : Int) + 1) = ((i + 1 : Nat) : Int):=by rw [w64 (by omega) (by omega)];omega
  have ul:=usl_len A B i
  have ul : (usl A B i).length < 17592186044416:=by omega
  rw [usl_succ] at nx
  refine Ev.step (fun k => ?_) nx
  simp only [spec_UsefulOf.l0]
  rw [if_pos a0,wi,if_pos ul]
  have : i = 0 ∨ i = 1 ∨ i = 2 ∨ i = 3:=by omega
  rcases this with rfl|rfl|rfl|rfl
  ·rw [if_pos (by decide)]
   by_cases ca : A 0 = true <;> by_cases cb : B 0 = true <;> simp [ca,cb]
  ·rw [if_neg (by decide),if_pos (by decide)]
   by_cases ca : A 1 = true <;> by_cases cb : B 1 = true <;> simp [ca,cb]
  ·rw [if_neg (by decide),if_neg (by decide),if_pos (by decide)]
   by_cases ca : A 2 = true <;> by_cases cb : B 2 = true <;> simp [ca,cb]
  ·rw [if_neg (by decide),if_neg (by decide),if_neg (by decide),if_pos (by decide)]
   by_cases ca : A 3 = true <;> by_cases cb : B 3 = true <;> simp [ca,cb]
theorem stepIn {n : Int} {t : List Stp} (h : ∀ x ∈ t,stepOk n x = true) : ∀ x ∈ t,(0 ≤ x.f0 ∧ x.f0 < n) ∧ (0 ≤ x.f2 ∧ x.f2 < n):=fun x hx => by
 have q:=of_decide_eq_true (show decide _ = true from h x hx)
 exact ⟨⟨q.1,q.2.1⟩,⟨q.2.2.1,q.2.2.2.1⟩⟩
theorem home_eq {n : Nat} {s f : List Int} {t : List Stp} (h : AV (n : Int) s f t = true) (q : Int) : itw frS toS (sortT (t.map rvS)) n (ini f) q = itw toS frS t n (ini f) q:=by
 obtain ⟨h1,h2,h4,h6,h7⟩:=AV_iff.1 h
 obtain ⟨r1,r2⟩:=rev_AV h
 obtain ⟨g1,g2,g4,g6,g7⟩:=AV_iff.1 r1
 rw [Bool.eq_iff_iff,reach_iff (a:=frS) (c:=toS) (fun x hx => (stepIn g6 x hx).2),reach_iff (a:=toS) (c:=frS) (fun x hx => (stepIn h6 x hx).1)]
 constructor
 ·exact Cl_of fun x hx => by
   obtain ⟨y,hy,rfl⟩:=List.mem_map.1 ((r2 x).1 hx)
   exact ⟨y,hy,rfl,rfl⟩
 ·exact Cl_of (a:=toS) (c:=frS) (a':=frS) (c':=toS) fun x hx => ⟨rvS x,(r2 _).2 (List.mem_map_of_mem hx),rfl,rfl⟩
theorem iUse (n : Int) (s f : List Int) (t : List Stp) (hs : s.length ≤ 1048576) (hf : f.length ≤ 1048576) (ht : t.length ≤ 1048576) : Ev (fun k => impl_UsefulOf.f k n s f t) (useR n s f t):=by
 unfold impl_UsefulOf.f useR
 have rv:=iRev n s f t hs hf ht
 refine Ev.bind rv ?_
 by_cases h : AV n s f t = true
 ·have hl:=AV_len h
  obtain ⟨h1,h2,h4,h6,h7⟩:=AV_iff.1 h
  obtain ⟨r1,r2⟩:=rev_AV h
  obtain ⟨g1,g2,g4,g6,g7⟩:=AV_iff.1 r1
  have hl2:=AV_len r1
  rw [if_pos h,if_pos h]
  obtain ⟨m,rfl⟩ : ∃ m : Nat,n = (m : Int):=⟨n.toNat,by omega⟩
  rw [Int.toNat_natCast]
  refine Ev_t rfl (Ev.bind (iReached m (by omega) s f s t h2.1 (by omega) (stepIn h6) (by omega)) (Ev.bind (iReached m (by omega) f s f (sortT (t.map rvS)) h4.1 (by omega) (stepIn g6) (by omega)) ?_))
  refine (iUseLoop m (by omega) (itw frS toS t m (ini s)) (itw frS toS (sortT (t.map rvS)) m (ini f)) m 0 (by omega)).is ?_
  exact usl_congr fun q _ => home_eq h q
 ·rw [if_neg h,if_neg h]
  exact Ev_f (by simp [noneR]) (Ev.now _)
theorem sUse (n : Int) (s f : List Int) (t : List Stp) (hs : s.length ≤ 1048576) (hf : f.length ≤ 1048576) (ht : t.length ≤ 1048576) : Ev (fun k => spec_UsefulOf.f k n s f t) (useR n s f t):=by
 unfold spec_UsefulOf.f useR
 refine Ev.bind (sAV n s f t (by omega) (by omega) (by omega)) ?_
 by_cases h : AV n s f t = true
 ·have hl:=AV_len h
  obtain ⟨h1,h2,h4,h6,h7⟩:=AV_iff.1 h
  obtain ⟨m,rfl⟩ : ∃ m : Nat,n = (m : Int):=⟨n.toNat,by omega⟩
  rw [if_pos h,Int.toNat_natCast]
  exact Ev_t h (Ev.bind (sReach m (by omega) s f s t false h2.1 (by omega) (stepIn h6) (by omega) (itw frS toS t m (ini s)) rfl) (Ev.bind (sReach m (by omega) s f f t true h4.1 (by omega) (stepIn h6) (by omega) (itw toS frS t m (ini f)) rfl) (sUseLoop m (by omega) _ _ m 0 (by omega))))
 ·exact (Ev_f h (Ev.now _)).is (if_neg h).symm
theorem at_T' {t pre v : List Stp} {x : Stp} (h : t = pre ++ x :: v) (hl : t.length ≤ 2000000) : (pre.length : Int) < (t.length : Int) ∧ rdT t (pre.length : Int) = x ∧ wrap64 ((pre.length : Int) + 1) = (((pre ++ [x]).length : Nat) : Int):=by
 have e : t.length = pre.length + (v.length + 1):=by rw [h];simp
 refine ⟨by omega,by rw [h,rdS_mid],?_⟩
 rw [w64 (by omega) (by omega)];simp
theorem at_I' {t pre v : List Int} {x : Int} (h : t = pre ++ x :: v) (hl : t.length ≤ 2000000) : (pre.length : Int) < (t.length : Int) ∧ rdI t (pre.length : Int) = x ∧ wrap64 ((pre.length : Int) + 1) = (((pre ++ [x]).length : Nat) : Int):=by
 have e : t.length = pre.length + (v.length + 1):=by rw [h];simp
 refine ⟨by omega,by rw [h,rd_mid],?_⟩
 rw [w64 (by omega) (by omega)];simp
theorem sIn4 (l : List Int) (q : Int) (hl : l.length ≤ 2000000) : Ev (fun k => spec_l4In.f k l q) (decide (q ∈ l)):=by
 unfold spec_l4In.f
 have go : ∀ (v pre : List Int),l = pre ++ v → Ev (fun k => spec_l4In.l0 k q l (l.length : Int) (pre.length : Int)) (decide (q ∈ v)):=by
  intro v
  induction v with
  | nil =>
   intro pre h
   refine Ev.step (f:=fun _ => some false) (fun k => ?_) ((Ev.now _).is (by simp))
   simp only [spec_l4In.l0];rw [if_neg (by rw [h];simp)]
  | cons x v ih =>
   intro pre h
   obtain ⟨a0,hx,wn⟩:=at_I' h (by omega)
   have i1:=ih (pre ++ [x]) (by rw [h];simp)
   by_cases e : x = q
   ·refine Ev.step (f:=fun _ => some true) (fun k => ?_) ((Ev.now _).is (by simp [e]))
    simp only [spec_l4In.l0];rw [if_pos a0,if_pos (Int.natCast_nonneg _),if_pos a0,hx,if_pos e]
   ·refine Ev.step (fun k => ?_) (i1.is (by simp [Ne.symm e]))
    simp only [spec_l4In.l0];rw [if_pos a0,if_pos (Int.natCast_nonneg _),if_pos a0,hx,if_neg e,wn]
 exact go l [] rfl
def plc (U : List Int) (q : Int) : Int:=((U.idxOf q : Nat) : Int)
theorem idx_ev (l : List Int) (q : Int) (hl : l.length ≤ 1000) : Ev (fun k => slices_Index_int_int.f k l q) (if q ∈ l then plc l q else -1):=by
 unfold slices_Index_int_int.f
 have go : ∀ (v pre : List Int),l = pre ++ v → Ev (fun k => slices_Index_int_int.l0 k l q (l.length : Int) (pre.length : Int)) (if q ∈ v then ((pre.length + v.idxOf q : Nat) : Int) else -1):=by
  intro v
  induction v with
  | nil =>
   intro pre h
   refine Ev.step (f:=fun _ => some (-1)) (fun k => ?_) ((Ev.now _).is (by simp))
   simp only [slices_Index_int_int.l0];rw [if_neg (by rw [h];simp)]
  | cons x v ih =>
   intro pre h
   obtain ⟨a0,hx,wn⟩:=at_I h (by omega)
   by_cases e : q = x
   ·refine Ev.step (f:=fun _ => some (pre.length : Int)) (fun k => ?_) ((Ev.now _).is (by rw [if_pos (by rw [e];simp),e];simp))
    simp only [slices_Index_int_int.l0];rw [if_pos a0,if_pos (Int.natCast_nonneg _),if_pos a0,hx,if_pos e]
   ·have i1:=ih (pre ++ [x]) (by rw [h];simp)
    refine Ev.step (fun k => ?_) (i1.is ?_)
    ·simp only [slices_Index_int_int.l0];rw [if_pos a0,if_pos (Int.natCast_nonneg _),if_pos a0,hx,if_neg e,wn]
    ·have e2 : (x :: v).idxOf q = v.idxOf q + 1:=by
      have b : (x == q) = false:=by rw [beq_eq_false_iff_ne];exact fun g => e g.symm
      rw [List.idxOf_cons,b];rfl
     by_cases g : q ∈ v
     ·rw [if_pos g,if_pos (List.mem_cons_of_mem _ g),e2,List.length_append];simp;omega
     ·rw [if_neg g,if_neg (by simp [e,g])]
 refine (go l [] rfl).is ?_
 unfold plc
 rw [List.length_nil,Nat.zero_add]
def plS (U : List Int) (x : Stp) : Stp:=⟨plc U x.f0,x.f1,plc U x.f2,x.f3⟩
def inS (U : List Int) (x : Stp) : Bool:=decide (x.f0 ∈ U) && decide (x.f2 ∈ U)
def keepI (U l : List Int) : List Int:=(l.filter (fun q => decide (q ∈ U))).map (plc U)
def keepT (U : List Int) (t : List Stp) : List Stp:=(t.filter (inS U)).map (plS U)
theorem plc_in {U : List Int} {q : Int} (h : q ∈ U) : 0 ≤ plc U q ∧ plc U q < (U.length : Int):=⟨Int.natCast_nonneg _,Int.ofNat_lt.2 (List.idxOf_lt_length_of_mem h)⟩
theorem plc_lt {U : List Int} (hU : ascI U) {p q : Int} (hp : p ∈ U) (hq : q ∈ U) (h : p < q) : plc U p < plc U q:=by
 have lp:=List.idxOf_lt_length_of_mem hp
 have lq:=List.idxOf_lt_length_of_mem hq
 have ep : U[U.idxOf p] = p:=List.getElem_idxOf lp
 have eq : U[U.idxOf q] = q:=List.getElem_idxOf lq
 unfold plc
 by_cases g : U.idxOf p < U.idxOf q
 ·exact Int.ofNat_lt.2 g
 ·exfalso
  by_cases g2 : U.idxOf q = U.idxOf p
  ·have : U[U.idxOf q] = U[U.idxOf p]:=by simp only [g2]
   omega
  ·have:=List.pairwise_iff_getElem.1 hU (U.idxOf q) (U.idxOf p) lq lp (by omega)
   omega
theorem keepI_asc {U l : List Int} (hU : ascI U) (hl : ascI l) : ascI (keepI U l):=by
 unfold keepI ascI
 rw [List.pairwise_map]
 refine List.Pairwise.imp_of_mem (fun {a b} ha hb h => ?_) (List.Pairwise.filter _ hl)
 exact plc_lt hU (of_decide_eq_true (List.mem_filter.1 ha).2) (of_decide_eq_true (List.mem_filter.1 hb).2) h
theorem inS_iff {U : List Int} {x : Stp} : inS U x = true ↔ x.f0 ∈ U ∧ x.f2 ∈ U:=by unfold inS;rw [Bool.and_eq_true,decide_eq_true_eq,decide_eq_true_eq]
theorem keepT_asc {U : List Int} {t : List Stp} (hU : ascI U) (ht : ascT t) : ascT (keepT U t):=by
 unfold keepT ascT
 rw [List.pairwise_map]
 refine List.Pairwise.imp_of_mem (fun {a b} ha hb h => ?_) (List.Pairwise.filter _ ht)
 obtain ⟨a0,a2⟩:=inS_iff.1 (List.mem_filter.1 ha).2
 obtain ⟨b0,b2⟩:=inS_iff.1 (List.mem_filter.1 hb).2
 rw [ordT_lt] at h ⊢
 rcases h with h | ⟨h,h' | ⟨h',h2⟩⟩
 ·exact .inl (plc_lt hU a0 b0 h)
 ·exact .inr ⟨congrArg (plc U) h,.inl h'⟩
 ·exact .inr ⟨congrArg (plc U) h,.inr ⟨h',plc_lt hU a2 b2 h2⟩⟩
theorem asc_ext {a b : List Int} (ha : ascI a) (hb : ascI b) (h : ∀ x,x ∈ a ↔ x ∈ b) : a = b:=by
 have na : a.Nodup:=ha.imp fun {x y} q => by omega
 have nb : b.Nodup:=hb.imp fun {x y} q => by omega
 rw [← sortI_of ha ((List.perm_ext_iff_of_nodup na nb).2 h),sortI_id hb]
theorem swap_keep {U l : List Int} (hU : ascI U) (hl : ascI l) : (U.filter (fun q => decide (q ∈ l))).map (plc U) = keepI U l:=by
 unfold keepI
 congr 1
 refine asc_ext (List.Pairwise.filter _ hU) (List.Pairwise.filter _ hl) fun x => ?_
 rw [List.mem_filter,List.mem_filter,decide_eq_true_eq,decide_eq_true_eq]
 exact ⟨fun h => ⟨h.2,h.1⟩,fun h => ⟨h.2,h.1⟩⟩
theorem iThose (U l : List Int) (hU : U.length ≤ 1000) (hl : l.length ≤ 1048576) : Ev (fun k => impl_TrimAutomaton_1.f k l U) (keepI U l):=by
 unfold impl_TrimAutomaton_1.f
 refine ev_list l (fun pre k => impl_TrimAutomaton_1.l0 k (keepI U pre) l (l.length : Int) (pre.length : Int) U) (fun pre x v h i1 => ?_) ?_
 ·obtain ⟨a0,hx,wn⟩:=at_I' h (by omega)
  have hpre : pre.length ≤ l.length:=by rw [h];simp
  have hk : (keepI U pre).length ≤ pre.length:=by unfold keepI;rw [List.length_map];exact List.length_filter_le ..
  refine Ev.step (f:=?f1) (fun k => ?_) ?k1
  rotate_left
  ·simp only [impl_TrimAutomaton_1.l0]
   rw [if_pos a0,if_pos (Int.natCast_nonneg _),if_pos a0,hx,wn] <;> exact rfl
  ·refine Ev.bind (idx_ev U x hU) ?_
   by_cases g : x ∈ U
   ·have e : keepI U (pre ++ [x]) = keepI U pre ++ [plc U x]:=by unfold keepI;rw [List.filter_append,List.map_append];simp [g]
    rw [if_pos g]
    rw [e] at i1
    exact Ev_t (plc_in g).1 (Ev_t (by omega) i1)
   ·have e : keepI U (pre ++ [x]) = keepI U pre:=by unfold keepI;rw [List.filter_append,List.map_append];simp [g]
    rw [if_neg g]
    rw [e] at i1
    exact Ev_f (by omega) i1
 ·refine Ev.step (f:=fun _ => some (keepI U l)) (fun k => ?_) (Ev.now _)
  simp only [impl_TrimAutomaton_1.l0];rw [if_neg (by omega)]
def trimR (n : Int) (s f : List Int) (t : List Stp) : At5:=if useR n s f t = [] then noneR else (((useR n s f t).length : Int),keepI (useR n s f t) s,keepI (useR n s f t) f,keepT (useR n s f t) t,true)
theorem use_asc (n : Int) (s f : List Int) (t : List Stp) : ascI (useR n s f t):=by
 unfold useR
 split
 ·exact usl_asc ..
 ·exact List.Pairwise.nil
theorem use_AV {n : Int} {s f : List Int} {t : List Stp} (h : useR n s f t ≠ []) : AV n s f t = true:=Classical.byContradiction fun g => h (if_neg g)
theorem use_in {n : Int} {s f : List Int} {t : List Stp} {q : Int} (h : q ∈ useR n s f t) : 0 ≤ q ∧ q < n:=by
 have g : AV n s f t = true:=use_AV (List.ne_nil_of_mem h)
 obtain ⟨h1,_⟩:=AV_iff.1 g
 unfold useR at h
 rw [if_pos g] at h
 have:=(usl_mem.1 h).1
 omega
theorem use_len (n : Int) (s f : List Int) (t : List Stp) : (useR n s f t).length ≤ 4:=by
 unfold useR
 split
 ·rename_i g
  obtain ⟨h1,_⟩:=AV_iff.1 g
  exact Nat.le_trans (usl_len ..) (by omega)
 ·exact Nat.zero_le _
theorem keepI_len (U l : List Int) : (keepI U l).length ≤ l.length:=by unfold keepI;rw [List.length_map];exact List.length_filter_le ..
theorem keepT_len (U : List Int) (t : List Stp) : (keepT U t).length ≤ t.length:=by unfold keepT;rw [List.length_map];exact List.length_filter_le ..
theorem trim_AV {n : Int} {s f : List Int} {t : List Stp} (h : useR n s f t ≠ []) : AV ((useR n s f t).length : Int) (keepI (useR n s f t) s) (keepI (useR n s f t) f) (keepT (useR n s f t) t) = true:=by
 obtain ⟨h1,h2,h4,h6,h7⟩:=AV_iff.1 (use_AV h)
 have l4:=use_len n s f t
 have ua:=use_asc n s f t
 obtain ⟨U,hU⟩ : ∃ U,useR n s f t = U:=⟨_,rfl⟩
 rw [hU] at h l4 ua ⊢
 have l1 : 1 ≤ U.length:=List.length_pos_iff.2 h
 have mem : ∀ l : List Int,∀ x ∈ keepI U l,0 ≤ x ∧ x < (U.length : Int):=fun l x hx => by
  obtain ⟨y,hy,rfl⟩:=List.mem_map.1 hx
  exact plc_in (of_decide_eq_true (List.mem_filter.1 hy).2)
 refine AV_iff.2 ⟨⟨by omega,by omega,by have:=keepT_len U t;omega⟩,⟨mem s,keepI_asc ua h2.2⟩,⟨mem f,keepI_asc ua h4.2⟩,fun x hx => ?_,keepT_asc ua h7⟩
 obtain ⟨y,hy,rfl⟩:=List.mem_map.1 hx
 rw [List.mem_filter] at hy
 obtain ⟨y0,y2⟩:=inS_iff.1 hy.2
 have q:=of_decide_eq_true (show decide _ = true from h6 y hy.1)
 exact decide_eq_true ⟨(plc_in y0).1,(plc_in y0).2,(plc_in y2).1,(plc_in y2).2,q.2.2.2.2.1,q.2.2.2.2.2.1,q.2.2.2.2.2.2⟩
theorem keepI_nil (l : List Int) : keepI [] l = []:=by
 unfold keepI
 rw [show l.filter (fun q => decide (q ∈ ([] : List Int))) = [] from List.filter_eq_nil_iff.2 (fun a _ => by simp)]
 rfl
theorem keepT_nil (t : List Stp) : keepT [] t = []:=by
 unfold keepT
 rw [show t.filter (inS []) = [] from List.filter_eq_nil_iff.2 (fun a _ => by simp [inS])]
 rfl
theorem iTrim (n : Int) (s f : List Int) (t : List Stp) (hs : s.length ≤ 1048576) (hf : f.length ≤ 1048576) (ht : t.length ≤ 1048576) : Ev (fun k => impl_TrimAutomaton.f k n s f t) (trimR n s f t):=by
 unfold impl_TrimAutomaton.f
 refine Ev.bind (iUse n s f t hs hf ht) ?_
 have l4:=use_len n s f t
 have fin : Ev (fun k => (impl_made.f k ((useR n s f t).length : Int) (keepI (useR n s f t) s) (keepI (useR n s f t) f) (keepT (useR n s f t) t)).bind fun t6 => some (t6.1,t6.2.1,t6.2.2.1,t6.2.2.2.1,t6.2.2.2.2)) (trimR n s f t):=by
  unfold trimR
  by_cases h : useR n s f t = []
  ·rw [if_pos h,h,keepI_nil,keepI_nil,keepT_nil]
   refine Ev.bind (made_ev _ [] [] [] (Nat.zero_le _) (Nat.zero_le _) (Nat.zero_le _)) ((Ev.now _).is ?_)
   unfold wholeR
   rw [if_neg (fun q => by have:=(AV_iff.1 q).1.1;simp at this)]
   rfl
  ·obtain ⟨h1,h2,h4,h6,h7⟩:=AV_iff.1 (use_AV h)
   have hl:=AV_len (use_AV h)
   have ua:=use_asc n s f t
   have k1:=keepI_len (useR n s f t) s
   have k2:=keepI_len (useR n s f t) f
   have k3:=keepT_len (useR n s f t) t
   rw [if_neg h]
   refine Ev.bind (made_ev _ _ _ _ (by omega) (by omega) (by omega)) ((Ev.now _).is ?_)
   rw [sortI_id (keepI_asc ua h2.2),sortI_id (keepI_asc ua h4.2),sortT_id (keepT_asc ua h7)]
   unfold wholeR
   rw [if_pos (trim_AV h)]
 obtain ⟨U,hU⟩ : ∃ U,useR n s f t = U:=⟨_,rfl⟩
 rw [hU] at fin l4 ⊢
 refine ev_list t (fun pre k => impl_TrimAutomaton.l0 k (keepT U pre) t (t.length : Int) (pre.length : Int) n s f t U) (fun pre x v h i1 => ?_) ?_
 ·obtain ⟨a0,hx,wn⟩:=at_T' h (by omega)
  have hpre : pre.length ≤ t.length:=by rw [h];simp
  have hk:=keepT_len U pre
  refine Ev.step (f:=?f1) (fun k => ?_) ?k1
  rotate_left
  ·simp only [impl_TrimAutomaton.l0]
   rw [if_pos a0,if_pos (Int.natCast_nonneg _),if_pos a0,hx,wn] <;> exact rfl
  ·refine Ev.bind (idx_ev U x.f0 (by omega)) (Ev.bind (idx_ev U x.f2 (by omega)) ?_)
   by_cases g0 : x.f0 ∈ U
   ·by_cases g2 : x.f2 ∈ U
    ·have e : keepT U (pre ++ [x]) = keepT U pre ++ [plS U x]:=by unfold keepT;rw [List.filter_append,List.map_append];simp [inS,g0,g2]
     rw [if_pos g0,if_pos g2]
     rw [e] at i1
     exact Ev_t (plc_in g0).1 (Ev_t (plc_in g2).1 (Ev_t (by omega) i1))
    ·have e : keepT U (pre ++ [x]) = keepT U pre:=by unfold keepT;rw [List.filter_append,List.map_append];simp [inS,g2]
     rw [if_pos g0,if_neg g2]
     rw [e] at i1
     exact Ev_t (plc_in g0).1 (Ev_f (by omega) i1)
   ·have e : keepT U (pre ++ [x]) = keepT U pre:=by unfold keepT;rw [List.filter_append,List.map_append];simp [inS,g0]
    rw [if_neg g0]
    rw [e] at i1
    exact Ev_f (by omega) i1
 ·refine Ev.step (f:=?f2) (fun k => ?_) ?k2
  rotate_left
  ·simp only [impl_TrimAutomaton.l0]
   rw [if_neg (by omega)] <;> exact rfl
  ·exact Ev.bind (iThose U s (by omega) hs) (Ev.bind (iThose U f (by omega) hf) fin)
end Go.Proofs.Ytoeeeafknajkkaa.V
end
section
set_option linter.unusedVariables false
set_option linter.unusedSimpArgs false
namespace Go.Proofs.Ytoeeeafknajkkaa.V
open Go Go.Proofs.Ytoeeeafknajkkaa.R Go.RowKit
open Go.Proofs.YtoeeeafknajkkaaW.PrintWords hiding mn mx
theorem pick4 {α : Type} {x : Int} (h : 0 ≤ x ∧ x < 4) {A B C D : Nat → Option α} {r : α} (ha : x = 0 → Ev A r) (hb : x = 1 → Ev B r) (hc : x = 2 → Ev C r) (hd : x = 3 → Ev D r) : Ev (fun k => if x = 0 then A k else if x = 1 then B k else if x = 2 then C k else if x = 3 then D k else none) r:=by
 rcases four h with e|e|e|e
 ·exact Ev_t e (ha e)
 ·exact Ev_f (by omega) (Ev_t e (hb e))
 ·exact Ev_f (by omega) (Ev_f (by omega) (Ev_t e (hc e)))
 ·exact Ev_f (by omega) (Ev_f (by omega) (Ev_f (by omega) (Ev_t e (hd e))))
def Pf (U pre : List Int) : Int → Int:=fun x => if x ∈ pre then plc U x else 0
theorem plc_at {U pre v : List Int} {x : Int} (hU : ascI U) (h : U = pre ++ x :: v) : plc U x = (pre.length : Int):=by
 have hx : x ∈ U:=by rw [h];simp
 have lx:=List.idxOf_lt_length_of_mem hx
 have ex : U[U.idxOf x] = x:=List.getElem_idxOf lx
 have lp : pre.length < U.length:=by rw [h];simp
 have ep : U[pre.length] = x:=by simp [h]
 unfold plc
 by_cases g : U.idxOf x = pre.length
 ·rw [g]
 ·exfalso
  by_cases g2 : U.idxOf x < pre.length
  ·have:=List.pairwise_iff_getElem.1 hU (U.idxOf x) pre.length lx lp g2
   omega
  ·have:=List.pairwise_iff_getElem.1 hU pre.length (U.idxOf x) lp lx (by omega)
   omega
theorem Pf_snoc {U pre : List Int} {x : Int} (h : plc U x = (pre.length : Int)) : Pf U (pre ++ [x]) = fun y => if y = x then (pre.length : Int) else Pf U pre y:=by
 funext y
 unfold Pf
 by_cases e : y = x
 ·rw [if_pos (by simp [e]),if_pos e,e,h]
 ·rw [if_neg e]
  simp [e]
def sel (U l : List Int) (pre : List Int) : List Int:=(pre.filter (fun q => decide (q ∈ l))).map (plc U)
theorem sel_yes {U l pre : List Int} {x : Int} (h : x ∈ l) : sel U l (pre ++ [x]) = sel U l pre ++ [plc U x]:=by unfold sel;rw [List.filter_append,List.map_append];simp [h]
theorem sel_no {U l pre : List Int} {x : Int} (h : ¬ x ∈ l) : sel U l (pre ++ [x]) = sel U l pre:=by unfold sel;rw [List.filter_append,List.map_append];simp [h]
theorem sel_len (U l pre : List Int) : (sel U l pre).length ≤ pre.length:=by unfold sel;rw [List.length_map];exact List.length_filter_le ..
theorem sTrim2 (U : List Int) (lU : U.length ≤ 4) (hU : ∀ q ∈ U,0 ≤ q ∧ q < 4) (t : List Stp) (lt : t.length ≤ 1000) (S F : List Int) :
  Ev (fun k => spec_TrimAutomaton.l2 k U t (t.length : Int) 0 (Pf U U 0) (Pf U U 1) (Pf U U 2) (Pf U U 3) (U.length : Int) S F []) ((U.length : Int),S,F,keepT U t,true):=by
 have key:=ev_list (r:=((U.length : Int),S,F,keepT U t,true)) t (fun pre k => spec_TrimAutomaton.l2 k U t (t.length : Int) (pre.length : Int) (Pf U U 0) (Pf U U 1) (Pf U U 2) (Pf U U 3) (U.length : Int) S F (keepT U pre)) (fun pre x v h i1 => ?_) ?_
 ·exact key
 ·obtain ⟨a0,hx,wn⟩:=at_T h (by omega)
  have hpre : pre.length ≤ t.length:=by rw [h];simp
  have hk:=keepT_len U pre
  refine Ev.step (f:=?f1) (fun k => ?_) ?k1
  rotate_left
  ·simp only [spec_TrimAutomaton.l2]
   rw [if_pos a0,if_pos (Int.natCast_nonneg _),if_pos a0,hx,wn] <;> exact rfl
  ·refine Ev.bind (sIn4 U x.f0 (by omega)) ?_
   by_cases g0 : x.f0 ∈ U
   ·refine Ev_t (decide_eq_true g0) (Ev.bind (sIn4 U x.f2 (by omega)) ?_)
    by_cases g2 : x.f2 ∈ U
    ·have e : keepT U (pre ++ [x]) = keepT U pre ++ [plS U x]:=by unfold keepT;rw [List.filter_append,List.map_append];simp [inS,g0,g2]
     rw [e] at i1
     have common : ∀ z0 z2 : Int,z0 = plc U x.f0 → z2 = plc U x.f2 → Ev (fun k => if (keepT U pre).length < 3518437208883 then spec_TrimAutomaton.l2 k U t (t.length : Int) (((pre ++ [x]).length : Nat) : Int) (Pf U U 0) (Pf U U 1) (Pf U U 2) (Pf U U 3) (U.length : Int) S F (keepT U pre ++ [(⟨z0,x.f1,z2,x.f3⟩ : Stp)]) else none) ((U.length : Int),S,F,keepT U t,true):=by
      intro z0 z2 e0 e2
      refine Ev_t (by omega) ?_
      rw [e0,e2]
      exact i1
     have P0 : ∀ c : Int,x.f0 = c → Pf U U c = plc U x.f0:=fun c e => by rw [← e];exact if_pos g0
     have P2 : ∀ c : Int,x.f2 = c → Pf U U c = plc U x.f2:=fun c e => by rw [← e];exact if_pos g2
     refine Ev_t (decide_eq_true g2) (pick4 (hU _ g0) (fun e0 => ?_) (fun e0 => ?_) (fun e0 => ?_) (fun e0 => ?_)) <;>
      exact pick4 (hU _ g2) (fun e2 => common _ _ (P0 _ e0) (P2 _ e2)) (fun e2 => common _ _ (P0 _ e0) (P2 _ e2)) (fun e2 => common _ _ (P0 _ e0) (P2 _ e2)) (fun e2 => common _ _ (P0 _ e0) (P2 _ e2))
    ·have e : keepT U (pre ++ [x]) = keepT U pre:=by unfold keepT;rw [List.filter_append,List.map_append];simp [inS,g2]
     rw [e] at i1
     exact Ev_f (by simp [g2]) i1
   ·have e : keepT U (pre ++ [x]) = keepT U pre:=by unfold keepT;rw [List.filter_append,List.map_append];simp [inS,g0]
    rw [e] at i1
    exact Ev_f (by simp [g0]) i1
 ·refine Ev.step (f:=fun _ => some ((U.length : Int),S,F,keepT U t,true)) (fun k => ?_) (Ev.now _)
  simp only [spec_TrimAutomaton.l2];rw [if_neg (by omega)]
theorem sTrim1 (U : List Int) (lU : U.length ≤ 4) (hU : ∀ q ∈ U,0 ≤ q ∧ q < 4) (n : Int) (s f : List Int) (t : List Stp) (ls : s.length ≤ 1000) (lf : f.length ≤ 1000) (lt : t.length ≤ 1000) :
  Ev (fun k => spec_TrimAutomaton.l1 k U (U.length : Int) 0 n s f t (Pf U U 0) (Pf U U 1) (Pf U U 2) (Pf U U 3) (U.length : Int) [] []) ((U.length : Int),sel U s U,sel U f U,keepT U t,true):=by
 have key:=ev_list (r:=((U.length : Int),sel U s U,sel U f U,keepT U t,true)) U (fun pre k => spec_TrimAutomaton.l1 k U (U.length : Int) (pre.length : Int) n s f t (Pf U U 0) (Pf U U 1) (Pf U U 2) (Pf U U 3) (U.length : Int) (sel U s pre) (sel U f pre)) (fun pre x v h i1 => ?_) ?_
 ·exact key
 ·obtain ⟨a0,hx,wn⟩:=at_I h (by omega)
  have hpre : pre.length ≤ U.length:=by rw [h];simp
  have hk1:=sel_len U s pre
  have hk2:=sel_len U f pre
  have gU : x ∈ U:=by rw [h];simp
  have P : ∀ c : Int,x = c → Pf U U c = plc U x:=fun c e => by rw [← e];exact if_pos gU
  refine Ev.step (f:=?f1) (fun k => ?_) ?k1
  rotate_left
  ·simp only [spec_TrimAutomaton.l1]
   rw [if_pos a0,if_pos (Int.natCast_nonneg _),if_pos a0,hx,wn] <;> exact rfl
  ·refine Ev.bind (sIn4 s x (by omega)) ?_
   by_cases g1 : x ∈ s
   ·rw [sel_yes g1] at i1
    have common : ∀ z : Int,z = plc U x → Ev (fun k => if (sel U s pre).length < 17592186044416 then (spec_l4In.f k f x).bind fun t3 => (if t3 = true then (if (sel U f pre).length < 17592186044416 then spec_TrimAutomaton.l1 k U (U.length : Int) (((pre ++ [x]).length : Nat) : Int) n s f t (Pf U U 0) (Pf U U 1) (Pf U U 2) (Pf U U 3) (U.length : Int) (sel U s pre ++ [z]) (sel U f pre ++ [z]) else none) else spec_TrimAutomaton.l1 k U (U.length : Int) (((pre ++ [x]).length : Nat) : Int) n s f t (Pf U U 0) (Pf U U 1) (Pf U U 2) (Pf U U 3) (U.length : Int) (sel U s pre ++ [z]) (sel U f pre)) else none) ((U.length : Int),sel U s U,sel U f U,keepT U t,true):=by
     intro z e
     rw [e]
     refine Ev_t (by omega) (Ev.bind (sIn4 f x (by omega)) ?_)
     by_cases g2 : x ∈ f
     ·rw [sel_yes g2] at i1
      exact Ev_t (decide_eq_true g2) (Ev_t (by omega) i1)
     ·rw [sel_no g2] at i1
      exact Ev_f (by simp [g2]) i1
    exact Ev_t (decide_eq_true g1) (pick4 (hU _ gU) (fun e => common _ (P _ e)) (fun e => common _ (P _ e)) (fun e => common _ (P _ e)) (fun e => common _ (P _ e)))
   ·rw [sel_no g1] at i1
    refine Ev_f (by simp [g1]) (Ev.bind (sIn4 f x (by omega)) ?_)
    by_cases g2 : x ∈ f
    ·rw [sel_yes g2] at i1
     have common : ∀ z : Int,z = plc U x → Ev (fun k => if (sel U f pre).length < 17592186044416 then spec_TrimAutomaton.l1 k U (U.length : Int) (((pre ++ [x]).length : Nat) : Int) n s f t (Pf U U 0) (Pf U U 1) (Pf U U 2) (Pf U U 3) (U.length : Int) (sel U s pre) (sel U f pre ++ [z]) else none) ((U.length : Int),sel U s U,sel U f U,keepT U t,true):=by
      intro z e
      rw [e]
      exact Ev_t (by omega) i1
     exact Ev_t (decide_eq_true g2) (pick4 (hU _ gU) (fun e => common _ (P _ e)) (fun e => common _ (P _ e)) (fun e => common _ (P _ e)) (fun e => common _ (P _ e)))
    ·rw [sel_no g2] at i1
     exact Ev_f (by simp [g2]) i1
 ·refine Ev.step (fun k => ?_) (sTrim2 U lU hU t lt (sel U s U) (sel U f U))
  simp only [spec_TrimAutomaton.l1];rw [if_neg (by omega)]
theorem sTrim (n : Int) (s f : List Int) (t : List Stp) (hs : s.length ≤ 1048576) (hf : f.length ≤ 1048576) (ht : t.length ≤ 1048576) : Ev (fun k => spec_TrimAutomaton.f k n s f t) (trimR n s f t):=by
 unfold spec_TrimAutomaton.f trimR
 refine Ev.bind (sUse n s f t hs hf ht) ?_
 have l4:=use_len n s f t
 by_cases h : useR n s f t = []
 ·rw [if_pos h,h]
  exact Ev_t rfl (Ev.now _)
 ·obtain ⟨h1,h2,h4,h6,h7⟩:=AV_iff.1 (use_AV h)
  have hl:=AV_len (use_AV h)
  have ua:=use_asc n s f t
  have ui : ∀ q ∈ useR n s f t,0 ≤ q ∧ q < 4:=fun q hq => by have:=use_in hq;omega
  rw [if_neg h,← swap_keep ua h2.2,← swap_keep ua h4.2]
  obtain ⟨U,hU⟩ : ∃ U,useR n s f t = U:=⟨_,rfl⟩
  rw [hU] at h l4 ua ui ⊢
  refine Ev_f (fun g => h (List.eq_nil_of_length_eq_zero (by omega))) ?_
  have key:=ev_list (r:=((U.length : Int),sel U s U,sel U f U,keepT U t,true)) U (fun pre k => spec_TrimAutomaton.l0 k U (U.length : Int) (pre.length : Int) n s f t (Pf U pre 0) (Pf U pre 1) (Pf U pre 2) (Pf U pre 3)) (fun pre x v h i1 => ?_) ?_
  ·exact key
  ·obtain ⟨a0,hx,wn⟩:=at_I h (by omega)
   have o:=ui x (by rw [h];simp)
   rw [Pf_snoc (plc_at ua h)] at i1
   refine Ev.step (fun k => ?_) i1
   simp only [spec_TrimAutomaton.l0]
   rw [if_pos a0,if_pos (Int.natCast_nonneg _),if_pos a0,hx,wn]
   rcases four o with g|g|g|g <;> rw [g] <;> simp
  ·refine Ev.step (fun k => ?_) (sTrim1 U l4 ui n s f t (by omega) (by omega) (by omega))
   simp only [spec_TrimAutomaton.l0];rw [if_neg (by omega)]
theorem trim_sm (n : Int) (s f : List Int) (t : List Stp) : Sm (trimR n s f t):=by
 unfold trimR
 split
 ·exact none_sm
 ·rename_i h
  have:=AV_len (trim_AV h)
  exact ⟨by show (keepI (useR n s f t) s).length ≤ _;omega,by show (keepI (useR n s f t) f).length ≤ _;omega,by show (keepT (useR n s f t) t).length ≤ _;omega⟩
theorem PureFnExactTrimAutomaton (n : Int) (s f : List Int) (t : List Stp) (hn : (Lit.int .i64 n).wf = true) (hs : s.length ≤ maxLen) (hs2 : ∀ x ∈ s,(Lit.int .i64 x).wf = true) (hf : f.length ≤ maxLen) (hf2 : ∀ x ∈ f,(Lit.int .i64 x).wf = true) (ht : t.length ≤ maxLen) (ht2 : ∀ x ∈ t,(Lit.int .i64 x.f0).wf = true ∧ x.f1.size ≤ maxLen ∧ (Lit.int .i64 x.f2).wf = true ∧ (Lit.int .i64 x.f3).wf = true) : ∃ k,laws_FnExactTrimAutomaton.f k n s f t = some true:=by
 refine Ev.rounds (g:=fun k => laws_FnExactTrimAutomaton.f k n s f t) (r:=true) ?_
 unfold laws_FnExactTrimAutomaton.f
 obtain ⟨z,hz,hc⟩:=szAutomaton_ev n s f t hs hf ht (fun x hx => (ht2 x hx).2.1) 1048576 (by omega) (by omega)
 refine Ev.bind hz ?_
 by_cases h1 : z < 0
 ·exact Ev_t h1 (Ev.now _)
 have hc:=hc.resolve_left h1
 refine Ev_f h1 ?_
 have a1:=toAutomaton_ev n s f t hc.2.2.1 hc.2.2.2.1 hc.2.2.2.2
 have hT : (t.map cvS).length ≤ 1048576:=by rw [List.length_map];omega
 have b1:=sTrim n s f (t.map cvS) (by omega) (by omega) (by omega)
 have b2:=iTrim n s f (t.map cvS) (by omega) (by omega) (by omega)
 have hr:=trim_sm n s f (t.map cvS)
 obtain ⟨r,re⟩ : ∃ r,trimR n s f (t.map cvS) = r:=⟨_,rfl⟩
 rw [re] at b1 b2 hr
 have eqr:=eqR_ev r hr
 have eqa:=eqAutomaton_ev n s f (t.map cvS) (by omega) (by omega) (by omega)
 obtain ⟨z2,s',f',t',hmk,hz0,hz1⟩:=markAutomaton_ev n s f (t.map cvS) hc.2.2.1 hc.2.2.2.1 hT
 obtain ⟨z3,s3,f3,t3,hm3,hh3,hz3⟩:=markHeld r.1 r.2.1 r.2.2.1 r.2.2.2.1 hr.1 hr.2.1 hr.2.2
 refine Ev.bind a1 (Ev.bind b1 (Ev.bind a1 (Ev.bind b2 (Ev.bind eqr (Ev_t rfl (Ev_f (by simp) (Ev.bind a1 (Ev.bind eqa (Ev_t rfl ?_)))))))))
 refine Ev.bind hmk (Ev_f (by show ¬ z2 < 0;omega) (Ev.bind eqr (Ev_t rfl (Ev.bind hm3 (Ev.bind hh3 (Ev_f (by omega) (Ev_t rfl ?_)))))))
 refine Ev.bind a1 (Ev.bind b2 (Ev.bind eqr (Ev_t rfl (Ev_f (by simp) (Ev.bind hh3 (Ev_f (by omega) (Ev_t rfl (Ev.now _))))))))
end Go.Proofs.Ytoeeeafknajkkaa.V
end
