import Derived.Test.YtfgoojnblomonaaQFnExactWordElements1
import Derived.Orders
import Derived.Below
import Derived.DataReads
section
set_option linter.unusedVariables false
set_option linter.unusedSimpArgs false
namespace Go.Proofs.Ytfgoojnblomonaa.R
open Go Go.RowKit
section
variable {P : Program} {H : Hints} {C : Cx} {F : Nat → Prop} {M : Mp} {t : Nat → AV} {at' : Array Value} {w : World} {v : AV} {h h' : Heap} {κ0 : Nat}
theorem callM_sound {f : FuncId} {args : List AV} {vs : Array Value} (R : Rel C F M t (lk h) at' w) (hF : ∀ κ,κ0 ≤ κ → κ < κ0 + 16 → F κ) (hal : args.length = vs.size)
  (ha : ∀ (i : Nat) (u : AV) (V : Value),args[i]? = some u → vs[i]? = some V → VR w (C.ok M (lk h)) M u V) (ht : (callM H κ0 f args).To (CallSpec C.md P) h v h') :
  callable P f ∧ Calls P f vs w fun e w' => ∃ V,e = .returned V ∧ Out C (Fx F κ0) M t (lk h) (lk h') at' w v V w':=by
 unfold callM at ht
 generalize rwOf H f = rw at ht
 generalize dirOf H f = dir at ht
 unfold callG at ht
 obtain ⟨l,hl,ht⟩:=collect_spec _ _ _ ht (fun p hp => by cases hp)
 cases hnd : nodupB l with
 | false => simp only [hnd,Bool.not_false,cond_true] at ht;exact ht.elim
 | true =>
  simp only [hnd,Bool.not_true,cond_false] at ht
  have hnd:=nodup_of hnd
  have hρ:=Mcal_ren M l
  obtain ⟨im1,hc,t1,l1,a1,b1,c1⟩:=lendO_spec R hρ l [] hl ht
  obtain ⟨im2,args',t2,l2,a2,b2,c2⟩:=lend2L_spec R hρ args vs.toList im1 (by simpa using hal) (fun i u V p q => ha i u V p (by simpa using q)) t1
  obtain ⟨r,h1,⟨hcall,hspec⟩,t3⟩:=t2
  have him : ∀ κ ∈ im2,find l 0 (fun _ _ => 0) κ = none ∧ ∃ e cur c ao,lk h κ = some (.arr e cur c ao):=by
   intro κ q
   rcases b2 κ q with q|q
   ·rcases b1 κ q with q|q
    ·cases q
    ·exact q
   ·exact q
  obtain ⟨I,E,hI,hwrt,hIg⟩:=call_entry (rw:=rw) R hl hnd l1 him (fun j κ o q => by
   obtain ⟨o',x1,x2,x3,x4⟩:=c1 j κ o q
   exact ⟨o',x1,x2,x3,fun j' y1 y2 y3 I z1 z2 => x4 j' y1 y2 y3 I z1 (z2.sub a2)⟩) (by simpa using l2) (fun I z1 z2 i u V p q => c2 I z1 z2 i u V p (by simpa using q))
  cases hbk : (backOk hc h1 && Nat.ble h1.length (l.length + 12)) with
  | false => simp only [hbk,cond_false] at t3;exact t3.elim
  | true =>
   simp only [hbk,cond_true] at t3
   simp only [Bool.and_eq_true] at hbk
   obtain ⟨hbk,hsz⟩:=hbk
   have hsz:=Nat.le_of_ble_eq_true hsz
   refine ⟨hcall,(hspec w _ I vs E).mono ?_⟩
   rintro e w' ⟨V,M1,rfl,R1,hr⟩
   have heap : ∃ mark : Bool,((hasImm r || (bif rw then h1 else h1.drop l.length).any objImm) = true → mark = true) ∧ v = ren (backRen l h1 (κ0 + 1) (κ0 + 2)) r ∧
     (∀ j o,l.length ≤ j → h1[j]? = some o → lk h' (κ0 + 2 + (j - l.length)) = some (renO (backRen l h1 (κ0 + 1) (κ0 + 2)) (curOf o) o)) ∧
     (rw = true → ∀ (j κ : Nat) (o o' : Obj),l[j]? = some (κ,o) → h1[j]? = some o' → lk h' κ = some (renO (backRen l h1 (κ0 + 1) (κ0 + 2)) (bif Nat.beq (curOf o') 0 then curOf o else κ0 + 1) o')) ∧
     (∀ κ,¬ (κ0 + 2 ≤ κ ∧ κ < κ0 + 2 + (h1.length - l.length)) → (rw = true → ∀ (i : Nat) (o : Obj),l[i]? ≠ some (κ,o)) →
      lk h' κ = lk h κ ∧ (mark = true → κ ∉ im2) ∨ mark = true ∧ κ ∈ im2 ∧ ∃ e cur c ao,lk h κ = some (.arr e cur c ao) ∧ lk h' κ = some (.arr e cur c true)):=by
    have lF : ∀ (j κ : Nat) (o : Obj),l[j]? = some (κ,o) → ¬ F κ:=fun j κ o q z => by
     have:=hl _ (List.mem_of_getElem? q)
     rw [(R.fresh κ z).1] at this;cases this
    have tail : ∀ {ha : Heap},(bif rw then setBack (backRen l h1 (κ0 + 1) (κ0 + 2)) (κ0 + 1) l h1 (setAll (backRen l h1 (κ0 + 1) (κ0 + 2)) (κ0 + 2) (h1.drop l.length) (.ret (ren (backRen l h1 (κ0 + 1) (κ0 + 2)) r))) else setAll (backRen l h1 (κ0 + 1) (κ0 + 2)) (κ0 + 2) (h1.drop l.length) (.ret (ren (backRen l h1 (κ0 + 1) (κ0 + 2)) r))).To (CallSpec C.md P) ha v h' →
      v = ren (backRen l h1 (κ0 + 1) (κ0 + 2)) r ∧ (∀ j o,l.length ≤ j → h1[j]? = some o → lk h' (κ0 + 2 + (j - l.length)) = some (renO (backRen l h1 (κ0 + 1) (κ0 + 2)) (curOf o) o)) ∧
      (rw = true → ∀ (j κ : Nat) (o o' : Obj),l[j]? = some (κ,o) → h1[j]? = some o' → lk h' κ = some (renO (backRen l h1 (κ0 + 1) (κ0 + 2)) (bif Nat.beq (curOf o') 0 then curOf o else κ0 + 1) o')) ∧
      (∀ κ,¬ (κ0 + 2 ≤ κ ∧ κ < κ0 + 2 + (h1.length - l.length)) → (rw = true → ∀ (i : Nat) (o : Obj),l[i]? ≠ some (κ,o)) → lk h' κ = lk ha κ):=by
     intro ha hta
     have all : ∀ {hb : Heap},(setAll (backRen l h1 (κ0 + 1) (κ0 + 2)) (κ0 + 2) (h1.drop l.length) (.ret (ren (backRen l h1 (κ0 + 1) (κ0 + 2)) r))).To (CallSpec C.md P) hb v h' →
       v = ren (backRen l h1 (κ0 + 1) (κ0 + 2)) r ∧ (∀ j o,l.length ≤ j → h1[j]? = some o → lk h' (κ0 + 2 + (j - l.length)) = some (renO (backRen l h1 (κ0 + 1) (κ0 + 2)) (curOf o) o)) ∧ (∀ κ,¬ (κ0 + 2 ≤ κ ∧ κ < κ0 + 2 + (h1.length - l.length)) → lk h' κ = lk hb κ):=by
      intro hb htb
      obtain ⟨h2,⟨rfl,rfl⟩,x1,x2⟩:=setAll_spec _ _ htb
      refine ⟨rfl,fun j o y1 y2 => x2 (j - l.length) o (by rw [List.getElem?_drop,show l.length + (j - l.length) = j from by omega];exact y2),fun κ y => x1 κ (by simpa using y)⟩
     cases hr2 : rw with
     | false =>
      simp only [hr2,cond_false] at hta
      obtain ⟨y1,y2,y3⟩:=all hta
      exact ⟨y1,y2,fun z => by (cases z),fun κ z _ => y3 κ z⟩
     | true =>
      simp only [hr2,cond_true] at hta
      obtain ⟨h2,t4,x0,x1,x2⟩:=setBack_spec l h1 hta hnd
      obtain ⟨y1,y2,y3⟩:=all t4
      refine ⟨y1,y2,fun _ j κ o o' z1 z2 => ?_,fun κ z1 z2 => ?_⟩
      ·rw [y3 κ (fun q => lF j κ o z1 (hF κ (by omega) (by omega)))]
       exact x2 j κ o o' z1 z2
      ·rw [y3 κ z1,x1 κ (z2 rfl)]
    cases hmk : (hasImm r || (bif rw then h1 else h1.drop l.length).any objImm) with
    | true =>
     simp only [hmk,cond_true] at t3
     obtain ⟨h2,t4,x1,x2⟩:=markAo_spec _ t3
     obtain ⟨y1,y2,y3,y4⟩:=tail t4
     refine ⟨true,fun _ => rfl,y1,y2,y3,fun κ z1 z2 => ?_⟩
     by_cases hκ : κ ∈ im2
     ·obtain ⟨e,cur,c,ao,p1,p2⟩:=x2 κ hκ
      exact .inr ⟨rfl,hκ,e,cur,c,ao,p1,by rw [y4 κ z1 z2];exact p2⟩
     ·exact .inl ⟨by rw [y4 κ z1 z2];exact x1 κ hκ,fun _ => hκ⟩
    | false =>
     simp only [hmk,cond_false] at t3
     obtain ⟨y1,y2,y3,y4⟩:=tail t3
     exact ⟨false,fun q => by (cases q),y1,y2,y3,fun κ z1 z2 => .inl ⟨y4 κ z1 z2,fun q => by (cases q)⟩⟩
   obtain ⟨mark,hmark,rfl,n1,n2,n3⟩:=heap
   obtain ⟨M',x1,x2,x3⟩:=call_back (rw:=rw) (mark:=mark) (hN:=lk h') R hF hl hnd l1 (fun κ q => ⟨find_none (him κ q).1,(him κ q).2⟩)
    (fun hr2 j o q => by
     have hlt : j < l.length:=by rw [← l1];exact (List.getElem?_eq_some_iff.1 q).1
     obtain ⟨o',y1,y2,y3,_⟩:=c1 j _ _ (List.getElem?_eq_getElem hlt)
     rw [q] at y1
     simp only [Option.some.injEq] at y1
     subst y1
     rcases y3 with ⟨y,_⟩ | ⟨_,ro,cs,cs',_,y⟩
     ·rw [hr2] at y;cases y
     ·exact ⟨cs',y⟩)
    (fun hr2 j κ o o' q1 q2 => by
     obtain ⟨o'',y1,y2,y3,_⟩:=c1 j κ o q1
     rw [q2] at y1
     simp only [Option.some.injEq] at y1
     subst y1
     rcases y3 with ⟨_,y⟩ | ⟨y,_⟩
     ·exact ⟨_,y⟩
     ·rw [hr2] at y;cases y)
    hI hIg hwrt R1 hr hbk hsz hmark n1 n2 n3
   exact ⟨V,rfl,M',x1,x2,x3⟩
end
end Go.Proofs.Ytfgoojnblomonaa.R
end
section
set_option linter.unusedVariables false
set_option linter.unusedSimpArgs false
namespace Go.Proofs.Ytfgoojnblomonaa.R
open Go Go.RowKit
section
variable {P : Program} {H : Hints} {C : Cx} {F : Nat → Prop} {M : Mp} {w : World} {v : AV} {h' : Heap} {κ0 : Nat}
theorem Out.fx {t : Nat → AV} {h h2 : Nat → Option Obj} {at' : Array Value} {V : Value} {w' : World} (o : Out C F M t h h2 at' w v V w') : Out C (Fx F κ0) M t h h2 at' w v V w':=by
 obtain ⟨M',a,b,c⟩:=o
 exact ⟨M',a.weaken (fun κ q => q.1),b,c⟩
theorem lenOk_run {T : Nat} {x : AV} (h : lenOk P T x = true) : (∃ s,x = .str s) ∧ P.underlying T = some .string ∨ (∀ s,x ≠ .str s) ∧ ∃ e,P.underlying T = some (.slice e):=by
 unfold lenOk at h
 split at h
 ·rename_i hu
  split at h
  ·exact .inl ⟨⟨_,rfl⟩,hu⟩
  ·cases h
 ·rename_i e hu
  split at h
  ·cases h
  ·rename_i hx
   exact .inr ⟨fun s q => hx s q,e,hu⟩
 ·cases h
theorem one_arr {α : Type} {xs : Array α} {x : α} (h : xs.toList = [x]) : xs = #[x]:=Array.toList_inj.1 h
theorem two_arr {α : Type} {xs : Array α} {x y : α} (h : xs.toList = [x,y]) : xs = #[x,y]:=Array.toList_inj.1 h
theorem op_sound {s : St} {a : Act} {o : Oper} {next : Act → World → Prop} {Q : Exit → Act → World → Prop} (R : Rel C F M (getT s.t) (lk s.h) a.tmps w) (hF : ∀ κ,κ0 ≤ κ → κ < κ0 + 16 → F κ)
  (ht : (opM P H κ0 (evO s) o).To (CallSpec C.md P) s.h v h') (hn : ∀ V w',Out C (Fx F κ0) M (getT s.t) (lk s.h) (lk h') a.tmps w v V w' → next (a.put o.dst V) w') : o.wp P a w next Q:=by
 have E:=ev_VR (s:=s) R
 have pureOut : h' = s.h → ∀ V,VR w (C.ok M (lk s.h)) M v V → Out C (Fx F κ0) M (getT s.t) (lk s.h) (lk h') a.tmps w v V w:=fun e V hV => by
  subst e
  exact ⟨M,R.weaken (fun κ q => q.1),Kept.refl _ _ _ _,hV⟩
 have val : ∀ {V w'},(execOp a.eval o).run P w = .ok (.value V) w' → Out C (Fx F κ0) M (getT s.t) (lk s.h) (lk h') a.tmps w v V w' → o.wp P a w next Q:=fun hrun ho => by
  unfold Oper.wp
  rw [hrun]
  exact hn _ _ ho
 unfold opM at ht
 cases ho : o.op with
 | move x =>
  rw [ho] at ht
  obtain ⟨rfl,e⟩:=ht
  exact val (by simp [execOp,ho]) (pureOut e _ (E x))
 | assign x =>
  rw [ho] at ht
  obtain ⟨rfl,e⟩:=ht
  exact val (by simp [execOp,ho]) (pureOut e _ (E x))
 | pick c x y =>
  rw [ho] at ht
  have hc:=E c
  simp only at ht
  unfold branch at ht
  split at ht
  ·rename_i b hb
   rw [hb] at hc
   have hc:=hc.lit_inv
   by_cases hbt : b = true
   ·rw [if_pos hbt] at ht
    obtain ⟨rfl,e⟩:=ht
    exact val (by simp [execOp,ho,hc,hbt,asBool]) (pureOut e _ (E x))
   ·rw [if_neg hbt] at ht
    obtain ⟨rfl,e⟩:=ht
    exact val (by simp [execOp,ho,hc,hbt,asBool]) (pureOut e _ (E y))
  ·rename_i pol p d hb
   rw [hb] at hc
   have hc:=hc.bool_inv
   by_cases hp : p
   ·rw [if_pos hp] at ht
    cases pol with
    | true =>
     obtain ⟨rfl,e⟩:=ht
     exact val (by simp [execOp,ho,hc,hp,asBool]) (pureOut e _ (E x))
    | false =>
     obtain ⟨rfl,e⟩:=ht
     exact val (by simp [execOp,ho,hc,hp,asBool]) (pureOut e _ (E y))
   ·rw [if_neg hp] at ht
    cases pol with
    | true =>
     obtain ⟨rfl,e⟩:=ht
     exact val (by simp [execOp,ho,hc,hp,asBool]) (pureOut e _ (E y))
    | false =>
     obtain ⟨rfl,e⟩:=ht
     exact val (by simp [execOp,ho,hc,hp,asBool]) (pureOut e _ (E x))
  ·exact ht.elim
 | alloc e =>
  rw [ho] at ht
  obtain ⟨V,w',hr,hO⟩:=opAlloc_sound R hF ht
  exact val (by simp [execOp,ho,hr]) hO
 | box e x =>
  rw [ho] at ht
  obtain ⟨V,w',hr,hO⟩:=opBox_sound (P:=P) R hF (E x) ht
  exact val (by simp [execOp,ho,hr]) hO
 | build T ps =>
  rw [ho] at ht
  obtain ⟨V,hr,hO⟩:=opBuild_sound (PS:=(ps.map fun (i,x) => (i,a.eval x)).toList) R hF (by simp) (fun i p q h1 h2 => by
   simp only [List.getElem?_map,Array.toList_map] at h1 h2
   cases hp : ps.toList[i]? with
   | none => rw [hp] at h1;cases h1
   | some z =>
    rw [hp] at h1 h2
    cases h1
    cases h2
    exact ⟨rfl,E _⟩) ht
  exact val (by simp only [Array.toArray_toList] at hr;simp [execOp,ho,hr]) hO
 | buildSlice T n ps =>
  rw [ho] at ht
  obtain ⟨V,w',hr,hO⟩:=opBuildSlice_sound (PS:=(ps.map fun (i,x) => (i,a.eval x)).toList) R hF (by simp) (fun i p q h1 h2 => by
   simp only [List.getElem?_map,Array.toList_map] at h1 h2
   cases hp : ps.toList[i]? with
   | none => rw [hp] at h1;cases h1
   | some z =>
    rw [hp] at h1 h2
    cases h1
    cases h2
    exact ⟨rfl,E _⟩) ht
  exact val (by simp only [Array.toArray_toList] at hr;simp [execOp,ho,hr]) hO
 | load T x =>
  rw [ho] at ht
  obtain ⟨e,V,hr,hV⟩:=opLoad_sound R (E x) ht
  exact val (by simp [execOp,ho,hr]) (pureOut e _ hV)
 | store T x y =>
  rw [ho] at ht
  simp only at ht
  cases hi : (P.info? T).isSome with
  | false => simp only [hi,cond_false] at ht;exact ht.elim
  | true =>
   simp only [hi,cond_true] at ht
   obtain ⟨rfl,w',hr,R',K⟩:=opStore_sound R (E x) (E y) hi ht
   unfold Oper.wp
   have : (execOp a.eval o).run P w = .ok .skip w':=by simp [execOp,ho,hr]
   rw [this]
   exact hn _ _ ⟨M,R'.weaken (fun κ q => q.1),K,.dead _⟩
 | nilCheck x =>
  rw [ho] at ht
  obtain ⟨e,rfl,hX⟩:=opNilCheck_sound (E x) ht
  refine val (V:=a.eval x) (w':=w) ?_ (pureOut e _ (E x))
  rcases hX with ⟨b,hb⟩ | ⟨f,p,q,hb⟩
  ·simp [execOp,ho,hb]
  ·simp [execOp,ho,hb]
 | binOp op T x y T2 =>
  rw [ho] at ht
  obtain ⟨e,V,hr,hV⟩:=opBin_sound (ox:=x) (oy:=y) (E x) (E y) ht
  refine val (V:=V) (w':=w) ?_ (pureOut e _ hV)
  simp only [execOp,ho,Sem.run_bind] at hr ⊢
  rw [hr];rfl
 | unOp op T x =>
  rw [ho] at ht
  obtain ⟨e,V,hr,hV⟩:=opUn_sound (P:=P) (E x) ht
  exact val (by simp [execOp,ho,hr]) (pureOut e _ hV)
 | convert src dst x =>
  rw [ho] at ht
  simp only at ht
  cases hb : isBytes P src dst with
  | true =>
   simp only [hb,cond_true] at ht
   obtain ⟨e,V,hr,hV⟩:=opBytes_sound (P:=P) R hb (E x) ht
   exact val (by simp [execOp,ho,hr]) (pureOut e _ hV)
  | false =>
  simp only [hb,cond_false] at ht
  cases hb2 : isText P src dst with
  | true =>
   simp only [hb2,cond_true] at ht
   obtain ⟨V,w',hr,hO⟩:=opToBytes_sound (P:=P) R hF hb2 (E x) ht
   exact val (by simp [execOp,ho,hr]) hO
  | false =>
  simp only [hb2,cond_false] at ht
  cases hi : (P.underlying src).isSome with
  | false => simp only [hi,cond_false] at ht;exact ht.elim
  | true =>
   simp only [hi,cond_true] at ht
   obtain ⟨e,V,hr,hV⟩:=opConvert_sound (E x) hi ht
   exact val (by simp [execOp,ho,hr]) (pureOut e _ hV)
 | makeFunc fn first cap =>
  rw [ho] at ht
  simp only at ht
  split at ht
  ·rename_i f hf
   have hfirst : first = #[]:=Array.toList_eq_nil_iff.1 hf
   subst hfirst
   obtain ⟨rfl,e⟩:=ht
   refine val (V:=.func (.func f) #[] (cap.map a.eval)) (w':=w) (by simp [execOp,ho,Instr.makeFunc]) (pureOut e _ (.clo f _ _ (by simp) (fun i u U h1 h2 => ?_)))
   simp only [List.getElem?_map,Array.getElem?_map,Array.getElem?_toList] at h1 h2
   cases hp : cap[i]? with
   | none => rw [hp] at h1;cases h1
   | some z =>
    rw [hp] at h1 h2
    cases h1
    cases h2
    exact E _
  ·exact ht.elim
 | makeSlice T l c =>
  rw [ho] at ht
  obtain ⟨V,w',hr,hO⟩:=opMakeSlice_sound R hF (E l) (E c) ht
  exact val (by simp [execOp,ho,hr]) hO
 | slice T x lo hi mx =>
  rw [ho] at ht
  simp only at ht
  split at ht
  ·obtain ⟨V,hr,hO⟩:=opSlice_sound (LO:=lo.map a.eval) (HI:=hi.map a.eval) R (E x) (fun y q => by
    cases lo with
    | none => cases q
    | some z => cases q;exact ⟨_,rfl,E z⟩) (fun q => by
    cases lo with
    | none => rfl
    | some z => cases q) (fun y q => by
    cases hi with
    | none => cases q
    | some z => cases q;exact ⟨_,rfl,E z⟩) (fun q => by
    cases hi with
    | none => rfl
    | some z => cases q) ht
   exact val (by simp [execOp,ho,hr]) hO.fx
  ·exact ht.elim
 | fieldAddr T x f =>
  rw [ho] at ht
  obtain ⟨e,V,hr,hV⟩:=opFieldAddr_sound (E x) ht
  exact val (by simp [execOp,ho,hr]) (pureOut e _ hV)
 | field T x f =>
  rw [ho] at ht
  obtain ⟨e,V,hr,hV⟩:=opField_sound (E x) ht
  exact val (by simp [execOp,ho,hr]) (pureOut e _ hV)
 | indexAddr T x i =>
  rw [ho] at ht
  obtain ⟨e,V,hr,hV⟩:=opIndexAddr_sound R (E x) (E i) ht
  exact val (by simp [execOp,ho,hr]) (pureOut e _ hV)
 | index T x i =>
  rw [ho] at ht
  simp only at ht
  cases hs : strOk P T with
  | false => simp only [hs,cond_false] at ht;exact ht.elim
  | true =>
   simp only [hs,cond_true] at ht
   have hu : P.underlying T = some .string:=by
    unfold strOk at hs
    split at hs
    ·assumption
    ·cases hs
   obtain ⟨e,V,hr,hV⟩:=opIndex_sound (E x) (E i) hu ht
   exact val (by simp [execOp,ho,hr]) (pureOut e _ hV)
 | extract x i =>
  rw [ho] at ht
  obtain ⟨e,V,hr,hV⟩:=opExtract_sound (P:=P) (E x) ht
  exact val (by simp [execOp,ho,hr]) (pureOut e _ hV)
 | call c =>
  rw [ho] at ht
  simp only at ht
  split at ht
  ·rename_i b hb
   split at ht
   ·rename_i x T e1 e2
    obtain ⟨ox,hox,rfl⟩ : ∃ ox,c.args = #[ox] ∧ evO s ox = x:=by
     match hl : c.args.toList with
     | [] => rw [hl] at e1;simp at e1
     | [ox] => rw [hl] at e1;simp at e1;exact ⟨ox,one_arr hl,e1⟩
     | _ :: _ :: _ => rw [hl] at e1;simp at e1
    have hT:=one_arr e2
    cases hk : lenOk P T (evO s ox) with
    | false => simp only [hk,cond_false] at ht;exact ht.elim
    | true =>
     simp only [hk,cond_true] at ht
     obtain ⟨e,V,hr,hV⟩:=opLen_sound (ty:=o.type) R (E ox) (lenOk_run hk) ht
     exact val (by simp [execOp,ho,resolve,hb,invoke,builtin,hox,hT,hr]) (pureOut e _ hV)
   ·rename_i x y T U e1 e2
    obtain ⟨ox,oy,hox,rfl,rfl⟩ : ∃ ox oy,c.args = #[ox,oy] ∧ evO s ox = x ∧ evO s oy = y:=by
     match hl : c.args.toList with
     | [] => rw [hl] at e1;simp at e1
     | [_] => rw [hl] at e1;simp at e1
     | [ox,oy] => rw [hl] at e1;simp at e1;exact ⟨ox,oy,two_arr hl,e1.1,e1.2⟩
     | _ :: _ :: _ :: _ => rw [hl] at e1;simp at e1
    have hT:=two_arr e2
    cases hk : Nat.beq T U with
    | false => simp only [hk,cond_false] at ht;exact ht.elim
    | true =>
     simp only [hk,cond_true] at ht
     have:=beqT hk
     subst this
     obtain ⟨V,w',hr,hO⟩:=opAppend_sound (ty:=o.type) R hF (E ox) (E oy) ht
     exact val (by simp [execOp,ho,resolve,hb,invoke,builtin,hox,hT,hr]) hO
   ·obtain ⟨e,V,hr,hV⟩:=minL_sound (P:=P) (Xs:=(c.args.map a.eval).toList) (ts:=c.argTypes) (ty:=o.type) (by simp) (fun i u U h1 h2 => by
     simp only [List.getElem?_map,Array.toList_map] at h1 h2
     cases hp : c.args.toList[i]? with
     | none => rw [hp] at h1;cases h1
     | some z =>
      rw [hp] at h1 h2
      cases h1
      cases h2
      exact E _) ht
    exact val (by simp only [Array.toArray_toList] at hr;simp [execOp,ho,resolve,hb,invoke,builtin,hr]) (pureOut e _ hV)
   ·obtain ⟨e,V,hr,hV⟩:=maxL_sound (P:=P) (Xs:=(c.args.map a.eval).toList) (ts:=c.argTypes) (ty:=o.type) (by simp) (fun i u U h1 h2 => by
     simp only [List.getElem?_map,Array.toList_map] at h1 h2
     cases hp : c.args.toList[i]? with
     | none => rw [hp] at h1;cases h1
     | some z =>
      rw [hp] at h1 h2
      cases h1
      cases h2
      exact E _) ht
    exact val (by simp only [Array.toArray_toList] at hr;simp [execOp,ho,resolve,hb,invoke,builtin,hr]) (pureOut e _ hV)
   ·exact ht.elim
  ·rename_i f hf
   split at ht
   ·rename_i g cap hg
    have hcl:=E f
    rw [hg] at hcl
    obtain ⟨caps,hfv,hl,hh⟩:=hcl.clo_inv
    obtain ⟨hcall,hcalls⟩:=callM_sound (vs:=c.args.map a.eval ++ caps) R hF (by simp [hl]) (fun i u U h1 h2 => by
     rw [Array.getElem?_append] at h2
     rw [List.getElem?_append] at h1
     simp only [List.length_map,Array.length_toList,Array.size_map] at h1 h2
     split at h2
     ·rename_i hlt
      rw [if_pos hlt] at h1
      simp only [List.getElem?_map,Array.getElem?_map,Array.getElem?_toList] at h1 h2
      cases hp : c.args[i]? with
      | none => rw [hp] at h1;cases h1
      | some z =>
       rw [hp] at h1 h2
       cases h1
       cases h2
       exact E _
     ·rename_i hlt
      rw [if_neg hlt] at h1
      exact hh _ u U h1 h2) ht
    unfold Oper.wp
    have : (execOp a.eval o).run P w = .ok (.enter g (c.args.map a.eval ++ caps)) w:=by
     simp [execOp,ho,resolve,hf,hfv,Deferred.ofValue,invoke]
     exact hcall _ w
    rw [this,Oper.upon_enter]
    refine hcalls.mono ?_
    rintro e w' ⟨V,rfl,hO⟩
    exact hn V w' hO
   ·exact ht.elim
  ·exact ht.elim
 | _ => rw [ho] at ht;exact ht.elim
end
end Go.Proofs.Ytfgoojnblomonaa.R
end
section
set_option linter.unusedVariables false
set_option linter.unusedSimpArgs false
namespace Go.Proofs.Ytfgoojnblomonaa.R
open Go Go.RowKit
theorem branch_spec {w : World} {ok : Okk} {M : Mp} {v : AV} {V : Value} {x y : Option Res} {res : Res} (hv : VR w ok M v V) (h : branch v x y none = some res) : ∃ b : Bool,V = .bool b ∧ (b = true ∧ x = some res ∨ b = false ∧ y = some res):=by
 unfold branch at h
 split at h
 ·rename_i b
  refine ⟨b,hv.lit_inv,?_⟩
  cases b with
  | true => exact .inl ⟨rfl,by simpa using h⟩
  | false => exact .inr ⟨rfl,by simpa using h⟩
 ·rename_i pol p d
  refine ⟨_,hv.bool_inv,?_⟩
  by_cases hp : p
  ·rw [if_pos hp] at h
   cases pol with
   | true => exact .inl ⟨by simp [hp],h⟩
   | false => exact .inr ⟨by simp [hp],h⟩
  ·rw [if_neg hp] at h
   cases pol with
   | true => exact .inr ⟨by simp [hp],h⟩
   | false => exact .inl ⟨by simp [hp],h⟩
 ·cases h
theorem nth_eq : ∀ (l : List Oper) (n : Nat),nth l n = l[n]?
 | [],_ => by simp [nth]
 | _ :: _,0 => rfl
 | _ :: r,n + 1 => by simp [nth,nth_eq r n]
section
variable {P : Program} {H : Hints} {C : Cx} {F : Nat → Prop} {M : Mp} {w : World} {ops : Array Oper}
theorem guard_run {s : St} {a : Act} {o : Oper} {b : Bool} {ok : Okk} (hv : ∀ i,VR w ok M (getT s.t i) (a.tmps.getD i undef)) (h : guardSt ops.toList s o = some b) : Region.wanted o (yielded ops a.tmps) = b:=by
 unfold guardSt at h
 unfold Region.wanted
 split at h
 ·rename_i hg
  rw [hg]
  simpa using h
 ·rename_i j want hg
  rw [hg]
  rw [nth_eq,Array.getElem?_toList] at h
  split at h
  ·rename_i oj hoj
   split at h
   ·rename_i d hd
    split at h
    ·rename_i c hc
     have:=hv d
     rw [hc] at this
     have:=this.lit_inv
     have hlt : d < a.tmps.size:=by
      apply Classical.byContradiction
      intro q
      simp [Array.getD,q,undef] at this
     have e : a.tmps[d]? = some (.bool c):=by
      simp only [Array.getD,hlt,dif_pos] at this
      rw [Array.getElem?_eq_getElem hlt]
      exact congrArg some this
     simp only [yielded,hoj,Option.bind_some,hd,e]
     simpa using h
    ·rename_i hc
     have:=hv d
     rw [hc] at this
     obtain ⟨xs,e,hl,_⟩:=this.tup_inv
     have e2 : ∀ c : Bool,a.tmps[d]? ≠ some (.bool c):=fun c q => by
      have : a.tmps.getD d undef = .bool c:=by rw [Array.getD_eq_getD_getElem?,q];rfl
      have:=e.symm.trans this
      cases this
     have : yielded ops a.tmps j = none:=by
      unfold yielded
      rw [hoj,Option.bind_some,hd,Option.bind_some]
      split
      ·rename_i c q
       exact absurd q (e2 c)
      ·rfl
     show (yielded ops a.tmps j == some want) = b
     rw [this]
     simpa using h
    ·cases h
   ·cases h
  ·cases h
theorem put_rel {s : St} {a : Act} {h : Heap} {d : Option Nat} {v : AV} {V : Value} {nt : Nat} {q : St → Option Res} {res : Res} (R : Rel C F M (getT s.t) (lk h) a.tmps w) (hv : VR w (C.ok M (lk h)) M v V) (hnt : a.tmps.size = nt) (hq : putT nt s h d v q = some res) :
  ∃ s',q s' = some res ∧ Rel C F M (getT s'.t) (lk s'.h) (a.put d V).tmps w ∧ (a.put d V).tmps.size = nt ∧ (a.put d V).defers = a.defers ∧ s'.h = h ∧ s'.next = s.next ∧ (∀ i,getT s'.t i = if d = some i then v else getT s.t i):=by
 unfold putT at hq
 simp only [condH_eq] at hq
 cases d with
 | none => exact ⟨_,hq,R,hnt,rfl,rfl,rfl,fun i => by simp⟩
 | some d =>
  simp only at hq
  cases hb : Nat.blt d nt with
  | false => simp only [hb,cond_false] at hq;cases hq
  | true =>
   simp only [hb,cond_true] at hq
   have hd : d < nt:=Nat.le_of_ble_eq_true hb
   refine ⟨_,hq,R.put hv (by omega) (fun i => getT_cons d v s.t i),by simp [Act.put,hnt],rfl,rfl,rfl,fun i => ?_⟩
   show getT ((d,v) :: s.t) i = _
   rw [getT_cons]
   by_cases e : i = d
   ·subst e;simp
   ·have : ¬ (some d = some i):=fun q => e (by simpa using q.symm)
    rw [if_neg e,if_neg this]
def RegPost (C : Cx) (base n nt : Nat) (q : St → Option Res) (res : Res) : Exit → Act → World → Prop:=fun e a' w' =>
 e = .normal ∧ ∃ s' M',q s' = some res ∧ Rel C (fun κ => base + 16 * n ≤ κ) M' (getT s'.t) (lk s'.h) a'.tmps w' ∧ a'.tmps.size = nt ∧ a'.defers = [] ∧ s'.next = base
theorem runL_sound {O : Oracle} (hO : OSound (CallSpec C.md P) O) {base nt : Nat} {q : St → Option Res} {res : Res} : ∀ (r : List Oper) (i : Nat) (s : St) (M : Mp) (a : Act) (w : World),i ≤ ops.toList.length → ops.toList.drop i = r → Rel C (fun κ => base + 16 * i ≤ κ) M (getT s.t) (lk s.h) a.tmps w → a.tmps.size = nt → a.defers = [] → s.next = base →
  runL P H O ops.toList base nt r i s q = some res → wpOps P ops (RegPost C base ops.toList.length nt q res) ((List.range r.length).map (· + i)) a w
 | [],i,s,M,a,w,hin,hd,R,hnt,hdf,hnx,h => by
  have hi : ops.toList.length ≤ i:=by
   have:=congrArg List.length hd
   simp at this ⊢;omega
  exact ⟨rfl,s,M,h,R.weaken (fun κ hκ => by omega),hnt,hdf,hnx⟩
 | o :: r,i,s,M,a,w,hin,hd,R,hnt,hdf,hnx,h => by
  have hi : i < ops.toList.length:=by
   apply Classical.byContradiction
   intro q
   rw [List.drop_eq_nil_of_le (by omega)] at hd
   cases hd
  have ho : ops[i]? = some o:=by
   have : (ops.toList.drop i)[0]? = some o:=by rw [hd];rfl
   rw [List.getElem?_drop,Nat.add_zero,Array.getElem?_toList] at this
   exact this
  have hd' : ops.toList.drop (i + 1) = r:=by
   have:=congrArg List.tail hd
   rw [List.tail_drop] at this
   exact this
  have hidx : (List.range (o :: r).length).map (· + i) = i :: (List.range r.length).map (· + (i + 1)):=by
   rw [List.length_cons,List.range_succ_eq_map,List.map_cons,List.map_map]
   congr 1
   ·omega
   ·apply List.map_congr_left
    intro x _
    simp;omega
  rw [hidx]
  simp only [wpOps,ho]
  simp only [runL,condH_eq] at h
  split at h
  ·cases h
  ·rename_i hg
   have hw:=guard_run (ops:=ops) R.temps hg
   rw [if_neg (by rw [hw];simp)]
   obtain ⟨s',hq,R',h1,h2,h3,h4,_⟩:=put_rel (V:=undef) R (.tup [] #[] rfl (fun i v V q => by simp at q)) hnt h
   exact runL_sound hO r (i + 1) s' M _ w (by omega) hd' (R'.weaken (fun κ q => by omega)) h1 (h2.trans hdf) (h4.trans hnx) hq
  ·rename_i hg
   have hw:=guard_run (ops:=ops) R.temps hg
   rw [if_pos hw]
   left
   obtain ⟨v,h',hto,h⟩:=Ef.run_to hO _ _ h
   refine op_sound (F:=fun κ => base + 16 * i ≤ κ) R (fun κ x _ => x) hto (fun V w' hOut => ?_)
   obtain ⟨M',R',K,hv⟩:=hOut
   have fin : ∀ {u : AV},VR w' (C.ok M' (lk h')) M' u V → putT nt s h' o.dst u (fun s => runL P H O ops.toList base nt r (i + 1) s q) = some res →
     wpOps P ops (RegPost C base ops.toList.length nt q res) ((List.range r.length).map (· + (i + 1))) (a.put o.dst V) w':=by
    intro u hu hput
    obtain ⟨s',hq,R2,h1,h2,h3,h4,_⟩:=put_rel R' hu hnt hput
    exact runL_sound hO r (i + 1) s' M' _ w' (by omega) hd' (R2.weaken (fun κ q => ⟨by omega,by omega⟩)) h1 (h2.trans hdf) (h4.trans hnx) hq
   cases hT : isTarget ops.toList i with
   | false =>
    simp only [hT,cond_false] at h
    exact fin hv h
   | true =>
    simp only [hT,cond_true] at h
    obtain ⟨b,rfl,hb⟩:=branch_spec hv h
    rcases hb with ⟨rfl,hb⟩ | ⟨rfl,hb⟩
    ·exact fin (.closed (.lit true)) hb
    ·exact fin (.closed (.lit false)) hb
theorem reachP_spec {h : Heap} : ∀ (n : Nat) (todo : List Nat) (acc l : List (Nat × Obj)),reachP h n todo acc = some l → (∀ p ∈ acc,lk h p.1 = some p.2) → ∀ p ∈ l,lk h p.1 = some p.2
 | 0,_,_,_,e,_ => by cases e
 | n + 1,[],acc,l,e,ha => by
  simp only [reachP,Option.some.injEq] at e
  subst e
  exact ha
 | n + 1,κ :: r,acc,l,e,ha => by
  simp only [reachP] at e
  cases hh : has acc κ with
  | true =>
   simp only [hh,cond_true] at e
   exact reachP_spec n r acc l e ha
  | false =>
   simp only [hh,cond_false] at e
   split at e
   ·rename_i o ho
    refine reachP_spec n _ _ l e (fun p hp => ?_)
    rcases List.mem_append.1 hp with q|q
    ·exact ha p q
    ·simp only [List.mem_singleton] at q
     subst q
     exact ho
   ·cases e
theorem firstB_spec : ∀ (m : Nat) (l : List (Nat × Obj)) (j : Nat),firstB m l j = true → m ≤ l.length ∧ ∀ i,i < m → ∃ o,l[i]? = some (j + i,o)
 | 0,l,j,_ => ⟨Nat.zero_le _,fun i hi => by omega⟩
 | m + 1,[],j,h => by cases h
 | m + 1,(k,o) :: r,j,h => by
  simp only [firstB,Bool.and_eq_true] at h
  have:=beqT h.1
  subst this
  obtain ⟨h1,h2⟩:=firstB_spec m r (k + 1) h.2
  refine ⟨by simp;omega,fun i hi => ?_⟩
  match i with
  | 0 => exact ⟨o,rfl⟩
  | i + 1 =>
   obtain ⟨o',q⟩:=h2 i (by omega)
   exact ⟨o',by rw [List.getElem?_cons_succ,q];congr 2;omega⟩
def Mgc (st : Bool) (M : Mp) (m : Nat) (l : List (Nat × Obj)) : Mp where
 b:=fun j => match l[j]? with|some (κ,_) => M.b κ|none => none
 a:=fun j v => match l[j]? with|some (κ,o) => if v = ncOf st m j o then M.a κ (curOf o) else if j < m ∧ v = 0 then M.a κ 0 else none|none => none
 s:=fun j => match l[j]? with|some (κ,_) => M.s κ|none => none
theorem ncOf_le (st : Bool) (m j : Nat) (o : Obj) : ncOf st m j o ≤ 1:=by
 unfold ncOf
 cases Nat.blt j m <;> cases st <;> simp
 cases Nat.beq (curOf o) 0 <;> simp
theorem Mgc_ren (st : Bool) (M : Mp) (m : Nat) (l : List (Nat × Obj)) : RenOk (find l 0 (ncOf st m)) M (Mgc st M m l):=by
 intro κ j c n e
 obtain ⟨i,o,h1,h2,h3,h4⟩:=find_spec e
 subst h3
 subst h4
 rw [Nat.zero_add] at h2
 subst h2
 exact ⟨fun b hb => by simp [Mgc,h1,hb],fun V hV => by simp [Mgc,h1,hV],fun s hs => by simp [Mgc,h1,hs]⟩
theorem Rel.shrink (st : Bool) {t : Nat → AV} {h hN : Nat → Option Obj} {a : Array Value} (R : Rel C F M t h a w) {l : List (Nat × Obj)} (hl : ∀ p ∈ l,h p.1 = some p.2) (hnd : ∀ (i j κ : Nat) (o o' : Obj),l[i]? = some (κ,o) → l[j]? = some (κ,o') → i = j)
  (hm : C.m ≤ l.length) (hmi : ∀ i,i < C.m → ∃ o,l[i]? = some (i,o)) (hN1 : ∀ (j κ : Nat) (o : Obj),l[j]? = some (κ,o) → hN j = some (renO (find l 0 (ncOf st C.m)) (ncOf st C.m j o) o)) (hN2 : ∀ j,l.length ≤ j → hN j = none)
  {t' : Nat → AV} (ht : ∀ i,t' i = .dead ∨ ∃ v,(VR w (C.ok M h) M v (a.getD i undef)) ∧ t' i = ren (find l 0 (ncOf st C.m)) v) {F' : Nat → Prop} (hF' : ∀ κ,F' κ → l.length + 2 ≤ κ) :
  Rel C F' (Mgc st M C.m l) t' hN a w ∧ (∀ v V,VR w (C.ok M h) M v V → VR w (C.ok (Mgc st M C.m l) hN) (Mgc st M C.m l) (ren (find l 0 (ncOf st C.m)) v) V):=by
 have hρ:=Mgc_ren st M C.m l
 have at' : ∀ j ob,hN j = some ob → ∃ κ o,l[j]? = some (κ,o) ∧ h κ = some o ∧ ob = renO (find l 0 (ncOf st C.m)) (ncOf st C.m j o) o ∧ blkO (Mgc st M C.m l) j ob = blkO M κ o:=by
  intro j ob q
  cases hp : l[j]? with
  | none =>
   have:=hN2 j (by simpa using hp)
   rw [this] at q;cases q
  | some p =>
   obtain ⟨κ,o⟩:=p
   have e:=hN1 j κ o hp
   rw [q] at e
   simp only [Option.some.injEq] at e
   refine ⟨κ,o,rfl,hl _ (List.mem_of_getElem? hp),e,?_⟩
   rw [e]
   exact renO_blk (by simp [Mgc,hp]) (by simp [Mgc,hp])
 have wr : ∀ b o,wrt (Mgc st M C.m l) hN b o → wrt M h b o:=by
  rintro b o ⟨j,ob,q1,q2,q3⟩
  obtain ⟨κ,o1,x1,x2,rfl,x4⟩:=at' j ob q1
  rw [x4] at q2
  exact ⟨κ,o1,x2,q2,renO_w.1 q3⟩
 have okTo : OkTo w w (C.ok M h) (C.ok (Mgc st M C.m l) hN):=⟨fun b o V q1 q2 => ⟨q2,fun z => q1.1 (wr b o z),q1.2⟩,fun b q => q,Gr.refl w⟩
 refine ⟨⟨fun i => ?_,?_,?_,fun b o hb q => R.mold b o hb (wr b o q),R.lentm,?_,R.keep,R.frame,R.os,R.tape,R.output,R.size,R.grow,R.drw,fun κ hκ => ?_,fun κ hκ => by have:=hF' κ hκ;omega,fun κ hκ => ?_,?_⟩,fun v V hv => ren_VR hρ (fun _ => okTo) hv⟩
 ·rcases ht i with e | ⟨v,hv,e⟩
  ·rw [e];exact .dead _
  ·rw [e];exact ren_VR hρ (fun _ => okTo) hv
 ·intro j ob q
  obtain ⟨κ,o,x1,x2,rfl,x4⟩:=at' j ob q
  exact renO_OR hρ (fun _ => okTo) (fun b hb => by simp [Mgc,x1,hb]) (fun V hV => by simp [Mgc,x1,hV]) (fun s hs => by simp [Mgc,x1,hs]) (fun b _ => rfl) (R.objs κ o x2)
 ·intro j j' ob ob' b q1 q2 q3 q4
  obtain ⟨κ,o,x1,x2,_,x4⟩:=at' j ob q1
  obtain ⟨κ',o',y1,y2,_,y4⟩:=at' j' ob' q2
  rw [x4] at q3
  rw [y4] at q4
  have:=R.inj κ κ' o o' b x2 y2 q3 q4
  subst this
  exact hnd _ _ _ _ _ x1 y1
 ·intro j ob b o q1 q2 q3 q4
  obtain ⟨κ,o1,x1,x2,rfl,x4⟩:=at' j ob q1
  rw [x4] at q2
  exact R.acell κ o1 b o x2 q2 q3 (renO_cov.1 q4)
 ·have hlt:=hF' κ hκ
  have hn : l[κ]? = none:=List.getElem?_eq_none (by omega)
  refine ⟨hN2 κ (by omega),by simp [Mgc,hn],fun v => by simp [Mgc,hn],by simp [Mgc,hn],fun κ' => ?_⟩
  simp only [Mgc]
  cases hp : l[κ']? with
  | none => rfl
  | some p =>
   obtain ⟨k,o⟩:=p
   have:=ncOf_le st C.m κ' o
   simp only
   rw [if_neg (by omega),if_neg (by omega)]
 ·obtain ⟨o,hi⟩:=hmi κ hκ
  obtain ⟨_,e1,e2,e3⟩:=R.lent0 κ hκ
  refine ⟨⟨_,hN1 κ κ o hi⟩,by simp only [Mgc,hi];exact e1,?_,by simp only [Mgc,hi];exact e3⟩
  simp only [Mgc,hi]
  by_cases hz : (0 : Nat) = ncOf st C.m κ o
  ·rw [if_pos hz]
   have hc : curOf o = 0:=by
    unfold ncOf at hz
    have hb : Nat.blt κ C.m = true:=by
     show Nat.ble (κ + 1) C.m = true
     exact Nat.ble_eq_true_of_le (by omega)
    rw [hb] at hz
    simp only [cond_true] at hz
    cases st with
    | true => simp at hz
    | false =>
    simp only [cond_false] at hz
    cases hq : Nat.beq (curOf o) 0 with
    | true => exact beqT hq
    | false => simp [hq] at hz
   rw [hc];exact e2
  ·rw [if_neg hz,if_pos ⟨hκ,by trivial⟩];exact e2
 ·intro j v V hV
  simp only [Mgc] at hV
  cases hp : l[j]? with
  | none => rw [hp] at hV;cases hV
  | some p =>
   rw [hp] at hV
   simp only at hV
   split at hV
   ·exact R.vers _ _ _ hV
   ·split at hV
    ·exact R.vers _ _ _ hV
    ·cases hV
end
end Go.Proofs.Ytfgoojnblomonaa.R
end
section
set_option linter.unusedVariables false
set_option linter.unusedSimpArgs false
namespace Go.Proofs.Ytfgoojnblomonaa.R
open Go Go.RowKit
section
variable {P : Program} {H : Hints} {C : Cx} {F : Nat → Prop} {M : Mp} {t : Nat → AV} {a : Array Value} {w : World}
theorem Rel.rebox {h : Nat → Option Obj} (R : Rel C F M t h a w) {κ0 : Nat} {cs cs' : List AV} (ho : h κ0 = some (.box false cs)) (hl : cs'.length = cs.length)
  (hv : ∀ b c e,M.b κ0 = some b → w.heap[b]? = some (.cells c e (0,0)) → ∀ (j : Nat) (v : AV) (V : Value),cs'[j]? = some v → c[j]? = some V → VR w (C.ok M h) M v V) :
  Rel C F M t (Go.Proofs.Ytfgoojnblomonaa.R.upd h κ0 (.box false cs')) a w ∧ Kept C M M h (Go.Proofs.Ytfgoojnblomonaa.R.upd h κ0 (.box false cs')) w w:=by
 have hu:=R.upd (F':=F) (M':=M) (w':=w) κ0 (.box false cs') M.le_refl (fun κ hκ => ⟨rfl,fun _ => rfl,rfl⟩) (fun b hb => .inl rfl) (fun b o V _ hc => hc)
  (fun hk => by
   obtain ⟨b,c,e,h1,h2,h3,h4⟩:=R.objs κ0 _ ho
   exact ⟨b,c,e,h1,h2,by rw [hl];exact h3,fun j v V x y => (hv b c e h1 h2 j v V x y).mono hk M.le_refl⟩)
  (fun b hb => .inl ⟨_,ho,hb⟩) (fun b o hb hw _ => ⟨_,ho,hb,hw⟩) (fun b o hb hlt hc => hc.elim)
  (fun κ hκ => by
   obtain ⟨g1,g2,g3,g4,g5⟩:=R.fresh κ hκ
   exact ⟨hκ,fun e => (by rw [e,ho] at g1;cases g1),g5 κ0⟩)
  (fun hm => ⟨rfl,rfl,rfl⟩) (fun v V hV => R.vers κ0 v V hV) rfl rfl rfl (Nat.le_refl _) (Gr.refl w)
 exact ⟨hu.1,M.le_refl,hu.2⟩
theorem sealC_sound : ∀ (cs : List AV) (Vs : List Value) {h h' : Heap} {cs' : List AV},sealC h cs = some (cs',h') → Rel C F M t (lk h) a w → cs.length = Vs.length → (∀ (i : Nat) (v : AV) (V : Value),cs[i]? = some v → Vs[i]? = some V → VR w (C.ok M (lk h)) M v V) →
  Rel C F M t (lk h') a w ∧ Kept C M M (lk h) (lk h') w w ∧ cs'.length = cs.length ∧ (∀ (i : Nat) (v : AV) (V : Value),cs'[i]? = some v → Vs[i]? = some V → VR w (C.ok M (lk h')) M v V) ∧ ∀ κ ro bs,lk h' κ = some (.box ro bs) ↔ lk h κ = some (.box ro bs)
 | [],Vs,h,h',cs',e,R,hl,hv => by
  simp only [sealC,Option.some.injEq,Prod.mk.injEq] at e
  obtain ⟨rfl,rfl⟩:=e
  exact ⟨R,Kept.refl _ _ _ _,rfl,fun i v V q => by simp at q,fun _ _ _ => Iff.rfl⟩
 | v :: vs,[],h,h',cs',e,R,hl,hv => by simp at hl
 | v :: vs,V :: Vs,h,h',cs',e,R,hl,hv => by
  have keep : ∀ {h1 : Heap} {v1 : AV} {vs1 : List AV} {h2 : Heap},Rel C F M t (lk h1) a w → Kept C M M (lk h) (lk h1) w w → VR w (C.ok M (lk h1)) M v1 V → (∀ κ ro bs,lk h1 κ = some (.box ro bs) ↔ lk h κ = some (.box ro bs)) → sealC h1 vs = some (vs1,h2) →
    Rel C F M t (lk h2) a w ∧ Kept C M M (lk h) (lk h2) w w ∧ (v1 :: vs1).length = (v :: vs).length ∧ (∀ (i : Nat) (u : AV) (U : Value),(v1 :: vs1)[i]? = some u → (V :: Vs)[i]? = some U → VR w (C.ok M (lk h2)) M u U) ∧ ∀ κ ro bs,lk h2 κ = some (.box ro bs) ↔ lk h κ = some (.box ro bs):=by
   intro h1 v1 vs1 h2 R1 K1 hv1 hb e1
   obtain ⟨R2,K2,l2,v2,b2⟩:=sealC_sound vs Vs e1 R1 (by simpa using hl) (fun i u U x y => (hv (i + 1) u U (by simpa using x) (by simpa using y)).kept K1)
   refine ⟨R2,K1.trans K2,by simp [l2],fun i u U x y => ?_,fun κ ro bs => (b2 κ ro bs).trans (hb κ ro bs)⟩
   match i with
   | 0 =>
    simp only [List.getElem?_cons_zero,Option.some.injEq] at x y
    subst x
    subst y
    exact hv1.kept K2
   | i + 1 => exact v2 i u U (by simpa using x) (by simpa using y)
  have h0:=hv 0 v V rfl rfl
  simp only [sealC] at e
  split at e
  ·rename_i κ ver
   split at e
   ·rename_i el cur c ao ho
    cases hq : Nat.beq cur ver with
    | false => simp only [hq,cond_false] at e;cases e
    | true =>
     simp only [hq,cond_true] at e
     have:=beqT hq
     subst this
     split at e
     ·rename_i vs1 h2 e1
      simp only [Option.some.injEq,Prod.mk.injEq] at e
      obtain ⟨rfl,rfl⟩:=e
      obtain ⟨x,n,cap,g1,rfl⟩:=h0.sl_inv
      obtain ⟨R',K,hc⟩:=R.close ho
      rw [← lk_upd] at R' K
      have hc:=hc _ g1
      rw [← lk_upd] at hc
      refine keep R' K (.closed hc) (fun κ' ro bs => ?_) e1
      rw [lk_cons]
      by_cases ek : κ' = κ
      ·subst ek;rw [if_pos rfl,ho];simp
      ·rw [if_neg ek]
     ·cases e
   ·cases e
  ·split at e
   ·rename_i vs1 h2 e1
    simp only [Option.some.injEq,Prod.mk.injEq] at e
    obtain ⟨rfl,rfl⟩:=e
    exact keep R (Kept.refl _ _ _ _) h0 (fun _ _ _ => Iff.rfl) e1
   ·cases e
theorem sealT_sound {h h' : Heap} {v v' : AV} {V : Value} (e : sealT h v = some (v',h')) (R : Rel C F M t (lk h) a w) (hv : VR w (C.ok M (lk h)) M v V) : Rel C F M t (lk h') a w ∧ Kept C M M (lk h) (lk h') w w ∧ VR w (C.ok M (lk h')) M v' V:=by
 unfold sealT at e
 split at e
 ·rename_i κ off
  split at e
  ·rename_i cs ho
   split at e
   ·rename_i cs' h1 e1
    simp only [Option.some.injEq,Prod.mk.injEq] at e
    obtain ⟨rfl,rfl⟩:=e
    obtain ⟨b,c,el,g1,g2,g3,g4⟩:=R.objs κ _ ho
    obtain ⟨R1,K1,l1,v1,b1⟩:=sealC_sound cs c.toList e1 R (by simp [g3]) (fun i u U x y => g4 i u U x (by simpa using y))
    obtain ⟨R2,K2⟩:=R1.rebox ((b1 κ false cs).2 ho) l1 (fun b' c' e' x y j u U p q => by
     rw [g1] at x
     simp only [Option.some.injEq] at x
     subst x
     rw [g2] at y
     simp only [Option.some.injEq,Go.Obj.cells.injEq] at y
     obtain ⟨rfl,_⟩:=y
     exact v1 j u U p (by simpa using q))
    rw [← lk_upd] at R2 K2
    exact ⟨R2,K1.trans K2,hv.kept (K1.trans K2)⟩
   ·cases e
  ·cases e
 ·rename_i cs
  split at e
  ·rename_i cs' h1 e1
   simp only [Option.some.injEq,Prod.mk.injEq] at e
   obtain ⟨rfl,rfl⟩:=e
   obtain ⟨vs,rfl,hl,hh⟩:=hv.agg_inv
   obtain ⟨R1,K1,l1,v1,b1⟩:=sealC_sound cs vs.toList e1 R (by simpa using hl) (fun i u U x y => hh i u U x (by simpa using y))
   exact ⟨R1,K1,.agg _ _ (by rw [l1];exact hl) (fun i u U x y => v1 i u U x (by simpa using y))⟩
  ·cases e
 ·split at e
  ·rename_i v1 h1 e1
   simp only [Option.some.injEq,Prod.mk.injEq] at e
   obtain ⟨rfl,rfl⟩:=e
   obtain ⟨R1,K1,l1,vv,b1⟩:=sealC_sound [v] [V] e1 R rfl (fun i u U x y => by
    match i with
    | 0 => simp at x y;subst x;subst y;exact hv
    | i + 1 => simp at x)
   exact ⟨R1,K1,vv 0 _ V rfl rfl⟩
  ·cases e
theorem markT_sound {h h' : Heap} {v : AV} {V : Value} (e : markT h v = some h') (R : Rel C F M t (lk h) a w) (hv : VR w (C.ok M (lk h)) M v V) : Rel C F M t (lk h') a w ∧ Kept C M M (lk h) (lk h') w w:=by
 unfold markT at e
 split at e
 ·rename_i κ off
  split at e
  ·rename_i cs ho
   split at e
   ·rename_i cs' h1 e1
    simp only [Option.some.injEq] at e
    subst e
    obtain ⟨b,c,el,g1,g2,g3,g4⟩:=R.objs κ _ ho
    obtain ⟨R1,K1,_⟩:=sealC_sound cs c.toList e1 R (by simp [g3]) (fun i u U x y => g4 i u U x (by simpa using y))
    exact ⟨R1,K1⟩
   ·cases e
  ·cases e
 ·split at e
  ·rename_i v1 h1 e1
   simp only [Option.some.injEq] at e
   subst e
   obtain ⟨R1,K1,_⟩:=sealC_sound [v] [V] e1 R rfl (fun i u U x y => by
    match i with
    | 0 => simp at x y;subst x;subst y;exact hv
    | i + 1 => simp at x)
   exact ⟨R1,K1⟩
  ·cases e
theorem pickT_sound {s : St} (hs : t = getT s.t) : ∀ (ts : List (Nat × Nat)) {h h' : Heap} {l : List (Nat × AV)},pickT s ts h = some (l,h') → Rel C F M t (lk h) a w →
  Rel C F M t (lk h') a w ∧ Kept C M M (lk h) (lk h') w w ∧ ∀ p ∈ l,VR w (C.ok M (lk h')) M p.2 (a.getD p.1 undef)
 | [],h,h',l,e,R => by
  simp only [pickT,Option.some.injEq,Prod.mk.injEq] at e
  obtain ⟨rfl,rfl⟩:=e
  exact ⟨R,Kept.refl _ _ _ _,fun p q => by cases q⟩
 | (i,sl) :: ts,h,h',l,e,R => by
  simp only [pickT] at e
  split at e
  ·split at e
   ·rename_i l2 h2 e2
    simp only [Option.some.injEq,Prod.mk.injEq] at e
    obtain ⟨rfl,rfl⟩:=e
    obtain ⟨R2,K2,a2⟩:=pickT_sound hs ts e2 R
    refine ⟨R2,K2,fun p q => ?_⟩
    rcases List.mem_cons.1 q with rfl|q
    ·have h0:=R2.temps i
     rw [hs] at h0
     exact h0
    ·exact a2 p q
   ·cases e
  ·split at e
   ·rename_i v h1 e1
    split at e
    ·rename_i l2 h2 e2
     simp only [Option.some.injEq,Prod.mk.injEq] at e
     obtain ⟨rfl,rfl⟩:=e
     have h0:=R.temps i
     rw [hs] at h0
     obtain ⟨R1,K1,v1⟩:=sealT_sound e1 R h0
     obtain ⟨R2,K2,a2⟩:=pickT_sound hs ts e2 R1
     refine ⟨R2,K1.trans K2,fun p q => ?_⟩
     rcases List.mem_cons.1 q with rfl|q
     ·exact v1.kept K2
     ·exact a2 p q
    ·cases e
   ·cases e
  ·split at e
   ·rename_i h1 e1
    split at e
    ·rename_i l2 h2 e2
     simp only [Option.some.injEq,Prod.mk.injEq] at e
     obtain ⟨rfl,rfl⟩:=e
     have h0:=R.temps i
     rw [hs] at h0
     obtain ⟨R1,K1⟩:=markT_sound e1 R h0
     obtain ⟨R2,K2,a2⟩:=pickT_sound hs ts e2 R1
     refine ⟨R2,K1.trans K2,fun p q => ?_⟩
     rcases List.mem_cons.1 q with rfl|q
     ·have h0:=R2.temps i
      rw [hs] at h0
      exact h0
     ·exact a2 p q
    ·cases e
   ·cases e
theorem number_lk {st : Bool} {m : Nat} {ρ : Ren} : ∀ (l : List (Nat × Obj)) (j : Nat),(∀ (i κ : Nat) (o : Obj),l[i]? = some (κ,o) → lk (number st m ρ j l) (j + i) = some (renO ρ (ncOf st m (j + i) o) o)) ∧ ∀ i,(i < j ∨ j + l.length ≤ i) → lk (number st m ρ j l) i = none
 | [],j => ⟨fun i κ o q => by simp at q,fun _ _ => rfl⟩
 | (k,o) :: r,j => by
  obtain ⟨h1,h2⟩:=number_lk (st:=st) (m:=m) (ρ:=ρ) r (j + 1)
  refine ⟨fun i κ u q => ?_,fun i q => ?_⟩
  ·match i with
   | 0 =>
    simp only [List.getElem?_cons_zero,Option.some.injEq,Prod.mk.injEq] at q
    obtain ⟨rfl,rfl⟩:=q
    simp only [number,Nat.add_zero,lk_cons,if_true]
   | i + 1 =>
    simp only [number,lk_cons]
    rw [if_neg (by omega)]
    have:=h1 i κ u (by simpa using q)
    rw [show j + 1 + i = j + (i + 1) from by omega] at this
    exact this
  ·simp only [List.length_cons] at q
   simp only [number,lk_cons]
   rw [if_neg (by omega)]
   exact h2 i (by omega)
theorem getT_map {f : AV → AV} : ∀ (l : List (Nat × AV)) (i : Nat),getT (l.map fun p => (p.1,f p.2)) i = .dead ∨ ∃ p ∈ l,p.1 = i ∧ getT (l.map fun p => (p.1,f p.2)) i = f p.2
 | [],i => .inl rfl
 | (k,v) :: r,i => by
  simp only [List.map_cons,getT_cons]
  by_cases e : i = k
  ·subst e
   exact .inr ⟨(i,v),List.mem_cons_self ..,rfl,by simp⟩
  ·rw [if_neg e]
   rcases getT_map r i with q | ⟨p,q1,q2,q3⟩
   ·exact .inl q
   ·exact .inr ⟨p,List.mem_cons_of_mem _ q1,q2,q3⟩
theorem gc_sound {st : Bool} {m : Nat} {ts : List (Nat × Nat)} {s s' : St} (hm : C.m = m) (e : gc st m ts s = some s') (R : Rel C F M (getT s.t) (lk s.h) a w) : ∃ M',Rel C (fun κ => s'.next ≤ κ) M' (getT s'.t) (lk s'.h) a w:=by
 subst hm
 unfold gc at e
 split at e
 ·rename_i l h e1
  split at e
  ·rename_i keys e2
   cases hq : (nodupB keys && firstB C.m keys 0) with
   | false => simp only [hq,cond_false] at e;cases e
   | true =>
    simp only [hq,cond_true,Option.some.injEq] at e
    subst e
    simp only [Bool.and_eq_true] at hq
    obtain ⟨R1,K1,v1⟩:=pickT_sound rfl ts e1 R
    have hl:=reachP_spec _ _ _ _ e2 (fun p q => by cases q)
    obtain ⟨f1,f2⟩:=firstB_spec _ _ _ hq.2
    obtain ⟨n1,n2⟩:=number_lk (st:=st) (m:=C.m) (ρ:=find keys 0 (ncOf st C.m)) keys 0
    refine ⟨_,(R1.shrink st (hN:=lk (number st C.m (find keys 0 (ncOf st C.m)) 0 keys)) hl (nodup_of hq.1) f1 (fun i hi => by simpa using f2 i hi) (fun j κ o q => by simpa using n1 j κ o q) (fun j q => n2 j (.inr (by omega))) (fun i => ?_) (fun κ q => q)).1⟩
    rcases getT_map l i with q | ⟨p,q1,q2,q3⟩
    ·exact .inl q
    ·refine .inr ⟨p.2,?_,q3⟩
     rw [← q2];exact v1 p q1
  ·cases e
 ·cases e
end
end Go.Proofs.Ytfgoojnblomonaa.R
end
section
set_option linter.unusedVariables false
set_option linter.unusedSimpArgs false
namespace Go.Proofs.Ytfgoojnblomonaa.R
open Go Go.RowKit
section
variable {P : Program} {H : Hints} {C : Cx} {F : Nat → Prop} {M : Mp} {t : Nat → AV} {a : Array Value} {w : World}
theorem fin1_sound {h h' : Heap} {v v' : AV} {V : Value} {hs hs' : List (Bool × Nat)} {nx nx' : Nat} (e : fin1 H v hs h nx = some (v',hs',h',nx')) (R : Rel C (fun κ => nx ≤ κ) M t (lk h) a w) (hv : VR w (C.ok M (lk h)) M v V) :
  ∃ M',Rel C (fun κ => nx' ≤ κ) M' t (lk h') a w ∧ Kept C M M' (lk h) (lk h') w w ∧ VR w (C.ok M' (lk h')) M' v' V:=by
 unfold fin1 at e
 split at e
 ·rename_i κ ver
  split at e
  ·rename_i fr el hs1 e' cur c ao ho
   cases hq : Nat.beq cur ver with
   | false => simp only [hq,cond_false] at e;cases e
   | true =>
    simp only [hq,cond_true] at e
    have:=beqT hq
    subst this
    cases fr with
    | true =>
     simp only [cond_true] at e
     cases ao with
     | true => simp at e
     | false =>
      simp only [cond_false,Option.some.injEq,Prod.mk.injEq] at e
      obtain ⟨rfl,rfl,rfl,rfl⟩:=e
      exact ⟨M,R,Kept.refl _ _ _ _,hv⟩
    | false =>
     simp only [cond_false,Option.some.injEq,Prod.mk.injEq] at e
     obtain ⟨rfl,rfl,rfl,rfl⟩:=e
     obtain ⟨x,n,cap,g1,rfl⟩:=hv.sl_inv
     obtain ⟨R',K,hc⟩:=R.close ho
     rw [← lk_upd] at R' K
     have hc:=hc _ g1
     rw [← lk_upd] at hc
     exact ⟨M,R',K,.closed hc⟩
  ·cases e
 ·split at e
  ·rename_i fr el hs1
   split at e
   ·rename_i kn hk
    have hV:=hv.nilsl_inv
    subst hV
    obtain ⟨n1,n2⟩:=nil_spec kn
    cases fr with
    | true =>
     simp only [cond_true,Option.some.injEq,Prod.mk.injEq] at e
     obtain ⟨rfl,rfl,rfl,rfl⟩:=e
     obtain ⟨R1,K1⟩:=R.newNil (κ0:=nx) (Nat.le_refl _) el kn.nil n1
     rw [← lk_upd] at R1 K1
     exact ⟨_,R1.weaken (fun κ q => ⟨by omega,by omega⟩),K1,.sl nx 0 none 0 0 (by simp [Mp.newA])⟩
    | false =>
     simp only [cond_false,Option.some.injEq,Prod.mk.injEq] at e
     obtain ⟨rfl,rfl,rfl,rfl⟩:=e
     refine ⟨M,R,Kept.refl _ _ _ _,?_⟩
     have : CR w (C.ok M (lk h)) (.imm kn.nil) (.slice none kn.nil.len 0):=CR.imm_of (by omega) (fun q => by omega) (fun b o e i j hi => by omega)
     rw [n1] at this
     exact .closed this
   ·cases e
  ·cases e
 ·split at e
  ·rename_i fr el hs1
   cases fr with
   | true => simp at e
   | false =>
    simp only [cond_false,Option.some.injEq,Prod.mk.injEq] at e
    obtain ⟨rfl,rfl,rfl,rfl⟩:=e
    exact ⟨M,R,Kept.refl _ _ _ _,hv⟩
  ·cases e
 ·simp only [Option.some.injEq,Prod.mk.injEq] at e
  obtain ⟨rfl,rfl,rfl,rfl⟩:=e
  exact ⟨M,R,Kept.refl _ _ _ _,hv.norm⟩
theorem finL_sound : ∀ (vs : List AV) (Vs : List Value) {M : Mp} {h h' : Heap} {vs' : List AV} {hs hs' : List (Bool × Nat)} {nx nx' : Nat},finL H vs hs h nx = some (vs',hs',h',nx') → Rel C (fun κ => nx ≤ κ) M t (lk h) a w → vs.length = Vs.length → (∀ (i : Nat) (v : AV) (V : Value),vs[i]? = some v → Vs[i]? = some V → VR w (C.ok M (lk h)) M v V) →
  ∃ M',Rel C (fun κ => nx' ≤ κ) M' t (lk h') a w ∧ Kept C M M' (lk h) (lk h') w w ∧ vs'.length = Vs.length ∧ ∀ (i : Nat) (v : AV) (V : Value),vs'[i]? = some v → Vs[i]? = some V → VR w (C.ok M' (lk h')) M' v V
 | [],Vs,M,h,h',vs',hs,hs',nx,nx',e,R,hl,hv => by
  simp only [finL,Option.some.injEq,Prod.mk.injEq] at e
  obtain ⟨rfl,rfl,rfl,rfl⟩:=e
  exact ⟨M,R,Kept.refl _ _ _ _,hl,fun i v V q => by simp at q⟩
 | v :: vs,[],M,h,h',vs',hs,hs',nx,nx',e,R,hl,hv => by simp at hl
 | v :: vs,V :: Vs,M,h,h',vs',hs,hs',nx,nx',e,R,hl,hv => by
  simp only [finL] at e
  split at e
  ·rename_i v1 hs1 h1 nx1 e1
   split at e
   ·rename_i vs1 r1 e2
    obtain ⟨hs2,h2,nx2⟩:=r1
    simp only [Option.some.injEq,Prod.mk.injEq] at e
    obtain ⟨rfl,rfl,rfl,rfl⟩:=e
    obtain ⟨M1,R1,K1,w1⟩:=fin1_sound e1 R (hv 0 v V rfl rfl)
    obtain ⟨M2,R2,K2,l2,w2⟩:=finL_sound vs Vs e2 R1 (by simpa using hl) (fun i u U x y => (hv (i + 1) u U (by simpa using x) (by simpa using y)).kept K1)
    refine ⟨M2,R2,K1.trans K2,by simp [l2],fun i u U x y => ?_⟩
    match i with
    | 0 =>
     simp only [List.getElem?_cons_zero,Option.some.injEq] at x y
     subst x
     subst y
     exact w1.kept K2
    | i + 1 => exact w2 i u U (by simpa using x) (by simpa using y)
   ·cases e
  ·cases e
theorem fin2_sound {h h' : Heap} {v v' : AV} {V : Value} {hs hs' : List (Bool × Nat)} {nx nx' : Nat} (e : fin2 H v hs h nx = some (v',hs',h',nx')) (R : Rel C (fun κ => nx ≤ κ) M t (lk h) a w) (hv : VR w (C.ok M (lk h)) M v V) :
  ∃ M',Rel C (fun κ => nx' ≤ κ) M' t (lk h') a w ∧ Kept C M M' (lk h) (lk h') w w ∧ VR w (C.ok M' (lk h')) M' v' V:=by
 unfold fin2 at e
 split at e
 ·rename_i cs
  split at e
  ·rename_i cs' r1 e1
   obtain ⟨hs2,h2,nx2⟩:=r1
   simp only [Option.some.injEq,Prod.mk.injEq] at e
   obtain ⟨rfl,rfl,rfl,rfl⟩:=e
   obtain ⟨vs,rfl,hl,hh⟩:=hv.agg_inv
   obtain ⟨M1,R1,K1,l1,w1⟩:=finL_sound cs vs.toList e1 R (by simpa using hl) (fun i u U x y => hh i u U x (by simpa using y))
   exact ⟨M1,R1,K1,.agg _ _ (by simpa using l1) (fun i u U x y => w1 i u U x (by simpa using y))⟩
  ·cases e
 ·exact fin1_sound e R hv
theorem fin2L_sound : ∀ (vs : List AV) (Vs : List Value) {M : Mp} {h h' : Heap} {vs' : List AV} {hs hs' : List (Bool × Nat)} {nx nx' : Nat},fin2L H vs hs h nx = some (vs',hs',h',nx') → Rel C (fun κ => nx ≤ κ) M t (lk h) a w → vs.length = Vs.length → (∀ (i : Nat) (v : AV) (V : Value),vs[i]? = some v → Vs[i]? = some V → VR w (C.ok M (lk h)) M v V) →
  ∃ M',Rel C (fun κ => nx' ≤ κ) M' t (lk h') a w ∧ Kept C M M' (lk h) (lk h') w w ∧ vs'.length = Vs.length ∧ ∀ (i : Nat) (v : AV) (V : Value),vs'[i]? = some v → Vs[i]? = some V → VR w (C.ok M' (lk h')) M' v V
 | [],Vs,M,h,h',vs',hs,hs',nx,nx',e,R,hl,hv => by
  simp only [fin2L,Option.some.injEq,Prod.mk.injEq] at e
  obtain ⟨rfl,rfl,rfl,rfl⟩:=e
  exact ⟨M,R,Kept.refl _ _ _ _,hl,fun i v V q => by simp at q⟩
 | v :: vs,[],M,h,h',vs',hs,hs',nx,nx',e,R,hl,hv => by simp at hl
 | v :: vs,V :: Vs,M,h,h',vs',hs,hs',nx,nx',e,R,hl,hv => by
  simp only [fin2L] at e
  split at e
  ·rename_i v1 hs1 h1 nx1 e1
   split at e
   ·rename_i vs1 r1 e2
    obtain ⟨hs2,h2,nx2⟩:=r1
    simp only [Option.some.injEq,Prod.mk.injEq] at e
    obtain ⟨rfl,rfl,rfl,rfl⟩:=e
    obtain ⟨M1,R1,K1,w1⟩:=fin2_sound e1 R (hv 0 v V rfl rfl)
    obtain ⟨M2,R2,K2,l2,w2⟩:=fin2L_sound vs Vs e2 R1 (by simpa using hl) (fun i u U x y => (hv (i + 1) u U (by simpa using x) (by simpa using y)).kept K1)
    refine ⟨M2,R2,K1.trans K2,by simp [l2],fun i u U x y => ?_⟩
    match i with
    | 0 =>
     simp only [List.getElem?_cons_zero,Option.some.injEq] at x y
     subst x
     subst y
     exact w1.kept K2
    | i + 1 => exact w2 i u U (by simpa using x) (by simpa using y)
   ·cases e
  ·cases e
abbrev resM (tm : Array Value) (r : ResultVar) : Sem Value:=match r with
 | .tmp t => pure (tm.getD t undef)
 | .cell a t => do loadVar t (← asAddr (tm.getD a undef))
theorem cellV_run {F : Nat → Prop} {s : St} {tm : Array Value} {i t : Nat} {v : AV} (R : Rel C F M (getT s.t) (lk s.h) tm w) (h : cellV P s i t = some v) : ∃ V,(resM tm (.cell i t)).run P w = .ok V w ∧ VR w (C.ok M (lk s.h)) M v V:=by
 unfold cellV at h
 split at h
 ·rename_i κ off hp
  split at h
  ·rename_i ro cs ho
   have hv:=R.temps i
   rw [hp] at hv
   obtain ⟨b,hb,e⟩:=hv.ptr_inv
   obtain ⟨b',c,e',h1,h2,h3,h4⟩:=R.objs κ _ ho
   rw [hb] at h1
   simp only [Option.some.injEq] at h1
   subst h1
   split at h
   ·rename_i u hu
    simp only [Option.some.injEq] at h
    subst h
    obtain ⟨_,V,hV,hr⟩:=partOf_sound (P:=P) (T:=t) (cs:=cs.drop off) (CS:=fun _ _ _ _ _ => True) (h:=s.h) (h':=s.h) (v:=u) (M:=M) (b:=b) (o:=off) (fun j u hu => by
     rw [List.getElem?_drop] at hu
     have hlt : off + j < c.size:=by have:=(List.getElem?_eq_some_iff.1 hu).1;omega
     exact ⟨c[off + j],by rw [cell_of_row w b (off + j) c e' (0,0) h2];simp [hlt],h4 (off + j) u _ hu (by simp [hlt])⟩) (by rw [hu];exact ⟨rfl,rfl⟩)
    refine ⟨V,?_,hr⟩
    show (do loadVar t (← asAddr (tm.getD i undef))).run P w = _
    rw [e]
    simp [asAddr,hV]
   ·cases h
  ·cases h
 ·cases h
theorem resVals_run {F : Nat → Prop} {s : St} {tm : Array Value} (R : Rel C F M (getT s.t) (lk s.h) tm w) : ∀ (rs : List ResultVar) (l : List AV),resVals P s rs = some l →
  ∃ Vs : List Value,(rs.mapM (resM tm)).run P w = .ok Vs w ∧ l.length = Vs.length ∧ ∀ (i : Nat) (v : AV) (V : Value),l[i]? = some v → Vs[i]? = some V → VR w (C.ok M (lk s.h)) M v V
 | [],l,e => by
  simp only [resVals,Option.some.injEq] at e
  subst e
  exact ⟨[],rfl,rfl,fun i v V q => by simp at q⟩
 | .tmp i :: r,l,e => by
  simp only [resVals] at e
  split at e
  ·rename_i l1 e1
   simp only [Option.some.injEq] at e
   subst e
   obtain ⟨Vs,h1,h2,h3⟩:=resVals_run R r l1 e1
   refine ⟨tm.getD i undef :: Vs,?_,by simp [h2],fun k v V p q => ?_⟩
   ·rw [List.mapM_cons]
    simp only [Sem.run_bind,Sem.run_pure,Result.andThen_ok,h1]
   ·match k with
    | 0 =>
     simp only [List.getElem?_cons_zero,Option.some.injEq] at p q
     subst p
     subst q
     exact R.temps i
    | k + 1 => exact h3 k v V (by simpa using p) (by simpa using q)
  ·cases e
 | .cell a t :: r,l,e => by
  simp only [resVals] at e
  split at e
  ·rename_i v0 e0
   split at e
   ·rename_i l1 e1
    simp only [Option.some.injEq] at e
    subst e
    obtain ⟨Vs,h1,h2,h3⟩:=resVals_run R r l1 e1
    obtain ⟨V0,g1,g2⟩:=cellV_run R e0
    refine ⟨V0 :: Vs,?_,by simp [h2],fun k v V p q => ?_⟩
    ·rw [List.mapM_cons]
     simp only [Sem.run_bind,g1,Sem.run_pure,Result.andThen_ok,h1]
    ·match k with
     | 0 =>
      simp only [List.getElem?_cons_zero,Option.some.injEq] at p q
      subst p
      subst q
      exact g2
     | k + 1 => exact h3 k v V (by simpa using p) (by simpa using q)
   ·cases e
  ·cases e
def wrapA : List AV → AV
 | [v] => v
 | vs => .tup vs
def wrapC : List Value → Value
 | [V] => V
 | Vs => .tuple Vs.toArray
theorem results_run {fn : Func} {tm : Array Value} {Vs : List Value} (h : (fn.results.toList.mapM (resM tm)).run P w = .ok Vs w) : (results fn tm).run P w = .ok (wrapC Vs) w:=by
 unfold results
 rw [Array.mapM_eq_mapM_toList]
 simp only [Sem.run_bind,Sem.run_map,Sem.run_pure]
 refine (congrArg (fun z => (z.andThen fun (a : List Value) w' => Result.ok a.toArray w').andThen fun (a : Array Value) w' => Result.ok (if h : a.size = 1 then a[0] else Value.tuple a) w') h).trans ?_
 simp only [Result.andThen_ok]
 match Vs with
 | [] => rfl
 | [i] => rfl
 | i :: j :: r => rw [dif_neg (by simp)];rfl
theorem wrapV_spec {ok : Okk} {vs : List AV} {Vs : List Value} (hv : ∀ (i : Nat) (v : AV) (V : Value),vs[i]? = some v → Vs[i]? = some V → VR w ok M v V) (hl : vs.length = Vs.length) : VR w ok M (wrapA vs) (wrapC Vs):=by
 match vs,Vs,hl with
 | [],[],_ => exact .tup _ _ rfl (fun i u U p => by simp at p)
 | [v],[V],_ => exact hv 0 v V rfl rfl
 | v :: v2 :: vr,V :: V2 :: Vr,hl => exact .tup _ _ (by simpa using hl) (fun i u U p q => hv i u U p (by simpa using q))
theorem objs_at {st : Bool} {m : Nat} {ρ : Ren} : ∀ (l : List (Nat × Obj)) (j i κ : Nat) (o : Obj),l[i]? = some (κ,o) → (objs st m ρ j l)[i]? = some (renO ρ (ncOf st m (j + i) o) o)
 | [],j,i,κ,o,q => by simp at q
 | (k,u) :: r,j,i,κ,o,q => by
  match i with
  | 0 =>
   simp only [List.getElem?_cons_zero,Option.some.injEq,Prod.mk.injEq] at q
   obtain ⟨rfl,rfl⟩:=q
   rfl
  | i + 1 =>
   simp only [objs,List.getElem?_cons_succ]
   have:=objs_at (st:=st) (m:=m) (ρ:=ρ) r (j + 1) i κ o (by simpa using q)
   rw [show j + 1 + i = j + (i + 1) from by omega] at this
   exact this
theorem objs_len {st : Bool} {m : Nat} {ρ : Ren} : ∀ (l : List (Nat × Obj)) (j : Nat),(objs st m ρ j l).length = l.length
 | [],_ => rfl
 | (k,o) :: r,j => by simp [objs,objs_len r (j + 1)]
theorem fin_sound {fn : Func} {fh : FH} {s : St} {tm : Array Value} {r : AV} {h1 : List Obj} (e : fin P H C.m fn fh s = some (r,h1)) (R : Rel C (fun κ => s.next ≤ κ) M (getT s.t) (lk s.h) tm w) :
  ∃ V M1,(results fn tm).run P w = .ok V w ∧ Rel C (fun _ => False) M1 (fun _ => .dead) (lf h1) #[] w ∧ VR w (C.ok M1 (lf h1)) M1 r V:=by
 unfold fin at e
 split at e
 ·rename_i vs ev
  split at e
  ·rename_i vs' hs' h nx e1
   obtain ⟨Vs,x1,x2,x3⟩:=resVals_run R _ _ ev
   obtain ⟨M1,R1,K1,l1,v1⟩:=fin2L_sound vs Vs e1 R x2 x3
   have hV : VR w (C.ok M1 (lk h)) M1 (wrapA vs') (wrapC Vs):=wrapV_spec v1 l1
   simp only at e
   split at e
   ·rename_i keys e2
    cases hq : (nodupB keys && firstB C.m keys 0) with
    | false => simp only [hq,cond_false] at e;cases e
    | true =>
     simp only [hq,cond_true,Option.some.injEq,Prod.mk.injEq] at e
     obtain ⟨rfl,rfl⟩:=e
     simp only [Bool.and_eq_true] at hq
     have hl:=reachP_spec _ _ _ _ e2 (fun p q => by cases q)
     obtain ⟨f1,f2⟩:=firstB_spec _ _ _ hq.2
     have R1' : Rel C (fun κ => nx ≤ κ) M1 (fun _ => .dead) (lk h) #[] w:={ R1 with temps:=fun i => .dead _ }
     obtain ⟨R2,hren⟩:=R1'.shrink fh.st (hN:=lf (objs fh.st C.m (find keys 0 (ncOf fh.st C.m)) 0 keys)) hl (nodup_of hq.1) f1 (fun i hi => by simpa using f2 i hi) (fun j κ o q => by have:=objs_at (st:=fh.st) (m:=C.m) (ρ:=find keys 0 (ncOf fh.st C.m)) keys 0 j κ o q;rw [Nat.zero_add] at this;exact this) (fun j q => lf_none (by rw [objs_len];exact q)) (t':=fun _ => .dead) (fun i => .inl rfl) (F':=fun _ => False) (fun κ q => q.elim)
     exact ⟨_,_,results_run x1,R2,hren _ _ hV⟩
   ·cases e
  ·cases e
 ·cases e
end
theorem exitTo_app {id : Nat} : ∀ (l k k' : List Item),exitTo id l = some k' → exitTo id (l ++ k) = some (k' ++ k)
 | [],k,k',e => by simp [exitTo] at e
 | x :: l,k,k',e => by
  cases x with
  | inBlock id' =>
   simp only [exitTo] at e
   simp only [List.cons_append,exitTo]
   split
   ·rename_i hq
    rw [if_pos hq] at e
    simp only [Option.some.injEq] at e
    rw [e]
   ·rename_i hq
    rw [if_neg hq] at e
    exact exitTo_app l k k' e
  | _ => simp only [exitTo] at e;simp only [List.cons_append,exitTo];exact exitTo_app l k k' e
section
variable {P : Program} {H : Hints} {C : Cx} {fn : Func} {fh : FH}
def FinOK (P : Program) (C : Cx) (fn : Func) (res : Res) (a : Act) (w : World) : Prop :=
 a.defers = [] ∧ ∃ V M1,(results fn a.tmps).run P w = .ok V w ∧ Rel C (fun _ => False) M1 (fun _ => .dead) (lf res.2) #[] w ∧ VR w (C.ok M1 (lf res.2)) M1 res.1 V
def Good (P : Program) (C : Cx) (fn : Func) (todo : List Item) (s : St) (res : Res) : Prop :=
 ∀ M a w,Rel C (fun κ => s.next ≤ κ) M (getT s.t) (lk s.h) a.tmps w → a.tmps.size = fn.ntmps → a.defers = [] → ∀ (b : Frame) (k : List Item) (cs : List Frame),
  ∃ e a' w',(e = .normal ∨ e = .ret) ∧ FinOK P C fn res a' w' ∧ Arrives P (lone (b.at a (todo ++ k)) cs w) b k cs e a' w'
def RegSound (P : Program) (H : Hints) (C : Cx) (nt : Nat) : Prop := ∀ (O : Oracle),OSound (CallSpec C.md P) O → ∀ (id : Nat) (ops : Array Oper) (draw : Bool) (s : St) (q : St → Option Res) (res : Res) (M : Mp) (a : Act) (w : World),
 runReg P H O ops draw nt s q = some res → Rel C (fun κ => s.next ≤ κ) M (getT s.t) (lk s.h) a.tmps w → a.tmps.size = nt → a.defers = [] → (Code.region id ops draw).wp P (RegPost C s.next ops.toList.length nt q res) a w
theorem region_step (hR : RegSound P H C fn.ntmps) {O : Oracle} (hO : OSound (CallSpec C.md P) O) {id : Nat} {ops : Array Oper} {draw : Bool} {s : St} {rest : List Item} {nxt : St → Option Res} {res : Res}
  (h : runReg P H O ops draw fn.ntmps s (fun s' => nxt ⟨s'.t,s'.h,s.next + 16 * ops.toList.length⟩) = some res) (hn : ∀ s',nxt s' = some res → Good P C fn rest s' res) : Good P C fn (.code (.region id ops draw) :: rest) s res:=by
 intro M a w R hnt hd b k cs
 obtain ⟨e,a',w',⟨rfl,s',M',q1,q2,q3,q4,q5⟩,harr⟩:=hR O hO id ops draw s _ res M a w h R hnt hd b (rest ++ k) cs
 obtain ⟨e2,a2,w2,x1,x2,x3⟩:=hn _ q1 M' a' w' q2 q3 q4 b k cs
 exact ⟨e2,a2,w2,x1,x2,.of_steps harr x3⟩
theorem seg_sound (hR : RegSound P H C fn.ntmps) {O : Oracle} (hO : OSound (CallSpec C.md P) O) {nxt : List Item → St → Option Res} {res : Res} (hn : ∀ todo s,nxt todo s = some res → Good P C fn todo s res) :
  ∀ (j : Nat) (todo : List Item) (s : St),seg P H O C.m fn fh nxt j todo s = some res → Good P C fn todo s res
 | 0,todo,s,h => by cases h
 | j + 1,todo,s,h => by
  have ih:=seg_sound hR hO hn j
  have h : segStep P H O C.m fn fh nxt (seg P H O C.m fn fh nxt j) todo s = some res:=h
  unfold segStep at h
  split at h
  ·intro M a w R hnt hd b k cs
   obtain ⟨V,M1,y1,y2,y3⟩:=fin_sound (P:=P) h R
   exact ⟨.normal,a,w,.inl rfl,⟨hd,V,M1,y1,y2,y3⟩,Steps.refl P _⟩
  ·intro M a w R hnt hd b k cs
   obtain ⟨V,M1,y1,y2,y3⟩:=fin_sound (P:=P) h R
   exact ⟨.ret,a,w,.inr rfl,⟨hd,V,M1,y1,y2,y3⟩,_,.one step_ret⟩
  ·intro M a w R hnt hd b k cs
   obtain ⟨e,a',w',x1,x2,x3⟩:=ih _ _ h M a w R hnt hd b k cs
   exact ⟨e,a',w',x1,x2,.of_steps (.one step_skip) x3⟩
  ·intro M a w R hnt hd b k cs
   obtain ⟨e,a',w',x1,x2,x3⟩:=ih _ _ h M a w R hnt hd b k cs
   exact ⟨e,a',w',x1,x2,.of_steps (.one step_label) x3⟩
  ·intro M a w R hnt hd b k cs
   obtain ⟨e,a',w',x1,x2,x3⟩:=ih _ _ h M a w R hnt hd b k cs
   exact ⟨e,a',w',x1,x2,.of_steps (.one step_inBlock) x3⟩
  ·intro M a w R hnt hd b k cs
   obtain ⟨e,a',w',x1,x2,x3⟩:=ih _ _ h M a w R hnt hd b k cs
   exact ⟨e,a',w',x1,x2,.of_steps (.one step_seq) x3⟩
  ·rename_i c x y k0 _
   intro M a w R hnt hd b k cs
   obtain ⟨v,hv,hb⟩:=branch_spec (ev_VR R c) h
   rcases hb with ⟨rfl,hb⟩ | ⟨rfl,hb⟩
   ·obtain ⟨e,a',w',x1,x2,x3⟩:=ih _ _ hb M a w R hnt hd b k cs
    exact ⟨e,a',w',x1,x2,.of_steps (.one (step_cond (y:=y) hv)) x3⟩
   ·obtain ⟨e,a',w',x1,x2,x3⟩:=ih _ _ hb M a w R hnt hd b k cs
    exact ⟨e,a',w',x1,x2,.of_steps (.one (step_cond (x:=x) hv)) x3⟩
  ·intro M a w R hnt hd b k cs
   obtain ⟨e,a',w',x1,x2,x3⟩:=ih _ _ h M a w R hnt hd b k cs
   exact ⟨e,a',w',x1,x2,.of_steps (.one step_block) x3⟩
  ·intro M a w R hnt hd b k cs
   obtain ⟨e,a',w',x1,x2,x3⟩:=ih _ _ h M a w R hnt hd b k cs
   exact ⟨e,a',w',x1,x2,.of_steps (.one step_loop) x3⟩
  ·intro M a w R hnt hd b k cs
   obtain ⟨e,a',w',x1,x2,x3⟩:=ih _ _ h M a w R hnt hd b k cs
   exact ⟨e,a',w',x1,x2,.of_steps (.one step_inLoop) x3⟩
  ·rename_i id k0 _
   split at h
   ·rename_i k' hk
    intro M a w R hnt hd b k cs
    obtain ⟨e,a',w',x1,x2,x3⟩:=ih _ _ h M a w R hnt hd b k cs
    exact ⟨e,a',w',x1,x2,.of_steps (.one (step_exit (exitTo_app k0 k k' hk))) x3⟩
   ·cases h
  ·rename_i id ops draw k0
   split at h
   ·rename_i ts hts
    split at h
    ·rename_i s' hs'
     intro M a w R hnt hd b k cs
     obtain ⟨M',R'⟩:=gc_sound rfl hs' R
     exact hn _ _ h M' a w R' hnt hd b k cs
    ·cases h
   ·exact region_step hR hO h (fun s' q => ih _ _ q)
  ·cases h
theorem exec_sound (hR : RegSound P H C fn.ntmps) {O : Nat → Oracle} {res : Res} : ∀ (k : Nat),(∀ j,j < k → OSound (CallSpec C.md P) (O j)) → ∀ (todo : List Item) (s : St),exec P H O C.m fn fh k todo s = some res → Good P C fn todo s res
 | 0,hO,todo,s,h => by cases h
 | k + 1,hO,todo,s,h => by
  have ih:=exec_sound hR (res:=res) k (fun j hj => hO j (by omega))
  have hO:=hO k (Nat.lt_succ_self k)
  have h : (match (generalizing:=false) todo with
   | .code (.region id ops draw) :: rest => runReg P H (O k) ops draw fn.ntmps s fun s' => seg P H (O k) C.m fn fh (exec P H O C.m fn fh k) 100000 rest ⟨s'.t,s'.h,s.next + 16 * ops.toList.length⟩
   | _ => none) = some res:=h
  split at h
  ·exact region_step hR hO h (fun s' q => seg_sound hR hO ih _ _ _ q)
  ·cases h
theorem zip_getT (args : List AV) (i : Nat) : getT ((List.range args.length).zip args) i = args.getD i .dead:=by
 have key : ∀ (l : List AV) (n : Nat),getT ((List.range' n l.length).zip l) i = if n ≤ i then l.getD (i - n) .dead else .dead:=by
  intro l
  induction l with
  | nil => intro n;simp [getT]
  | cons v l ih =>
   intro n
   rw [List.length_cons,List.range'_succ,List.zip_cons_cons,getT_cons,ih]
   by_cases e : i = n
   ·subst e;simp
   ·rw [if_neg e]
    by_cases h1 : n + 1 ≤ i
    ·rw [if_pos h1,if_pos (by omega),show i - n = (i - (n + 1)) + 1 from by omega];simp
    ·rw [if_neg h1,if_neg (by omega)]
 rw [List.range_eq_range',key args 0];simp
theorem zip_lk (os : List Obj) : lk ((List.range os.length).zip os) = lf os:=by
 funext i
 have key : ∀ (l : List Obj) (n : Nat),lk ((List.range' n l.length).zip l) i = if n ≤ i then l[i - n]? else none:=by
  intro l
  induction l with
  | nil => intro n;simp [lk]
  | cons v l ih =>
   intro n
   rw [List.length_cons,List.range'_succ,List.zip_cons_cons,lk_cons,ih]
   by_cases e : i = n
   ·subst e;simp
   ·rw [if_neg e]
    by_cases h1 : n + 1 ≤ i
    ·rw [if_pos h1,if_pos (by omega),show i - n = (i - (n + 1)) + 1 from by omega];simp
    ·rw [if_neg h1,if_neg (by omega)]
 rw [List.range_eq_range',key os 0];simp [lf]
theorem fn_sound {md : Bool} {f : FuncId} {c : Code} (hf : P.funcs[f]? = some fn) (hb : fn.body = some c) (hcall : callable P f) {O : Nat → Oracle} {k : Nat} (hO : ∀ j,j ≤ k → OSound (CallSpec md P) (O j)) (hR : ∀ C,RegSound P H C fn.ntmps) {args : List AV} {hc : List Obj} {r : AV} {h1 : List Obj}
  (hn : args.length ≤ fn.ntmps) (h : start P H O hc.length fn fh k args hc = some (r,h1)) : CallSpec md P f args hc r h1:=by
 refine ⟨hcall,fun w M I vs E => calls_of_wp hf hb ?_⟩
 intro b kk cs
 have hbody : bodyOf fn = c:=by simp [bodyOf,hb]
 unfold start at h
 rw [hbody] at h
 have G:=seg_sound (C:=Cx.call md w M I hc) (hR _) (hO k (Nat.le_refl k)) (exec_sound (hR _) k (fun j hj => hO j (by omega))) _ _ _ h
 have hsz : (vs ++ Array.replicate (fn.ntmps - vs.size) undef).size = fn.ntmps:=by
  have:=E.len
  simp;omega
 have R0:=E.rel md
 have R1 : Rel (Cx.call md w M I hc) (fun κ => hc.length + 2 ≤ κ) M (getT ((List.range args.length).zip args)) (lk ((List.range hc.length).zip hc)) (vs ++ Array.replicate (fn.ntmps - vs.size) undef) w:=by
  rw [zip_lk]
  refine { R0 with temps:=fun i => ?_ }
  rw [zip_getT]
  by_cases hi : i < args.length
  ·have h1 : args[i]? = some args[i]:=List.getElem?_eq_getElem hi
   have hi' : i < vs.size:=by have:=E.len;omega
   have e1 : args.getD i .dead = args[i]:=by simp [List.getD_eq_getElem?_getD,hi]
   have e2 : (vs ++ Array.replicate (fn.ntmps - vs.size) undef).getD i undef = vs[i]:=by
    rw [Array.getD_eq_getD_getElem?,Array.getElem?_append,if_pos hi',Array.getElem?_eq_getElem hi'];rfl
   rw [e1,e2]
   exact E.args i _ _ h1 (Array.getElem?_eq_getElem hi')
  ·have : args.getD i .dead = .dead:=by simp [List.getD_eq_getElem?_getD,List.getElem?_eq_none (show args.length ≤ i from by omega)]
   rw [this];exact .dead _
 obtain ⟨e,a',w',he,⟨x1,V,M1,x2,x3,x4⟩,harr⟩:=G M ⟨_,[]⟩ w R1 hsz rfl b kk cs
 refine ⟨e,a',w',?_,harr⟩
 rcases he with rfl|rfl
 ·exact ⟨x1,V,x2,V,M1,rfl,x3,x4⟩
 ·exact ⟨x1,V,x2,V,M1,rfl,x3,x4⟩
end
end Go.Proofs.Ytfgoojnblomonaa.R
end
section
set_option linter.unusedVariables false
set_option linter.unusedSimpArgs false
namespace Go.Proofs.Ytfgoojnblomonaa.R
open Go Go.RowKit
abbrev Hf:=Nat → Option Obj
abbrev Tf:=Nat → AV
abbrev CSp:=FuncId → List AV → List Obj → AV → List Obj → Prop
inductive Ef.TF (CS : CSp) : Ef → Hf → List Nat → List Nat → AV → Hf → List Nat → List Nat → Prop
  | ret (v : AV) (h : Hf) (rs ws : List Nat) : TF CS (.ret v) h rs ws v h rs ws
  | getH (κ : Nat) (k : Option Obj → Ef) (h h' : Hf) (rs ws rs' ws' : List Nat) (v : AV) (x : TF CS (k (h κ)) h (κ :: rs) ws v h' rs' ws') : TF CS (.getH κ k) h rs ws v h' rs' ws'
  | setH (κ : Nat) (o : Obj) (k : Ef) (h h' : Hf) (rs ws rs' ws' : List Nat) (v : AV) (x : TF CS k (upd h κ o) rs (κ :: ws) v h' rs' ws') : TF CS (.setH κ o k) h rs ws v h' rs' ws'
  | brT (p : Prop) (d : Decidable p) (x y : Ef) (h h' : Hf) (rs ws rs' ws' : List Nat) (v : AV) (hp : p) (z : TF CS x h rs ws v h' rs' ws') : TF CS (.br p d x y) h rs ws v h' rs' ws'
  | brF (p : Prop) (d : Decidable p) (x y : Ef) (h h' : Hf) (rs ws rs' ws' : List Nat) (v : AV) (hp : ¬ p) (z : TF CS y h rs ws v h' rs' ws') : TF CS (.br p d x y) h rs ws v h' rs' ws'
  | call (f : FuncId) (args : List AV) (hc : List Obj) (k : AV → List Obj → Ef) (r : AV) (h1 : List Obj) (h h' : Hf) (rs ws rs' ws' : List Nat) (v : AV) (c : CS f args hc r h1) (x : TF CS (k r h1) h rs ws v h' rs' ws') : TF CS (.call f args hc k) h rs ws v h' rs' ws'
theorem Ef.runF_tf {CS : CSp} {O : Oracle} (hO : OSound CS O) {q : AV → Heap → List Nat → List Nat → Option Res} {res : Res} :
    ∀ (m : Ef) (h : Heap) (rs ws : List Nat),m.runF O h rs ws q = some res → ∃ v h' rs' ws',m.TF CS (lk h) rs ws v (lk h') rs' ws' ∧ q v h' rs' ws' = some res:=by
  intro m
  induction m with
  | ret v => exact fun h rs ws e => ⟨v,h,rs,ws,.ret _ _ _ _,e⟩
  | fail => exact fun h rs ws e => by cases e
  | getH κ k ih =>
    intro h rs ws e
    obtain ⟨v,h',rs',ws',x,y⟩:=ih _ _ _ _ e
    exact ⟨v,h',rs',ws',.getH _ _ _ _ _ _ _ _ _ x,y⟩
  | setH κ o k ih =>
    intro h rs ws e
    obtain ⟨v,h',rs',ws',x,y⟩:=ih _ _ _ e
    rw [lk_upd] at x
    exact ⟨v,h',rs',ws',.setH _ _ _ _ _ _ _ _ _ _ x,y⟩
  | br p d x y ihx ihy =>
    intro h rs ws e
    have e : (@ite _ p d (x.runF O h rs ws q) (y.runF O h rs ws q)) = some res:=e
    by_cases hp : p
    · rw [if_pos hp] at e
      obtain ⟨v,h',rs',ws',x,y⟩:=ihx _ _ _ e
      exact ⟨v,h',rs',ws',.brT _ _ _ _ _ _ _ _ _ _ _ hp x,y⟩
    · rw [if_neg hp] at e
      obtain ⟨v,h',rs',ws',x,y⟩:=ihy _ _ _ e
      exact ⟨v,h',rs',ws',.brF _ _ _ _ _ _ _ _ _ _ _ hp x,y⟩
  | call f args hc k ih =>
    intro h rs ws e
    obtain ⟨r,h1,c,e1⟩:=hO _ _ _ _ _ e
    obtain ⟨v,h',rs',ws',x,y⟩:=ih _ _ _ _ _ e1
    exact ⟨v,h',rs',ws',.call _ _ _ _ _ _ _ _ _ _ _ _ _ c x,y⟩
theorem Ef.TF.to {CS : CSp} {m : Ef} {f f' : Hf} {rs ws rs' ws' : List Nat} {v : AV} (x : m.TF CS f rs ws v f' rs' ws') : ∀ h,lk h = f → ∃ h',m.To CS h v h' ∧ lk h' = f':=by
  induction x with
  | ret v h rs ws => exact fun h e => ⟨h,⟨rfl,rfl⟩,e⟩
  | getH κ k h h' rs ws rs' ws' v x ih =>
    intro g e
    obtain ⟨g',y,z⟩:=ih g e
    subst e
    exact ⟨g',y,z⟩
  | setH κ o k h h' rs ws rs' ws' v x ih =>
    intro g e
    obtain ⟨g',y,z⟩:=ih ((κ,o) :: g) (by rw [lk_upd,e])
    exact ⟨g',y,z⟩
  | brT p d x y h h' rs ws rs' ws' v hp z ih =>
    intro g e
    obtain ⟨g',y,z⟩:=ih g e
    exact ⟨g',.inl ⟨hp,y⟩,z⟩
  | brF p d x y h h' rs ws rs' ws' v hp z ih =>
    intro g e
    obtain ⟨g',y,z⟩:=ih g e
    exact ⟨g',.inr ⟨hp,y⟩,z⟩
  | call f args hc k r h1 h h' rs ws rs' ws' v c x ih =>
    intro g e
    obtain ⟨g',y,z⟩:=ih g e
    exact ⟨g',⟨r,h1,c,y⟩,z⟩
theorem Ef.TF.sub {CS : CSp} {m : Ef} {f f' : Hf} {rs ws rs' ws' : List Nat} {v : AV} (x : m.TF CS f rs ws v f' rs' ws') : (∀ κ ∈ rs,κ ∈ rs') ∧ (∀ κ ∈ ws,κ ∈ ws') ∧ ∀ κ,κ ∉ ws' → f' κ = f κ:=by
  induction x with
  | ret v h rs ws => exact ⟨fun _ q => q,fun _ q => q,fun _ _ => rfl⟩
  | getH κ k h h' rs ws rs' ws' v x ih => exact ⟨fun i q => ih.1 i (List.mem_cons_of_mem _ q),ih.2⟩
  | setH κ o k h h' rs ws rs' ws' v x ih =>
    refine ⟨ih.1,fun i q => ih.2.1 i (List.mem_cons_of_mem _ q),fun i q => ?_⟩
    rw [ih.2.2 i q]
    have : i ≠ κ:=fun e => q (e ▸ ih.2.1 κ (List.mem_cons_self ..))
    simp [upd,this]
  | brT p d x y h h' rs ws rs' ws' v hp z ih => exact ih
  | brF p d x y h h' rs ws rs' ws' v hp z ih => exact ih
  | call f args hc k r h1 h h' rs ws rs' ws' v c x ih => exact ih
theorem Ef.TF.local {CS : CSp} {m : Ef} {f f' : Hf} {rs ws rs' ws' : List Nat} {v : AV} (x : m.TF CS f rs ws v f' rs' ws') : ∀ g,(∀ κ,κ ∈ rs' ∨ κ ∈ ws → g κ = f κ) → ∃ g',m.TF CS g rs ws v g' rs' ws' ∧ ∀ κ,(κ ∈ ws' → g' κ = f' κ) ∧ (κ ∉ ws' → g' κ = g κ):=by
  induction x with
  | ret v h rs ws => exact fun g e => ⟨g,.ret _ _ _ _,fun κ => ⟨fun q => e κ (.inr q),fun _ => rfl⟩⟩
  | getH κ k h h' rs ws rs' ws' v x ih =>
    intro g e
    obtain ⟨g',y,z⟩:=ih g e
    refine ⟨g',.getH _ _ _ _ _ _ _ _ _ ?_,z⟩
    rw [e κ (.inl (x.sub.1 κ (List.mem_cons_self ..)))]
    exact y
  | setH κ o k h h' rs ws rs' ws' v x ih =>
    intro g e
    obtain ⟨g',y,z⟩:=ih (upd g κ o) (fun i q => by
      by_cases hi : i = κ
      · simp [upd,hi]
      · simp only [upd,if_neg hi]
        exact e i (q.imp id fun q => (List.mem_cons.1 q).resolve_left hi))
    refine ⟨g',.setH _ _ _ _ _ _ _ _ _ _ y,fun i => ⟨(z i).1,fun q => ?_⟩⟩
    have : i ≠ κ:=fun e => q (e ▸ x.sub.2.1 κ (List.mem_cons_self ..))
    rw [(z i).2 q]
    simp [upd,this]
  | brT p d x y h h' rs ws rs' ws' v hp z ih =>
    intro g e
    obtain ⟨g',y,z⟩:=ih g e
    exact ⟨g',.brT _ _ _ _ _ _ _ _ _ _ _ hp y,z⟩
  | brF p d x y h h' rs ws rs' ws' v hp z ih =>
    intro g e
    obtain ⟨g',y,z⟩:=ih g e
    exact ⟨g',.brF _ _ _ _ _ _ _ _ _ _ _ hp y,z⟩
  | call f args hc k r h1 h h' rs ws rs' ws' v c x ih =>
    intro g e
    obtain ⟨g',y,z⟩:=ih g e
    exact ⟨g',.call _ _ _ _ _ _ _ _ _ _ _ _ _ c y,z⟩
def evF (t : Tf) : Operand → AV
  | .tmp i => t i
  | .const v => ofV v
  | .global _ => .dead
  | .func f => .clo f []
theorem evO_eq (s : St) : evO s = evF (getT s.t):=by
  funext x
  cases x <;> rfl
section
variable {P : Program} {H : Hints}
theorem opM_congr {κ : Nat} {ev ev' : Operand → AV} (o : Oper) (h : ∀ x ∈ o.op.operands,ev x = ev' x) : opM P H κ ev o = opM P H κ ev' o:=by
  obtain ⟨dst,op,type,pos,after,guard⟩:=o
  have pairs : ∀ ps : Array (Nat × Operand),(∀ x ∈ (ps.toList.map (·.2)).toArray,ev x = ev' x) →
      (ps.toList.map fun p => (p.1,ev p.2)) = (ps.toList.map fun p => (p.1,ev' p.2)):=fun ps hp =>
    List.map_congr_left fun p hm => by
      rw [hp p.2 (by simp only [List.mem_toArray,List.mem_map];exact ⟨p,hm,rfl⟩)]
  cases op <;> simp only [Op.operands] at h <;> simp only [opM]
  case build t ps => rw [pairs ps h]
  case buildSlice t n ps => rw [pairs ps h]
  case makeFunc fn first captured =>
    cases fn <;> cases hf : first.toList <;> simp only []
    rw [List.map_congr_left (l:=captured.toList) fun x hx => h x (by simp only [Array.mem_append];exact .inr (by simpa using hx))]
  case call c =>
    have hargs : c.args.toList.map ev = c.args.toList.map ev':=List.map_congr_left fun x hx => h x (by simp only [Call.operands,Array.mem_append];exact .inr (by simpa using hx))
    rw [hargs]
    cases hc : c.callee with
    | value f => simp only [];rw [h f (by simp [Call.operands,hc])]
    | invoke r m => rfl
    | builtin b => rfl
  case slice t x lo hi mx => cases lo <;> cases hi <;> cases mx <;> simp_all
  all_goals (first|rfl|(simp_all;done))
end
def putF (t : Tf) (d : Option Nat) (v : AV) : Tf:=fun i => if d = some i then v else t i
theorem putF_comm (t : Tf) {x y : Option Nat} (v u : AV) (h : ∀ d,x = some d → y ≠ some d) : putF (putF t x v) y u = putF (putF t y u) x v:=by
  funext i
  unfold putF
  by_cases hy : y = some i
  · by_cases hx : x = some i
    · exact absurd hy (h i hx)
    · simp [hy,hx]
  · simp [hy]
theorem inL_mem : ∀ (l : List Nat) (κ : Nat),inL l κ = false → κ ∉ l
  | [],κ,h => by simp
  | k :: r,κ,h => by
    simp only [inL] at h
    cases hq : Nat.beq k κ with
    | true => simp only [hq,cond_true] at h;cases h
    | false =>
      simp only [hq,cond_false] at h
      have h1:=inL_mem r κ h
      have h2 : κ ≠ k:=fun e => by subst e;rw [Nat.beq_refl] at hq;cases hq
      simp [h1,h2]
theorem disj_mem : ∀ (a b : List Nat),disj a b = true → ∀ κ ∈ a,κ ∉ b
  | [],b,h,κ,hk => by cases hk
  | k :: r,b,h,κ,hk => by
    simp only [disj,Bool.and_eq_true,Bool.not_eq_true'] at h
    rcases List.mem_cons.1 hk with rfl|hk
    · exact inL_mem _ _ h.1
    · exact disj_mem r b h.2 κ hk
def guardF (ops : List Oper) (t : Tf) (o : Oper) : Option Bool :=
  match o.guard with
  | none => some true
  | some (j,want) => match nth ops j with
    | some oj => match oj.dst with
      | some d => match t d with
        | .lit b => some (b == want)
        | .tup [] => some false
        | _ => none
      | none => none
    | none => none
theorem guardSt_eq (ops : List Oper) (s : St) (o : Oper) : guardSt ops s o = guardF ops (getT s.t) o:=rfl
theorem mem_uses {ops : List Oper} {o : Oper} {d : Nat} (h : .tmp d ∈ o.op.operands) : d ∈ usesOf ops o:=by
  unfold usesOf
  exact List.mem_append_left _ (List.mem_flatMap.2 ⟨.tmp d,by simpa using h,by simp [tmpsOf]⟩)
theorem guardF_put {ops : List Oper} {t : Tf} {o : Oper} {d : Option Nat} {v : AV} (h : ∀ e,d = some e → e ∉ usesOf ops o) : guardF ops (putF t d v) o = guardF ops t o:=by
  unfold guardF
  split
  · rfl
  · rename_i j want hg
    split
    · rename_i oj hj
      split
      · rename_i e he
        have : d ≠ some e:=fun q => h e q (by
          unfold usesOf
          exact List.mem_append_right _ (by simp [hg,hj,he]))
        simp [putF,this]
      · rfl
    · rfl
section
variable {P : Program} {H : Hints}
theorem opM_put {κ : Nat} {ops : List Oper} {t : Tf} {o : Oper} {d : Option Nat} {v : AV} (h : ∀ e,d = some e → e ∉ usesOf ops o) : opM P H κ (evF (putF t d v)) o = opM P H κ (evF t) o:=by
  refine opM_congr o fun x hx => ?_
  cases x with
  | tmp i =>
    have : d ≠ some i:=fun q => h i q (mem_uses hx)
    simp [evF,putF,this]
  | _ => rfl
end
def Tgt (ops : List Oper) (i : Nat) (v u : AV) : Prop :=
  bif isTarget ops i then (∃ b,v = .lit b ∧ u = .lit b) ∨ (∃ pol p d,v = .bool pol p d ∧ u = .lit (bif pol then @decide p d else !@decide p d)) else u = v
theorem branch_tgt {v : AV} {x y : Option Res} {res : Res} (h : branch v x y none = some res) : ∃ b : Bool,((∃ c,v = .lit c ∧ AV.lit b = .lit c) ∨ (∃ pol p d,v = .bool pol p d ∧ AV.lit b = .lit (bif pol then @decide p d else !@decide p d))) ∧ (b = true ∧ x = some res ∨ b = false ∧ y = some res):=by
  unfold branch at h
  split at h
  · rename_i b
    refine ⟨b,.inl ⟨b,rfl,rfl⟩,?_⟩
    cases b with
    | true => exact .inl ⟨rfl,by simpa using h⟩
    | false => exact .inr ⟨rfl,by simpa using h⟩
  · rename_i pol p d
    refine ⟨_,.inr ⟨pol,p,d,rfl,rfl⟩,?_⟩
    by_cases hp : p
    · rw [if_pos hp] at h
      cases pol with
      | true => exact .inl ⟨by simp [hp],h⟩
      | false => exact .inr ⟨by simp [hp],h⟩
    · rw [if_neg hp] at h
      cases pol with
      | true => exact .inr ⟨by simp [hp],h⟩
      | false => exact .inl ⟨by simp [hp],h⟩
  · cases h
theorem Tgt.vr {w : World} {ok : Okk} {M : Mp} {ops : List Oper} {i : Nat} {v u : AV} {V : Value} (h : Tgt ops i v u) (hv : VR w ok M v V) : VR w ok M u V:=by
  unfold Tgt at h
  cases hq : isTarget ops i with
  | false =>
    simp only [hq,cond_false] at h
    subst h
    exact hv
  | true =>
    simp only [hq,cond_true] at h
    rcases h with ⟨b,rfl,rfl⟩ | ⟨pol,p,d,rfl,rfl⟩
    · exact hv
    · rw [hv.bool_inv]
      exact .closed (.lit _)
section
variable (P : Program) (H : Hints) (CS : CSp) (ops : List Oper) (base nt : Nat)
structure Step1 (i : Nat) (t : Tf) (h : Hf) (t' : Tf) (h' : Hf) (R W : List Nat) : Prop where
  ex : ∃ o u,ops[i]? = some o ∧ t' = putF t o.dst u ∧ (∀ d,o.dst = some d → d < nt) ∧
    ((guardF ops t o = some false ∧ u = .tup [] ∧ h' = h ∧ R = [] ∧ W = []) ∨
     (guardF ops t o = some true ∧ ∃ v,(opM P H (base + 16 * i) (evF t) o).TF CS h [] [] v h' R W ∧ Tgt ops i v u))
abbrev Ent:=Nat × List Nat × List Nat
inductive Tr : List Ent → Tf → Hf → Tf → Hf → Prop
  | nil (t : Tf) (h : Hf) : Tr [] t h t h
  | cons (i : Nat) (R W : List Nat) (l : List Ent) (t t1 t2 : Tf) (h h1 h2 : Hf) (x : Step1 P H CS ops base nt i t h t1 h1 R W) (y : Tr l t1 h1 t2 h2) : Tr ((i,R,W) :: l) t h t2 h2
end
def Dj (x y : Ent) : Prop:=(∀ κ ∈ y.2.2,κ ∉ x.2.1) ∧ (∀ κ ∈ y.2.2,κ ∉ x.2.2) ∧ (∀ κ ∈ y.2.1,κ ∉ x.2.2)
def Ap (ops : List Oper) (i j : Nat) : Prop := ∀ oi oj,ops[i]? = some oi → ops[j]? = some oj → apartT ops oi oj = true
def Free (ops : List Oper) (x y : Ent) : Prop:=Dj x y ∧ Ap ops x.1 y.1
theorem apartT_spec {ops : List Oper} {x y : Oper} (h : apartT ops x y = true) : (∀ d,x.dst = some d → d ∉ usesOf ops y) ∧ (∀ d,x.dst = some d → y.dst ≠ some d) ∧ (∀ d,y.dst = some d → d ∉ usesOf ops x):=by
  unfold apartT at h
  simp only [Bool.and_eq_true] at h
  refine ⟨fun d hd => ?_,fun d hd q => ?_,fun d hd => ?_⟩
  · simp only [hd,Bool.and_eq_true,Bool.not_eq_true'] at h
    exact inL_mem _ _ h.1.1
  · simp only [hd,q,Bool.and_eq_true,Bool.not_eq_true',Nat.beq_refl] at h
    cases h.1.2
  · simp only [hd,Bool.not_eq_true'] at h
    exact inL_mem _ _ h.2
section
variable {P : Program} {H : Hints} {CS : CSp} {ops : List Oper} {base nt : Nat}
theorem Step1.swap {i j : Nat} {t t1 t2 : Tf} {h h1 h2 : Hf} {Ri Wi Rj Wj : List Nat} (a : Step1 P H CS ops base nt j t h t1 h1 Rj Wj) (b : Step1 P H CS ops base nt i t1 h1 t2 h2 Ri Wi) (f : Free ops (j,Rj,Wj) (i,Ri,Wi)) :
    ∃ t1' h1',Step1 P H CS ops base nt i t h t1' h1' Ri Wi ∧ Step1 P H CS ops base nt j t1' h1' t2 h2 Rj Wj:=by
  obtain ⟨oj,uj,ej,rfl,dj,cj⟩:=a.ex
  obtain ⟨oi,ui,ei,rfl,di,ci⟩:=b.ex
  obtain ⟨⟨f1,f2,f3⟩,f4⟩:=f
  obtain ⟨g1,g2,g3⟩:=apartT_spec (f4 _ _ ej ei)
  rw [guardF_put g1,opM_put g1] at ci
  rw [putF_comm t uj ui g2]
  have wj : ∀ κ,κ ∉ Wj → h1 κ = h κ:=by
    rcases cj with ⟨_,_,rfl,_,_⟩ | ⟨_,v,x,_⟩
    · exact fun _ _ => rfl
    · exact x.sub.2.2
  have hi : ∃ h1',((guardF ops t oi = some false ∧ ui = .tup [] ∧ h1' = h ∧ Ri = [] ∧ Wi = []) ∨ (guardF ops t oi = some true ∧ ∃ v,(opM P H (base + 16 * i) (evF t) oi).TF CS h [] [] v h1' Ri Wi ∧ Tgt ops i v ui)) ∧ (∀ κ,(κ ∈ Wi → h1' κ = h2 κ) ∧ (κ ∉ Wi → h1' κ = h κ)) ∧ ∀ κ,κ ∉ Wi → h2 κ = h1 κ:=by
    rcases ci with ⟨c1,c2,rfl,c4,c5⟩ | ⟨c1,v,x,c2⟩
    · exact ⟨h,.inl ⟨c1,c2,rfl,c4,c5⟩,fun κ => ⟨fun q => (by rw [c5] at q;cases q),fun _ => rfl⟩,fun _ _ => rfl⟩
    · obtain ⟨h1',y,z⟩:=x.local h (fun κ q => (wj κ (f3 κ (q.resolve_right (by simp)))).symm)
      exact ⟨h1',.inr ⟨c1,v,y,c2⟩,z,x.sub.2.2⟩
  obtain ⟨h1',ci',z,zz⟩:=hi
  refine ⟨_,h1',⟨oi,ui,ei,rfl,di,ci'⟩,⟨oj,uj,ej,rfl,dj,?_⟩⟩
  rw [guardF_put g3,opM_put g3]
  rcases cj with ⟨c1,c2,rfl,c4,c5⟩ | ⟨c1,v,x,c2⟩
  · refine .inl ⟨c1,c2,?_,c4,c5⟩
    funext κ
    by_cases q : κ ∈ Wi
    · exact ((z κ).1 q).symm
    · rw [(z κ).2 q,zz κ q]
  · obtain ⟨h2',y,z'⟩:=x.local h1' (fun κ q => (z κ).2 fun q' => f1 κ q' (q.resolve_right (by simp)))
    have : h2' = h2:=by
      funext κ
      by_cases q : κ ∈ Wj
      · rw [(z' κ).1 q,zz κ (fun q' => f2 κ q' q)]
      · rw [(z' κ).2 q]
        by_cases q' : κ ∈ Wi
        · exact (z κ).1 q'
        · rw [(z κ).2 q',zz κ q',wj κ q]
    subst this
    exact .inr ⟨c1,v,y,c2⟩
theorem Tr.pull {x : Ent} {post : List Ent} {t2 : Tf} {h2 : Hf} : ∀ (pre : List Ent) (t : Tf) (h : Hf),Tr P H CS ops base nt (pre ++ x :: post) t h t2 h2 → (∀ y ∈ pre,Free ops y x) →
    ∃ t1 h1,Step1 P H CS ops base nt x.1 t h t1 h1 x.2.1 x.2.2 ∧ Tr P H CS ops base nt (pre ++ post) t1 h1 t2 h2
  | [],t,h,a,f => by
    cases a with
    | cons i R W l t t1 t2 h h1 h2 x y => exact ⟨t1,h1,x,y⟩
  | p :: pre,t,h,a,f => by
    cases a with
    | cons i R W l t t1 t2 h h1 h2 a y =>
      obtain ⟨t3,h3,b,z⟩:=Tr.pull pre t1 h1 y (fun u q => f u (List.mem_cons_of_mem _ q))
      obtain ⟨t1',h1',b',a'⟩:=a.swap b (f _ (List.mem_cons_self ..))
      exact ⟨t1',h1',b',.cons _ _ _ _ _ _ _ _ _ _ a' z⟩
end
end Go.Proofs.Ytfgoojnblomonaa.R
end
section
set_option linter.unusedVariables false
set_option linter.unusedSimpArgs false
namespace Go.Proofs.Ytfgoojnblomonaa.R
open Go Go.RowKit
section
variable {P : Program} {H : Hints} {ops : List Oper} {base nt : Nat}
def LogOk (anc : List Nat) (x y : Ent) : Prop:=bitAt anc y.1 x.1 = true ∨ Dj x y
theorem fitsLog_spec {anc : List Nat} {i : Nat} {rs ws : List Nat} : ∀ (lg : List Ent),fitsLog anc i rs ws lg = true → ∀ x ∈ lg,LogOk anc x (i,rs,ws)
 | [],h,x,q => by cases q
 | (j,rj,wj) :: r,h,x,q => by
  simp only [fitsLog,Bool.and_eq_true,Bool.or_eq_true] at h
  rcases List.mem_cons.1 q with rfl|q
  ·rcases h.1 with h|h
   ·exact .inl h
   ·exact .inr ⟨disj_mem _ _ h.1.1,disj_mem _ _ h.1.2,disj_mem _ _ h.2⟩
  ·exact fitsLog_spec r h.2 x q
theorem putT_spec {s : St} {h : Heap} {d : Option Nat} {v : AV} {q : St → Option Res} {res : Res} (e : putT nt s h d v q = some res) : ∃ s',q s' = some res ∧ getT s'.t = putF (getT s.t) d v ∧ lk s'.h = lk h ∧ s'.next = s.next ∧ ∀ x,d = some x → x < nt:=by
 unfold putT at e
 simp only [condH_eq] at e
 cases d with
 | none => exact ⟨_,e,by funext i;simp [putF],rfl,rfl,fun x q => by cases q⟩
 | some d =>
  simp only at e
  cases hb : Nat.blt d nt with
  | false => simp only [hb,cond_false] at e;cases e
  | true =>
   simp only [hb,cond_true] at e
   refine ⟨_,e,?_,rfl,rfl,fun x q => by cases q;exact Nat.le_of_ble_eq_true hb⟩
   funext i
   show getT ((d,v) :: s.t) i = _
   rw [getT_cons]
   unfold putF
   by_cases q : i = d
   ·subst q;simp
   ·have : ¬ (some d = some i):=fun e => q (by simpa using e.symm)
    rw [if_neg q,if_neg this]
theorem runD_tr {CS : CSp} {O : Oracle} (hO : OSound CS O) {anc : List Nat} {q : St → Option Res} {res : Res} : ∀ (r : List Oper) (i : Nat) (s : St) (lg : List Ent),ops.drop i = r → runD P H O ops anc base nt r i s lg q = some res →
  ∃ l s',Tr P H CS ops base nt l (getT s.t) (lk s.h) (getT s'.t) (lk s'.h) ∧ q s' = some res ∧ s'.next = s.next ∧ l.map (·.1) = List.range' i r.length ∧ (∀ y ∈ l,∀ x ∈ lg,LogOk anc x y) ∧ l.Pairwise (LogOk anc)
 | [],i,s,lg,hd,h => ⟨[],s,.nil _ _,h,rfl,rfl,fun y q => by (cases q),.nil⟩
 | o :: r,i,s,lg,hd,h => by
  have ho : ops[i]? = some o:=by
   have : (ops.drop i)[0]? = some o:=by rw [hd];rfl
   rw [List.getElem?_drop,Nat.add_zero] at this
   exact this
  have hd' : ops.drop (i + 1) = r:=by
   have:=congrArg List.tail hd
   rw [List.tail_drop] at this
   exact this
  simp only [runD,condH_eq] at h
  split at h
  ·cases h
  ·rename_i hg
   obtain ⟨s1,hq,e1,e2,e3,e4⟩:=putT_spec h
   obtain ⟨l,s',a,b,c,d,e,f⟩:=runD_tr hO r (i + 1) s1 lg hd' hq
   refine ⟨(i,[],[]) :: l,s',.cons _ _ _ _ _ _ _ _ _ _ ⟨o,.tup [],ho,e1,e4,.inl ⟨hg,rfl,e2,rfl,rfl⟩⟩ a,b,c.trans e3,by rw [List.map_cons,d];rfl,fun y q x q' => ?_,.cons (fun y q => .inr ⟨fun κ _ q => by (cases q),fun κ _ q => by (cases q),fun κ _ q => by (cases q)⟩) f⟩
   rcases List.mem_cons.1 q with rfl|q
   ·exact .inr ⟨fun κ q => by (cases q),fun κ q => by (cases q),fun κ q => by (cases q)⟩
   ·exact e y q x q'
  ·rename_i hg
   obtain ⟨v,h',rs,ws,hto,h⟩:=Ef.runF_tf hO _ _ _ _ h
   rw [evO_eq] at hto
   cases hf : fitsLog anc i rs ws lg with
   | false => simp only [hf,cond_false] at h;cases h
   | true =>
    simp only [hf,cond_true] at h
    have fin : ∀ {u : AV},Tgt ops i v u → putT nt s h' o.dst u (fun s => runD P H O ops anc base nt r (i + 1) s ((i,rs,ws) :: lg) q) = some res →
      ∃ l s',Tr P H CS ops base nt l (getT s.t) (lk s.h) (getT s'.t) (lk s'.h) ∧ q s' = some res ∧ s'.next = s.next ∧ l.map (·.1) = List.range' i (o :: r).length ∧ (∀ y ∈ l,∀ x ∈ lg,LogOk anc x y) ∧ l.Pairwise (LogOk anc):=by
     intro u hu hp
     obtain ⟨s1,hq,e1,e2,e3,e4⟩:=putT_spec hp
     obtain ⟨l,s',a,b,c,d,e,f⟩:=runD_tr hO r (i + 1) s1 _ hd' hq
     rw [e2] at a
     refine ⟨(i,rs,ws) :: l,s',.cons _ _ _ _ _ _ _ _ _ _ ⟨o,u,ho,e1,e4,.inr ⟨hg,v,hto,hu⟩⟩ a,b,c.trans e3,by rw [List.map_cons,d];rfl,fun y q x q' => ?_,.cons (fun y q => e y q _ (List.mem_cons_self ..)) f⟩
     rcases List.mem_cons.1 q with rfl|q
     ·exact fitsLog_spec lg hf x q'
     ·exact e y q x (List.mem_cons_of_mem _ q')
    cases hT : isTarget ops i with
    | false =>
     simp only [hT,cond_false] at h
     exact fin (by simp [Tgt,hT]) h
    | true =>
     simp only [hT,cond_true] at h
     obtain ⟨b,hb,hc⟩:=branch_tgt h
     have hu : Tgt ops i v (.lit b):=by simp only [Tgt,hT,cond_true];exact hb
     rcases hc with ⟨rfl,hc⟩ | ⟨rfl,hc⟩
     ·exact fin hu hc
     ·exact fin hu hc
theorem apartRow_spec {anc : List Nat} {o : Oper} {i : Nat} : ∀ (r : List Oper) (j : Nat),apartAll.apartRow ops anc o i r j = true → ∀ (n : Nat) (y : Oper),r[n]? = some y → bitAt anc (j + n) i = true ∨ apartT ops o y = true
 | [],j,h,n,y,q => by simp at q
 | x :: r,j,h,n,y,q => by
  simp only [apartAll.apartRow,Bool.and_eq_true,Bool.or_eq_true] at h
  match n with
  | 0 =>
   simp only [List.getElem?_cons_zero,Option.some.injEq] at q
   subst q
   exact h.1
  | n + 1 =>
   have:=apartRow_spec r (j + 1) h.2 n y (by simpa using q)
   rw [show j + 1 + n = j + (n + 1) from by omega] at this
   exact this
theorem apartAll_spec {anc : List Nat} : ∀ (r : List Oper) (i : Nat),apartAll ops anc r i = true → ∀ (m n : Nat) (x y : Oper),m < n → r[m]? = some x → r[n]? = some y → bitAt anc (i + n) (i + m) = true ∨ apartT ops x y = true
 | [],i,h,m,n,x,y,hmn,q,q' => by simp at q
 | o :: r,i,h,m,n,x,y,hmn,q,q' => by
  simp only [apartAll,Bool.and_eq_true] at h
  match m,n with
  | 0,n + 1 =>
   simp only [List.getElem?_cons_zero,Option.some.injEq] at q
   subst q
   have:=apartRow_spec r (i + 1) h.1 n y (by simpa using q')
   rw [show i + 1 + n = i + (n + 1) from by omega] at this
   exact this
  | m + 1,n + 1 =>
   have:=apartAll_spec r (i + 1) h.2 m n x y (by omega) (by simpa using q) (by simpa using q')
   rw [show i + 1 + n = i + (n + 1) from by omega,show i + 1 + m = i + (m + 1) from by omega] at this
   exact this
  | m,0 => omega
theorem backB_spec {j : Nat} : ∀ (l : List Edge),backB j l = true → ∀ e ∈ l,Region.binds .any e = true → e.on < j
 | [],h,e,q,hb => by cases q
 | x :: l,h,e,q,hb => by
  simp only [backB,Bool.and_eq_true] at h
  rcases List.mem_cons.1 q with rfl|q
  ·have:=h.1
   rw [hb,cond_true] at this
   exact Nat.le_of_ble_eq_true this
  ·exact backB_spec l h.2 e q hb
theorem ancE_spec {look : Nat → Nat} {j : Nat} : ∀ (l : List Edge) (s : Nat),(ancE look l s).testBit j = true → s.testBit j = true ∨ ∃ e ∈ l,Region.binds .any e = true ∧ (e.on = j ∨ (look e.on).testBit j = true)
 | [],s,h => .inl h
 | e :: l,s,h => by
  simp only [ancE] at h
  rcases ancE_spec l _ h with h | ⟨e',x,y,z⟩
  ·cases hb : Region.binds .any e with
   | false => rw [hb,cond_false] at h;exact .inl h
   | true =>
    rw [hb,cond_true,Nat.testBit_or,Nat.testBit_or,Nat.testBit_two_pow] at h
    simp only [Bool.or_eq_true,decide_eq_true_eq] at h
    rcases h with (h|h)|h
    ·exact .inl h
    ·exact .inr ⟨e,List.mem_cons_self ..,hb,.inl h⟩
    ·exact .inr ⟨e,List.mem_cons_self ..,hb,.inr h⟩
  ·exact .inr ⟨e',List.mem_cons_of_mem _ x,y,z⟩
theorem ancOk_spec {anc : List Nat} : ∀ (r : List Oper) (j : Nat),ancOk anc r j = true → ∀ (n : Nat) (o : Oper),r[n]? = some o → (∀ e ∈ o.after,Region.binds .any e = true → e.on < j + n) ∧ ∀ m,bitAt anc (j + n) m = true → ∃ e ∈ o.after,Region.binds .any e = true ∧ (e.on = m ∨ bitAt anc e.on m = true)
 | [],j,h,n,o,q => by simp at q
 | x :: r,j,h,n,o,q => by
  simp only [ancOk,Bool.and_eq_true] at h
  match n with
  | 0 =>
   simp only [List.getElem?_cons_zero,Option.some.injEq] at q
   subst q
   refine ⟨fun e he hb => backB_spec _ h.1.1 e (by simpa using he) hb,fun m hm => ?_⟩
   have e1:=beqT h.1.2
   unfold bitAt at hm
   rw [Nat.add_zero,← e1] at hm
   rcases ancE_spec _ _ hm with h | ⟨e,a,b,c⟩
   ·simp at h
   ·exact ⟨e,by simpa using a,b,c⟩
  | n + 1 =>
   have:=ancOk_spec r (j + 1) h.2 n o (by simpa using q)
   rw [show j + 1 + n = j + (n + 1) from by omega] at this
   exact this
theorem withAnc_spec {α : Type} {k : List Nat → Option α} {a : α} : ∀ (l : List Oper) (j : Nat) (acc : List Nat),withAnc l j acc k = some a → ∃ anc,k anc = some a
 | [],j,acc,h => ⟨_,h⟩
 | o :: r,j,acc,h => by
  simp only [withAnc] at h
  have fe : ∀ {β : Type} (n : Nat) (f : Nat → β),forceN n f = f n:=fun n f => by cases n <;> rfl
  rw [fe] at h
  exact withAnc_spec r _ _ h
end
end Go.Proofs.Ytfgoojnblomonaa.R
end
section
set_option linter.unusedVariables false
set_option linter.unusedSimpArgs false
namespace Go.Proofs.Ytfgoojnblomonaa.R
open Go Go.RowKit
section
variable {P : Program} {H : Hints} {C : Cx} {ops : Array Oper} {base nt : Nat}
theorem guardF_run {w : World} {M : Mp} {t : Tf} {a : Act} {o : Oper} {b : Bool} {ok : Okk} {s : St} (e : getT s.t = t) (hv : ∀ i,VR w ok M (t i) (a.tmps.getD i undef)) (h : guardF ops.toList t o = some b) : Region.wanted o (yielded ops a.tmps) = b:=by
 subst e
 exact guard_run (s:=s) hv (by rw [guardSt_eq];exact h)
theorem Rel.putF {F : Nat → Prop} {M : Mp} {t : Tf} {h : Hf} {a : Act} {w : World} {d : Option Nat} {v : AV} {V : Value} (R : Rel C F M t h a.tmps w) (hv : VR w (C.ok M h) M v V) (hd : ∀ x,d = some x → x < a.tmps.size) : Rel C F M (putF t d v) h (a.put d V).tmps w:=by
 cases d with
 | none =>
  have : Go.Proofs.Ytfgoojnblomonaa.R.putF t none v = t:=by funext i;simp [Go.Proofs.Ytfgoojnblomonaa.R.putF]
  rw [this]
  exact R
 | some d =>
  refine R.put hv (hd d rfl) (fun i => ?_)
  unfold Go.Proofs.Ytfgoojnblomonaa.R.putF
  by_cases e : i = d
  ·subst e;simp
  ·have : ¬ (some d = some i):=fun q => e (by simpa using q.symm)
   rw [if_neg e,if_neg this]
def Fr (base n : Nat) (listed : Array Bool) (κ : Nat) : Prop:=base ≤ κ ∧ (base + 16 * n ≤ κ ∨ ∃ i,i < n ∧ listed.getD i true = false ∧ base + 16 * i ≤ κ ∧ κ < base + 16 * i + 16)
theorem getD_set_self {listed : Array Bool} {i j : Nat} (h : (listed.setIfInBounds i true).getD j true = false) : j ≠ i ∧ listed.getD j true = false:=by
 by_cases e : i = j
 ·subst e
  rcases Nat.lt_or_ge i listed.size with q|q
  ·simp [q] at h
  ·simp [Array.getElem?_eq_none q,q] at h
 ·rw [getD_set_ne true e] at h
  exact ⟨fun q => e q.symm,h⟩
theorem anc_listed {anc : List Nat} {listed : Array Bool} (hanc : ancOk anc ops.toList 0 = true)
  (closed : ∀ i o,ops[i]? = some o → listed.getD i false = true → ∀ e ∈ o.after,Region.binds .any e = true → listed.getD e.on false = true) :
  ∀ (n i : Nat) (o : Oper),i ≤ n → ops[i]? = some o → (∀ e ∈ o.after,Region.binds .any e = true → listed.getD e.on false = true) → ∀ j,bitAt anc i j = true → listed.getD j false = true:=by
 intro n
 induction n with
 | zero =>
  intro i o hi ho hall j hj
  have hs:=ancOk_spec ops.toList 0 hanc i o (by rw [Array.getElem?_toList];exact ho)
  rw [Nat.zero_add] at hs
  obtain ⟨e,he,hb,hq⟩:=hs.2 j hj
  have:=hs.1 e he hb
  omega
 | succ n ih =>
  intro i o hi ho hall j hj
  have hs:=ancOk_spec ops.toList 0 hanc i o (by rw [Array.getElem?_toList];exact ho)
  rw [Nat.zero_add] at hs
  obtain ⟨e,he,hb,hq⟩:=hs.2 j hj
  have hlt:=hs.1 e he hb
  have hl:=hall e he hb
  rcases hq with rfl|hq
  ·exact hl
  ·have hi' : i < ops.size:=(Array.getElem?_eq_some_iff.1 ho).1
   have hoe : ops[e.on]? = some ops[e.on]:=Array.getElem?_eq_getElem (by omega)
   exact ih e.on _ (by omega) hoe (closed _ _ hoe hl) j hq
theorem step_sound {Q : Exit → Act → World → Prop} {K : Act → World → Prop} {listed : Array Bool} {i : Nat} {M : Mp} {s : St} {a : Act} {w : World} {t1 : Tf} {h1 : Hf} {Rs Ws : List Nat}
  (st : Step1 P H (CallSpec C.md P) ops.toList base nt i (getT s.t) (lk s.h) t1 h1 Rs Ws) (hs : a.tmps.size = nt) (hi : listed.getD i true = false)
  (R : Rel C (Fr base ops.size listed) M (getT s.t) (lk s.h) a.tmps w)
  (hK : ∀ (s' : St) (M' : Mp) (a' : Act) (w' : World),getT s'.t = t1 → lk s'.h = h1 → Rel C (Fr base ops.size (listed.setIfInBounds i true)) M' (getT s'.t) (lk s'.h) a'.tmps w' → a'.tmps.size = nt → a'.defers = a.defers → K a' w') : wpOp P ops Q i K a w:=by
 obtain ⟨o,u,ho,rfl,hd,hc⟩:=st.ex
 rw [Array.getElem?_toList] at ho
 have hisz : i < ops.size:=(Array.getElem?_eq_some_iff.1 ho).1
 have fr : ∀ κ,Fr base ops.size (listed.setIfInBounds i true) κ → Fr base ops.size listed κ ∧ ¬ (base + 16 * i ≤ κ ∧ κ < base + 16 * i + 16):=by
  rintro κ ⟨q,q'⟩
  refine ⟨⟨q,q'.imp id ?_⟩,fun ⟨z1,z2⟩ => ?_⟩
  ·rintro ⟨j,y1,y2,y3⟩
   exact ⟨j,y1,(getD_set_self y2).2,y3⟩
  ·rcases q' with q' | ⟨j,y1,y2,y3,y4⟩
   ·omega
   ·have:=(getD_set_self y2).1
    omega
 have mk : ∀ (t : Tf),(∃ l : List (Nat × AV),getT l = t) → ∀ h : Hf,(∃ g : Heap,lk g = h) → ∃ s' : St,getT s'.t = t ∧ lk s'.h = h:=fun t ⟨l,hl⟩ h ⟨g,hg⟩ => ⟨⟨l,g,0⟩,hl,hg⟩
 have mt : ∀ v,∃ l : List (Nat × AV),getT l = putF (getT s.t) o.dst v:=by
  intro v
  cases hdst : o.dst with
  | none => exact ⟨s.t,by funext i;simp [putF]⟩
  | some d =>
   refine ⟨(d,v) :: s.t,?_⟩
   funext i
   rw [getT_cons]
   unfold putF
   by_cases e : i = d
   ·subst e;simp
   ·have : ¬ (some d = some i):=fun q => e (by simpa using q.symm)
    rw [if_neg e,if_neg this]
 have psz : ∀ V,(a.put o.dst V).tmps.size = nt ∧ (a.put o.dst V).defers = a.defers:=fun V => by
  cases o.dst with
  | none => exact ⟨hs,rfl⟩
  | some d => exact ⟨by simp [Act.put,hs],rfl⟩
 unfold wpOp
 rw [ho]
 simp only
 rcases hc with ⟨c1,rfl,rfl,_,_⟩ | ⟨c1,v,x,c2⟩
 ·rw [guardF_run (s:=s) rfl R.temps c1]
  simp only [Bool.false_eq_true,if_false]
  obtain ⟨s',e1,e2⟩:=mk _ (mt (.tup [])) (lk s.h) ⟨s.h,rfl⟩
  refine hK s' M _ _ e1 e2 ?_ (psz _).1 (psz _).2
  rw [e1,e2]
  exact (R.weaken (fun κ q => (fr κ q).1)).putF (.tup [] #[] rfl (fun i v V q => by simp at q)) (fun x q => by rw [hs];exact hd x q)
 ·rw [guardF_run (s:=s) rfl R.temps c1]
  simp only [if_true]
  left
  obtain ⟨h',hto,eh⟩:=x.to s.h rfl
  rw [← evO_eq] at hto
  refine op_sound (F:=Fr base ops.size listed) R (fun κ z1 z2 => ⟨by omega,.inr ⟨i,hisz,hi,z1,z2⟩⟩) hto (fun V w' hOut => ?_)
  obtain ⟨M',R',Kp,hv⟩:=hOut
  obtain ⟨s',e1,e2⟩:=mk _ (mt u) h1 ⟨h',eh⟩
  refine hK s' M' _ _ e1 e2 ?_ (psz _).1 (psz _).2
  rw [e1,e2]
  rw [eh] at R' hv
  exact (R'.weaken (fun κ q => fr κ q)).putF (c2.vr hv) (fun x q => by rw [hs];exact hd x q)
theorem any_sound {Q : Exit → Act → World → Prop} {anc : List Nat} {t2 : Tf} {h2 : Hf} (hanc : ancOk anc ops.toList 0 = true) (hap : apartAll ops.toList anc ops.toList 0 = true)
  (fin : ∀ (M : Mp) (a : Act) (w : World),Rel C (fun κ => base + 16 * ops.size ≤ κ) M t2 h2 a.tmps w → a.tmps.size = nt → a.defers = [] → Q .normal a w) :
  ∀ (fuel : Nat) (listed : Array Bool) (l : List Ent) (s : St) (M : Mp) (a : Act) (w : World),Tr P H (CallSpec C.md P) ops.toList base nt l (getT s.t) (lk s.h) t2 h2 → l.length ≤ fuel →
   (∀ i,i ∈ l.map (·.1) ↔ (i < ops.size ∧ listed.getD i true = false)) → (l.map (·.1)).Pairwise (· < ·) → l.Pairwise (LogOk anc) →
   (∀ i o,ops[i]? = some o → listed.getD i false = true → ∀ e ∈ o.after,Region.binds .any e = true → listed.getD e.on false = true) → listed.size = ops.size →
   Rel C (Fr base ops.size listed) M (getT s.t) (lk s.h) a.tmps w → a.tmps.size = nt → a.defers = [] → wpAny P .any ops Q fuel listed a w:=by
 intro fuel
 induction fuel with
 | zero =>
  intro listed l s M a w tr hl hm hp hlg hc hz R hs hdf
  have : l = []:=List.length_eq_zero_iff.1 (by omega)
  subst this
  cases tr
  refine ⟨?_,fin M a w (R.weaken (fun κ q => ⟨by omega,.inl q⟩)) hs hdf⟩
  unfold Region.ready
  rw [List.filter_eq_nil_iff]
  intro i hi
  have:=(hm i).2
  rw [List.mem_range] at hi
  simp only [List.map_nil,List.not_mem_nil] at this
  have h1 : ¬ listed.getD i true = false:=fun q => this ⟨hi,q⟩
  simp at h1
  simp [h1]
 | succ fuel ih =>
  intro listed l s M a w tr hl hm hp hlg hc hz R hs hdf
  have back : ∀ i o,ops[i]? = some o → ∀ e ∈ o.after,Region.binds .any e = true → e.on < i:=fun i o ho e he hb => by
   have:=(ancOk_spec ops.toList 0 hanc i o (by rw [Array.getElem?_toList];exact ho)).1 e he hb
   omega
  have unl : ∀ i,i < ops.size → listed.getD i false = false → listed.getD i true = false:=fun i hi q => by
   have : i < listed.size:=by omega
   simp [this] at q ⊢
   exact q
  refine ⟨fun hr => ?_,fun i hi => ?_⟩
  ·cases l with
   | nil =>
    cases tr
    exact fin M a w (R.weaken (fun κ q => ⟨by omega,.inl q⟩)) hs hdf
   | cons x l =>
    exfalso
    obtain ⟨hx,hxl⟩:=(hm x.1).1 (by simp)
    have : x.1 ∈ Region.ready .any ops listed:=by
     rw [mem_ready]
     refine ⟨hxl,ops[x.1],Array.getElem?_eq_getElem hx,fun e he hb => ?_⟩
     have hlt:=back _ _ (Array.getElem?_eq_getElem hx) e he hb
     cases hq : listed.getD e.on false with
     | true => rfl
     | false =>
      have h1:=(hm e.on).2 ⟨by omega,unl _ (by omega) hq⟩
      rw [List.map_cons] at h1 hp
      rcases List.mem_cons.1 h1 with h1|h1
      ·omega
      ·have:=(List.pairwise_cons.1 hp).1 _ h1
       omega
    rw [hr] at this
    cases this
  ·obtain ⟨hil,o,ho,hall⟩:=mem_ready.1 hi
   have hisz : i < ops.size:=(Array.getElem?_eq_some_iff.1 ho).1
   obtain ⟨x,hx,hxi⟩:=List.mem_map.1 ((hm i).2 ⟨hisz,hil⟩)
   obtain ⟨pre,post,rfl⟩:=List.append_of_mem hx
   subst hxi
   have nol : ∀ j,listed.getD j true = false → ¬ listed.getD j false = true:=fun j q q' => by
    rcases Nat.lt_or_ge j listed.size with z|z
    ·simp [z] at q q'
     rw [q] at q'
     cases q'
    ·simp [Array.getElem?_eq_none z] at q'
   have hp':=hp
   rw [List.map_append,List.map_cons] at hp'
   obtain ⟨p1,p2,p3⟩:=List.pairwise_append.1 hp'
   obtain ⟨q1,q2,q3⟩:=List.pairwise_append.1 hlg
   have free : ∀ y ∈ pre,Free ops.toList y x:=fun y hy => by
    have hylt : y.1 < x.1:=p3 _ (List.mem_map_of_mem hy) _ (List.mem_cons_self ..)
    have hyun:=(hm y.1).1 (List.mem_map_of_mem (List.mem_append_left _ hy))
    have nb : ¬ bitAt anc x.1 y.1 = true:=fun q => nol _ hyun.2 (anc_listed hanc hc _ x.1 o (Nat.le_refl _) ho hall _ q)
    refine ⟨(q3 y hy x (List.mem_cons_self ..)).resolve_left nb,fun oy ox e1 e2 => ?_⟩
    have:=apartAll_spec ops.toList 0 hap y.1 x.1 oy ox hylt e1 e2
    rw [Nat.zero_add,Nat.zero_add] at this
    exact this.resolve_left nb
   obtain ⟨t1,h1,st,tr'⟩:=Tr.pull pre _ _ tr free
   have sub : (pre ++ post).Sublist (pre ++ x :: post):=List.Sublist.append_left (List.sublist_cons_self _ _) pre
   have hne : ∀ j ∈ (pre ++ post).map (·.1),j ≠ x.1:=fun j hj e => by
    subst e
    rw [List.map_append,List.mem_append] at hj
    rcases hj with hj|hj
    ·have:=p3 _ hj _ (List.mem_cons_self ..)
     omega
    ·have:=(List.pairwise_cons.1 p2).1 _ hj
     omega
   refine step_sound st hs hil R (fun s' M' a' w' e1 e2 R' hs' hdf' => ?_)
   subst e1
   subst e2
   refine ih _ (pre ++ post) s' M' a' w' tr' ?_ (fun j => ?_) (hp.sublist (sub.map _)) (hlg.sublist sub) (fun j oj hj hlj e he hb => ?_) (by simp [hz]) R' hs' (hdf'.trans hdf)
   ·simp only [List.length_append,List.length_cons] at hl ⊢
    omega
   ·constructor
    ·intro hj
     have:=(hm j).1 ((sub.map _).subset hj)
     exact ⟨this.1,by rw [getD_set_ne true (fun e => hne j hj e.symm)];exact this.2⟩
    ·rintro ⟨z1,z2⟩
     obtain ⟨z3,z4⟩:=getD_set_self z2
     have:=(hm j).2 ⟨z1,z4⟩
     rw [List.map_append,List.map_cons,List.mem_append,List.mem_cons] at this
     rw [List.map_append,List.mem_append]
     rcases this with h|h|h
     ·exact .inl h
     ·exact absurd h z3
     ·exact .inr h
   ·by_cases e1 : x.1 = j
    ·subst e1
     have : oj = o:=Option.some.inj (hj.symm.trans ho)
     subst this
     exact getD_set_true (hall e he hb)
    ·rw [getD_set_ne false e1] at hlj
     exact getD_set_true (hc j oj hj hlj e he hb)
theorem getD_replicate_false' (m j : Nat) : (Array.replicate m false).getD j false = false:=by
 rcases Nat.lt_or_ge j m with h|h
 ·simp [h]
 ·simp [h]
theorem Rel.drawn {F : Nat → Prop} {M : Mp} {t : Tf} {h : Hf} {a : Array Value} {w : World} {n : Nat} (R : Rel C F M t h a w) (hn : w.drawn ≤ n) : Rel C F M t h a { w with drawn:=n } :=
 { R with
  temps:=fun i => VR.mono (w:=w) (w':={ w with drawn:=n }) ⟨fun b o V hok hc => ⟨(cell_of_block rfl).trans hc,hok⟩,fun b q => q,fun b c e q => ⟨c,q,rfl⟩⟩ (Mp.le_refl M) (R.temps i)
  objs:=fun κ o q => OR.mono (w:=w) (w':={ w with drawn:=n }) (R.objs κ o q) (fun b _ => rfl) (Mp.le_refl M) ⟨fun b o V hok hc => ⟨(cell_of_block rfl).trans hc,hok⟩,fun b q => q,fun b c e q => ⟨c,q,rfl⟩⟩
  keep:=fun b o V q q' => (cell_of_block (w':={ w with drawn:=n }) rfl).trans (R.keep b o V q q')
  frame:=R.frame
  os:=R.os
  tape:=R.tape
  output:=R.output
  size:=R.size
  grow:=fun b c e q => R.grow b c e q
  drw:=fun q => Nat.le_trans (R.drw q) hn }
theorem regSound (C : Cx) (nt : Nat) : RegSound P H C nt:=by
 intro O hO id ops draw s q res M a w h R hs hdf
 unfold runReg at h
 cases draw with
 | false =>
  simp only [cond_false] at h
  have:=runL_sound (ops:=ops) hO (base:=s.next) (nt:=nt) ops.toList 0 s M a w (Nat.zero_le _) rfl (by simpa using R) hs hdf rfl h
  exact wp_region (by simpa using this)
 | true =>
  simp only [cond_true] at h
  cases hm : P.follows .mixedOrders with
  | false => simp only [hm,cond_false] at h;cases h
  | true =>
   simp only [hm,cond_true] at h
   obtain ⟨anc,h⟩:=withAnc_spec _ _ _ h
   cases hb : (ancOk anc ops.toList 0 && apartAll ops.toList anc ops.toList 0) with
   | false => simp only [hb,cond_false] at h;cases h
   | true =>
    simp only [hb,cond_true] at h
    simp only [Bool.and_eq_true] at hb
    obtain ⟨l,s',tr,hq,hn,hl,_,hp⟩:=runD_tr hO ops.toList 0 s [] rfl h
    have gr : ∀ j,(Array.replicate ops.size false).getD j true = false ↔ j < ops.size:=fun j => by
     rcases Nat.lt_or_ge j ops.size with z|z
     ·simp [z]
     ·simp [z]
    refine wp_region_any hm (any_sound (base:=s.next) (nt:=nt) hb.1 hb.2 (t2:=getT s'.t) (h2:=lk s'.h) (fun M' a' w' R' hs' hdf' => ⟨rfl,s',M',hq,by simpa using R',hs',hdf',hn⟩) ops.size _ l s M a _ tr ?_ (fun i => ?_) ?_ hp (fun i o ho q => ?_) (by simp) ((R.drawn (Nat.le_succ _)).weaken fun κ q => q.1) hs hdf)
    ·have:=congrArg List.length hl
     simp at this
     omega
    ·rw [hl,gr]
     simp [List.mem_range']
    ·rw [hl]
     exact List.pairwise_lt_range'
    ·rw [getD_replicate_false'] at q
     cases q
end
end Go.Proofs.Ytfgoojnblomonaa.R
end
section
set_option linter.unusedVariables false
set_option linter.unusedSimpArgs false
namespace Go.Proofs.Ytfgoojnblomonaa.R
open Go Go.RowKit
structure Tw where
 id : FuncId
 A : Type
 R : Type
 dec : List AV → List Obj → Option A
 ea : A → List AV
 eh : A → List Obj
 run : Nat → A → Option R
 en : A → R → Res
 md : Bool
noncomputable def Tw.orc (T : Tw) (k : Nat) (nx : Oracle) : Oracle:=fun f args hc q =>
 condH (Nat.beq f T.id) (match T.dec args hc with
  | some a => (T.run k a).bind fun r => q (T.en a r).1 (T.en a r).2
  | none => nx f args hc q) (nx f args hc q)
def noO : Oracle:=fun _ _ _ _ => none
def Tw.DecOk (T : Tw) : Prop := ∀ args hc a,T.dec args hc = some a → args = T.ea a ∧ hc = T.eh a
def Tw.Ok (P : Program) (T : Tw) (k : Nat) : Prop := ∀ (md : Bool),(md = true → T.md = true) → ∀ a r,T.run k a = some r → CallSpec md P T.id (T.ea a) (T.eh a) (T.en a r).1 (T.en a r).2
theorem noO_sound {CS : CSp} : OSound CS noO:=fun f args hc q res h => by cases h
theorem Tw.orc_sound {md : Bool} {P : Program} {T : Tw} {k : Nat} {nx : Oracle} (hd : T.DecOk) (ho : T.Ok P k) (hm : md = true → T.md = true) (hn : OSound (CallSpec md P) nx) : OSound (CallSpec md P) (T.orc k nx):=by
 intro f args hc q res h
 unfold Tw.orc at h
 rw [condH_eq] at h
 cases hq : Nat.beq f T.id with
 | false =>
  simp only [hq,cond_false] at h
  exact hn _ _ _ _ _ h
 | true =>
  simp only [hq,cond_true] at h
  have:=beqT hq
  subst this
  split at h
  ·rename_i a ha
   obtain ⟨rfl,rfl⟩:=hd _ _ _ ha
   obtain ⟨r,hr,hk⟩:=Option.bind_eq_some_iff.1 h
   exact ⟨_,_,ho md hm _ _ hr,hk⟩
  ·exact hn _ _ _ _ _ h
theorem callable_of {P : Program} {f : FuncId} {fn : Func} (hf : P.funcs[f]? = some fn) (hname : (fn.name == "runtime.NumGoroutine") = false) (hb : fn.body.isSome = true) : callable P f:=fun args w => by
 have h1 : fn.name ≠ "runtime.NumGoroutine" := by simpa using hname
 obtain ⟨c,hc⟩:=Option.isSome_iff_exists.1 hb
 simp [callFunc,hf,h1,hc]
theorem fn_ok {md : Bool} {P : Program} {H : Hints} {fn : Func} {fh : FH} {f : FuncId} (hf : P.funcs[f]? = some fn) (hb : fn.body.isSome = true) (hg : (fn.name == "runtime.NumGoroutine") = false) {O : Nat → Oracle} {k : Nat} (hO : ∀ j,j ≤ k → OSound (CallSpec md P) (O j)) {args : List AV} {hc : List Obj} {res : Res}
  (hn : Nat.ble args.length fn.ntmps = true) {m : Nat} (hm : m = hc.length) (h : start P H O m fn fh k args hc = some res) : CallSpec md P f args hc res.1 res.2:=by
 obtain ⟨c,hc'⟩:=Option.isSome_iff_exists.1 hb
 subst hm
 exact fn_sound hf hc' (callable_of hf hg hb) hO (fun C => regSound C _) (Nat.le_of_ble_eq_true hn) h
theorem two_of {n : Nat} {vs : Array Value} {x y : Value} (hl : n + 1 + 1 = vs.size) (h0 : ∀ {V},vs[0]? = some V → V = x) (h1 : ∀ {V},vs[1]? = some V → V = y) (hn : n = 0:=by rfl) : vs = #[x,y]:=by
 subst hn
 apply Array.ext
 ·simp [← hl]
 ·intro i a b
  match i with
  | 0 => exact h0 (Array.getElem?_eq_getElem a)
  | 1 => exact h1 (Array.getElem?_eq_getElem a)
  | i + 2 => exact absurd b (by simp)
theorem map_ite {α β : Type} (p : Prop) [d : Decidable p] (x y : Option α) (f : α → β) : (if p then x else y).map f = if p then x.map f else y.map f:=by split <;> rfl
theorem map_bind {α β γ : Type} (x : Option α) (g : α → Option β) (f : β → γ) : (x.bind g).map f = x.bind fun a => (g a).map f:=by cases x <;> rfl
theorem map_none {α β : Type} (f : α → β) : (none : Option α).map f = none:=rfl
theorem map_some {α β : Type} (a : α) (f : α → β) : (some a : Option α).map f = some (f a):=rfl
theorem idropT {α : Type} {p : Prop} [d : Decidable p] {x z u : α} (h : p) (e : x = u) : @ite α p d x z = u:=(if_pos h).trans e
theorem idropF {α : Type} {p : Prop} [d : Decidable p] {x z u : α} (h : ¬ p) (e : x = u) : @ite α p d z x = u:=(if_neg h).trans e
theorem icong {α : Type} {p : Prop} {d : Decidable p} {x y u v : α} (e : p → x = u) (f : ¬ p → y = v) : @ite α p d x y = @ite α p d u v:=by
 by_cases h : p
 ·rw [if_pos h,if_pos h,e h]
 ·rw [if_neg h,if_neg h,f h]
theorem bcong {α β : Type} {x : Option α} {f g : α → Option β} (h : ∀ a,f a = g a) : x.bind f = x.bind g:=congrArg _ (funext h)
def mn (a b : Int) : Int:=if b < a then b else a
def mx (a b : Int) : Int:=if b > a then b else a
end Go.Proofs.Ytfgoojnblomonaa.R
end
section
set_option linter.unusedVariables false
set_option linter.unusedSimpArgs false
namespace Go.Proofs.Ytfgoojnblomonaa.R
open Go Go.RowKit
theorem Gr.below {w w' : World} (B : Below w.heap.size w w') : Gr w w':=fun b c e q => ⟨c,(B.block b (Array.getElem?_eq_some_iff.1 q).1).trans q,rfl⟩
section
variable {w w' : World} {M : Mp} {I : Okk} {args : List AV} {vs : Array Value}
end
end Go.Proofs.Ytfgoojnblomonaa.R
end
section
set_option linter.unusedVariables false
set_option linter.unusedSimpArgs false
namespace Go.Proofs.Ytfgoojnblomonaa.R
open Go Go.RowKit
def M0 : Mp:=⟨fun _ => none,fun _ _ => none,fun _ => none⟩
theorem entry0 {w : World} {args : List AV} {vs : Array Value} (hl : args.length = vs.size) (ha : ∀ (i : Nat) (v : AV) (V : Value),args[i]? = some v → vs[i]? = some V → VR w okT M0 v V) : Entry w M0 okT args [] vs where
 len:=hl
 args:=fun i v V p q => (ha i v V p q).mono (ok':=(Cx.call false w M0 okT []).ok M0 (lf [])) ⟨fun b o V _ hc => ⟨hc,fun ⟨κ,ob,z,_⟩ => by simp [lf] at z,fun _ => .inl trivial⟩,fun b q => .inl q,Gr.refl w⟩ (Mp.le_refl _)
 objs:=fun κ o q => by simp [lf] at q
 inj:=fun κ κ' o o' b q => by simp [lf] at q
 cur0:=fun κ o q => by simp [lf] at q
 acell:=fun κ ob b o q => by simp [lf] at q
 clean:=fun κ _ => ⟨rfl,rfl,fun _ => rfl⟩
 clean1:=fun κ v _ => rfl
 vers:=fun κ v V q => by cases q
theorem VR.agg_of {w : World} {ok : Okk} {M : Mp} : ∀ (cs : List AV) (vs : List Value),cs.length = vs.length → (∀ (i : Nat) (v : AV) (V : Value),cs[i]? = some v → vs[i]? = some V → VR w ok M v V) → VR w ok M (.agg cs) (.agg vs.toArray) :=
 fun cs vs hl h => .agg cs vs.toArray (by simpa using hl) (fun i v V p q => h i v V p (by simpa using q))
theorem imm_row {w : World} {M : Mp} {c : Ct} {A : Option Addr} {cap : Nat} (hcap : c.len ≤ cap) (h : 0 < c.len → ∃ b o,A = some ⟨b,o,none⟩ ∧ ∀ i j,i < c.len → j < c.sz → ∃ u,w.cell? ⟨b,o + (i * c.sz + j),none⟩ = some u ∧ CR w okT (c.cell (i : Int) j) u) : VR w okT M (.imm c) (.slice A c.len cap):=by
 refine .closed (CR.imm_of hcap (fun q => ?_) (fun b o e i j hi hj => ?_))
 ·obtain ⟨b,o,e,_⟩:=h q
  exact ⟨b,o,e⟩
 ·obtain ⟨b',o',e',hh⟩:=h (by omega)
  rw [e'] at e
  simp only [Option.some.injEq,Addr.mk.injEq,and_true] at e
  obtain ⟨rfl,rfl⟩:=e
  obtain ⟨u,q1,q2⟩:=hh i j hi hj
  exact ⟨u,q1,trivial,q2⟩
end Go.Proofs.Ytfgoojnblomonaa.R
end
section
set_option linter.unusedVariables false
set_option linter.unusedSimpArgs false
namespace Go.Proofs.Ytfgoojnblomonaa.R
open Go Go.RowKit
theorem add_zero_spot {a : Addr} (h : (a.add 0).spot = none) : a.spot = none:=by
 unfold Addr.add at h
 split at h <;> simp_all
theorem row_VR {w : World} {M : Mp} {c : Ct} {A : Option Addr} {cap : Nat} (hcap : c.len ≤ cap) (h : 0 < c.len → ∃ ad,A = some ad ∧ ∀ i j,i < c.len → j < c.sz → ∃ u,w.cell? (ad.add (i * c.sz + j)) = some u ∧ CR w okT (c.cell (i : Int) j) u) : VR w okT M (.imm c) (.slice A c.len cap):=by
 refine imm_row hcap fun hp => ?_
 obtain ⟨ad,rfl,hh⟩:=h hp
 have hs : ad.spot = none:=by
  obtain ⟨u,q,_⟩:=hh 0 0 hp (sz_pos c)
  rw [Nat.zero_mul,Nat.add_zero] at q
  exact add_zero_spot (World.cell?_spot q)
 obtain ⟨b,o,s⟩:=ad
 simp only at hs
 subst hs
 refine ⟨b,o,rfl,fun i j hi hj => ?_⟩
 obtain ⟨u,q1,q2⟩:=hh i j hi hj
 rw [add_at] at q1
 exact ⟨u,q1,q2⟩
def stepCells (s : Stp) : List Value:=[.int .i64 s.f0,.string s.f1,.int .i64 s.f2,.int .i64 s.f3]
def StepRow (w : World) (A : Option Addr) (l : List Stp) : Prop:=0 < l.length → ∃ ad,A = some ad ∧ ∀ (i : Nat) (s : Stp),l[i]? = some s → ∀ (u : Nat) (y : Value),(stepCells s)[u]? = some y → w.cell? (ad.add (i * 4 + u)) = some y
theorem StepRow.vr {w : World} {M : Mp} {A : Option Addr} {l : List Stp} {cap : Nat} (h : StepRow w A l) (hcap : l.length ≤ cap) : VR w okT M (.imm (.T l)) (.slice A l.length cap):=by
 refine row_VR (c:=.T l) hcap fun hp => ?_
 obtain ⟨ad,e,hh⟩:=h hp
 refine ⟨ad,e,fun i j hi hj => ?_⟩
 have hi' : i < l.length:=hi
 have hs : l[i]? = some l[i]:=List.getElem?_eq_getElem hi'
 have e1 : rdT l (i : Int) = l[i]:=by simp [rdT,hs]
 have hj : j < 4:=hj
 match j,hj with
 | 0,_ => exact ⟨_,hh i _ hs 0 _ rfl,by simp only [Ct.cell,e1];exact .int _ _⟩
 | 1,_ => exact ⟨_,hh i _ hs 1 _ rfl,by simp only [Ct.cell,e1];exact .str _⟩
 | 2,_ => exact ⟨_,hh i _ hs 2 _ rfl,by simp only [Ct.cell,e1];exact .int _ _⟩
 | 3,_ => exact ⟨_,hh i _ hs 3 _ rfl,by simp only [Ct.cell,e1];exact .int _ _⟩
theorem ints_vr {w : World} {M : Mp} {k : IntKind} {A : Option Addr} {l : List Int} {cap : Nat} (hcap : l.length ≤ cap) (h : 0 < l.length → ∃ ad,A = some ad ∧ ∀ (i : Nat) (x : Int),l[i]? = some x → w.cell? (ad.add i) = some (.int k x)) : VR w okT M (.imm (.I k l)) (.slice A l.length cap):=by
 refine row_VR (c:=.I k l) hcap fun hp => ?_
 obtain ⟨ad,e,hh⟩:=h hp
 refine ⟨ad,e,fun i j hi hj => ?_⟩
 have hi' : i < l.length:=hi
 have hj : j = 0:=by simp [Ct.sz] at hj;exact hj
 subst hj
 have e1 : rdI l (i : Int) = l[i]:=by simp [rdI,hi']
 refine ⟨.int k l[i],?_,by simp only [Ct.cell,e1];exact .int _ _⟩
 rw [show (Ct.I k l).sz = 1 from rfl,Nat.mul_one,Nat.add_zero]
 exact hh i _ (List.getElem?_eq_getElem hi')
end Go.Proofs.Ytfgoojnblomonaa.R
end
section
set_option linter.unusedVariables false
set_option linter.unusedSimpArgs false
namespace Go.Proofs.Ytfgoojnblomonaa.R
open Go Go.RowKit
section
variable {P : Program} {H : Hints} {C : Cx} {fn : Func} {fh : FH} {Q : Act → World → Prop}
def GoodQ (Q : Act → World → Prop) (P : Program) (C : Cx) (fn : Func) (todo : List Item) (s : St) : Prop :=
 ∀ M a w,Rel C (fun κ => s.next ≤ κ) M (getT s.t) (lk s.h) a.tmps w → a.tmps.size = fn.ntmps → a.defers = [] → ∀ (b : Frame) (k : List Item) (cs : List Frame),
  ∃ e a' w',(e = .normal ∨ e = .ret) ∧ Q a' w' ∧ Arrives P (lone (b.at a (todo ++ k)) cs w) b k cs e a' w'
theorem region_stepQ (hR : RegSound P H C fn.ntmps) {O : Oracle} (hO : OSound (CallSpec C.md P) O) {id : Nat} {ops : Array Oper} {draw : Bool} {s : St} {rest : List Item} {nxt : St → Option Res} {res : Res}
  (h : runReg P H O ops draw fn.ntmps s (fun s' => nxt ⟨s'.t,s'.h,s.next + 16 * ops.toList.length⟩) = some res) (hn : ∀ s',nxt s' = some res → GoodQ Q P C fn rest s') : GoodQ Q P C fn (.code (.region id ops draw) :: rest) s:=by
 intro M a w R hnt hd b k cs
 obtain ⟨e,a',w',⟨rfl,s',M',q1,q2,q3,q4,q5⟩,harr⟩:=hR O hO id ops draw s _ res M a w h R hnt hd b (rest ++ k) cs
 obtain ⟨e2,a2,w2,x1,x2,x3⟩:=hn _ q1 M' a' w' q2 q3 q4 b k cs
 exact ⟨e2,a2,w2,x1,x2,.of_steps harr x3⟩
theorem seg_soundQ (hR : RegSound P H C fn.ntmps) {res : Res} (hfin : ∀ a w,FinOK P C fn res a w → Q a w) {O : Oracle} (hO : OSound (CallSpec C.md P) O) {nxt : List Item → St → Option Res} (hn : ∀ todo s,nxt todo s = some res → GoodQ Q P C fn todo s) :
  ∀ (j : Nat) (todo : List Item) (s : St),seg P H O C.m fn fh nxt j todo s = some res → GoodQ Q P C fn todo s
 | 0,todo,s,h => by cases h
 | j + 1,todo,s,h => by
  have ih:=seg_soundQ hR hfin hO hn j
  have h : segStep P H O C.m fn fh nxt (seg P H O C.m fn fh nxt j) todo s = some res:=h
  unfold segStep at h
  split at h
  ·intro M a w R hnt hd b k cs
   obtain ⟨V,M1,y1,y2,y3⟩:=fin_sound (P:=P) h R
   exact ⟨.normal,a,w,.inl rfl,hfin _ _ ⟨hd,V,M1,y1,y2,y3⟩,Steps.refl P _⟩
  ·intro M a w R hnt hd b k cs
   obtain ⟨V,M1,y1,y2,y3⟩:=fin_sound (P:=P) h R
   exact ⟨.ret,a,w,.inr rfl,hfin _ _ ⟨hd,V,M1,y1,y2,y3⟩,_,.one step_ret⟩
  ·intro M a w R hnt hd b k cs
   obtain ⟨e,a',w',x1,x2,x3⟩:=ih _ _ h M a w R hnt hd b k cs
   exact ⟨e,a',w',x1,x2,.of_steps (.one step_skip) x3⟩
  ·intro M a w R hnt hd b k cs
   obtain ⟨e,a',w',x1,x2,x3⟩:=ih _ _ h M a w R hnt hd b k cs
   exact ⟨e,a',w',x1,x2,.of_steps (.one step_label) x3⟩
  ·intro M a w R hnt hd b k cs
   obtain ⟨e,a',w',x1,x2,x3⟩:=ih _ _ h M a w R hnt hd b k cs
   exact ⟨e,a',w',x1,x2,.of_steps (.one step_inBlock) x3⟩
  ·intro M a w R hnt hd b k cs
   obtain ⟨e,a',w',x1,x2,x3⟩:=ih _ _ h M a w R hnt hd b k cs
   exact ⟨e,a',w',x1,x2,.of_steps (.one step_seq) x3⟩
  ·rename_i c x y k0 _
   intro M a w R hnt hd b k cs
   obtain ⟨v,hv,hb⟩:=branch_spec (ev_VR R c) h
   rcases hb with ⟨rfl,hb⟩ | ⟨rfl,hb⟩
   ·obtain ⟨e,a',w',x1,x2,x3⟩:=ih _ _ hb M a w R hnt hd b k cs
    exact ⟨e,a',w',x1,x2,.of_steps (.one (step_cond (y:=y) hv)) x3⟩
   ·obtain ⟨e,a',w',x1,x2,x3⟩:=ih _ _ hb M a w R hnt hd b k cs
    exact ⟨e,a',w',x1,x2,.of_steps (.one (step_cond (x:=x) hv)) x3⟩
  ·intro M a w R hnt hd b k cs
   obtain ⟨e,a',w',x1,x2,x3⟩:=ih _ _ h M a w R hnt hd b k cs
   exact ⟨e,a',w',x1,x2,.of_steps (.one step_block) x3⟩
  ·intro M a w R hnt hd b k cs
   obtain ⟨e,a',w',x1,x2,x3⟩:=ih _ _ h M a w R hnt hd b k cs
   exact ⟨e,a',w',x1,x2,.of_steps (.one step_loop) x3⟩
  ·intro M a w R hnt hd b k cs
   obtain ⟨e,a',w',x1,x2,x3⟩:=ih _ _ h M a w R hnt hd b k cs
   exact ⟨e,a',w',x1,x2,.of_steps (.one step_inLoop) x3⟩
  ·rename_i id k0 _
   split at h
   ·rename_i k' hk
    intro M a w R hnt hd b k cs
    obtain ⟨e,a',w',x1,x2,x3⟩:=ih _ _ h M a w R hnt hd b k cs
    exact ⟨e,a',w',x1,x2,.of_steps (.one (step_exit (exitTo_app k0 k k' hk))) x3⟩
   ·cases h
  ·rename_i id ops draw k0
   split at h
   ·rename_i ts hts
    split at h
    ·rename_i s' hs'
     intro M a w R hnt hd b k cs
     obtain ⟨M',R'⟩:=gc_sound rfl hs' R
     exact hn _ _ h M' a w R' hnt hd b k cs
    ·cases h
   ·exact region_stepQ hR hO h (fun s' q => ih _ _ q)
  ·cases h
open Classical in
noncomputable def nx1 (todo : List Item) (s : St) (res : Res) : List Item → St → Option Res:=fun todo' s' => if todo' = todo ∧ s' = s then some res else none
theorem nx1_self (todo : List Item) (s : St) (res : Res) : nx1 todo s res todo s = some res:=by simp [nx1]
theorem nx1_good {todo : List Item} {s : St} {res : Res} (h : GoodQ Q P C fn todo s) : ∀ todo' s',nx1 todo s res todo' s' = some res → GoodQ Q P C fn todo' s':=by
 intro t' s' q
 unfold nx1 at q
 split at q
 ·rename_i e;rw [e.1,e.2];exact h
 ·cases q
theorem enterQ {f : FuncId} {c : Code} (hf : P.funcs[f]? = some fn) (hb : fn.body = some c) {w : World} {M : Mp} {I : Okk} {args : List AV} {vs : Array Value} (E : Entry w M I args [] vs) (hn : args.length ≤ fn.ntmps) {V : Value} {Z : World → Prop}
  (G : GoodQ (fun a w' => a.defers = [] ∧ (results fn a.tmps).run P w' = .ok V w' ∧ Z w') P (Cx.call false w M I []) fn [.code (bodyOf fn)] ⟨(List.range args.length).zip args,[],2⟩) : Calls P f vs w fun e w' => e = .returned V ∧ Z w':=by
 refine calls_of_wp hf hb ?_
 intro b kk cs
 have hbody : bodyOf fn = c:=by simp [bodyOf,hb]
 rw [hbody] at G
 have hsz : (vs ++ Array.replicate (fn.ntmps - vs.size) undef).size = fn.ntmps:=by
  have:=E.len
  simp;omega
 have R0:=E.rel false
 have R1 : Rel (Cx.call false w M I []) (fun κ => 2 ≤ κ) M (getT ((List.range args.length).zip args)) (lk []) (vs ++ Array.replicate (fn.ntmps - vs.size) undef) w:=by
  have e0 : lk [] = lf []:=by funext i;simp [lk,lf]
  rw [e0]
  refine { R0 with temps:=fun i => ?_ }
  rw [zip_getT]
  by_cases hi : i < args.length
  ·have h1 : args[i]? = some args[i]:=List.getElem?_eq_getElem hi
   have hi' : i < vs.size:=by have:=E.len;omega
   have e1 : args.getD i .dead = args[i]:=by simp [List.getD_eq_getElem?_getD,hi]
   have e2 : (vs ++ Array.replicate (fn.ntmps - vs.size) undef).getD i undef = vs[i]:=by
    rw [Array.getD_eq_getD_getElem?,Array.getElem?_append,if_pos hi',Array.getElem?_eq_getElem hi'];rfl
   rw [e1,e2]
   exact E.args i _ _ h1 (Array.getElem?_eq_getElem hi')
  ·have : args.getD i .dead = .dead:=by simp [List.getD_eq_getElem?_getD,List.getElem?_eq_none (show args.length ≤ i from by omega)]
   rw [this];exact .dead _
 obtain ⟨e,a',w',he,⟨x1,x2,x3⟩,harr⟩:=G M ⟨_,[]⟩ w R1 hsz rfl b kk cs
 refine ⟨e,a',w',?_,harr⟩
 rcases he with rfl|rfl
 ·exact ⟨x1,V,x2,rfl,x3⟩
 ·exact ⟨x1,V,x2,rfl,x3⟩
end
end Go.Proofs.Ytfgoojnblomonaa.R
end
