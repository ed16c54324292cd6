/- A region that draws its order: one obligation for each operation (Region), with guarded operations and with one slot that is read before it is written. -/
import Derived.Test.YtgdagfiebaebbaaRegion
namespace Go.Proofs.Ytgdagfiebaebbaa
open Go.RowKit

/-- Does i wait for j? -/
def waitB (o : Oper) (j : Nat) : Bool := o.after.any fun e => Region.binds .any e && e.on == j
def readB (o : Oper) (t : Tmp) : Bool := o.op.operands.any fun x => match x with | .tmp u => u == t | _ => false
/-- What the text of a region must show: no select or defer; edges point back; a guard is waited for; a slot that an operation looks at is written by an operation that it waits for, or by none, or it is the late slot and its writer waits for the operation; no slot is written twice. -/
def backB2 (t2 : Option Tmp) (ops : Array Oper) : Bool := (List.range ops.size).all fun i => match ops[i]? with
  | none => true
  | some o => (match o.guard with | none => true | some (j, _) => waitB o j && ((ops[j]?).bind (·.dst) != t2 || t2 == none)) && (match o.op with | .select .. | .defer .. => false | _ => true) && o.after.all (fun e => !Region.binds .any e || decide (e.on < i)) &&
     (List.range ops.size).all fun j => match ops[j]? with
       | none => true
       | some p => match p.dst with
         | none => true
         | some t => (decide (j = i) || o.dst != some t) && (!readB o t || (waitB o j && t2 != some t) || (t2 == some t && (waitB p i || j == i)))
theorem waitB_spec {o : Oper} {j : Nat} (h : waitB o j = true) : ∃ e ∈ o.after, Region.binds .any e = true ∧ e.on = j := by
  obtain ⟨e, he, hb⟩ := Array.any_eq_true'.1 h
  simp only [Bool.and_eq_true] at hb
  exact ⟨e, he, hb.1, by simpa using hb.2⟩
theorem readB_of {o : Oper} {t : Tmp} (h : Operand.tmp t ∈ o.op.operands) : readB o t = true := Array.any_eq_true'.2 ⟨_, h, by simp⟩
theorem backB2_spec {t2 : Option Tmp} {ops : Array Oper} (h : backB2 t2 ops = true) {i : Nat} {o : Oper} (hi : ops[i]? = some o) :
    (∀ j b, o.guard = some (j, b) → waitB o j = true ∧ ∀ t, (ops[j]?).bind (·.dst) = some t → t2 ≠ some t) ∧ (∀ cs b, o.op ≠ .select cs b) ∧ (∀ c, o.op ≠ .defer c) ∧ (∀ e ∈ o.after, Region.binds .any e = true → e.on < i) ∧
    ∀ j p t, ops[j]? = some p → p.dst = some t → (j = i ∨ o.dst ≠ some t) ∧ (Operand.tmp t ∈ o.op.operands → (waitB o j = true ∧ t2 ≠ some t) ∨ (t2 = some t ∧ (waitB p i = true ∨ j = i))) := by
  have lt : ∀ {k : Nat} {q : Oper}, ops[k]? = some q → k < ops.size := fun {k q} hk => by
    rcases Nat.lt_or_ge k ops.size with h | h
    · exact h
    · rw [Array.getElem?_eq_none h] at hk; cases hk
  have h1 := List.all_eq_true.1 h i (List.mem_range.2 (lt hi))
  rw [hi] at h1
  simp only [Bool.and_eq_true] at h1
  obtain ⟨⟨⟨a1, a2⟩, a3⟩, a4⟩ := h1
  refine ⟨fun j b e => ?_, fun cs b e => (by rw [e] at a2; cases a2), fun c e => (by rw [e] at a2; cases a2), fun e he hb => (by have := Array.all_eq_true_iff_forall_mem.1 a3 e he; rw [hb] at this; simpa using this), fun j p t hj hp => ?_⟩
  · rw [e] at a1
    simp only [Bool.and_eq_true, Bool.or_eq_true] at a1
    refine ⟨a1.1, fun t ht e2 => ?_⟩
    rw [ht, e2] at a1
    simp at a1
  · have h2 := List.all_eq_true.1 a4 j (List.mem_range.2 (lt hj))
    rw [hj] at h2
    simp only [hp] at h2
    simp only [Bool.and_eq_true, Bool.or_eq_true] at h2
    obtain ⟨b1, b2⟩ := h2
    refine ⟨?_, fun ho => ?_⟩
    · rcases b1 with b1 | b1
      · exact .inl (of_decide_eq_true b1)
      · exact .inr (by simpa using b1)
    · rw [readB_of ho] at b2
      rcases b2 with (b2 | b2) | b2
      · cases b2
      · exact .inl ⟨b2.1, by simpa using b2.2⟩
      · exact .inr ⟨by simpa using b2.1, by simpa using b2.2⟩
/-- The act in the middle. -/
structure Mid2 (ops : Array Oper) (t2 : Option Tmp) (L : Array Bool) (f : Act) (v2 : Value) (a : Act) : Prop where
  d : a.defers = f.defers
  s : a.tmps.size = f.tmps.size
  n : ∀ t, t2 ≠ some t → (∀ (j : Nat) o, ops[j]? = some o → o.dst = some t → L.getD j true = true) → a.tmps.getD t undef = f.tmps.getD t undef
  e : ∀ t, t2 = some t → (∀ (j : Nat) o, ops[j]? = some o → o.dst = some t → L.getD j true = false) → a.tmps.getD t undef = f.tmps.getD t undef
  w : ∀ t, t2 = some t → t < f.tmps.size → ∀ (j : Nat) o, ops[j]? = some o → o.dst = some t → L.getD j true = true → a.tmps.getD t undef = v2
/-- What an operation of a region owes. -/
def Owes (P : Program) (ops : Array Oper) (t2 : Option Tmp) {R : Type} (val2 : R → Value) (fin : R → Act) (D : (Nat → Bool) → R → World → Prop) (i : Nat) (o : Oper) : Prop :=
  ∀ L r w (K : Act → World → Prop), L i = false → (∀ e ∈ o.after, Region.binds .any e = true → L e.on = true) → D L r w →
    (∀ r' w', D (fun j => L j || j == i) r' w' → cond (o.dst == t2) True (val2 r' = val2 r) → K (cond (o.dst == t2) ((fin r').put t2 (val2 r')) (fin r')) w') →
    (Region.wanted o (yielded ops (fin r).tmps) = true ∧ o.wp P (fin r) w K (fun _ _ _ => False)) ∨ (Region.wanted o (yielded ops (fin r).tmps) = false ∧ K ((fin r).put o.dst undef) w)

theorem put_defers (a : Act) (d : Option Tmp) (v : Value) : (a.put d v).defers = a.defers := by cases d <;> rfl
theorem put_size (a : Act) (d : Option Tmp) (v : Value) : (a.put d v).tmps.size = a.tmps.size := by cases d <;> simp [Act.put]
theorem put_other {a : Act} {d : Option Tmp} {v : Value} {t : Tmp} (h : d ≠ some t) : (a.put d v).tmps.getD t undef = a.tmps.getD t undef := by
  cases d with
  | none => rfl
  | some u => simp only [Act.put]; rw [getD_put, if_neg fun k => h (by rw [k.1])]
theorem put_same {a : Act} {v : Value} {t : Tmp} (h : t < a.tmps.size) : (a.put (some t) v).tmps.getD t undef = v := by
  simp only [Act.put]; rw [getD_put, if_pos ⟨rfl, h⟩]
theorem getD_big {a : Act} {t : Tmp} (h : ¬ t < a.tmps.size) : a.tmps.getD t undef = undef := by
  rw [Array.getD_eq_getD_getElem?, Array.getElem?_eq_none (Nat.not_lt.1 h)]; rfl
theorem yielded_same {ops : Array Oper} {a b : Array Value} {j : Nat} (hs : a.size = b.size) (h : ∀ t, (ops[j]?).bind (·.dst) = some t → a.getD t undef = b.getD t undef) : yielded ops a j = yielded ops b j := by
  unfold yielded
  cases ht : (ops[j]?).bind (·.dst) with
  | none => rfl
  | some t =>
    have := h t ht
    simp only [Option.bind_some]
    by_cases hl : t < a.size
    · rw [Array.getD_eq_getD_getElem?, Array.getD_eq_getD_getElem?, Array.getElem?_eq_getElem hl, Array.getElem?_eq_getElem (hs ▸ hl)] at this
      rw [Array.getElem?_eq_getElem hl, Array.getElem?_eq_getElem (hs ▸ hl)]
      simp only [Option.getD_some] at this
      rw [this]
    · rw [Array.getElem?_eq_none (Nat.not_lt.1 hl), Array.getElem?_eq_none (Nat.not_lt.1 (hs ▸ hl))]

theorem wp_region_fin2 {P : Program} {id : Nat} {l : List Oper} {Q : Exit → Act → World → Prop} {a : Act} {w : World} {R : Type} (t2 : Option Tmp) (val2 : R → Value) (fin : R → Act) (D : (Nat → Bool) → R → World → Prop)
    (hm : P.follows .mixedOrders = true) (hB : backB2 t2 l.toArray = true)
    (r0 : R) (h0 : D (fun j => !decide (j < l.length)) r0 w.drew)
    (hd : ∀ r, (fin r).defers = a.defers) (hsz : ∀ r, (fin r).tmps.size = a.tmps.size)
    (hkeep : ∀ r t, ((∀ o ∈ l, o.dst ≠ some t) ∨ t2 = some t) → (fin r).tmps.getD t undef = a.tmps.getD t undef)
    (hstep : EachOp (Owes P l.toArray t2 val2 fin D) 0 l) (ht2 : ∀ t, t2 = some t → ∃ o ∈ l, o.dst = some t)
    (hend : ∀ r w', D (fun _ => true) r w' → Q .normal ((fin r).put t2 (val2 r)) w') : (Code.region id l.toArray true).wp P Q a w := by
  refine wp_region_any hm ?_
  refine wpAny_inv (fun L b w => L.size = l.length ∧ (∀ (j : Nat) p, l.toArray[j]? = some p → L.getD j true = true → ∀ e ∈ p.after, Region.binds .any e = true → L.getD e.on true = true) ∧ ∃ r, Mid2 l.toArray t2 L (fin r) (val2 r) b ∧ D (fun j => L.getD j true) r w) ?_ ?_ _ _ _ _ ?_ ?_
  · rintro L b w ⟨hL, hcl, r, M, hD⟩ i hi
    obtain ⟨o, ho, hLi, hdep⟩ := ready_mem hi
    obtain ⟨g1, g2, g3, g4, g5⟩ := backB2_spec hB ho
    have hstep' := steps_at hstep (i := i) (o := o) (by simpa using ho)
    rw [Nat.zero_add] at hstep'
    have hil : i < L.size := by
      obtain ⟨h1, _⟩ := getD_false hLi
      simpa using h1
    have hdep' : ∀ e ∈ o.after, Region.binds .any e = true → L.getD e.on true = true := fun e he hb => by
      have h1 := hdep e he hb
      rw [Array.getD_eq_getD_getElem?] at h1 ⊢
      cases h2 : L[e.on]? with
      | none => rfl
      | some x => rw [h2] at h1; simpa using h1
    have hwait : ∀ j, waitB o j = true → L.getD j true = true := fun j hj => by
      obtain ⟨e, he, hb, hej⟩ := waitB_spec hj
      rw [← hej]; exact hdep' e he hb
    -- a slot that o waits for
    have hread : ∀ (j : Nat) (p : Oper) (t : Tmp), l.toArray[j]? = some p → p.dst = some t → t2 ≠ some t → waitB o j = true → b.tmps.getD t undef = (fin r).tmps.getD t undef := by
      intro j p t hj hp ht hw
      refine M.n t ht fun k q hk hq => ?_
      obtain ⟨_, _, _, _, g5'⟩ := backB2_spec hB hk
      rcases (g5' j p t hj hp).1 with e | e
      · rw [← e]; exact hwait j hw
      · exact absurd hq e
    have heval : execOp b.eval o = execOp (fin r).eval o := by
      refine execOp_congr o g2 ?_
      intro x hx
      cases x with
      | tmp t =>
        show b.tmps.getD t undef = (fin r).tmps.getD t undef
        by_cases htt : t2 = some t
        · refine M.e t htt fun j p hj hp => ?_
          cases hLj : L.getD j true with
          | false => rfl
          | true =>
            exfalso
            rcases (g5 j p t hj hp).2 hx with ⟨_, h⟩ | ⟨_, h⟩
            · exact h htt
            · rcases h with h | h
              · obtain ⟨e, he, hb, hej⟩ := waitB_spec h
                have := hcl j p hj hLj e he hb
                rw [hej, hLi] at this; cases this
              · rw [h, hLi] at hLj; cases hLj
        · by_cases hw : ∃ (j : Nat) (p : Oper), l.toArray[j]? = some p ∧ p.dst = some t
          · obtain ⟨j, p, hj, hp⟩ := hw
            rcases (g5 j p t hj hp).2 hx with ⟨h, _⟩ | ⟨h, _⟩
            · exact hread j p t hj hp htt h
            · exact absurd h htt
          · exact M.n t htt fun j p hj hp => absurd ⟨j, p, hj, hp⟩ hw
      | const v => rfl
      | global g => rfl
      | func f => rfl
    have hwanted : Region.wanted o (yielded l.toArray b.tmps) = Region.wanted o (yielded l.toArray (fin r).tmps) := by
      unfold Region.wanted
      cases hg : o.guard with
      | none => rfl
      | some g =>
        obtain ⟨j, want⟩ := g
        obtain ⟨k1, k2⟩ := g1 j want hg
        simp only
        rw [yielded_same (b := (fin r).tmps) M.s fun t ht => ?_]
        cases hj : l.toArray[j]? with
        | none => rw [hj] at ht; cases ht
        | some p =>
          rw [hj] at ht
          exact hread j p t hj ht (k2 t (by rw [hj]; exact ht)) k1
    have hLset : (fun j => (L.setIfInBounds i true).getD j true) = fun j => L.getD j true || j == i := by
      funext j
      rw [Array.getD_eq_getD_getElem?, Array.getD_eq_getD_getElem?, Array.getElem?_setIfInBounds]
      by_cases h : i = j
      · subst h; simp [hil]
      · have : (j == i) = false := by simpa using fun e => h e.symm
        simp [h, this]
    have hset : ∀ j, j ≠ i → (L.setIfInBounds i true).getD j true = L.getD j true := fun j h => by
      have e := congrFun hLset j
      have : (j == i) = false := by simpa using h
      simpa [this] using e
    have hseti : (L.setIfInBounds i true).getD i true = true := by
      have e := congrFun hLset i
      simp only [BEq.rfl, Bool.or_true] at e
      exact e
    have hcl' : ∀ (j : Nat) p, l.toArray[j]? = some p → (L.setIfInBounds i true).getD j true = true → ∀ e ∈ p.after, Region.binds .any e = true → (L.setIfInBounds i true).getD e.on true = true := by
      intro j p hj hLj e he hb
      have up : ∀ k, L.getD k true = true → (L.setIfInBounds i true).getD k true = true := fun k hk => by
        by_cases hki : k = i
        · rw [hki]; exact hseti
        · rw [hset k hki]; exact hk
      by_cases hji : j = i
      · subst hji; rw [ho] at hj; cases hj
        exact up _ (hdep' e he hb)
      · rw [hset j hji] at hLj
        exact up _ (hcl j p hj hLj e he hb)
    -- one step
    have key : ∀ (v : Value) (w' : World), (∃ r', (fin r).put o.dst v = cond (o.dst == t2) ((fin r').put t2 (val2 r')) (fin r') ∧ cond (o.dst == t2) True (val2 r' = val2 r) ∧ D (fun j => L.getD j true || j == i) r' w') →
        (L.setIfInBounds i true).size = l.length ∧ (∀ (j : Nat) p, l.toArray[j]? = some p → (L.setIfInBounds i true).getD j true = true → ∀ e ∈ p.after, Region.binds .any e = true → (L.setIfInBounds i true).getD e.on true = true) ∧
          ∃ r, Mid2 l.toArray t2 (L.setIfInBounds i true) (fin r) (val2 r) (b.put o.dst v) ∧ D (fun j => (L.setIfInBounds i true).getD j true) r w' := by
      rintro v w' ⟨r', hf, hv, hD'⟩
      refine ⟨by simpa using hL, hcl', r', ?_, by rw [hLset]; exact hD'⟩
      have hss : (fin r').tmps.size = (fin r).tmps.size := (hsz r').trans (hsz r).symm
      have hdd : (fin r').defers = (fin r).defers := (hd r').trans (hd r).symm
      -- the other slots
      have hoth : ∀ t, o.dst ≠ some t → t2 ≠ some t → (fin r').tmps.getD t undef = (fin r).tmps.getD t undef := by
        intro t h1 h2
        have e : ((fin r).put o.dst v).tmps.getD t undef = (cond (o.dst == t2) ((fin r').put t2 (val2 r')) (fin r')).tmps.getD t undef := congrArg (fun x : Act => x.tmps.getD t undef) hf
        rw [put_other h1] at e
        cases hc : o.dst == t2 with
        | true => rw [hc] at e; simp only [cond_true] at e; rw [put_other h2] at e; exact e.symm
        | false => rw [hc] at e; simp only [cond_false] at e; exact e.symm
      have hlatest : ∀ t, t2 = some t → (fin r').tmps.getD t undef = (fin r).tmps.getD t undef := fun t h =>
        (hkeep r' t (.inr h)).trans (hkeep r t (.inr h)).symm
      have hwr : ∀ t, o.dst ≠ some t → ∀ (j : Nat) p, l.toArray[j]? = some p → p.dst = some t → (L.setIfInBounds i true).getD j true = L.getD j true := fun t h j p hj hp => hset j fun e => by
        subst e; rw [ho] at hj; cases hj; exact h hp
      refine ⟨by rw [put_defers, M.d, hdd], by rw [put_size, M.s, hss], fun t ht hw => ?_, fun t ht hw => ?_, fun t ht hl j p hj hp hLj => ?_⟩
      · by_cases hdt : o.dst = some t
        · have hc : (o.dst == t2) = false := by
            rw [beq_eq_false_iff_ne]; exact fun e => ht (e ▸ hdt)
          rw [hc] at hf
          simp only [cond_false] at hf
          rw [← hf, hdt]
          by_cases hl : t < (fin r).tmps.size
          · rw [put_same hl, put_same (by rw [M.s]; exact hl)]
          · rw [getD_big (by rw [put_size, M.s]; exact hl), getD_big (by rw [put_size]; exact hl)]
        · rw [put_other hdt, hoth t hdt ht]
          exact M.n t ht fun j p hj hp => (hwr t hdt j p hj hp).symm.trans (hw j p hj hp)
      · by_cases hdt : o.dst = some t
        · have := hw i o ho hdt
          rw [hseti] at this; cases this
        · rw [put_other hdt, hlatest t ht]
          exact M.e t ht fun j p hj hp => (hwr t hdt j p hj hp).symm.trans (hw j p hj hp)
      · by_cases hdt : o.dst = some t
        · have hc : (o.dst == t2) = true := by rw [ht, hdt]; simp
          rw [hc] at hf
          simp only [cond_true] at hf
          have e : ((fin r).put o.dst v).tmps.getD t undef = ((fin r').put t2 (val2 r')).tmps.getD t undef := congrArg (fun x : Act => x.tmps.getD t undef) hf
          rw [hdt, ht] at e
          rw [put_same (by rw [← hss]; exact hl), put_same hl] at e
          rw [hdt, put_same (by rw [M.s, ← hss]; exact hl), e]
        · have hc : (o.dst == t2) = false := by
            rw [beq_eq_false_iff_ne, ht]; exact hdt
          rw [hc] at hv
          simp only [cond_false] at hv
          rw [hwr t hdt j p hj hp] at hLj
          rw [put_other hdt, M.w t ht (by rw [← hss]; exact hl) j p hj hp hLj, hv]
    unfold wpOp
    rw [ho]
    simp only
    have hrun := hstep' (fun j => L.getD j true) r w (fun a' w' => ∃ r', a' = cond (o.dst == t2) ((fin r').put t2 (val2 r')) (fin r') ∧ cond (o.dst == t2) True (val2 r' = val2 r) ∧ D (fun j => L.getD j true || j == i) r' w') hLi hdep' hD (fun r' w' h h2 => ⟨r', rfl, h2, h⟩)
    rw [hwanted]
    rcases hrun with ⟨hw1, hrun⟩ | ⟨hw1, hrun⟩
    · rw [if_pos hw1]
      left
      unfold Oper.wp at hrun ⊢
      rw [heval]
      cases hr : (execOp (fin r).eval o).run P w with
      | ok n w' =>
        rw [hr] at hrun
        cases n <;> simp only [Oper.upon] at hrun ⊢
        case value v => exact key _ _ hrun
        case skip => exact key _ _ hrun
        case enter f args =>
          refine hrun.mono fun e w'' he => ?_
          cases e with
          | returned v => exact key _ _ he
          | panicked c => exact he.elim
          | outgrown => obtain ⟨_, _, h⟩ := he; exact h.elim
        case row x args => exact Rows.mono hrun fun v w'' he => key _ _ he
        case defer d =>
          exfalso
          obtain ⟨r', hf, _⟩ := hrun
          have h1 := congrArg Act.defers hf
          have h3 : (({ (fin r) with defers := d :: (fin r).defers } : Act).put o.dst undef).defers = d :: (fin r).defers := by cases o.dst <;> rfl
          have h4 : (cond (o.dst == t2) ((fin r').put t2 (val2 r')) (fin r')).defers = a.defers := by
            cases o.dst == t2
            · exact hd r'
            · exact (put_defers _ _ _).trans (hd r')
          rw [h3, h4, ← hd r] at h1
          have := congrArg List.length h1
          simp at this
      | halt x w' =>
        rw [hr] at hrun
        cases x <;> simp only [Oper.upon] at hrun
    · rw [if_neg (by rw [hw1]; exact Bool.false_ne_true)]
      exact key _ _ hrun
  · rintro L b w ⟨hL, hcl, r, M, hD⟩ hr
    -- all have come up
    have hall : ∀ n j, j < n → L.getD j true = true := by
      intro n
      induction n with
      | zero => intro j hj; omega
      | succ n ih =>
        intro j hj
        cases hj' : L.getD j true with
        | true => rfl
        | false =>
          exfalso
          obtain ⟨h1, _⟩ := getD_false hj'
          have hjl : j < l.toArray.size := by simp at h1 ⊢; omega
          obtain ⟨o, ho⟩ : ∃ o, l.toArray[j]? = some o := ⟨_, Array.getElem?_eq_getElem hjl⟩
          obtain ⟨_, _, _, g4, _⟩ := backB2_spec hB ho
          have : j ∈ Region.ready .any l.toArray L := by
            unfold Region.ready
            refine List.mem_filter.2 ⟨List.mem_range.2 hjl, ?_⟩
            rw [ho, hj']
            simp only [Bool.not_false, Bool.true_and, Option.map_some, Option.getD_some]
            refine Array.all_eq_true_iff_forall_mem.2 fun e he => ?_
            cases hbe : Region.binds .any e with
            | false => simp
            | true =>
              have h2 := ih e.on (by have := g4 e he hbe; omega)
              have h3 : e.on < L.size := by have := g4 e he hbe; simp at h1; omega
              rw [Array.getD_eq_getD_getElem?, Array.getElem?_eq_getElem h3] at h2 ⊢
              simp at h2 ⊢
              exact h2
          rw [hr] at this
          cases this
    have e1 : b = (fin r).put t2 (val2 r) := by
      refine Act.ext_getD (by rw [put_defers, M.d]) (by rw [put_size, M.s]) fun t => ?_
      by_cases ht : t2 = some t
      · by_cases hl : t < (fin r).tmps.size
        · obtain ⟨o, ho, hdst⟩ := ht2 t ht
          obtain ⟨j, hj, rfl⟩ := List.getElem_of_mem ho
          rw [ht, put_same hl]
          exact M.w t ht hl j l[j] (by simp [hj]) hdst (hall (j + 1) j (by omega))
        · rw [getD_big (by rw [M.s]; exact hl), getD_big (by rw [put_size]; exact hl)]
      · rw [put_other ht]
        exact M.n t ht fun j _ _ _ => hall (j + 1) j (by omega)
    rw [e1]
    refine hend r w ?_
    have : (fun j => L.getD j true) = fun _ => true := funext fun j => hall (j + 1) j (by omega)
    rwa [this] at hD
  · rw [Array.toList_replicate, List.count_replicate]
    simp
  · have hF : ∀ j, (Array.replicate l.toArray.size false).getD j true = !decide (j < l.length) := by
      intro j
      rw [Array.getD_eq_getD_getElem?]
      by_cases h : j < l.length <;> simp [h]
    refine ⟨by simp, fun j p hj hLj => ?_, r0, ⟨(hd r0).symm, (hsz r0).symm, fun t ht hw => ?_, fun t ht hw => (hkeep r0 t (.inr ht)).symm, fun t ht hl j p hj hp hLj => ?_⟩, ?_⟩
    · rw [hF] at hLj
      have : j < l.toArray.size := by
        rcases Nat.lt_or_ge j l.toArray.size with h | h
        · exact h
        · rw [Array.getElem?_eq_none h] at hj; cases hj
      simp at hLj this; omega
    · refine (hkeep r0 t (.inl fun o ho => ?_)).symm
      intro hdst
      obtain ⟨j, hj, rfl⟩ := List.getElem_of_mem ho
      have := hw j l[j] (by simp [hj]) hdst
      rw [hF] at this
      simp [hj] at this
    · rw [hF] at hLj
      have : j < l.toArray.size := by
        rcases Nat.lt_or_ge j l.toArray.size with h | h
        · exact h
        · rw [Array.getElem?_eq_none h] at hj; cases hj
      simp at hLj this; omega
    · rw [show (fun j => (Array.replicate l.toArray.size false).getD j true) = fun j => !decide (j < l.length) from funext hF]
      exact h0
/-- The same, the act told by the slots that the region writes; none is read before it is written. -/
theorem wp_region_gput {P : Program} {id : Nat} {l : List Oper} {Q : Exit → Act → World → Prop} {a : Act} {w : World} {R : Type} (slots : List Tmp) (vals : R → List Value) (D : (Nat → Bool) → R → World → Prop)
    (hm : P.follows .mixedOrders = true) (hB : backB2 none l.toArray = true) (hs : (slots.all fun t => l.any fun o => o.dst == some t) = true)
    (r0 : R) (h0 : D (fun j => !decide (j < l.length)) r0 w.drew)
    (hstep : EachOp (fun i o => ∀ L r w (K : Act → World → Prop), L i = false → (∀ e ∈ o.after, Region.binds .any e = true → L e.on = true) → D L r w →
      (∀ r' w', D (fun j => L j || j == i) r' w' → K (putAll slots (vals r') a) w') →
      (Region.wanted o (yielded l.toArray (putAll slots (vals r) a).tmps) = true ∧ o.wp P (putAll slots (vals r) a) w K (fun _ _ _ => False)) ∨ (Region.wanted o (yielded l.toArray (putAll slots (vals r) a).tmps) = false ∧ K ((putAll slots (vals r) a).put o.dst undef) w)) 0 l)
    (hend : ∀ r w', D (fun _ => true) r w' → Q .normal (putAll slots (vals r) a) w') : (Code.region id l.toArray true).wp P Q a w := by
  refine wp_region_fin2 none (fun _ => undef) (fun r => putAll slots (vals r) a) D hm hB r0 h0 (fun r => putAll_defers _ _ _) (fun r => putAll_size _ _ _) (fun r t ht => putAll_keep _ _ _ _ ?_) ?_ (fun t h => by cases h) hend
  · intro hmem
    rcases ht with ht | ht
    · obtain ⟨o, ho, he⟩ := List.any_eq_true.1 (List.all_eq_true.1 hs t hmem)
      exact ht o ho (by simpa using he)
    · cases ht
  · have go : ∀ (m : List Oper) (n : Nat), EachOp (fun i o => ∀ L r w (K : Act → World → Prop), L i = false → (∀ e ∈ o.after, Region.binds .any e = true → L e.on = true) → D L r w →
        (∀ r' w', D (fun j => L j || j == i) r' w' → K (putAll slots (vals r') a) w') →
        (Region.wanted o (yielded l.toArray (putAll slots (vals r) a).tmps) = true ∧ o.wp P (putAll slots (vals r) a) w K (fun _ _ _ => False)) ∨ (Region.wanted o (yielded l.toArray (putAll slots (vals r) a).tmps) = false ∧ K ((putAll slots (vals r) a).put o.dst undef) w)) n m →
        EachOp (Owes P l.toArray none (fun _ => undef) (fun r => putAll slots (vals r) a) D) n m := by
      intro m
      induction m with
      | nil => intro n _; trivial
      | cons o m ih =>
        intro n h
        refine ⟨fun L r w K h1 h2 h3 h4 => h.1 L r w K h1 h2 h3 fun r' w' h5 => ?_, ih _ h.2⟩
        have := h4 r' w' h5
        cases hc : o.dst == none
        · rw [hc] at this; exact this rfl
        · rw [hc] at this; exact this trivial
    exact go l 0 hstep
/-- The same with a slot that is read before it is written. -/
theorem wp_region_lput {P : Program} {id : Nat} {l : List Oper} {Q : Exit → Act → World → Prop} {a : Act} {w : World} {R : Type} (t2 : Tmp) (val2 : R → Value) (slots : List Tmp) (vals : R → List Value) (D : (Nat → Bool) → R → World → Prop)
    (hm : P.follows .mixedOrders = true) (hB : backB2 (some t2) l.toArray = true) (hs : (slots.all fun t => t != t2 && l.any fun o => o.dst == some t) = true) (hs2 : (l.any fun o => o.dst == some t2) = true)
    (r0 : R) (h0 : D (fun j => !decide (j < l.length)) r0 w.drew)
    (hstep : EachOp (Owes P l.toArray (some t2) val2 (fun r => putAll slots (vals r) a) D) 0 l)
    (hend : ∀ r w', D (fun _ => true) r w' → Q .normal ((putAll slots (vals r) a).put (some t2) (val2 r)) w') : (Code.region id l.toArray true).wp P Q a w := by
  refine wp_region_fin2 (some t2) val2 (fun r => putAll slots (vals r) a) D hm hB r0 h0 (fun r => putAll_defers _ _ _) (fun r => putAll_size _ _ _) (fun r t ht => putAll_keep _ _ _ _ ?_) hstep (fun t h => ?_) hend
  · intro hmem
    have h1 := List.all_eq_true.1 hs t hmem
    rw [Bool.and_eq_true] at h1
    rcases ht with ht | ht
    · obtain ⟨o, ho, he⟩ := List.any_eq_true.1 h1.2
      exact ht o ho (by simpa using he)
    · cases ht
      simp at h1
  · cases h
    obtain ⟨o, ho, he⟩ := List.any_eq_true.1 hs2
    exact ⟨o, ho, by simpa using he⟩
end Go.Proofs.Ytgdagfiebaebbaa
