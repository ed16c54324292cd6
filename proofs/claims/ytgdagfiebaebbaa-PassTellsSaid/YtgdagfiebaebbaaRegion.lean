/- A region that draws its order, calls functions and makes memory: one obligation for each operation, whatever came up before it. -/
import Derived.Test.YtgdagfiebaebbaaBase
namespace Go.Proofs.Ytgdagfiebaebbaa
open Go.RowKit

section
variable {P : Program} {md : Region.Mode}
theorem ready_mem {ops : Array Oper} {L : Array Bool} {i : Nat} (h : i ∈ Region.ready md ops L) :
    ∃ o, ops[i]? = some o ∧ L.getD i true = false ∧ ∀ e ∈ o.after, Region.binds md e = true → L.getD e.on false = true := by
  unfold Region.ready at h
  obtain ⟨h1, h2⟩ := List.mem_filter.1 h
  simp only [Bool.and_eq_true, Bool.not_eq_true'] at h2
  obtain ⟨h3, h4⟩ := h2
  cases ho : ops[i]? with
  | none => rw [ho] at h4; cases h4
  | some o =>
    rw [ho] at h4
    simp only [Option.map_some, Option.getD_some] at h4
    refine ⟨o, rfl, h3, fun e he hb => ?_⟩
    have h5 := Array.all_eq_true_iff_forall_mem.1 h4 e he
    rw [hb] at h5
    simpa using h5
theorem getD_false {L : Array Bool} {i : Nat} (h : L.getD i true = false) : ∃ hi : i < L.toList.length, L.toList[i] = false := by
  rw [Array.getD_eq_getD_getElem?] at h
  by_cases hi : i < L.size
  · rw [Array.getElem?_eq_getElem hi] at h
    exact ⟨by simpa using hi, by simpa using h⟩
  · rw [Array.getElem?_eq_none (by omega)] at h; cases h
theorem wpAny_inv {ops : Array Oper} {Q : Exit → Act → World → Prop} (I : Array Bool → Act → World → Prop)
    (hstep : ∀ L a w, I L a w → ∀ i ∈ Region.ready md ops L, wpOp P ops Q i (I (L.setIfInBounds i true)) a w)
    (hend : ∀ L a w, I L a w → Region.ready md ops L = [] → Q .normal a w) :
    ∀ (fuel : Nat) (L : Array Bool) (a : Act) (w : World), L.toList.count false ≤ fuel → I L a w → wpAny P md ops Q fuel L a w := by
  intro fuel
  induction fuel with
  | zero =>
    intro L a w hc hI
    have hr : Region.ready md ops L = [] := by
      rw [List.eq_nil_iff_forall_not_mem]
      intro i hi
      obtain ⟨_, _, h, _⟩ := ready_mem hi
      obtain ⟨h1, h2⟩ := getD_false h
      have : 0 < L.toList.count false := List.count_pos_iff.2 (h2 ▸ List.getElem_mem h1)
      omega
    exact ⟨hr, hend _ _ _ hI hr⟩
  | succ fuel ih =>
    intro L a w hc hI
    refine ⟨hend _ _ _ hI, fun i hi => wpOp_mono (fun a w h => ih _ a w ?_ h) (hstep L a w hI i hi)⟩
    obtain ⟨_, _, h, _⟩ := ready_mem hi
    obtain ⟨h1, h2⟩ := getD_false h
    rw [Array.toList_setIfInBounds, List.count_set h1]
    have : 0 < L.toList.count false := List.count_pos_iff.2 (h2 ▸ List.getElem_mem h1)
    rw [h2]
    simp only [BEq.rfl, if_true]
    rw [if_neg (by decide)]
    omega
end

/-- What the text of a region must show: no guard, select or defer; edges point back; a slot that an operation looks at is written by an operation that it waits for, or by none; no slot is written twice. -/
def backB (ops : Array Oper) : Bool := (List.range ops.size).all fun i => match ops[i]? with
  | none => true
  | some o => o.guard.isNone && (match o.op with | .select .. | .defer .. => false | _ => true) && o.after.all (fun e => !Region.binds .any e || decide (e.on < i)) &&
     (List.range ops.size).all fun j => match ops[j]? with
       | none => true
       | some p => match p.dst with
         | none => true
         | some t => (decide (j = i) || o.dst != some t) &&
             (!(o.op.operands.any fun x => match x with | .tmp u => u == t | _ => false) || o.after.any fun e => Region.binds .any e && e.on == j)
theorem backB_spec {ops : Array Oper} (h : backB ops = true) {i : Nat} {o : Oper} (hi : ops[i]? = some o) :
    o.guard = none ∧ (∀ cs b, o.op ≠ .select cs b) ∧ (∀ c, o.op ≠ .defer c) ∧ (∀ e ∈ o.after, Region.binds .any e = true → e.on < i) ∧
    ∀ j p t, ops[j]? = some p → p.dst = some t → (j = i ∨ o.dst ≠ some t) ∧ (Operand.tmp t ∈ o.op.operands → ∃ e ∈ o.after, Region.binds .any e = true ∧ e.on = j) := by
  have lt : ∀ {k : Nat} {q : Oper}, ops[k]? = some q → k < ops.size := fun {k q} hk => by
    rcases Nat.lt_or_ge k ops.size with h | h
    · exact h
    · rw [Array.getElem?_eq_none h] at hk; cases hk
  have h1 := List.all_eq_true.1 h i (List.mem_range.2 (lt hi))
  rw [hi] at h1
  simp only [Bool.and_eq_true] at h1
  obtain ⟨⟨⟨a1, a2⟩, a3⟩, a4⟩ := h1
  refine ⟨by simpa using a1, fun cs b e => (by rw [e] at a2; cases a2), fun c e => (by rw [e] at a2; cases a2), fun e he hb => (by have := Array.all_eq_true_iff_forall_mem.1 a3 e he; rw [hb] at this; simpa using this), fun j p t hj hp => ?_⟩
  have h2 := List.all_eq_true.1 a4 j (List.mem_range.2 (lt hj))
  rw [hj] at h2
  simp only [hp] at h2
  simp only [Bool.and_eq_true, Bool.or_eq_true] at h2
  obtain ⟨b1, b2⟩ := h2
  refine ⟨?_, fun ho => ?_⟩
  · rcases b1 with b1 | b1
    · exact .inl (of_decide_eq_true b1)
    · exact .inr (by simpa using b1)
  · rcases b2 with b2 | b2
    · exfalso
      have : o.op.operands.any (fun x => match x with | .tmp u => u == t | _ => false) = true := Array.any_eq_true'.2 ⟨_, ho, by simp⟩
      rw [this] at b2; cases b2
    · obtain ⟨e, he, hb⟩ := Array.any_eq_true'.1 b2
      simp only [Bool.and_eq_true] at hb
      exact ⟨e, he, hb.1, by simpa using hb.2⟩

/-- The steps of the operations, one by one. -/
def EachOp (K : Nat → Oper → Prop) : Nat → List Oper → Prop
  | _, [] => True
  | n, o :: l => K n o ∧ EachOp K (n + 1) l
theorem steps_at {K : Nat → Oper → Prop} : ∀ {l : List Oper} {n : Nat}, EachOp K n l → ∀ {i : Nat} {o : Oper}, l[i]? = some o → K (n + i) o
  | [], _, _, i, o, h => by simp at h
  | x :: l, n, h, 0, o, e => by simp at e; subst e; exact h.1
  | x :: l, n, h, i + 1, o, e => by
    have := steps_at h.2 (i := i) (o := o) (by simpa using e)
    rwa [Nat.add_assoc, Nat.add_comm 1 i] at this

/-- The act 'a' in the middle: of the act at the end it holds what those operations wrote that have come up. -/
def Mid (ops : Array Oper) (L : Array Bool) (f a : Act) : Prop :=
  a.defers = f.defers ∧ a.tmps.size = f.tmps.size ∧ ∀ t, (∀ (j : Nat) o, ops[j]? = some o → o.dst = some t → L.getD j true = true) → a.tmps.getD t undef = f.tmps.getD t undef

theorem getD_put {a : Array Value} {d t : Nat} {v : Value} : (a.setIfInBounds d v).getD t undef = if d = t ∧ d < a.size then v else a.getD t undef := by
  rw [Array.getD_eq_getD_getElem?, Array.getD_eq_getD_getElem?, Array.getElem?_setIfInBounds]
  by_cases h : d = t
  · subst h
    by_cases h2 : d < a.size
    · simp [h2]
    · simp [h2]
  · simp [h]
theorem Act.ext_getD {a f : Act} (h1 : a.defers = f.defers) (h2 : a.tmps.size = f.tmps.size) (h3 : ∀ t, a.tmps.getD t undef = f.tmps.getD t undef) : a = f := by
  obtain ⟨x, d⟩ := a
  obtain ⟨y, d'⟩ := f
  simp only at h1 h2 h3
  subst h1
  congr 1
  refine Array.ext h2 fun i hi hj => ?_
  have := h3 i
  rw [Array.getD_eq_getD_getElem?, Array.getD_eq_getD_getElem?, Array.getElem?_eq_getElem hi, Array.getElem?_eq_getElem hj] at this
  simpa using this

theorem wp_region_fin {P : Program} {id : Nat} {l : List Oper} {Q : Exit → Act → World → Prop} {a : Act} {w : World} {R : Type} (fin : R → Act) (D : (Nat → Bool) → R → World → Prop)
    (hm : P.follows .mixedOrders = true) (hB : backB l.toArray = true)
    (r0 : R) (h0 : D (fun j => !decide (j < l.length)) r0 w.drew)
    (hd : ∀ r, (fin r).defers = a.defers) (hsz : ∀ r, (fin r).tmps.size = a.tmps.size)
    (hkeep : ∀ r t, (∀ o ∈ l, o.dst ≠ some t) → (fin r).tmps.getD t undef = a.tmps.getD t undef)
    (hstep : EachOp (fun i o => ∀ L r w (K : Act → World → Prop), L i = false → (∀ e ∈ o.after, Region.binds .any e = true → L e.on = true) → D L r w →
      (∀ r' w', D (fun j => L j || j == i) r' w' → K (fin r') w') → o.wp P (fin r) w K (fun _ _ _ => False)) 0 l)
    (hend : ∀ r w', D (fun _ => true) r w' → Q .normal (fin r) w') : (Code.region id l.toArray true).wp P Q a w := by
  refine wp_region_any hm ?_
  refine wpAny_inv (fun L a w => L.size = l.length ∧ ∃ r, Mid l.toArray L (fin r) a ∧ D (fun j => L.getD j true) r w) ?_ ?_ _ _ _ _ ?_ ?_
  · rintro L a w ⟨hL, r, ⟨m1, m2, m3⟩, hD⟩ i hi
    obtain ⟨o, ho, hLi, hdep⟩ := ready_mem hi
    obtain ⟨g1, g2, g3, g4, g5⟩ := backB_spec hB ho
    have hstep' := steps_at hstep (i := i) (o := o) (by simpa using ho)
    rw [Nat.zero_add] at hstep'
    have hil : i < L.size := by
      obtain ⟨h1, _⟩ := getD_false hLi
      simpa using h1
    have hdep' : ∀ e ∈ o.after, Region.binds .any e = true → L.getD e.on true = true := fun e he hb => by
      have h1 := hdep e he hb
      rw [Array.getD_eq_getD_getElem?] at h1 ⊢
      cases h2 : L[e.on]? with
      | none => rfl
      | some x => rw [h2] at h1; simpa using h1
    have heval : execOp a.eval o = execOp (fin r).eval o := by
      refine execOp_congr o g2 ?_
      intro x hx
      cases x with
      | tmp t =>
        refine m3 t ?_
        intro j p hj hp
        obtain ⟨e, he, hb, hej⟩ := (g5 j p t hj hp).2 hx
        rw [← hej]
        exact hdep' e he hb
      | const v => rfl
      | global g => rfl
      | func f => rfl
    have hLset : (fun j => (L.setIfInBounds i true).getD j true) = fun j => L.getD j true || j == i := by
      funext j
      rw [Array.getD_eq_getD_getElem?, Array.getD_eq_getD_getElem?, Array.getElem?_setIfInBounds]
      by_cases h : i = j
      · subst h; simp [hil]
      · have : (j == i) = false := by simpa using fun e => h e.symm
        simp [h, this]
    -- one step
    have key : ∀ (v : Value) (w' : World), (∃ r', (fin r).put o.dst v = fin r' ∧ D (fun j => L.getD j true || j == i) r' w') →
        (L.setIfInBounds i true).size = l.length ∧ ∃ r, Mid l.toArray (L.setIfInBounds i true) (fin r) (a.put o.dst v) ∧ D (fun j => (L.setIfInBounds i true).getD j true) r w' := by
      rintro v w' ⟨r', hf, hD'⟩
      refine ⟨by simpa using hL, r', ?_, by rw [hLset]; exact hD'⟩
      rw [← hf]
      cases hdst : o.dst with
      | none =>
        refine ⟨m1, m2, fun t ht => m3 t fun j p hj hp => ?_⟩
        have h1 := ht j p hj hp
        rw [congrFun hLset j] at h1
        by_cases hji : j = i
        · subst hji; rw [ho] at hj; cases hj; rw [hdst] at hp; cases hp
        · have : (j == i) = false := by simpa using hji
          simpa [this] using h1
      | some d =>
        refine ⟨m1, by simpa [Act.put] using m2, fun t ht => ?_⟩
        simp only [Act.put]
        rw [getD_put, getD_put, m2]
        by_cases hdt : d = t ∧ d < (fin r).tmps.size
        · rw [if_pos hdt, if_pos hdt]
        · rw [if_neg hdt, if_neg hdt]
          by_cases hdt' : d = t
          · subst hdt'
            have h3 : ¬ d < (fin r).tmps.size := fun h => hdt ⟨rfl, h⟩
            rw [Array.getD_eq_getD_getElem?, Array.getD_eq_getD_getElem?, Array.getElem?_eq_none (m2 ▸ Nat.not_lt.1 h3), Array.getElem?_eq_none (Nat.not_lt.1 h3)]
          · refine m3 t fun j p hj hp => ?_
            have h1 := ht j p hj hp
            rw [congrFun hLset j] at h1
            by_cases hji : j = i
            · subst hji; rw [ho] at hj; cases hj; rw [hdst] at hp; cases hp; exact absurd rfl hdt'
            · have : (j == i) = false := by simpa using hji
              simpa [this] using h1
    unfold wpOp
    rw [ho]
    simp only
    rw [if_pos (by simp [Region.wanted, g1])]
    left
    have hrun := hstep' (fun j => L.getD j true) r w (fun a' w' => ∃ r', a' = fin r' ∧ D (fun j => L.getD j true || j == i) r' w') hLi hdep' hD (fun r' w' h => ⟨r', rfl, h⟩)
    unfold Oper.wp at hrun ⊢
    rw [heval]
    cases hr : (execOp (fin r).eval o).run P w with
    | ok n w' =>
      rw [hr] at hrun
      cases n <;> simp only [Oper.upon] at hrun ⊢
      case value v => exact key _ _ hrun
      case skip => exact key _ _ hrun
      case enter f args =>
        refine hrun.mono fun e w'' he => ?_
        cases e with
        | returned v => exact key _ _ he
        | panicked c => exact he.elim
        | outgrown => obtain ⟨_, _, h⟩ := he; exact h.elim
      case row x args => exact Rows.mono hrun fun v w'' he => key _ _ he
      case defer d => 
        exfalso
        obtain ⟨r', hf, _⟩ := hrun
        have h1 := congrArg Act.defers hf
        have h2 := (hd r').trans (hd r).symm
        have h3 : (({ (fin r) with defers := d :: (fin r).defers } : Act).put o.dst undef).defers = d :: (fin r).defers := by cases o.dst <;> rfl
        rw [h3, h2] at h1
        have := congrArg List.length h1
        simp at this
    | halt x w' =>
      rw [hr] at hrun
      cases x <;> simp only [Oper.upon] at hrun
  · rintro L a w ⟨hL, r, ⟨m1, m2, m3⟩, hD⟩ hr
    -- all have come up
    have hall : ∀ n j, j < n → L.getD j true = true := by
      intro n
      induction n with
      | zero => intro j hj; omega
      | succ n ih =>
        intro j hj
        cases hj' : L.getD j true with
        | true => rfl
        | false =>
          exfalso
          obtain ⟨h1, _⟩ := getD_false hj'
          have hjl : j < l.toArray.size := by simp at h1 ⊢; omega
          obtain ⟨o, ho⟩ : ∃ o, l.toArray[j]? = some o := ⟨_, Array.getElem?_eq_getElem hjl⟩
          obtain ⟨_, _, _, g4, _⟩ := backB_spec hB ho
          have : j ∈ Region.ready .any l.toArray L := by
            unfold Region.ready
            refine List.mem_filter.2 ⟨List.mem_range.2 hjl, ?_⟩
            rw [ho, hj']
            simp only [Bool.not_false, Bool.true_and, Option.map_some, Option.getD_some]
            refine Array.all_eq_true_iff_forall_mem.2 fun e he => ?_
            cases hbe : Region.binds .any e with
            | false => simp
            | true =>
              have h2 := ih e.on (by have := g4 e he hbe; omega)
              have h3 : e.on < L.size := by have := g4 e he hbe; simp at h1; omega
              rw [Array.getD_eq_getD_getElem?, Array.getElem?_eq_getElem h3] at h2 ⊢
              simp at h2 ⊢
              exact h2
          rw [hr] at this
          cases this
    have e1 : a = fin r := Act.ext_getD m1 m2 fun t => m3 t fun j _ _ _ => hall (j + 1) j (by omega)
    rw [e1]
    refine hend r w ?_
    have : (fun j => L.getD j true) = fun _ => true := funext fun j => hall (j + 1) j (by omega)
    rwa [this] at hD
  · rw [Array.toList_replicate, List.count_replicate]
    simp
  · refine ⟨by simp, r0, ⟨(hd r0).symm, (hsz r0).symm, fun t ht => ?_⟩, ?_⟩
    · refine (hkeep r0 t fun o ho => ?_).symm
      intro hdst
      obtain ⟨j, hj, rfl⟩ := List.getElem_of_mem ho
      have := ht j l[j] (by simp [hj]) hdst
      rw [Array.getD_eq_getD_getElem?] at this
      simp [hj] at this
    · have : (fun j => (Array.replicate l.toArray.size false).getD j true) = fun j => !decide (j < l.length) := by
        funext j
        rw [Array.getD_eq_getD_getElem?]
        by_cases h : j < l.length <;> simp [h]
      rw [this]
      exact h0

/-- The act at the end, by the slots that the region writes. -/
def putAll : List Tmp → List Value → Act → Act
  | t :: ts, v :: vs, a => putAll ts vs (a.put (some t) v)
  | _, _, a => a
theorem putAll_defers : ∀ (ts : List Tmp) (vs : List Value) (a : Act), (putAll ts vs a).defers = a.defers
  | [], _, _ => rfl
  | _ :: _, [], _ => rfl
  | _ :: ts, _ :: vs, a => putAll_defers ts vs _
theorem putAll_size : ∀ (ts : List Tmp) (vs : List Value) (a : Act), (putAll ts vs a).tmps.size = a.tmps.size
  | [], _, _ => rfl
  | _ :: _, [], _ => rfl
  | _ :: ts, _ :: vs, a => (putAll_size ts vs _).trans (by simp [Act.put])
theorem putAll_keep : ∀ (ts : List Tmp) (vs : List Value) (a : Act) (t : Tmp), t ∉ ts → (putAll ts vs a).tmps.getD t undef = a.tmps.getD t undef
  | [], _, _, _, _ => rfl
  | _ :: _, [], _, _, _ => rfl
  | d :: ts, _ :: vs, _, t, h => by
    simp only [List.mem_cons, not_or] at h
    refine (putAll_keep ts vs _ t h.2).trans ?_
    simp only [Act.put]
    rw [getD_put, if_neg fun k => h.1 k.1.symm]
theorem wp_region_put {P : Program} {id : Nat} {l : List Oper} {Q : Exit → Act → World → Prop} {a : Act} {w : World} {R : Type} (slots : List Tmp) (vals : R → List Value) (D : (Nat → Bool) → R → World → Prop)
    (hm : P.follows .mixedOrders = true) (hB : backB l.toArray = true) (hs : (slots.all fun t => l.any fun o => o.dst == some t) = true)
    (r0 : R) (h0 : D (fun j => !decide (j < l.length)) r0 w.drew)
    (hstep : EachOp (fun i o => ∀ L r w (K : Act → World → Prop), L i = false → (∀ e ∈ o.after, Region.binds .any e = true → L e.on = true) → D L r w →
      (∀ r' w', D (fun j => L j || j == i) r' w' → K (putAll slots (vals r') a) w') → o.wp P (putAll slots (vals r) a) w K (fun _ _ _ => False)) 0 l)
    (hend : ∀ r w', D (fun _ => true) r w' → Q .normal (putAll slots (vals r) a) w') : (Code.region id l.toArray true).wp P Q a w := by
  refine wp_region_fin (fun r => putAll slots (vals r) a) D hm hB r0 h0 (fun r => putAll_defers _ _ _) (fun r => putAll_size _ _ _) (fun r t ht => putAll_keep _ _ _ _ ?_) hstep hend
  intro hmem
  obtain ⟨o, ho, he⟩ := List.any_eq_true.1 (List.all_eq_true.1 hs t hmem)
  exact ht o ho (by simpa using he)
/-- Two numbers in a block of the region's own: nothing before it is made (l), zeros before the store (s). -/
def Own2 (B b : Nat) (l s : Bool) (x y : Int) (w : World) : Prop :=
  (s = true → l = true) ∧ (l = true → B ≤ b ∧ b < w.heap.size ∧ w.cell? ⟨b, 0, none⟩ = some (.int .i64 (if s then x else 0)) ∧ w.cell? ⟨b, 1, none⟩ = some (.int .i64 (if s then y else 0)) ∧ w.frozen? ⟨b, 0, none⟩ = false ∧ w.frozen? ⟨b, 1, none⟩ = false)
theorem Own2.below {B b : Nat} {l s : Bool} {x y : Int} {w w' : World} (h : Own2 B b l s x y w) (hb : Below w.heap.size w w') : Own2 B b l s x y w' :=
  ⟨h.1, fun hl => let ⟨h1, h2, h3, h4, h5, h6⟩ := h.2 hl
    ⟨h1, Nat.lt_of_lt_of_le h2 hb.size, (hb.cell (p := ⟨b, 0, none⟩) h2).trans h3, (hb.cell (p := ⟨b, 1, none⟩) h2).trans h4, (hb.frozen (p := ⟨b, 0, none⟩) h2).trans h5, (hb.frozen (p := ⟨b, 1, none⟩) h2).trans h6⟩⟩
theorem Own2.set {B b : Nat} {l s : Bool} {x y : Int} {w : World} {c o : Nat} {v : Value} (h : Own2 B b l s x y w) (hne : l = true → c ≠ b) : Own2 B b l s x y (w.setCell ⟨c, o, none⟩ v) :=
  ⟨h.1, fun hl => by
    obtain ⟨h1, h2, h3, h4, h5, h6⟩ := h.2 hl
    have hn := hne hl
    have e := Below.heap_setCell w ⟨c, o, none⟩ v b (fun k => hn k.symm)
    exact ⟨h1, by simpa [World.setCell] using h2, (World.cell?_of_block (w := w) e).trans h3, (World.cell?_of_block (w := w) e).trans h4, (World.frozen?_of_block (w := w) e).trans h5, (World.frozen?_of_block (w := w) e).trans h6⟩⟩
end Go.Proofs.Ytgdagfiebaebbaa
