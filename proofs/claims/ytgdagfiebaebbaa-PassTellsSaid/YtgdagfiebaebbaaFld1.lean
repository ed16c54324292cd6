/- The package ptp: lists of fields in memory; slices.Grow. -/
import Derived.Test.YtgdagfiebaebbaaPass10
import Derived.Maps.AppendAt
import Derived.Laws.OwnMore
import Derived.Lib.AppendZeros
import Derived.OwnWalk
namespace Go.Proofs.Ytgdagfiebaebbaa
open Go.RowKit

/-- A field of a message that lies in a block: the cell's number, the bytes, the limits. -/
structure Fd where
  k : Nat
  s : Int
  lo : Int
  hi : Int
def Fd.v (B : Nat) (f : Fd) : Value := .agg #[.pointer (some ⟨B, f.k, none⟩), .int .i64 f.s, .int .i64 f.lo, .int .i64 f.hi]
def fcells (B : Nat) : List Fd → List Value
  | [] => []
  | f :: l => .pointer (some ⟨B, f.k, none⟩) :: .int .i64 f.s :: .int .i64 f.lo :: .int .i64 f.hi :: fcells B l
theorem fcells_append (B : Nat) : ∀ (l m : List Fd), fcells B (l ++ m) = fcells B l ++ fcells B m
  | [], _ => rfl
  | f :: l, m => by simp [fcells, fcells_append B l m]
theorem fcells_length (B : Nat) : ∀ (l : List Fd), (fcells B l).length = l.length * 4
  | [] => rfl
  | f :: l => by simp [fcells, fcells_length B l]; omega
theorem fcells_get (B : Nat) : ∀ (l : List Fd) (k : Nat) (h : k < l.length), (fcells B l)[k * 4]? = some (.pointer (some ⟨B, (l[k]).k, none⟩)) ∧ (fcells B l)[k * 4 + 1]? = some (.int .i64 (l[k]).s) ∧ (fcells B l)[k * 4 + 2]? = some (.int .i64 (l[k]).lo) ∧ (fcells B l)[k * 4 + 3]? = some (.int .i64 (l[k]).hi)
  | [], _, h => by simp at h
  | f :: l, 0, _ => ⟨rfl, rfl, rfl, rfl⟩
  | f :: l, k + 1, h => by
    have := fcells_get B l k (by simpa using h)
    rw [show (k + 1) * 4 = k * 4 + 1 + 1 + 1 + 1 by omega]
    simpa [fcells] using this
theorem fcells_one (B : Nat) (l : List Fd) : ∀ u ∈ fcells B l, u.oneCell' = true := by
  induction l with
  | nil => intro u h; cases h
  | cons f l ih =>
    intro u h
    simp only [fcells, List.mem_cons] at h
    rcases h with rfl | rfl | rfl | rfl | h
    · rfl
    · rfl
    · rfl
    · rfl
    · exact ih u h
/-- Fields lie at an address. -/
def FsA (w : World) (B : Nat) (a : Option Addr) (l : List Fd) : Prop := ∀ k (h : k < l.length), ∃ b o, a = some ⟨b, o, none⟩ ∧ w.cell? ⟨b, o + k * 4, none⟩ = some (.pointer (some ⟨B, (l[k]).k, none⟩)) ∧ w.cell? ⟨b, o + k * 4 + 1, none⟩ = some (.int .i64 (l[k]).s) ∧ w.cell? ⟨b, o + k * 4 + 2, none⟩ = some (.int .i64 (l[k]).lo) ∧ w.cell? ⟨b, o + k * 4 + 3, none⟩ = some (.int .i64 (l[k]).hi)
theorem FsA.below {w w' : World} {B : Nat} {a : Option Addr} {l : List Fd} (h : FsA w B a l) (hb : Below w.heap.size w w') : FsA w' B a l := fun k hk => by
  obtain ⟨b, o, e, h1, h2, h3, h4⟩ := h k hk
  have hlt := cell_lt h1
  exact ⟨b, o, e, (hb.cell (p := ⟨b, o + k * 4, none⟩) hlt).trans h1, (hb.cell (p := ⟨b, o + k * 4 + 1, none⟩) hlt).trans h2, (hb.cell (p := ⟨b, o + k * 4 + 2, none⟩) hlt).trans h3, (hb.cell (p := ⟨b, o + k * 4 + 3, none⟩) hlt).trans h4⟩
theorem FsA.nil (w : World) (B : Nat) (a : Option Addr) : FsA w B a [] := fun k hk => by simp at hk
/-- A slice of the call's own holds fields. -/
def FsOwn (w : World) (base B : Nat) (v : Value) (l : List Fd) : Prop := w.ownsRow base 125 4 v l.length (fcells B l)
theorem FsOwn.nil (w : World) (base B : Nat) : FsOwn w base B (.slice none 0 0) [] := World.ownsRow_nil _ _ _ _
theorem FsOwn.see {w : World} {base B : Nat} {v : Value} {l : List Fd} (h : FsOwn w base B v l) : ∃ a cap, v = .slice a l.length cap ∧ (a = none → cap = 0) ∧ FsA w B a l ∧ (∀ q, a = some q → base ≤ q.block ∧ q.block < w.heap.size) ∧ (∀ q, a = some q → q.spot = none) := by
  have h' := h
  obtain ⟨hl, ⟨rfl, h0⟩ | ⟨g, cap, cur, rfl, hb, h2, h3, h4, h5, h6⟩⟩ := h
  · refine ⟨none, 0, by rw [h0], fun _ => rfl, fun k hk => by omega, fun q e => (by cases e), fun q e => (by cases e)⟩
  · refine ⟨_, cap, rfl, fun e => (by cases e), fun k hk => ?_, fun q e => by cases e; exact ⟨hb, (Array.getElem?_eq_some_iff.1 h2).1⟩, fun q e => by cases e; rfl⟩
    obtain ⟨f1, f2, f3, f4⟩ := fcells_get B l k hk
    refine ⟨g, 0, rfl, ?_, ?_, ?_, ?_⟩
    · rw [Nat.zero_add, World.ownsRow.cellAt h' (k * 4) (by omega), f1]
    · rw [Nat.zero_add, World.ownsRow.cellAt h' (k * 4 + 1) (by omega), f2]
    · rw [Nat.zero_add, World.ownsRow.cellAt h' (k * 4 + 2) (by omega), f3]
    · rw [Nat.zero_add, World.ownsRow.cellAt h' (k * 4 + 3) (by omega), f4]
theorem infoF : (Try.prog.info? 125).map (fun i => (i.zero, i.size, i.bytes)) = some (some (.agg #[.pointer none, .int .i64 0, .int .i64 0, .int .i64 0]), 4, 32) := by kernel_rfl
theorem infoF_parts : ∃ i, Try.prog.info? 125 = some i ∧ i.zero = some (.agg #[.pointer none, .int .i64 0, .int .i64 0, .int .i64 0]) ∧ i.size = 4 ∧ i.bytes = 32 := by
  have h := infoF
  cases e : Try.prog.info? 125 with
  | none => rw [e] at h; cases h
  | some i =>
    rw [e] at h
    simp only [Option.map_some, Option.some.injEq, Prod.mk.injEq] at h
    exact ⟨i, rfl, h.1, h.2.1, h.2.2⟩
/-- An append at an operation. -/
theorem wp_apndF {w : World} {o : Oper} {a : Act} {K : Act → World → Prop} {Q : Exit → Act → World → Prop} (s x : Operand)
    (ho : o.op = .call { callee := .builtin .append, args := #[s, x], argTypes := #[119, 119] })
    (base B : Nat) (v : Value) (l m : List Fd) (hs : a.eval s = v) (hown : FsOwn w base B v l) (ad : Option Addr) (c : Nat) (hx : a.eval x = .slice ad m.length c) (hsrc : ad = none → c = 0) (hA : FsA w B ad m) (hm : l.length + m.length ≤ 1000) (hbase : base ≤ w.heap.size)
    (h : ∀ v' w', FsOwn w' base B v' (l ++ m) → w.grownBy w' v.ownBlock → (v'.ownBlock = v.ownBlock ∨ v'.ownBlock = some w.heap.size) → K (a.put o.dst v') w') : o.wp Try.prog a w K Q := by
  obtain ⟨i0, hi, hz0, hz1, hz2⟩ := infoF_parts
  cases ad with
  | none =>
    obtain rfl : m = [] := by
      cases m with
      | nil => rfl
      | cons y m => obtain ⟨_, _, e, _⟩ := hA 0 (by simp); cases e
    have hr := run_append_owned_none (P := Try.prog) (w := w) base 119 o.type 125 i0 4 Try.underlying119 hi v l.length (fcells B l) hown
    rw [hsrc rfl] at hx
    simp only [List.length_nil] at hx
    unfold Oper.wp execOp
    simp only [ho, resolve, invoke, builtin, Sem.run_bind, Sem.run_pure, Result.andThen_ok, List.map_toArray, List.map_cons, List.map_nil, hs, hx, hr]
    exact h v w (by rw [List.append_nil]; exact hown) (World.grownBy.refl _ _) (.inl rfl)
  | some q =>
    obtain ⟨v', w', hr, h2, h3, _, h4⟩ := run_append_own_at (P := Try.prog) w base 119 o.type 125 i0 (.agg #[.pointer none, .int .i64 0, .int .i64 0, .int .i64 0]) 4 32 Try.underlying119 hi hz0 hz1 hz2 rfl (by decide) v l.length (fcells B l) hown q m.length c (fcells B m) (fcells_length B m)
      (fun j u hj => by
        have hjl : j < (fcells B m).length := (List.getElem?_eq_some_iff.1 hj).1
        rw [fcells_length] at hjl
        have hk : j / 4 < m.length := by omega
        obtain ⟨b, oo, e, c1, c2, c3, c4⟩ := hA (j / 4) hk
        obtain ⟨f1, f2, f3, f4⟩ := fcells_get B m (j / 4) hk
        cases e
        have e3 : ((⟨b, oo, none⟩ : Addr).add j) = ⟨b, oo + j, none⟩ := by
          by_cases h0 : j = 0
          · subst h0; simp [Addr.add]
          · simp [Addr.add, h0]
        rw [e3]
        have h4 : j % 4 = 0 ∨ j % 4 = 1 ∨ j % 4 = 2 ∨ j % 4 = 3 := by omega
        rcases h4 with hj2 | hj2 | hj2 | hj2
        · rw [show j / 4 * 4 = j by omega] at f1 c1
          rw [f1] at hj; cases hj; exact c1
        · rw [show j / 4 * 4 + 1 = j by omega] at f2
          rw [show oo + j / 4 * 4 + 1 = oo + j by omega] at c2
          rw [f2] at hj; cases hj; exact c2
        · rw [show j / 4 * 4 + 2 = j by omega] at f3
          rw [show oo + j / 4 * 4 + 2 = oo + j by omega] at c3
          rw [f3] at hj; cases hj; exact c3
        · rw [show j / 4 * 4 + 3 = j by omega] at f4
          rw [show oo + j / 4 * 4 + 3 = oo + j by omega] at c4
          rw [f4] at hj; cases hj; exact c4)
      (fcells_one B m) (by unfold maxLen; omega) (by omega) hbase
    unfold Oper.wp execOp
    simp only [ho, resolve, invoke, builtin, Sem.run_bind, Sem.run_pure, Result.andThen_ok, List.map_toArray, List.map_cons, List.map_nil, hs, hx, hr]
    refine h v' w' ?_ h3 h4
    unfold FsOwn
    rw [fcells_append, List.length_append]
    exact h2
theorem wpList_apndF {w : World} {ops : Array Oper} {rest : List Oper} {o : Oper} {a : Act} {Q : Exit → Act → World → Prop} (hgd : o.guard = none) (s x : Operand)
    (ho : o.op = .call { callee := .builtin .append, args := #[s, x], argTypes := #[119, 119] })
    (base B : Nat) (v : Value) (l m : List Fd) (hs : a.eval s = v) (hown : FsOwn w base B v l) (ad : Option Addr) (c : Nat) (hx : a.eval x = .slice ad m.length c) (hsrc : ad = none → c = 0) (hA : FsA w B ad m) (hm : l.length + m.length ≤ 1000) (hbase : base ≤ w.heap.size)
    (h : ∀ v' w', FsOwn w' base B v' (l ++ m) → w.grownBy w' v.ownBlock → (v'.ownBlock = v.ownBlock ∨ v'.ownBlock = some w.heap.size) → wpList Try.prog ops Q rest (a.put o.dst v') w') : wpList Try.prog ops Q (o :: rest) a w :=
  wpList_plain hgd fun _ hK => wp_apndF s x ho base B v l m hs hown ad c hx hsrc hA hm hbase fun v' w' h1 h2 h3 => hK _ _ (h v' w' h1 h2 h3)
/-- slices.Grow of nil: a slice of the call's own, without elements, with room. -/
def RetFs (w : World) (B : Nat) (l : List Fd) (e : Ending) (w' : World) : Prop := ∃ v, e = .returned v ∧ FsOwn w' w.heap.size B v l ∧ Below w.heap.size w w'
set_option maxRecDepth 100000 in
set_option maxHeartbeats 1000000 in
theorem grow_any (n B : Nat) (w : World) (h0 : 0 < n) (hn : n ≤ 100) :
    Calls Try.prog 80 #[.slice none 0 0, .int .i64 n] w (RetFs w B []) := by
  obtain ⟨i0, hi, hz0, hz1, hz2⟩ := infoF_parts
  have hr := fun ty w => Lib.run_append_nil_zeros (P := Try.prog) w 119 3 ty 125 i0 (.agg #[.pointer none, .int .i64 0, .int .i64 0, .int .i64 0]) .i64 .i64 Try.underlying119 Try.underlying3 hi hz0 n h0 (by omega) (by omega) (by rw [hz2]; omega)
  have hcap := grownCap_ge w n 0 125
  have hmax := grownCap_le_maxLen w n 0 125 (by unfold maxLen; omega)
  have hn1 : (n : Int) ≤ 100 := by omega
  have hn2 : 0 < (n : Int) := by omega
  have hz : ∀ m, (Builtin.zeroCells #[Value.pointer none, .int .i64 0, .int .i64 0, .int .i64 0] m).size = m * 4 := fun m => by simp [Builtin.zeroCells]
  have HO : Hid (FsOwn ((w.alloc (.cells (Builtin.zeroCells #[Value.pointer none, .int .i64 0, .int .i64 0, .int .i64 0] n ++ Builtin.zeroCells #[Value.pointer none, .int .i64 0, .int .i64 0, .int .i64 0] (grownCap w n 0 125 - n)) 125)).drew) w.heap.size B (.slice (some ⟨w.heap.size, 0, none⟩) 0 (grownCap w n 0 125)) []) :=
    Lib.hid (World.ownsRow_made w _ _ (Nat.le_refl _) hmax (by rw [Array.size_append, hz, hz]; omega))
  have HB : Hid (Below w.heap.size w (w.alloc (.cells (Builtin.zeroCells #[Value.pointer none, .int .i64 0, .int .i64 0, .int .i64 0] n ++ Builtin.zeroCells #[Value.pointer none, .int .i64 0, .int .i64 0, .int .i64 0] (grownCap w n 0 125 - n)) 125)).drew) := Lib.hid ((Below.refl _ _).alloc (Nat.le_refl _) _).drew
  clear hz hcap hmax
  go_enter Try.func80, Try.ntmps80
  go_wp2_with (at_builtin; refine Lib.wpList_append_run _ rfl _ _ _ _ rfl _ _ rfl rfl _ _ (hr _ _) ?_)
  go_ret
  exact ⟨_, rfl, HO.out, HB.out⟩
end Go.Proofs.Ytgdagfiebaebbaa
