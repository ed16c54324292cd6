/- The frame of every law of this seat: a walk that ends in 'true' and leaves what was there gives the row. -/
import Derived.Test.YtgdagfiebaebbaaRows
import Derived.WalkKit
import Derived.ProofKit
import Derived.OpenShut
import Derived.Lib.SmallJoins
import Derived.Carry
namespace Go.Proofs.Ytgdagfiebaebbaa
open Go.ChangeShapes Go.WideShapes Go.ChangeAt Go.RowKit Go.Joins

theorem own : ownKnob Try.prog.godebug = none := by kernel_rfl
theorem laidOut : laidOutB Try.prog = true := by kernel_rfl
section
variable {H : Type} {enc : TypeId × Value → H}
/-- The arguments read behind the call as they read before. -/
theorem trodAll_stays : ∀ {ts : List TypeId} {vs : List Value} {ds : List (DataW H)} {ps : List MemPlace} {W W' : World} (_ : DataW.TrodAll enc Try.prog W 0 (fun _ => true) true ts vs ds ps) (_ : Below W.heap.size W W')
    (_ : ∀ x ∈ ps, x.block < W.heap.size) (_ : ∀ t ∈ ts, Try.prog.readableRec t = true ∧ t < Try.prog.types.size), DataW.TrodAll enc Try.prog W' 0 (fun b => decide (b < W.heap.size)) true ts vs ds ps
  | [], [], [], _, _, _, h, _, _, _ => h
  | t :: ts, v :: vs, d :: ds, ps, W, W', h, hb, hlt, ht => by
    obtain ⟨p, q, h1, h2, rfl⟩ := h
    exact ⟨p, q, Below.trod laidOut (ht t (by simp)).1 (ht t (by simp)).2 h1 hb (fun x hx => hlt x (by simp [hx])), trodAll_stays h2 hb (fun x hx => hlt x (by simp [hx])) (fun t' h' => ht t' (by simp [h'])), rfl⟩
  | [], _ :: _, _, _, _, _, h, _, _, _ => by cases h
  | [], [], _ :: _, _, _, _, h, _, _, _ => by cases h
  | _ :: _, [], _, _, _, _, h, _, _, _ => by cases h
  | _ :: _, _ :: _, [], _, _, _, h, _, _, _ => by cases h
/-- What a law's row asks of the end. -/
theorem law_post {f : Func} {s : ChangeSpec} {W W' : World} {args : Array Value} {ds gs : List (DataW H)} {before : List MemPlace} (hvars : s.vars = []) (hres : f.resultTypes = #[4])
    (hW : DataW.Whole enc Try.prog f.params.toList s.vars false W args.toList ds gs before) (hs : (s.fn H (ds ++ gs)).results = [.lit (.bool true)]) (ha : (s.fn H (ds ++ gs)).args = ds) (hv : (s.fn H (ds ++ gs)).vars = [])
    (ht : ∀ t ∈ f.params.toList, Try.prog.readableRec t = true ∧ t < Try.prog.types.size) (hb : Below W.heap.size W W') : s.post enc Try.prog f false true false false W args (.bool true) W' := by
  have hlt := hW.lt
  have hW' := hW
  obtain ⟨p, q, hA, hV, rfl, _, _⟩ := hW
  rw [hvars] at hV
  obtain ⟨rfl, rfl⟩ := trodVars_none hV
  refine ⟨ds, [], _, [], p, [], hW', ?_, ?_, ?_, hb.frame _, fun h => by cases h⟩
  · rw [hs, hres]
    exact trodAll_mk1 (shut_bool Try.underlying4 _)
  · rw [ha]
    exact trodAll_stays hA hb (fun x hx => hlt x (by simp [hx])) ht
  · rw [hv, hvars]; rfl
end
section
variable {P : Program} {W : World} {r : Reach} {base : Nat}
theorem has_i64 {x : Int} (h : IntKind.i64.has x) : -9223372036854775808 ≤ x ∧ x ≤ 9223372036854775807 := by
  simpa [IntKind.has, IntKind.min, IntKind.max, IntKind.signed, IntKind.bits] using h
theorem has_i32 {x : Int} (h : IntKind.i32.has x) : -2147483648 ≤ x ∧ x ≤ 2147483647 := by
  simpa [IntKind.has, IntKind.min, IntKind.max, IntKind.signed, IntKind.bits] using h
theorem has_i16 {x : Int} (h : IntKind.i16.has x) : -32768 ≤ x ∧ x ≤ 32767 := by
  simpa [IntKind.has, IntKind.min, IntKind.max, IntKind.signed, IntKind.bits] using h
theorem has_u8 {x : Int} (h : IntKind.u8.has x) : 0 ≤ x ∧ x ≤ 255 := by
  simpa [IntKind.has, IntKind.min, IntKind.max, IntKind.signed, IntKind.bits] using h
theorem has_u16 {x : Int} (h : IntKind.u16.has x) : 0 ≤ x ∧ x ≤ 65535 := by
  simpa [IntKind.has, IntKind.min, IntKind.max, IntKind.signed, IntKind.bits] using h
theorem has_u32 {x : Int} (h : IntKind.u32.has x) : 0 ≤ x ∧ x ≤ 4294967295 := by
  simpa [IntKind.has, IntKind.min, IntKind.max, IntKind.signed, IntKind.bits] using h
theorem has_u64 {x : Int} (h : IntKind.u64.has x) : 0 ≤ x ∧ x ≤ 18446744073709551615 := by
  simpa [IntKind.has, IntKind.min, IntKind.max, IntKind.signed, IntKind.bits] using h
theorem cell_kind {t : TypeId} {k : IntKind} {v : Value} (ht : P.underlying t = some (.int k)) (h : Cell.okWide P W r base t v) : ∃ x, v = .int k x ∧ k.has x := by
  unfold Cell.okWide at h
  rw [ht] at h
  cases v <;> simp only [Cell.ok, ht] at h
  case int k' n =>
    obtain ⟨rfl, h2⟩ := h
    exact ⟨n, rfl, h2⟩
/-- An integer argument. -/
theorem val_int {t : TypeId} {k : IntKind} {v : Value} (ht : P.underlying t = some (.int k)) (h : Value.okWide P W r base t v) : ∃ x, v = .int k x ∧ k.has x := by
  unfold Value.okWide at h
  rw [ht] at h
  exact cell_kind ht h
theorem row_struct {t : TypeId} {fs : Array Field} {v : Value} (ht : P.underlying t = some (.struct fs)) (h : Value.okWide P W r base t v) : ∃ cs, v = .agg cs ∧ cs.size = P.cellsOf t ∧ Row.okWide P W r base t cs := by
  unfold Value.okWide at h
  rw [ht] at h
  exact h
theorem row_array {t e : TypeId} {n : Nat} {v : Value} (ht : P.underlying t = some (.array n e)) (h : Value.okWide P W r base t v) : ∃ cs, v = .agg cs ∧ cs.size = P.cellsOf t ∧ Row.okWide P W r base t cs := by
  unfold Value.okWide at h
  rw [ht] at h
  exact h
/-- Cell i of an argument that is a struct or an array of integers. -/
theorem row_int {t u : TypeId} {k : IntKind} {cs : Array Value} {ts : List TypeId} {i : Nat} {v : Value} (h : Row.okWide P W r base t cs) (hts : P.cellTypes P.depth t = some ts) (hu : ts[i % ts.length]? = some u) (hk : P.underlying u = some (.int k)) (hc : cs[i]? = some v) : ∃ x, v = .int k x ∧ k.has x := by
  obtain ⟨ts', h1, _, h2⟩ := h
  rw [hts] at h1
  cases h1
  obtain ⟨u', e, g⟩ := h2 i v hc
  rw [hu] at e
  cases e
  exact cell_kind hk g
end
end Go.Proofs.Ytgdagfiebaebbaa
