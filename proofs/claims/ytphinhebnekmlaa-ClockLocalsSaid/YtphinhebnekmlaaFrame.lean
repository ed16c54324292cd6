/- The frame of every law of this seat: a walk that ends in 'true' and leaves what was there gives the row. -/
import Derived.Test.YtphinhebnekmlaaRows
import Derived.WalkKit
import Derived.ProofKit
import Derived.OpenShut
import Derived.Lib.SmallJoins
import Derived.Carry
namespace Go.Proofs.Ytphinhebnekmlaa
open Go.ChangeShapes Go.WideShapes Go.ChangeAt Go.RowKit Go.Joins

theorem own : ownKnob Try.prog.godebug = none := by kernel_rfl
theorem laidOut : laidOutB Try.prog = true := by kernel_rfl
section
variable {H : Type} {enc : TypeId × Value → H}
/-- The arguments read behind the call as they read before. -/
theorem trodAll_stays : ∀ {ts : List TypeId} {vs : List Value} {ds : List (DataW H)} {ps : List MemPlace} {W W' : World} (_ : DataW.TrodAll enc Try.prog W 0 (fun _ => true) true ts vs ds ps) (_ : Below W.heap.size W W')
    (_ : ∀ x ∈ ps, x.block < W.heap.size) (_ : ∀ t ∈ ts, Try.prog.readableRec t = true ∧ t < Try.prog.types.size), DataW.TrodAll enc Try.prog W' 0 (fun b => decide (b < W.heap.size)) true ts vs ds ps
  | [], [], [], _, _, _, h, _, _, _ => h
  | t :: ts, v :: vs, d :: ds, ps, W, W', h, hb, hlt, ht => by
    obtain ⟨p, q, h1, h2, rfl⟩ := h
    exact ⟨p, q, Below.trod laidOut (ht t (by simp)).1 (ht t (by simp)).2 h1 hb (fun x hx => hlt x (by simp [hx])), trodAll_stays h2 hb (fun x hx => hlt x (by simp [hx])) (fun t' h' => ht t' (by simp [h'])), rfl⟩
  | [], _ :: _, _, _, _, _, h, _, _, _ => by cases h
  | [], [], _ :: _, _, _, _, h, _, _, _ => by cases h
  | _ :: _, [], _, _, _, _, h, _, _, _ => by cases h
  | _ :: _, _ :: _, [], _, _, _, h, _, _, _ => by cases h
/-- What a law's row asks of the end. -/
theorem law_post {f : Func} {s : ChangeSpec} {W W' : World} {args : Array Value} {ds gs : List (DataW H)} {before : List MemPlace} (hvars : s.vars = []) (hres : f.resultTypes = #[4])
    (hW : DataW.Whole enc Try.prog f.params.toList s.vars false W args.toList ds gs before) (hs : (s.fn H (ds ++ gs)).results = [.lit (.bool true)]) (ha : (s.fn H (ds ++ gs)).args = ds) (hv : (s.fn H (ds ++ gs)).vars = [])
    (ht : ∀ t ∈ f.params.toList, Try.prog.readableRec t = true ∧ t < Try.prog.types.size) (hb : Below W.heap.size W W') : s.post enc Try.prog f false true false false W args (.bool true) W' := by
  have hlt := hW.lt
  have hW' := hW
  obtain ⟨p, q, hA, hV, rfl, _, _⟩ := hW
  rw [hvars] at hV
  obtain ⟨rfl, rfl⟩ := trodVars_none hV
  refine ⟨ds, [], _, [], p, [], hW', ?_, ?_, ?_, hb.frame _, fun h => by cases h⟩
  · rw [hs, hres]
    exact trodAll_mk1 (shut_bool Try.underlying4 _)
  · rw [ha]
    exact trodAll_stays hA hb (fun x hx => hlt x (by simp [hx])) ht
  · rw [hv, hvars]; rfl
/-- The bounds of an integer that was read. -/
theorem bd_i64 {x : Int} (h : (Lit.int .i64 x).wf = true) : -9223372036854775808 ≤ x ∧ x ≤ 9223372036854775807 := by
  have := bounds_i64 h; omega
theorem bd_i32 {x : Int} (h : (Lit.int .i32 x).wf = true) : -2147483648 ≤ x ∧ x ≤ 2147483647 := by
  have := bounds_i32 h; omega
end
end Go.Proofs.Ytphinhebnekmlaa
