/- The package pass: messages stored whole. -/
import Derived.Test.YtgdagfiebaebbaaMsg1
import Derived.Deep.MidRow
namespace Go.Proofs.Ytgdagfiebaebbaa
open Go.RowKit

theorem post_gen {P : Program} {f : Func} {Q : Ending → World → Prop} {e : Exit} {a : Act} {W : World} (h : ∀ w, w = W → bodyPost P f Q e a w) : bodyPost P f Q e a W := h _ rfl
/-- The cells of a message. -/
def msgL (v : Nat → Int) : List Value := [.int .i64 (v 0), .int .i64 (v 1), .int .i64 (v 2), .int .i64 (v 3), .int .i64 (v 4), .int .i64 (v 5), .int .i64 (v 6), .int .i64 (v 7), .int .i64 (v 8), .int .i64 (v 9), .int .i64 (v 10), .int .i64 (v 11), .int .i64 (v 12), .int .i64 (v 13), .int .i64 (v 14), .int .i64 (v 15), .int .i64 (v 16)]
theorem msgL_get (v : Nat → Int) : ∀ j, j < 17 → (msgL v)[j]? = some (.int .i64 (v j)) := fun j hj => by
  match j, hj with
  | 0, _ => exact rfl
  | 1, _ => exact rfl
  | 2, _ => exact rfl
  | 3, _ => exact rfl
  | 4, _ => exact rfl
  | 5, _ => exact rfl
  | 6, _ => exact rfl
  | 7, _ => exact rfl
  | 8, _ => exact rfl
  | 9, _ => exact rfl
  | 10, _ => exact rfl
  | 11, _ => exact rfl
  | 12, _ => exact rfl
  | 13, _ => exact rfl
  | 14, _ => exact rfl
  | 15, _ => exact rfl
  | 16, _ => exact rfl
  | (n + 17), h => exact absurd h (by omega)
theorem there_msg {w : World} {B : Nat} {v : Nat → Int} (h : MsgAt w B v) : w.there B 0 17 := fun j hj => by
  rw [Nat.zero_add]
  exact ⟨by rw [(h j hj).1]; rfl, (h j hj).2⟩
theorem range_msg {w : World} {B : Nat} {v : Nat → Int} (h : MsgAt w B v) : w.rangeAt B 0 (msgL v) := fun j u hv => by
  have hj : j < 17 := (List.getElem?_eq_some_iff.1 hv).1
  rw [Nat.zero_add, (h j hj).1, ← msgL_get v j hj, hv]
theorem MsgAt.setCells {w : World} {B : Nat} {u : Nat → Int} (h : MsgAt w B u) (v : Nat → Int) : MsgAt (w.setCells B 0 (msgL v)) B v := fun j hj => by
  constructor
  · have := World.rangeAt_setCells_same w B 0 (msgL v) (there_msg h) j _ (msgL_get v j hj)
    rw [Nat.zero_add] at this
    exact this
  · rw [World.frozen?_setCells]; exact (h j hj).2
theorem MsgAt.apart {w : World} {B C : Nat} {u : Nat → Int} (h : MsgAt w B u) (hne : B ≠ C) (vs : List Value) : MsgAt (w.setCells C 0 vs) B u := fun j hj => by
  constructor
  · rw [World.cell?_setCells_out C vs 0 w _ (fun e _ => absurd e hne)]; exact (h j hj).1
  · rw [World.frozen?_setCells]; exact (h j hj).2
theorem below_setCells (p B : Nat) (hB : B ≤ p) : ∀ (vs : List Value) (w : World) (k : Nat), Below B w (w.setCells p k vs)
  | [], w, _ => Below.refl _ _
  | v :: vs, w, k => ((Below.refl B w).setCell (p := ⟨p, k, none⟩) hB v).trans (below_setCells p B hB vs _ (k + 1))
theorem results_cell_tmp {P : Program} {fn : Func} {a t : Tmp} {ty : TypeId} (h : fn.results = #[.cell a ty, .tmp t]) (tmps : Array Value) {w : World} {p : Addr} {v : Value} (hp : tmps.getD a undef = .pointer (some p)) (hl : (loadVar ty p).run P w = .ok v w) :
    (results fn tmps).run P w = .ok (.tuple #[v, tmps.getD t undef]) w := by
  have hp2 : tmps[a]?.getD undef = .pointer (some p) := by simpa using hp
  simp [results, h, hp2, hl, asAddr]
theorem load_msg {w : World} {B : Nat} {v : Nat → Int} (h : MsgAt w B v) : (loadVar 46 ⟨B, 0, none⟩).run Try.prog w = .ok (msgV v) w :=
  run_loadVar_mid w B 0 46 (msgL v) _ (range_msg h) Try.underlying46 rfl (by kernel_rfl)
end Go.Proofs.Ytgdagfiebaebbaa
