/- The package ptp: kinds: the map of the fields of each kind. -/
import Derived.Test.YtgdagfiebaebbaaFld7
import Derived.MapKept
import Derived.Carry
namespace Go.Proofs.Ytgdagfiebaebbaa
open Go.RowKit

theorem run_ins {P : Program} {w : World} (mty kt et : TypeId) (r clock : Nat) (es : Array MapEntry) (key : Int) (val : Value) (hm : P.underlying mty = some (.map kt et)) (hk : P.underlying kt = some (.int .i64)) (hb : w.heap[r]? = some (.map es clock))
    (hf : Instr.findNow (.int .i64) (.int .i64 key) es.toList 0 = some none) :
    (Instr.mapUpdate mty (.map (some r)) (.int .i64 key) val).run P w = .ok () { w with heap := w.heap.setIfInBounds r (.map (es.push { key := .int .i64 key, val := val, born := clock }) (clock + 1)) } := by
  have hc : (Instr.checkKey false 10000 kt (.int .i64 key)).run P w = .ok () w := MapKept.run_checkKey (k := .int .i64 key) hk (by simp [MapKept.IsKey]) false 9999
  simp [Instr.mapUpdate, run_underlying hm, MapKept.run_getObj_map hb, hc, MapKept.run_findKey hk hf, MapKept.run_setObj_map _ hb, Result.andThen]
theorem wpList_ins {w : World} {ops : Array Oper} {rest : List Oper} {o : Oper} {a : Act} {Q : Exit → Act → World → Prop} (hgd : o.guard = none) (m x v : Operand)
    (ho : o.op = .insert 117 m x v) (r clock : Nat) (es : Array MapEntry) (key : Int) (val : Value) (hm : a.eval m = .map (some r)) (hb : w.heap[r]? = some (.map es clock)) (hx : a.eval x = .int .i64 key) (hv : a.eval v = val)
    (hf : Instr.findNow (.int .i64) (.int .i64 key) es.toList 0 = some none)
    (h : ∀ w', w'.heap[r]? = some (.map (es.push { key := .int .i64 key, val := val, born := clock }) (clock + 1)) → Below r w w' → wpList Try.prog ops Q rest (a.put o.dst undef) w') : wpList Try.prog ops Q (o :: rest) a w := by
  refine wpList_plain hgd fun K hK => ?_
  have hr := run_ins (P := Try.prog) (w := w) _ _ _ r clock es key val Try.underlying117 Try.underlying3 hb hf
  have hlt : r < w.heap.size := (Array.getElem?_eq_some_iff.1 hb).1
  unfold Oper.wp
  simp [execOp, ho, hm, hx, hv, hr, Result.andThen]
  refine hK _ _ (h _ ?_ ?_)
  · simp [hlt]
  · exact ⟨rfl, rfl, rfl, by simp, fun k hk => by simp [Nat.ne_of_gt hk]⟩
def kindsE : Array MapEntry := #[⟨.int .i64 0, .func (.func 71) #[] #[], 0⟩, ⟨.int .i64 2, .func (.func 71) #[] #[], 1⟩, ⟨.int .i64 8, .func (.func 72) #[] #[], 2⟩, ⟨.int .i64 3, .func (.func 73) #[] #[], 3⟩, ⟨.int .i64 10, .func (.func 73) #[] #[], 4⟩, ⟨.int .i64 11, .func (.func 74) #[] #[], 5⟩]
set_option maxRecDepth 100000 in
set_option maxHeartbeats 1000000 in
theorem kinds_any (w : World) : Calls Try.prog 54 #[] w fun e w' => ∃ r, e = .returned (.map (some r)) ∧ w'.heap[r]? = some (.map kindsE 6) ∧ Below w.heap.size w w' := by
  have hmm := @run_makeMap Try.prog
  have h0 : (w.alloc (.map #[] 0)).heap[w.heap.size]? = some (.map #[] 0) := heap_alloc_new w _
  have hb : Below w.heap.size w (w.alloc (.map #[] 0)) := (Below.refl _ _).alloc (Nat.le_refl _) _
  go_enter Try.func54, Try.ntmps54
  go_wp2_with (refine wpList_ins rfl _ _ _ rfl _ _ _ _ _ rfl (by assumption) rfl rfl (by rfl) ?_; intro w' h0 hb'; have hb := hb.trans hb')
  go_ret
  exact ⟨_, rfl, h0, hb⟩
theorem run_look {P : Program} {w : World} (mty kt et : TypeId) (r clock : Nat) (es : Array MapEntry) (key : Int) (i : Nat) (val : Value) (hm : P.underlying mty = some (.map kt et)) (hk : P.underlying kt = some (.int .i64)) (hb : w.heap[r]? = some (.map es clock))
    (hf : Instr.findNow (.int .i64) (.int .i64 key) es.toList 0 = some (some (i, val))) :
    (Instr.lookup mty (.map (some r)) (.int .i64 key) true).run P w = .ok (.tuple #[val, .bool true]) w := by
  have hc : ∀ b, (Instr.checkKey b 10000 kt (.int .i64 key)).run P w = .ok () w := fun b => MapKept.run_checkKey (k := .int .i64 key) hk (by simp [MapKept.IsKey]) b 9999
  simp [Instr.lookup, run_underlying hm, MapKept.run_getObj_map hb, hc, MapKept.run_findKey hk hf, Result.andThen]
theorem run_lookn {P : Program} {w : World} (mty kt et : TypeId) (r clock : Nat) (es : Array MapEntry) (key : Int) (z : Value) (hm : P.underlying mty = some (.map kt et)) (hk : P.underlying kt = some (.int .i64)) (hb : w.heap[r]? = some (.map es clock)) (hz : (zeroValue et).run P w = .ok z w)
    (hf : Instr.findNow (.int .i64) (.int .i64 key) es.toList 0 = some none) :
    (Instr.lookup mty (.map (some r)) (.int .i64 key) true).run P w = .ok (.tuple #[z, .bool false]) w := by
  have hc : ∀ b, (Instr.checkKey b 10000 kt (.int .i64 key)).run P w = .ok () w := fun b => MapKept.run_checkKey (k := .int .i64 key) hk (by simp [MapKept.IsKey]) b 9999
  simp [Instr.lookup, run_underlying hm, MapKept.run_getObj_map hb, hc, MapKept.run_findKey hk hf, hz, Result.andThen]
theorem find_kind (key : Int) : Instr.findNow (.int .i64) (.int .i64 key) kindsE.toList 0 = some (if key = 0 then some (0, .func (.func 71) #[] #[]) else if key = 2 then some (1, .func (.func 71) #[] #[]) else if key = 8 then some (2, .func (.func 72) #[] #[]) else if key = 3 then some (3, .func (.func 73) #[] #[]) else if key = 10 then some (4, .func (.func 73) #[] #[]) else if key = 11 then some (5, .func (.func 74) #[] #[]) else none) := by
  by_cases h0 : key = 0
  · subst h0; rfl
  · by_cases h2 : key = 2
    · subst h2; rfl
    · by_cases h8 : key = 8
      · subst h8; rfl
      · by_cases h3 : key = 3
        · subst h3; rfl
        · by_cases h10 : key = 10
          · subst h10; rfl
          · by_cases h11 : key = 11
            · subst h11; rfl
            · have b0 : (key == 0) = false := by simpa using h0
              have b2 : (key == 2) = false := by simpa using h2
              have b8 : (key == 8) = false := by simpa using h8
              have b3 : (key == 3) = false := by simpa using h3
              have b10 : (key == 10) = false := by simpa using h10
              have b11 : (key == 11) = false := by simpa using h11
              rw [if_neg h0, if_neg h2, if_neg h8, if_neg h3, if_neg h10, if_neg h11]
              simp only [kindsE, Instr.findNow, Instr.sameNow, b0, b2, b8, b3, b10, b11, if_true]
end Go.Proofs.Ytgdagfiebaebbaa
