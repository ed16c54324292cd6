/- append(append([]int{}, small...), x) in a region that draws its order: what holds in the middle of it. -/
import Derived.Test.YtikojcakkmmebaaDoorRegion
import Derived.Test.YtikojcakkmmebaaDoorLcm
import Derived.Maps.AppendAt
import Derived.Laws.OwnMore
import Derived.OwnWalk
namespace Go.Proofs.YtikojcakkmmebaaDoor
open Go.RowKit

theorem infoI : (Tryd.prog.info? 3).map (fun i => (i.zero, i.size, i.bytes)) = some (some (.int .i64 0), 1, 8) := by kernel_rfl
/-- An append at an operation: what is owned, and where it lies. -/
theorem wp_append_at {w : World} {o : Oper} {a : Act} {K : Act → World → Prop} {Q : Exit → Act → World → Prop} (s x : Operand)
    (ho : o.op = .call { callee := .builtin .append, args := #[s, x], argTypes := #[36, 36] })
    (base : Nat) (v : Value) (n : Nat) (xs : List Value) (hs : a.eval s = v) (hown : w.ownsRow base 3 1 v n xs)
    (ad : Addr) (m c : Nat) (news : List Value) (hx : a.eval x = .slice (some ad) m c) (hl : news.length = m) (hnews : ∀ j u, news[j]? = some u → w.cell? (ad.add j) = some u) (h1 : ∀ u ∈ news, u.oneCell' = true)
    (hm : n + m ≤ 1000) (hbase : base ≤ w.heap.size)
    (h : ∀ v' w', w'.ownsRow base 3 1 v' (n + m) (xs ++ news) → w.grownBy w' v.ownBlock → (v'.ownBlock = v.ownBlock ∨ v'.ownBlock = some w.heap.size) → K (a.put o.dst v') w') : o.wp Tryd.prog a w K Q := by
  obtain ⟨i0, hi, hz0, hz1, hz2⟩ := info_parts infoI
  obtain ⟨v', w', hr, h2, h3, _, h4⟩ := run_append_own_at (P := Tryd.prog) w base 36 o.type 3 i0 (.int .i64 0) 1 8 Tryd.underlying36 hi hz0 hz1 hz2 rfl (by decide) v n xs hown ad m c news (by omega) hnews h1 (by unfold maxLen; omega) (by omega) hbase
  unfold Oper.wp execOp
  simp only [ho, resolve, invoke, builtin, Sem.run_bind, Sem.run_pure, Result.andThen_ok, List.map_toArray, List.map_cons, List.map_nil, hs, hx, hr]
  exact h v' w' h2 h3 h4
structure AppI (w0 : World) (n : Nat) (news : List Value) (x : Int) (l2 l4 l7 l8 : Bool) (v84 v86 v89 v90 : Value) (wx : World) : Prop where
  bel : Below w0.heap.size w0 wx
  a : l2 = true → l4 = false → wx.ownsRow w0.heap.size 3 1 v84 0 []
  b : l4 = true → l8 = false → wx.ownsRow w0.heap.size 3 1 v86 n news
  c : l7 = true → ∃ g, v89 = .slice (some ⟨g, 0, none⟩) 1 1 ∧ w0.heap.size ≤ g ∧ wx.cell? ⟨g, 0, none⟩ = some (.int .i64 x) ∧ (l2 = true → l4 = false → v84.ownBlock ≠ some g) ∧ (l4 = true → l8 = false → v86.ownBlock ≠ some g)
  d : l8 = true → wx.ownsRow w0.heap.size 3 1 v90 (n + 1) (news ++ [.int .i64 x])
  o : l8 = true → l4 = true ∧ l7 = true
theorem AppI.start (w0 : World) (n : Nat) (news : List Value) (x : Int) (v84 v86 v89 v90 : Value) : AppI w0 n news x false false false false v84 v86 v89 v90 w0.drew :=
  ⟨(Below.refl _ _).drew, fun h => (by cases h), fun h => (by cases h), fun h => (by cases h), fun h => (by cases h), fun h => (by cases h)⟩
theorem AppI.op2 {w0 wx : World} {n : Nat} {news : List Value} {x : Int} {l4 l7 l8 : Bool} {v84 v86 v89 v90 : Value} (h : AppI w0 n news x false l4 l7 l8 v84 v86 v89 v90 wx) :
    AppI w0 n news x true l4 l7 l8 (.slice (some ⟨wx.heap.size, 0, none⟩) 0 0) v86 v89 v90 (wx.alloc (.cells #[] 3)) := by
  refine ⟨h.bel.alloc h.bel.size _, fun _ _ => World.ownsRow_made wx #[] 0 h.bel.size (by decide) rfl, fun p q => (h.b p q).alloc _, fun p => ?_, fun p => (h.d p).alloc _, h.o⟩
  obtain ⟨g, e, hg, hc, _, h2⟩ := h.c p
  have hlt := cell_lt hc
  exact ⟨g, e, hg, by go_simp, fun _ _ e' => by simp [Value.ownBlock] at e'; omega, h2⟩
theorem AppI.op7 {w0 wx : World} {n : Nat} {news : List Value} {x : Int} {l2 l4 l8 : Bool} {v84 v86 v89 v90 : Value} (h : AppI w0 n news x l2 l4 false l8 v84 v86 v89 v90 wx) :
    AppI w0 n news x l2 l4 true l8 v84 v86 (.slice (some ⟨wx.heap.size, 0, none⟩) 1 1) v90 (wx.alloc (.cells #[.int .i64 x] 3)) := by
  refine ⟨h.bel.alloc h.bel.size _, fun p q => (h.a p q).alloc _, fun p q => (h.b p q).alloc _, fun _ => ?_, fun p => (h.d p).alloc _, fun p => ⟨(h.o p).1, rfl⟩⟩
  refine ⟨wx.heap.size, rfl, h.bel.size, by go_simp, fun p q e => ?_, fun p q e => ?_⟩
  · have := ((h.a p q).lt _ e).2; omega
  · have := ((h.b p q).lt _ e).2; omega
theorem AppI.op4 {w0 wx w' : World} {n : Nat} {news : List Value} {x : Int} {l7 l8 : Bool} {v84 v86 v89 v90 v' : Value} (h : AppI w0 n news x true false l7 l8 v84 v86 v89 v90 wx)
    (h1 : w'.ownsRow w0.heap.size 3 1 v' (0 + n) ([] ++ news)) (h2 : wx.grownBy w' v84.ownBlock) (h3 : v'.ownBlock = v84.ownBlock ∨ v'.ownBlock = some wx.heap.size) :
    AppI w0 n news x true true l7 l8 v84 v' v89 v90 w' := by
  have ha := h.a rfl rfl
  refine ⟨h.bel.grown h2 h.bel.size (fun k e => (ha.lt k e).1), fun _ q => (by cases q), fun _ _ => (by simpa using h1), fun p => ?_, fun p => (by cases (h.o p).1), fun p => (by cases (h.o p).1)⟩
  obtain ⟨g, e, hg, hc, g1, _⟩ := h.c p
  have hlt := cell_lt hc
  have hne := g1 rfl rfl
  refine ⟨g, e, hg, h2.cell hc (fun e => hne e.symm), fun _ q => (by cases q), fun _ _ e' => ?_⟩
  rcases h3 with h3 | h3
  · exact hne (h3 ▸ e')
  · rw [h3] at e'; cases e'; omega
theorem AppI.op8 {w0 wx w' : World} {n : Nat} {news : List Value} {x : Int} {l2 : Bool} {v84 v86 v89 v90 v' : Value} (h : AppI w0 n news x l2 true true false v84 v86 v89 v90 wx)
    (h1 : w'.ownsRow w0.heap.size 3 1 v' (n + 1) (news ++ [.int .i64 x])) (h2 : wx.grownBy w' v86.ownBlock) :
    AppI w0 n news x l2 true true true v84 v86 v89 v' w' := by
  have hb := h.b rfl rfl
  refine ⟨h.bel.grown h2 h.bel.size (fun k e => (hb.lt k e).1), fun _ q => (by cases q), fun _ q => (by cases q), fun _ => ?_, fun _ => h1, fun _ => ⟨rfl, rfl⟩⟩
  obtain ⟨g, e, hg, hc, _, g2⟩ := h.c rfl
  exact ⟨g, e, hg, h2.cell hc (fun e => g2 rfl rfl e.symm), fun _ q => (by cases q), fun _ q => (by cases q)⟩
theorem AppI.val {w0 wx : World} {n : Nat} {news : List Value} {x : Int} {l2 l4 l7 : Bool} {v84 v86 v89 v90 : Value} (h : AppI w0 n news x l2 l4 l7 true v84 v86 v89 v90 wx) :
    ∃ g cap, v90 = .slice (some ⟨g, 0, none⟩) (n + 1) cap := by
  rcases (h.d rfl).2 with ⟨_, h0⟩ | ⟨g, cap, cur, e, _⟩
  · omega
  · exact ⟨g, cap, e⟩
theorem cells_of {w0 wx : World} {D : Nat} {zs : List Int} (h : IntsAt w0 D 0 zs) (hb : Below w0.heap.size w0 wx) : ∀ (j : Nat) u, (zs.map (Value.int .i64))[j]? = some u → wx.cell? ((⟨D, 0, none⟩ : Addr).add j) = some u := by
  intro j u hj
  rw [List.getElem?_map] at hj
  cases hy : zs[j]? with
  | none => rw [hy] at hj; cases hj
  | some y =>
    rw [hy] at hj
    cases hj
    have c := h j (List.getElem?_eq_some_iff.1 hy).1
    rw [hy] at c
    have := (hb.cell (p := ⟨D, 0 + j, none⟩) (cell_lt c)).trans c
    by_cases h0 : j = 0
    · subst h0; simpa [Addr.add] using this
    · simpa [Addr.add, h0] using this
theorem one_of (zs : List Int) : ∀ u ∈ zs.map (Value.int .i64), u.oneCell' = true := by
  intro u hu
  obtain ⟨y, _, rfl⟩ := List.mem_map.1 hu
  rfl
theorem AppI.done {w0 wx : World} {n : Nat} {zs : List Int} {x : Int} {v84 v86 v89 v90 : Value} (h : AppI w0 n (zs.map (Value.int .i64)) x true true true true v84 v86 v89 v90 wx) :
    ∃ g cap, v90 = .slice (some ⟨g, 0, none⟩) (n + 1) cap ∧ IntsAt wx g 0 (zs ++ [x]) := by
  obtain ⟨hl, hv⟩ := h.d rfl
  rcases hv with ⟨_, h0⟩ | ⟨g, cap, cur, rfl, hb, _⟩
  · omega
  · refine ⟨g, cap, rfl, fun j hj => ?_⟩
    have hd := h.d rfl
    have hj' : j < n + 1 := by simp at hl hj; omega
    have e := hd.cellAt j (by omega)
    rw [Nat.zero_add, e]
    have e2 : zs.map (Value.int .i64) ++ [.int .i64 x] = (zs ++ [x]).map (Value.int .i64) := by simp
    rw [e2, List.getElem?_map, List.getElem?_eq_getElem hj]
    rfl
end Go.Proofs.YtikojcakkmmebaaDoor
