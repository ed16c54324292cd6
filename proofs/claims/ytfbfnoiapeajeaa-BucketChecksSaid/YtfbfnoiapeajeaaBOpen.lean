/- Arguments of the laws of bucket: slices of pairs, drafts. -/
import Derived.Test.YtfbfnoiapeajeaaFrame
import Derived.Test.YtfbfnoiapeajeaaBk19
import Derived.ChangeSlices
import Derived.Deep.Slices
import Derived.Deep.Fields
namespace Go.Proofs.Ytfbfnoiapeajeaa
open Go.ChangeShapes Go.WideShapes Go.ChangeAt Go.RowKit Go.Joins Go.Deep

theorem cell_spot {P : Program} {w : World} {r : Reach} {base : Nat} {t e : TypeId} {a : Addr} {len cap : Nat} (ht : P.underlying t = some (.slice e)) (h : Cell.okWide P w r base t (.slice (some a) len cap)) : a.spot = none := by
  simp only [Cell.okWide, ht, Cell.ok, World.has] at h
  exact h.2.2.2.1
theorem slice_spot {P : Program} {w : World} {r : Reach} {base : Nat} {t e : TypeId} {a : Addr} {len cap : Nat} (ht : P.underlying t = some (.slice e)) (h : Value.okWide P w r base t (.slice (some a) len cap)) : a.spot = none := by
  simp only [Value.okWide, ht] at h
  exact cell_spot ht h
theorem row_cell {P : Program} {W : World} {r : Reach} {base : Nat} {t u : TypeId} {cs : Array Value} {ts : List TypeId} {i : Nat} {v : Value} (h : Row.okWide P W r base t cs) (hts : P.cellTypes P.depth t = some ts) (hu : ts[i % ts.length]? = some u) (hc : cs[i]? = some v) : Cell.okWide P W r base u v := by
  obtain ⟨ts', h1, _, h2⟩ := h
  rw [hts] at h1
  cases h1
  obtain ⟨u', e, g⟩ := h2 i v hc
  rw [hu] at e
  cases e
  exact g
section
variable {H : Type} {enc : TypeId × Value → H} {W : World}
/-- Two integers, read as a struct. -/
theorem trod_two {P : Program} {w : World} {base : Nat} {spare : Nat → Bool} {held : Bool} {t : TypeId} {f0 f1 : Field} {fuel : Nat} {cs : List Value} {x : DataW H × List MemPlace} (ht : P.underlying t = some (.struct #[f0, f1])) (hone : oneCellFields P #[f0, f1] = true) (hC : P.cellsOf t = 2)
    (h0 : P.underlying f0.type = some (.int .i64)) (h1 : P.underlying f1.type = some (.int .i64)) (h : DataW.trod enc P w base spare held fuel t cs = some x) : ∃ p q : Int, cs = [.int .i64 p, .int .i64 q] := by
  obtain ⟨xs, n, _, _, hl, hlen, hf⟩ := DataW.trod_struct ht h
  rw [hC] at hl
  match cs, hl with
  | [c0, c1], _ =>
    obtain ⟨o0, k0⟩ := hone_of hone 0 f0 rfl
    obtain ⟨o1, k1⟩ := hone_of hone 1 f1 rfl
    match xs, hlen with
    | [y0, y1], _ =>
      have g0 := hf 0 f0 rfl
      have g1 := hf 1 f1 rfl
      rw [o0, k0] at g0
      rw [o1, k1] at g1
      obtain ⟨p, e0, _⟩ := DataW.trod_int h0 (x := y0) (by simpa using g0)
      obtain ⟨q, e1, _⟩ := DataW.trod_int h1 (x := y1) (by simpa using g1)
      simp at e0 e1
      exact ⟨p, q, by rw [e0, e1]⟩
/-- A slice of pairs that came in. -/
theorem open_tr {b0 : Nat} {t e : TypeId} {f0 f1 : Field} {fuel : Nat} {ao : Option Addr} {len cap : Nat} {x : DataW H × List MemPlace} (ht : Try.prog.underlying t = some (.slice e)) (he : Try.prog.underlying e = some (.struct #[f0, f1])) (hone : oneCellFields Try.prog #[f0, f1] = true) (hC : Try.prog.cellsOf e = 2)
    (h0 : Try.prog.underlying f0.type = some (.int .i64)) (h1 : Try.prog.underlying f1.type = some (.int .i64)) (hv : Value.okWide Try.prog W .any b0 t (.slice ao len cap))
    (h : DataW.trod enc Try.prog W 0 (fun _ => true) true fuel t [.slice ao len cap] = some x) :
    ∃ l : Tr, l.length = len ∧ len ≤ cap ∧ cap ≤ maxLen ∧ (ao = none → cap = 0) ∧ (∀ q, ao = some q → q.spot = none) ∧ TrA W ao l := by
  rcases open_slice ht h with ⟨hcs, _⟩ | ⟨a, len', cap', m, n, D, Pl, hcs, _, hl, hm, hmm, _, hi⟩
  · obtain ⟨rfl, rfl, rfl⟩ : ao = none ∧ len = 0 ∧ cap = 0 := by simpa using hcs
    exact ⟨[], rfl, Nat.le_refl _, by simp [maxLen], fun _ => rfl, fun q e => (by cases e), TrA.nil _⟩
  · obtain ⟨rfl, rfl, rfl⟩ : ao = some a ∧ len = len' ∧ cap = cap' := by simpa using hcs
    have hsp := slice_spot ht hv
    obtain ⟨bb, oo, sp⟩ := a
    simp only at hsp
    subst hsp
    simp only [if_true] at hmm
    have hel : ∀ i, i < len → ∃ z : Int × Int, W.cell? ⟨bb, oo + i * 2, none⟩ = some (.int .i64 z.1) ∧ W.cell? ⟨bb, oo + i * 2 + 1, none⟩ = some (.int .i64 z.2) := by
      intro i hil
      obtain ⟨cs', hc, ht'⟩ := hi i (by omega)
      rw [hC] at hc
      obtain ⟨_, hcl, hat⟩ := World.cells?_some hc
      obtain ⟨p, q, rfl⟩ := trod_two he hone hC h0 h1 ht'
      have a0 := hat 0 (by omega)
      have a1 := hat 1 (by omega)
      have ad : ((⟨bb, oo, none⟩ : Addr).add (i * 2)) = ⟨bb, oo + i * 2, none⟩ := by
        by_cases h0 : i = 0
        · subst h0; simp [Addr.add]
        · simp [Addr.add, show ¬ i * 2 = 0 by omega]
      rw [ad] at a0 a1
      exact ⟨(p, q), by simpa [Addr.add] using a0, by simpa [Addr.add] using a1⟩
    have hch : ∃ f : Nat → Int × Int, ∀ i, i < len → W.cell? ⟨bb, oo + i * 2, none⟩ = some (.int .i64 (f i).1) ∧ W.cell? ⟨bb, oo + i * 2 + 1, none⟩ = some (.int .i64 (f i).2) := by
      refine ⟨fun i => if h : i < len then (hel i h).choose else (0, 0), fun i hil => ?_⟩
      simp only [hil, dif_pos]
      exact (hel i hil).choose_spec
    obtain ⟨f, hf⟩ := hch
    refine ⟨(List.range len).map f, by simp, hl, hm, fun e => (by cases e), fun q e => (by cases e; rfl), fun k hk => ?_⟩
    have hk' : k < len := by simpa using hk
    obtain ⟨z1, z2⟩ := hf k hk'
    exact ⟨bb, oo, rfl, by simpa using z1, by simpa using z2⟩
theorem cells_u16 : Try.prog.cellsOf 61 = 1 := by kernel_rfl
theorem cells_dr : Try.prog.cellsOf 27 = 4 := by kernel_rfl
theorem cells_ar : Try.prog.cellsOf 30 = 2 := by kernel_rfl
theorem cells_bu : Try.prog.cellsOf 23 = 2 := by kernel_rfl
theorem open_u16 {b0 : Nat} {fuel : Nat} {v : Value} {x : DataW H × List MemPlace} (hv : Cell.okWide Try.prog W .any b0 25 v) (h : DataW.trod enc Try.prog W 0 (fun _ => true) true fuel 25 [v] = some x) :
    ∃ ao len cap zs, v = .slice ao len cap ∧ zs.length = len ∧ len ≤ maxLen ∧ U16A W ao zs := by
  rcases open_ints Try.underlying25 Try.underlying61 cells_u16 h with ⟨hcs, _⟩ | ⟨a, len, cap, zs, hcs, _, hl, hm, hz, _, hcell, hwf⟩
  · exact ⟨none, 0, 0, [], by simpa using hcs, rfl, Nat.zero_le _, fun k hk => by simp at hk⟩
  · obtain rfl : v = .slice (some a) len cap := by simpa using hcs
    have hsp := cell_spot Try.underlying25 hv
    obtain ⟨bb, oo, sp⟩ := a
    simp only at hsp
    subst hsp
    simp only [if_true] at hz
    refine ⟨_, len, cap, zs.take len, rfl, by rw [List.length_take]; omega, by omega, fun k hk => ?_⟩
    have hk2 : k < len ∧ k < zs.length := by simp at hk; omega
    have e := hcell k hk2.2
    have e2 : ((⟨bb, oo, none⟩ : Addr).add k) = ⟨bb, oo + k, none⟩ := by
      by_cases h0 : k = 0
      · subst h0; simp [Addr.add]
      · simp [Addr.add, h0]
    rw [e2] at e
    refine ⟨bb, oo, rfl, ?_, ?_⟩
    · rw [e, List.getD_eq_getElem?_getD, List.getElem?_eq_getElem hk2.2, List.getElem_take]; rfl
    · rw [List.getElem_take]
      have := hwf zs[k] (List.getElem_mem hk2.2)
      simpa [Lit.wf, IntKind.has, IntKind.min, IntKind.max, IntKind.signed, IntKind.bits] using this
theorem split4 {cs : Array Value} (h : cs.size = 4) : ∃ c0 c1 c2 c3, cs = #[c0, c1, c2, c3] := by
  obtain ⟨l⟩ := cs
  match l, h with
  | [c0, c1, c2, c3], _ => exact ⟨c0, c1, c2, c3, rfl⟩
/-- A draft that came in. -/
theorem open_draft {b0 : Nat} {v : Value} {d : DataW H} {p : List MemPlace} (hv : Value.okWide Try.prog W .any b0 27 v) (h : DataW.Trod enc Try.prog W 0 (fun _ => true) true 27 v d p) :
    ∃ (x y : Int) (ga sa : Option Addr) (gn gc sn sc : Nat) (gaps sizes : List Int), v = .agg #[.int .u32 x, .int .u32 y, .slice ga gn gc, .slice sa sn sc] ∧ DraftIn W x y ga sa gn sn gaps sizes := by
  obtain ⟨cs, rfl, hs, hr⟩ := row_struct Try.underlying27 hv
  obtain ⟨c0, c1, c2, c3, rfl⟩ := split4 (hs.trans cells_dr)
  obtain ⟨x, rfl, bx⟩ := row_int (i := 0) (ts := [24, 24, 25, 25]) hr (by kernel_rfl) rfl Try.underlying24 rfl
  obtain ⟨y, rfl, bY⟩ := row_int (i := 1) (ts := [24, 24, 25, 25]) hr (by kernel_rfl) rfl Try.underlying24 rfl
  have k2 := row_cell (i := 2) (ts := [24, 24, 25, 25]) hr (by kernel_rfl) rfl rfl
  have k3 := row_cell (i := 3) (ts := [24, 24, 25, 25]) hr (by kernel_rfl) rfl rfl
  obtain ⟨v0, v1, v2, v3, y0, y1, y2, y3, n, e, _, _, _, _, t2, t3⟩ := open_agg4 Try.underlying27 (by kernel_rfl) cells_dr hv h
  obtain ⟨rfl, rfl, rfl, rfl⟩ : _ = v0 ∧ _ = v1 ∧ _ = v2 ∧ _ = v3 := by simpa using e
  obtain ⟨ga, gn, gc, gaps, rfl, g1, g2, g3⟩ := open_u16 k2 t2
  obtain ⟨sa, sn, sc, sizes, rfl, s1, s2, s3⟩ := open_u16 k3 t3
  obtain ⟨x1, x2⟩ := has_u32 bx
  obtain ⟨y1', y2'⟩ := has_u32 bY
  exact ⟨x, y, ga, sa, gn, gc, sn, sc, gaps, sizes, rfl, ⟨x1, x2, y1', y2', g1, s1, g2, s2, g3, s3⟩⟩
end
end Go.Proofs.Ytfbfnoiapeajeaa
