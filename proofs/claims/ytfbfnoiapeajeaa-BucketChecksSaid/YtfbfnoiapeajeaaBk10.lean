/- The reference of bucket: Sum: what it computes. -/
import Derived.Test.YtfbfnoiapeajeaaBk9
import Derived.Test.YtfbfnoiapeajeaaRegion
namespace Go.Proofs.Ytfbfnoiapeajeaa
open Go.RowKit

/-- Two numbers in a block. -/
structure PairAt (w : World) (b : Nat) (x y : Int) : Prop where
  c0 : w.cell? ⟨b, 0, none⟩ = some (.int .i64 x)
  c1 : w.cell? ⟨b, 1, none⟩ = some (.int .i64 y)
  f0 : w.frozen? ⟨b, 0, none⟩ = false
  f1 : w.frozen? ⟨b, 1, none⟩ = false
theorem PairAt.below {w w' : World} {b : Nat} {x y : Int} (h : PairAt w b x y) (hb : Below w.heap.size w w') : PairAt w' b x y :=
  have hl := cell_lt h.c0
  ⟨(hb.cell (p := ⟨b, 0, none⟩) hl).trans h.c0, (hb.cell (p := ⟨b, 1, none⟩) hl).trans h.c1, (hb.frozen (p := ⟨b, 0, none⟩) hl).trans h.f0, (hb.frozen (p := ⟨b, 1, none⟩) hl).trans h.f1⟩
theorem PairAt.set0 {w : World} {b : Nat} {x y x' : Int} (h : PairAt w b x y) : PairAt (w.setCell ⟨b, 0, none⟩ (.int .i64 x')) b x' y := by
  obtain ⟨h0, h1, f0, f1⟩ := h
  exact ⟨by go_simp, by go_simp, by go_simp, by go_simp⟩
theorem PairAt.set1 {w : World} {b : Nat} {x y y' : Int} (h : PairAt w b x y) : PairAt (w.setCell ⟨b, 1, none⟩ (.int .i64 y')) b x y' := by
  obtain ⟨h0, h1, f0, f1⟩ := h
  exact ⟨by go_simp, by go_simp, by go_simp, by go_simp⟩
theorem PairAt.other {w : World} {b b' o : Nat} {x y : Int} {v : Value} (h : PairAt w b x y) (hne : b' ≠ b) : PairAt (w.setCell ⟨b', o, none⟩ v) b x y := by
  have e := Below.heap_setCell w ⟨b', o, none⟩ v b (fun k => hne k.symm)
  exact ⟨(World.cell?_of_block (w := w) e).trans h.c0, (World.cell?_of_block (w := w) e).trans h.c1, (World.frozen?_of_block (w := w) e).trans h.f0, (World.frozen?_of_block (w := w) e).trans h.f1⟩
set_option maxRecDepth 100000 in
set_option maxHeartbeats 4000000 in
theorem rsum_any (a : Option Addr) (n cap : Nat) (l : Tr) (w : World) (hn : l.length = n) (hm : n ≤ 1000) (hc : Hid (TrA w a l)) :
    Calls Try.prog 12 #[.slice a n cap] w fun e w' => e = retS (sumR l) ∧ Below w.heap.size w w' := by
  obtain ⟨X, hX⟩ : ∃ X, sumR l = X := ⟨_, rfl⟩
  rw [hX]
  have HX := Lib.hid hX
  clear hX
  have hA : Below w.heap.size w (w.alloc (.cells #[.int .i64 0, .int .i64 0] 23)) := (Below.refl _ _).alloc (Nat.le_refl _) _
  by_cases h0 : n = 0
  · subst h0
    have HR : Hid (retS X = retS (0, 0, 2)) := Lib.hid (by rw [← HX.out]; unfold sumR; rw [if_pos hn])
    clear hn hc HX
    go_enter Try.func12, Try.ntmps12
    go_wp2
    refine bodyPost_ret (v := .tuple #[.agg #[.int .i64 0, .int .i64 0], .int .i64 2]) (by simp [results, Try.results12, go_sem]) rfl ⟨HR.out.symm, ?_⟩
    first | exact (hA.setCell (by simp) _).setCell (by simp) _ | exact hA
  have hnb : ((n : Int) == 0) = false := by rw [beq_eq_false_iff_ne]; omega
  by_cases h12 : 12 < n
  · have HR : Hid (retS X = retS (0, 0, 3)) := Lib.hid (by rw [← HX.out]; unfold sumR; rw [if_neg (by omega), if_pos (by omega)])
    clear hn hc HX
    go_enter Try.func12, Try.ntmps12
    go_wp2
    refine bodyPost_ret (v := .tuple #[.agg #[.int .i64 0, .int .i64 0], .int .i64 3]) (by simp [results, Try.results12, go_sem]) rfl ⟨HR.out.symm, ?_⟩
    first | exact (hA.setCell (by simp) _).setCell (by simp) _ | exact hA
  have HR : Hid (∀ o, sumG 0 0 l = o → X = sumE o) := Lib.hid fun o h => by rw [← HX.out]; unfold sumR; rw [if_neg (by omega), if_neg (by omega), h]
  have hn1 : (n : Int) ≤ 12 := by omega
  have HN := Lib.hid hn
  clear hn HX h0
  go_enter Try.func12, Try.ntmps12
  go_wp2_with fail
  go_loopw [5] (fun i wr => ∃ (k : Nat) (x y : Int), k ≤ n ∧ i = .int .i64 k ∧ 0 ≤ x ∧ x ≤ k * 1048576 ∧ 0 ≤ y ∧ y ≤ k * 2097152 ∧ PairAt wr w.heap.size 0 0 ∧ PairAt wr (w.heap.size + 1) x y ∧ Below w.heap.size w wr ∧ Hid (sumG 0 0 l = sumG x y (l.drop k))) (fun i _ => n - (intOf i).toNat)
  case atStart => exact ⟨0, 0, 0, Nat.zero_le _, rfl, by omega, by omega, by omega, by omega, ⟨by go_simp, by go_simp, by go_simp, by go_simp⟩, ⟨by go_simp, by go_simp, by go_simp, by go_simp⟩, hA.alloc (by simp) _, Lib.hid (by rw [List.drop_zero])⟩
  case round =>
    obtain ⟨k, x, y, hk, rfl, x1, x2, y1, y2, P0, P1, hB, hpos⟩ := hrel
    have hz := cell_lt P1.c0
    by_cases hlt : k < n
    · have HXk : k < l.length := by rw [HN.out]; exact hlt
      obtain ⟨bb, o, rfl, hbw, c1, c2⟩ := hc.out.get hB HXk
      have hlt' : (k : Int) < n := by omega
      have hk0 : (0 : Int) ≤ k := by omega
      have HS := Lib.hid (hpos.out.trans (sumG_step x y HXk))
      clear hpos
      generalize l[k] = z at *
      obtain ⟨b, r⟩ := z
      simp only at c1 c2 HS
      clear HXk
      have K := Lib.hid fun w => rright_any b r w
      cases hb : okB b r
      · have HE := Lib.hid (HR.out none (HS.out.trans (by simp [hb])))
        rw [hb] at K
        clear hb HS
        go_wp2_with fail
        refine (K.out _).mono ?_
        rintro e w1 ⟨rfl, hb1⟩
        obtain ⟨t1, t2, t3, t4⟩ := P0.below hb1
        have H1 := hB.trans (hb1.mono hB.size)
        clear hb1 c1 c2
        go_wp2
        refine bodyPost_ret (v := .tuple #[.agg #[.int .i64 0, .int .i64 0], .int .i64 130]) (by simp [results, Try.results12, go_sem] <;> go_simp) rfl ⟨by rw [HE.out]; rfl, ?_⟩
        exact (H1.setCell (by simp) _).setCell (by simp) _
      · have HE := Lib.hid (HS.out.trans (by rw [hb, if_pos rfl]))
        have hb2 := okB_iff.1 hb
        rw [hb] at K
        clear hb HS
        go_wp2_with fail
        refine (K.out _).mono ?_
        rintro e w1 ⟨rfl, hb1⟩
        have Q0 := P0.below hb1
        have Q1 := P1.below hb1
        have H1 := hB.trans (hb1.mono hB.size)
        have d1 := (hb1.cell (p := ⟨bb, o + k * 2, none⟩) (cell_lt c1)).trans c1
        have d2 := (hb1.cell (p := ⟨bb, o + k * 2 + 1, none⟩) (cell_lt c2)).trans c2
        clear hb1 P0 P1 c1 c2
        have i1 : IntKind.i64.wrap (x + b) = x + b := IntWalk.i64_in _ (by omega)
        have i2 : IntKind.i64.wrap (y + r) = y + r := IntWalk.i64_in _ (by omega)
        have hbw1 : bb < w1.heap.size := cell_lt d1
        go_wp2_with fail
        have e1 := (H1.cell (p := ⟨bb, o + k * 2, none⟩) hbw).symm.trans d1
        have e2 := (H1.cell (p := ⟨bb, o + k * 2 + 1, none⟩) hbw).symm.trans d2
        clear d1 d2
        refine wp_region_put (R := Unit) [27, 28, 29, 30, 31, 32, 33, 34, 35, 36, 37, 38, 39, 40, 41, 42, 43, 44]
          (fun _ => [.pointer (some ⟨w.heap.size + 1, 0, none⟩), .int .i64 x, .slice (some ⟨bb, o, none⟩) n cap, .int .i64 k, .pointer (some ⟨bb, o + k * 2, none⟩), .pointer (some ⟨bb, o + k * 2, none⟩), .int .i64 b, .int .i64 (x + b), .pointer (some ⟨w.heap.size + 1, 1, none⟩), .int .i64 y, .slice (some ⟨bb, o, none⟩) n cap, .int .i64 k, .pointer (some ⟨bb, o + k * 2, none⟩), .pointer (some ⟨bb, o + k * 2 + 1, none⟩), .int .i64 r, .int .i64 (y + r), .pointer (some ⟨w.heap.size + 1, 0, none⟩), .pointer (some ⟨w.heap.size + 1, 1, none⟩)])
          (fun L _ wx => Below w.heap.size w wx ∧ PairAt wx w.heap.size 0 0 ∧ PairAt wx (w.heap.size + 1) (if L 17 then x + b else x) (if L 19 then y + r else y) ∧ (L 17 = true → L 1 = true) ∧ (L 19 = true → L 9 = true))
          (by kernel_rfl) (by kernel_rfl) (by kernel_rfl) () ?_ ?_ ?_
        · exact ⟨H1.drew, Q0.below (Below.refl _ _).drew, Q1.below (Below.refl _ _).drew, fun h => absurd h (by decide), fun h => absurd h (by decide)⟩
        · refine ⟨?_, ?_, ?_, ?_, ?_, ?_, ?_, ?_, ?_, ?_, ?_, ?_, ?_, ?_, ?_, ?_, ?_, ?_, ?_, ?_, trivial⟩
          all_goals
            rintro L ⟨⟩ wx K' hLi hdep ⟨hB, P0, P1, h17, h19⟩ hK
            have c1 := (hB.cell (p := ⟨bb, o + k * 2, none⟩) hbw).trans e1
            have c2 := (hB.cell (p := ⟨bb, o + k * 2 + 1, none⟩) hbw).trans e2
            have j0 := P1.c0
            have j1 := P1.c1
            have j2 := P1.f0
            have j3 := P1.f1
            simp only [putAll, Act.put, List.setIfInBounds_toArray, List.set_cons_succ, List.set_cons_zero] at hK ⊢
          · go_simp
            exact hK () wx ⟨hB, P0, by simpa using P1, by simpa using h17, by simpa using h19⟩
          · have hn : L 17 = false := by
              cases e : L 17
              · rfl
              · rw [h17 e] at hLi; cases hLi
            rw [hn] at j0
            simp only [Bool.false_eq_true, if_false] at j0
            go_simp
            exact hK () wx ⟨hB, P0, by simpa [hn] using P1, by simp [hn], by simpa using h19⟩
          · go_simp
            exact hK () wx ⟨hB, P0, by simpa using P1, by simpa using h17, by simpa using h19⟩
          · go_simp
            exact hK () wx ⟨hB, P0, by simpa using P1, by simpa using h17, by simpa using h19⟩
          · go_simp
            exact hK () wx ⟨hB, P0, by simpa using P1, by simpa using h17, by simpa using h19⟩
          · go_simp
            exact hK () wx ⟨hB, P0, by simpa using P1, by simpa using h17, by simpa using h19⟩
          · go_simp
            exact hK () wx ⟨hB, P0, by simpa using P1, by simpa using h17, by simpa using h19⟩
          · go_simp
            exact hK () wx ⟨hB, P0, by simpa using P1, by simpa using h17, by simpa using h19⟩
          · go_simp
            exact hK () wx ⟨hB, P0, by simpa using P1, by simpa using h17, by simpa using h19⟩
          · have hn : L 19 = false := by
              cases e : L 19
              · rfl
              · rw [h19 e] at hLi; cases hLi
            rw [hn] at j1
            simp only [Bool.false_eq_true, if_false] at j1
            go_simp
            exact hK () wx ⟨hB, P0, by simpa [hn] using P1, by simpa using h17, by simp [hn]⟩
          · go_simp
            exact hK () wx ⟨hB, P0, by simpa using P1, by simpa using h17, by simpa using h19⟩
          · go_simp
            exact hK () wx ⟨hB, P0, by simpa using P1, by simpa using h17, by simpa using h19⟩
          · go_simp
            exact hK () wx ⟨hB, P0, by simpa using P1, by simpa using h17, by simpa using h19⟩
          · go_simp
            exact hK () wx ⟨hB, P0, by simpa using P1, by simpa using h17, by simpa using h19⟩
          · go_simp
            exact hK () wx ⟨hB, P0, by simpa using P1, by simpa using h17, by simpa using h19⟩
          · go_simp
            exact hK () wx ⟨hB, P0, by simpa using P1, by simpa using h17, by simpa using h19⟩
          · go_simp
            exact hK () wx ⟨hB, P0, by simpa using P1, by simpa using h17, by simpa using h19⟩
          · have h1 : L 1 = true := hdep ⟨1, .phase⟩ (by simp) rfl
            go_simp
            refine hK () _ ⟨hB.setCell (by simp) _, P0.other (by simp), ?_, fun _ => by simp [h1], by simpa using h19⟩
            simpa using P1.set0
          · go_simp
            exact hK () wx ⟨hB, P0, by simpa using P1, by simpa using h17, by simpa using h19⟩
          · have h1 : L 9 = true := hdep ⟨9, .phase⟩ (by simp) rfl
            go_simp
            refine hK () _ ⟨hB.setCell (by simp) _, P0.other (by simp), ?_, by simpa using h17, fun _ => by simp [h1]⟩
            simpa using P1.set1
        rintro ⟨⟩ w2 ⟨HB2, R0, R1, _, _⟩
        simp only [if_true] at R1
        simp only [putAll, Act.put, List.setIfInBounds_toArray, List.set_cons_succ, List.set_cons_zero]
        clear i1 i2
        go_wp2
        go_roundw
        case rel => exact ⟨k + 1, x + b, y + r, by omega, by go_num, by omega, by omega, by omega, by omega, R0, R1, HB2, HE⟩
        case measure => simp [intOf]; omega
    · have HE : Hid (X = if okB x y then (x, y, 0) else (0, 0, 6)) := Lib.hid (HR.out (some (x, y)) (hpos.out.trans (by rw [List.drop_eq_nil_of_le (by have := HN.out; omega), sumG])))
      have hlt' : ¬ (k : Int) < n := by omega
      have K := Lib.hid fun w => rright_any x y w
      have s0 := P1.c0
      have s1 := P1.c1
      clear hpos
      cases hb : okB x y
      · rw [hb] at K HE
        simp only [Bool.false_eq_true, if_false] at HE
        clear hb
        go_wp2_with fail
        refine (K.out _).mono ?_
        rintro e w1 ⟨rfl, hb1⟩
        obtain ⟨t1, t2, t3, t4⟩ := P0.below hb1
        have H1 := hB.trans (hb1.mono hB.size)
        clear hb1 s0 s1 P0 P1
        go_wp2
        refine bodyPost_ret (v := .tuple #[.agg #[.int .i64 0, .int .i64 0], .int .i64 6]) (by simp [results, Try.results12, go_sem] <;> go_simp) rfl ⟨by rw [HE.out]; rfl, ?_⟩
        exact (H1.setCell (by simp) _).setCell (by simp) _
      · rw [hb] at K HE
        simp only [if_true] at HE
        clear hb
        go_wp2_with fail
        refine (K.out _).mono ?_
        rintro e w1 ⟨rfl, hb1⟩
        obtain ⟨t1, t2, t3, t4⟩ := P0.below hb1
        obtain ⟨t5, t6, _, _⟩ := P1.below hb1
        have H1 := hB.trans (hb1.mono hB.size)
        clear hb1 s0 s1 P0 P1
        go_wp2
        refine bodyPost_ret (v := .tuple #[.agg #[.int .i64 x, .int .i64 y], .int .i64 0]) (by simp [results, Try.results12, go_sem] <;> go_simp) rfl ⟨by rw [HE.out]; rfl, ?_⟩
        exact (H1.setCell (by simp) _).setCell (by simp) _
end Go.Proofs.Ytfbfnoiapeajeaa
