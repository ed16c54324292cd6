/- The package bucket: Sum: what it computes. -/
import Derived.Test.YtfbfnoiapeajeaaBk8
namespace Go.Proofs.Ytfbfnoiapeajeaa
open Go.RowKit

def sumG (x y : Int) : Tr → Option (Int × Int)
  | [] => some (x, y)
  | (b, r) :: l => if okB b r then sumG (x + b) (y + r) l else none
def sumE : Option (Int × Int) → Int × Int × Int
  | none => (0, 0, 130)
  | some (x, y) => if okB x y then (x, y, 0) else (0, 0, 6)
def sumR (l : Tr) : Int × Int × Int := if l.length = 0 then (0, 0, 2) else if 12 < l.length then (0, 0, 3) else sumE (sumG 0 0 l)
theorem sumG_step (x y : Int) {l : Tr} {k : Nat} (hk : k < l.length) : sumG x y (l.drop k) = if okB (l[k]).1 (l[k]).2 then sumG (x + (l[k]).1) (y + (l[k]).2) (l.drop (k + 1)) else none := by
  rw [List.drop_eq_getElem_cons hk]
  generalize l[k] = z
  obtain ⟨a, s⟩ := z
  rw [sumG]
def retS (p : Int × Int × Int) : Ending := .returned (.tuple #[.agg #[.int .i64 p.1, .int .i64 p.2.1], .int .i64 p.2.2])
set_option maxRecDepth 100000 in
set_option maxHeartbeats 4000000 in
theorem bsum_any (a : Option Addr) (n cap : Nat) (l : Tr) (w : World) (hn : l.length = n) (hm : n ≤ 1000) (hc : Hid (TrA w a l)) :
    Calls Try.prog 11 #[.slice a n cap] w fun e w' => e = retS (sumR l) ∧ Below w.heap.size w w' := by
  obtain ⟨X, hX⟩ : ∃ X, sumR l = X := ⟨_, rfl⟩
  rw [hX]
  have HX := Lib.hid hX
  clear hX
  have hA : Below w.heap.size w (w.alloc (.cells #[.int .i64 0, .int .i64 0] 23)) := (Below.refl _ _).alloc (Nat.le_refl _) _
  by_cases h0 : n = 0
  · subst h0
    have HR : Hid (retS X = retS (0, 0, 2)) := Lib.hid (by rw [← HX.out]; unfold sumR; rw [if_pos hn])
    clear hn hc HX
    go_enter Try.func11, Try.ntmps11
    go_wp2
    refine bodyPost_ret (v := .tuple #[.agg #[.int .i64 0, .int .i64 0], .int .i64 2]) (by simp [results, Try.results11, go_sem]) rfl ⟨HR.out.symm, ?_⟩
    first | exact (hA.setCell (by simp) _).setCell (by simp) _ | exact hA
  have hnb : ((n : Int) == 0) = false := by rw [beq_eq_false_iff_ne]; omega
  by_cases h12 : 12 < n
  · have HR : Hid (retS X = retS (0, 0, 3)) := Lib.hid (by rw [← HX.out]; unfold sumR; rw [if_neg (by omega), if_pos (by omega)])
    clear hn hc HX
    go_enter Try.func11, Try.ntmps11
    go_wp2
    refine bodyPost_ret (v := .tuple #[.agg #[.int .i64 0, .int .i64 0], .int .i64 3]) (by simp [results, Try.results11, go_sem]) rfl ⟨HR.out.symm, ?_⟩
    first | exact (hA.setCell (by simp) _).setCell (by simp) _ | exact hA
  have HR : Hid (∀ o, sumG 0 0 l = o → X = sumE o) := Lib.hid fun o h => by rw [← HX.out]; unfold sumR; rw [if_neg (by omega), if_neg (by omega), h]
  have hn1 : (n : Int) ≤ 12 := by omega
  have HN := Lib.hid hn
  clear hn HX h0
  go_enter Try.func11, Try.ntmps11
  go_wp2_with fail
  go_loopw [19] (fun i wr => ∃ (k : Nat) (x y : Int), k ≤ n ∧ i = .int .i64 k ∧ 0 ≤ x ∧ x ≤ k * 1048576 ∧ 0 ≤ y ∧ y ≤ k * 2097152 ∧ wr.cell? ⟨w.heap.size, 0, none⟩ = some (.int .i64 x) ∧ wr.cell? ⟨w.heap.size, 1, none⟩ = some (.int .i64 y) ∧ wr.frozen? ⟨w.heap.size, 0, none⟩ = false ∧ wr.frozen? ⟨w.heap.size, 1, none⟩ = false ∧ Below w.heap.size w wr ∧ Hid (sumG 0 0 l = sumG x y (l.drop k))) (fun i _ => n - (intOf i).toNat)
  case atStart => exact ⟨0, 0, 0, Nat.zero_le _, rfl, by omega, by omega, by omega, by omega, by go_simp, by go_simp, by go_simp, by go_simp, hA, Lib.hid (by rw [List.drop_zero])⟩
  case round =>
    obtain ⟨k, x, y, hk, rfl, x1, x2, y1, y2, s1, s2, s3, s4, hB, hpos⟩ := hrel
    have hz := cell_lt s1
    by_cases hlt : k < n
    · have HXk : k < l.length := by rw [HN.out]; exact hlt
      obtain ⟨bb, o, rfl, hbw, c1, c2⟩ := hc.out.get hB HXk
      have hlt' : (k : Int) < n := by omega
      have HS := Lib.hid (hpos.out.trans (sumG_step x y HXk))
      clear hpos
      generalize l[k] = z at *
      obtain ⟨b, r⟩ := z
      simp only at c1 c2 HS
      clear HXk
      have K := Lib.hid fun w => bcheck_any b r w
      unfold eB at K
      cases hb : okB b r
      · have HE := Lib.hid (HR.out none (HS.out.trans (by simp [hb])))
        rw [hb] at K
        simp only [Bool.false_eq_true, if_false] at K
        clear hb HS
        go_wp2_with fail
        refine (K.out _).mono ?_
        rintro e w1 ⟨rfl, hb1⟩
        have t1 := (hb1.cell (p := ⟨w.heap.size, 0, none⟩) (by simp; omega)).trans (show _ = some (.int .i64 x) by go_simp)
        have t2 := (hb1.cell (p := ⟨w.heap.size, 1, none⟩) (by simp; omega)).trans (show _ = some (.int .i64 y) by go_simp)
        have t3 := (hb1.frozen (p := ⟨w.heap.size, 0, none⟩) (by simp; omega)).trans (show _ = false by go_simp)
        have t4 := (hb1.frozen (p := ⟨w.heap.size, 1, none⟩) (by simp; omega)).trans (show _ = false by go_simp)
        have H1 := (hB.alloc hB.size (.cells #[.int .i64 b, .int .i64 r] 23)).trans (hb1.mono (by simp; omega))
        clear hb1 s1 s2 s3 s4
        go_wp2
        refine bodyPost_ret (v := .tuple #[.agg #[.int .i64 0, .int .i64 0], .int .i64 130]) (by simp [results, Try.results11, go_sem] <;> go_simp) rfl ⟨by rw [HE.out]; rfl, ?_⟩
        exact (H1.setCell (by simp) _).setCell (by simp) _
      · have HE := Lib.hid (HS.out.trans (by rw [hb, if_pos rfl]))
        have hb2 := okB_iff.1 hb
        rw [hb] at K
        simp only [if_true] at K
        clear hb HS
        go_wp2_with fail
        refine (K.out _).mono ?_
        rintro e w1 ⟨rfl, hb1⟩
        have t1 := (hb1.cell (p := ⟨w.heap.size, 0, none⟩) (by simp; omega)).trans (show _ = some (.int .i64 x) by go_simp)
        have t2 := (hb1.cell (p := ⟨w.heap.size, 1, none⟩) (by simp; omega)).trans (show _ = some (.int .i64 y) by go_simp)
        have t3 := (hb1.frozen (p := ⟨w.heap.size, 0, none⟩) (by simp; omega)).trans (show _ = false by go_simp)
        have t4 := (hb1.frozen (p := ⟨w.heap.size, 1, none⟩) (by simp; omega)).trans (show _ = false by go_simp)
        have t5 := (hb1.cell (p := ⟨wr.heap.size, 0, none⟩) (by simp)).trans (show _ = some (.int .i64 b) by go_simp)
        have t6 := (hb1.cell (p := ⟨wr.heap.size, 1, none⟩) (by simp)).trans (show _ = some (.int .i64 r) by go_simp)
        have H1 := (hB.alloc hB.size (.cells #[.int .i64 b, .int .i64 r] 23)).trans (hb1.mono (by simp; omega))
        have hne : wr.heap.size ≠ w.heap.size := by omega
        clear hb1 s1 s2 s3 s4
        go_wp2
        go_roundw
        case rel => exact ⟨k + 1, x + b, y + r, by omega, by go_num, by omega, by omega, by omega, by omega, by go_simp, by go_simp, by go_simp, by go_simp, (H1.setCell (by simp) _).setCell (by simp) _, HE⟩
        case measure => simp [intOf]; omega
    · have HE : Hid (X = if okB x y then (x, y, 0) else (0, 0, 6)) := Lib.hid (HR.out (some (x, y)) (hpos.out.trans (by rw [List.drop_eq_nil_of_le (by have := HN.out; omega), sumG])))
      have hlt' : ¬ (k : Int) < n := by omega
      have K := Lib.hid fun w => bcheck_any x y w
      unfold eB at K
      clear hpos
      cases hb : okB x y
      · rw [hb] at K HE
        simp only [Bool.false_eq_true, if_false] at K HE
        clear hb
        go_wp2_with fail
        refine (K.out _).mono ?_
        rintro e w1 ⟨rfl, hb1⟩
        have t1 := (hb1.cell (p := ⟨w.heap.size, 0, none⟩) hz).trans s1
        have t2 := (hb1.cell (p := ⟨w.heap.size, 1, none⟩) hz).trans s2
        have t3 := (hb1.frozen (p := ⟨w.heap.size, 0, none⟩) hz).trans s3
        have t4 := (hb1.frozen (p := ⟨w.heap.size, 1, none⟩) hz).trans s4
        have H1 := hB.trans (hb1.mono hB.size)
        clear hb1 s1 s2 s3 s4
        go_wp2
        refine bodyPost_ret (v := .tuple #[.agg #[.int .i64 0, .int .i64 0], .int .i64 6]) (by simp [results, Try.results11, go_sem] <;> go_simp) rfl ⟨by rw [HE.out]; rfl, ?_⟩
        exact (H1.setCell (by simp) _).setCell (by simp) _
      · rw [hb] at K HE
        simp only [if_true] at K HE
        clear hb
        go_wp2_with fail
        refine (K.out _).mono ?_
        rintro e w1 ⟨rfl, hb1⟩
        have t1 := (hb1.cell (p := ⟨w.heap.size, 0, none⟩) hz).trans s1
        have t2 := (hb1.cell (p := ⟨w.heap.size, 1, none⟩) hz).trans s2
        have t3 := (hb1.frozen (p := ⟨w.heap.size, 0, none⟩) hz).trans s3
        have t4 := (hb1.frozen (p := ⟨w.heap.size, 1, none⟩) hz).trans s4
        have H1 := hB.trans (hb1.mono hB.size)
        clear hb1 s1 s2 s3 s4
        go_wp2
        refine bodyPost_ret (v := .tuple #[.agg #[.int .i64 x, .int .i64 y], .int .i64 0]) (by simp [results, Try.results11, go_sem] <;> go_simp) rfl ⟨by rw [HE.out]; rfl, ?_⟩
        exact (H1.setCell (by simp) _).setCell (by simp) _
end Go.Proofs.Ytfbfnoiapeajeaa
