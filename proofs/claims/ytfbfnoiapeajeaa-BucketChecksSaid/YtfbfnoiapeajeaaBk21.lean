/- BucketLeasts: the walk of the law. -/
import Derived.Test.YtfbfnoiapeajeaaBk20
namespace Go.Proofs.Ytfbfnoiapeajeaa
open Go.RowKit

theorem slice_to (a : Option Addr) (len cap m : Nat) (hm : m ≤ cap) (W : World) : (Instr.slice 42 (.slice a len cap) none (some (.int .i64 (m:Int))) none).run Try.prog W = .ok (.slice a m cap) W := by
  have h0 : (0:Int) ≤ m := by omega
  have h1 : (m:Int) ≤ cap := by omega
  cases a with
  | none => go_simp <;> simp
  | some q => go_simp <;> simp [Addr.add]
theorem slice_to2 (a : Option Addr) (len cap m : Nat) (hm : m ≤ cap) (W : World) : (Instr.slice 28 (.slice a len cap) none (some (.int .i64 (m:Int))) none).run Try.prog W = .ok (.slice a m cap) W := by
  have h0 : (0:Int) ≤ m := by omega
  have h1 : (m:Int) ≤ cap := by omega
  cases a with
  | none => go_simp <;> simp
  | some q => go_simp <;> simp [Addr.add]
theorem sliced_to (a : Option Addr) (m cap s : Nat) : sliced a 0 m cap s = .slice a m cap := by
  unfold sliced
  cases a with
  | none => simp
  | some q => simp [Addr.add]
theorem u_mod (x : Int) {m : Int} (hm : 1 ≤ m ∧ m ≤ 1125899906842624) : ∃ u n : Int, IntKind.u64.wrap x = u ∧ u.tmod m = n ∧ u % m = n ∧ 0 ≤ u ∧ u ≤ 18446744073709551615 ∧ 0 ≤ n ∧ n < m ∧ IntKind.i64.wrap n = n ∧ IntKind.u64.wrap n = n ∧ x % 18446744073709551616 % m = n := by
  have h0 := Int.emod_nonneg (x % 18446744073709551616) (show m ≠ 0 by omega)
  have h1 := Int.emod_lt_of_pos (x % 18446744073709551616) (show 0 < m by omega)
  exact ⟨x % 18446744073709551616, x % 18446744073709551616 % m, IntKind.wrap_u64 x, Int.tmod_eq_emod_of_nonneg (by omega), rfl, by omega, by omega, h0, h1, IntWalk.i64_in _ (by omega), IntWalk.u64_in _ (by omega), rfl⟩
set_option maxRecDepth 100000 in
set_option maxHeartbeats 2000000 in
theorem blaw5_walk (rate : Int) (ao : Option Addr) (len cap : Nat) (l0 : Tr) (x y : Int) (ga sa : Option Addr) (gn gc sn sc : Nat) (gaps sizes : List Int) (xa xs p : Int) (w : World) (hl : l0.length = len) (hcap : len ≤ cap) (hno : ao = none → cap = 0) (hsp : ∀ q, ao = some q → q.spot = none) (hT : Hid (TrA w ao l0)) (hD : Hid (DraftIn w x y ga sa gn sn gaps sizes)) (hp : 0 ≤ p ∧ p ≤ 255) :
    Calls Try.prog 5 #[.int .i64 rate, .slice ao len cap, .agg #[.int .u32 x, .int .u32 y, .slice ga gn gc, .slice sa sn sc], .agg #[.int .i64 xa, .int .i64 xs], .int .u8 p] w fun e w' => e = .returned (.bool true) ∧ Below w.heap.size w w' := by
  obtain ⟨ht, hl30⟩ := traceV_ok hD.out.hG.small hD.out.hS.small
  have KB := Lib.hid fun w' => hD.out.bucket (gc := gc) (sc := sc) w'
  obtain ⟨n, hn⟩ : ∃ n, (traceV gaps sizes).length = n := ⟨_, rfl⟩
  have HN := Lib.hid hn
  have KT := Lib.hid fun w' hb => retTr (hD.out.trace (gc := gc) (sc := sc) w' hb) HN
  generalize traceV gaps sizes = l at *
  generalize dB x = b at *
  generalize dR y = r at *
  have hn30 : n ≤ 30 := by omega
  obtain ⟨m, hm, hm1, hm2⟩ : ∃ m : Nat, (m : Int) = min (len : Int) 40 ∧ m ≤ cap ∧ m ≤ 40 := ⟨min len 40, by omega, by omega, by omega⟩
  have mx : ∀ W, (Builtin.min_ #[3, 3] 3 #[.int .i64 len, .int .i64 40]).run Try.prog W = .ok (.int .i64 m) W := fun W => by
    have := @run_min_int2 Try.prog W #[3, 3] 3 .i64 .i64 len 40
    rw [this]; congr 2; split <;> omega
  have HML : Hid ((l0.take m).length = m) := Lib.hid (by rw [List.length_take]; omega)
  have hTm : Hid (TrA w ao (l0.take m)) := Lib.hid (hT.out.take m)
  generalize l0.take m = lm at *
  have KBe := Lib.hid fun a c w (h1 : TrS w a c l) => bent_any a n c l xa xs p w hn (by omega) h1.nil h1.spot (Lib.hid h1.tr) hp.1 hp.2
  have HBL : Hid ((bentV l (xa, xs) p).length = n) := Lib.hid (by rw [bentV_length]; exact hn)
  generalize bentV l (xa, xs) p = lb at *
  have hsl := fun a => slice_to a len cap m hm1
  have hsl2 := sliced_to ao m cap 2
  obtain ⟨u, q, e1, e2, e3, u0, u1, q0, q1, q2, q3, _⟩ := u_mod rate (m := 2097152) (by omega)
  have hcp : (m : Int) ≤ cap := by omega
  have hfd : ∀ W, (Instr.field 23 (.agg #[.int .i64 b, .int .i64 r]) 1).run Try.prog W = .ok (.int .i64 r) W := fun _ => by kernel_rfl
  have ER : ∀ k : Nat, k < 3 → ∃ z : Int, ∀ W, (Instr.index 38 (.agg #[.int .i64 rate, .int .i64 r, .int .i64 (1 + q)]) (.int .i64 k)).run Try.prog W = .ok (.int .i64 z) W := fun k hk => by
    match k, hk with
    | 0, _ => exact ⟨rate, fun _ => (by kernel_rfl)⟩
    | 1, _ => exact ⟨r, fun _ => (by kernel_rfl)⟩
    | 2, _ => exact ⟨1 + q, fun _ => (by kernel_rfl)⟩
  have ER := Lib.hid ER
  clear ht hl30 hn hm hT hD hl hno hsp hp
  go_enter Try.func5, Try.ntmps5
  go_wp2_with fail
  refine (KB.out _).mono ?_
  rintro e w1 ⟨rfl, hb1⟩
  have hz1_0 : w.heap.size < w1.heap.size := by have := hb1.size; simp at this; omega
  have s1_0_0 : w1.cell? ⟨w.heap.size, 0, none⟩ = some (.int .u32 x) := (hb1.cell (p := ⟨w.heap.size, 0, none⟩) (by simp <;> omega)).trans (by go_simp)
  have s1_0_1 : w1.cell? ⟨w.heap.size, 1, none⟩ = some (.int .u32 y) := (hb1.cell (p := ⟨w.heap.size, 1, none⟩) (by simp <;> omega)).trans (by go_simp)
  have s1_0_2 : w1.cell? ⟨w.heap.size, 2, none⟩ = some (.slice ga gn gc) := (hb1.cell (p := ⟨w.heap.size, 2, none⟩) (by simp <;> omega)).trans (by go_simp)
  have s1_0_3 : w1.cell? ⟨w.heap.size, 3, none⟩ = some (.slice sa sn sc) := (hb1.cell (p := ⟨w.heap.size, 3, none⟩) (by simp <;> omega)).trans (by go_simp)
  have hz1_1 : w.heap.size + 1 < w1.heap.size := by have := hb1.size; simp at this; omega
  have s1_1_0 : w1.cell? ⟨w.heap.size + 1, 0, none⟩ = some (.int .i64 xa) := (hb1.cell (p := ⟨w.heap.size + 1, 0, none⟩) (by simp <;> omega)).trans (by go_simp)
  have s1_1_1 : w1.cell? ⟨w.heap.size + 1, 1, none⟩ = some (.int .i64 xs) := (hb1.cell (p := ⟨w.heap.size + 1, 1, none⟩) (by simp <;> omega)).trans (by go_simp)
  have H1 : Below w.heap.size w w1 := (((Below.refl _ _).alloc (Nat.le_refl _) _).alloc (by simp <;> omega) _).trans (hb1.mono (by simp <;> omega))
  clear hb1
  go_wp2_with fail
  clear hfd mx hsl hsl2 e1 e2 e3 q2 q3
  go_loopw [34] (fun i wr => ∃ k : Nat, k ≤ 3 ∧ i = .int .i64 k ∧ Below w1.heap.size w1 wr) (fun i _ => 3 - (intOf i).toNat)
  case atStart => exact ⟨0, Nat.zero_le _, rfl, Below.refl _ _⟩
  case round =>
    obtain ⟨k, hk, rfl, hB⟩ := hrel
    have Hr := H1.trans (hB.mono H1.size)
    by_cases hlt : k < 3
    · skip
      obtain ⟨z, hix⟩ := ER.out k hlt
      have hlt' : (k : Int) < 3 := by omega
      have r_s1_0_0 := (hB.cell (p := ⟨w.heap.size, 0, none⟩) hz1_0).trans s1_0_0
      have r_s1_0_1 := (hB.cell (p := ⟨w.heap.size, 1, none⟩) hz1_0).trans s1_0_1
      have r_s1_0_2 := (hB.cell (p := ⟨w.heap.size, 2, none⟩) hz1_0).trans s1_0_2
      have r_s1_0_3 := (hB.cell (p := ⟨w.heap.size, 3, none⟩) hz1_0).trans s1_0_3
      have r_hz1_0 := Nat.lt_of_lt_of_le hz1_0 hB.size
      have r_s1_1_0 := (hB.cell (p := ⟨w.heap.size + 1, 0, none⟩) hz1_1).trans s1_1_0
      have r_s1_1_1 := (hB.cell (p := ⟨w.heap.size + 1, 1, none⟩) hz1_1).trans s1_1_1
      have r_hz1_1 := Nat.lt_of_lt_of_le hz1_1 hB.size
      go_wp2_with fail
      refine wp_region_gput (R := (Option Addr) × Nat × (Option Addr) × Nat × (Option Addr) × Nat × Value) [37, 38, 39, 40, 41, 42, 43, 44, 45, 46]
        (fun rr => [.slice ao m cap, .agg #[.int .u32 x, .int .u32 y, .slice ga gn gc, .slice sa sn sc], .slice rr.1 n rr.2.1, .agg #[.int .u32 x, .int .u32 y, .slice ga gn gc, .slice sa sn sc], .slice rr.2.2.1 n rr.2.2.2.1, .agg #[.int .i64 xa, .int .i64 xs], .int .u8 p, .slice rr.2.2.2.2.1 n rr.2.2.2.2.2.1, rr.2.2.2.2.2.2, .int .i64 0])
        (fun L rr wx => Below wr.heap.size wr wx ∧ (L 2 = true → TrS wx rr.1 rr.2.1 l) ∧ (L 4 = true → TrS wx rr.2.2.1 rr.2.2.2.1 l) ∧ (L 7 = true → TrS wx rr.2.2.2.2.1 rr.2.2.2.2.2.1 lb) ∧ (L 8 = true → L 2 = true ∧ L 7 = true ∧ rr.2.2.2.2.2.2 = .agg #[.slice ao m cap, .slice rr.1 n rr.2.1, .slice rr.2.2.2.2.1 n rr.2.2.2.2.2.1]))
        (by kernel_rfl) (by kernel_rfl) (by kernel_rfl) (none, 0, none, 0, none, 0, undef) ?_ ?_ ?_
      · exact ⟨(Below.refl _ _).drew, fun h => absurd h (by decide), fun h => absurd h (by decide), fun h => absurd h (by decide), fun h => absurd h (by decide)⟩
      · refine ⟨?_, ?_, ?_, ?_, ?_, ?_, ?_, ?_, ?_, ?_, trivial⟩
        all_goals
          rintro L ⟨a1, c1, a2, c2, a3, c3, v45⟩ wx K hLi hdep ⟨hB, h2, h4, h7, h8⟩ hK
          try dsimp only at h2 h4 h7 h8
          have hBs := hB.size
          have f0 := (hB.cell (p := ⟨w.heap.size, 0, none⟩) r_hz1_0).trans r_s1_0_0
          have f1 := (hB.cell (p := ⟨w.heap.size, 1, none⟩) r_hz1_0).trans r_s1_0_1
          have f2 := (hB.cell (p := ⟨w.heap.size, 2, none⟩) r_hz1_0).trans r_s1_0_2
          have f3 := (hB.cell (p := ⟨w.heap.size, 3, none⟩) r_hz1_0).trans r_s1_0_3
          have f4 := (hB.cell (p := ⟨w.heap.size + 1, 0, none⟩) r_hz1_1).trans r_s1_1_0
          have f5 := (hB.cell (p := ⟨w.heap.size + 1, 1, none⟩) r_hz1_1).trans r_s1_1_1
          simp only [putAll, Act.put, List.setIfInBounds_toArray, List.set_cons_succ, List.set_cons_zero] at hK ⊢
        · refine .inl ⟨by rfl, ?_⟩
          go_simp
          exact hK (a1, c1, a2, c2, a3, c3, v45) wx ⟨hB, by simpa using h2, by simpa using h4, by simpa using h7, by simpa using h8⟩
        · refine .inl ⟨by rfl, ?_⟩
          go_simp
          exact hK (a1, c1, a2, c2, a3, c3, v45) wx ⟨hB, by simpa using h2, by simpa using h4, by simpa using h7, by simpa using h8⟩
        · refine .inl ⟨by rfl, ?_⟩
          go_simp
          refine (KT.out wx (Hr.trans (hB.mono Hr.size))).mono ?_
          rintro e w' ⟨a1', c1', rfl, g1, g2, hb⟩
          exact hK (a1', c1', a2, c2, a3, c3, v45) w' ⟨(hB.trans (hb.mono hBs)), fun _ => g1, fun h => (h4 (by simpa using h)).next hb, fun h => (h7 (by simpa using h)).next hb, fun h => absurd ((h8 (by simpa using h)).1) (by simp [hLi])⟩
        · refine .inl ⟨by rfl, ?_⟩
          go_simp
          exact hK (a1, c1, a2, c2, a3, c3, v45) wx ⟨hB, by simpa using h2, by simpa using h4, by simpa using h7, by simpa using h8⟩
        · refine .inl ⟨by rfl, ?_⟩
          go_simp
          refine (KT.out wx (Hr.trans (hB.mono Hr.size))).mono ?_
          rintro e w' ⟨a2', c2', rfl, g1, g2, hb⟩
          exact hK (a1, c1, a2', c2', a3, c3, v45) w' ⟨(hB.trans (hb.mono hBs)), fun h => (h2 (by simpa using h)).next hb, fun _ => g1, fun h => (h7 (by simpa using h)).next hb, by simpa using h8⟩
        · refine .inl ⟨by rfl, ?_⟩
          go_simp
          exact hK (a1, c1, a2, c2, a3, c3, v45) wx ⟨hB, by simpa using h2, by simpa using h4, by simpa using h7, by simpa using h8⟩
        · refine .inl ⟨by rfl, ?_⟩
          go_simp
          exact hK (a1, c1, a2, c2, a3, c3, v45) wx ⟨hB, by simpa using h2, by simpa using h4, by simpa using h7, by simpa using h8⟩
        · have p4 := h4 (hdep ⟨4, .data⟩ (by simp) rfl)
          refine .inl ⟨by rfl, ?_⟩
          go_simp
          refine (retTr (KBe.out a2 c2 wx p4) HBL).mono ?_
          rintro e w' ⟨a3', c3', rfl, g1, g2, hb⟩
          exact hK (a1, c1, a2, c2, a3', c3', v45) w' ⟨(hB.trans (hb.mono hBs)), fun h => (h2 (by simpa using h)).next hb, fun h => (h4 (by simpa using h)).next hb, fun _ => g1, fun h => absurd ((h8 (by simpa using h)).2.1) (by simp [hLi])⟩
        · have d2 := hdep ⟨2, .data⟩ (by simp) rfl
          have d7 := hdep ⟨7, .data⟩ (by simp) rfl
          refine .inl ⟨by rfl, ?_⟩
          go_simp
          exact hK (a1, c1, a2, c2, a3, c3, _) wx ⟨hB, by simpa using h2, by simpa using h4, by simpa using h7, fun _ => ⟨by simp [d2], by simp [d7], rfl⟩⟩
        · refine .inl ⟨by rfl, ?_⟩
          go_simp
          exact hK (a1, c1, a2, c2, a3, c3, v45) wx ⟨hB, by simpa using h2, by simpa using h4, by simpa using h7, by simpa using h8⟩
      rintro ⟨a1, c1, a2, c2, a3, c3, v45⟩ w11 ⟨hb11, q2, q4, q7, q8⟩
      have hb11k := hb11
      replace q2 := q2 rfl
      replace q4 := q4 rfl
      replace q7 := q7 rfl
      replace q8 := q8 rfl
      try dsimp only at q2 q4 q7 q8
      simp only [putAll, Act.put, List.setIfInBounds_toArray, List.set_cons_succ, List.set_cons_zero]
      have hz11_0 := Nat.lt_of_lt_of_le r_hz1_0 hb11.size
      have s11_0_0 := (hb11.cell (p := ⟨w.heap.size, 0, none⟩) r_hz1_0).trans r_s1_0_0
      have s11_0_1 := (hb11.cell (p := ⟨w.heap.size, 1, none⟩) r_hz1_0).trans r_s1_0_1
      have s11_0_2 := (hb11.cell (p := ⟨w.heap.size, 2, none⟩) r_hz1_0).trans r_s1_0_2
      have s11_0_3 := (hb11.cell (p := ⟨w.heap.size, 3, none⟩) r_hz1_0).trans r_s1_0_3
      have hz11_1 := Nat.lt_of_lt_of_le r_hz1_1 hb11.size
      have s11_1_0 := (hb11.cell (p := ⟨w.heap.size + 1, 0, none⟩) r_hz1_1).trans r_s1_1_0
      have s11_1_1 := (hb11.cell (p := ⟨w.heap.size + 1, 1, none⟩) r_hz1_1).trans r_s1_1_1
      have H11 := Hr.trans (hb11.mono Hr.size)
      clear r_hz1_0 r_s1_0_0 r_s1_0_1 r_s1_0_2 r_s1_0_3 r_hz1_1 r_s1_1_0 r_s1_1_1 hb11
      obtain ⟨_, _, rfl⟩ := q8
      have EL : ∀ k : Nat, k < 3 → ∃ a nn c t, (∀ W, (Instr.index 54 (.agg #[.slice ao m cap, .slice a1 n c1, .slice a3 n c3]) (.int .i64 k)).run Try.prog W = .ok (.slice a nn c) W) ∧ nn ≤ 40 ∧ Hid (t.length = nn) ∧ Hid (TrA w11 a t) := fun k hk => by
        match k, hk with
        | 0, _ => exact ⟨ao, m, cap, lm, fun _ => (by kernel_rfl), hm2, HML, Lib.hid (hTm.out.below H11 (Nat.le_refl _))⟩
        | 1, _ => exact ⟨a1, n, c1, l, fun _ => (by kernel_rfl), by omega, HN, Lib.hid q2.tr⟩
        | 2, _ => exact ⟨a3, n, c3, lb, fun _ => (by kernel_rfl), by omega, HBL, Lib.hid q7.tr⟩
      have EL := Lib.hid EL
      clear q2 q4 q7
      go_wp2_with fail
      have hBo := hB
      go_loopw [46] (fun i wi => ∃ j : Nat, j ≤ 3 ∧ i = .int .i64 j ∧ Below w11.heap.size w11 wi) (fun i _ => 3 - (intOf i).toNat)
      case atStart => exact ⟨0, Nat.zero_le _, rfl, Below.refl _ _⟩
      case round =>
        obtain ⟨j, hj, rfl, hBi⟩ := hrel
        have Hi := H11.trans (hBi.mono H11.size)
        by_cases hjt : j < 3
        · obtain ⟨a, nn, c, t, hjx, hn40, HNt, HA⟩ := EL.out j hjt
          have hjt' : (j : Int) < 3 := by omega
          have KL := bleast_any z a nn c t
          have KR := rleast_any z a nn c t
          have KL := Lib.hid fun w h => KL w HNt.out (by omega) h
          have KR := Lib.hid fun w h => KR w HNt.out (by omega) h
          generalize lstV z t = v1 at *
          generalize eL z t = v2 at *
          have ne1 : (v1 != v1) = false := by simp
          have ne2 : (v2 != v2) = false := by simp
          go_wp2_with fail
          refine (KL.out _ (Lib.hid (HA.out.below hBi (Nat.le_refl _)))).mono ?_
          rintro e w5 ⟨rfl, hb5⟩
          go_wp2_with fail
          refine (KR.out _ (Lib.hid ((HA.out.below hBi (Nat.le_refl _)).next hb5))).mono ?_
          rintro e w6 ⟨rfl, hb6⟩
          go_wp2
          go_roundw
          case rel => exact ⟨j + 1, by omega, by go_num, hBi.trans ((hb5.trans (hb6.mono hb5.size)).mono hBi.size)⟩
          case measure => (simp [intOf] <;> omega)
        · have hjt' : ¬ (j : Int) < 3 := by omega
          go_wp2
          go_roundw
          case rel => exact ⟨k + 1, by omega, by go_num, hBo.trans ((hb11k.trans (hBi.mono hb11k.size)).mono hBo.size)⟩
          case measure => (simp [intOf] <;> omega)
    · have hlt' : ¬ (k : Int) < 3 := by omega
      go_wp2_with fail
      refine (works03 _).mono ?_
      rintro e w7 ⟨rfl, hb7⟩
      go_wp2
      go_ret
      exact ⟨rfl, Hr.trans (hb7.mono Hr.size)⟩
end Go.Proofs.Ytfbfnoiapeajeaa
