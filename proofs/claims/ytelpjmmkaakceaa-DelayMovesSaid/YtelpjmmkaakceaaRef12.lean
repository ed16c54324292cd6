/- The reference of the layer delay: what its functions compute. -/
import Derived.Test.YtelpjmmkaakceaaMeet
import Derived.Test.YtelpjmmkaakceaaRefC9
namespace Go.Proofs.Ytelpjmmkaakceaa
open Go.RowKit Go.Shelf

theorem Calls.flip {P : Program} {f : FuncId} {args : Array Value} {w : World} {v : Value} (h : Calls P f args w fun e w' => e = .returned v ∧ w = w') : Calls P f args w fun e w' => e = .returned v ∧ w' = w :=
  h.mono fun _ _ ⟨he, hw⟩ => ⟨he, hw.symm⟩
theorem stampX_iff (t : Int) : stampX t = true ↔ -4398046511104 ≤ t ∧ t ≤ 4398046511104 := by unfold stampX; simp
theorem stampX_no {t : Int} (h : stampX t = false) : t < -4398046511104 ∨ (-4398046511104 ≤ t ∧ 4398046511104 < t) := by
  have : ¬ (-4398046511104 ≤ t ∧ t ≤ 4398046511104) := fun k => by rw [← stampX_iff, h] at k; cases k
  omega
set_option maxHeartbeats 400000 in
theorem rstampX_any (n : Int) (w : World) :
    Calls Try.prog 28 #[.int .i64 n] w fun e w' => e = .returned (.bool (stampX n)) ∧ w = w' := by
  cases hr : stampX n
  · have h := stampX_no hr
    clear hr
    rcases h with h | ⟨h', h⟩
    all_goals
      go_enter Try.func28, Try.ntmps28
      go_wp2
      go_ret
      exact ⟨by first | rfl | exact ret_bool (decide_eq_false (by omega)), rfl⟩
  · rw [stampX_iff] at hr
    obtain ⟨h, h'⟩ := hr
    go_enter Try.func28, Try.ntmps28
    go_wp2
    go_ret
    exact ⟨rfl, rfl⟩
theorem rstampX_b {n : Int} {b : Bool} (h : stampX n = b) (w : World) : Calls Try.prog 28 #[.int .i64 n] w fun e w' => e = .returned (.bool b) ∧ w = w' := h ▸ rstampX_any n w
set_option maxRecDepth 100000 in
set_option maxHeartbeats 2000000 in
theorem rrightX_any (t1 t2 t3 t4 : Int) (w : World) :
    Calls Try.prog 13 #[.agg #[.int .i64 t1, .int .i64 t2, .int .i64 t3, .int .i64 t4]] w fun e w' => e = .returned (.bool (okX t1 t2 t3 t4)) ∧ Below w.heap.size w w' := by
  cases h1 : stampX t1
  · have S1 := Lib.hid (rstampX_b h1)
    have H : Hid (okX t1 t2 t3 t4 = false) := Lib.hid (by unfold okX; rw [h1]; simp)
    have C := Lib.hid (show True from trivial)
    clear h1
    go_enter Try.func13, Try.ntmps13
    go_wp2_with fail
    refine (S1.out _).mono ?_
    rintro e w' ⟨rfl, rfl⟩
    go_wp2
    go_ret
    exact ⟨by first | exact ret_bool H.out.symm | exact ret_bool (C.out.trans H.out.symm), (Below.refl _ _).alloc (Nat.le_refl _) _⟩
  · have S1 := Lib.hid (rstampX_b h1)
    cases h2 : stampX t2
    · have S2 := Lib.hid (rstampX_b h2)
      have H : Hid (okX t1 t2 t3 t4 = false) := Lib.hid (by unfold okX; rw [h2]; simp)
      have C := Lib.hid (show True from trivial)
      clear h1 h2
      go_enter Try.func13, Try.ntmps13
      go_wp2_with fail
      refine (S1.out _).mono ?_
      rintro e w' ⟨rfl, rfl⟩
      go_wp2_with fail
      refine (S2.out _).mono ?_
      rintro e w' ⟨rfl, rfl⟩
      go_wp2
      go_ret
      exact ⟨by first | exact ret_bool H.out.symm | exact ret_bool (C.out.trans H.out.symm), (Below.refl _ _).alloc (Nat.le_refl _) _⟩
    · have S2 := Lib.hid (rstampX_b h2)
      cases h3 : stampX t3
      · have S3 := Lib.hid (rstampX_b h3)
        have H : Hid (okX t1 t2 t3 t4 = false) := Lib.hid (by unfold okX; rw [h3]; simp)
        have C := Lib.hid (show True from trivial)
        clear h1 h2 h3
        go_enter Try.func13, Try.ntmps13
        go_wp2_with fail
        refine (S1.out _).mono ?_
        rintro e w' ⟨rfl, rfl⟩
        go_wp2_with fail
        refine (S2.out _).mono ?_
        rintro e w' ⟨rfl, rfl⟩
        go_wp2_with fail
        refine (S3.out _).mono ?_
        rintro e w' ⟨rfl, rfl⟩
        go_wp2
        go_ret
        exact ⟨by first | exact ret_bool H.out.symm | exact ret_bool (C.out.trans H.out.symm), (Below.refl _ _).alloc (Nat.le_refl _) _⟩
      · have S3 := Lib.hid (rstampX_b h3)
        cases h4 : stampX t4
        · have S4 := Lib.hid (rstampX_b h4)
          have H : Hid (okX t1 t2 t3 t4 = false) := Lib.hid (by unfold okX; rw [h4]; simp)
          have C := Lib.hid (show True from trivial)
          clear h1 h2 h3 h4
          go_enter Try.func13, Try.ntmps13
          go_wp2_with fail
          refine (S1.out _).mono ?_
          rintro e w' ⟨rfl, rfl⟩
          go_wp2_with fail
          refine (S2.out _).mono ?_
          rintro e w' ⟨rfl, rfl⟩
          go_wp2_with fail
          refine (S3.out _).mono ?_
          rintro e w' ⟨rfl, rfl⟩
          go_wp2_with fail
          refine (S4.out _).mono ?_
          rintro e w' ⟨rfl, rfl⟩
          go_wp2
          go_ret
          exact ⟨by first | exact ret_bool H.out.symm | exact ret_bool (C.out.trans H.out.symm), (Below.refl _ _).alloc (Nat.le_refl _) _⟩
        · have S4 := Lib.hid (rstampX_b h4)
          by_cases c1 : t1 ≤ t4
          · by_cases c2 : t2 ≤ t3
            · have H : Hid (okX t1 t2 t3 t4 = true) := Lib.hid (by unfold okX; rw [h1, h2, h3, h4]; simp [c1, c2])
              have C := Lib.hid (decide_eq_true c2)
              clear h1 h2 h3 h4
              go_enter Try.func13, Try.ntmps13
              go_wp2_with fail
              refine (S1.out _).mono ?_
              rintro e w' ⟨rfl, rfl⟩
              go_wp2_with fail
              refine (S2.out _).mono ?_
              rintro e w' ⟨rfl, rfl⟩
              go_wp2_with fail
              refine (S3.out _).mono ?_
              rintro e w' ⟨rfl, rfl⟩
              go_wp2_with fail
              refine (S4.out _).mono ?_
              rintro e w' ⟨rfl, rfl⟩
              go_wp2
              go_ret
              exact ⟨by first | exact ret_bool H.out.symm | exact ret_bool (C.out.trans H.out.symm), (Below.refl _ _).alloc (Nat.le_refl _) _⟩
            · have H : Hid (okX t1 t2 t3 t4 = false) := Lib.hid (by unfold okX; simp [c2])
              have C := Lib.hid (decide_eq_false c2)
              have c3 : t3 < t2 := by omega
              clear h1 h2 h3 h4
              go_enter Try.func13, Try.ntmps13
              go_wp2_with fail
              refine (S1.out _).mono ?_
              rintro e w' ⟨rfl, rfl⟩
              go_wp2_with fail
              refine (S2.out _).mono ?_
              rintro e w' ⟨rfl, rfl⟩
              go_wp2_with fail
              refine (S3.out _).mono ?_
              rintro e w' ⟨rfl, rfl⟩
              go_wp2_with fail
              refine (S4.out _).mono ?_
              rintro e w' ⟨rfl, rfl⟩
              go_wp2
              go_ret
              exact ⟨by first | exact ret_bool H.out.symm | exact ret_bool (C.out.trans H.out.symm), (Below.refl _ _).alloc (Nat.le_refl _) _⟩
          · have H : Hid (okX t1 t2 t3 t4 = false) := Lib.hid (by unfold okX; simp [c1])
            have C := Lib.hid (show True from trivial)
            have c3 : t4 < t1 := by omega
            clear h1 h2 h3 h4
            go_enter Try.func13, Try.ntmps13
            go_wp2_with fail
            refine (S1.out _).mono ?_
            rintro e w' ⟨rfl, rfl⟩
            go_wp2_with fail
            refine (S2.out _).mono ?_
            rintro e w' ⟨rfl, rfl⟩
            go_wp2_with fail
            refine (S3.out _).mono ?_
            rintro e w' ⟨rfl, rfl⟩
            go_wp2_with fail
            refine (S4.out _).mono ?_
            rintro e w' ⟨rfl, rfl⟩
            go_wp2
            go_ret
            exact ⟨by first | exact ret_bool H.out.symm | exact ret_bool (C.out.trans H.out.symm), (Below.refl _ _).alloc (Nat.le_refl _) _⟩
theorem rrightX_b {t1 t2 t3 t4 : Int} {b : Bool} (h : okX t1 t2 t3 t4 = b) (w : World) : Calls Try.prog 13 #[.agg #[.int .i64 t1, .int .i64 t2, .int .i64 t3, .int .i64 t4]] w fun e w' => e = .returned (.bool b) ∧ Below w.heap.size w w' := h ▸ rrightX_any t1 t2 t3 t4 w
set_option maxHeartbeats 400000 in
theorem rdelay_any {t1 t2 t3 t4 : Int} (hok : okX t1 t2 t3 t4 = true) (w : World) :
    Calls Try.prog 15 #[.agg #[.int .i64 t1, .int .i64 t2, .int .i64 t3, .int .i64 t4]] w fun e w' => e = .returned (.int .i64 (delV t1 t2 t3 t4)) ∧ Below w.heap.size w w' := by
  have HV : Hid ((t4 - t1 - t3 + t2) / 2 = delV t1 t2 t3 t4) := Lib.hid (by unfold delV; rw [hok, if_pos rfl]; congr 1; omega)
  rw [okX_iff] at hok
  obtain ⟨⟨a0, a1⟩, ⟨b0, b1⟩, ⟨c0, c1⟩, ⟨d0, d1⟩, e1, e2⟩ := hok
  have HF := Lib.hid fun w => floor_any (t4 - t1 - t3 + t2) 2 w (by omega) (by omega) (by omega) (by omega)
  go_enter Try.func15, Try.ntmps15
  go_wp2_with (go_at_call 31; refine (HF.out _).mono ?_; rintro e w' ⟨rfl, rfl⟩)
  go_ret
  exact ⟨ret_int HV.out, (Below.refl _ _).alloc (Nat.le_refl _) _⟩

/-! ### long, exact -/
theorem long_step {n y q r : Int} {i : Nat} (hy : 1 ≤ y) (hr : 0 ≤ r ∧ r < y) (h : q * y + r = n * 10 ^ i) :
    (q * 10 + r * 10 / y) * y + r * 10 % y = n * 10 ^ (i + 1) ∧ 0 ≤ r * 10 % y ∧ r * 10 % y < y ∧ 0 ≤ r * 10 / y ∧ r * 10 / y ≤ 9 := by
  have e := Int.mul_ediv_add_emod (r * 10) y
  have m0 := Int.emod_nonneg (r * 10) (show y ≠ 0 by omega)
  have m1 := Int.emod_lt_of_pos (r * 10) (show 0 < y by omega)
  rw [Int.mul_comm] at e
  refine ⟨?_, m0, m1, Int.ediv_nonneg (by omega) (by omega), ?_⟩
  · rw [Int.add_mul, Int.pow_succ, ← Int.mul_assoc, ← h, Int.mul_assoc, Int.mul_comm 10 y, ← Int.mul_assoc, Int.add_mul]; omega
  · have : r * 10 / y < 10 := Int.ediv_lt_of_lt_mul (by omega) (by omega)
    omega
theorem long_end {n y q r : Int} (hy : 1 ≤ y) (hr : 0 ≤ r ∧ r < y) (h : q * y + r = n * 10 ^ 9) : q = n * 1000000000 / y := by
  have h' : q * y + r = n * 1000000000 := by rw [h]; rfl
  exact (ediv_eq (show 0 < y by omega) (by omega) (by rw [Int.add_mul]; omega)).symm
set_option maxRecDepth 100000 in
set_option maxHeartbeats 1000000 in
theorem long_pos (n y : Int) (w : World) (hn : 0 ≤ n) (hy : 1 ≤ y) (hny : n ≤ y) (hy1 : y ≤ 17592186044416) :
    Calls Try.prog 33 #[.int .i64 n, .int .i64 y] w fun e w' => e = .returned (.int .i64 (n * 1000000000 / y)) ∧ Below w.heap.size w w' := by
  have HE := Lib.hid fun q r => @long_end n y q r hy
  have hyz : (y == 0) = false := by simp; omega
  have hyz' : ¬ y = 0 := by omega
  have q0 : 0 ≤ n / y := Int.ediv_nonneg hn (by omega)
  have q1 : n / y ≤ 1 := by
    have : n / y < 2 := Int.ediv_lt_of_lt_mul (by omega) (by omega)
    omega
  have m0 := Int.emod_nonneg n hyz'
  have m1 := Int.emod_lt_of_pos n (show 0 < y by omega)
  have e0 := Int.mul_ediv_add_emod n y
  rw [Int.mul_comm] at e0
  have et1 : n.tdiv y = n / y := Int.tdiv_eq_ediv_of_nonneg hn
  have et2 : n.tmod y = n % y := Int.tmod_eq_emod_of_nonneg hn
  generalize n / y = q at *
  generalize n % y = r at *
  have ew1 : IntKind.i64.wrap q = q := IntWalk.i64_in _ (by omega)
  have ew2 : IntKind.i64.wrap r = r := IntWalk.i64_in _ (by omega)
  have E0 : Hid (q * y + r = n * 10 ^ 0) := Lib.hid (by rw [e0]; simp)
  clear e0
  go_enter Try.func33, Try.ntmps33
  go_wp2_with fail
  go_quiet (fail)
  go_wp2_with fail
  clear et1 et2 ew1 ew2
  go_loop [6, 7, 8] (fun s u i => ∃ (k : Nat) (a b : Int), k ≤ 9 ∧ i = .int .i64 k ∧ s = .int .i64 a ∧ u = .int .i64 b ∧ 0 ≤ a ∧ a < 2 * 10 ^ k ∧ 0 ≤ b ∧ b < y ∧ Hid (a * y + b = n * 10 ^ k)) (fun _ _ i => 9 - (intOf i).toNat)
  case atStart => exact ⟨0, q, r, by omega, rfl, rfl, rfl, q0, by simp; omega, m0, m1, E0⟩
  case round =>
    clear q0 q1 m0 m1 E0
    obtain ⟨k, a, b, hk, rfl, rfl, rfl, a0, a1, b0, b1, HI⟩ := hrel
    have hk1 : (k : Int) ≤ 9 := by omega
    rcases (by omega : k < 9 ∨ k = 9) with hlt | rfl
    · have hlt1 : (k : Int) < 9 := by omega
      obtain ⟨g1, g2, g3, g4, g5⟩ := long_step (i := k) hy ⟨b0, b1⟩ HI.out
      have hp : (2 : Int) * 10 ^ k ≤ 2000000000 := by
        rcases (by omega : k = 0 ∨ k = 1 ∨ k = 2 ∨ k = 3 ∨ k = 4 ∨ k = 5 ∨ k = 6 ∨ k = 7 ∨ k = 8) with rfl | rfl | rfl | rfl | rfl | rfl | rfl | rfl | rfl <;> decide
      have a2 : a ≤ 2000000000 := by omega
      have a3 : a * 10 + b * 10 / y < 2 * 10 ^ (k + 1) := by rw [Int.pow_succ]; omega
      have HI2 := Lib.hid g1
      have HA3 := Lib.hid a3
      clear g1 hp a1 a3 HI
      generalize hcc : b * 10 / y = c at *
      generalize hdd : b * 10 % y = d at *
      go_wp2
      go_round
      case rel => exact ⟨k + 1, a * 10 + c, d, by omega, by go_num, by first | rfl | rw [hcc], by first | rfl | rw [hdd], by omega, HA3.out, g2, g3, HI2⟩
      case measure => simp [intOf]; omega
    · have H := Lib.hid (HE.out a b ⟨b0, b1⟩ HI.out)
      clear a1
      go_wp2
      go_ret
      exact ⟨ret_int H.out, below_drewN _ _ _⟩
set_option maxRecDepth 100000 in
set_option maxHeartbeats 1000000 in
theorem exact_any (n y : Int) (w : World) (hn : 0 ≤ n) (hy : 1 ≤ y) (hy1 : y ≤ 17592186044416) (hn1 : n ≤ 17592186044416) :
    Calls Try.prog 47 #[.int .i64 n, .int .i64 y] w fun e w' => e = .returned (.bool (n * 1000000000 % y == 0)) ∧ w = w' := by
  have hyz : (y == 0) = false := by simp; omega
  have hyz' : ¬ y = 0 := by omega
  have m0 := Int.emod_nonneg n hyz'
  have m1 := Int.emod_lt_of_pos n (show 0 < y by omega)
  have E0 : Hid (n % y = n * 10 ^ 0 % y) := Lib.hid (by simp)
  generalize hrr : n % y = r at *
  go_enter Try.func47, Try.ntmps47
  go_wp2_with fail
  go_loop [5, 6] (fun u i => ∃ (k : Nat) (b : Int), k ≤ 9 ∧ i = .int .i64 k ∧ u = .int .i64 b ∧ 0 ≤ b ∧ b < y ∧ Hid (b = n * 10 ^ k % y)) (fun _ i => 9 - (intOf i).toNat)
  case atStart => exact ⟨0, r, by omega, rfl, by first | rfl | rw [hrr], m0, m1, E0⟩
  case round =>
    clear m0 m1 E0
    obtain ⟨k, b, hk, rfl, rfl, b0, b1, HI⟩ := hrel
    have hk1 : (k : Int) ≤ 9 := by omega
    rcases (by omega : k < 9 ∨ k = 9) with hlt | rfl
    · have hlt1 : (k : Int) < 9 := by omega
      have g2 := Int.emod_nonneg (b * 10) hyz'
      have g3 := Int.emod_lt_of_pos (b * 10) (show 0 < y by omega)
      have HI2 : Hid (b * 10 % y = n * 10 ^ (k + 1) % y) := Lib.hid (by rw [HI.out, Int.pow_succ, ← Int.mul_assoc, Int.mul_emod, Int.emod_emod_of_dvd _ (Int.dvd_refl y), ← Int.mul_emod])
      clear HI
      generalize hdd : b * 10 % y = d at *
      go_wp2
      go_round
      case rel => exact ⟨k + 1, d, by omega, by go_num, by first | rfl | rw [hdd], g2, g3, HI2⟩
      case measure => simp [intOf]; omega
    · have H : Hid (b = n * 1000000000 % y) := Lib.hid HI.out
      clear HI
      go_wp2
      go_ret
      exact ⟨ret_bool (by rw [H.out]), rfl⟩
theorem floor_neg {m y : Int} (hy : 0 < y) : (-m) / y = if m % y == 0 then -(m / y) else -(m / y) - 1 := by
  have e := Int.mul_ediv_add_emod m y
  have m0 := Int.emod_nonneg m (show y ≠ 0 by omega)
  have m1 := Int.emod_lt_of_pos m hy
  rw [Int.mul_comm] at e
  split
  · rename_i h
    have h' : m % y = 0 := by simpa using h
    exact ediv_eq hy (by rw [Int.neg_mul]; omega) (by rw [Int.add_mul, Int.neg_mul]; omega)
  · rename_i h
    have h' : m % y ≠ 0 := by simpa using h
    exact ediv_eq hy (by rw [Int.sub_mul, Int.neg_mul]; omega) (by rw [Int.add_mul, Int.sub_mul, Int.neg_mul]; omega)
set_option maxRecDepth 100000 in
set_option maxHeartbeats 1000000 in
theorem long_any (n y : Int) (w : World) (hy : 1 ≤ y) (h1 : -y ≤ n) (h2 : n ≤ y) (hy1 : y ≤ 17592186044416) :
    Calls Try.prog 33 #[.int .i64 n, .int .i64 y] w fun e w' => e = .returned (.int .i64 (n * 1000000000 / y)) ∧ Below w.heap.size w w' := by
  by_cases hn : 0 ≤ n
  · exact long_pos n y w hn hy h2 hy1
  · have HL := Lib.hid fun w => long_pos (-n) y w (by omega) hy (by omega) hy1
    have HX := Lib.hid fun w => exact_any (-n) y w (by omega) hy hy1 (by omega)
    have HF := floor_neg (m := -n * 1000000000) (y := y) (by omega)
    have hb : 0 ≤ -n * 1000000000 / y ∧ -n * 1000000000 / y ≤ 1000000000 := by
      refine ⟨Int.ediv_nonneg (by omega) (by omega), Int.ediv_le_of_le_mul (by omega) ?_⟩
      rw [Int.mul_comm]
      exact Int.mul_le_mul_of_nonneg_left (by omega) (by omega)
    rw [show -(-n * 1000000000) = n * 1000000000 by omega] at HF
    obtain ⟨hb0, hb1⟩ := hb
    generalize -n * 1000000000 / y = u at *
    have hn' : n < 0 := by omega
    cases hx : (-n * 1000000000 % y == 0)
    · rw [hx] at HX HF
      have HV : Hid (-u - 1 = n * 1000000000 / y) := Lib.hid (by rw [HF]; rfl)
      clear HF hx
      go_enter Try.func33, Try.ntmps33
      go_wp2_with fail
      refine (HL.out _).mono ?_
      rintro e w1 ⟨rfl, hb1⟩
      go_wp2_with fail
      refine (HX.out _).mono ?_
      rintro e w2 ⟨rfl, rfl⟩
      go_wp2
      go_ret
      exact ⟨ret_int HV.out, hb1⟩
    · rw [hx] at HX HF
      have HV : Hid (-u = n * 1000000000 / y) := Lib.hid (by rw [HF]; rfl)
      clear HF hx
      go_enter Try.func33, Try.ntmps33
      go_wp2_with fail
      refine (HL.out _).mono ?_
      rintro e w1 ⟨rfl, hb1⟩
      go_wp2_with fail
      refine (HX.out _).mono ?_
      rintro e w2 ⟨rfl, rfl⟩
      go_wp2
      go_ret
      exact ⟨ret_int HV.out, hb1⟩
end Go.Proofs.Ytelpjmmkaakceaa
