/- Plain arithmetic for the division of a number of 128 bits by one of 64 bits (two digits of 32 bits). No program in sight. -/
import Derived.Lib.BitFns
namespace Go.Proofs.Ytgdagfiebaebbaa.DivMath

/-! ### the number of bits -/
theorem aux_lt : ∀ (f x : Nat), x < 2 ^ f → x < 2 ^ Lib.bitLenAux f x
  | 0, x, h => by simpa [Lib.bitLenAux] using h
  | f + 1, x, h => by
    simp only [Lib.bitLenAux]
    split
    · subst_vars; simp
    · have := aux_lt f (x / 2) (by rw [Nat.pow_succ] at h; omega)
      rw [Nat.add_comm, Nat.pow_succ]; omega
theorem aux_ge : ∀ (f x : Nat), x ≠ 0 → 2 ^ Lib.bitLenAux f x ≤ 2 * x
  | 0, x, h => by simp [Lib.bitLenAux]; omega
  | f + 1, x, h => by
    simp only [Lib.bitLenAux, h, if_false]
    rw [Nat.add_comm, Nat.pow_succ]
    by_cases h2 : x / 2 = 0
    · rw [h2]
      have : Lib.bitLenAux f 0 = 0 := by cases f <;> simp [Lib.bitLenAux]
      rw [this]; omega
    · have := aux_ge f (x / 2) h2; omega
/-- What LeadingZeros64 counts: so many places a number is moved till its highest bit stands at the top. -/
theorem lead (x : Nat) (h0 : x ≠ 0) (h : x < 18446744073709551616) :
    Lib.bitLen x ≤ 64 ∧ 1 ≤ Lib.bitLen x ∧ 9223372036854775808 ≤ x * 2 ^ (64 - Lib.bitLen x) ∧ x * 2 ^ (64 - Lib.bitLen x) < 18446744073709551616 := by
  have h1 := Lib.bitLen_le x 64 (by omega) (by simpa using h)
  have h2 := aux_lt 64 x (by simpa using h)
  have h3 := aux_ge 64 x h0
  change x < 2 ^ Lib.bitLen x at h2
  change 2 ^ Lib.bitLen x ≤ 2 * x at h3
  generalize Lib.bitLen x = n at *
  have h4 : 1 ≤ n := by
    rcases Nat.eq_zero_or_pos n with e | e
    · subst e; simp at h2; omega
    · exact e
  have e : 2 ^ n * 2 ^ (64 - n) = 18446744073709551616 := by rw [← Nat.pow_add, show n + (64 - n) = 64 by omega]
  have hp : 0 < 2 ^ (64 - n) := Nat.two_pow_pos _
  refine ⟨h1, h4, ?_, ?_⟩
  · have := Nat.mul_le_mul_right (2 ^ (64 - n)) h3
    rw [e, Nat.mul_assoc] at this
    omega
  · have := (Nat.mul_lt_mul_right hp).2 h2
    rw [e] at this
    exact this

/-! ### one digit -/
/-- What stands at the head of a round: u = q * y1 + r, and q is not below the true digit. -/
structure Inv (u y1 v d q r : Int) : Prop where
  eq : u = q * y1 + r
  q0 : 0 ≤ q
  q1 : q ≤ 8589934592
  r0 : 0 ≤ r
  r1 : r < 4294967296
  ge : (u * 4294967296 + d) / v ≤ q
/-- The numbers of the digit: v = y1 * 2^32 + y0, u below v, d a digit. -/
structure Dom (u y1 y0 v d : Int) : Prop where
  y1a : 2147483648 ≤ y1
  y1b : y1 < 4294967296
  y0a : 0 ≤ y0
  y0b : y0 < 4294967296
  ev : v = y1 * 4294967296 + y0
  u0 : 0 ≤ u
  uv : u < v
  d0 : 0 ≤ d
  d1 : d < 4294967296

theorem Dom.vb {u y1 y0 v d : Int} (D : Dom u y1 y0 v d) : 9223372036854775808 ≤ v ∧ v < 18446744073709551616 := by
  have := D.ev; have := D.y1a; have := D.y1b; have := D.y0a; have := D.y0b; omega
theorem Dom.lt {u y1 y0 v d : Int} (D : Dom u y1 y0 v d) : (u * 4294967296 + d) / v < 4294967296 := by
  have hb := D.vb
  refine Int.ediv_lt_of_lt_mul (by omega) ?_
  have := D.uv; have := D.d1
  omega
theorem Dom.nonneg {u y1 y0 v d : Int} (D : Dom u y1 y0 v d) : 0 ≤ (u * 4294967296 + d) / v := by
  have hb := D.vb; have := D.u0; have := D.d0
  exact Int.ediv_nonneg (by omega) (by omega)
theorem Dom.start {u y1 y0 v d : Int} (D : Dom u y1 y0 v d) : Inv u y1 v d (u / y1) (u - u / y1 * y1) := by
  have hb := D.vb; have h1 := D.y1a; have h2 := D.y1b; have h3 := D.u0; have h4 := D.uv; have hv := D.ev; have hy0 := D.y0a; have hy1 := D.y0b; have hd := D.d1; have hd0 := D.d0
  have e := Int.mul_ediv_add_emod u y1
  have m0 := Int.emod_nonneg u (show y1 ≠ 0 by omega)
  have m1 := Int.emod_lt_of_pos u (show 0 < y1 by omega)
  have ec : u / y1 * y1 = y1 * (u / y1) := Int.mul_comm _ _
  refine ⟨by omega, Int.ediv_nonneg h3 (by omega), ?_, by omega, by omega, ?_⟩
  · have : u / y1 < 8589934593 := Int.ediv_lt_of_lt_mul (by omega) (by omega)
    omega
  · refine Int.le_of_lt_add_one (Int.ediv_lt_of_lt_mul (by omega) ?_)
    have k : (u / y1 + 1) * y1 = u / y1 * y1 + y1 := by rw [Int.add_mul, Int.one_mul]
    have k2 : (u / y1 + 1) * v = (u / y1 + 1) * y1 * 4294967296 + (u / y1 + 1) * y0 := by rw [hv, Int.mul_add, Int.mul_assoc]
    have k3 : 0 ≤ (u / y1 + 1) * y0 := Int.mul_nonneg (by have := Int.ediv_nonneg h3 (show 0 ≤ y1 by omega); omega) hy0
    rw [k2, k]
    omega
/-- A round that lowers q. -/
theorem Inv.step {u y1 y0 v d q r : Int} (D : Dom u y1 y0 v d) (I : Inv u y1 v d q r) (h : 4294967296 ≤ q ∨ 4294967296 * r + d < q * y0) :
    1 ≤ q ∧ (u * 4294967296 + d) / v ≤ q - 1 ∧ u = (q - 1) * y1 + (r + y1) := by
  have hb := D.vb; have hv := D.ev; have e := I.eq; have q0 := I.q0; have r0 := I.r0; have d0 := D.d0; have hlt := D.lt
  have hq : 1 ≤ q := by
    rcases h with h | h
    · omega
    · rcases Int.le_iff_lt_or_eq.1 q0 with g | g
      · omega
      · subst g; simp at h; omega
  refine ⟨hq, ?_, ?_⟩
  · rcases h with h | h
    · omega
    · have : (u * 4294967296 + d) / v < q := by
        refine Int.ediv_lt_of_lt_mul (by omega) ?_
        have k2 : q * v = q * y1 * 4294967296 + q * y0 := by rw [hv, Int.mul_add, Int.mul_assoc]
        rw [k2]
        omega
      omega
  · have : (q - 1) * y1 = q * y1 - y1 := by rw [Int.sub_mul, Int.one_mul]
    omega
theorem Inv.next {u y1 y0 v d q r : Int} (D : Dom u y1 y0 v d) (I : Inv u y1 v d q r) (h : 4294967296 ≤ q ∨ 4294967296 * r + d < q * y0) (hr : r + y1 < 4294967296) : Inv u y1 v d (q - 1) (r + y1) := by
  obtain ⟨a, b, c⟩ := I.step D h
  have := I.q1; have := I.r0; have := D.y1a
  exact ⟨c, by omega, by omega, by omega, hr, b⟩
/-- The test fails: q is the digit. -/
theorem Inv.done {u y1 y0 v d q r : Int} (D : Dom u y1 y0 v d) (I : Inv u y1 v d q r) (h : ¬ (4294967296 * r + d < q * y0)) : q = (u * 4294967296 + d) / v := by
  have hb := D.vb; have hv := D.ev; have e := I.eq; have g := I.ge
  have : q ≤ (u * 4294967296 + d) / v := by
    refine (Int.le_ediv_iff_mul_le (by omega)).2 ?_
    have k2 : q * v = q * y1 * 4294967296 + q * y0 := by rw [hv, Int.mul_add, Int.mul_assoc]
    rw [k2]
    omega
  omega
/-- A lowered q whose r has 33 bits is the digit. -/
theorem Inv.broke {u y1 y0 v d q r : Int} (D : Dom u y1 y0 v d) (I : Inv u y1 v d q r) (h : 4294967296 ≤ q ∨ 4294967296 * r + d < q * y0) (hr : 4294967296 ≤ r + y1) : q - 1 = (u * 4294967296 + d) / v := by
  obtain ⟨a, b, c⟩ := I.step D h
  have hb := D.vb; have hv := D.ev; have h4 := D.uv; have h1 := D.y1a; have h5 := D.y0a; have h6 := D.y0b; have h7 := D.d0
  have lo : q - 1 < 4294967296 := by
    rcases Int.lt_or_le (q - 1) 4294967296 with g | g
    · exact g
    · have k : 4294967296 * y1 ≤ (q - 1) * y1 := Int.mul_le_mul_of_nonneg_right g (by omega)
      omega
  have : q - 1 ≤ (u * 4294967296 + d) / v := by
    refine (Int.le_ediv_iff_mul_le (by omega)).2 ?_
    have k2 : (q - 1) * v = (q - 1) * y1 * 4294967296 + (q - 1) * y0 := by rw [hv, Int.mul_add, Int.mul_assoc]
    have k3 : (q - 1) * y0 ≤ (q - 1) * 4294967296 := Int.mul_le_mul_of_nonneg_left (by omega) (by omega)
    rw [k2]
    omega
  omega
/-- The rest that the digit leaves. -/
theorem Dom.rest {u y1 y0 v d : Int} (D : Dom u y1 y0 v d) : 0 ≤ u * 4294967296 + d - (u * 4294967296 + d) / v * v ∧ u * 4294967296 + d - (u * 4294967296 + d) / v * v < v := by
  have hb := D.vb
  have e := Int.mul_ediv_add_emod (u * 4294967296 + d) v
  have m0 := Int.emod_nonneg (u * 4294967296 + d) (show v ≠ 0 by omega)
  have m1 := Int.emod_lt_of_pos (u * 4294967296 + d) (show 0 < v by omega)
  rw [Int.mul_comm] at e
  omega
/-- Both digits together: quotient and rest of the number itself. -/
theorem both (N y p u a b v t1 t0 : Int) (hy : 0 < y) (hp : 0 < p) (hv : v = y * p) (hN : (u * 4294967296 + a) * 4294967296 + b = N * p)
    (h0 : t0 = ((u * 4294967296 + a - t1 * v) * 4294967296 + b) / v) :
    t1 * 4294967296 + t0 = N / y ∧ ((u * 4294967296 + a - t1 * v) * 4294967296 + b - t0 * v) / p = N % y := by
  have hvp : 0 < v := by rw [hv]; exact Int.mul_pos hy hp
  have e := Int.mul_ediv_add_emod ((u * 4294967296 + a - t1 * v) * 4294967296 + b) v
  have m0 := Int.emod_nonneg ((u * 4294967296 + a - t1 * v) * 4294967296 + b) (show v ≠ 0 by omega)
  have m1 := Int.emod_lt_of_pos ((u * 4294967296 + a - t1 * v) * 4294967296 + b) hvp
  rw [← h0, Int.mul_comm] at e
  generalize hR : ((u * 4294967296 + a - t1 * v) * 4294967296 + b) % v = R at *
  have eR : (u * 4294967296 + a - t1 * v) * 4294967296 + b - t0 * v = R := by omega
  have eQ : N * p = (t1 * 4294967296 + t0) * v + R := by
    have k : (t1 * 4294967296 + t0) * v = t1 * v * 4294967296 + t0 * v := by rw [Int.add_mul, Int.mul_assoc, Int.mul_comm 4294967296 v, ← Int.mul_assoc]
    omega
  generalize t1 * 4294967296 + t0 = Q at *
  rw [eR]
  have eD : R = (N - Q * y) * p := by
    have : (N - Q * y) * p = N * p - Q * v := by rw [Int.sub_mul, hv, Int.mul_assoc]
    omega
  have g0 : 0 ≤ N - Q * y := by
    rcases Int.lt_or_le (N - Q * y) 0 with g | g
    · have := Int.mul_neg_of_neg_of_pos g hp; omega
    · exact g
  have g1 : N - Q * y < y := by
    rcases Int.lt_or_le (N - Q * y) y with g | g
    · exact g
    · have := Int.mul_le_mul_of_nonneg_right g (Int.le_of_lt hp); omega
  constructor
  · refine Int.le_antisymm ((Int.le_ediv_iff_mul_le hy).2 (by omega)) (Int.le_of_lt_add_one (Int.ediv_lt_of_lt_mul hy ?_))
    rw [Int.add_mul, Int.one_mul]; omega
  · rw [eD, Int.mul_ediv_cancel _ (by omega)]
    have e2 := Int.mul_ediv_add_emod N y
    have n0 := Int.emod_nonneg N (show y ≠ 0 by omega)
    have n1 := Int.emod_lt_of_pos N hy
    have eq : Q = N / y := by
      refine Int.le_antisymm ((Int.le_ediv_iff_mul_le hy).2 (by omega)) (Int.le_of_lt_add_one (Int.ediv_lt_of_lt_mul hy ?_))
      rw [Int.add_mul, Int.one_mul]; omega
    rw [← eq, Int.mul_comm] at e2
    omega
/-- The number, moved s places up, in three parts. -/
theorem parts (hi lo : Int) (s : Nat) (hs : s ≤ 63) (h0 : 0 ≤ lo) (h1 : lo < 18446744073709551616) :
    ((hi * 2 ^ s + lo / 2 ^ (64 - s)) * 4294967296 + lo * 2 ^ s % 18446744073709551616 / 4294967296) * 4294967296 + lo * 2 ^ s % 18446744073709551616 % 4294967296 = (hi * 18446744073709551616 + lo) * 2 ^ s
    ∧ 0 ≤ lo / 2 ^ (64 - s) ∧ lo / 2 ^ (64 - s) < 2 ^ s := by
  have hp : (0 : Int) < 2 ^ s := Int.pow_pos (by omega)
  have hq : (0 : Int) < 2 ^ (64 - s) := Int.pow_pos (by omega)
  have e : (2 : Int) ^ (64 - s) * 2 ^ s = 18446744073709551616 := by rw [← Int.pow_add, show 64 - s + s = 64 by omega]; rfl
  have ed : lo * 2 ^ s / 18446744073709551616 = lo / 2 ^ (64 - s) := by
    rw [← e, Int.mul_ediv_mul_of_pos_left _ _ hp]
  refine ⟨?_, Int.ediv_nonneg h0 (by omega), Int.ediv_lt_of_lt_mul hq (by rw [Int.mul_comm, e]; exact h1)⟩
  rw [Int.add_mul (hi * 18446744073709551616), ← ed]
  have : hi * 18446744073709551616 * 2 ^ s = hi * 2 ^ s * 18446744073709551616 := by rw [Int.mul_assoc, Int.mul_comm 18446744073709551616, ← Int.mul_assoc]
  rw [this]
  generalize hi * 2 ^ s = A at *
  generalize lo * 2 ^ s = B at *
  omega
end Go.Proofs.Ytgdagfiebaebbaa.DivMath
