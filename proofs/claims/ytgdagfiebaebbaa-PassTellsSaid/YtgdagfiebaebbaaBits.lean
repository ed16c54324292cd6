/- math/bits: LeadingZeros64, Mul64, Div64: what they compute. -/
import Derived.Test.YtgdagfiebaebbaaProg
import Derived.WalkKit
import Derived.WalkSpells
import Derived.WalkLawsBesides
import Derived.Lib.Hide
import Derived.Laws.MathBits
import Derived.Deep.DeepCutAuto
import Derived.BigQuiet
import Derived.Deep.CutBlock
import Derived.Deep.QuietTactic
import Derived.Lib.Walk
import Derived.Lib.BitFns
import Derived.Lib.Strings
import Derived.Lib.Slices
import Derived.Lib.Small
import Derived.Test.YtgdagfiebaebbaaBase
import Derived.Test.YtgdagfiebaebbaaDivMath
import Derived.Test.YtgdagfiebaebbaaLen
namespace Go.Proofs.Ytgdagfiebaebbaa
open Go.RowKit
theorem mul64_fin (x y : Int) (hx0 : 0 ≤ x) (hx : x ≤ 18446744073709551615) (hy0 : 0 ≤ y) (hy : y ≤ 18446744073709551615) :
    IntKind.u64.wrap (IntKind.u64.wrap (IntKind.u64.wrap (x / 4294967296 * (y / 4294967296)) + IntKind.u64.wrap (IntKind.u64.wrap (x / 4294967296 * bits BinOp.and IntKind.u64 y 4294967295) + IntKind.u64.wrap (bits BinOp.and IntKind.u64 x 4294967295 * bits BinOp.and IntKind.u64 y 4294967295) / 4294967296) / 4294967296) +
      IntKind.u64.wrap (bits BinOp.and IntKind.u64 (IntKind.u64.wrap (IntKind.u64.wrap (x / 4294967296 * bits BinOp.and IntKind.u64 y 4294967295) + IntKind.u64.wrap (bits BinOp.and IntKind.u64 x 4294967295 * bits BinOp.and IntKind.u64 y 4294967295) / 4294967296)) 4294967295 + IntKind.u64.wrap (bits BinOp.and IntKind.u64 x 4294967295 * (y / 4294967296))) / 4294967296) = x * y / 18446744073709551616 := by
  rw [and_low32 x hx0 (by omega), and_low32 y hy0 (by omega)]
  simp only [IntKind.wrap_u64]
  rw [and_low32 _ (by omega) (by omega)]
  exact mul64_arith x y hx0 (by omega) hy0 (by omega)
set_option maxHeartbeats 400000 in
theorem mul64_any (x y : Int) (w : World) (hx0 : 0 ≤ x) (hx : x ≤ 18446744073709551615) (hy0 : 0 ≤ y) (hy : y ≤ 18446744073709551615) :
    Calls Try.prog 64 #[.int .u64 x, .int .u64 y] w fun e w' => e = .returned (.tuple #[.int .u64 (x * y / 18446744073709551616), .int .u64 (x * y % 18446744073709551616)]) ∧ w = w' := by
  have H1 := Lib.hid (mul64_fin x y hx0 hx hy0 hy)
  have H2 : Hid (IntKind.u64.wrap (x * y) = x * y % 18446744073709551616) := Lib.hid (IntKind.wrap_u64 _)
  go_enter Try.func64, Try.ntmps64
  go_wp2
  go_ret2
  exact ⟨ret_int2 H1.out H2.out, rfl⟩
def Lead (y : Int) (e : Ending) : Prop := ∃ s : Nat, e = .returned (.int .i64 s) ∧ s ≤ 63 ∧ 9223372036854775808 ≤ y * 2 ^ s ∧ y * 2 ^ s < 18446744073709551616
theorem lead_mk (y : Int) (h0 : 1 ≤ y) (h1 : y ≤ 18446744073709551615) : Lib.bitLen y.toNat ≤ 64 ∧ Lead y (.returned (.int .i64 (64 - (Lib.bitLen y.toNat : Int)))) := by
  obtain ⟨a, b, c, d⟩ := DivMath.lead y.toNat (by omega) (by omega)
  have e : (y.toNat : Int) = y := by omega
  have hc : ((y.toNat * 2 ^ (64 - Lib.bitLen y.toNat) : Nat) : Int) = y * 2 ^ (64 - Lib.bitLen y.toNat) := by rw [Int.natCast_mul, e, Int.natCast_pow]; rfl
  refine ⟨a, 64 - Lib.bitLen y.toNat, ret_int (by omega), by omega, ?_, ?_⟩
  · rw [← hc]; omega
  · rw [← hc]; omega
set_option maxHeartbeats 400000 in
theorem lead_any (y : Int) (w : World) (h0 : 1 ≤ y) (h1 : y ≤ 18446744073709551615) :
    Calls Try.prog 78 #[.int .u64 y] w fun e w' => Lead y e ∧ w = w' := by
  obtain ⟨hb, HL⟩ := lead_mk y h0 h1
  have hb0 : 0 ≤ (Lib.bitLen y.toNat : Int) := by omega
  have hb1 : (Lib.bitLen y.toNat : Int) ≤ 64 := by omega
  have C := len64_any y w (by omega) h1
  generalize (Lib.bitLen y.toNat : Int) = n at *
  go_enter Try.func78, Try.ntmps78
  go_wp2_with (go_at_call 81; refine C.mono ?_; rintro e w' ⟨rfl, rfl⟩)
  go_ret
  exact ⟨HL, rfl⟩
theorem or_up (h l : Int) (s : Nat) (hs : s ≤ 63) (h0 : 0 ≤ h) (h1 : h * 2 ^ s < 18446744073709551616) (l0 : 0 ≤ l) (l1 : l < 2 ^ s) :
    bits BinOp.or IntKind.u64 (h * 2 ^ s) l = h * 2 ^ s + l := by
  obtain ⟨a, rfl⟩ := Int.eq_ofNat_of_zero_le h0
  obtain ⟨b, rfl⟩ := Int.eq_ofNat_of_zero_le l0
  have e : ((a : Int) * 2 ^ s) = ((a * 2 ^ s : Nat) : Int) := by rw [Int.natCast_mul, Int.natCast_pow]; rfl
  have l2 : b < 2 ^ s := by
    have : ((2 ^ s : Nat) : Int) = 2 ^ s := by rw [Int.natCast_pow]; rfl
    omega
  have p64 : 2 ^ s ≤ 2 ^ 63 := Nat.pow_le_pow_right (by omega) hs
  rw [e] at h1 ⊢
  rw [u64_or_nat _ _ (by omega) (by omega)]
  have : a * 2 ^ s ||| b = a * 2 ^ s + b := by
    rw [Nat.mul_comm, Nat.two_pow_add_eq_or_of_lt l2]
  rw [this]; omega
set_option maxHeartbeats 1000000 in
set_option maxRecDepth 100000 in
theorem div64_hi (hi lo y : Int) (w : World) (hh0 : 1 ≤ hi) (hh : hi < y) (hl0 : 0 ≤ lo) (hl : lo ≤ 18446744073709551615) (hy : y ≤ 18446744073709551615) :
    Calls Try.prog 66 #[.int .u64 hi, .int .u64 lo, .int .u64 y] w fun e w' => e = .returned (.tuple #[.int .u64 ((hi * 18446744073709551616 + lo) / y), .int .u64 ((hi * 18446744073709551616 + lo) % y)]) ∧ w = w' := by
  have C := lead_any y w (by omega) hy
  go_enter Try.func66, Try.ntmps66
  go_wp2_with fail
  refine C.mono ?_
  rintro e w' ⟨⟨s, rfl, hs, ha, hb⟩, rfl⟩
  clear C
  obtain ⟨pN, p0, p1⟩ := DivMath.parts hi lo s hs hl0 (by omega)
  have hp : (0 : Int) < 2 ^ s := Int.pow_pos (by omega)
  have hup : hi * 2 ^ s + 2 ^ s ≤ y * 2 ^ s := by
    have := Int.mul_le_mul_of_nonneg_right (show hi + 1 ≤ y by omega) (Int.le_of_lt hp)
    rwa [Int.add_mul, Int.one_mul] at this
  have hhp : 0 ≤ hi * 2 ^ s := Int.mul_nonneg (by omega) (by omega)
  have eOr := or_up hi (lo / 2 ^ (64 - s)) s hs (by omega) (by omega) p0 p1
  have eL : IntKind.u64.wrap (lo * 2 ^ s) = lo * 2 ^ s % 18446744073709551616 := IntKind.wrap_u64 _
  have e1 : IntKind.u64.wrap (hi * 2 ^ s) = hi * 2 ^ s := IntWalk.u64_in _ (by omega)
  obtain ⟨l, hll⟩ : ∃ l, lo * 2 ^ s % 18446744073709551616 = l := ⟨_, rfl⟩
  have eb : bits BinOp.and IntKind.u64 l 4294967295 = l % 4294967296 := and_low32 l (by omega) (by omega)
  have ey0 : bits BinOp.and IntKind.u64 (y * 2 ^ s) 4294967295 = y * 2 ^ s % 4294967296 := and_low32 _ (by omega) (by omega)
  obtain ⟨v, hv⟩ : ∃ v, y * 2 ^ s = v := ⟨_, rfl⟩
  obtain ⟨u, hu⟩ : ∃ u, hi * 2 ^ s + lo / 2 ^ (64 - s) = u := ⟨_, rfl⟩
  obtain ⟨y1, hy1⟩ : ∃ y1, v / 4294967296 = y1 := ⟨_, rfl⟩
  obtain ⟨y0, hy0⟩ : ∃ y0, v % 4294967296 = y0 := ⟨_, rfl⟩
  obtain ⟨a, hla⟩ : ∃ a, l / 4294967296 = a := ⟨_, rfl⟩
  obtain ⟨b, hlb⟩ : ∃ b, l % 4294967296 = b := ⟨_, rfl⟩
  rw [hll, hla, hlb, hu] at pN
  rw [hu] at eOr
  rw [hll] at eL
  rw [hlb] at eb
  rw [hv] at ha hb hup ey0
  rw [hy0] at ey0
  have D : DivMath.Dom u y1 y0 v a := ⟨by omega, by omega, by omega, by omega, by omega, by omega, by omega, by omega, by omega⟩
  have hu0 := D.u0
  have huv := D.uv
  have hy1a := D.y1a
  have hy1b := D.y1b
  have hy0a := D.y0a
  have hy0b := D.y0b
  have ha0 := D.d0
  have ha1 := D.d1
  have hb0 : 0 ≤ b := by omega
  have hb1 : b < 4294967296 := by omega
  have I0 := D.start
  obtain ⟨q0, hq0⟩ : ∃ q, u / y1 = q := ⟨_, rfl⟩
  rw [hq0] at I0
  have hq0a := I0.q0
  have hq0b := I0.q1
  have hr0a := I0.r0
  have hr0b := I0.r1
  have emul : 0 ≤ q0 * y1 ∧ q0 * y1 ≤ 18446744073709551615 := ⟨Int.mul_nonneg hq0a (by omega), by omega⟩
  obtain ⟨r0, hr0⟩ : ∃ r, u - q0 * y1 = r := ⟨_, rfl⟩
  rw [hr0] at I0 hr0a hr0b
  have HI0 := Lib.hid I0
  have HD := Lib.hid D
  have HN := Lib.hid (And.intro pN hv)
  clear I0 D pN hup hhp p0 hp hu
  go_upto_block 0 with (fail)
  clear eOr e1 eL eb ey0 p1 hll hv hy1 hy0 hla hlb hr0 emul
  go_cut [15, 16] (fun s15 s16 w' => w = w' ∧ ∃ q r : Int, s15 = .int .u64 q ∧ s16 = .int .u64 r ∧ 0 ≤ q ∧ q < 4294967296 ∧ Hid (q = (u * 4294967296 + a) / v))
  case first =>
    go_wp2_with fail
    go_loop [15, 16] (fun s15 s16 => ∃ q r : Int, s15 = .int .u64 q ∧ s16 = .int .u64 r ∧ Hid (DivMath.Inv u y1 v a q r)) (fun s15 _ => (intOf s15).toNat)
    case atStart => exact ⟨q0, r0, by rw [hq0], rfl, HI0⟩
    case round =>
      clear hq0 HI0 hq0a hq0b hr0a hr0b
      obtain ⟨q, r, rfl, rfl, HI⟩ := hrel
      have i1 := HI.out.q0
      have i2 := HI.out.q1
      have i3 := HI.out.r0
      have i4 := HI.out.r1
      have hdn := HD.out.nonneg
      have hdl := HD.out.lt
      have HB := Lib.hid (And.intro hdn hdl)
      clear hdn hdl
      by_cases h1 : 4294967296 ≤ q
      · have S := HI.out.step HD.out (Or.inl h1)
        have i5 := S.1
        clear S
        by_cases h3 : r + y1 < 4294967296
        · have HX := Lib.hid (HI.out.next HD.out (Or.inl h1) h3)
          go_wp2
          go_round
          case rel => exact ⟨q - 1, r + y1, rfl, rfl, HX⟩
          case measure => simp [intOf]; omega
        · have HX := Lib.hid (HI.out.broke HD.out (Or.inl h1) (by omega))
          go_wp2
          go_meet
          exact ⟨rfl, q - 1, r + y1, rfl, rfl, by have := HX.out; have := HB.out; omega, by have := HX.out; have := HB.out; omega, HX⟩
      · have hm := prod_bound q y0 i1 (by omega) hy0a (by omega)
        have hm0 := hm.1
        have hm1 := hm.2
        clear hm
        by_cases h2 : 4294967296 * r + a < q * y0
        · have S := HI.out.step HD.out (Or.inr h2)
          have i5 := S.1
          clear S
          by_cases h3 : r + y1 < 4294967296
          · have HX := Lib.hid (HI.out.next HD.out (Or.inr h2) h3)
            go_wp2
            go_round
            case rel => exact ⟨q - 1, r + y1, rfl, rfl, HX⟩
            case measure => simp [intOf]; omega
          · have HX := Lib.hid (HI.out.broke HD.out (Or.inr h2) (by omega))
            go_wp2
            go_meet
            exact ⟨rfl, q - 1, r + y1, rfl, rfl, by have := HX.out; have := HB.out; omega, by have := HX.out; have := HB.out; omega, HX⟩
        · have HX := Lib.hid (HI.out.done HD.out h2)
          go_wp2
          go_meet
          exact ⟨rfl, q, r, rfl, rfl, by omega, by omega, HX⟩
  case rest =>
    clear hq0 HI0 hq0a hq0b hr0a hr0b
    obtain ⟨rfl, q, r, rfl, rfl, hqa, hqb, HQ⟩ := hcut
    have hR := HD.out.rest
    rw [← HQ.out] at hR
    obtain ⟨u2, hu2⟩ : ∃ u2, u * 4294967296 + a - q * v = u2 := ⟨_, rfl⟩
    rw [hu2] at hR
    have e2 : IntKind.u64.wrap (IntKind.u64.wrap (IntKind.u64.wrap (u * 4294967296) + a) - IntKind.u64.wrap (q * v)) = u2 := by
      simp only [IntKind.wrap_u64]; omega
    have D2 : DivMath.Dom u2 y1 y0 v b := ⟨by omega, by omega, by omega, by omega, HD.out.ev, hR.1, hR.2, hb0, hb1⟩
    have hu20 := hR.1
    have hu21 := hR.2
    have I0 := D2.start
    obtain ⟨t0, ht0⟩ : ∃ q, u2 / y1 = q := ⟨_, rfl⟩
    rw [ht0] at I0
    have hq0a := I0.q0
    have hq0b := I0.q1
    have hr0a := I0.r0
    have hr0b := I0.r1
    have emul : 0 ≤ t0 * y1 ∧ t0 * y1 ≤ 18446744073709551615 := ⟨Int.mul_nonneg hq0a (by omega), by omega⟩
    obtain ⟨k0, hk0⟩ : ∃ r, u2 - t0 * y1 = r := ⟨_, rfl⟩
    rw [hk0] at I0 hr0a hr0b
    have HI0 := Lib.hid I0
    have HD2 := Lib.hid D2
    have HU2 := Lib.hid hu2
    clear I0 D2 hR hu2
    go_upto_block 2 with (fail)
    clear e2 emul hk0
    go_cut [18, 16] (fun s18 s16 w' => w = w' ∧ ∃ q r : Int, s18 = .int .u64 q ∧ s16 = .int .u64 r ∧ 0 ≤ q ∧ q < 4294967296 ∧ Hid (q = (u2 * 4294967296 + b) / v))
    case first =>
      go_wp2_with fail
      go_loop [18, 16] (fun s15 s16 => ∃ q r : Int, s15 = .int .u64 q ∧ s16 = .int .u64 r ∧ Hid (DivMath.Inv u2 y1 v b q r)) (fun s15 _ => (intOf s15).toNat)
      case atStart => exact ⟨t0, k0, by rw [ht0], rfl, HI0⟩
      case round =>
        clear ht0 HI0 hq0a hq0b hr0a hr0b
        obtain ⟨t, r, rfl, rfl, HI⟩ := hrel
        have i1 := HI.out.q0
        have i2 := HI.out.q1
        have i3 := HI.out.r0
        have i4 := HI.out.r1
        have hdn := HD2.out.nonneg
        have hdl := HD2.out.lt
        have HB := Lib.hid (And.intro hdn hdl)
        clear hdn hdl
        by_cases h1 : 4294967296 ≤ t
        · have S := HI.out.step HD2.out (Or.inl h1)
          have i5 := S.1
          clear S
          by_cases h3 : r + y1 < 4294967296
          · have HX := Lib.hid (HI.out.next HD2.out (Or.inl h1) h3)
            go_wp2
            go_round
            case rel => exact ⟨t - 1, r + y1, rfl, rfl, HX⟩
            case measure => simp [intOf]; omega
          · have HX := Lib.hid (HI.out.broke HD2.out (Or.inl h1) (by omega))
            go_wp2
            go_meet
            exact ⟨rfl, t - 1, r + y1, rfl, rfl, by have := HX.out; have := HB.out; omega, by have := HX.out; have := HB.out; omega, HX⟩
        · have hm := prod_bound t y0 i1 (by omega) hy0a (by omega)
          have hm0 := hm.1
          have hm1 := hm.2
          clear hm
          by_cases h2 : 4294967296 * r + b < t * y0
          · have S := HI.out.step HD2.out (Or.inr h2)
            have i5 := S.1
            clear S
            by_cases h3 : r + y1 < 4294967296
            · have HX := Lib.hid (HI.out.next HD2.out (Or.inr h2) h3)
              go_wp2
              go_round
              case rel => exact ⟨t - 1, r + y1, rfl, rfl, HX⟩
              case measure => simp [intOf]; omega
            · have HX := Lib.hid (HI.out.broke HD2.out (Or.inr h2) (by omega))
              go_wp2
              go_meet
              exact ⟨rfl, t - 1, r + y1, rfl, rfl, by have := HX.out; have := HB.out; omega, by have := HX.out; have := HB.out; omega, HX⟩
          · have HX := Lib.hid (HI.out.done HD2.out h2)
            go_wp2
            go_meet
            exact ⟨rfl, t, r, rfl, rfl, by omega, by omega, HX⟩
    case rest =>
      clear ht0 HI0 hq0a hq0b hr0a hr0b
      obtain ⟨rfl, t, r, rfl, rfl, hta, htb, HT⟩ := hcut
      have F : Hid (q * 4294967296 + t = (hi * 18446744073709551616 + lo) / y ∧ (IntKind.u64.wrap (IntKind.u64.wrap (IntKind.u64.wrap (u2 * 4294967296) + b) - IntKind.u64.wrap (t * v))) / 2 ^ s = (hi * 18446744073709551616 + lo) % y) := by
        obtain ⟨n1, n2⟩ := HN.out
        have hp : (0 : Int) < 2 ^ s := Int.pow_pos (by omega)
        have hR := HD2.out.rest
        rw [← HT.out] at hR
        have e3 : IntKind.u64.wrap (IntKind.u64.wrap (IntKind.u64.wrap (u2 * 4294967296) + b) - IntKind.u64.wrap (t * v)) = u2 * 4294967296 + b - t * v := by
          simp only [IntKind.wrap_u64]; omega
        have B := DivMath.both (hi * 18446744073709551616 + lo) y (2 ^ s) u a b v q t (by omega) hp n2.symm n1 (by rw [HU2.out]; exact HT.out)
        rw [e3]
        rw [HU2.out] at B
        exact B
      go_wp2
      go_ret2
      exact ⟨ret_int2 F.out.1 F.out.2, rfl⟩
set_option maxHeartbeats 400000 in
theorem div64_lo (lo y : Int) (w : World) (hy0 : 1 ≤ y) (hl0 : 0 ≤ lo) (hl : lo ≤ 18446744073709551615) (hy : y ≤ 18446744073709551615) :
    Calls Try.prog 66 #[.int .u64 0, .int .u64 lo, .int .u64 y] w fun e w' => e = .returned (.tuple #[.int .u64 (lo / y), .int .u64 (lo % y)]) ∧ ∃ n, w' = w.drewN n := by
  have h1 : (y == 0) = false := by rw [beq_eq_false_iff_ne]; omega
  have h2 := Int.emod_nonneg lo (show y ≠ 0 by omega)
  have h3 := Int.emod_lt_of_pos lo (show 0 < y by omega)
  go_enter Try.func66, Try.ntmps66
  go_wp2_with fail
  go_quiet (fail)
  go_wp2
  go_ret2
  exact ⟨rfl, _, rfl⟩
theorem div64_any (hi lo y : Int) (w : World) (hh0 : 0 ≤ hi) (hh : hi < y) (hl0 : 0 ≤ lo) (hl : lo ≤ 18446744073709551615) (hy : y ≤ 18446744073709551615) :
    Calls Try.prog 66 #[.int .u64 hi, .int .u64 lo, .int .u64 y] w fun e w' => e = .returned (.tuple #[.int .u64 ((hi * 18446744073709551616 + lo) / y), .int .u64 ((hi * 18446744073709551616 + lo) % y)]) ∧ ∃ n, w' = w.drewN n := by
  rcases Int.lt_or_le 0 hi with h | h
  · exact (div64_hi hi lo y w (by omega) hh hl0 hl hy).mono fun e w' ⟨he, hw⟩ => ⟨he, 0, by rw [← hw]; rfl⟩
  · obtain rfl : hi = 0 := by omega
    simpa using div64_lo lo y w (by omega) hl0 hl hy
end Go.Proofs.Ytgdagfiebaebbaa
