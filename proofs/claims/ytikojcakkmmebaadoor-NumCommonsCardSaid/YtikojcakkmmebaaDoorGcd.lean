/- The package num: Gcd, and the library's TrailingZeros64, which reads its table. -/
import Derived.Test.YtikojcakkmmebaaDoorNum2
import Derived.Test.YtikojcakkmmebaaDoorGcdMath
import Derived.Laws.Bits64b
import Derived.Deep.RegionWith
import Derived.WalkMore
namespace Go.Proofs.YtikojcakkmmebaaDoor
open Go.RowKit

/-- The table of TrailingZeros64 lies in its variable. -/
def Tab (w : World) : Prop := ∀ j, j < Lib.deBruijn64tab.length → w.cell? ⟨2, j, none⟩ = some (.int .u8 (Lib.deBruijn64tab.getD j 0))
theorem cell_lt {w : World} {b o : Nat} {v : Value} (h : w.cell? ⟨b, o, none⟩ = some v) : b < w.heap.size := by
  rcases Nat.lt_or_ge b w.heap.size with g | g
  · exact g
  · unfold World.cell? at h
    rw [Array.getElem?_eq_none g] at h
    cases h
theorem Tab.below {w w' : World} (h : Hid (Tab w)) (hb : Below w.heap.size w w') : Hid (Tab w') :=
  Lib.hid fun j hj => (hb.cell (p := ⟨2, j, none⟩) (cell_lt (h.out j hj))).trans (h.out j hj)
theorem Tab.alloc {w : World} (h : Hid (Tab w)) (o : Obj) : Hid (Tab (w.alloc o)) := Tab.below h ((Below.refl _ _).alloc (Nat.le_refl _) _)
theorem Tab.drew {w : World} (h : Hid (Tab w)) : Hid (Tab w.drew) := Tab.below h (Below.refl _ _).drew

theorem Tab.set {w : World} (h : Hid (Tab w)) {b o : Nat} {v : Value} (hb : 2 < b) : Hid (Tab (w.setCell ⟨b, o, none⟩ v)) :=
  Lib.hid fun j hj => (World.cell?_of_block (w := w) (Below.heap_setCell w ⟨b, o, none⟩ v 2 (by simp; omega))).trans (h.out j hj)
theorem tz_key (x a : Nat) (hx : x < 18446744073709551616) (hx0 : x ≠ 0) (hlow : x &&& (18446744073709551616 - x) = a) :
    IntKind.u64.wrap (bits BinOp.and IntKind.u64 (x : Int) (IntKind.u64.wrap (-(x : Int))) * 285870213051353865) / 288230376151711744 = ((a * 285870213051353865 % 18446744073709551616 / 288230376151711744 : Nat) : Int) := by
  have e1 : IntKind.u64.wrap (-(x : Int)) = ((18446744073709551616 - x : Nat) : Int) := by rw [IntKind.wrap_u64]; omega
  rw [e1, bits_and_u64_nat x _ hx (by omega), hlow, IntKind.wrap_u64]
  omega
set_option maxHeartbeats 400000 in
theorem tz_core (x k idx : Nat) (w : World) (hx0 : ((x : Int) == 0) = false)
    (key : IntKind.u64.wrap (bits BinOp.and IntKind.u64 (x : Int) (IntKind.u64.wrap (-(x : Int))) * 285870213051353865) / 288230376151711744 = (idx : Int))
    (hi : idx < 64) (hk : k < 64) (hcell : w.cell? ⟨2, idx, none⟩ = some (.int .u8 k)) :
    Calls Tryd.prog 41 #[.int .u64 x] w fun e w' => e = .returned (.int .i64 k) ∧ w = w' := by
  go_enter Tryd.func41, Tryd.ntmps41
  go_wp2_with (simp only [key])
  go_ret
  exact ⟨rfl, rfl⟩
/-- TrailingZeros64 of a number other than 0. -/
theorem tz_any (x : Nat) (hx : x < 18446744073709551616) (hx0 : x ≠ 0) (w : World) (hT : Hid (Tab w)) :
    Calls Tryd.prog 41 #[.int .u64 x] w fun e w' => e = .returned (.int .i64 (Lib.ctz 64 x)) ∧ w = w' := by
  obtain ⟨hlow, hk⟩ := Lib.lowest_bit 64 x hx0 hx
  obtain ⟨hi, htab⟩ := Lib.deBruijn64_at _ hk
  have hcell := hT.out _ hi
  rw [htab] at hcell
  exact tz_core x _ _ w (by simp; omega) (tz_key x _ hx hx0 hlow) hi hk hcell

def gcdV (a b : Int) : Int := if inR a && inR b then (Nat.gcd a.natAbs b.natAbs : Int) else 0
theorem absI_nat (a : Int) : absI a = (a.natAbs : Int) := by unfold absI; split <;> omega
set_option maxHeartbeats 1000000 in
theorem gcd_any (a b : Int) (w : World) (hT : Hid (Tab w)) :
    Calls Tryd.prog 21 #[.int .i64 a, .int .i64 b] w fun e w' => e = .returned (.int .i64 (gcdV a b)) ∧ Below w.heap.size w w' := by
  cases hr : inR a && inR b
  · have H : Hid (gcdV a b = 0) := Lib.hid (by unfold gcdV; rw [hr]; rfl)
    have HR := Lib.hid hr
    clear hr
    go_enter Tryd.func21, Tryd.ntmps21
    go_wp2_with fail
    go_step3
    go_wp2_with (go_at_call 33; refine (within2 a b _ _ (by simp [World.cell?_alloc_new]) (by simp [World.cell?_alloc_new])).mono ?_; rintro e w' ⟨rfl, rfl⟩; rw [HR.out])
    try rw [Exit.noGoto_ret]
    go_ret
    exact ⟨ret_int H.out.symm, (Below.refl _ _).alloc (Nat.le_refl _) _⟩
  · have HR := Lib.hid hr
    have HG : gcdV a b = (Nat.gcd a.natAbs b.natAbs : Int) := by unfold gcdV; rw [hr]; rfl
    rw [Bool.and_eq_true, inR_iff, inR_iff] at hr
    obtain ⟨⟨a0, a1⟩, b0, b1⟩ := hr
    have HA := Lib.hid fun w => abs_any a w a0 a1
    have HB := Lib.hid fun w => abs_any b w b0 b1
    rw [absI_nat] at HA HB
    have hX : a.natAbs ≤ 1125899906842624 := by omega
    have hY : b.natAbs ≤ 1125899906842624 := by omega
    generalize a.natAbs = X at *
    generalize b.natAbs = Y at *
    have hX' : (X : Int) ≤ 1125899906842624 := by omega
    have hY' : (Y : Int) ≤ 1125899906842624 := by omega
    by_cases h0 : X = 0 ∨ Y = 0
    · have HZ : Hid ((X : Int) + Y = gcdV a b) := Lib.hid (by rw [HG]; rcases h0 with rfl | rfl <;> simp)
      clear HG
      by_cases hX0 : ((X : Int) == 0) = true
      · clear h0
        go_enter Tryd.func21, Tryd.ntmps21
        go_wp2_with fail
        go_step3
        go_wp2_with (first
          | (go_at_call 33; refine (within2 a b _ _ (by simp [World.cell?_alloc_new]) (by simp [World.cell?_alloc_new])).mono ?_; rintro e w' ⟨rfl, rfl⟩; rw [HR.out])
          | (go_at_call_of 36 a; refine (HA.out _).mono ?_; rintro e w' ⟨rfl, rfl⟩)
          | (go_at_call_of 36 b; refine (HB.out _).mono ?_; rintro e w' ⟨rfl, rfl⟩))
        try rw [Exit.noGoto_ret]
        go_ret
        exact ⟨ret_int HZ.out, (Below.refl _ _).alloc (Nat.le_refl _) _⟩
      · have hX1 : ((X : Int) == 0) = false := by simpa using hX0
        have hY1 : ((Y : Int) == 0) = true := by simp at hX0 ⊢; omega
        clear h0 hX0
        go_enter Tryd.func21, Tryd.ntmps21
        go_wp2_with fail
        go_step3
        go_wp2_with (first
          | (go_at_call 33; refine (within2 a b _ _ (by simp [World.cell?_alloc_new]) (by simp [World.cell?_alloc_new])).mono ?_; rintro e w' ⟨rfl, rfl⟩; rw [HR.out])
          | (go_at_call_of 36 a; refine (HA.out _).mono ?_; rintro e w' ⟨rfl, rfl⟩)
          | (go_at_call_of 36 b; refine (HB.out _).mono ?_; rintro e w' ⟨rfl, rfl⟩))
        try rw [Exit.noGoto_ret]
        go_ret
        exact ⟨ret_int HZ.out, (Below.refl _ _).alloc (Nat.le_refl _) _⟩
    · have hX1 : ((X : Int) == 0) = false := by simp; omega
      have hY1 : ((Y : Int) == 0) = false := by simp; omega
      have x0 : 0 < X := by omega
      have y0 : 0 < Y := by omega
      obtain ⟨hs, HS⟩ := gcd_shift x0 y0 (by omega) (by omega)
      have hor : X ||| Y < 18446744073709551616 := by
        have := Nat.or_lt_two_pow (n := 64) (x := X) (y := Y) (by omega) (by omega)
        simpa using this
      have hor0 : X ||| Y ≠ 0 := by rw [Ne, Nat.or_eq_zero_iff]; omega
      have eO : bits .or .u64 (X : Int) (Y : Int) = ((X ||| Y : Nat) : Int) := bits_or_u64_nat X Y (by omega) (by omega)
      have T1 := Lib.hid fun w h => tz_any (X ||| Y) hor hor0 w h
      have T2 := Lib.hid fun w h => tz_any X (by omega) (by omega) w h
      obtain ⟨u, hi, hu, hud⟩ := ctz_div x0 (show X < 18446744073709551616 by omega)
      have HU := Lib.hid hud
      have HS' := Lib.hid HS
      have HG' := Lib.hid HG
      clear h0 hor hor0 hu hud HS HG
      generalize X ||| Y = Z at *
      generalize Lib.ctz 64 Z = c at *
      generalize Lib.ctz 64 X = i at *
      go_enter Tryd.func21, Tryd.ntmps21
      go_wp2_with fail
      go_step3
      go_wp2_with (first
        | (go_at_call_of 41 (Z : Int); refine (T1.out _ (by exact Tab.alloc hT _)).mono ?_; rintro e w' ⟨rfl, rfl⟩)
        | (go_at_call_of 41 (X : Int); refine (T2.out _ (by exact Tab.alloc hT _)).mono ?_; rintro e w' ⟨rfl, rfl⟩)
          | (go_at_call 33; refine (within2 a b _ _ (by simp [World.cell?_alloc_new]) (by simp [World.cell?_alloc_new])).mono ?_; rintro e w' ⟨rfl, rfl⟩; rw [HR.out])
          | (go_at_call_of 36 a; refine (HA.out _).mono ?_; rintro e w' ⟨rfl, rfl⟩)
          | (go_at_call_of 36 b; refine (HB.out _).mono ?_; rintro e w' ⟨rfl, rfl⟩))
      obtain ⟨G, hG⟩ : ∃ G, Nat.gcd (X / 2 ^ i) Y = G := ⟨_, rfl⟩
      have HS2 : Hid (2 ^ c * G = X.gcd Y) := Lib.hid (hG ▸ HS'.out)
      have HG2 : Hid (Nat.gcd (X / 2 ^ i) Y = G) := Lib.hid hG
      clear hG HS'
      have hXi : X / 2 ^ i ≤ 1125899906842624 := Nat.le_trans (Nat.div_le_self _ _) hX
      have HXI : Hid ((X : Int) / 2 ^ i = ((X / 2 ^ i : Nat) : Int)) := Lib.hid (by rw [Int.natCast_ediv, Int.natCast_pow]; rfl)
      have HX0 := Lib.hid x0
      go_step3
      go_wp2_with fail
      go_loop [5, 6] (fun s t => ∃ x y : Nat, (∃ p, x = 2 * p + 1) ∧ 0 < y ∧ x ≤ 1125899906842624 ∧ y ≤ 1125899906842624 ∧ Hid (Nat.gcd x y = G) ∧ s = .int .u64 x ∧ t = .int .u64 y) (fun s t => (intOf s + intOf t).toNat)
      case atStart => exact ⟨X / 2 ^ i, Y, ⟨u, HU.out⟩, y0, hXi, hY, HG2, by rw [HXI.out], rfl⟩
      case round =>
        clear hi hXi HXI HG2 HU T1 T2 eO hX1 hY1 x0 y0 hX' hY'
        obtain ⟨x, y, ⟨p, hp⟩, y0, hx, hy, HI, rfl, rfl⟩ := hrel
        obtain ⟨m, hk, hm, hmd⟩ := ctz_div y0 (show y < 18446744073709551616 by omega)
        have TY := Lib.hid fun w h => tz_any y (by omega) (by omega) w h
        have hg := gcd_step (u := p) hm
        rw [← hp] at hg
        have hmy : 2 * m + 1 ≤ y := by rw [← hmd]; exact Nat.div_le_self _ _
        have e1 : (y : Int) / 2 ^ Lib.ctz 64 y = ((2 * m + 1 : Nat) : Int) := by rw [← hmd, Int.natCast_ediv, Int.natCast_pow]; rfl
        have HI2 : Hid (Nat.gcd x (2 * m + 1) = G) := Lib.hid (hg ▸ HI.out)
        have hp2 : ∃ q, 2 * m + 1 = 2 * q + 1 := ⟨m, rfl⟩
        have HP : Hid (∃ q, x = 2 * q + 1) := Lib.hid ⟨p, hp⟩
        have HP2 := Lib.hid hp2
        have x0 : 0 < x := by omega
        clear hm hmd hg HI hp hp2
        generalize Lib.ctz 64 y = k at *
        have v0 : 0 < 2 * m + 1 := by omega
        generalize 2 * m + 1 = v at *
        have ev : ((v : Nat) : Int) = v := rfl
        clear ev
        have v0' : (1 : Int) ≤ v := by omega
        have x0' : (1 : Int) ≤ x := by omega
        have hx' : (x : Int) ≤ 1125899906842624 := by omega
        have hy' : (y : Int) ≤ 1125899906842624 := by omega
        have hv' : (v : Int) ≤ 1125899906842624 := by omega
        rcases Nat.lt_trichotomy v x with hlt | rfl | hlt
        · have hlt' : (v : Int) < x := by omega
          have hne : ((x : Int) - v == 0) = false := by simp; omega
          go_wp2_with (go_at_call 41; refine (TY.out _ (by exact Tab.alloc hT _)).mono ?_; rintro e w' ⟨rfl, rfl⟩)
          go_round
          case rel => exact ⟨v, x - v, HP2.out, by omega, by omega, by omega, Lib.hid ((gcd_sub (by omega)).symm.trans ((Nat.gcd_comm _ _).trans HI2.out)), rfl, by rw [Int.ofNat_sub (by omega)]⟩
          case measure => simp [intOf]; omega
        · have hne : ((v : Int) - v == 0) = true := by simp
          have hself : Nat.gcd v v = v := Nat.gcd_self v
          have HV : Hid ((v : Int) * 2 ^ c = gcdV a b) := Lib.hid (by
            rw [HG'.out, ← HS2.out, ← HI2.out, hself, Int.natCast_mul, Int.natCast_pow, Int.mul_comm]; rfl)
          have hbd : 0 ≤ gcdV a b ∧ gcdV a b ≤ 1125899906842624 := by
            rw [HG'.out]
            have := Nat.le_of_dvd HX0.out (Nat.gcd_dvd_left X Y)
            omega
          have hc0 : (c : Int) < 64 := by omega
          obtain ⟨h0, h1⟩ := hbd
          have eW : IntKind.u64.wrap ((v : Int) * 2 ^ c) = gcdV a b := by rw [HV.out]; exact IntWalk.u64_in _ (by omega)
          obtain ⟨g, hg⟩ : ∃ g, gcdV a b = g := ⟨_, rfl⟩
          rw [hg] at h0 h1 eW
          have HGG := Lib.hid hg
          clear hself hg
          go_wp2_with (go_at_call 41; refine (TY.out _ (by exact Tab.alloc hT _)).mono ?_; rintro e w' ⟨rfl, rfl⟩)
          try rw [Exit.noGoto_ret]
          go_ret
          exact ⟨ret_int HGG.out.symm, (Below.refl _ _).alloc (Nat.le_refl _) _⟩
        · have hlt' : (x : Int) < v := by omega
          have hne : ((v : Int) - x == 0) = false := by simp; omega
          go_wp2_with (go_at_call 41; refine (TY.out _ (by exact Tab.alloc hT _)).mono ?_; rintro e w' ⟨rfl, rfl⟩)
          go_round
          case rel => exact ⟨x, v - x, HP.out, by omega, by omega, by omega, Lib.hid ((gcd_sub (by omega)).symm.trans HI2.out), rfl, by rw [Int.ofNat_sub (by omega)]⟩
          case measure => simp [intOf]; omega
end Go.Proofs.YtikojcakkmmebaaDoor
