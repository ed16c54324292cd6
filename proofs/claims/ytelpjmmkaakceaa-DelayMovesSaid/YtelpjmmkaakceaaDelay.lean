/- The package delay: in, all, Check: what they compute. -/
import Derived.Test.YtelpjmmkaakceaaClock2
import Derived.Test.YtelpjmmkaakceaaNumDiv
import Derived.Test.YtelpjmmkaakceaaRegion
import Derived.WalkMore
namespace Go.Proofs.Ytelpjmmkaakceaa
open Go.RowKit Go.Shelf

theorem wp_gen {P : Program} {c : Code} {Q : Exit → Act → World → Prop} {a : Act} {W : World} (h : ∀ w, w = W → c.wp P Q a w) : c.wp P Q a W := h _ rfl
theorem cell_lt {w : World} {b o : Nat} {v : Value} (h : w.cell? ⟨b, o, none⟩ = some v) : b < w.heap.size := by
  rcases Nat.lt_or_ge b w.heap.size with g | g
  · exact g
  · unfold World.cell? at h
    rw [Array.getElem?_eq_none g] at h
    cases h
/-- A check that a number is from a limit to another one: a function value over three cells. -/
structure Lim where
  a : Nat
  n : Int
  lo : Int
  hi : Int
def Lim.v (f : Lim) : Value := .func (.func 42) #[] #[.pointer (some ⟨f.a, 0, none⟩), .pointer (some ⟨f.a + 1, 0, none⟩), .pointer (some ⟨f.a + 2, 0, none⟩)]
def Lim.at' (f : Lim) (w : World) : Prop := w.cell? ⟨f.a, 0, none⟩ = some (.int .i64 f.n) ∧ w.cell? ⟨f.a + 1, 0, none⟩ = some (.int .i64 f.lo) ∧ w.cell? ⟨f.a + 2, 0, none⟩ = some (.int .i64 f.hi)
def Lim.ok (f : Lim) : Bool := decide (f.lo ≤ f.n) && decide (f.n ≤ f.hi)
theorem Lim.below {f : Lim} {w w' : World} (h : f.at' w) (hb : Below w.heap.size w w') : f.at' w' :=
  ⟨(hb.cell (p := ⟨f.a, 0, none⟩) (cell_lt h.1)).trans h.1, (hb.cell (p := ⟨f.a + 1, 0, none⟩) (cell_lt h.2.1)).trans h.2.1, (hb.cell (p := ⟨f.a + 2, 0, none⟩) (cell_lt h.2.2)).trans h.2.2⟩
def limsOk : List Lim → Bool
  | [] => true
  | f :: l => f.ok && limsOk l
theorem limsOk_append (a b : List Lim) : limsOk (a ++ b) = (limsOk a && limsOk b) := by
  induction a with
  | nil => simp [limsOk]
  | cons x a ih => simp [limsOk, ih, Bool.and_assoc]
theorem limsOk_snoc {l : List Lim} {k : Nat} (h : k < l.length) : limsOk (l.take (k + 1)) = (limsOk (l.take k) && l[k].ok) := by
  rw [List.take_succ_eq_append_getElem h, limsOk_append]; simp [limsOk]
theorem limsOk_out {l : List Lim} {k : Nat} (h : k < l.length) (hn : l[k].ok = false) : limsOk l = false := by
  rw [← List.take_append_drop (k + 1) l, limsOk_append, limsOk_snoc h, hn]; simp

set_option maxHeartbeats 400000 in
theorem in_any (n lo hi : Int) (w : World) :
    Calls Try.prog 30 #[.int .i64 n, .int .i64 lo, .int .i64 hi] w fun e w' => e = .returned (Lim.v ⟨w.heap.size, n, lo, hi⟩) ∧ Below w.heap.size w w' ∧ Lim.at' ⟨w.heap.size, n, lo, hi⟩ w' := by
  go_enter Try.func30, Try.ntmps30
  go_wp2
  go_ret
  exact ⟨rfl, (((Below.refl _ _).alloc (Nat.le_refl _) _).alloc (by simp) _).alloc (by simp <;> omega) _, by go_simp, by go_simp, by go_simp⟩
theorem in_raw (n lo hi : Int) (w : World) :
    Calls Try.prog 30 #[.int .i64 n, .int .i64 lo, .int .i64 hi] w fun e w' => e = .returned (.func (.func 42) #[] #[.pointer (some ⟨w.heap.size, 0, none⟩), .pointer (some ⟨w.heap.size + 1, 0, none⟩), .pointer (some ⟨w.heap.size + 2, 0, none⟩)]) ∧ Below w.heap.size w w' ∧ Lim.at' ⟨w.heap.size, n, lo, hi⟩ w' := in_any n lo hi w
set_option maxHeartbeats 400000 in
theorem in1_any (f : Lim) (w : World) (h : f.at' w) :
    Calls Try.prog 42 #[.pointer (some ⟨f.a, 0, none⟩), .pointer (some ⟨f.a + 1, 0, none⟩), .pointer (some ⟨f.a + 2, 0, none⟩)] w fun e w' => e = .returned (.bool f.ok) ∧ w = w' := by
  obtain ⟨a, n, lo, hi⟩ := f
  obtain ⟨h1, h2, h3⟩ := h
  simp only at h1 h2 h3
  by_cases c1 : lo ≤ n
  · by_cases c2 : n ≤ hi
    · have H : Hid (Lim.ok ⟨a, n, lo, hi⟩ = true) := Lib.hid (by unfold Lim.ok; simp [c1, c2])
      go_enter Try.func42, Try.ntmps42
      go_wp2
      go_ret
      exact ⟨by first | exact ret_bool H.out.symm | exact ret_bool ((decide_eq_true c2).trans H.out.symm), rfl⟩
    · have H : Hid (Lim.ok ⟨a, n, lo, hi⟩ = false) := Lib.hid (by unfold Lim.ok; simp [c1]; omega)
      have c3 : hi < n := by omega
      have C := Lib.hid (decide_eq_false c2)
      go_enter Try.func42, Try.ntmps42
      go_wp2
      go_ret
      exact ⟨by first | exact ret_bool H.out.symm | exact ret_bool (C.out.trans H.out.symm), rfl⟩
  · have H : Hid (Lim.ok ⟨a, n, lo, hi⟩ = false) := Lib.hid (by unfold Lim.ok; simp; omega)
    have c3 : n < lo := by omega
    go_enter Try.func42, Try.ntmps42
    go_wp2
    go_ret
    exact ⟨ret_bool H.out.symm, rfl⟩
theorem enters_in1 : ∀ args w, (callFunc 42 args).run Try.prog w = .ok (.enter 42 args) w := enters_of Try.func42 (by kernel_rfl) rfl
set_option maxHeartbeats 1000000 in
theorem all_any (b n : Nat) (l : List Lim) (w : World) (hn : l.length = n) (hm : n ≤ 1000) (hc : ∀ k, k < n → ∃ h : k < l.length, w.cell? ⟨b, k, none⟩ = some (l[k]).v ∧ (l[k]).at' w) :
    Calls Try.prog 29 #[.slice (some ⟨b, 0, none⟩) n n] w fun e w' => e = .returned (.bool (limsOk l)) ∧ w = w' := by
  have HC := Lib.hid hc
  have HN := Lib.hid hn
  have hn1 : (n : Int) ≤ 1000 := by omega
  have eg := enters_in1
  clear hc hn
  go_enter Try.func29, Try.ntmps29
  go_wp2_with fail
  go_step3
  go_wp2_with fail
  go_step3
  go_wp2_with fail
  go_loop [3, 8] (fun s i => ∃ k : Nat, k ≤ n ∧ i = .int .i64 k ∧ s = .bool true ∧ Hid (limsOk (l.take k) = true)) (fun _ i => n - (intOf i).toNat)
  case atStart => exact ⟨0, Nat.zero_le _, rfl, rfl, Lib.hid rfl⟩
  case round =>
    obtain ⟨k, hk, rfl, rfl, HA⟩ := hrel
    have hk1 : (k : Int) ≤ n := by omega
    by_cases hlt : k < n
    · obtain ⟨hkl, hcell, hat⟩ := HC.out k hlt
      have HS := Lib.hid (limsOk_snoc hkl)
      have HO := Lib.hid (limsOk_out hkl)
      have HI := Lib.hid (in1_any l[k] w hat)
      have hlt' : (k : Int) < n := by omega
      generalize l[k] = f at *
      unfold Lim.v at hcell
      cases hok : f.ok
      · have HR := Lib.hid (HO.out hok)
        rw [hok] at HI
        clear HO HS hok hat
        go_wp2_with (go_at_call 42; refine HI.out.mono ?_; rintro e w' ⟨rfl, rfl⟩)
        try rw [Exit.noGoto_ret]
        go_ret
        exact ⟨ret_bool HR.out.symm, rfl⟩
      · have HR : Hid (limsOk (l.take (k + 1)) = true) := Lib.hid (by rw [HS.out, HA.out, hok]; rfl)
        rw [hok] at HI
        clear HO HS hok hat
        go_wp2_with (go_at_call 42; refine HI.out.mono ?_; rintro e w' ⟨rfl, rfl⟩)
        go_round
        case rel => exact ⟨k + 1, by omega, by go_num, rfl, HR⟩
        case measure => simp [intOf]; omega
    · have HR : Hid (limsOk l = true) := Lib.hid (by have := HA.out; rwa [List.take_of_length_le (by have := HN.out; omega)] at this)
      go_wp2
      try rw [Exit.noGoto_ret]
      go_ret
      exact ⟨ret_bool HR.out.symm, rfl⟩
end Go.Proofs.Ytelpjmmkaakceaa
