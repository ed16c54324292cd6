/- BucketChecks: the walk of the law. -/
import Derived.Test.YtfbfnoiapeajeaaBk22
namespace Go.Proofs.Ytfbfnoiapeajeaa
open Go.RowKit

theorem infoB : (Try.prog.info? 23).map (fun i => (i.zero, i.size, i.bytes)) = some (some (.agg #[.int .i64 0, .int .i64 0]), 2, 16) := by kernel_rfl
theorem bu_same (x y : Int) (W : World) : (Op.equalIn 10000 23 (.agg #[.int .i64 x, .int .i64 y]) (.agg #[.int .i64 x, .int .i64 y])).run Try.prog W = .ok true W := by
  rw [run_equalIn_struct W 9999 23 _ _ (by kernel_rfl) (by kernel_rfl)]
  go_simp
/-- A slice of buckets of the call's own. -/
def BuOwn (w : World) (base : Nat) (v : Value) (l : Tr) : Prop := w.ownsRow base 23 2 v l.length (flat l)
theorem BuOwn.nil (w : World) (base : Nat) : BuOwn w base (.slice none 0 0) [] := World.ownsRow_nil _ _ _ _
theorem BuOwn.see {w : World} {base : Nat} {v : Value} {l : Tr} (h : BuOwn w base v l) : ∃ a cap, v = .slice a l.length cap ∧ TrA w a l := by
  have h' := h
  obtain ⟨hl, ⟨rfl, h0⟩ | ⟨g, cap, cur, rfl, hb, h2, h3, h4, h5, h6⟩⟩ := h
  · exact ⟨none, 0, by rw [h0], fun k hk => by omega⟩
  · refine ⟨_, cap, rfl, fun k hk => ?_⟩
    obtain ⟨f1, f2⟩ := flat_get l k hk
    refine ⟨g, 0, rfl, ?_, ?_⟩
    · rw [Nat.zero_add, World.ownsRow.cellAt h' (k * 2) (by omega), f1]
    · rw [Nat.zero_add, World.ownsRow.cellAt h' (k * 2 + 1) (by omega), f2]
def many (l : Tr) : Nat → Tr
  | 0 => []
  | k + 1 => many l k ++ [(1 + (l[k]?.getD (0, 0)).1 % 18446744073709551616 % 262144, 1 + (l[k]?.getD (0, 0)).2 % 18446744073709551616 % 524288)]
theorem many_length (l : Tr) : ∀ k, (many l k).length = k
  | 0 => rfl
  | k + 1 => by simp [many, many_length l k]
set_option maxRecDepth 100000 in
set_option maxHeartbeats 4000000 in
theorem blaw3_walk (b0 r0 : Int) (x y : Int) (ga sa : Option Addr) (gn gc sn sc : Nat) (gaps sizes : List Int) (ao : Option Addr) (len cap : Nat) (l0 : Tr) (xa xs t0 : Int) (w : World) (hD : Hid (DraftIn w x y ga sa gn sn gaps sizes)) (hl : l0.length = len) (hcap : len ≤ cap) (_ : ao = none → cap = 0) (_ : ∀ q, ao = some q → q.spot = none) (hT : Hid (TrA w ao l0)) :
    Calls Try.prog 3 #[.agg #[.int .i64 b0, .int .i64 r0], .agg #[.int .u32 x, .int .u32 y, .slice ga gn gc, .slice sa sn sc], .slice ao len cap, .agg #[.int .i64 xa, .int .i64 xs], .int .i64 t0] w fun e w' => e = .returned (.bool true) ∧ Below w.heap.size w w' := by
  obtain ⟨ht, hl30⟩ := traceV_ok hD.out.hG.small hD.out.hS.small
  have KB := Lib.hid fun w' => hD.out.bucket (gc := gc) (sc := sc) w'
  obtain ⟨n, hn⟩ : ∃ n, (traceV gaps sizes).length = n := ⟨_, rfl⟩
  have HN := Lib.hid hn
  have KT := Lib.hid fun w' hb => retTr (hD.out.trace (gc := gc) (sc := sc) w' hb) HN
  generalize traceV gaps sizes = l at *
  generalize dB x = b at *
  generalize dR y = r at *
  have hn30 : n ≤ 30 := by omega
  obtain ⟨m, hm, hm1, hm2⟩ : ∃ m : Nat, (m : Int) = min (len : Int) 14 ∧ m ≤ cap ∧ m ≤ 14 := ⟨min len 14, by omega, by omega, by omega⟩
  have mx : ∀ W, (Builtin.min_ #[3, 3] 3 #[.int .i64 len, .int .i64 14]).run Try.prog W = .ok (.int .i64 m) W := fun W => by
    have := @run_min_int2 Try.prog W #[3, 3] 3 .i64 .i64 len 14
    rw [this]; congr 2; split <;> omega
  have HML : Hid ((l0.take m).length = m) := Lib.hid (by rw [List.length_take]; omega)
  have hTm : Hid (TrA w ao (l0.take m)) := Lib.hid (hT.out.take m)
  generalize l0.take m = lm at *
  obtain ⟨p, hp, hp1, hp2⟩ : ∃ p, IntKind.u8.wrap t0 = p ∧ 0 ≤ p ∧ p ≤ 255 := ⟨_, rfl, by rw [IntKind.wrap_u8]; omega, by rw [IntKind.wrap_u8]; omega⟩
  have KBe := Lib.hid fun a c w (h1 : TrS w a c l) => bent_any a n c l xa xs p w hn (by omega) h1.nil h1.spot (Lib.hid h1.tr) hp1 hp2
  have HBL : Hid ((bentV l (xa, xs) p).length = n) := Lib.hid (by rw [bentV_length]; exact hn)
  generalize bentV l (xa, xs) p = lb at *
  have KC0 := Lib.hid fun a c w (h1 : TrS w a c l) => (show Calls Try.prog 18 #[.slice a n c] w fun e w' => e = .returned (.int .i64 0) ∧ Below w.heap.size w w' by
    have := btrace_any a n c l w hn (by omega) (Lib.hid h1.tr)
    unfold eT at this
    rw [ht, if_pos rfl] at this
    exact this)
  have KC1 := Lib.hid fun a c w (h1 : TrS w a c lb) => btrace_any a n c lb w HBL.out (by omega) (Lib.hid h1.tr)
  have KC2 := Lib.hid fun a c w (h1 : TrS w a c lb) => rctrace_any a n c lb w HBL.out (by omega) (Lib.hid h1.tr)
  generalize eT lb = et at *
  have hsl := fun a => slice_to2 a len cap m hm1
  have hsl2 := sliced_to ao m cap 2
  have hcp : (m : Int) ≤ cap := by omega
  obtain ⟨u1, q1, e1, e2, e3, u10, u11, q10, q11, q12, q13, _⟩ := u_mod t0 (m := 1099511627776) (by omega)
  obtain ⟨u2, q2, f1, f2, f3, u20, u21, q20, q21, q22, q23, _⟩ := u_mod t0 (m := 99) (by omega)
  obtain rfl : u1 = u2 := e1.symm.trans f1
  have EK : ∀ k : Nat, k < 3 → ∃ kb kr : Int, ∀ W, (Instr.index 37 (.agg #[.int .i64 b0, .int .i64 r0, .int .i64 b, .int .i64 r, .int .i64 b, .int .i64 r0]) (.int .i64 k)).run Try.prog W = .ok (.agg #[.int .i64 kb, .int .i64 kr]) W := fun k hk => by
    match k, hk with
    | 0, _ => exact ⟨b0, r0, fun _ => (by kernel_rfl)⟩
    | 1, _ => exact ⟨b, r, fun _ => (by kernel_rfl)⟩
    | 2, _ => exact ⟨b, r0, fun _ => (by kernel_rfl)⟩
  have EK := Lib.hid EK
  have EI : ∀ k : Nat, k < 3 → ∃ z : Int, ∀ W, (Instr.index 38 (.agg #[.int .i64 t0, .int .i64 q1, .int .i64 q2]) (.int .i64 k)).run Try.prog W = .ok (.int .i64 z) W := fun k hk => by
    match k, hk with
    | 0, _ => exact ⟨t0, fun _ => (by kernel_rfl)⟩
    | 1, _ => exact ⟨q1, fun _ => (by kernel_rfl)⟩
    | 2, _ => exact ⟨q2, fun _ => (by kernel_rfl)⟩
  have EI := Lib.hid EI
  obtain ⟨i0, hi, hz0, hz1, hz2⟩ := info_parts infoB
  have HPP := Lib.hid hp
  have HE := Lib.hid (And.intro e1 (And.intro e2 (And.intro e3 (And.intro q12 q13))))
  have HF := Lib.hid (And.intro trivial (And.intro f2 (And.intro f3 (And.intro q22 q23))))
  clear ht hl30 hn hm hT hD hl hp e1 e2 e3 q12 q13 f1 f2 f3 q22 q23
  go_enter Try.func3, Try.ntmps3
  go_wp2_with fail
  refine (KB.out _).mono ?_
  rintro e w1 ⟨rfl, hb1⟩
  have hz1_0 : w.heap.size < w1.heap.size := by have := hb1.size; simp at this; omega
  have s1_0_0 : w1.cell? ⟨w.heap.size, 0, none⟩ = some (.int .i64 b0) := (hb1.cell (p := ⟨w.heap.size, 0, none⟩) (by simp <;> omega)).trans (by go_simp)
  have s1_0_1 : w1.cell? ⟨w.heap.size, 1, none⟩ = some (.int .i64 r0) := (hb1.cell (p := ⟨w.heap.size, 1, none⟩) (by simp <;> omega)).trans (by go_simp)
  have hz1_1 : w.heap.size + 1 < w1.heap.size := by have := hb1.size; simp at this; omega
  have s1_1_0 : w1.cell? ⟨w.heap.size + 1, 0, none⟩ = some (.int .u32 x) := (hb1.cell (p := ⟨w.heap.size + 1, 0, none⟩) (by simp <;> omega)).trans (by go_simp)
  have s1_1_1 : w1.cell? ⟨w.heap.size + 1, 1, none⟩ = some (.int .u32 y) := (hb1.cell (p := ⟨w.heap.size + 1, 1, none⟩) (by simp <;> omega)).trans (by go_simp)
  have s1_1_2 : w1.cell? ⟨w.heap.size + 1, 2, none⟩ = some (.slice ga gn gc) := (hb1.cell (p := ⟨w.heap.size + 1, 2, none⟩) (by simp <;> omega)).trans (by go_simp)
  have s1_1_3 : w1.cell? ⟨w.heap.size + 1, 3, none⟩ = some (.slice sa sn sc) := (hb1.cell (p := ⟨w.heap.size + 1, 3, none⟩) (by simp <;> omega)).trans (by go_simp)
  have hz1_2 : w.heap.size + 2 < w1.heap.size := by have := hb1.size; simp at this; omega
  have s1_2_0 : w1.cell? ⟨w.heap.size + 2, 0, none⟩ = some (.int .i64 xa) := (hb1.cell (p := ⟨w.heap.size + 2, 0, none⟩) (by simp <;> omega)).trans (by go_simp)
  have s1_2_1 : w1.cell? ⟨w.heap.size + 2, 1, none⟩ = some (.int .i64 xs) := (hb1.cell (p := ⟨w.heap.size + 2, 1, none⟩) (by simp <;> omega)).trans (by go_simp)
  have H1 : Below w.heap.size w w1 := ((((Below.refl _ _).alloc (Nat.le_refl _) _).alloc (by simp <;> omega) _).alloc (by simp <;> omega) _).trans (hb1.mono (by simp <;> omega))
  clear hb1
  go_wp2_with fail
  refine wp_gen ?_
  rintro w2 hg2
  have hz2_0 : w.heap.size < w2.heap.size := by rw [hg2]; simp <;> omega
  have s2_0_0 : w2.cell? ⟨w.heap.size, 0, none⟩ = some (.int .i64 b0) := by rw [hg2]; go_simp
  have s2_0_1 : w2.cell? ⟨w.heap.size, 1, none⟩ = some (.int .i64 r0) := by rw [hg2]; go_simp
  have hz2_1 : w.heap.size + 1 < w2.heap.size := by rw [hg2]; simp <;> omega
  have s2_1_0 : w2.cell? ⟨w.heap.size + 1, 0, none⟩ = some (.int .u32 x) := by rw [hg2]; go_simp
  have s2_1_1 : w2.cell? ⟨w.heap.size + 1, 1, none⟩ = some (.int .u32 y) := by rw [hg2]; go_simp
  have s2_1_2 : w2.cell? ⟨w.heap.size + 1, 2, none⟩ = some (.slice ga gn gc) := by rw [hg2]; go_simp
  have s2_1_3 : w2.cell? ⟨w.heap.size + 1, 3, none⟩ = some (.slice sa sn sc) := by rw [hg2]; go_simp
  have hz2_2 : w.heap.size + 2 < w2.heap.size := by rw [hg2]; simp <;> omega
  have s2_2_0 : w2.cell? ⟨w.heap.size + 2, 0, none⟩ = some (.int .i64 xa) := by rw [hg2]; go_simp
  have s2_2_1 : w2.cell? ⟨w.heap.size + 2, 1, none⟩ = some (.int .i64 xs) := by rw [hg2]; go_simp
  have hz2_3 : w1.heap.size < w2.heap.size := by rw [hg2]; simp <;> omega
  have s2_3_0 : w2.cell? ⟨w1.heap.size, 0, none⟩ = some (.int .i64 b) := by rw [hg2]; go_simp
  have s2_3_1 : w2.cell? ⟨w1.heap.size, 1, none⟩ = some (.int .i64 r) := by rw [hg2]; go_simp
  have H2 : Below w.heap.size w w2 := by rw [hg2]; exact (H1.alloc H1.size _)
  clear hz1_0 s1_0_0 s1_0_1 hz1_1 s1_1_0 s1_1_1 s1_1_2 s1_1_3 hz1_2 s1_2_0 s1_2_1 H1
  clear hg2
  clear mx hsl hsl2
  go_loopw [12, 13] (fun v i wr => ∃ k : Nat, k ≤ m ∧ i = .int .i64 k ∧ BuOwn wr w2.heap.size v (many lm k) ∧ Below w2.heap.size w2 wr) (fun _ i _ => m - (intOf i).toNat)
  case atStart => exact ⟨0, Nat.zero_le _, rfl, BuOwn.nil _ _, Below.refl _ _⟩
  case round =>
    obtain ⟨k, hk, rfl, hO, hB⟩ := hrel
    have hB0 := hB.size
    have Hk := H2.trans (hB.mono H2.size)
    by_cases hlt : k < m
    · have HX : k < lm.length := by rw [HML.out]; exact hlt
      obtain ⟨bb, o, rfl, hbw, c1, c2⟩ := hTm.out.get Hk HX
      have HK : Hid (many lm (k + 1) = many lm k ++ [(1 + (lm[k]).1 % 18446744073709551616 % 262144, 1 + (lm[k]).2 % 18446744073709551616 % 524288)]) := Lib.hid (by rw [many, List.getElem?_eq_getElem HX]; rfl)
      have hlen := many_length lm k
      have hbr : bb < wr.heap.size := cell_lt c1
      generalize lm[k] = z at *
      obtain ⟨za, zs⟩ := z
      simp only at c1 c2 HK
      generalize many lm k = mm at *
      obtain ⟨u3, n3, g1, g2, g3, u30, u31, n30, n31, g4, g5, g6⟩ := u_mod za (m := 262144) (by omega)
      obtain ⟨u4, n4, k1, k2, k3, u40, u41, n40, n41, k4, k5, k6⟩ := u_mod zs (m := 524288) (by omega)
      rw [g6, k6] at HK
      have i1 : IntKind.i64.wrap (1 + n3) = 1 + n3 := IntWalk.i64_in _ (by omega)
      have i2 : IntKind.i64.wrap (1 + n4) = 1 + n4 := IntWalk.i64_in _ (by omega)
      have hlt' : (k : Int) < m := by omega
      have hk0 : (0 : Int) ≤ k := by omega
      obtain ⟨oa, oc, hv, _⟩ := hO.see
      subst hv
      rw [hlen] at hO ⊢
      have hO := Lib.hid hO
      have hlen := Lib.hid hlen
      have hOr : Hid (wr.ownsRow w2.heap.size 23 2 (.slice oa k oc) k (flat mm)) := Lib.hid (by have := hO.out; unfold BuOwn at this; rw [hlen.out] at this; exact this)
      have av : (Value.slice oa k oc).ownBlock ≠ some bb := fun e => by have := (World.ownsRow.lt hOr.out _ e).1; have := H2.size; omega
      have hkm : k ≤ 14 := by omega
      clear HX g6 k6
      go_wp2_with fail
      go_region_held3 (fun w' => w'.cell? ⟨bb, o + k * 2, none⟩ = some (.int .i64 za) ∧ w'.cell? ⟨bb, o + k * 2 + 1, none⟩ = some (.int .i64 zs))
        (first
          | go_keep
          | (go_split_ands
             refine ⟨?_, ?_⟩
             · (rw [hgrow.cell_far _ (by simp; omega) (Ne.symm av)]; assumption)
             · (rw [hgrow.cell_far _ (by simp; omega) (Ne.symm av)]; assumption)))
        ((refine step_append_lies _ (by rfl) _ _ _ (by rfl) w2.heap.size 23 i0 _ 2 16 Try.underlying28 hi hz0 hz1 hz2 rfl (by omega) (.slice oa k oc) k (flat mm) (by rfl) ((World.ownsRow.alloc hOr.out _).drew)
            ⟨wr.heap.size, 0, none⟩ 1 1 [.int .i64 (1 + n3), .int .i64 (1 + n4)] (by rfl) (by rfl) (World.news_of_block (cs := #[.int .i64 (1 + n3), .int .i64 (1 + n4)]) (t := 23) (fr := (0, 0)) (heap_alloc_new wr _)) (by simp [Value.oneCell'])
            (by omega) (by unfold maxLen; omega) (by omega) (by simp; omega) (wr.heap.size + 1) (by simp) ?_; intro gg cap2 w1' hown1 hgrow hat hlt2))
      have hD2 : BuOwn w1' w2.heap.size (.slice (some ⟨gg, 0, none⟩) (k + 1) cap2) (mm ++ [(1 + n3, 1 + n4)]) := by
        unfold BuOwn
        rw [flat_append, List.length_append, hlen.out]
        exact hown1
      have hba : Below w2.heap.size wr w1' := ((Below.refl _ wr).alloc hB0 _).drew.grown hgrow (by simp; omega) (fun k e => (World.ownsRow.lt hOr.out k e).1)
      clear hown1 hgrow hat hlt2 g1 g2 g3 g4 g5 k1 k2 k3 k4 k5 i1 i2
      rw [← HK.out] at hD2
      go_wp2
      go_roundw
      case rel => exact ⟨k + 1, by omega, by go_num, hD2, hB.trans hba⟩
      case measure => (simp [intOf] <;> omega)
    · obtain rfl : k = m := by omega
      have hlt' : ¬ (k : Int) < k := by omega
      have hlen := many_length lm k
      obtain ⟨oa, oc, hv, hTA⟩ := hO.see
      subst hv
      rw [hlen] at hO ⊢
      have hlen := Lib.hid hlen
      have hTA := Lib.hid hTA
      clear hO
      generalize many lm k = mm at *
      have r_s2_0_0 := (hB.cell (p := ⟨w.heap.size, 0, none⟩) hz2_0).trans s2_0_0
      have r_s2_0_1 := (hB.cell (p := ⟨w.heap.size, 1, none⟩) hz2_0).trans s2_0_1
      have r_hz2_0 := Nat.lt_of_lt_of_le hz2_0 hB.size
      have r_s2_1_0 := (hB.cell (p := ⟨w.heap.size + 1, 0, none⟩) hz2_1).trans s2_1_0
      have r_s2_1_1 := (hB.cell (p := ⟨w.heap.size + 1, 1, none⟩) hz2_1).trans s2_1_1
      have r_s2_1_2 := (hB.cell (p := ⟨w.heap.size + 1, 2, none⟩) hz2_1).trans s2_1_2
      have r_s2_1_3 := (hB.cell (p := ⟨w.heap.size + 1, 3, none⟩) hz2_1).trans s2_1_3
      have r_hz2_1 := Nat.lt_of_lt_of_le hz2_1 hB.size
      have r_s2_2_0 := (hB.cell (p := ⟨w.heap.size + 2, 0, none⟩) hz2_2).trans s2_2_0
      have r_s2_2_1 := (hB.cell (p := ⟨w.heap.size + 2, 1, none⟩) hz2_2).trans s2_2_1
      have r_hz2_2 := Nat.lt_of_lt_of_le hz2_2 hB.size
      have r_s2_3_0 := (hB.cell (p := ⟨w1.heap.size, 0, none⟩) hz2_3).trans s2_3_0
      have r_s2_3_1 := (hB.cell (p := ⟨w1.heap.size, 1, none⟩) hz2_3).trans s2_3_1
      have r_hz2_3 := Nat.lt_of_lt_of_le hz2_3 hB.size
      have hOA : Hid (((wr.alloc (.cells #[.int .i64 b, .int .i64 r] 23)).alloc (.cells #[.int .i64 b0, .int .i64 r0] 23)).ownsRow wr.heap.size 23 2 (.slice (some ⟨wr.heap.size, 0, none⟩) 1 1) 1 [.int .i64 b, .int .i64 r]) := Lib.hid (World.ownsRow.alloc (World.ownsRow_lit wr #[.int .i64 b, .int .i64 r] 1 (Nat.le_refl _) (by unfold maxLen; omega) rfl) _)
      have hNW : Hid (∀ (j : Nat) u, [Value.int .i64 b0, .int .i64 r0][j]? = some u → ((wr.alloc (.cells #[.int .i64 b, .int .i64 r] 23)).alloc (.cells #[.int .i64 b0, .int .i64 r0] 23)).cell? ((⟨wr.heap.size + 1, 0, none⟩ : Addr).add j) = some u) := Lib.hid (by
        have := news_two (wr.alloc (.cells #[.int .i64 b, .int .i64 r] 23)) b0 r0 23
        rw [World.size_alloc] at this
        exact this)
      go_wp2_with (at_builtin; refine wpList_append_own _ rfl _ _ 28 rfl wr.heap.size 23 i0 (.agg #[.int .i64 0, .int .i64 0]) 2 16 Try.underlying28 hi hz0 hz1 hz2 rfl (by decide) _ _ _ rfl hOA.out ⟨wr.heap.size + 1, 0, none⟩ 1 1 [.int .i64 b0, .int .i64 r0] rfl rfl hNW.out (by simp [Value.oneCell']) (by unfold maxLen; omega) (by omega) (by simp; omega) ?_; intro v' w9 hown' hgrow _; obtain ⟨ba, bc, hv', hTB⟩ := BuOwn.see (l := [(b, r), (b0, r0)]) hown'; subst hv'; have hown' := Lib.hid hown'; have hTB := Lib.hid hTB; have hgrow := Lib.hid hgrow)
      have hb9 : Below wr.heap.size wr w9 := (((Below.refl wr.heap.size wr).alloc (Nat.le_refl _) _).alloc (by simp) _).grown hgrow.out (by simp; omega) (fun q e => by cases e; exact Nat.le_refl _)
      have H9 := Hk.trans (hb9.mono Hk.size)
      clear hOA hNW hown' hgrow
      have v_r_s2_0_0 := (hb9.cell (p := ⟨w.heap.size, 0, none⟩) r_hz2_0).trans r_s2_0_0
      have v_r_s2_0_1 := (hb9.cell (p := ⟨w.heap.size, 1, none⟩) r_hz2_0).trans r_s2_0_1
      have v_r_hz2_0 := Nat.lt_of_lt_of_le r_hz2_0 hb9.size
      have v_r_s2_1_0 := (hb9.cell (p := ⟨w.heap.size + 1, 0, none⟩) r_hz2_1).trans r_s2_1_0
      have v_r_s2_1_1 := (hb9.cell (p := ⟨w.heap.size + 1, 1, none⟩) r_hz2_1).trans r_s2_1_1
      have v_r_s2_1_2 := (hb9.cell (p := ⟨w.heap.size + 1, 2, none⟩) r_hz2_1).trans r_s2_1_2
      have v_r_s2_1_3 := (hb9.cell (p := ⟨w.heap.size + 1, 3, none⟩) r_hz2_1).trans r_s2_1_3
      have v_r_hz2_1 := Nat.lt_of_lt_of_le r_hz2_1 hb9.size
      have v_r_s2_2_0 := (hb9.cell (p := ⟨w.heap.size + 2, 0, none⟩) r_hz2_2).trans r_s2_2_0
      have v_r_s2_2_1 := (hb9.cell (p := ⟨w.heap.size + 2, 1, none⟩) r_hz2_2).trans r_s2_2_1
      have v_r_hz2_2 := Nat.lt_of_lt_of_le r_hz2_2 hb9.size
      have v_r_s2_3_0 := (hb9.cell (p := ⟨w1.heap.size, 0, none⟩) r_hz2_3).trans r_s2_3_0
      have v_r_s2_3_1 := (hb9.cell (p := ⟨w1.heap.size, 1, none⟩) r_hz2_3).trans r_s2_3_1
      have v_r_hz2_3 := Nat.lt_of_lt_of_le r_hz2_3 hb9.size
      have EL : ∀ i : Nat, i < 3 → ∃ a nn c t, (∀ W, (Instr.index 33 (.agg #[.slice ao k cap, .slice oa k oc, .slice ba 2 bc]) (.int .i64 i)).run Try.prog W = .ok (.slice a nn c) W) ∧ nn ≤ 40 ∧ Hid (t.length = nn) ∧ Hid (TrA w9 a t)   := fun i hi => by
        match i, hi with
        | 0, _ => exact ⟨ao, k, cap, lm, fun _ => (by kernel_rfl), by omega, HML, Lib.hid (hTm.out.below H9 (Nat.le_refl _))⟩
        | 1, _ => exact ⟨oa, k, oc, mm, fun _ => (by kernel_rfl), by omega, hlen, Lib.hid (hTA.out.next hb9)⟩
        | 2, _ => exact ⟨ba, 2, bc, [(b, r), (b0, r0)], fun _ => (by kernel_rfl), by omega, Lib.hid rfl, hTB⟩
      have EL := Lib.hid EL
      clear hTB hTA hb9
      go_wp2_with fail
      go_loopw [72] (fun i wi => ∃ j : Nat, j ≤ 3 ∧ i = .int .i64 j ∧ Below w9.heap.size w9 wi) (fun i _ => 3 - (intOf i).toNat)
      case atStart => exact ⟨0, Nat.zero_le _, rfl, Below.refl _ _⟩
      case round =>
        obtain ⟨j, hj, rfl, hBi⟩ := hrel
        have Hi := H9.trans (hBi.mono H9.size)
        by_cases hjt : j < 3
        · obtain ⟨a, nn, c, t, hjx, hn40, HNt, HA⟩ := EL.out j hjt
          have hjt' : (j : Int) < 3 := by omega
          have KL := Lib.hid fun w h => bsum_any a nn c t w HNt.out (by omega) h
          have KR := Lib.hid fun w h => rsum_any a nn c t w HNt.out (by omega) h
          have HAi : Hid (TrA _ a t) := Lib.hid (HA.out.below hBi (Nat.le_refl _))
          unfold retS at KL KR
          generalize (sumR t).1 = s1 at *
          generalize (sumR t).2.1 = s2 at *
          generalize (sumR t).2.2 = s3 at *
          have ne3 : (s3 != s3) = false := by simp
          have hsame := bu_same s1 s2
          go_wp2_with fail
          refine (KL.out _ HAi).mono ?_
          rintro e w31 ⟨rfl, hb31⟩
          have hBa := hBi.trans (hb31.mono hBi.size)
          have HAj : Hid (TrA w31 a t) := Lib.hid (HAi.out.next hb31)
          clear hb31
          go_wp2_with fail
          refine (KR.out _ (Lib.hid (HAj.out.alloc _))).mono ?_
          rintro e w32 ⟨rfl, hb32⟩
          have hBb := (hBa.alloc hBa.size _).trans (hb32.mono (by have := hBa.size; simp; omega))
          have g0 : w32.cell? ⟨w31.heap.size, 0, none⟩ = some (.int .i64 s1) := (hb32.cell (p := ⟨w31.heap.size, 0, none⟩) (by simp)).trans (by go_simp)
          have g1 : w32.cell? ⟨w31.heap.size, 1, none⟩ = some (.int .i64 s2) := (hb32.cell (p := ⟨w31.heap.size, 1, none⟩) (by simp)).trans (by go_simp)
          have hz32 : w31.heap.size < w32.heap.size := by have := hb32.size; simp at this; omega
          clear hb32
          go_wp2
          go_roundw
          case rel => exact ⟨j + 1, by omega, by go_num, hBb.alloc hBb.size _⟩
          case measure => (simp [intOf] <;> omega)
        · have hjt' : ¬ (j : Int) < 3 := by omega
          obtain ⟨e1, e2, e3, q12, q13⟩ := HE.out
          obtain ⟨_, f2, f3, q22, q23⟩ := HF.out
          clear EL
          have i_v_r_s2_0_0 := (hBi.cell (p := ⟨w.heap.size, 0, none⟩) v_r_hz2_0).trans v_r_s2_0_0
          have i_v_r_s2_0_1 := (hBi.cell (p := ⟨w.heap.size, 1, none⟩) v_r_hz2_0).trans v_r_s2_0_1
          have i_v_r_hz2_0 := Nat.lt_of_lt_of_le v_r_hz2_0 hBi.size
          have i_v_r_s2_1_0 := (hBi.cell (p := ⟨w.heap.size + 1, 0, none⟩) v_r_hz2_1).trans v_r_s2_1_0
          have i_v_r_s2_1_1 := (hBi.cell (p := ⟨w.heap.size + 1, 1, none⟩) v_r_hz2_1).trans v_r_s2_1_1
          have i_v_r_s2_1_2 := (hBi.cell (p := ⟨w.heap.size + 1, 2, none⟩) v_r_hz2_1).trans v_r_s2_1_2
          have i_v_r_s2_1_3 := (hBi.cell (p := ⟨w.heap.size + 1, 3, none⟩) v_r_hz2_1).trans v_r_s2_1_3
          have i_v_r_hz2_1 := Nat.lt_of_lt_of_le v_r_hz2_1 hBi.size
          have i_v_r_s2_2_0 := (hBi.cell (p := ⟨w.heap.size + 2, 0, none⟩) v_r_hz2_2).trans v_r_s2_2_0
          have i_v_r_s2_2_1 := (hBi.cell (p := ⟨w.heap.size + 2, 1, none⟩) v_r_hz2_2).trans v_r_s2_2_1
          have i_v_r_hz2_2 := Nat.lt_of_lt_of_le v_r_hz2_2 hBi.size
          have i_v_r_s2_3_0 := (hBi.cell (p := ⟨w1.heap.size, 0, none⟩) v_r_hz2_3).trans v_r_s2_3_0
          have i_v_r_s2_3_1 := (hBi.cell (p := ⟨w1.heap.size, 1, none⟩) v_r_hz2_3).trans v_r_s2_3_1
          have i_v_r_hz2_3 := Nat.lt_of_lt_of_le v_r_hz2_3 hBi.size
          go_wp2_with fail
          obtain ⟨wo, rfl⟩ : ∃ wo : World, wo = wr := ⟨_, rfl⟩
          go_loopw [102] (fun i wr => ∃ k : Nat, k ≤ 3 ∧ i = .int .i64 k ∧ Below wo.heap.size wo wr) (fun i _ => 3 - (intOf i).toNat)
          case atStart => exact ⟨0, Nat.zero_le _, rfl, Below.refl _ _⟩
          case round =>
            obtain ⟨k, hk, rfl, hBk⟩ := hrel
            by_cases hkt : k < 3
            · obtain ⟨kb, kr, hix⟩ := EK.out k hkt
              have hkt' : (k : Int) < 3 := by omega
              go_wp2_with fail
              obtain ⟨wp, rfl⟩ : ∃ wp : World, wp = wr := ⟨_, rfl⟩
              refine wp_gen ?_
              rintro wq hwq
              have hBq : Below wp.heap.size wp wq := by rw [hwq]; exact (Below.refl _ _).alloc (Nat.le_refl _) _
              have q0 : wq.cell? ⟨wp.heap.size, 0, none⟩ = some (.int .i64 kb) := by rw [hwq]; go_simp
              have q1' : wq.cell? ⟨wp.heap.size, 1, none⟩ = some (.int .i64 kr) := by rw [hwq]; go_simp
              have hqz := cell_lt q0
              clear hwq e1 e2 e3 q12 q13 f2 f3 q22 q23
              go_loopw [115] (fun i wr => ∃ k : Nat, k ≤ 3 ∧ i = .int .i64 k ∧ Below wq.heap.size wq wr) (fun i _ => 3 - (intOf i).toNat)
              case atStart => exact ⟨0, Nat.zero_le _, rfl, Below.refl _ _⟩
              case round =>
                obtain ⟨u, hu, rfl, hBu⟩ := hrel
                by_cases hut : u < 3
                · obtain ⟨z, hux⟩ := EI.out u hut
                  have hut' : (u : Int) < 3 := by omega
                  have j0 := (hBu.cell (p := ⟨wp.heap.size, 0, none⟩) hqz).trans q0
                  have j1 := (hBu.cell (p := ⟨wp.heap.size, 1, none⟩) hqz).trans q1'
                  have jz := cell_lt j0
                  have KW := Lib.hid fun w => bwithin_any kb kr z w
                  have KW2 := Lib.hid fun w => rwithin_any kb kr z w
                  have KE := Lib.hid fun w => bcheck_any kb kr w
                  have KE2 := Lib.hid fun w => rcheck_any kb kr w
                  generalize wV kb kr z = v1 at *
                  generalize wE kb kr z = v2 at *
                  generalize eB kb kr = v3 at *
                  have ne1 : (v1 != v1) = false := by simp
                  have ne2 : (v2 != v2) = false := by simp
                  have ne3 : (v3 != v3) = false := by simp
                  have HI := hBu
                  go_wp2_with fail
                  refine (KW.out _).mono ?_
                  rintro e w51 ⟨rfl, hb51⟩
                  have hz51_0 := Nat.lt_of_lt_of_le jz hb51.size
                  have s51_0_0 := (hb51.cell (p := ⟨wp.heap.size, 0, none⟩) jz).trans j0
                  have s51_0_1 := (hb51.cell (p := ⟨wp.heap.size, 1, none⟩) jz).trans j1
                  have H51 := HI.trans (hb51.mono HI.size)
                  clear jz j0 j1 hb51
                  go_wp2_with fail
                  refine (KW2.out _).mono ?_
                  rintro e w52 ⟨rfl, hb52⟩
                  have hz52_0 := Nat.lt_of_lt_of_le hz51_0 hb52.size
                  have s52_0_0 := (hb52.cell (p := ⟨wp.heap.size, 0, none⟩) hz51_0).trans s51_0_0
                  have s52_0_1 := (hb52.cell (p := ⟨wp.heap.size, 1, none⟩) hz51_0).trans s51_0_1
                  have H52 := H51.trans (hb52.mono H51.size)
                  clear hz51_0 s51_0_0 s51_0_1 hb52 H51
                  go_wp2_with fail
                  refine wp_region_gput (R := Unit) [130, 131, 132, 133, 134, 135, 136, 137, 138, 139, 140, 141, 142, 143, 144]
                    (fun rr => [.int .i64 v1, .int .i64 v1, .bool false, .bool false, .int .i64 v2, .int .i64 v2, .bool false, .bool false, .bool false, .agg #[.int .i64 kb, .int .i64 kr], .int .i64 v3, .agg #[.int .i64 kb, .int .i64 kr], .int .i64 v3, .bool false, .bool false])
                    (fun L rr wx => Below w52.heap.size w52 wx)
                    (by kernel_rfl) (by kernel_rfl) (by kernel_rfl) () ?_ ?_ ?_
                  · exact (Below.refl _ _).drew
                  · refine ⟨?_, ?_, ?_, ?_, ?_, ?_, ?_, ?_, ?_, ?_, ?_, ?_, ?_, ?_, ?_, trivial⟩
                    all_goals
                      rintro L ⟨⟩ wx K hLi hdep hB hK
                      have hBs := hB.size
                      have f0 := (hB.cell (p := ⟨wp.heap.size, 0, none⟩) hz52_0).trans s52_0_0
                      have f1 := (hB.cell (p := ⟨wp.heap.size, 1, none⟩) hz52_0).trans s52_0_1
                      simp only [putAll, Act.put, List.setIfInBounds_toArray, List.set_cons_succ, List.set_cons_zero] at hK ⊢
                    · refine .inl ⟨by rfl, ?_⟩
                      go_simp
                      exact hK () wx hB
                    · refine .inl ⟨by rfl, ?_⟩
                      go_simp
                      exact hK () wx hB
                    · refine .inl ⟨by rfl, ?_⟩
                      go_simp
                      exact hK () wx hB
                    · refine .inl ⟨by rfl, ?_⟩
                      go_simp
                      exact hK () wx hB
                    · refine .inl ⟨by rfl, ?_⟩
                      go_simp
                      exact hK () wx hB
                    · refine .inl ⟨by rfl, ?_⟩
                      go_simp
                      exact hK () wx hB
                    · refine .inl ⟨by rfl, ?_⟩
                      go_simp
                      exact hK () wx hB
                    · refine .inl ⟨by rfl, ?_⟩
                      go_simp
                      exact hK () wx hB
                    · refine .inl ⟨by rfl, ?_⟩
                      go_simp
                      exact hK () wx hB
                    · refine .inl ⟨by rfl, ?_⟩
                      go_simp
                      exact hK () wx hB
                    · refine .inl ⟨by rfl, ?_⟩
                      go_simp
                      refine (KE.out wx).mono ?_
                      rintro e w' ⟨rfl, hb⟩
                      exact hK () w' (hB.trans (hb.mono hBs))
                    · refine .inl ⟨by rfl, ?_⟩
                      go_simp
                      exact hK () wx hB
                    · refine .inl ⟨by rfl, ?_⟩
                      go_simp
                      refine (KE2.out wx).mono ?_
                      rintro e w' ⟨rfl, hb⟩
                      exact hK () w' (hB.trans (hb.mono hBs))
                    · refine .inl ⟨by rfl, ?_⟩
                      go_simp
                      exact hK () wx hB
                    · refine .inl ⟨by rfl, ?_⟩
                      go_simp
                      exact hK () wx hB
                  rintro ⟨⟩ w53 hb53
                  simp only [putAll, Act.put, List.setIfInBounds_toArray, List.set_cons_succ, List.set_cons_zero]
                  have hz53_0 := Nat.lt_of_lt_of_le hz52_0 hb53.size
                  have s53_0_0 := (hb53.cell (p := ⟨wp.heap.size, 0, none⟩) hz52_0).trans s52_0_0
                  have s53_0_1 := (hb53.cell (p := ⟨wp.heap.size, 1, none⟩) hz52_0).trans s52_0_1
                  have H53 := H52.trans (hb53.mono H52.size)
                  clear hz52_0 s52_0_0 s52_0_1 hb53 H52
                  go_wp2
                  go_roundw
                  case rel => exact ⟨u + 1, by omega, by go_num, H53⟩
                  case measure => (simp [intOf] <;> omega)
                · have hut' : ¬ (u : Int) < 3 := by omega
                  go_wp2
                  go_roundw
                  case rel => exact ⟨k + 1, by omega, by go_num, hBk.trans ((hBq.trans (hBu.mono hBq.size)).mono hBk.size)⟩
                  case measure => (simp [intOf] <;> omega)
            · skip
              have hkt' : ¬ (k : Int) < 3 := by omega
              have HZ := Hi.trans (hBk.mono Hi.size)
              have y_i_v_r_s2_0_0 := (hBk.cell (p := ⟨w.heap.size, 0, none⟩) i_v_r_hz2_0).trans i_v_r_s2_0_0
              have y_i_v_r_s2_0_1 := (hBk.cell (p := ⟨w.heap.size, 1, none⟩) i_v_r_hz2_0).trans i_v_r_s2_0_1
              have y_i_v_r_hz2_0 := Nat.lt_of_lt_of_le i_v_r_hz2_0 hBk.size
              have y_i_v_r_s2_1_0 := (hBk.cell (p := ⟨w.heap.size + 1, 0, none⟩) i_v_r_hz2_1).trans i_v_r_s2_1_0
              have y_i_v_r_s2_1_1 := (hBk.cell (p := ⟨w.heap.size + 1, 1, none⟩) i_v_r_hz2_1).trans i_v_r_s2_1_1
              have y_i_v_r_s2_1_2 := (hBk.cell (p := ⟨w.heap.size + 1, 2, none⟩) i_v_r_hz2_1).trans i_v_r_s2_1_2
              have y_i_v_r_s2_1_3 := (hBk.cell (p := ⟨w.heap.size + 1, 3, none⟩) i_v_r_hz2_1).trans i_v_r_s2_1_3
              have y_i_v_r_hz2_1 := Nat.lt_of_lt_of_le i_v_r_hz2_1 hBk.size
              have y_i_v_r_s2_2_0 := (hBk.cell (p := ⟨w.heap.size + 2, 0, none⟩) i_v_r_hz2_2).trans i_v_r_s2_2_0
              have y_i_v_r_s2_2_1 := (hBk.cell (p := ⟨w.heap.size + 2, 1, none⟩) i_v_r_hz2_2).trans i_v_r_s2_2_1
              have y_i_v_r_hz2_2 := Nat.lt_of_lt_of_le i_v_r_hz2_2 hBk.size
              have y_i_v_r_s2_3_0 := (hBk.cell (p := ⟨w1.heap.size, 0, none⟩) i_v_r_hz2_3).trans i_v_r_s2_3_0
              have y_i_v_r_s2_3_1 := (hBk.cell (p := ⟨w1.heap.size, 1, none⟩) i_v_r_hz2_3).trans i_v_r_s2_3_1
              have y_i_v_r_hz2_3 := Nat.lt_of_lt_of_le i_v_r_hz2_3 hBk.size
              clear EK EI e1 e2 e3 q12 q13 f2 f3 q22 q23
              go_wp2_with fail
              refine (KT.out _ HZ).mono ?_
              rintro e w71 ⟨a1, c1, rfl, g1, _, hb71⟩
              have T1 := Lib.hid g1
              clear g1
              have hz71_0 := Nat.lt_of_lt_of_le y_i_v_r_hz2_0 hb71.size
              have s71_0_0 := (hb71.cell (p := ⟨w.heap.size, 0, none⟩) y_i_v_r_hz2_0).trans y_i_v_r_s2_0_0
              have s71_0_1 := (hb71.cell (p := ⟨w.heap.size, 1, none⟩) y_i_v_r_hz2_0).trans y_i_v_r_s2_0_1
              have hz71_1 := Nat.lt_of_lt_of_le y_i_v_r_hz2_1 hb71.size
              have s71_1_0 := (hb71.cell (p := ⟨w.heap.size + 1, 0, none⟩) y_i_v_r_hz2_1).trans y_i_v_r_s2_1_0
              have s71_1_1 := (hb71.cell (p := ⟨w.heap.size + 1, 1, none⟩) y_i_v_r_hz2_1).trans y_i_v_r_s2_1_1
              have s71_1_2 := (hb71.cell (p := ⟨w.heap.size + 1, 2, none⟩) y_i_v_r_hz2_1).trans y_i_v_r_s2_1_2
              have s71_1_3 := (hb71.cell (p := ⟨w.heap.size + 1, 3, none⟩) y_i_v_r_hz2_1).trans y_i_v_r_s2_1_3
              have hz71_2 := Nat.lt_of_lt_of_le y_i_v_r_hz2_2 hb71.size
              have s71_2_0 := (hb71.cell (p := ⟨w.heap.size + 2, 0, none⟩) y_i_v_r_hz2_2).trans y_i_v_r_s2_2_0
              have s71_2_1 := (hb71.cell (p := ⟨w.heap.size + 2, 1, none⟩) y_i_v_r_hz2_2).trans y_i_v_r_s2_2_1
              have hz71_3 := Nat.lt_of_lt_of_le y_i_v_r_hz2_3 hb71.size
              have s71_3_0 := (hb71.cell (p := ⟨w1.heap.size, 0, none⟩) y_i_v_r_hz2_3).trans y_i_v_r_s2_3_0
              have s71_3_1 := (hb71.cell (p := ⟨w1.heap.size, 1, none⟩) y_i_v_r_hz2_3).trans y_i_v_r_s2_3_1
              have H71 := HZ.trans (hb71.mono HZ.size)
              clear y_i_v_r_hz2_0 y_i_v_r_s2_0_0 y_i_v_r_s2_0_1 y_i_v_r_hz2_1 y_i_v_r_s2_1_0 y_i_v_r_s2_1_1 y_i_v_r_s2_1_2 y_i_v_r_s2_1_3 y_i_v_r_hz2_2 y_i_v_r_s2_2_0 y_i_v_r_s2_2_1 y_i_v_r_hz2_3 y_i_v_r_s2_3_0 y_i_v_r_s2_3_1 hb71
              have hp := HPP.out
              go_wp2_with fail
              refine wp_region_gput (R := (Option Addr) × Nat × (Option Addr) × Nat) [149, 150, 151, 152, 153, 154, 155, 156, 157, 158, 159, 160, 161, 162, 163, 164, 165, 166, 167, 168, 169, 10]
                (fun rr => [.slice a1 n c1, .int .i64 0, .bool true, .bool true, .slice a1 n c1, .agg #[.int .i64 xa, .int .i64 xs], .int .i64 t0, .int .u8 p, .slice rr.1 n rr.2.1, .int .i64 et, .slice a1 n c1, .agg #[.int .i64 xa, .int .i64 xs], .int .i64 t0, .int .u8 p, .slice rr.2.2.1 n rr.2.2.2, .int .i64 et, .bool true, .bool true, .bool true, .bool true, .bool true, .bool true])
                (fun L rr wx => Below w71.heap.size w71 wx ∧ (L 8 = true → TrS wx rr.1 rr.2.1 lb) ∧ (L 14 = true → TrS wx rr.2.2.1 rr.2.2.2 lb))
                (by kernel_rfl) (by kernel_rfl) (by kernel_rfl) (none, 0, none, 0) ?_ ?_ ?_
              · exact ⟨(Below.refl _ _).drew, fun h => absurd h (by decide), fun h => absurd h (by decide)⟩
              · refine ⟨?_, ?_, ?_, ?_, ?_, ?_, ?_, ?_, ?_, ?_, ?_, ?_, ?_, ?_, ?_, ?_, ?_, ?_, ?_, ?_, ?_, ?_, trivial⟩
                all_goals
                  rintro L ⟨a2, c2, a3, c3⟩ wx K hLi hdep ⟨hB, h8, h14⟩ hK
                  try dsimp only at h8 h14
                  have hBs := hB.size
                  have f0 := (hB.cell (p := ⟨w.heap.size, 0, none⟩) hz71_0).trans s71_0_0
                  have f1 := (hB.cell (p := ⟨w.heap.size, 1, none⟩) hz71_0).trans s71_0_1
                  have f2 := (hB.cell (p := ⟨w.heap.size + 1, 0, none⟩) hz71_1).trans s71_1_0
                  have f3 := (hB.cell (p := ⟨w.heap.size + 1, 1, none⟩) hz71_1).trans s71_1_1
                  have f4 := (hB.cell (p := ⟨w.heap.size + 1, 2, none⟩) hz71_1).trans s71_1_2
                  have f5 := (hB.cell (p := ⟨w.heap.size + 1, 3, none⟩) hz71_1).trans s71_1_3
                  have f6 := (hB.cell (p := ⟨w.heap.size + 2, 0, none⟩) hz71_2).trans s71_2_0
                  have f7 := (hB.cell (p := ⟨w.heap.size + 2, 1, none⟩) hz71_2).trans s71_2_1
                  have f8 := (hB.cell (p := ⟨w1.heap.size, 0, none⟩) hz71_3).trans s71_3_0
                  have f9 := (hB.cell (p := ⟨w1.heap.size, 1, none⟩) hz71_3).trans s71_3_1
                  simp only [putAll, Act.put, List.setIfInBounds_toArray, List.set_cons_succ, List.set_cons_zero] at hK ⊢
                · refine .inl ⟨by rfl, ?_⟩
                  go_simp
                  exact hK (a2, c2, a3, c3) wx ⟨hB, by simpa using h8, by simpa using h14⟩
                · refine .inl ⟨by rfl, ?_⟩
                  go_simp
                  refine (KC0.out a1 c1 wx (T1.out.next hB)).mono ?_
                  rintro e w' ⟨rfl, hb⟩
                  exact hK (a2, c2, a3, c3) w' ⟨(hB.trans (hb.mono hBs)), fun h => (h8 (by simpa using h)).next hb, fun h => (h14 (by simpa using h)).next hb⟩
                · refine .inl ⟨by rfl, ?_⟩
                  go_simp
                  exact hK (a2, c2, a3, c3) wx ⟨hB, by simpa using h8, by simpa using h14⟩
                · refine .inl ⟨by rfl, ?_⟩
                  go_simp
                  exact hK (a2, c2, a3, c3) wx ⟨hB, by simpa using h8, by simpa using h14⟩
                · refine .inl ⟨by rfl, ?_⟩
                  go_simp
                  exact hK (a2, c2, a3, c3) wx ⟨hB, by simpa using h8, by simpa using h14⟩
                · refine .inl ⟨by rfl, ?_⟩
                  go_simp
                  exact hK (a2, c2, a3, c3) wx ⟨hB, by simpa using h8, by simpa using h14⟩
                · refine .inl ⟨by rfl, ?_⟩
                  go_simp
                  exact hK (a2, c2, a3, c3) wx ⟨hB, by simpa using h8, by simpa using h14⟩
                · refine .inl ⟨by rfl, ?_⟩
                  go_simp
                  exact hK (a2, c2, a3, c3) wx ⟨hB, by simpa using h8, by simpa using h14⟩
                · refine .inl ⟨by rfl, ?_⟩
                  go_simp
                  refine (retTr (KBe.out a1 c1 wx (T1.out.next hB)) HBL).mono ?_
                  rintro e w' ⟨a2', c2', rfl, g1, g2, hb⟩
                  exact hK (a2', c2', a3, c3) w' ⟨(hB.trans (hb.mono hBs)), fun _ => g1, fun h => (h14 (by simpa using h)).next hb⟩
                · have p8 := h8 (hdep ⟨8, .data⟩ (by simp) rfl)
                  refine .inl ⟨by rfl, ?_⟩
                  go_simp
                  refine (KC1.out a2 c2 wx p8).mono ?_
                  rintro e w' ⟨rfl, hb⟩
                  exact hK (a2, c2, a3, c3) w' ⟨(hB.trans (hb.mono hBs)), fun h => (h8 (by simpa using h)).next hb, fun h => (h14 (by simpa using h)).next hb⟩
                · refine .inl ⟨by rfl, ?_⟩
                  go_simp
                  exact hK (a2, c2, a3, c3) wx ⟨hB, by simpa using h8, by simpa using h14⟩
                · refine .inl ⟨by rfl, ?_⟩
                  go_simp
                  exact hK (a2, c2, a3, c3) wx ⟨hB, by simpa using h8, by simpa using h14⟩
                · refine .inl ⟨by rfl, ?_⟩
                  go_simp
                  exact hK (a2, c2, a3, c3) wx ⟨hB, by simpa using h8, by simpa using h14⟩
                · refine .inl ⟨by rfl, ?_⟩
                  go_simp
                  exact hK (a2, c2, a3, c3) wx ⟨hB, by simpa using h8, by simpa using h14⟩
                · refine .inl ⟨by rfl, ?_⟩
                  go_simp
                  refine (retTr (KBe.out a1 c1 wx (T1.out.next hB)) HBL).mono ?_
                  rintro e w' ⟨a3', c3', rfl, g1, g2, hb⟩
                  exact hK (a2, c2, a3', c3') w' ⟨(hB.trans (hb.mono hBs)), fun h => (h8 (by simpa using h)).next hb, fun _ => g1⟩
                · have p14 := h14 (hdep ⟨14, .data⟩ (by simp) rfl)
                  refine .inl ⟨by rfl, ?_⟩
                  go_simp
                  refine (KC2.out a3 c3 wx p14).mono ?_
                  rintro e w' ⟨rfl, hb⟩
                  exact hK (a2, c2, a3, c3) w' ⟨(hB.trans (hb.mono hBs)), fun h => (h8 (by simpa using h)).next hb, fun h => (h14 (by simpa using h)).next hb⟩
                · refine .inl ⟨by rfl, ?_⟩
                  go_simp
                  exact hK (a2, c2, a3, c3) wx ⟨hB, by simpa using h8, by simpa using h14⟩
                · refine .inl ⟨by rfl, ?_⟩
                  go_simp
                  exact hK (a2, c2, a3, c3) wx ⟨hB, by simpa using h8, by simpa using h14⟩
                · refine .inl ⟨by rfl, ?_⟩
                  go_simp
                  exact hK (a2, c2, a3, c3) wx ⟨hB, by simpa using h8, by simpa using h14⟩
                · refine .inl ⟨by rfl, ?_⟩
                  go_simp
                  refine (works03 wx).mono ?_
                  rintro e w' ⟨rfl, hb⟩
                  exact hK (a2, c2, a3, c3) w' ⟨(hB.trans (hb.mono hBs)), fun h => (h8 (by simpa using h)).next hb, fun h => (h14 (by simpa using h)).next hb⟩
                · refine .inl ⟨by rfl, ?_⟩
                  go_simp
                  exact hK (a2, c2, a3, c3) wx ⟨hB, by simpa using h8, by simpa using h14⟩
                · refine .inl ⟨by rfl, ?_⟩
                  go_simp
                  exact hK (a2, c2, a3, c3) wx ⟨hB, by simpa using h8, by simpa using h14⟩
              rintro ⟨a2, c2, a3, c3⟩ w72 ⟨hb72, q8, q14⟩
              replace q8 := q8 rfl
              replace q14 := q14 rfl
              try dsimp only at q8 q14
              simp only [putAll, Act.put, List.setIfInBounds_toArray, List.set_cons_succ, List.set_cons_zero]
              have hz72_0 := Nat.lt_of_lt_of_le hz71_0 hb72.size
              have s72_0_0 := (hb72.cell (p := ⟨w.heap.size, 0, none⟩) hz71_0).trans s71_0_0
              have s72_0_1 := (hb72.cell (p := ⟨w.heap.size, 1, none⟩) hz71_0).trans s71_0_1
              have hz72_1 := Nat.lt_of_lt_of_le hz71_1 hb72.size
              have s72_1_0 := (hb72.cell (p := ⟨w.heap.size + 1, 0, none⟩) hz71_1).trans s71_1_0
              have s72_1_1 := (hb72.cell (p := ⟨w.heap.size + 1, 1, none⟩) hz71_1).trans s71_1_1
              have s72_1_2 := (hb72.cell (p := ⟨w.heap.size + 1, 2, none⟩) hz71_1).trans s71_1_2
              have s72_1_3 := (hb72.cell (p := ⟨w.heap.size + 1, 3, none⟩) hz71_1).trans s71_1_3
              have hz72_2 := Nat.lt_of_lt_of_le hz71_2 hb72.size
              have s72_2_0 := (hb72.cell (p := ⟨w.heap.size + 2, 0, none⟩) hz71_2).trans s71_2_0
              have s72_2_1 := (hb72.cell (p := ⟨w.heap.size + 2, 1, none⟩) hz71_2).trans s71_2_1
              have hz72_3 := Nat.lt_of_lt_of_le hz71_3 hb72.size
              have s72_3_0 := (hb72.cell (p := ⟨w1.heap.size, 0, none⟩) hz71_3).trans s71_3_0
              have s72_3_1 := (hb72.cell (p := ⟨w1.heap.size, 1, none⟩) hz71_3).trans s71_3_1
              have H72 := H71.trans (hb72.mono H71.size)
              clear hz71_0 s71_0_0 s71_0_1 hz71_1 s71_1_0 s71_1_1 s71_1_2 s71_1_3 hz71_2 s71_2_0 s71_2_1 hz71_3 s71_3_0 s71_3_1 hb72 H71
              clear hp
              go_wp2
              go_ret
              exact ⟨rfl, H72⟩
end Go.Proofs.Ytfbfnoiapeajeaa
