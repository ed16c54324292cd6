/- The reference of bucket: Conforms, First: what they compute. -/
import Derived.Test.YtfbfnoiapeajeaaBk3
namespace Go.Proofs.Ytfbfnoiapeajeaa
open Go.RowKit

def okBT (b r : Int) (l : Tr) : Bool := okB b r && okT l
theorem eBT_ok {b r : Int} {l : Tr} (h : okBT b r l = true) : eBT b r l = 0 ∧ okB b r = true ∧ okT l = true := by
  unfold okBT at h
  rw [Bool.and_eq_true] at h
  unfold eBT eT
  rw [h.1, h.2]
  exact ⟨rfl, rfl, rfl⟩
theorem eBT_bad {b r : Int} {l : Tr} (h : okBT b r l = false) : eBT b r l = 130 ∨ eBT b r l = 131 := by
  unfold okBT at h
  unfold eBT eT
  cases h1 : okB b r
  · exact .inl rfl
  · rw [h1, Bool.true_and] at h
    rw [h]
    exact .inr rfl
/-- The results of Conforms and First. -/
def confV (b r : Int) (l : Tr) : Bool := okBT b r l && fitsB b r l
def fstV (b r : Int) (l : Tr) : Int := if okBT b r l then firstV b r l else 0
set_option maxHeartbeats 1000000 in
theorem rconforms_any (b r : Int) (a : Option Addr) (n cap : Nat) (l : Tr) (w : World) (hn : l.length = n) (hm : n ≤ 1000) (hc : Hid (TrA w a l)) :
    Calls Try.prog 24 #[.agg #[.int .i64 b, .int .i64 r], .slice a n cap] w fun e w' => e = .returned (.tuple #[.bool (confV b r l), .int .i64 (eBT b r l)]) ∧ Below w.heap.size w w' := by
  have K1 := Lib.hid fun w hc => both_any b r a n cap l w hn hm hc
  have K2 := Lib.hid fun h1 h2 w hc => fits_any b r a n cap l w hn h1 h2 hc
  have hB : Below w.heap.size w (w.alloc (.cells #[.int .i64 b, .int .i64 r] 23)) := (Below.refl _ _).alloc (Nat.le_refl _) _
  have hc1 : Hid (TrA (w.alloc (.cells #[.int .i64 b, .int .i64 r] 23)) a l) := Lib.hid (hc.out.below hB (Nat.le_refl _))
  clear hn hm
  unfold confV
  cases h : okBT b r l
  · have hE : (eBT b r l != 0) = true := by rcases eBT_bad h with e | e <;> rw [e] <;> rfl
    generalize eBT b r l = x at *
    clear h
    go_enter Try.func24, Try.ntmps24
    go_wp2_with fail
    refine (K1.out _ hc1).mono ?_
    rintro e w1 ⟨rfl, hb⟩
    have HB := hB.trans (hb.mono (by simp))
    clear hb
    go_wp2
    go_ret2
    exact ⟨rfl, HB⟩
  · obtain ⟨h0, h1, h2⟩ := eBT_ok h
    have K2 := Lib.hid (K2.out h1 h2)
    rw [h0] at K1
    rw [Bool.true_and, h0]
    clear h h0 h1 h2
    generalize fitsB b r l = f at *
    go_enter Try.func24, Try.ntmps24
    go_wp2_with fail
    refine (K1.out _ hc1).mono ?_
    rintro e w1 ⟨rfl, hb⟩
    have HB := hB.trans (hb.mono (by simp))
    have e1 := (hb.cell (p := ⟨w.heap.size, 0, none⟩) (by simp)).trans (show _ = some (.int .i64 b) by go_simp)
    have e2 := (hb.cell (p := ⟨w.heap.size, 1, none⟩) (by simp)).trans (show _ = some (.int .i64 r) by go_simp)
    clear hb
    go_wp2_with fail
    refine (K2.out _ (Lib.hid (hc.out.below HB (Nat.le_refl _)))).mono ?_
    rintro e w2 ⟨rfl, hb2⟩
    have HB2 := HB.trans (hb2.mono HB.size)
    clear hb2
    go_wp2
    go_ret2
    exact ⟨rfl, HB2⟩
theorem take_len {l : Tr} {n k : Nat} (hn : l.length = n) (hk : k < n) : (l.take (k + 1)).length = k + 1 := by rw [List.length_take]; omega
theorem okT_take {l : Tr} (h : okT l = true) (k : Nat) : okT (l.take k) = true := by
  rw [okT_iff] at h ⊢
  exact ⟨by rw [List.length_take]; omega, chainB_take l 0 k h.2⟩
theorem pref_step (b r : Int) (l : Tr) {n k : Nat} (hk : k < n) : prefV b r l (n - k) k = if fitsB b r (l.take (k + 1)) then prefV b r l (n - (k + 1)) (k + 1) else k := by
  rw [show n - k = (n - (k + 1)) + 1 by omega, prefV]
set_option maxRecDepth 100000 in
set_option maxHeartbeats 2000000 in
theorem rfirst_any (b r : Int) (a : Option Addr) (n cap : Nat) (l : Tr) (w : World) (hn : l.length = n) (hm : n ≤ 1000) (hnc : n ≤ cap) (hc : Hid (TrA w a l)) :
    Calls Try.prog 26 #[.agg #[.int .i64 b, .int .i64 r], .slice a n cap] w fun e w' => e = .returned (.tuple #[.int .i64 (fstV b r l), .int .i64 (eBT b r l)]) ∧ Below w.heap.size w w' := by
  have K1 := Lib.hid fun w hc => both_any b r a n cap l w hn hm hc
  have hB : Below w.heap.size w (w.alloc (.cells #[.int .i64 b, .int .i64 r] 23)) := (Below.refl _ _).alloc (Nat.le_refl _) _
  have hc1 : Hid (TrA (w.alloc (.cells #[.int .i64 b, .int .i64 r] 23)) a l) := Lib.hid (hc.out.below hB (Nat.le_refl _))
  have HN := Lib.hid hn
  unfold fstV
  cases h : okBT b r l
  · have hE : (eBT b r l != 0) = true := by rcases eBT_bad h with e | e <;> rw [e] <;> rfl
    generalize eBT b r l = x at *
    clear h hn
    go_enter Try.func26, Try.ntmps26
    go_wp2_with fail
    refine (K1.out _ hc1).mono ?_
    rintro e w1 ⟨rfl, hb⟩
    have HB := hB.trans (hb.mono (by simp))
    clear hb
    go_wp2
    go_ret2
    exact ⟨rfl, HB⟩
  · obtain ⟨h0, h1, h2⟩ := eBT_ok h
    have hch := (okT_iff.1 h2)
    have hr0 := (okB_iff.1 h1).2.1
    have hn1 : (n : Int) ≤ 200 := by omega
    have K2 := Lib.hid fun k (hk : k < n) w hc => fits_any b r a (k + 1) cap (l.take (k + 1)) w (take_len hn hk) h1 (okT_take h2 (k + 1)) hc
    have HF := Lib.hid (pref_first (b := b) (r := r) (by omega) hch.2 n 0 (by omega) (by omega))
    rw [h0] at K1
    rw [if_pos rfl, h0]
    clear h h0 h1 h2 hch hr0 hn
    go_enter Try.func26, Try.ntmps26
    go_wp2_with fail
    refine (K1.out _ hc1).mono ?_
    rintro e w1 ⟨rfl, hb⟩
    have HB := hB.trans (hb.mono (by simp))
    have e1 := (hb.cell (p := ⟨w.heap.size, 0, none⟩) (by simp)).trans (show _ = some (.int .i64 b) by go_simp)
    have e2 := (hb.cell (p := ⟨w.heap.size, 1, none⟩) (by simp)).trans (show _ = some (.int .i64 r) by go_simp)
    have hz := cell_lt e1
    clear hb
    go_wp2_with fail
    go_loopw [7] (fun i wr => ∃ k : Nat, k ≤ n ∧ i = .int .i64 k ∧ Below w1.heap.size w1 wr ∧ Hid (firstV b r l = prefV b r l (n - k) k)) (fun i _ => n - (intOf i).toNat)
    case atStart => exact ⟨0, Nat.zero_le _, rfl, Below.refl _ _, Lib.hid HF.out.symm⟩
    case round =>
      obtain ⟨k, hk, rfl, hBr, hpos⟩ := hrel
      have HB2 := HB.trans (hBr.mono HB.size)
      by_cases hlt : k < n
      · have HX : k < l.length := by rw [HN.out]; exact hlt
        obtain ⟨bb, o, rfl, hbw, q1, q2⟩ := hc.out.get HB2 HX
        clear q1 q2
        have HS := Lib.hid (hpos.out.trans (pref_step b r l hlt))
        have hlt' : (k : Int) < n := by omega
        have g1 := (hBr.cell (p := ⟨w.heap.size, 0, none⟩) hz).trans e1
        have g2 := (hBr.cell (p := ⟨w.heap.size, 1, none⟩) hz).trans e2
        have hzr := cell_lt g1
        have i1 : IntKind.i64.wrap ((k : Int) + 1) = (k : Int) + 1 := IntWalk.i64_in _ (by omega)
        have i2 : (0 : Int) ≤ (k : Int) + 1 := by omega
        have i3 : ((k : Int) + 1).toNat = k + 1 := by omega
        have R := Lib.hid fun (p : Bw wr) => Calls.bw_of (p := p) (K2.out k hlt p.w (Lib.hid ((hc.out.below HB2 (Nat.le_refl _)).take (k + 1) |>.below p.h (Nat.le_refl _))))
        clear hpos HX
        cases hf : fitsB b r (l.take (k + 1))
        · have HR : Hid (firstV b r l = k) := Lib.hid (by rw [HS.out, hf]; rfl)
          rw [hf] at R
          clear hf HS
          go_wp2_with fail
          have F0 := Bw.cell hzr g1
          have F1 := Bw.cell hzr g2
          refine wp_region_bw (by kernel_rfl) (by kernel_rfl) ?_
          repeat (go_big_quiet_step ((first | (go_at_call 36; exact (R.out _)))))
          refine wpQuiet_nil ?_
          rintro w3 ⟨⟨_, hb3⟩, rfl⟩
          clear F0 F1
          go_wp2
          go_ret2
          exact ⟨ret_int2 HR.out.symm rfl, HB2.trans (hb3.mono HB2.size)⟩
        · have HR : Hid (firstV b r l = prefV b r l (n - (k + 1)) (k + 1)) := Lib.hid (by rw [HS.out, hf]; rfl)
          rw [hf] at R
          clear hf HS
          go_wp2_with fail
          have F0 := Bw.cell hzr g1
          have F1 := Bw.cell hzr g2
          refine wp_region_bw (by kernel_rfl) (by kernel_rfl) ?_
          repeat (go_big_quiet_step ((first | (go_at_call 36; exact (R.out _)))))
          refine wpQuiet_nil ?_
          rintro w3 ⟨⟨_, hb3⟩, rfl⟩
          clear F0 F1
          clear i1 i2 i3
          go_wp2
          go_roundw
          case rel => exact ⟨k + 1, by omega, by go_num, hBr.trans (hb3.mono hBr.size), HR⟩
          case measure => simp [intOf]; omega
      · have HR : Hid (firstV b r l = -1) := Lib.hid (by rw [hpos.out, show n - k = 0 by omega, prefV])
        have hlt' : ¬ (k : Int) < n := by omega
        clear hpos
        go_wp2
        go_ret2
        exact ⟨ret_int2 HR.out.symm rfl, HB2⟩
end Go.Proofs.Ytfbfnoiapeajeaa
