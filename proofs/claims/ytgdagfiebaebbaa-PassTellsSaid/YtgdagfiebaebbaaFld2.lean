/- The package ptp: slices.Concat of lists of fields; visit. -/
import Derived.Test.YtgdagfiebaebbaaFld1
namespace Go.Proofs.Ytgdagfiebaebbaa
open Go.RowKit

/-- Slices of fields lie at an address. -/
def SsA (w : World) (B : Nat) (a : Option Addr) (ls : List (List Fd)) : Prop := ∀ k (h : k < ls.length), ∃ b o ak ck, a = some ⟨b, o, none⟩ ∧ w.cell? ⟨b, o + k, none⟩ = some (.slice ak (ls[k]).length ck) ∧ (ak = none → ck = 0) ∧ FsA w B ak ls[k]
theorem SsA.below {w w' : World} {B : Nat} {a : Option Addr} {ls : List (List Fd)} (h : SsA w B a ls) (hb : Below w.heap.size w w') : SsA w' B a ls := fun k hk => by
  obtain ⟨b, o, ak, ck, e, h1, h2, h3⟩ := h k hk
  exact ⟨b, o, ak, ck, e, (hb.cell (p := ⟨b, o + k, none⟩) (cell_lt h1)).trans h1, h2, h3.below hb⟩
def nF (ls : List (List Fd)) (k : Nat) : Nat := ((ls.take k).flatten).length
theorem take_flat {ls : List (List Fd)} {k : Nat} (h : k < ls.length) : (ls.take (k + 1)).flatten = (ls.take k).flatten ++ ls[k] := by
  have e : ls.take (k + 1) = ls.take k ++ [ls[k]] := by simp
  rw [e, List.flatten_append]
  simp
theorem nF_succ {ls : List (List Fd)} {k : Nat} (h : k < ls.length) : nF ls (k + 1) = nF ls k + (ls[k]).length := by
  unfold nF; rw [take_flat h, List.length_append]
theorem nF_le (ls : List (List Fd)) : ∀ k, nF ls k ≤ ls.flatten.length := by
  intro k
  unfold nF
  have e : ls.flatten = (ls.take k).flatten ++ (ls.drop k).flatten := by rw [← List.flatten_append, List.take_append_drop]
  rw [e, List.length_append]; omega
set_option maxRecDepth 100000 in
set_option maxHeartbeats 2000000 in
theorem concat_any (B : Nat) (sa : Option Addr) (n cs : Nat) (ls : List (List Fd)) (w : World) (hn : ls.length = n) (hn3 : n ≤ 100) (h0 : 0 < ls.flatten.length) (h100 : ls.flatten.length ≤ 100) (hS : Hid (SsA w B sa ls)) :
    Calls Try.prog 75 #[.slice sa n cs] w (RetFs w B ls.flatten) := by
  obtain ⟨N, hN⟩ : ∃ N, ls.flatten.length = N := ⟨_, rfl⟩
  have HG := Lib.hid fun w => grow_any N B w (by omega) (by omega)
  have HX := Lib.hid fun (k : Nat) => nF_le ls k
  have HN := Lib.hid hn
  have HNN : Hid (nF ls n = N) := Lib.hid (by unfold nF; rw [← hn, List.take_length]; exact hN)
  have HT : Hid (∀ k, nF ls k ≤ N) := Lib.hid fun k => by rw [← hN]; exact nF_le ls k
  have HF : Hid ((ls.take n).flatten = ls.flatten) := Lib.hid (by rw [← hn, List.take_length])
  have hN1 : (N : Int) ≤ 100 := by omega
  have hN2 : 0 < (N : Int) := by omega
  have hn4 : (n : Int) ≤ 100 := by omega
  have H100 := Lib.hid h100
  clear hn h0 h100 hN HX
  go_enter Try.func75, Try.ntmps75
  go_wp2_with fail
  go_loopw [3, 5, 11] (fun s _ i wr => ∃ k : Nat, k ≤ n ∧ i = .int .i64 k ∧ s = .int .i64 (nF ls k) ∧ Below w.heap.size w wr) (fun _ _ i _ => n - (intOf i).toNat)
  case atStart => exact ⟨0, Nat.zero_le _, rfl, rfl, Below.refl _ _⟩
  case round =>
    obtain ⟨k, hk, rfl, rfl, hB⟩ := hrel
    by_cases hlt : k < n
    · have HXk : k < ls.length := by rw [HN.out]; exact hlt
      obtain ⟨b, o, ak, ck, rfl, q1, -, -⟩ := hS.out k HXk
      have q1 := (hB.cell (p := ⟨b, o + k, none⟩) (cell_lt q1)).trans q1
      have hs := Lib.hid (nF_succ HXk)
      have t1 := HT.out k
      have t2 := HT.out (k + 1)
      rw [hs.out] at t2
      generalize (ls[k]).length = m at *
      generalize nF ls k = s at *
      have hlt' : (k : Int) < n := by omega
      have t3 : (s : Int) + m ≤ 100 := by omega
      clear t1 t2 HXk
      have t4 : ¬ ((s : Int) + m < 0) := by omega
      go_wp2
      go_roundw
      case rel => exact ⟨k + 1, by omega, by go_num, by rw [hs.out]; go_num, hB⟩
      case measure => simp [intOf]; omega
    · obtain rfl : k = n := by omega
      rw [HNN.out]
      have hlt' : ¬ ((k : Int) < k) := by omega
      go_wp2_with fail
      refine (HG.out _).mono ?_
      rintro e w1 ⟨v, rfl, hO, hb⟩
      have hB1 := hB.trans (hb.mono hB.size)
      have hO : FsOwn w1 w.heap.size B v [] := by
        obtain ⟨h1, h2⟩ := hO
        refine ⟨h1, ?_⟩
        rcases h2 with h2 | ⟨g, cap, cur, e1, e2, e3⟩
        · exact .inl h2
        · exact .inr ⟨g, cap, cur, e1, Nat.le_trans hB.size e2, e3⟩
      clear hb hB
      go_wp2_with fail
      go_loopw [6, 8, 27] (fun v _ i wr => ∃ j : Nat, j ≤ k ∧ i = .int .i64 j ∧ FsOwn wr w.heap.size B v (ls.take j).flatten ∧ Below w.heap.size w wr) (fun _ _ i _ => k - (intOf i).toNat)
      case atStart => exact ⟨0, Nat.zero_le _, rfl, hO, hB1⟩
      case round =>
        obtain ⟨j, hj, rfl, hO, hB⟩ := hrel
        by_cases hlt : j < k
        · have HXk : j < ls.length := by rw [HN.out]; exact hlt
          obtain ⟨b, o, ak, ck, rfl, q1, q2, q3⟩ := hS.out j HXk
          have q1 := (hB.cell (p := ⟨b, o + j, none⟩) (cell_lt q1)).trans q1
          have q3 : FsA wr B ak ls[j] := fun i hi => by
            obtain ⟨bb, oo, e1, c1, c2, c3, c4⟩ := q3 i hi
            have hl := cell_lt c1
            exact ⟨bb, oo, e1, (hB.cell (p := ⟨bb, oo + i * 4, none⟩) hl).trans c1, (hB.cell (p := ⟨bb, oo + i * 4 + 1, none⟩) hl).trans c2, (hB.cell (p := ⟨bb, oo + i * 4 + 2, none⟩) hl).trans c3, (hB.cell (p := ⟨bb, oo + i * 4 + 3, none⟩) hl).trans c4⟩
          have hT := Lib.hid (take_flat HXk)
          have hL : Hid ((ls.take j).flatten.length + (ls[j]).length ≤ 1000) := Lib.hid (by
            have h1 := nF_succ HXk
            have h2 := nF_le ls (j + 1)
            have h3 := H100.out
            unfold nF at h1 h2
            omega)
          have q2 := Lib.hid q2
          have q3 := Lib.hid q3
          have hO := Lib.hid hO
          generalize (ls.take j).flatten = out at *
          generalize ls[j] = m at *
          have hlt' : (j : Int) < k := by omega
          clear HXk hS
          go_wp2_with (at_builtin; refine wpList_apndF rfl _ _ rfl w.heap.size B _ out m rfl hO.out ak ck rfl q2.out q3.out hL.out hB.size ?_; intro v' w2 hO2 hg2 _; have hO2 := Lib.hid hO2; have hg2 := Lib.hid hg2)
          go_roundw
          case rel => exact ⟨j + 1, by omega, by go_num, by rw [hT.out]; exact hO2.out, hB.grown hg2.out hB.size (fun k e => (World.ownsRow.lt hO.out k e).1)⟩
          case measure => simp [intOf]; omega
        · obtain rfl : j = k := by omega
          rw [HF.out] at hO
          have hlt' : ¬ ((j : Int) < j) := by omega
          have hO := Lib.hid hO
          go_wp2
          go_ret
          exact ⟨_, rfl, hO.out, hB⟩
end Go.Proofs.Ytgdagfiebaebbaa
