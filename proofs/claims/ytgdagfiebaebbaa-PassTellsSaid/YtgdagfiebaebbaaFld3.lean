/- The package ptp: visit: a function called with each field. -/
import Derived.Test.YtgdagfiebaebbaaFld2
namespace Go.Proofs.Ytgdagfiebaebbaa
open Go.RowKit

/-- Below a size, but for one block. -/
structure BelX (M B : Nat) (w w' : World) : Prop where
  os : w'.os = w.os
  tape : w'.tape = w.tape
  output : w'.output = w.output
  size : w.heap.size ≤ w'.heap.size
  block : ∀ k, k < B → k ≠ M → w'.heap[k]? = w.heap[k]?
theorem Below.belX {B : Nat} {w w' : World} (h : Below B w w') (M : Nat) : BelX M B w w' := ⟨h.os, h.tape, h.output, h.size, fun k hk _ => h.block k hk⟩
theorem BelX.trans {M B : Nat} {w w1 w2 : World} (h : BelX M B w w1) (h2 : BelX M B w1 w2) : BelX M B w w2 :=
  ⟨h2.os.trans h.os, h2.tape.trans h.tape, h2.output.trans h.output, Nat.le_trans h.size h2.size, fun k hk hne => (h2.block k hk hne).trans (h.block k hk hne)⟩
theorem BelX.mono {M B B' : Nat} {w w' : World} (h : BelX M B w w') (hb : B' ≤ B) : BelX M B' w w' := ⟨h.os, h.tape, h.output, h.size, fun k hk => h.block k (by omega)⟩
theorem BelX.cell {M B : Nat} {w w' : World} (h : BelX M B w w') {p : Addr} (hp : p.block < B) (hne : p.block ≠ M) : w'.cell? p = w.cell? p := World.cell?_of_block (h.block _ hp hne)
theorem BelX.frozen {M B : Nat} {w w' : World} (h : BelX M B w w') {p : Addr} (hp : p.block < B) (hne : p.block ≠ M) : w'.frozen? p = w.frozen? p := World.frozen?_of_block (h.block _ hp hne)
theorem BelX.below {M B : Nat} {w w' : World} (h : BelX M B w w') (hB : B ≤ M) : Below B w w' := ⟨h.os, h.tape, h.output, h.size, fun k hk => h.block k hk (by omega)⟩
theorem FsA.belX {w w' : World} {B M : Nat} {a : Option Addr} {l : List Fd} (h : FsA w B a l) (hb : BelX M w.heap.size w w') (hne : ∀ q, a = some q → q.block ≠ M) : FsA w' B a l := fun k hk => by
  obtain ⟨b, o, e, h1, h2, h3, h4⟩ := h k hk
  have hlt := cell_lt h1
  have hn : b ≠ M := hne _ e
  exact ⟨b, o, e, (hb.cell (p := ⟨b, o + k * 4, none⟩) hlt hn).trans h1, (hb.cell (p := ⟨b, o + k * 4 + 1, none⟩) hlt hn).trans h2, (hb.cell (p := ⟨b, o + k * 4 + 2, none⟩) hlt hn).trans h3, (hb.cell (p := ⟨b, o + k * 4 + 3, none⟩) hlt hn).trans h4⟩
set_option maxRecDepth 100000 in
set_option maxHeartbeats 2000000 in
theorem visit_any (g : Nat) (cb : Array Value) (B M : Nat) (sa : Option Addr) (n cs : Nat) (ls : List (List Fd)) (w : World) (I : Nat → World → Prop)
    (eg : ∀ args w, (callFunc g args).run Try.prog w = .ok (.enter g args) w)
    (hn : ls.length = n) (hn3 : n ≤ 100) (h0 : 0 < ls.flatten.length) (h100 : ls.flatten.length ≤ 100) (hS : Hid (SsA w B sa ls)) (hM : M < w.heap.size)
    (hI0 : I 0 w) (hI : ∀ k W W', I k W → w.heap.size ≤ W.heap.size → Below W.heap.size W W' → I k W')
    (hst : ∀ k W (h : k < ls.flatten.length), I k W → w.heap.size ≤ W.heap.size → Calls Try.prog g (#[(ls.flatten[k]).v B] ++ cb) W fun e w' => e = .returned (.tuple #[]) ∧ I (k + 1) w' ∧ BelX M W.heap.size W w') :
    Calls Try.prog 57 #[.func (.func g) #[] cb, .slice sa n cs] w fun e w' => e = .returned (.tuple #[]) ∧ I ls.flatten.length w' ∧ BelX M w.heap.size w w' := by
  have HC := Lib.hid (concat_any B sa n cs ls w hn hn3 h0 h100 hS)
  have HI := Lib.hid hI
  have HST := Lib.hid hst
  generalize ls.flatten = l at *
  obtain ⟨N, hN⟩ : ∃ N, l.length = N := ⟨_, rfl⟩
  have HN := Lib.hid hN
  have hN1 : (N : Int) ≤ 100 := by omega
  rw [hN]
  clear hn hn3 h0 h100 hS hI hst hN
  go_enter Try.func57, Try.ntmps57
  go_wp2_with fail
  refine HC.out.mono ?_
  rintro e w1 ⟨v, rfl, hO, hb⟩
  obtain ⟨a, cap, rfl, ha, hA, hab, hsp⟩ := hO.see
  rw [HN.out]
  have hi0 := HI.out 0 _ _ hI0 (Nat.le_refl _) hb
  have hne : ∀ q, a = some q → q.block ≠ M := fun q e => by have := (hab q e).1; omega
  have hX := Below.belX hb M
  have hA := Lib.hid hA
  clear hO hb hab hsp hI0 ha
  go_wp2_with fail
  go_loopw [5, 9] (fun _ i wr => ∃ k : Nat, k ≤ N ∧ i = .int .i64 k ∧ Hid (FsA wr B a l) ∧ Hid (I k wr) ∧ BelX M w.heap.size w wr) (fun _ i _ => N - (intOf i).toNat)
  case atStart => exact ⟨0, Nat.zero_le _, rfl, hA, Lib.hid hi0, hX⟩
  case round =>
    obtain ⟨k, hk, rfl, hA, hIk, hX⟩ := hrel
    by_cases hlt : k < N
    · have HXk : k < l.length := by rw [HN.out]; exact hlt
      obtain ⟨b, o, rfl, c1, c2, c3, c4⟩ := hA.out k HXk
      have hlt' : (k : Int) < N := by omega
      have HS := Lib.hid fun W => HST.out k W HXk
      unfold Fd.v at HS
      generalize l[k] = f at *
      obtain ⟨fk, fs, flo, fhi⟩ := f
      simp only at c1 c2 c3 c4 HS
      clear HXk
      have hb5 := fun o => (Below.refl wr.heap.size wr).alloc (Nat.le_refl _) o
      go_wp2_with fail
      refine (HS.out _ (HI.out k _ _ hIk.out hX.size (hb5 _)) (Nat.le_trans hX.size (hb5 _).size)).mono ?_
      rintro e w2 ⟨rfl, hI2, hb2⟩
      have hA2 := Lib.hid ((hA.out.below (hb5 _)).belX hb2 hne)
      have hX2 := (hX.trans (Below.belX ((hb5 _).mono hX.size) M)).trans (hb2.mono (Nat.le_trans hX.size (hb5 _).size))
      have hI2 := Lib.hid hI2
      clear hb2 hb5 hX hIk hA HS
      go_wp2
      go_roundw
      case rel => exact ⟨k + 1, by omega, by go_num, hA2, hI2, hX2⟩
      case measure => simp [intOf]; omega
    · obtain rfl : k = N := by omega
      have hlt' : ¬ ((k : Int) < k) := by omega
      go_wp2
      exact bodyPost_end (v := .tuple #[]) (by simp [results, Try.results57, go_sem]) rfl ⟨rfl, hIk.out, hX⟩
end Go.Proofs.Ytgdagfiebaebbaa
