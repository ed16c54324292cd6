/- The package ptp: right, the zeroing of fields, and the lists of fields without calls. -/
import Derived.Test.YtgdagfiebaebbaaFld4
namespace Go.Proofs.Ytgdagfiebaebbaa
open Go.RowKit

def allOk (v : Nat → Int) (l : List Fd) : Bool := l.all (Fd.ok v)
theorem all_take {v : Nat → Int} {l : List Fd} {k : Nat} (h : k < l.length) : allOk v (l.take (k + 1)) = (allOk v (l.take k) && (l[k]).ok v) := by
  have e : l.take (k + 1) = l.take k ++ [l[k]] := List.take_succ_eq_append_getElem h
  unfold allOk; rw [e, List.all_append]; simp
set_option maxRecDepth 100000 in
set_option maxHeartbeats 1000000 in
theorem right_any (B : Nat) (v : Nat → Int) (sa : Option Addr) (n cs : Nat) (ls : List (List Fd)) (w : World) (hn : ls.length = n) (hn3 : n ≤ 100) (h0 : 0 < ls.flatten.length) (h100 : ls.flatten.length ≤ 100) (hk : ∀ f ∈ ls.flatten, f.k < 17) (hS : Hid (SsA w B sa ls)) (hM : MsgAt w B v) :
    Calls Try.prog 56 #[.slice sa n cs] w fun e w' => e = .returned (.bool (allOk v ls.flatten)) ∧ Below w.heap.size w w' := by
  have hB : B < w.heap.size := cell_lt (hM 0 (by omega)).1
  have HV := Lib.hid fun W (hb : Below w.heap.size w W) (hm : BoolAt W w.heap.size true) => visit_any 77 #[.pointer (some ⟨w.heap.size, 0, none⟩)] B w.heap.size sa n cs ls W (fun k W => BoolAt W w.heap.size (allOk v (ls.flatten.take k)) ∧ MsgAt W B v) (fun _ _ => by kernel_rfl) hn hn3 h0 h100 (Lib.hid (hS.out.below hb)) (cell_lt hm.1) ⟨by simpa [allOk] using hm, hM.below hb⟩
    (fun k W W' h _ hb2 => ⟨h.1.below hb2, h.2.below hb2⟩)
    (fun k W hk2 h _ => by
      have hkk := hk _ (List.getElem_mem hk2)
      rw [all_take hk2]
      have := right1_any B w.heap.size (ls.flatten[k]).k (ls.flatten[k]).s (ls.flatten[k]).lo (ls.flatten[k]).hi _ _ W (h.2 _ hkk).1 h.1
      refine Calls.mono this ?_
      rintro e w' ⟨rfl, h1, h2⟩
      exact ⟨rfl, ⟨h1, h.2.belX h2 (by omega)⟩, h2⟩)
  rw [show ls.flatten.take ls.flatten.length = ls.flatten from List.take_length] at HV
  generalize allOk v ls.flatten = r at *
  clear hn hn3 h0 h100 hk hS hM
  go_enter Try.func56, Try.ntmps56
  have b0 := fun o => (Below.refl w.heap.size w).alloc (Nat.le_refl _) o
  go_wp2_with fail
  refine (HV.out _ (b0 _) ⟨by go_simp, by go_simp⟩).mono ?_
  rintro e w1 ⟨rfl, ⟨h1, _⟩, hX⟩
  have H1 : Below w.heap.size w w1 := (b0 _).trans ((hX.mono (b0 _).size).below (Nat.le_refl _))
  obtain ⟨h1, _⟩ := h1
  clear hX b0
  go_wp2
  go_ret
  exact ⟨rfl, H1⟩
theorem MsgAt.set {w : World} {B k : Nat} {v : Nat → Int} (h : MsgAt w B v) (hk : k < 17) : MsgAt (w.setCell ⟨B, k, none⟩ (.int .i64 0)) B (fun j => if j = k then 0 else v j) := fun j hj => by
  refine ⟨?_, (World.frozen?_setCell _ _ _ _).trans (h j hj).2⟩
  by_cases e : j = k
  · subst e
    dsimp only
    rw [if_pos rfl]
    exact World.cell?_setCell_same' _ _ _ (by rw [(h j hj).1]; rfl)
  · dsimp only
    rw [if_neg e]
    exact (World.cell?_setCell_other _ _ _ _ (fun q => e (congrArg Addr.off q).symm)).trans (h j hj).1
set_option maxRecDepth 100000 in
set_option maxHeartbeats 1000000 in
theorem check1_any (B k : Nat) (s lo hi : Int) (v : Nat → Int) (w : World) (hM : MsgAt w B v) (hk : k < 17) :
    Calls Try.prog 58 #[.agg #[.pointer (some ⟨B, k, none⟩), .int .i64 s, .int .i64 lo, .int .i64 hi]] w fun e w' => e = .returned (.tuple #[]) ∧ MsgAt w' B (fun j => if j = k then 0 else v j) ∧ BelX B w.heap.size w w' := by
  obtain ⟨c1, c2⟩ := hM k hk
  have hz := cell_lt c1
  have b0 := fun o => (Below.refl w.heap.size w).alloc (Nat.le_refl _) o
  have HM := Lib.hid hM
  clear hM
  go_enter Try.func58, Try.ntmps58
  go_wp2
  refine bodyPost_end (v := .tuple #[]) (by simp [results, Try.results58, go_sem]) rfl ⟨rfl, (HM.out.set hk).below ((Below.refl _ _).alloc (Nat.le_refl _) _), ?_⟩
  have hs : (w.setCell ⟨B, k, none⟩ (.int .i64 0)).heap.size = w.heap.size := by simp [World.setCell]
  have ha := (Below.refl (w.setCell ⟨B, k, none⟩ (.int .i64 0)).heap.size (w.setCell ⟨B, k, none⟩ (.int .i64 0))).alloc (Nat.le_refl _) (.cells #[.pointer (some ⟨B, k, none⟩), .int .i64 s, .int .i64 lo, .int .i64 hi] 125)
  exact ⟨rfl, rfl, rfl, by have := ha.size; omega, fun j hj hne => (ha.block j (by omega)).trans (Below.heap_setCell w ⟨B, k, none⟩ _ j hne)⟩
theorem FsOwn.make (w : World) (B : Nat) (l : List Fd) (n : Nat) (hn : l.length = n) (hm : n ≤ 100) (cells : Array Value) (hc : cells = (fcells B l).toArray) : FsOwn (w.alloc (.cells cells 125)) w.heap.size B (.slice (some ⟨w.heap.size, 0, none⟩) n n) l := by
  subst hn hc
  exact ⟨fcells_length B l, .inr ⟨w.heap.size, l.length, _, rfl, Nat.le_refl _, heap_alloc_new w _, Nat.le_refl _, by unfold maxLen; omega, by simp [fcells_length], by simp [← fcells_length B l]⟩⟩
theorem FsOwn.mono {w : World} {base base' B : Nat} {v : Value} {l : List Fd} (h : FsOwn w base B v l) (hb : base' ≤ base) : FsOwn w base' B v l := by
  obtain ⟨h1, h2⟩ := h
  refine ⟨h1, ?_⟩
  rcases h2 with h2 | ⟨g, cap, cur, e1, e2, e3⟩
  · exact .inl h2
  · exact .inr ⟨g, cap, cur, e1, Nat.le_trans hb e2, e3⟩
theorem FsOwn.below {w w' : World} {base B : Nat} {v : Value} {l : List Fd} (h : FsOwn w base B v l) (hb : Below w.heap.size w w') : FsOwn w' base B v l := by
  obtain ⟨h1, h2⟩ := h
  refine ⟨h1, ?_⟩
  rcases h2 with h2 | ⟨g, cap, cur, e1, e2, e3, e4⟩
  · exact .inl h2
  · exact .inr ⟨g, cap, cur, e1, e2, (hb.block g (Array.getElem?_eq_some_iff.1 e3).1).trans e3, e4⟩
def idF (k : Nat) : List Fd := [⟨k, 6, 0, 281474976710655⟩, ⟨k + 1, 2, 1, 65535⟩]
set_option maxRecDepth 100000 in
set_option maxHeartbeats 1000000 in
theorem id_any (B k : Nat) (w : World) : Calls Try.prog 76 #[.pointer (some ⟨B, k, none⟩)] w (RetFs w B (idF k)) := by
  go_enter Try.func76, Try.ntmps76
  go_wp2_with fail
  go_region
  all_goals (try go_wp2)
  go_ret
  exact ⟨_, rfl, FsOwn.make w B (idF k) 2 rfl (by omega) _ rfl, ((Below.refl _ _).alloc (Nat.le_refl _) _).drew⟩
def masterF (k : Nat) : List Fd := [⟨k, 1, 0, 255⟩, ⟨k + 1, 1, 0, 255⟩, ⟨k + 2, 1, 0, 255⟩, ⟨k + 3, 2, 0, 65535⟩, ⟨k + 4, 1, 0, 255⟩, ⟨k + 5, 6, 0, 281474976710655⟩]
set_option maxRecDepth 100000 in
set_option maxHeartbeats 1000000 in
theorem master_any (B k : Nat) (w : World) : Calls Try.prog 79 #[.pointer (some ⟨B, k, none⟩)] w (RetFs w B (masterF k)) := by
  go_enter Try.func79, Try.ntmps79
  go_wp2_with fail
  go_region
  all_goals (try go_wp2)
  go_ret
  exact ⟨_, rfl, FsOwn.make w B (masterF k) 6 rfl (by omega) _ rfl, ((Below.refl _ _).alloc (Nat.le_refl _) _).drew⟩
set_option maxHeartbeats 1000000 in
theorem none_any (B : Nat) (w : World) : Calls Try.prog 71 #[.agg #[.pointer (some ⟨B, 0, none⟩)]] w (RetFs w B []) := by
  go_enter Try.func71, Try.ntmps71
  go_wp2
  go_ret
  exact ⟨_, rfl, FsOwn.nil _ _ _, (Below.refl _ _).alloc (Nat.le_refl _) _⟩
def followF : List Fd := [⟨6, 8, -4398046511104, 4398046511104⟩, ⟨7, 4, -8388608, 8388608⟩]
set_option maxRecDepth 100000 in
set_option maxHeartbeats 1000000 in
theorem follow_any (B : Nat) (w : World) : Calls Try.prog 72 #[.agg #[.pointer (some ⟨B, 0, none⟩)]] w (RetFs w B followF) := by
  go_enter Try.func72, Try.ntmps72
  go_wp2_with fail
  refine wp_gen ?_
  rintro w1 hg
  have b0 : Below w.heap.size w w1 := by rw [hg]; exact (Below.refl _ _).alloc (Nat.le_refl _) _
  have r0 : w1.cell? ⟨w.heap.size, 0, none⟩ = some (.pointer (some ⟨B, 0, none⟩)) := by rw [hg]; go_simp
  clear hg
  go_region
  all_goals (try go_wp2)
  go_ret
  exact ⟨_, rfl, (FsOwn.make w1 B followF 2 rfl (by omega) _ rfl).mono b0.size, (b0.alloc b0.size _).drew⟩
end Go.Proofs.Ytgdagfiebaebbaa
