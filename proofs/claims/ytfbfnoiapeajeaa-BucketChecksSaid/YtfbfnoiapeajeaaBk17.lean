/- The laws of bucket: bent: what it computes. -/
import Derived.Test.YtfbfnoiapeajeaaBk16
namespace Go.Proofs.Ytfbfnoiapeajeaa
open Go.RowKit

theorem wpList_apnd {w : World} {ops : Array Oper} {rest : List Oper} {o : Oper} {a : Act} {Q : Exit → Act → World → Prop} (hgd : o.guard = none) (s x : Operand)
    (ho : o.op = .call { callee := .builtin .append, args := #[s, x], argTypes := #[42, 42] })
    (base : Nat) (v : Value) (l m : Tr) (hs : a.eval s = v) (hown : TrOwn w base v l) (ad : Option Addr) (c : Nat) (hx : a.eval x = .slice ad m.length c) (hsrc : ad = none → c = 0) (hsp : ∀ q, ad = some q → q.spot = none) (hA : TrA w ad m) (hm : l.length + m.length ≤ 1000) (hbase : base ≤ w.heap.size)
    (h : ∀ v' w', TrOwn w' base v' (l ++ m) → w.grownBy w' v.ownBlock → (v'.ownBlock = v.ownBlock ∨ v'.ownBlock = some w.heap.size) → wpList Try.prog ops Q rest (a.put o.dst v') w') : wpList Try.prog ops Q (o :: rest) a w :=
  wpList_plain hgd fun _ hK => wp_apnd s x ho base v l m hs hown ad c hx hsrc hsp hA hm hbase fun v' w' h1 h2 h3 => hK _ _ (h v' w' h1 h2 h3)
def bentV (l : Tr) (x : Int × Int) (p : Int) : Tr := l.set (p.toNat % l.length) x
theorem bentV_length (l : Tr) (x : Int × Int) (p : Int) : (bentV l x p).length = l.length := by simp [bentV]
theorem flat_set : ∀ (l : Tr) (j : Nat) (x : Int × Int), ((flat l).set (j * 2) (.int .i64 x.1)).set (j * 2 + 1) (.int .i64 x.2) = flat (l.set j x)
  | [], _, _ => by simp [flat]
  | (a, s) :: l, 0, x => by simp [flat]
  | (a, s) :: l, j + 1, x => by
    have := flat_set l j x
    rw [show (j + 1) * 2 = j * 2 + 1 + 1 by omega]
    simpa [flat] using this
theorem TrOwn.room {w : World} {base : Nat} {v : Value} {l : Tr} (h : TrOwn w base v l) (hl : 0 < l.length) : ∃ g cap, v = .slice (some ⟨g, 0, none⟩) l.length cap ∧ l.length ≤ cap ∧ base ≤ g ∧ g < w.heap.size := by
  obtain ⟨h0, ⟨rfl, h1⟩ | ⟨g, cap, cur, rfl, hb, h2, h3, h4, h5, h6⟩⟩ := h
  · omega
  · exact ⟨g, cap, rfl, h3, hb, (Array.getElem?_eq_some_iff.1 h2).1⟩
theorem TrOwn.put {w : World} {base g n cap j : Nat} {l : Tr} (h : TrOwn w base (.slice (some ⟨g, 0, none⟩) n cap) l) (x : Int × Int) : TrOwn ((w.setCell ⟨g, j * 2, none⟩ (.int .i64 x.1)).setCell ⟨g, j * 2 + 1, none⟩ (.int .i64 x.2)) base (.slice (some ⟨g, 0, none⟩) n cap) (l.set j x) := by
  obtain ⟨a, c, e, _⟩ := h.see
  simp only [Value.slice.injEq] at e
  have e2 := e.2.1
  subst e2
  unfold TrOwn
  rw [← flat_set, List.length_set]
  exact (World.ownsRow.stored (World.ownsRow.stored h _ _).1 _ _).1
set_option maxRecDepth 100000 in
set_option maxHeartbeats 2000000 in
theorem bent_any (a : Option Addr) (n cap : Nat) (l : Tr) (xa xs p : Int) (w : World) (hn : l.length = n) (hm : n ≤ 900) (h0 : a = none → cap = 0) (hsp : ∀ q, a = some q → q.spot = none) (hc : Hid (TrA w a l)) (p1 : 0 ≤ p) (p2 : p ≤ 255) :
    Calls Try.prog 19 #[.slice a n cap, .agg #[.int .i64 xa, .int .i64 xs], .int .u8 p] w (RetTr w (bentV l (xa, xs) p)) := by
  have H0 := Lib.hid h0
  have HSP := Lib.hid hsp
  have HN := Lib.hid hn
  have hA : Below w.heap.size w ((w.alloc (.cells #[.int .i64 xa, .int .i64 xs] 30)).alloc (.cells #[] 30)) := ((Below.refl _ _).alloc (Nat.le_refl _) _).alloc (by simp) _
  have hO0 : TrOwn ((w.alloc (.cells #[.int .i64 xa, .int .i64 xs] 30)).alloc (.cells #[] 30)) (w.heap.size + 1) (.slice (some ⟨w.heap.size + 1, 0, none⟩) 0 0) [] := by
    have := World.ownsRow_made (base := w.heap.size + 1) (e := 30) (size := 2) (w.alloc (.cells #[.int .i64 xa, .int .i64 xs] 30)) #[] 0 (by simp) (by decide) rfl
    unfold TrOwn
    simpa [flat] using this
  have hO0 := Lib.hid hO0
  have hc1 : Hid (TrA ((w.alloc (.cells #[.int .i64 xa, .int .i64 xs] 30)).alloc (.cells #[] 30)) a l) := Lib.hid (hc.out.below hA (Nat.le_refl _))
  obtain ⟨B, hB⟩ : ∃ B, bentV l (xa, xs) p = B := ⟨_, rfl⟩
  rw [hB]
  have HB := Lib.hid hB
  subst hn
  clear h0 hsp hB
  by_cases hl : l.length = 0
  · obtain rfl : l = [] := List.eq_nil_of_length_eq_zero hl
    have hBn : B = [] := by rw [← HB.out]; rfl
    subst hBn
    clear hl
    go_enter Try.func19, Try.ntmps19
    go_wp2_with (at_builtin; refine wpList_apnd rfl _ _ rfl (w.heap.size + 1) _ [] [] rfl hO0.out a cap rfl H0.out HSP.out hc1.out (by simp) (by simp) ?_; intro v' w1 hO1 hg1 _; obtain ⟨g, c, hve, o1, o2, o3, o4⟩ := TrOwn.see hO1; have hsp1 := Lib.hid (TrOwn.spot hO1 hve); subst hve; have o2 := Lib.hid o2; have o3 := Lib.hid o3; have o4 := Lib.hid o4; have hg1 := Lib.hid hg1; clear hO1; simp only [List.append_nil, List.length_nil] at o1 o3)
    have hba := ((Below.refl (w.heap.size + 1) ((w.alloc (.cells #[.int .i64 xa, .int .i64 xs] 30)).alloc (.cells #[] 30))).grown hg1.out (by simp) (fun k e => by cases e; exact Nat.le_refl _))
    have H1 := hA.trans (hba.mono (by omega))
    go_ret
    exact ⟨g, c, rfl, o1, o2.out, o3, fun q e => ⟨by have := (o4.out q e).1; omega, (o4.out q e).2⟩, H1, hsp1.out⟩
  · obtain ⟨n, hn⟩ : ∃ n, l.length = n := ⟨_, rfl⟩
    have hn0 : (0 : Int) < n := by omega
    obtain ⟨j, hj, hj1⟩ : ∃ j : Nat, p.toNat % n = j ∧ j < n := ⟨_, rfl, Nat.mod_lt _ (by omega)⟩
    have hpt : p.tmod n = j := by
      rw [Int.tmod_eq_emod_of_nonneg p1, ← hj]
      have : p = (p.toNat : Int) := by omega
      rw [this]; simp
    have hBj : Hid (B = l.set j (xa, xs)) := Lib.hid (by rw [← HB.out]; unfold bentV; rw [hn, hj])
    have hn9 : n ≤ 900 := by omega
    have hnz : ((n : Int) == 0) = false := by rw [beq_eq_false_iff_ne]; omega
    have HN2 := Lib.hid hn
    have hpw : IntKind.i64.wrap p = p := IntWalk.i64_in _ (by omega)
    have hj0 : (0 : Int) ≤ j := by omega
    have hjn : (j : Int) < n := by omega
    have hdn : decide (0 < n) = true := decide_eq_true (by omega)
    have hnz2 : ¬ n = 0 := by omega
    rw [hn]
    clear hm HN hj hn hl
    go_enter Try.func19, Try.ntmps19
    go_wp2_with (at_builtin; refine wpList_apnd rfl _ _ rfl (w.heap.size + 1) _ [] l rfl hO0.out a cap (by rw [HN2.out]; rfl) H0.out HSP.out hc1.out (by rw [HN2.out]; simp; omega) (by simp) ?_; intro v' w1 hO1 hg1 _; obtain ⟨g, c, rfl, o1, o2, o3⟩ := TrOwn.room hO1 (by rw [List.nil_append, HN2.out]; omega); rw [List.nil_append] at hO1; rw [HN2.out] at hO1; have hO1 := Lib.hid hO1; have hg1 := Lib.hid hg1; rw [List.nil_append, HN2.out] at o1 ⊢)
    have hba := ((Below.refl (w.heap.size + 1) ((w.alloc (.cells #[.int .i64 xa, .int .i64 xs] 30)).alloc (.cells #[] 30))).grown hg1.out (by simp) (fun k e => by cases e; exact Nat.le_refl _))
    have e1 := (hba.cell (p := ⟨w.heap.size, 0, none⟩) (by simp)).trans (show _ = some (.int .i64 xa) by go_simp)
    have e2 := (hba.cell (p := ⟨w.heap.size, 1, none⟩) (by simp)).trans (show _ = some (.int .i64 xs) by go_simp)
    have H1 := hA.trans (hba.mono (by omega))
    clear hba hg1 hO0 hc1
    refine wp_region_put (R := Unit) [14, 15, 16, 17, 18, 19, 20, 21]
      (fun _ => [.slice (some ⟨g, 0, none⟩) n c, .int .u8 p, .int .i64 p, .slice (some ⟨g, 0, none⟩) n c, .int .i64 n, .int .i64 j, .agg #[.int .i64 xa, .int .i64 xs], .pointer (some ⟨g, j * 2, none⟩)])
      (fun L _ wx => Below w.heap.size w wx ∧ TrOwn wx (w.heap.size + 1) (.slice (some ⟨g, 0, none⟩) n c) (if L 8 then l.set j (xa, xs) else l) ∧ wx.cell? ⟨w.heap.size, 0, none⟩ = some (.int .i64 xa) ∧ wx.cell? ⟨w.heap.size, 1, none⟩ = some (.int .i64 xs))
      (by kernel_rfl) (by kernel_rfl) (by kernel_rfl) () ?_ ?_ ?_
    · exact ⟨H1.drew, World.ownsRow.drew hO1.out, by simpa using e1, by simpa using e2⟩
    · refine ⟨?_, ?_, ?_, ?_, ?_, ?_, ?_, ?_, ?_, trivial⟩
      all_goals
        rintro L ⟨⟩ wx K' hLi hdep ⟨hB, hO, f1, f2⟩ hK
        simp only [putAll, Act.put, List.setIfInBounds_toArray, List.set_cons_succ, List.set_cons_zero] at hK ⊢
      · go_simp
        exact hK () wx ⟨hB, by simpa using hO, f1, f2⟩
      · go_simp
        exact hK () wx ⟨hB, by simpa using hO, f1, f2⟩
      · go_simp
        exact hK () wx ⟨hB, by simpa using hO, f1, f2⟩
      · go_simp
        exact hK () wx ⟨hB, by simpa using hO, f1, f2⟩
      · go_simp
        exact hK () wx ⟨hB, by simpa using hO, f1, f2⟩
      · go_simp
        exact hK () wx ⟨hB, by simpa using hO, f1, f2⟩
      · go_simp
        exact hK () wx ⟨hB, by simpa using hO, f1, f2⟩
      · go_simp
        exact hK () wx ⟨hB, by simpa using hO, f1, f2⟩
      · rw [hLi] at hO
        simp only [Bool.false_eq_true, if_false] at hO
        have hO2 := hO.put (j := j) (xa, xs)
        have hO3 : wx.ownsRow (w.heap.size + 1) 30 2 (.slice (some ⟨g, 0, none⟩) n c) n (flat l) := by have := hO; unfold TrOwn at this; rw [HN2.out] at this; exact this
        obtain ⟨k1, k2⟩ := flat_get l j (by rw [HN2.out]; exact hj1)
        obtain ⟨u1, hr1⟩ : ∃ u, wx.cell? ⟨g, j * 2, none⟩ = some (.int .i64 u) := ⟨_, (World.ownsRow.cellAt hO3 (j * 2) (by omega)).trans k1⟩
        obtain ⟨u2, hr2⟩ : ∃ u, wx.cell? ⟨g, j * 2 + 1, none⟩ = some (.int .i64 u) := ⟨_, (World.ownsRow.cellAt hO3 (j * 2 + 1) (by omega)).trans k2⟩
        have hf1 := World.ownsRow.frozenAt hO3 (j * 2)
        have hf2 := World.ownsRow.frozenAt hO3 (j * 2 + 1)
        dsimp only at hO2
        clear hO hO3 k1 k2
        go_simp
        refine hK () _ ⟨(hB.setCell (show w.heap.size ≤ g by omega) _).setCell (show w.heap.size ≤ g by omega) _, by simpa using hO2, ?_, ?_⟩
        · refine (World.cell?_setCell_other _ _ _ _ (fun e => ?_)).trans ((World.cell?_setCell_other _ _ _ _ (fun e => ?_)).trans f1)
          · have := congrArg Addr.block e; simp at this; omega
          · have := congrArg Addr.block e; simp at this; omega
        · refine (World.cell?_setCell_other _ _ _ _ (fun e => ?_)).trans ((World.cell?_setCell_other _ _ _ _ (fun e => ?_)).trans f2)
          · have := congrArg Addr.block e; simp at this; omega
          · have := congrArg Addr.block e; simp at this; omega
    rintro ⟨⟩ w2 ⟨hB2, hO2, _, _⟩
    simp only [if_true] at hO2
    simp only [putAll, Act.put, List.setIfInBounds_toArray, List.set_cons_succ, List.set_cons_zero]
    have HL : Hid (B.length = n) := Lib.hid (by rw [← HB.out, bentV_length]; exact HN2.out)
    rw [← hBj.out] at hO2
    obtain ⟨a', c', e, q1, q2, q3, q4⟩ := hO2.see
    obtain ⟨rfl, _, rfl⟩ : (some ⟨g, 0, none⟩ : Option Addr) = a' ∧ _ ∧ c = c' := by simpa using e
    have q2 := Lib.hid q2
    have q3 := Lib.hid q3
    have q4 := Lib.hid q4
    rw [HL.out] at q1
    clear hO2 e hBj hpt hnz hpw
    go_wp2
    go_ret
    exact ⟨_, c, by rw [HL.out]; rfl, by rw [HL.out]; exact q1, q2.out, q3, fun q e => ⟨by have := (q4.out q e).1; omega, (q4.out q e).2⟩, hB2, fun q e => by cases e; rfl⟩
end Go.Proofs.Ytfbfnoiapeajeaa
