/- The drafts of the reference of bucket: Bucket, Trace: what they compute. -/
import Derived.Test.YtfbfnoiapeajeaaBk11
import Derived.Maps.AppendAt
import Derived.Laws.OwnMore
import Derived.OwnWalk
namespace Go.Proofs.Ytfbfnoiapeajeaa
open Go.RowKit

def flat : Tr → List Value
  | [] => []
  | (a, s) :: l => .int .i64 a :: .int .i64 s :: flat l
theorem flat_append : ∀ (l m : Tr), flat (l ++ m) = flat l ++ flat m
  | [], _ => rfl
  | (a, s) :: l, m => by simp [flat, flat_append l m]
theorem flat_length : ∀ (l : Tr), (flat l).length = l.length * 2
  | [] => rfl
  | (a, s) :: l => by simp [flat, flat_length l]; omega
theorem flat_get : ∀ (l : Tr) (k : Nat) (h : k < l.length), (flat l)[k * 2]? = some (.int .i64 (l[k]).1) ∧ (flat l)[k * 2 + 1]? = some (.int .i64 (l[k]).2)
  | [], _, h => by simp at h
  | (a, s) :: l, 0, _ => ⟨rfl, rfl⟩
  | (a, s) :: l, k + 1, h => by
    have := flat_get l k (by simpa using h)
    rw [show (k + 1) * 2 = k * 2 + 1 + 1 by omega]
    simpa [flat] using this
theorem flat_one (l : Tr) : ∀ u ∈ flat l, u.oneCell' = true := by
  induction l with
  | nil => intro u h; cases h
  | cons x l ih =>
    obtain ⟨a, s⟩ := x
    intro u h
    simp only [flat, List.mem_cons] at h
    rcases h with rfl | rfl | h
    · rfl
    · rfl
    · exact ih u h
/-- A slice of the call's own holds a trace. -/
def TrOwn (w : World) (base : Nat) (v : Value) (l : Tr) : Prop := w.ownsRow base 30 2 v l.length (flat l)
theorem TrOwn.nil (w : World) (base : Nat) : TrOwn w base (.slice none 0 0) [] := World.ownsRow_nil _ _ _ _
theorem TrOwn.see {w : World} {base : Nat} {v : Value} {l : Tr} (h : TrOwn w base v l) : ∃ a cap, v = .slice a l.length cap ∧ l.length ≤ cap ∧ (a = none → cap = 0) ∧ TrA w a l ∧ (∀ q, a = some q → base ≤ q.block ∧ q.block < w.heap.size) := by
  have h' := h
  obtain ⟨hl, ⟨rfl, h0⟩ | ⟨g, cap, cur, rfl, hb, h2, h3, h4, h5, h6⟩⟩ := h
  · refine ⟨none, 0, by rw [h0], by omega, fun _ => rfl, fun k hk => by omega, fun q e => by cases e⟩
  · refine ⟨_, cap, rfl, h3, fun e => (by cases e), fun k hk => ?_, fun q e => by cases e; exact ⟨hb, (Array.getElem?_eq_some_iff.1 h2).1⟩⟩
    obtain ⟨f1, f2⟩ := flat_get l k hk
    refine ⟨g, 0, rfl, ?_, ?_⟩
    · rw [Nat.zero_add, World.ownsRow.cellAt h' (k * 2) (by omega), f1]
    · rw [Nat.zero_add, World.ownsRow.cellAt h' (k * 2 + 1) (by omega), f2]
theorem TrOwn.spot {w : World} {base : Nat} {v : Value} {l : Tr} (h : TrOwn w base v l) {a : Option Addr} {n c : Nat} (hv : v = .slice a n c) : ∀ q, a = some q → q.spot = none := by
  intro q e
  subst hv e
  obtain ⟨hl, ⟨h1, _⟩ | ⟨g, cap, cur, h1, _⟩⟩ := h
  · simp at h1
  · simp only [Value.slice.injEq, Option.some.injEq] at h1
    rw [h1.1]
theorem news_two (w : World) (x y : Int) (T : TypeId) : ∀ (j : Nat) u, [Value.int .i64 x, .int .i64 y][j]? = some u → (w.alloc (.cells #[.int .i64 x, .int .i64 y] T)).cell? ((⟨w.heap.size, 0, none⟩ : Addr).add j) = some u := by
  intro j u h
  match j, h with
  | 0, h => cases h; simp only [Addr.add, if_true]; go_simp
  | 1, h => cases h; simp only [Addr.add, Nat.one_ne_zero, if_false]; go_simp
/-- Small numbers lie at an address. -/
def U16A (w : World) (a : Option Addr) (zs : List Int) : Prop := ∀ k (h : k < zs.length), ∃ b o, a = some ⟨b, o, none⟩ ∧ w.cell? ⟨b, o + k, none⟩ = some (.int .u16 zs[k]) ∧ 0 ≤ zs[k] ∧ zs[k] ≤ 65535
theorem U16A.get {w w' : World} {a : Option Addr} {zs : List Int} (h : U16A w a zs) (hb : Below w.heap.size w w') {k : Nat} (hk : k < zs.length) : ∃ b o, a = some ⟨b, o, none⟩ ∧ w'.cell? ⟨b, o + k, none⟩ = some (.int .u16 zs[k]) ∧ 0 ≤ zs[k] ∧ zs[k] ≤ 65535 := by
  obtain ⟨b, o, e, h1, h2⟩ := h k hk
  exact ⟨b, o, e, (hb.cell (p := ⟨b, o + k, none⟩) (cell_lt h1)).trans h1, h2⟩
theorem U16A.below {w w' : World} {a : Option Addr} {zs : List Int} (h : U16A w a zs) (hb : Below w.heap.size w w') : U16A w' a zs := fun _ hk => h.get hb hk
def gsum (gaps : List Int) : Nat → Int
  | 0 => 0
  | k + 1 => gsum gaps k + gaps[k]?.getD 0
def dtr (gaps sizes : List Int) : Nat → Tr
  | 0 => []
  | k + 1 => dtr gaps sizes k ++ [(gsum gaps (k + 1), 1 + sizes[k]?.getD 0)]
theorem dtr_length (gaps sizes : List Int) : ∀ k, (dtr gaps sizes k).length = k
  | 0 => rfl
  | k + 1 => by simp [dtr, dtr_length gaps sizes k]
/-- The trace of a draft. -/
def traceV (gaps sizes : List Int) : Tr := dtr gaps sizes (min sizes.length 30)
def small (zs : List Int) : Prop := ∀ k (h : k < zs.length), 0 ≤ zs[k] ∧ zs[k] ≤ 65535
theorem small_get {zs : List Int} (h : small zs) (k : Nat) : 0 ≤ zs[k]?.getD 0 ∧ zs[k]?.getD 0 ≤ 65535 := by
  by_cases hk : k < zs.length
  · rw [List.getElem?_eq_getElem hk]; exact h k hk
  · rw [List.getElem?_eq_none (by omega)]; decide
theorem U16A.small {w : World} {a : Option Addr} {zs : List Int} (h : U16A w a zs) : small zs := fun k hk => by
  obtain ⟨_, _, _, _, h2⟩ := h k hk
  exact h2
theorem gsum_bd {gaps : List Int} (h : small gaps) : ∀ k : Nat, 0 ≤ gsum gaps k ∧ gsum gaps k ≤ k * 65535
  | 0 => ⟨Int.le_refl _, by simp [gsum]⟩
  | k + 1 => by
    have := gsum_bd h k
    have := small_get h k
    rw [gsum]; omega
theorem dtr_chain {gaps sizes : List Int} (hg : small gaps) (hs : small sizes) : ∀ k : Nat, k ≤ 30 → chainB 0 (dtr gaps sizes k) = true ∧ lastT 0 (dtr gaps sizes k) = gsum gaps k
  | 0, _ => ⟨rfl, rfl⟩
  | k + 1, hk => by
    obtain ⟨h1, h2⟩ := dtr_chain hg hs k (by omega)
    have b1 := gsum_bd hg (k + 1)
    have b2 := small_get hs k
    have b3 := small_get hg k
    rw [dtr]
    refine ⟨(chain_snoc _ _ _ _).2 ⟨h1, ⟨?_, by omega⟩, by omega, by omega⟩, lastT_snoc _ _ _ _⟩
    rw [h2, gsum]; omega
theorem traceV_ok {gaps sizes : List Int} (hg : small gaps) (hs : small sizes) : okT (traceV gaps sizes) = true ∧ (traceV gaps sizes).length ≤ 30 := by
  have hl : (traceV gaps sizes).length ≤ 30 := by unfold traceV; rw [dtr_length]; omega
  exact ⟨okT_iff.2 ⟨by omega, (dtr_chain hg hs _ (by omega)).1⟩, hl⟩
def dB (x : Int) : Int := 1 + x % 1048576
def dR (x : Int) : Int := 1 + x % 2097152
theorem dBR_ok (x y : Int) : okB (dB x) (dR y) = true := by
  rw [okB_iff]; unfold dB dR; omega
set_option maxHeartbeats 1000000 in
theorem dbucket_any (x y : Int) (v2 v3 : Value) (ga sa : Option Addr) (gn gc sn sc : Nat) (e2 : v2 = .slice ga gn gc) (e3 : v3 = .slice sa sn sc) (w : World) (x1 : 0 ≤ x) (x2 : x ≤ 4294967295) (y1 : 0 ≤ y) (y2 : y ≤ 4294967295) :
    Calls Try.prog 10 #[.agg #[.int .u32 x, .int .u32 y, v2, v3]] w fun e w' => e = .returned (.agg #[.int .i64 (dB x), .int .i64 (dR y)]) ∧ Below w.heap.size w w' := by
  subst e2 e3
  unfold dB dR
  go_enter Try.func10, Try.ntmps10
  go_wp2
  refine bodyPost_ret (v := .agg #[.int .i64 (1 + x % 1048576), .int .i64 (1 + y % 2097152)]) (by simp [results, Try.results10, go_sem]) rfl ⟨rfl, ?_⟩
  exact ((((Below.refl _ _).alloc (Nat.le_refl _) _).alloc (by simp) _) : Below w.heap.size w _)
theorem infoA : (Try.prog.info? 30).map (fun i => (i.zero, i.size, i.bytes)) = some (some (.agg #[.int .i64 0, .int .i64 0]), 2, 16) := by kernel_rfl
/-- What a function that makes a trace returns: a slice of its own. -/
def RetTr (w : World) (l : Tr) (e : Ending) (w' : World) : Prop := ∃ a cap, e = .returned (.slice a l.length cap) ∧ l.length ≤ cap ∧ (a = none → cap = 0) ∧ Hid (TrA w' a l) ∧ (∀ q, a = some q → w.heap.size ≤ q.block ∧ q.block < w'.heap.size) ∧ Below w.heap.size w w' ∧ (∀ q, a = some q → q.spot = none)
/-- An append at an operation. -/
theorem wp_apnd {w : World} {o : Oper} {a : Act} {K : Act → World → Prop} {Q : Exit → Act → World → Prop} (s x : Operand)
    (ho : o.op = .call { callee := .builtin .append, args := #[s, x], argTypes := #[42, 42] })
    (base : Nat) (v : Value) (l m : Tr) (hs : a.eval s = v) (hown : TrOwn w base v l) (ad : Option Addr) (c : Nat) (hx : a.eval x = .slice ad m.length c) (hsrc : ad = none → c = 0) (hsp : ∀ q, ad = some q → q.spot = none) (hA : TrA w ad m) (hm : l.length + m.length ≤ 1000) (hbase : base ≤ w.heap.size)
    (h : ∀ v' w', TrOwn w' base v' (l ++ m) → w.grownBy w' v.ownBlock → (v'.ownBlock = v.ownBlock ∨ v'.ownBlock = some w.heap.size) → K (a.put o.dst v') w') : o.wp Try.prog a w K Q := by
  obtain ⟨i0, hi, hz0, hz1, hz2⟩ := info_parts infoA
  cases ad with
  | none =>
    obtain rfl : m = [] := by
      cases m with
      | nil => rfl
      | cons y m => obtain ⟨_, _, e, _⟩ := hA 0 (by simp); cases e
    have hr := run_append_owned_none (P := Try.prog) (w := w) base 42 o.type 30 i0 2 Try.underlying42 hi v l.length (flat l) hown
    rw [hsrc rfl] at hx
    simp only [List.length_nil] at hx
    unfold Oper.wp execOp
    simp only [ho, resolve, invoke, builtin, Sem.run_bind, Sem.run_pure, Result.andThen_ok, List.map_toArray, List.map_cons, List.map_nil, hs, hx, hr]
    exact h v w (by rw [List.append_nil]; exact hown) (World.grownBy.refl _ _) (.inl rfl)
  | some q =>
    obtain ⟨v', w', hr, h2, h3, _, h4⟩ := run_append_own_at (P := Try.prog) w base 42 o.type 30 i0 (.agg #[.int .i64 0, .int .i64 0]) 2 16 Try.underlying42 hi hz0 hz1 hz2 rfl (by decide) v l.length (flat l) hown q m.length c (flat m) (flat_length m)
      (fun j u hj => by
        have hjl : j < (flat m).length := (List.getElem?_eq_some_iff.1 hj).1
        rw [flat_length] at hjl
        have hk : j / 2 < m.length := by omega
        obtain ⟨b, oo, e, c1, c2⟩ := hA (j / 2) hk
        obtain ⟨f1, f2⟩ := flat_get m (j / 2) hk
        cases e
        have e3 : ((⟨b, oo, none⟩ : Addr).add j) = ⟨b, oo + j, none⟩ := by
          by_cases h0 : j = 0
          · subst h0; simp [Addr.add]
          · simp [Addr.add, h0]
        rw [e3]
        rcases Nat.mod_two_eq_zero_or_one j with hj2 | hj2
        · rw [show j / 2 * 2 = j by omega] at f1 c1
          rw [f1] at hj; cases hj; exact c1
        · rw [show j / 2 * 2 + 1 = j by omega] at f2
          rw [show oo + j / 2 * 2 + 1 = oo + j by omega] at c2
          rw [f2] at hj; cases hj; exact c2)
      (flat_one m) (by unfold maxLen; omega) (by omega) hbase
    unfold Oper.wp execOp
    simp only [ho, resolve, invoke, builtin, Sem.run_bind, Sem.run_pure, Result.andThen_ok, List.map_toArray, List.map_cons, List.map_nil, hs, hx, hr]
    refine h v' w' ?_ h3 h4
    unfold TrOwn
    rw [flat_append, List.length_append]
    exact h2
end Go.Proofs.Ytfbfnoiapeajeaa
