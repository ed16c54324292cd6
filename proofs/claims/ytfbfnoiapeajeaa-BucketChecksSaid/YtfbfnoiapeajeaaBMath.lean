/- The plain laws of the layer bucket: token levels and intervals. No program in sight. -/
import Derived.Test.YtfbfnoiapeajeaaBase
namespace Go.Proofs.Ytfbfnoiapeajeaa

/-- A trace: times and sizes. -/
abbrev Tr := List (Int × Int)
def okB (b r : Int) : Bool := decide (1 ≤ b) && decide (b ≤ 1048576) && (decide (1 ≤ r) && decide (r ≤ 2097152))
theorem okB_iff {b r : Int} : okB b r = true ↔ (1 ≤ b ∧ b ≤ 1048576) ∧ 1 ≤ r ∧ r ≤ 2097152 := by simp [okB]
def chainB (last : Int) : Tr → Bool
  | [] => true
  | (a, s) :: l => decide (last ≤ a) && decide (a ≤ 1099511627776) && (decide (1 ≤ s) && decide (s ≤ 1048576)) && chainB a l
theorem chainB_cons {last a s : Int} {l : Tr} : chainB last ((a, s) :: l) = true ↔ ((last ≤ a ∧ a ≤ 1099511627776) ∧ 1 ≤ s ∧ s ≤ 1048576) ∧ chainB a l = true := by simp [chainB]
def okT (l : Tr) : Bool := decide (l.length ≤ 200) && chainB 0 l
theorem okT_iff {l : Tr} : okT l = true ↔ l.length ≤ 200 ∧ chainB 0 l = true := by simp [okT]
/-- The level behind an arrival. -/
def lvlV (b r lev last a s : Int) : Int := min (b * 1048576) (lev + r * (a - last)) - s * 1048576
/-- The first arrival at which the level is negative, and -1 if there is none. -/
def firstG (b r lev last : Int) (k : Int) : Tr → Int
  | [] => -1
  | (a, s) :: l => if lvlV b r lev last a s < 0 then k else firstG b r (lvlV b r lev last a s) a (k + 1) l
def firstV (b r : Int) (l : Tr) : Int := firstG b r (b * 1048576) 0 0 l
/-- No window from here on is too great: the reference. -/
def winB (b r a0 sum : Int) : Tr → Bool
  | [] => true
  | (a, s) :: l => !decide (r * (a - a0) < (sum + s - b) * 1048576) && winB b r a0 (sum + s) l
def fitsB (b r : Int) : Tr → Bool
  | [] => true
  | (a, s) :: l => winB b r a 0 ((a, s) :: l) && fitsB b r l
/-- The same with a credit. -/
def credB (c r last : Int) : Tr → Bool
  | [] => true
  | (a, s) :: l => decide (0 ≤ c + r * (a - last) - s * 1048576) && credB (c + r * (a - last) - s * 1048576) r a l
def lvlB (b r lev last : Int) : Tr → Bool
  | [] => true
  | (a, s) :: l => decide (0 ≤ lvlV b r lev last a s) && lvlB b r (lvlV b r lev last a s) a l
theorem cred_shift (r : Int) : ∀ (l : Tr) (c c' t t' : Int), c - r * t = c' - r * t' → credB c r t l = credB c' r t' l
  | [], _, _, _, _, _ => rfl
  | (a, s) :: l, c, c', t, t', h => by
    have e : c + r * (a - t) - s * 1048576 = c' + r * (a - t') - s * 1048576 := by
      rw [Int.mul_sub, Int.mul_sub]; omega
    simp only [credB, e]
theorem win_cred (b r a0 : Int) : ∀ (l : Tr) (sum : Int), winB b r a0 sum l = credB (b * 1048576 - sum * 1048576) r a0 l
  | [], _ => rfl
  | (a, s) :: l, sum => by
    rw [winB, credB, win_cred b r a0 l (sum + s)]
    congr 1
    · rw [Int.sub_mul, Int.add_mul, ← decide_not]
      refine decide_eq_decide.2 ?_
      omega
    · refine cred_shift r l _ _ _ _ ?_
      rw [Int.mul_sub, Int.add_mul]; omega
theorem cred_min (r : Int) : ∀ (l : Tr) (x y t : Int), credB (min x y) r t l = (credB x r t l && credB y r t l)
  | [], _, _, _ => rfl
  | (a, s) :: l, x, y, t => by
    have e : min x y + r * (a - t) - s * 1048576 = min (x + r * (a - t) - s * 1048576) (y + r * (a - t) - s * 1048576) := by omega
    simp only [credB]
    rw [e, cred_min r l]
    have h : decide (0 ≤ min (x + r * (a - t) - s * 1048576) (y + r * (a - t) - s * 1048576)) = (decide (0 ≤ x + r * (a - t) - s * 1048576) && decide (0 ≤ y + r * (a - t) - s * 1048576)) := by
      rw [← Bool.decide_and]
      refine decide_eq_decide.2 ?_
      omega
    rw [h]
    generalize decide (0 ≤ x + r * (a - t) - s * 1048576) = p
    generalize decide (0 ≤ y + r * (a - t) - s * 1048576) = q
    generalize credB _ r a l = u
    generalize credB _ r a l = v
    cases p <;> cases q <;> cases u <;> cases v <;> rfl
theorem lvl_fits (b r : Int) : ∀ (l : Tr) (lev last : Int), lvlB b r lev last l = (credB lev r last l && fitsB b r l)
  | [], _, _ => rfl
  | (a, s) :: l, lev, last => by
    rw [lvlB, lvl_fits b r l, fitsB, credB, win_cred, credB]
    unfold lvlV
    have e : min (b * 1048576) (lev + r * (a - last)) - s * 1048576 = min (b * 1048576 - 0 * 1048576 + r * (a - a) - s * 1048576) (lev + r * (a - last) - s * 1048576) := by
      rw [show a - a = 0 by omega, Int.mul_zero]; omega
    rw [e, cred_min]
    have h : decide (0 ≤ min (b * 1048576 - 0 * 1048576 + r * (a - a) - s * 1048576) (lev + r * (a - last) - s * 1048576)) = (decide (0 ≤ b * 1048576 - 0 * 1048576 + r * (a - a) - s * 1048576) && decide (0 ≤ lev + r * (a - last) - s * 1048576)) := by
      rw [← Bool.decide_and]
      refine decide_eq_decide.2 ?_
      omega
    rw [h]
    generalize decide (0 ≤ b * 1048576 - 0 * 1048576 + r * (a - a) - s * 1048576) = p
    generalize decide (0 ≤ lev + r * (a - last) - s * 1048576) = q
    generalize credB _ r a l = u
    generalize credB _ r a l = v
    generalize fitsB b r l = w
    cases p <;> cases q <;> cases u <;> cases v <;> cases w <;> rfl
theorem cred_mono (r : Int) : ∀ (l : Tr) (x y t : Int), x ≤ y → credB x r t l = true → credB y r t l = true
  | [], _, _, _, _, _ => rfl
  | (a, s) :: l, x, y, t, h, h2 => by
    simp only [credB, Bool.and_eq_true, decide_eq_true_eq] at h2 ⊢
    exact ⟨by omega, cred_mono r l _ _ _ (by omega) h2.2⟩
/-- At the start the level is full: the levels tell what the windows tell. -/
theorem lvl_start {b r : Int} (hr : 0 ≤ r) {l : Tr} (h : chainB 0 l = true) : lvlB b r (b * 1048576) 0 l = fitsB b r l := by
  rw [lvl_fits]
  cases hf : fitsB b r l
  · simp
  · rw [Bool.and_true]
    cases l with
    | nil => rfl
    | cons x t =>
      obtain ⟨a, s⟩ := x
      rw [fitsB, win_cred, Bool.and_eq_true] at hf
      obtain ⟨h1, _⟩ := hf
      rw [chainB_cons] at h
      have h0 : 0 ≤ r * a := Int.mul_nonneg hr (by omega)
      rw [cred_shift r _ _ (b * 1048576 + r * a) _ a (by rw [Int.mul_zero]; omega)]
      exact cred_mono r _ _ _ _ (by omega) h1
theorem firstG_neg (b r : Int) : ∀ (l : Tr) (lev last k : Int), 0 ≤ k → (firstG b r lev last k l < 0) = (lvlB b r lev last l = true)
  | [], _, _, _, _ => by simp [firstG, lvlB]
  | (a, s) :: l, lev, last, k, hk => by
    rw [firstG, lvlB]
    by_cases h : lvlV b r lev last a s < 0
    · rw [if_pos h]
      have : ¬ 0 ≤ lvlV b r lev last a s := by omega
      simp [this]; omega
    · rw [if_neg h, firstG_neg b r l _ _ _ (by omega)]
      have : 0 ≤ lvlV b r lev last a s := by omega
      simp [this]
theorem firstG_bd (b r : Int) : ∀ (l : Tr) (lev last k : Int), 0 ≤ k → -1 ≤ firstG b r lev last k l ∧ firstG b r lev last k l < k + l.length
  | [], _, _, k, hk => by simp [firstG]; omega
  | (a, s) :: l, lev, last, k, hk => by
    rw [firstG]
    have := firstG_bd b r l (lvlV b r lev last a s) a (k + 1) (by omega)
    simp only [List.length_cons]
    split <;> omega
/-- Conforms: the first arrival that does not conform is none if and only if all windows fit. -/
theorem first_fits {b r : Int} (hr : 0 ≤ r) {l : Tr} (h : chainB 0 l = true) : decide (firstV b r l < 0) = fitsB b r l := by
  unfold firstV
  rw [← lvl_start hr h]
  cases hl : lvlB b r (b * 1048576) 0 l
  · have := firstG_neg b r l (b * 1048576) 0 0 (by omega)
    rw [hl] at this; simp at this; simpa using this
  · have := firstG_neg b r l (b * 1048576) 0 0 (by omega)
    rw [hl] at this; simp at this; simpa using this
/-- The reference's First: the first prefix that does not fit, from n on. -/
def prefV (b r : Int) (l : Tr) : Nat → Nat → Int
  | 0, _ => -1
  | f + 1, n => if fitsB b r (l.take (n + 1)) then prefV b r l f (n + 1) else n
theorem chainB_take : ∀ (l : Tr) (t : Int) (n : Nat), chainB t l = true → chainB t (l.take n) = true
  | [], _, n, _ => by simp [chainB]
  | _ :: _, _, 0, _ => by simp [chainB]
  | (a, s) :: l, t, n + 1, h => by
    rw [List.take_succ_cons, chainB_cons]
    rw [chainB_cons] at h
    exact ⟨h.1, chainB_take l a n h.2⟩
theorem firstG_take (b r : Int) : ∀ (l : Tr) (lev last k : Int) (n : Nat), 0 ≤ k → firstG b r lev last k l < 0 ∨ k + n ≤ firstG b r lev last k l → lvlB b r lev last (l.take n) = true
  | [], _, _, _, n, _, _ => by simp [lvlB]
  | _ :: _, _, _, _, 0, _, _ => by simp [lvlB]
  | (a, s) :: l, lev, last, k, n + 1, hk, h => by
    rw [List.take_succ_cons, lvlB, Bool.and_eq_true, decide_eq_true_eq]
    rw [firstG] at h
    by_cases h1 : lvlV b r lev last a s < 0
    · rw [if_pos h1] at h; omega
    · rw [if_neg h1] at h
      exact ⟨by omega, firstG_take b r l _ _ (k + 1) n (by omega) (by omega)⟩
theorem firstG_at (b r : Int) : ∀ (l : Tr) (lev last k : Int) (n : Nat), 0 ≤ k → firstG b r lev last k l = k + n → lvlB b r lev last (l.take (n + 1)) = false
  | [], _, _, k, n, hk, h => by simp [firstG] at h; omega
  | (a, s) :: l, lev, last, k, n, hk, h => by
    rw [List.take_succ_cons, lvlB]
    rw [firstG] at h
    by_cases h1 : lvlV b r lev last a s < 0
    · have : ¬ 0 ≤ lvlV b r lev last a s := by omega
      simp [this]
    · rw [if_neg h1] at h
      cases n with
      | zero => have := firstG_bd b r l (lvlV b r lev last a s) a (k + 1) (by omega); 
                have h3 := firstG_ge b r l (lvlV b r lev last a s) a (k + 1)
                omega
      | succ n => rw [firstG_at b r l _ _ (k + 1) n (by omega) (by omega), Bool.and_false]
where firstG_ge (b r : Int) : ∀ (l : Tr) (lev last k : Int), firstG b r lev last k l = -1 ∨ k ≤ firstG b r lev last k l
  | [], _, _, _ => .inl rfl
  | (a, s) :: l, lev, last, k => by
    rw [firstG]
    have := firstG_ge b r l (lvlV b r lev last a s) a (k + 1)
    split <;> omega
theorem pref_first {b r : Int} (hr : 0 ≤ r) {l : Tr} (h : chainB 0 l = true) : ∀ (f n : Nat), f + n = l.length → (firstV b r l < 0 ∨ (n : Int) ≤ firstV b r l) → prefV b r l f n = firstV b r l
  | 0, n, hn, hf => by
    have := firstG_bd b r l (b * 1048576) 0 0 (by omega)
    unfold firstV at *
    rw [prefV]; omega
  | f + 1, n, hn, hf => by
    rw [prefV]
    have e := lvl_start (b := b) hr (chainB_take l 0 (n + 1) h)
    by_cases h1 : firstV b r l = n
    · have h2 := firstG_at b r l (b * 1048576) 0 0 n (by omega) (by unfold firstV at h1; omega)
      rw [e] at h2
      rw [h2]; simp [h1]
    · have h2 := firstG_take b r l (b * 1048576) 0 0 (n + 1) (by omega) (by unfold firstV at h1 hf; omega)
      rw [e] at h2
      rw [if_pos h2]
      exact pref_first hr h f (n + 1) (by omega) (by omega)
/-- The greatest demand of all windows. -/
def demG (r a0 : Int) (sum best : Int) : Tr → Int
  | [] => best
  | (a, s) :: l => demG r a0 (sum + s) (max best (sum + s - r * (a - a0) / 1048576)) l
def demV (r : Int) (best : Int) : Tr → Int
  | [] => best
  | (a, s) :: l => demV r (demG r a 0 best ((a, s) :: l)) l
theorem demG_le (r a0 b : Int) : ∀ (l : Tr) (sum best : Int), demG r a0 sum best l ≤ b ↔ best ≤ b ∧ winB b r a0 sum l = true
  | [], _, _ => by simp [demG, winB]
  | (a, s) :: l, sum, best => by
    rw [demG, winB, demG_le r a0 b l]
    generalize winB b r a0 (sum + s) l = u
    simp only [Bool.and_eq_true, Bool.not_eq_true', decide_eq_false_iff_not]
    have h : sum + s - r * (a - a0) / 1048576 ≤ b ↔ ¬ r * (a - a0) < (sum + s - b) * 1048576 := by
      generalize r * (a - a0) = v
      omega
    rw [← h]
    generalize sum + s - r * (a - a0) / 1048576 = z
    constructor
    · rintro ⟨h1, h2⟩
      exact ⟨by omega, by omega, h2⟩
    · rintro ⟨h1, h2, h3⟩
      exact ⟨by omega, h3⟩
theorem demV_le (r b : Int) : ∀ (l : Tr) (best : Int), demV r best l ≤ b ↔ best ≤ b ∧ fitsB b r l = true
  | [], _ => by simp [demV, fitsB]
  | (a, s) :: l, best => by
    rw [demV, fitsB, demV_le r b l, demG_le, Bool.and_eq_true, and_assoc]
def demand (r : Int) (l : Tr) : Int := demV r 1 l
theorem demand_le {r b : Int} (hb : 1 ≤ b) (l : Tr) : demand r l ≤ b ↔ fitsB b r l = true := by
  unfold demand
  rw [demV_le]
  exact ⟨fun h => h.2, fun h => ⟨hb, h⟩⟩
theorem demand_ge (r : Int) (l : Tr) : 1 ≤ demand r l := ((demV_le r (demand r l) l 1).1 (Int.le_refl _)).1
theorem win_rate {b r r' a0 : Int} (hr : r ≤ r') : ∀ (l : Tr) (sum last : Int), a0 ≤ last → chainB last l = true → winB b r a0 sum l = true → winB b r' a0 sum l = true
  | [], _, _, _, _, _ => rfl
  | (a, s) :: l, sum, last, h0, hc, h => by
    rw [chainB_cons] at hc
    simp only [winB, Bool.and_eq_true, Bool.not_eq_true', decide_eq_false_iff_not] at h ⊢
    have h1 : r * (a - a0) ≤ r' * (a - a0) := Int.mul_le_mul_of_nonneg_right hr (by omega)
    exact ⟨by omega, win_rate hr l _ a (by omega) hc.2 h.2⟩
theorem fits_rate {b r r' : Int} (hr : r ≤ r') : ∀ (l : Tr) (last : Int), chainB last l = true → fitsB b r l = true → fitsB b r' l = true
  | [], _, _, _ => rfl
  | (a, s) :: l, last, hc, h => by
    rw [fitsB, Bool.and_eq_true] at h ⊢
    have hc' := hc
    rw [chainB_cons] at hc'
    refine ⟨win_rate hr _ 0 a (Int.le_refl _) ?_ h.1, fits_rate hr l a hc'.2 h.2⟩
    rw [chainB_cons]
    exact ⟨⟨⟨Int.le_refl _, hc'.1.1.2⟩, hc'.1.2⟩, hc'.2⟩
theorem demand_rate {r r' : Int} (hr : r ≤ r') {l : Tr} {t : Int} (hc : chainB t l = true) : demand r' l ≤ demand r l :=
  (demand_le (demand_ge r l) l).2 (fits_rate hr l t hc ((demand_le (demand_ge r l) l).1 (Int.le_refl _)))
theorem fits_burst {b b' r : Int} (hb : 1 ≤ b) (h : b ≤ b') {l : Tr} (hf : fitsB b r l = true) : fitsB b' r l = true :=
  (demand_le (by omega) l).1 (Int.le_trans ((demand_le hb l).2 hf) h)
/-- What comes between two times. -/
def cS (x y : Int) : Tr → Int
  | [] => 0
  | (a, s) :: l => (if x ≤ a ∧ a ≤ y then s else 0) + cS x y l
theorem cS_append (x y : Int) : ∀ (l m : Tr), cS x y (l ++ m) = cS x y l + cS x y m
  | [], m => by simp [cS]
  | (a, s) :: l, m => by simp only [List.cons_append, cS, cS_append x y l m]; omega
theorem cS_nonneg (x y : Int) : ∀ (l : Tr) (t : Int), chainB t l = true → 0 ≤ cS x y l
  | [], _, _ => Int.le_refl _
  | (a, s) :: l, t, h => by
    rw [chainB_cons] at h
    have := cS_nonneg x y l a h.2
    simp only [cS]
    split <;> omega
theorem cS_late (x y : Int) : ∀ (l : Tr) (t : Int), chainB t l = true → y < t → cS x y l = 0
  | [], _, _, _ => rfl
  | (a, s) :: l, t, h, hy => by
    rw [chainB_cons] at h
    rw [cS, if_neg (by omega), cS_late x y l a h.2 (by omega)]; rfl
theorem win_of_cS {b r a0 : Int} : ∀ (l : Tr) (sum last : Int), chainB last l = true → a0 ≤ last → (∀ y, last ≤ y → (sum + cS a0 y l) * 1048576 ≤ b * 1048576 + r * (y - a0)) → winB b r a0 sum l = true
  | [], _, _, _, _, _ => rfl
  | (a, s) :: l, sum, last, hc, h0, h => by
    rw [chainB_cons] at hc
    simp only [winB, Bool.and_eq_true, Bool.not_eq_true', decide_eq_false_iff_not]
    refine ⟨?_, win_of_cS l _ a hc.2 (by omega) fun y hy => ?_⟩
    · have h1 := h a hc.1.1.1
      have h2 := cS_nonneg a0 a l a hc.2
      rw [cS, if_pos (by omega)] at h1
      omega
    · have h1 := h y (by omega)
      rw [cS, if_pos (by omega)] at h1
      omega
theorem fits_of_cS {b r : Int} : ∀ (l : Tr) (last : Int), chainB last l = true → (∀ x y, x ≤ y → cS x y l * 1048576 ≤ b * 1048576 + r * (y - x)) → fitsB b r l = true
  | [], _, _, _ => rfl
  | (a, s) :: l, last, hc, h => by
    have hc' := hc
    rw [chainB_cons] at hc'
    rw [fitsB, Bool.and_eq_true]
    refine ⟨win_of_cS _ 0 a ?_ (Int.le_refl _) fun y hy => ?_, fits_of_cS l a hc'.2 fun x y hxy => ?_⟩
    · rw [chainB_cons]
      exact ⟨⟨⟨Int.le_refl _, hc'.1.1.2⟩, hc'.1.2⟩, hc'.2⟩
    · have := h a y hy
      omega
    · have := h x y hxy
      rw [cS] at this
      split at this <;> omega
theorem cS_of_win {b r a0 y x : Int} (hr : 0 ≤ r) (hx : x ≤ a0) : ∀ (l : Tr) (sum last : Int), chainB last l = true → a0 ≤ last → winB b r a0 sum l = true → sum * 1048576 ≤ b * 1048576 + r * (y - a0) → (sum + cS x y l) * 1048576 ≤ b * 1048576 + r * (y - a0)
  | [], sum, last, _, _, _, h => by simpa [cS] using h
  | (a, s) :: l, sum, last, hc, h0, hw, h => by
    have hc0 := hc
    rw [chainB_cons] at hc
    simp only [winB, Bool.and_eq_true, Bool.not_eq_true', decide_eq_false_iff_not] at hw
    by_cases hy : a ≤ y
    · have h1 : r * (a - a0) ≤ r * (y - a0) := Int.mul_le_mul_of_nonneg_left (by omega) hr
      have := cS_of_win (y := y) hr hx l (sum + s) a hc.2 (by omega) hw.2 (by omega)
      rw [cS, if_pos (by omega)]
      omega
    · rw [cS, if_neg (by omega), cS_late x y l a hc.2 (by omega)]
      omega
theorem cS_of_fits {b r : Int} (hb : 0 ≤ b) (hr : 0 ≤ r) {x y : Int} (hxy : x ≤ y) : ∀ (l : Tr) (last : Int), chainB last l = true → fitsB b r l = true → cS x y l * 1048576 ≤ b * 1048576 + r * (y - x)
  | [], _, _, _ => by
    have := Int.mul_nonneg hr (show 0 ≤ y - x by omega)
    simp [cS]; omega
  | (a, s) :: l, last, hc, h => by
    have hc' := hc
    rw [chainB_cons] at hc'
    rw [fitsB, Bool.and_eq_true] at h
    by_cases h1 : a < x
    · rw [cS, if_neg (by omega)]
      have := cS_of_fits hb hr hxy l a hc'.2 h.2
      omega
    · by_cases h2 : y < a
      · rw [cS, if_neg (by omega), cS_late x y l a hc'.2 (by omega)]
        have := Int.mul_nonneg hr (show 0 ≤ y - x by omega)
        omega
      · have hc2 : chainB a ((a, s) :: l) = true := by
          rw [chainB_cons]
          exact ⟨⟨⟨Int.le_refl _, hc'.1.1.2⟩, hc'.1.2⟩, hc'.2⟩
        have h3 : r * (y - a) ≤ r * (y - x) := Int.mul_le_mul_of_nonneg_left (by omega) hr
        have h4 := Int.mul_nonneg hr (show 0 ≤ y - a by omega)
        have := cS_of_win (x := x) (y := y) hr (show x ≤ a by omega) _ 0 a hc2 (Int.le_refl _) h.1 (by omega)
        omega
/-- The last time. -/
def lastT (t : Int) : Tr → Int
  | [] => t
  | (a, _) :: l => lastT a l
theorem chain_snoc : ∀ (l : Tr) (t a s : Int), chainB t (l ++ [(a, s)]) = true ↔ chainB t l = true ∧ (lastT t l ≤ a ∧ a ≤ 1099511627776) ∧ 1 ≤ s ∧ s ≤ 1048576
  | [], t, a, s => by simp [chainB, lastT]
  | (u, v) :: l, t, a, s => by
    rw [List.cons_append, chainB_cons, chainB_cons, chain_snoc l, lastT, ← and_assoc]
theorem lastT_snoc : ∀ (l : Tr) (t a s : Int), lastT t (l ++ [(a, s)]) = a
  | [], _, _, _ => rfl
  | (u, v) :: l, t, a, s => by rw [List.cons_append, lastT, lastT_snoc l]
theorem lastT_ge : ∀ (l : Tr) (t : Int), chainB t l = true → t ≤ lastT t l
  | [], _, _ => Int.le_refl _
  | (u, v) :: l, t, h => by
    rw [chainB_cons] at h
    have := lastT_ge l u h.2
    rw [lastT]; omega
theorem lastT_le_of : ∀ (l : Tr) (t u : Int), chainB t l = true → t ≤ u → (∀ k (h : k < l.length), (l[k]).1 ≤ u) → lastT t l ≤ u
  | [], _, _, _, h, _ => h
  | (a, s) :: l, t, u, hc, _, h => by
    rw [chainB_cons] at hc
    exact lastT_le_of l a u hc.2 (h 0 (by simp)) fun k hk => h (k + 1) (by simpa using hk)
/-- Times do not go back. -/
theorem chain_mono : ∀ (l : Tr) (t : Int), chainB t l = true → ∀ j (hj : j < l.length), t ≤ (l[j]).1 ∧ (l[j]).1 ≤ 1099511627776 ∧ 1 ≤ (l[j]).2 ∧ (l[j]).2 ≤ 1048576 ∧ ∀ k (hk : k < l.length), j ≤ k → (l[j]).1 ≤ (l[k]).1
  | [], _, _, j, hj => by simp at hj
  | (a, s) :: l, t, h, j, hj => by
    rw [chainB_cons] at h
    cases j with
    | zero =>
      refine ⟨h.1.1.1, h.1.1.2, h.1.2.1, h.1.2.2, fun k hk _ => ?_⟩
      cases k with
      | zero => exact Int.le_refl _
      | succ k => exact (chain_mono l a h.2 k (by simpa using hk)).1
    | succ j =>
      obtain ⟨h1, h2, h3, h4, h5⟩ := chain_mono l a h.2 j (by simpa using hj)
      refine ⟨by simp only [List.getElem_cons_succ]; omega, h2, h3, h4, fun k hk hjk => ?_⟩
      cases k with
      | zero => omega
      | succ k => exact h5 k (by simpa using hk) (by omega)
theorem tr_snoc {l : Tr} {k : Nat} (h : k < l.length) : l.take (k + 1) = l.take k ++ [((l[k]).1, (l[k]).2)] := List.take_succ_eq_append_getElem h
/-- Two traces being merged: what has been taken of both. -/
structure Mg (l m : Tr) (i j : Nat) (out : Tr) : Prop where
  len : out.length = i + j
  ch : chainB 0 out = true
  cs : ∀ x y, cS x y out = cS x y (l.take i) + cS x y (m.take j)
  ul : ∀ k (h : k < l.length), i ≤ k → lastT 0 out ≤ (l[k]).1
  um : ∀ k (h : k < m.length), j ≤ k → lastT 0 out ≤ (m[k]).1
theorem Mg.start {l m : Tr} (hl : chainB 0 l = true) (hm : chainB 0 m = true) : Mg l m 0 0 [] :=
  ⟨rfl, rfl, fun _ _ => rfl, fun k h _ => (chain_mono l 0 hl k h).1, fun k h _ => (chain_mono m 0 hm k h).1⟩
theorem Mg.left {l m : Tr} (hl : chainB 0 l = true) (hm : chainB 0 m = true) {i j : Nat} {out : Tr} (M : Mg l m i j out) (hi : i < l.length) (h : j = m.length ∨ ∃ hj : j < m.length, (l[i]).1 ≤ (m[j]).1) : Mg l m (i + 1) j (out ++ [((l[i]).1, (l[i]).2)]) := by
  obtain ⟨h1, h2, h3, h4, h5⟩ := chain_mono l 0 hl i hi
  refine ⟨by simp [M.len]; omega, (chain_snoc _ _ _ _).2 ⟨M.ch, ⟨M.ul i hi (Nat.le_refl _), h2⟩, h3, h4⟩, fun x y => ?_, fun k hk hik => ?_, fun k hk hjk => ?_⟩
  · rw [cS_append, M.cs, tr_snoc hi, cS_append]; omega
  · rw [lastT_snoc]; exact h5 k hk (by omega)
  · rw [lastT_snoc]
    rcases h with h | ⟨hj, h⟩
    · omega
    · exact Int.le_trans h ((chain_mono m 0 hm j hj).2.2.2.2 k hk hjk)
theorem Mg.right {l m : Tr} (hl : chainB 0 l = true) (hm : chainB 0 m = true) {i j : Nat} {out : Tr} (M : Mg l m i j out) (hj : j < m.length) (h : l.length ≤ i ∨ ∃ hi : i < l.length, (m[j]).1 ≤ (l[i]).1) : Mg l m i (j + 1) (out ++ [((m[j]).1, (m[j]).2)]) := by
  obtain ⟨h1, h2, h3, h4, h5⟩ := chain_mono m 0 hm j hj
  refine ⟨by simp [M.len]; omega, (chain_snoc _ _ _ _).2 ⟨M.ch, ⟨M.um j hj (Nat.le_refl _), h2⟩, h3, h4⟩, fun x y => ?_, fun k hk hik => ?_, fun k hk hjk => ?_⟩
  · rw [cS_append, M.cs, tr_snoc hj, cS_append]; omega
  · rw [lastT_snoc]
    rcases h with h | ⟨hi, h⟩
    · omega
    · exact Int.le_trans h ((chain_mono l 0 hl i hi).2.2.2.2 k hk hik)
  · rw [lastT_snoc]; exact h5 k hk (by omega)
theorem Mg.fits {l m out : Tr} {b c r q : Int} (hl : chainB 0 l = true) (hm : chainB 0 m = true) (M : Mg l m l.length m.length out) (hb : 0 ≤ b) (hc : 0 ≤ c) (hr : 0 ≤ r) (hq : 0 ≤ q)
    (fl : fitsB b r l = true) (fm : fitsB c q m = true) : fitsB (b + c) (r + q) out = true := by
  refine fits_of_cS out 0 M.ch fun x y hxy => ?_
  have e := M.cs x y
  rw [List.take_length, List.take_length] at e
  have h1 := cS_of_fits hb hr hxy l 0 hl fl
  have h2 := cS_of_fits hc hq hxy m 0 hm fm
  rw [e, Int.add_mul, Int.add_mul, Int.add_mul]
  omega
/-- A part of a trace. -/
structure Pt (l : Tr) (i : Nat) (out : Tr) : Prop where
  len : out.length ≤ i
  ch : chainB 0 out = true
  cs : ∀ x y, cS x y out ≤ cS x y (l.take i)
  ul : ∀ k (h : k < l.length), i ≤ k → lastT 0 out ≤ (l[k]).1
theorem Pt.start {l : Tr} (hl : chainB 0 l = true) : Pt l 0 [] := ⟨Nat.le_refl _, rfl, fun _ _ => Int.le_refl _, fun k h _ => (chain_mono l 0 hl k h).1⟩
theorem Pt.take {l : Tr} (hl : chainB 0 l = true) {i : Nat} {out : Tr} (M : Pt l i out) (hi : i < l.length) : Pt l (i + 1) (out ++ [((l[i]).1, (l[i]).2)]) := by
  obtain ⟨h1, h2, h3, h4, h5⟩ := chain_mono l 0 hl i hi
  refine ⟨by have := M.len; simp; omega, (chain_snoc _ _ _ _).2 ⟨M.ch, ⟨M.ul i hi (Nat.le_refl _), h2⟩, h3, h4⟩, fun x y => ?_, fun k hk hik => ?_⟩
  · have := M.cs x y
    rw [cS_append, tr_snoc hi, cS_append]; omega
  · rw [lastT_snoc]; exact h5 k hk (by omega)
theorem Pt.skip {l : Tr} (hl : chainB 0 l = true) {i : Nat} {out : Tr} (M : Pt l i out) (hi : i < l.length) : Pt l (i + 1) out := by
  obtain ⟨h1, h2, h3, h4, h5⟩ := chain_mono l 0 hl i hi
  refine ⟨by have := M.len; omega, M.ch, fun x y => ?_, fun k hk hik => M.ul k hk (by omega)⟩
  have := M.cs x y
  rw [tr_snoc hi, cS_append]
  simp only [cS]
  split <;> omega
theorem Pt.fits {l out : Tr} {b r : Int} (hl : chainB 0 l = true) (M : Pt l l.length out) (hb : 0 ≤ b) (hr : 0 ≤ r) (fl : fitsB b r l = true) : fitsB b r out = true := by
  refine fits_of_cS out 0 M.ch fun x y hxy => ?_
  have e := M.cs x y
  rw [List.take_length] at e
  have h1 := cS_of_fits hb hr hxy l 0 hl fl
  omega
end Go.Proofs.Ytfbfnoiapeajeaa
