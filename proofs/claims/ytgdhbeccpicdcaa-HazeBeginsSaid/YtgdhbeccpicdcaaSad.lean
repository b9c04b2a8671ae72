/- The diagram of the sums and the lines that touch it from above: plain numbers alone. -/
set_option linter.unusedVariables false
namespace Go.Proofs.Ytgdhbeccpicdcaa.Sd
/-- The line with the slope p/q touches the diagram of the sums at f and at t, and nowhere is the diagram above it. -/
def Sad (sv sw : Nat → Int) (n i : Nat) (p q : Int) : Prop :=
  ∃ f t, f ≤ i ∧ i < t ∧ t ≤ n ∧ q * sv t - p * sw t = q * sv f - p * sw f ∧ ∀ x, x ≤ n → q * sv x - p * sw x ≤ q * sv f - p * sw f

/-- Sums that grow. -/
def Up (sw : Nat → Int) (n : Nat) : Prop := ∀ x, x < n → sw x < sw (x + 1)
theorem Up.lt {sw : Nat → Int} {n : Nat} (h : Up sw n) {a b : Nat} (hab : a < b) (hb : b ≤ n) : sw a < sw b := by
  induction b with
  | zero => omega
  | succ b ih =>
    have h1 := h b (by omega)
    rcases Nat.lt_or_ge a b with h2 | h2
    · have := ih h2 (by omega); omega
    · obtain rfl : a = b := by omega
      exact h1
theorem Up.le {sw : Nat → Int} {n : Nat} (h : Up sw n) {a b : Nat} (hab : a ≤ b) (hb : b ≤ n) : sw a ≤ sw b := by
  rcases Nat.lt_or_ge a b with h2 | h2
  · exact Int.le_of_lt (h.lt h2 hb)
  · obtain rfl : a = b := by omega
    exact Int.le_refl _

theorem mul_le_of_cross {p q p' q' X Y : Int} (hq : 0 < q) (hq' : 0 < q') (hY : 0 < Y) (h1 : p * Y ≤ q * X) (h2 : q' * X ≤ p' * Y) : p * q' ≤ p' * q := by
  have a1 : q' * (p * Y) ≤ q' * (q * X) := Int.mul_le_mul_of_nonneg_left h1 (by omega)
  have a2 : q * (q' * X) ≤ q * (p' * Y) := Int.mul_le_mul_of_nonneg_left h2 (by omega)
  have a3 : (p * q') * Y ≤ (p' * q) * Y := by
    have e1 : q' * (p * Y) = (p * q') * Y := by rw [← Int.mul_assoc, Int.mul_comm q' p]
    have e2 : q * (p' * Y) = (p' * q) * Y := by rw [← Int.mul_assoc, Int.mul_comm q p']
    have e3 : q' * (q * X) = q * (q' * X) := by rw [← Int.mul_assoc, ← Int.mul_assoc, Int.mul_comm q' q]
    omega
  exact Int.le_of_mul_le_mul_right a3 hY

/-- The great comparison: what the first diagram rises from any place up to its own t, the second one does not rise from its own f. -/
theorem Sad.le {sv sw sv' sw' : Nat → Int} {n n' i : Nat} {p q p' q' : Int} (h : Sad sv sw n i p q) (h' : Sad sv' sw' n' i p' q') (hq : 0 < q) (hq' : 0 < q') (hw : Up sw n)
    (hb : ∀ f t, f ≤ i → i < t → t ≤ n → t ≤ n' ∧ sw' t - sw' f = sw t - sw f ∧ sv t - sv f ≤ sv' t - sv' f) : p * q' ≤ p' * q := by
  obtain ⟨f, t, hf, ht, htn, he, hm⟩ := h
  obtain ⟨f', t', hf', ht', htn', he', hm'⟩ := h'
  obtain ⟨h1, h2, h3⟩ := hb f' t hf' ht htn
  have a1 := hm f' (by omega)
  have a2 := hm' t h1
  have hY : 0 < sw t - sw f' := by have := hw.lt (show f' < t by omega) htn; omega
  refine mul_le_of_cross (X := sv t - sv f') (Y := sw t - sw f') hq hq' hY ?_ ?_
  · rw [Int.mul_sub, Int.mul_sub]; omega
  · have : q' * (sv t - sv f') ≤ q' * (sv' t - sv' f') := Int.mul_le_mul_of_nonneg_left h3 (by omega)
    rw [← h2]
    rw [Int.mul_sub q' (sv' t), ] at this
    rw [Int.mul_sub p']
    omega

theorem Sad.unique {sv sw : Nat → Int} {n i : Nat} {p q p' q' : Int} (h : Sad sv sw n i p q) (h' : Sad sv sw n i p' q') (hq : 0 < q) (hq' : 0 < q') (hw : Up sw n) : p * q' = p' * q := by
  have a := h.le h' hq hq' hw (fun f t _ _ ht => ⟨ht, rfl, Int.le_refl _⟩)
  have b := h'.le h hq' hq hw (fun f t _ _ ht => ⟨ht, rfl, Int.le_refl _⟩)
  omega

theorem merge_low {v1 w1 v2 w2 X Y : Int} (h1 : 0 < w1) (h2 : 0 < w2) (hY : 0 ≤ Y) (hle : v1 * w2 ≤ v2 * w1) (hX : w1 * X ≤ v1 * Y) : (w1 + w2) * X ≤ (v1 + v2) * Y := by
  have a1 := Int.mul_le_mul_of_nonneg_left hX (show 0 ≤ w1 + w2 by omega)
  have a2 := Int.mul_le_mul_of_nonneg_right hle hY
  have a3 : ((w1 + w2) * X) * w1 ≤ ((v1 + v2) * Y) * w1 := by grind
  exact Int.le_of_mul_le_mul_right a3 h1
theorem merge_high {v1 w1 v2 w2 X Y : Int} (h1 : 0 < w1) (h2 : 0 < w2) (hY : 0 ≤ Y) (hY2 : Y ≤ w2) (hle : v1 * w2 ≤ v2 * w1) (hX : w2 * X ≤ v2 * Y) : (w1 + w2) * (v1 + X) ≤ (v1 + v2) * (w1 + Y) := by
  have a1 := Int.mul_le_mul_of_nonneg_left hX (show 0 ≤ w1 + w2 by omega)
  have a2 := Int.mul_nonneg (show 0 ≤ v2 * w1 - v1 * w2 by omega) (show 0 ≤ w2 - Y by omega)
  have a3 : ((w1 + w2) * (v1 + X)) * w2 ≤ ((v1 + v2) * (w1 + Y)) * w2 := by grind
  exact Int.le_of_mul_le_mul_right a3 h2

/-- A block: nowhere in it is the diagram above the line from its begin to its end. -/
def Blk (sv sw : Nat → Int) (a e : Nat) : Prop := a < e ∧ ∀ x, a ≤ x → x ≤ e → (sw e - sw a) * (sv x - sv a) ≤ (sv e - sv a) * (sw x - sw a)
theorem Blk.one (sv sw : Nat → Int) (a : Nat) : Blk sv sw a (a + 1) := by
  refine ⟨by omega, fun x h1 h2 => ?_⟩
  rcases Nat.lt_or_ge a x with h | h
  · obtain rfl : x = a + 1 := by omega
    rw [Int.mul_comm]; exact Int.le_refl _
  · obtain rfl : x = a := by omega
    simp
theorem Blk.merge {sv sw : Nat → Int} {n a m e : Nat} (hw : Up sw n) (he : e ≤ n) (h1 : Blk sv sw a m) (h2 : Blk sv sw m e) (hle : (sv m - sv a) * (sw e - sw m) ≤ (sv e - sv m) * (sw m - sw a)) : Blk sv sw a e := by
  have p1 := h1.1
  have p2 := h2.1
  have w1 : 0 < sw m - sw a := by have := hw.lt p1 (by omega); omega
  have w2 : 0 < sw e - sw m := by have := hw.lt p2 he; omega
  refine ⟨by omega, fun x hx1 hx2 => ?_⟩
  have e1 : sw e - sw a = (sw m - sw a) + (sw e - sw m) := by omega
  have e2 : sv e - sv a = (sv m - sv a) + (sv e - sv m) := by omega
  rw [e1, e2]
  rcases Nat.lt_or_ge x m with h | h
  · have hY : 0 ≤ sw x - sw a := by have := hw.le hx1 (by omega); omega
    exact merge_low w1 w2 hY hle (h1.2 x hx1 (by omega))
  · have hY : 0 ≤ sw x - sw m := by have := hw.le h (by omega); omega
    have hY2 : sw x - sw m ≤ sw e - sw m := by have := hw.le hx2 he; omega
    have := merge_high w1 w2 hY hY2 hle (h2.2 x h hx2)
    rw [show sv x - sv a = (sv m - sv a) + (sv x - sv m) by omega, show sw x - sw a = (sw m - sw a) + (sw x - sw m) by omega]
    exact this

/-- Blocks (begin, end), one behind the other, of means that fall. -/
inductive Ch (sv sw : Nat → Int) : List (Nat × Nat) → Nat → Prop
  | nil : Ch sv sw [] 0
  | snoc {l : List (Nat × Nat)} {a e : Nat} (h : Ch sv sw l a) (hb : Blk sv sw a e) (hf : ∀ b, b ∈ l → (sv e - sv a) * (sw b.2 - sw b.1) < (sv b.2 - sv b.1) * (sw e - sw a)) : Ch sv sw (l ++ [(a, e)]) e

theorem Ch.in {sv sw : Nat → Int} {l : List (Nat × Nat)} {e : Nat} (h : Ch sv sw l e) : ∀ b ∈ l, b.1 < b.2 ∧ b.2 ≤ e := by
  induction h with
  | nil => simp
  | snoc h hb hf ih =>
    intro b hb'
    rcases List.mem_append.1 hb' with h1 | h1
    · have := ih b h1; have := hb.1; omega
    · rw [List.mem_singleton.1 h1]; exact ⟨hb.1, Nat.le_refl _⟩
/-- From any place on, up to the end, the diagram rises by no less than a line that is less steep than all blocks. -/
theorem Ch.low {sv sw : Nat → Int} {n : Nat} (hw : Up sw n) {l : List (Nat × Nat)} {e : Nat} (h : Ch sv sw l e) (he : e ≤ n) {p q : Int} (hq : 0 < q) (hb : ∀ b ∈ l, p * (sw b.2 - sw b.1) ≤ (sv b.2 - sv b.1) * q) :
    ∀ x, x ≤ e → p * (sw e - sw x) ≤ q * (sv e - sv x) := by
  induction h with
  | nil => intro x hx; obtain rfl : x = 0 := by omega
           simp
  | @snoc l a e h hk hf ih =>
    intro x hx
    have pa := hk.1
    have w1 : 0 < sw e - sw a := by have := hw.lt pa he; omega
    have hs := hb (a, e) (by simp)
    simp only at hs
    rcases Nat.lt_or_ge x a with h1 | h1
    · have i := ih (by omega) (fun b hb' => hb b (by simp [hb'])) x (by omega)
      grind
    · have k := hk.2 x h1 hx
      have y : 0 ≤ sw e - sw x := by have := hw.le hx he; omega
      -- W (sv e - sv x) ≥ V (sw e - sw x)
      have k2 : (sv e - sv a) * (sw e - sw x) ≤ (sw e - sw a) * (sv e - sv x) := by grind
      have k3 := Int.mul_le_mul_of_nonneg_right hs y
      have k4 := Int.mul_le_mul_of_nonneg_left k2 (show 0 ≤ q by omega)
      have k5 : (p * (sw e - sw x)) * (sw e - sw a) ≤ (q * (sv e - sv x)) * (sw e - sw a) := by grind
      exact Int.le_of_mul_le_mul_right k5 w1
/-- Each block's line touches the whole diagram from above. -/
theorem Ch.sad {sv sw : Nat → Int} {n : Nat} (hw : Up sw n) {l : List (Nat × Nat)} {e : Nat} (h : Ch sv sw l e) (he : e ≤ n) : ∀ b ∈ l, ∀ i, b.1 ≤ i → i < b.2 → Sad sv sw e i (sv b.2 - sv b.1) (sw b.2 - sw b.1) := by
  induction h with
  | nil => simp
  | @snoc l a e h hk hf ih =>
    intro b hb i hi1 hi2
    have pa := hk.1
    have w1 : 0 < sw e - sw a := by have := hw.lt pa he; omega
    rcases List.mem_append.1 hb with h1 | h1
    · obtain ⟨f, t, hf1, ht1, ht2, hq, hm⟩ := ih (by omega) b h1 i hi1 hi2
      refine ⟨f, t, hf1, ht1, by omega, hq, fun x hx => ?_⟩
      rcases Nat.lt_or_ge x a with h2 | h2
      · exact hm x (by omega)
      · have hma := hm a (Nat.le_refl _)
        have k := hk.2 x h2 hx
        have s := hf b h1
        have y : 0 ≤ sw x - sw a := by have := hw.le h2 (show x ≤ n by omega); omega
        have hbin := h.in b h1
        have w2 : 0 < sw b.2 - sw b.1 := by have := hw.lt hbin.1 (show b.2 ≤ n by omega); omega
        -- the rise from a to x is at most that of b's line
        have k3 := Int.mul_le_mul_of_nonneg_right (Int.le_of_lt s) y
        have k4 := Int.mul_le_mul_of_nonneg_left k (show 0 ≤ sw b.2 - sw b.1 by omega)
        have k5 : ((sw b.2 - sw b.1) * (sv x - sv a)) * (sw e - sw a) ≤ ((sv b.2 - sv b.1) * (sw x - sw a)) * (sw e - sw a) := by grind
        have k6 := Int.le_of_mul_le_mul_right k5 w1
        grind
    · rw [List.mem_singleton.1 h1] at hi1 hi2 ⊢
      simp only at hi1 hi2 ⊢
      refine ⟨a, e, hi1, hi2, Nat.le_refl _, by grind, fun x hx => ?_⟩
      rcases Nat.lt_or_ge x a with h2 | h2
      · have lo := h.low hw (show a ≤ n by omega) w1 (p := sv e - sv a) (fun b hb' => Int.le_of_lt (by have := hf b hb'; exact this)) x (by omega)
        grind
      · have k := hk.2 x h2 hx
        grind
end Go.Proofs.Ytgdhbeccpicdcaa.Sd
