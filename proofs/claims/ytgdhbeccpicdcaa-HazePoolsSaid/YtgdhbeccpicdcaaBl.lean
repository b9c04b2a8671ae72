/- Words for the plain laws: a function with rounds comes to a value, from some number of rounds on. -/
import Derived.Test.YtgdhbeccpicdcaaWWords
import Derived.Test.YtgdhbeccpicdcaaWMore
import Derived.Test.YtgdhbeccpicdcaaPx5
import Derived.Test.YtgdhbeccpicdcaaPx14
import Derived.Test.YtgdhbeccpicdcaaPx6
import Derived.Test.YtgdhbeccpicdcaaPx10
import Derived.Test.YtgdhbeccpicdcaaPx5
import Derived.Test.YtgdhbeccpicdcaaPx13
import Derived.Test.YtgdhbeccpicdcaaPx8
import Derived.Test.YtgdhbeccpicdcaaPx5
set_option linter.unusedVariables false
namespace Go.Proofs.Ytgdhbeccpicdcaa.E
open Go.RowKit Go.Proofs.YtgdhbeccpicdcaaW.PrintWords Go.Proofs.YtgdhbeccpicdcaaW.PrintMore

/-- From some number of rounds on, g answers r. -/
def Tl {α : Type} (g : Nat → Option α) (r : α) : Prop := ∃ K, ∀ k, K ≤ k → g k = some r
theorem Tl.now {α : Type} {r : α} : Tl (fun _ => some r) r := ⟨0, fun _ _ => rfl⟩
theorem Tl.of {α : Type} {o : Option α} {r : α} (h : o = some r) : Tl (fun _ => o) r := ⟨0, fun _ _ => h⟩
theorem Tl.mono {α : Type} {g : Nat → Option α} {r : α} (hm : ∀ k, LeO (g k) (g (k + 1))) (k : Nat) (h : g k = some r) : Tl g r := ⟨k, fun _ hk => at_rounds hm hk h⟩
theorem Tl.succ {α : Type} {g : Nat → Option α} {r : α} (h : Tl (fun k => g (k + 1)) r) : Tl g r := by
  obtain ⟨K, hK⟩ := h
  refine ⟨K + 1, fun k hk => ?_⟩
  obtain ⟨m, rfl⟩ : ∃ m, k = m + 1 := ⟨k - 1, by omega⟩
  exact hK m (by omega)
theorem Tl.bind {α β : Type} {g : Nat → Option α} {f : Nat → α → Option β} {a : α} {r : β} (h : Tl g a) (hf : Tl (fun k => f k a) r) : Tl (fun k => (g k).bind (f k)) r := by
  obtain ⟨K, hK⟩ := h
  obtain ⟨L, hL⟩ := hf
  refine ⟨max K L, fun k hk => ?_⟩
  show (g k).bind (f k) = some r
  rw [hK k (by omega)]
  exact hL k (by omega)
theorem Tl.bind' {α β : Type} {o : Option α} {f : Nat → α → Option β} {a : α} {r : β} (h : o = some a) (hf : Tl (fun k => f k a) r) : Tl (fun k => o.bind (f k)) r := by
  rw [h]; exact hf
theorem Tl.congr {α : Type} {g g' : Nat → Option α} {r : α} (h : Tl g r) (e : ∀ k, g' k = g k) : Tl g' r := by
  obtain ⟨K, hK⟩ := h
  exact ⟨K, fun k hk => (e k).trans (hK k hk)⟩
theorem Tl.to {α : Type} {g : Nat → Option α} {r r' : α} (h : Tl g r) (e : r = r') : Tl g r' := e ▸ h
theorem Tl.ex {α : Type} {g : Nat → Option α} {r : α} (h : Tl g r) : ∃ k, g k = some r := by
  obtain ⟨K, hK⟩ := h
  exact ⟨K, hK K (Nat.le_refl _)⟩
theorem Tl.pos {α : Type} {c : Prop} [Decidable c] {g g' : Nat → Option α} {r : α} (hc : c) (h : Tl g r) : Tl (fun k => if c then g k else g' k) r := by
  simpa only [if_pos hc] using h
theorem Tl.neg {α : Type} {c : Prop} [Decidable c] {g g' : Nat → Option α} {r : α} (hc : ¬ c) (h : Tl g' r) : Tl (fun k => if c then g k else g' k) r := by
  simpa only [if_neg hc] using h
theorem Tl.ite {α : Type} {c : Prop} [Decidable c] {g g' : Nat → Option α} {r r' : α} (h : c → Tl g r) (h' : ¬ c → Tl g' r') : Tl (fun k => if c then g k else g' k) (if c then r else r') := by
  by_cases hc : c
  · simpa only [if_pos hc] using h hc
  · simpa only [if_neg hc] using h' hc

theorem w64 {x : Int} (h1 : -9223372036854775808 ≤ x) (h2 : x < 9223372036854775808) : wrap64 x = x := by
  unfold wrap64
  omega
theorem wf64 {x : Int} (h : (Lit.int .i64 x).wf = true) : -9223372036854775808 ≤ x ∧ x < 9223372036854775808 := by
  simp only [Lit.wf, IntKind.min, IntKind.max, IntKind.signed, IntKind.bits, Bool.and_eq_true, decide_eq_true_eq, if_true] at h
  omega
theorem mx_eq (a b : Int) : mx a b = max a b := by unfold mx; omega
theorem mn_eq (a b : Int) : mn a b = min a b := by unfold mn; omega
theorem rd_nat (xs : List Int) (i : Nat) : rd xs (i : Int) = xs.getD i 0 := by simp [rd]
theorem rd_lt {xs : List Int} {i : Nat} (h : i < xs.length) : rd xs (i : Int) = xs[i] := by rw [rd_nat, List.getD_eq_getElem?_getD, List.getElem?_eq_getElem h]; rfl
end Go.Proofs.Ytgdhbeccpicdcaa.E
/- Fractions: what the program's and the reference's shortening come to. -/
set_option linter.unusedVariables false
namespace Go.Proofs.Ytgdhbeccpicdcaa.Fr
open Go.RowKit Go.Proofs.Ytgdhbeccpicdcaa.P Go.Proofs.Ytgdhbeccpicdcaa.E Go.Proofs.YtgdhbeccpicdcaaW.PrintMore
open Go.Proofs.YtgdhbeccpicdcaaW.PrintWords

theorem ratio_loop (x0 x1 : Int) (n : Nat) : ∀ m : Nat, m < 4611686018427387904 → n < 4611686018427387904 → 0 < m + n →
    Tl (fun k => haze_ratio.l0 k x0 x1 (m : Int) (n : Int)) (wrap64 (Int.tdiv x0 (Nat.gcd m n : Nat)), wrap64 (Int.tdiv x1 (Nat.gcd m n : Nat))) := by
  induction n using Nat.strongRecOn with
  | _ n ih =>
    intro m hm hn' h0
    refine Tl.succ ?_
    simp only [haze_ratio.l0]
    by_cases hn : n = 0
    · subst hn
      refine Tl.pos (by simp) ?_
      have e1 : wrap64 (-(m : Int)) = -(m : Int) := w64 (by omega) (by omega)
      have e2 : mx (m : Int) (-(m : Int)) = m := by rw [mx_eq]; omega
      rw [e1, e2, Nat.gcd_zero_right]
      exact Tl.neg (by omega) Tl.now
    · refine Tl.neg (by omega) ?_
      rw [← Int.ofNat_tmod, Nat.gcd_comm, Nat.gcd_rec, Nat.gcd_comm]
      have := Nat.mod_lt m (show 0 < n by omega)
      exact ih (m % n) this n hn' (by omega) (by omega)

theorem Ratio_loop (x0 x1 : Int) (n : Nat) : ∀ m : Nat, 0 < m + n →
    Tl (fun k => diaphoneref02_Ratio.l0 k x0 x1 (m : Int) (n : Int)) (wrap64 (Int.tdiv x0 (Nat.gcd m n : Nat)), wrap64 (Int.tdiv x1 (Nat.gcd m n : Nat))) := by
  induction n using Nat.strongRecOn with
  | _ n ih =>
    intro m h0
    refine Tl.succ ?_
    simp only [diaphoneref02_Ratio.l0]
    by_cases hn : n = 0
    · subst hn
      refine Tl.pos (by simp) ?_
      rw [Nat.gcd_zero_right]
      exact Tl.neg (by omega) Tl.now
    · refine Tl.neg (by omega) ?_
      rw [← Int.ofNat_tmod, Nat.gcd_comm, Nat.gcd_rec, Nat.gcd_comm]
      have := Nat.mod_lt m (show 0 < n by omega)
      exact ih (m % n) this n (by omega)

/-- A fraction in lowest terms. -/
def Rt (n d : Int) : Int × Int := (n / (Int.gcd n d : Nat), d / (Int.gcd n d : Nat))

theorem gcd_pos' {n d : Int} (hd : 0 < d) : 0 < (Int.gcd n d : Int) := by
  have : 0 < Int.gcd n d := Int.gcd_pos_of_ne_zero_right n (by omega)
  omega
theorem Rt_mul {n d : Int} (hd : 0 < d) : (Rt n d).1 * (Int.gcd n d : Nat) = n ∧ (Rt n d).2 * (Int.gcd n d : Nat) = d :=
  ⟨Int.ediv_mul_cancel (Int.gcd_dvd_left ..), Int.ediv_mul_cancel (Int.gcd_dvd_right ..)⟩
theorem Rt_pos {n d : Int} (hd : 0 < d) : 0 < (Rt n d).2 := by
  have h := (Rt_mul (n := n) hd).2
  have g := gcd_pos' (n := n) hd
  by_cases h1 : 0 < (Rt n d).2
  · exact h1
  · have := Int.mul_nonpos_of_nonpos_of_nonneg (show (Rt n d).2 ≤ 0 by omega) (Int.le_of_lt g)
    omega
theorem Rt_cross {n d : Int} (hd : 0 < d) : (Rt n d).1 * d = n * (Rt n d).2 := by
  obtain ⟨h1, h2⟩ := Rt_mul (n := n) hd
  conv => lhs; rw [← h2]
  conv => rhs; rw [← h1]
  grind
theorem Rt_le {n d : Int} (hd : 0 < d) : (Rt n d).2 ≤ d := by
  have h2 := (Rt_mul (n := n) hd).2
  have g := gcd_pos' (n := n) hd
  have := Rt_pos (n := n) hd
  have h3 := Int.mul_le_mul_of_nonneg_left (show (1 : Int) ≤ (Int.gcd n d : Nat) by omega) (show 0 ≤ (Rt n d).2 by omega)
  rw [h2] at h3
  omega
theorem Rt_nonneg {n d : Int} (hn : 0 ≤ n) (hd : 0 < d) : 0 ≤ (Rt n d).1 := Int.ediv_nonneg hn (Int.le_of_lt (gcd_pos' hd))
theorem Rt_num_le {n d : Int} (hn : 0 ≤ n) (hd : 0 < d) : (Rt n d).1 ≤ n := Int.ediv_le_self _ hn
/-- Equal fractions have equal lowest terms. -/
theorem Rt_eq {n d n' d' : Int} (hd : 0 < d) (hd' : 0 < d') (h : n * d' = n' * d) : Rt n d = Rt n' d' := by
  have key : ∀ {n d n' d' : Int}, 0 < d → 0 < d' → n * d' = n' * d → (Int.gcd n d : Int) * d' = (Int.gcd n' d' : Int) * d := by
    intro n d n' d' hd hd' h
    have a1 : Int.gcd (n * d') (d * d') = Int.gcd n d * d'.natAbs := Int.gcd_mul_right ..
    have a2 : Int.gcd (n' * d) (d' * d) = Int.gcd n' d' * d.natAbs := Int.gcd_mul_right ..
    rw [h, Int.mul_comm d d', a2] at a1
    have b1 : (d'.natAbs : Int) = d' := by omega
    have b2 : (d.natAbs : Int) = d := by omega
    rw [← b1, ← b2]
    have := congrArg (fun x : Nat => (x : Int)) a1
    simp only [Int.natCast_mul] at this
    rw [b1, b2] at this ⊢
    omega
  have hk := key hd hd' h
  obtain ⟨h1, h2⟩ := Rt_mul (n := n) hd
  obtain ⟨h3, h4⟩ := Rt_mul (n := n') hd'
  have g := gcd_pos' (n := n) hd
  have g' := gcd_pos' (n := n') hd'
  have e2 : (Rt n d).2 = (Rt n' d').2 := by
    -- d = D g, d' = D' g', g * d' = g' * d
    have : ((Rt n d).2 * ((Int.gcd n d : Nat) * (Int.gcd n' d' : Nat) : Int)) = ((Rt n' d').2 * ((Int.gcd n d : Nat) * (Int.gcd n' d' : Nat) : Int)) := by grind
    exact Int.eq_of_mul_eq_mul_right (Int.ne_of_gt (Int.mul_pos g g')) this
  have e1 : (Rt n d).1 = (Rt n' d').1 := by
    have c1 := Rt_cross (n := n) hd
    have c2 := Rt_cross (n := n') hd'
    have p := Rt_pos (n := n) hd
    have : (Rt n d).1 * (d * d') = (Rt n' d').1 * (d * d') := by
      have : (Rt n d).1 * (d * d') = (n * d') * (Rt n d).2 := by grind
      have : (Rt n' d').1 * (d * d') = (n' * d) * (Rt n' d').2 := by grind
      grind
    exact Int.eq_of_mul_eq_mul_right (Int.ne_of_gt (Int.mul_pos hd hd')) this
  exact Prod.ext e1 e2

theorem tdiv_gcd_left (n d : Int) (hd : 0 < d) : Int.tdiv n (Int.gcd n d : Nat) = (Rt n d).1 := by
  rw [Int.tdiv_eq_ediv_of_dvd (Int.gcd_dvd_left ..)]; rfl
theorem tdiv_gcd_right (n d : Int) (hd : 0 < d) : Int.tdiv d (Int.gcd n d : Nat) = (Rt n d).2 := by
  rw [Int.tdiv_eq_ediv_of_dvd (Int.gcd_dvd_right ..)]; rfl

theorem ev_ratio {n d : Int} (h0 : 0 ≤ n) (h1 : n < 4611686018427387904) (hd : 0 < d) (hd1 : d < 4611686018427387904) : Tl (fun k => haze_ratio.f k n d) (Rt n d) := by
  unfold haze_ratio.f
  have := ratio_loop n d d.toNat n.toNat (by omega) (by omega) (by omega)
  rw [show ((n.toNat : Nat) : Int) = n by omega, show ((d.toNat : Nat) : Int) = d by omega] at this
  refine this.to ?_
  have e : Nat.gcd n.toNat d.toNat = Int.gcd n d := by
    unfold Int.gcd
    congr 1 <;> omega
  rw [e, tdiv_gcd_left n d hd, tdiv_gcd_right n d hd]
  have b1 := Rt_pos (n := n) hd
  have b2 := Rt_le (n := n) hd
  have b3 := Rt_nonneg h0 hd
  have b4 := Rt_num_le h0 hd
  rw [w64 (by omega) (by omega), w64 (by omega) (by omega)]

theorem ev_Ratio {n d : Int} (h0 : -4611686018427387904 < n) (h1 : n < 4611686018427387904) (hd : 0 < d) (hd1 : d < 4611686018427387904) : Tl (fun k => diaphoneref02_Ratio.f k n d) (Rt n d) := by
  unfold diaphoneref02_Ratio.f
  have e1 : mx n (wrap64 (-n)) = (n.natAbs : Int) := by rw [w64 (by omega) (by omega), mx_eq]; omega
  rw [e1]
  have := Ratio_loop n d d.toNat n.natAbs (by omega)
  rw [show ((d.toNat : Nat) : Int) = d by omega] at this
  refine this.to ?_
  have e : Nat.gcd n.natAbs d.toNat = Int.gcd n d := by
    unfold Int.gcd
    congr 1; omega
  rw [e, tdiv_gcd_left n d hd, tdiv_gcd_right n d hd]
  have b1 := Rt_pos (n := n) hd
  have b2 := Rt_le (n := n) hd
  have b3 := (Rt_mul (n := n) hd).1
  have g := gcd_pos' (n := n) hd
  have b4 : -4611686018427387904 < (Rt n d).1 ∧ (Rt n d).1 < 4611686018427387904 := by
    by_cases hn : n < 0
    · have : (Rt n d).1 < 0 := Int.ediv_neg_of_neg_of_pos hn g
      have c := Int.mul_le_mul_of_nonpos_left (show (Rt n d).1 ≤ 0 by omega) (show (1 : Int) ≤ (Int.gcd n d : Nat) by omega)
      omega
    · have := Rt_nonneg (show 0 ≤ n by omega) hd
      have := Rt_num_le (show 0 ≤ n by omega) hd
      omega
  rw [w64 (by omega) (by omega), w64 (by omega) (by omega)]
end Go.Proofs.Ytgdhbeccpicdcaa.Fr
/- The diagram of the sums and the lines that touch it from above: plain numbers alone. -/
set_option linter.unusedVariables false
namespace Go.Proofs.Ytgdhbeccpicdcaa.Sd
/-- The line with the slope p/q touches the diagram of the sums at f and at t, and nowhere is the diagram above it. -/
def Sad (sv sw : Nat → Int) (n i : Nat) (p q : Int) : Prop :=
  ∃ f t, f ≤ i ∧ i < t ∧ t ≤ n ∧ q * sv t - p * sw t = q * sv f - p * sw f ∧ ∀ x, x ≤ n → q * sv x - p * sw x ≤ q * sv f - p * sw f

/-- Sums that grow. -/
def Up (sw : Nat → Int) (n : Nat) : Prop := ∀ x, x < n → sw x < sw (x + 1)
theorem Up.lt {sw : Nat → Int} {n : Nat} (h : Up sw n) {a b : Nat} (hab : a < b) (hb : b ≤ n) : sw a < sw b := by
  induction b with
  | zero => omega
  | succ b ih =>
    have h1 := h b (by omega)
    rcases Nat.lt_or_ge a b with h2 | h2
    · have := ih h2 (by omega); omega
    · obtain rfl : a = b := by omega
      exact h1
theorem Up.le {sw : Nat → Int} {n : Nat} (h : Up sw n) {a b : Nat} (hab : a ≤ b) (hb : b ≤ n) : sw a ≤ sw b := by
  rcases Nat.lt_or_ge a b with h2 | h2
  · exact Int.le_of_lt (h.lt h2 hb)
  · obtain rfl : a = b := by omega
    exact Int.le_refl _

theorem mul_le_of_cross {p q p' q' X Y : Int} (hq : 0 < q) (hq' : 0 < q') (hY : 0 < Y) (h1 : p * Y ≤ q * X) (h2 : q' * X ≤ p' * Y) : p * q' ≤ p' * q := by
  have a1 : q' * (p * Y) ≤ q' * (q * X) := Int.mul_le_mul_of_nonneg_left h1 (by omega)
  have a2 : q * (q' * X) ≤ q * (p' * Y) := Int.mul_le_mul_of_nonneg_left h2 (by omega)
  have a3 : (p * q') * Y ≤ (p' * q) * Y := by
    have e1 : q' * (p * Y) = (p * q') * Y := by rw [← Int.mul_assoc, Int.mul_comm q' p]
    have e2 : q * (p' * Y) = (p' * q) * Y := by rw [← Int.mul_assoc, Int.mul_comm q p']
    have e3 : q' * (q * X) = q * (q' * X) := by rw [← Int.mul_assoc, ← Int.mul_assoc, Int.mul_comm q' q]
    omega
  exact Int.le_of_mul_le_mul_right a3 hY

/-- The great comparison: what the first diagram rises from any place up to its own t, the second one does not rise from its own f. -/
theorem Sad.le {sv sw sv' sw' : Nat → Int} {n n' i : Nat} {p q p' q' : Int} (h : Sad sv sw n i p q) (h' : Sad sv' sw' n' i p' q') (hq : 0 < q) (hq' : 0 < q') (hw : Up sw n)
    (hb : ∀ f t, f ≤ i → i < t → t ≤ n → t ≤ n' ∧ sw' t - sw' f = sw t - sw f ∧ sv t - sv f ≤ sv' t - sv' f) : p * q' ≤ p' * q := by
  obtain ⟨f, t, hf, ht, htn, he, hm⟩ := h
  obtain ⟨f', t', hf', ht', htn', he', hm'⟩ := h'
  obtain ⟨h1, h2, h3⟩ := hb f' t hf' ht htn
  have a1 := hm f' (by omega)
  have a2 := hm' t h1
  have hY : 0 < sw t - sw f' := by have := hw.lt (show f' < t by omega) htn; omega
  refine mul_le_of_cross (X := sv t - sv f') (Y := sw t - sw f') hq hq' hY ?_ ?_
  · rw [Int.mul_sub, Int.mul_sub]; omega
  · have : q' * (sv t - sv f') ≤ q' * (sv' t - sv' f') := Int.mul_le_mul_of_nonneg_left h3 (by omega)
    rw [← h2]
    rw [Int.mul_sub q' (sv' t), ] at this
    rw [Int.mul_sub p']
    omega

theorem Sad.unique {sv sw : Nat → Int} {n i : Nat} {p q p' q' : Int} (h : Sad sv sw n i p q) (h' : Sad sv sw n i p' q') (hq : 0 < q) (hq' : 0 < q') (hw : Up sw n) : p * q' = p' * q := by
  have a := h.le h' hq hq' hw (fun f t _ _ ht => ⟨ht, rfl, Int.le_refl _⟩)
  have b := h'.le h hq' hq hw (fun f t _ _ ht => ⟨ht, rfl, Int.le_refl _⟩)
  omega

theorem merge_low {v1 w1 v2 w2 X Y : Int} (h1 : 0 < w1) (h2 : 0 < w2) (hY : 0 ≤ Y) (hle : v1 * w2 ≤ v2 * w1) (hX : w1 * X ≤ v1 * Y) : (w1 + w2) * X ≤ (v1 + v2) * Y := by
  have a1 := Int.mul_le_mul_of_nonneg_left hX (show 0 ≤ w1 + w2 by omega)
  have a2 := Int.mul_le_mul_of_nonneg_right hle hY
  have a3 : ((w1 + w2) * X) * w1 ≤ ((v1 + v2) * Y) * w1 := by grind
  exact Int.le_of_mul_le_mul_right a3 h1
theorem merge_high {v1 w1 v2 w2 X Y : Int} (h1 : 0 < w1) (h2 : 0 < w2) (hY : 0 ≤ Y) (hY2 : Y ≤ w2) (hle : v1 * w2 ≤ v2 * w1) (hX : w2 * X ≤ v2 * Y) : (w1 + w2) * (v1 + X) ≤ (v1 + v2) * (w1 + Y) := by
  have a1 := Int.mul_le_mul_of_nonneg_left hX (show 0 ≤ w1 + w2 by omega)
  have a2 := Int.mul_nonneg (show 0 ≤ v2 * w1 - v1 * w2 by omega) (show 0 ≤ w2 - Y by omega)
  have a3 : ((w1 + w2) * (v1 + X)) * w2 ≤ ((v1 + v2) * (w1 + Y)) * w2 := by grind
  exact Int.le_of_mul_le_mul_right a3 h2

/-- A block: nowhere in it is the diagram above the line from its begin to its end. -/
def Blk (sv sw : Nat → Int) (a e : Nat) : Prop := a < e ∧ ∀ x, a ≤ x → x ≤ e → (sw e - sw a) * (sv x - sv a) ≤ (sv e - sv a) * (sw x - sw a)
theorem Blk.one (sv sw : Nat → Int) (a : Nat) : Blk sv sw a (a + 1) := by
  refine ⟨by omega, fun x h1 h2 => ?_⟩
  rcases Nat.lt_or_ge a x with h | h
  · obtain rfl : x = a + 1 := by omega
    rw [Int.mul_comm]; exact Int.le_refl _
  · obtain rfl : x = a := by omega
    simp
theorem Blk.merge {sv sw : Nat → Int} {n a m e : Nat} (hw : Up sw n) (he : e ≤ n) (h1 : Blk sv sw a m) (h2 : Blk sv sw m e) (hle : (sv m - sv a) * (sw e - sw m) ≤ (sv e - sv m) * (sw m - sw a)) : Blk sv sw a e := by
  have p1 := h1.1
  have p2 := h2.1
  have w1 : 0 < sw m - sw a := by have := hw.lt p1 (by omega); omega
  have w2 : 0 < sw e - sw m := by have := hw.lt p2 he; omega
  refine ⟨by omega, fun x hx1 hx2 => ?_⟩
  have e1 : sw e - sw a = (sw m - sw a) + (sw e - sw m) := by omega
  have e2 : sv e - sv a = (sv m - sv a) + (sv e - sv m) := by omega
  rw [e1, e2]
  rcases Nat.lt_or_ge x m with h | h
  · have hY : 0 ≤ sw x - sw a := by have := hw.le hx1 (by omega); omega
    exact merge_low w1 w2 hY hle (h1.2 x hx1 (by omega))
  · have hY : 0 ≤ sw x - sw m := by have := hw.le h (by omega); omega
    have hY2 : sw x - sw m ≤ sw e - sw m := by have := hw.le hx2 he; omega
    have := merge_high w1 w2 hY hY2 hle (h2.2 x h hx2)
    rw [show sv x - sv a = (sv m - sv a) + (sv x - sv m) by omega, show sw x - sw a = (sw m - sw a) + (sw x - sw m) by omega]
    exact this

/-- Blocks (begin, end), one behind the other, of means that fall. -/
inductive Ch (sv sw : Nat → Int) : List (Nat × Nat) → Nat → Prop
  | nil : Ch sv sw [] 0
  | snoc {l : List (Nat × Nat)} {a e : Nat} (h : Ch sv sw l a) (hb : Blk sv sw a e) (hf : ∀ b, b ∈ l → (sv e - sv a) * (sw b.2 - sw b.1) < (sv b.2 - sv b.1) * (sw e - sw a)) : Ch sv sw (l ++ [(a, e)]) e

theorem Ch.in {sv sw : Nat → Int} {l : List (Nat × Nat)} {e : Nat} (h : Ch sv sw l e) : ∀ b ∈ l, b.1 < b.2 ∧ b.2 ≤ e := by
  induction h with
  | nil => simp
  | snoc h hb hf ih =>
    intro b hb'
    rcases List.mem_append.1 hb' with h1 | h1
    · have := ih b h1; have := hb.1; omega
    · rw [List.mem_singleton.1 h1]; exact ⟨hb.1, Nat.le_refl _⟩
/-- From any place on, up to the end, the diagram rises by no less than a line that is less steep than all blocks. -/
theorem Ch.low {sv sw : Nat → Int} {n : Nat} (hw : Up sw n) {l : List (Nat × Nat)} {e : Nat} (h : Ch sv sw l e) (he : e ≤ n) {p q : Int} (hq : 0 < q) (hb : ∀ b ∈ l, p * (sw b.2 - sw b.1) ≤ (sv b.2 - sv b.1) * q) :
    ∀ x, x ≤ e → p * (sw e - sw x) ≤ q * (sv e - sv x) := by
  induction h with
  | nil => intro x hx; obtain rfl : x = 0 := by omega
           simp
  | @snoc l a e h hk hf ih =>
    intro x hx
    have pa := hk.1
    have w1 : 0 < sw e - sw a := by have := hw.lt pa he; omega
    have hs := hb (a, e) (by simp)
    simp only at hs
    rcases Nat.lt_or_ge x a with h1 | h1
    · have i := ih (by omega) (fun b hb' => hb b (by simp [hb'])) x (by omega)
      grind
    · have k := hk.2 x h1 hx
      have y : 0 ≤ sw e - sw x := by have := hw.le hx he; omega
      -- W (sv e - sv x) ≥ V (sw e - sw x)
      have k2 : (sv e - sv a) * (sw e - sw x) ≤ (sw e - sw a) * (sv e - sv x) := by grind
      have k3 := Int.mul_le_mul_of_nonneg_right hs y
      have k4 := Int.mul_le_mul_of_nonneg_left k2 (show 0 ≤ q by omega)
      have k5 : (p * (sw e - sw x)) * (sw e - sw a) ≤ (q * (sv e - sv x)) * (sw e - sw a) := by grind
      exact Int.le_of_mul_le_mul_right k5 w1
/-- Each block's line touches the whole diagram from above. -/
theorem Ch.sad {sv sw : Nat → Int} {n : Nat} (hw : Up sw n) {l : List (Nat × Nat)} {e : Nat} (h : Ch sv sw l e) (he : e ≤ n) : ∀ b ∈ l, ∀ i, b.1 ≤ i → i < b.2 → Sad sv sw e i (sv b.2 - sv b.1) (sw b.2 - sw b.1) := by
  induction h with
  | nil => simp
  | @snoc l a e h hk hf ih =>
    intro b hb i hi1 hi2
    have pa := hk.1
    have w1 : 0 < sw e - sw a := by have := hw.lt pa he; omega
    rcases List.mem_append.1 hb with h1 | h1
    · obtain ⟨f, t, hf1, ht1, ht2, hq, hm⟩ := ih (by omega) b h1 i hi1 hi2
      refine ⟨f, t, hf1, ht1, by omega, hq, fun x hx => ?_⟩
      rcases Nat.lt_or_ge x a with h2 | h2
      · exact hm x (by omega)
      · have hma := hm a (Nat.le_refl _)
        have k := hk.2 x h2 hx
        have s := hf b h1
        have y : 0 ≤ sw x - sw a := by have := hw.le h2 (show x ≤ n by omega); omega
        have hbin := h.in b h1
        have w2 : 0 < sw b.2 - sw b.1 := by have := hw.lt hbin.1 (show b.2 ≤ n by omega); omega
        -- the rise from a to x is at most that of b's line
        have k3 := Int.mul_le_mul_of_nonneg_right (Int.le_of_lt s) y
        have k4 := Int.mul_le_mul_of_nonneg_left k (show 0 ≤ sw b.2 - sw b.1 by omega)
        have k5 : ((sw b.2 - sw b.1) * (sv x - sv a)) * (sw e - sw a) ≤ ((sv b.2 - sv b.1) * (sw x - sw a)) * (sw e - sw a) := by grind
        have k6 := Int.le_of_mul_le_mul_right k5 w1
        grind
    · rw [List.mem_singleton.1 h1] at hi1 hi2 ⊢
      simp only at hi1 hi2 ⊢
      refine ⟨a, e, hi1, hi2, Nat.le_refl _, by grind, fun x hx => ?_⟩
      rcases Nat.lt_or_ge x a with h2 | h2
      · have lo := h.low hw (show a ≤ n by omega) w1 (p := sv e - sv a) (fun b hb' => Int.le_of_lt (by have := hf b hb'; exact this)) x (by omega)
        grind
      · have k := hk.2 x h2 hx
        grind
end Go.Proofs.Ytgdhbeccpicdcaa.Sd
/- The pooling of hours: the blocks that the program finds are a chain whose means fall. -/
set_option linter.unusedVariables false
namespace Go.Proofs.Ytgdhbeccpicdcaa.Bl
open Go.RowKit Go.Proofs.Ytgdhbeccpicdcaa.P Go.Proofs.Ytgdhbeccpicdcaa.E Go.Proofs.Ytgdhbeccpicdcaa.Fr Go.Proofs.Ytgdhbeccpicdcaa.Sd Go.Proofs.YtgdhbeccpicdcaaW.PrintMore
open Go.Proofs.YtgdhbeccpicdcaaW.PrintWords

/-- The sums of the weights, and of weight times value, of the first hours. -/
def sw (h : List S31) : Nat → Int
  | 0 => 0
  | n + 1 => sw h n + (rd_T31 h (n : Int)).f1
def sv (h : List S31) : Nat → Int
  | 0 => 0
  | n + 1 => sv h n + (rd_T31 h (n : Int)).f1 * (rd_T31 h (n : Int)).f0
def rok (r : S31) : Prop := 0 ≤ r.f0 ∧ r.f0 ≤ 100 ∧ 1 ≤ r.f1 ∧ r.f1 ≤ 9
instance (r : S31) : Decidable (rok r) := by unfold rok; infer_instance
def Ok (h : List S31) : Prop := 1 ≤ h.length ∧ h.length ≤ 12 ∧ ∀ i : Nat, i < h.length → rok (rd_T31 h (i : Int))

theorem Ok.up {h : List S31} (k : Ok h) : Up (sw h) h.length := by
  intro x hx
  have := k.2.2 x hx
  simp only [rok] at this
  simp only [sw]
  omega
theorem Ok.bd {h : List S31} (k : Ok h) {a b : Nat} (hab : a ≤ b) (hb : b ≤ h.length) :
    (b : Int) - a ≤ sw h b - sw h a ∧ sw h b - sw h a ≤ 9 * ((b : Int) - a) ∧ 0 ≤ sv h b - sv h a ∧ sv h b - sv h a ≤ 900 * ((b : Int) - a) := by
  induction b with
  | zero => obtain rfl : a = 0 := by omega
            simp
  | succ b ih =>
    rcases Nat.lt_or_ge a (b + 1) with h1 | h1
    · have i := ih (by omega) (by omega)
      have r := k.2.2 b (by omega)
      simp only [rok] at r
      have m1 : 0 ≤ (rd_T31 h (b : Int)).f1 * (rd_T31 h (b : Int)).f0 := Int.mul_nonneg (by omega) (by omega)
      have m2 : (rd_T31 h (b : Int)).f1 * (rd_T31 h (b : Int)).f0 ≤ 9 * 100 := Int.mul_le_mul (by omega) (by omega) (by omega) (by omega)
      simp only [sw, sv]
      omega
    · obtain rfl : a = b + 1 := by omega
      simp
theorem Ok.small {h : List S31} (k : Ok h) {a b : Nat} (hab : a < b) (hb : b ≤ h.length) :
    0 < sw h b - sw h a ∧ sw h b - sw h a ≤ 108 ∧ 0 ≤ sv h b - sv h a ∧ sv h b - sv h a ≤ 10800 := by
  have := k.bd (Nat.le_of_lt hab) hb
  have := k.2.1
  omega
/-- The mean of the hours from a to b, b not included. -/
def M (h : List S31) (a b : Nat) : Int × Int := Rt (sv h b - sv h a) (sw h b - sw h a)

theorem Rt_lt {a b c d : Int} (hb : 0 < b) (hd : 0 < d) : (Rt c d).1 * (Rt a b).2 < (Rt a b).1 * (Rt c d).2 ↔ c * b < a * d := by
  obtain ⟨h1, h2⟩ := Rt_mul (n := a) hb
  obtain ⟨h3, h4⟩ := Rt_mul (n := c) hd
  have g := gcd_pos' (n := a) hb
  have g' := gcd_pos' (n := c) hd
  have gg := Int.mul_pos g g'
  have e1 : c * b = ((Rt c d).1 * (Rt a b).2) * ((Int.gcd a b : Nat) * (Int.gcd c d : Nat) : Int) := by
    conv => lhs; rw [← h3, ← h2]
    grind
  have e2 : a * d = ((Rt a b).1 * (Rt c d).2) * ((Int.gcd a b : Nat) * (Int.gcd c d : Nat) : Int) := by
    conv => lhs; rw [← h1, ← h4]
    grind
  rw [e1, e2]
  exact (Int.mul_lt_mul_right gg).symm
theorem small_mul {x y : Int} (h1 : 0 ≤ x) (h2 : x ≤ 1000000000) (h3 : 0 ≤ y) (h4 : y ≤ 1000000000) : 0 ≤ x * y ∧ x * y ≤ 1000000000000000000 :=
  ⟨Int.mul_nonneg h1 h3, Int.le_trans (Int.mul_le_mul h2 h4 h3 (by decide)) (by decide)⟩
theorem above_eq {a b c d : Int} (ha : 0 ≤ a) (ha' : a ≤ 1000000000) (hb : 0 < b) (hb' : b ≤ 1000000000) (hc : 0 ≤ c) (hc' : c ≤ 1000000000) (hd : 0 < d) (hd' : d ≤ 1000000000) :
    api_Rat_haze_compare.f (Rt a b).1 (Rt a b).2 (Rt c d).1 (Rt c d).2 = some (decide (c * b < a * d)) := by
  unfold api_Rat_haze_compare.f haze_compare.f
  have i1 := Rt_nonneg ha hb
  have i2 := Rt_num_le ha hb
  have i3 := Rt_pos (n := a) hb
  have i4 := Rt_le (n := a) hb
  have j1 := Rt_nonneg hc hd
  have j2 := Rt_num_le hc hd
  have j3 := Rt_pos (n := c) hd
  have j4 := Rt_le (n := c) hd
  have p := small_mul i1 (by omega) (Int.le_of_lt j3) (by omega)
  have q := small_mul j1 (by omega) (Int.le_of_lt i3) (by omega)
  rw [w64 (x := (Rt a b).1 * (Rt c d).2) (by omega) (by omega), w64 (x := (Rt c d).1 * (Rt a b).2) (by omega) (by omega), w64 (by omega) (by omega)]
  simp only [Option.bind_some]
  congr 1
  have := Rt_lt (a := a) (c := c) hb hd
  rw [decide_eq_decide]
  omega
theorem less_eq {a b c d : Int} (ha : 0 ≤ a) (ha' : a ≤ 1000000000) (hb : 0 < b) (hb' : b ≤ 1000000000) (hc : 0 ≤ c) (hc' : c ≤ 1000000000) (hd : 0 < d) (hd' : d ≤ 1000000000) :
    diaphoneref02_Less.f (Rt a b).1 (Rt a b).2 (Rt c d).1 (Rt c d).2 = some (decide (a * d < c * b)) := by
  unfold diaphoneref02_Less.f
  have i1 := Rt_nonneg ha hb
  have i2 := Rt_num_le ha hb
  have i3 := Rt_pos (n := a) hb
  have i4 := Rt_le (n := a) hb
  have j1 := Rt_nonneg hc hd
  have j2 := Rt_num_le hc hd
  have j3 := Rt_pos (n := c) hd
  have j4 := Rt_le (n := c) hd
  have p := small_mul i1 (by omega) (Int.le_of_lt j3) (by omega)
  have q := small_mul j1 (by omega) (Int.le_of_lt i3) (by omega)
  rw [w64 (x := (Rt a b).1 * (Rt c d).2) (by omega) (by omega), w64 (x := (Rt c d).1 * (Rt a b).2) (by omega) (by omega)]
  congr 1
  have := Rt_lt (a := c) (c := a) hd hb
  rw [decide_eq_decide]
  exact this

theorem ev_block_mean {f t w v : Int} (h0 : 0 ≤ v) (h1 : v ≤ 1000000000) (hd : 0 < w) (hd1 : w ≤ 1000000000) : Tl (fun k => haze_block_mean.f k f t w v) (Rt v w) := by
  unfold haze_block_mean.f
  exact Tl.bind (ev_ratio h0 (by omega) hd (by omega)) Tl.now
theorem of_eq {h : List S31} (k : Ok h) {i : Nat} (hi : i < h.length) : haze_of.f h (i : Int) = some ((i : Int), (i : Int), sw h (i + 1) - sw h i, sv h (i + 1) - sv h i) := by
  unfold haze_of.f
  have r := k.2.2 i hi
  simp only [rok] at r
  have m1 : 0 ≤ (rd_T31 h (i : Int)).f1 * (rd_T31 h (i : Int)).f0 := Int.mul_nonneg (by omega) (by omega)
  have m2 : (rd_T31 h (i : Int)).f1 * (rd_T31 h (i : Int)).f0 ≤ 9 * 100 := Int.mul_le_mul (by omega) (by omega) (by omega) (by omega)
  rw [if_pos (by omega), if_pos (by omega), w64 (by omega) (by omega)]
  have e1 : sw h (i + 1) - sw h i = (rd_T31 h (i : Int)).f1 := by simp only [sw]; omega
  have e2 : sv h (i + 1) - sv h i = (rd_T31 h (i : Int)).f1 * (rd_T31 h (i : Int)).f0 := by simp only [sv]; omega
  rw [e1, e2]

def bk (h : List S31) (b : Nat × Nat) : S75 := ⟨(b.1 : Int), (b.2 : Int) - 1, sw h b.2 - sw h b.1, sv h b.2 - sv h b.1⟩
theorem Ch.inv {sv sw : Nat → Int} {l : List (Nat × Nat)} {a : Nat} (h : Ch sv sw l a) : (l = [] ∧ a = 0) ∨ ∃ l0 a0, l = l0 ++ [(a0, a)] ∧ Ch sv sw l0 a0 ∧ Blk sv sw a0 a ∧ ∀ b, b ∈ l0 → (sv a - sv a0) * (sw b.2 - sw b.1) < (sv b.2 - sv b.1) * (sw a - sw a0) := by
  cases h with
  | nil => exact .inl ⟨rfl, rfl⟩
  | snoc h hb hf => exact .inr ⟨_, _, rfl, h, hb, hf⟩
theorem rd_last {α : Type} (l : List α) (x z : α) : (l ++ [x]).getD l.length z = x := by simp

theorem inner {h : List S31} (ok : Ok h) {i : Nat} (hi : i < h.length) (n : Nat) : ∀ (l : List (Nat × Nat)) (a : Nat), l.length = n → Ch (sv h) (sw h) l a → Blk (sv h) (sw h) a (i + 1) →
    ∃ l', Ch (sv h) (sw h) l' (i + 1) ∧ l'.length ≤ n + 1 ∧ ∀ r, Tl (fun k => haze_blocks.l0 k h (l'.map (bk h)) (h.length : Int) ((i : Int) + 1)) r →
      Tl (fun k => haze_blocks.l1 k h (l.map (bk h)) (h.length : Int) (i : Int) (a : Int) ((i : Int)) (sw h (i + 1) - sw h a) (sv h (i + 1) - sv h a)) r := by
  induction n with
  | zero =>
    intro l a hl hc hb
    rcases Ch.inv hc with ⟨rfl, rfl⟩ | ⟨l0, a0, rfl, _⟩
    · refine ⟨[] ++ [(0, i + 1)], Ch.snoc hc hb (by simp), by simp, fun r hr => ?_⟩
      refine Tl.succ ?_
      simp only [haze_blocks.l1, List.map_nil, List.length_nil]
      refine Tl.neg (by decide) (Tl.pos (by decide) ?_)
      rw [w64 (x := (i : Int) + 1) (by omega) (by have := ok.2.1; omega)]
      refine hr.congr (fun k => ?_)
      simp [bk]
    · simp at hl
  | succ n ih =>
    intro l a hl hc hb
    rcases Ch.inv hc with ⟨rfl, rfl⟩ | ⟨l0, a0, rfl, hc0, hb0, hf0⟩
    · simp at hl
    · have hl0 : l0.length = n := by simpa using hl
      have ha := hb.1
      have ha0 := hb0.1
      have hlen := ok.2.1
      have s1 := ok.small (show a0 < a by omega) (show a ≤ h.length by omega)
      have s2 := ok.small (show a < i + 1 by omega) (show i + 1 ≤ h.length by omega)
      have hn : n ≤ 12 := by
        have : ∀ {l : List (Nat × Nat)} {e : Nat}, Ch (sv h) (sw h) l e → l.length ≤ e := by
          intro l e hc
          induction hc with
          | nil => simp
          | snoc _ hb _ ih => have := hb.1; simp; omega
        have := this hc0
        omega
      have hw1 : wrap64 ((((l0 ++ [(a0, a)]).map (bk h)).length : Int) - 1) = (n : Int) := by
        rw [w64] <;> simp [hl0] <;> omega
      have hrd : rd_T75 ((l0 ++ [(a0, a)]).map (bk h)) (n : Int) = bk h (a0, a) := by
        unfold rd_T75
        rw [Int.toNat_natCast, List.map_append, ← hl0, ← List.length_map (f := bk h)]
        exact rd_last _ _ _
      by_cases hcmp : (sv h (i + 1) - sv h a) * (sw h a - sw h a0) < (sv h a - sv h a0) * (sw h (i + 1) - sw h a)
      · -- the new block is less than the last one: it is laid behind it
        refine ⟨(l0 ++ [(a0, a)]) ++ [(a, i + 1)], Ch.snoc hc hb ?_, by simp [hl0], fun r hr => ?_⟩
        · intro b hb'
          rcases List.mem_append.1 hb' with h1 | h1
          · have k1 := hf0 b h1
            have hbin := hc0.in b h1
            have s3 := ok.small hbin.1 (show b.2 ≤ h.length by omega)
            have k2 := Int.mul_lt_mul_of_pos_right hcmp s3.1
            have k3 := Int.mul_lt_mul_of_pos_right k1 s2.1
            have k4 : ((sv h (i + 1) - sv h a) * (sw h b.2 - sw h b.1)) * (sw h a - sw h a0) < ((sv h b.2 - sv h b.1) * (sw h (i + 1) - sw h a)) * (sw h a - sw h a0) := by grind
            exact Int.lt_of_mul_lt_mul_right k4 (Int.le_of_lt s1.1)
          · rw [List.mem_singleton.1 h1]; exact hcmp
        · refine Tl.succ ?_
          simp only [haze_blocks.l1]
          refine Tl.pos (by simp) ?_
          rw [hw1]
          refine Tl.pos (by omega) (Tl.pos (by simp [hl0]; omega) ?_)
          rw [hrd]
          refine Tl.bind (ev_block_mean (by simp only [bk]; omega) (by simp only [bk]; omega) (by simp only [bk]; omega) (by simp only [bk]; omega)) ?_
          refine Tl.bind (ev_block_mean (by omega) (by omega) (by omega) (by omega)) ?_
          refine Tl.bind' (above_eq (by simp only [bk]; omega) (by simp only [bk]; omega) (by simp only [bk]; omega) (by simp only [bk]; omega) (by omega) (by omega) (by omega) (by omega)) ?_
          refine Tl.pos (decide_eq_true (by simpa only [bk] using hcmp)) (Tl.pos (by simp [hl0]; omega) ?_)
          rw [w64 (x := (i : Int) + 1) (by omega) (by omega)]
          refine hr.congr (fun k => ?_)
          simp [bk]
      · -- it is joined with the last one
        have hm : Blk (sv h) (sw h) a0 (i + 1) := Blk.merge ok.up (by omega) hb0 hb (by omega)
        obtain ⟨l', hc', hl', hr'⟩ := ih l0 a0 hl0 hc0 hm
        refine ⟨l', hc', by omega, fun r hr => ?_⟩
        refine Tl.succ ?_
        simp only [haze_blocks.l1]
        refine Tl.pos (by simp) ?_
        rw [hw1]
        refine Tl.pos (by omega) (Tl.pos (by simp [hl0]; omega) ?_)
        rw [hrd]
        refine Tl.bind (ev_block_mean (by simp only [bk]; omega) (by simp only [bk]; omega) (by simp only [bk]; omega) (by simp only [bk]; omega)) ?_
        refine Tl.bind (ev_block_mean (by omega) (by omega) (by omega) (by omega)) ?_
        refine Tl.bind' (above_eq (by simp only [bk]; omega) (by simp only [bk]; omega) (by simp only [bk]; omega) (by simp only [bk]; omega) (by omega) (by omega) (by omega) (by omega)) ?_
        refine Tl.neg (by rw [decide_eq_true_eq]; simpa only [bk] using hcmp) ?_
        have hwith : haze_block_with.f (bk h (a0, a)).f0 (bk h (a0, a)).f1 (bk h (a0, a)).f2 (bk h (a0, a)).f3 (a : Int) (i : Int) (sw h (i + 1) - sw h a) (sv h (i + 1) - sv h a) = some ((a0 : Int), (i : Int), sw h (i + 1) - sw h a0, sv h (i + 1) - sv h a0) := by
          unfold haze_block_with.f
          simp only [bk]
          rw [w64 (by omega) (by omega), w64 (by omega) (by omega)]
          rw [show sw h a - sw h a0 + (sw h (i + 1) - sw h a) = sw h (i + 1) - sw h a0 by omega, show sv h a - sv h a0 + (sv h (i + 1) - sv h a) = sv h (i + 1) - sv h a0 by omega]
        refine Tl.bind' hwith ?_
        refine Tl.pos (by simp [hl0]; omega) ?_
        refine (hr' r hr).congr (fun k => ?_)
        congr 1
        rw [Int.toNat_natCast, List.map_append, List.take_left']
        simp [hl0]

theorem outer {h : List S31} (ok : Ok h) (d : Nat) : ∀ (i : Nat) (l : List (Nat × Nat)), h.length - i = d → i ≤ h.length → Ch (sv h) (sw h) l i →
    ∃ l', Ch (sv h) (sw h) l' h.length ∧ Tl (fun k => haze_blocks.l0 k h (l.map (bk h)) (h.length : Int) (i : Int)) (l'.map (bk h)) := by
  induction d with
  | zero =>
    intro i l hd hi hc
    obtain rfl : i = h.length := by omega
    refine ⟨l, hc, Tl.succ ?_⟩
    simp only [haze_blocks.l0]
    exact Tl.neg (by omega) Tl.now
  | succ d ih =>
    intro i l hd hi hc
    have hlt : i < h.length := by omega
    obtain ⟨l1, hc1, _, hr1⟩ := inner ok hlt _ l i rfl hc (Blk.one _ _ i)
    obtain ⟨l', hc', hr'⟩ := ih (i + 1) l1 (by omega) (by omega) hc1
    refine ⟨l', hc', Tl.succ ?_⟩
    simp only [haze_blocks.l0]
    refine Tl.pos (by omega) (Tl.bind' (of_eq ok hlt) ?_)
    exact hr1 _ hr'
theorem ev_blocks {h : List S31} (ok : Ok h) : ∃ l, Ch (sv h) (sw h) l h.length ∧ Tl (fun k => haze_blocks.f k h) (l.map (bk h)) := by
  obtain ⟨l, hc, hr⟩ := outer ok h.length 0 [] rfl (by omega) Ch.nil
  exact ⟨l, hc, hr⟩
end Go.Proofs.Ytgdhbeccpicdcaa.Bl
/- Which readings are valid, and what the first tests of all functions answer. -/
set_option linter.unusedVariables false
namespace Go.Proofs.Ytgdhbeccpicdcaa.Va
open Go.RowKit Go.Proofs.Ytgdhbeccpicdcaa.P Go.Proofs.Ytgdhbeccpicdcaa.E Go.Proofs.Ytgdhbeccpicdcaa.Bl Go.Proofs.YtgdhbeccpicdcaaW.PrintMore
open Go.Proofs.YtgdhbeccpicdcaaW.PrintWords

theorem within_eq (a b c : Int) : haze_within.f a b c = some (decide (b ≤ a ∧ a ≤ c)) := by
  unfold haze_within.f
  by_cases h : b ≤ a
  · rw [if_pos h]; simp [h]
  · rw [if_neg h]; simp [h]
theorem rwithin_eq (a b c : Int) : diaphoneref02_within.f a b c = some (decide (b ≤ a ∧ a ≤ c)) := by
  unfold diaphoneref02_within.f
  by_cases h : b ≤ a
  · rw [if_pos h]; simp [h]
  · rw [if_neg h]; simp [h]
theorem isReading_eq (a b : Int) : haze_isReading.f a b = some (decide (rok ⟨a, b⟩)) := by
  unfold haze_isReading.f
  simp only [within_eq, Option.bind_some]
  by_cases h : 0 ≤ a ∧ a ≤ 100
  · simp [h, rok]
  · simp only [h, decide_false, Bool.false_eq_true, if_false]
    congr 1
    symm
    rw [decide_eq_false_iff_not]
    rintro ⟨h2, h3, _⟩
    exact h ⟨h2, h3⟩
/-- The first error of readings. -/
def vc (h : List S31) : Int := if 1 ≤ h.length ∧ h.length ≤ 12 then (if h.all (fun r => decide (rok r)) then 0 else 1) else 3
theorem drop_cons {α : Type} {h : List α} {i : Nat} (hi : i < h.length) : h.drop i = h[i] :: h.drop (i + 1) := List.drop_eq_getElem_cons hi
theorem rd31 {h : List S31} {i : Nat} (hi : i < h.length) : rd_T31 h (i : Int) = h[i] := by
  unfold rd_T31
  rw [Int.toNat_natCast, List.getD_eq_getElem?_getD, List.getElem?_eq_getElem hi]; rfl
theorem vloop (h : List S31) (hl : h.length ≤ 1000) (d : Nat) : ∀ i : Nat, i ≤ h.length → h.length - i = d →
    Tl (fun k => haze_Validate.l0 k h (h.length : Int) (i : Int)) (if (h.drop i).all (fun r => decide (rok r)) then 0 else 1) := by
  induction d with
  | zero =>
    intro i hi hd
    obtain rfl : i = h.length := by omega
    refine Tl.succ ?_
    simp only [haze_Validate.l0, List.drop_length, List.all_nil, if_true]
    exact Tl.neg (by omega) Tl.now
  | succ d ih =>
    intro i hi hd
    have hlt : i < h.length := by omega
    refine Tl.succ ?_
    simp only [haze_Validate.l0]
    refine Tl.pos (by omega) (Tl.pos (by omega) (Tl.pos (by omega) (Tl.bind' (isReading_eq _ _) ?_)))
    rw [rd31 hlt, drop_cons hlt, List.all_cons]
    by_cases hr : rok h[i]
    · refine Tl.pos (decide_eq_true hr) ?_
      rw [w64 (by omega) (by omega)]
      have := ih (i + 1) (by omega) (by omega)
      simpa [hr] using this
    · refine Tl.neg (by simpa using hr) ?_
      simp only [hr, decide_false, Bool.false_and, Bool.false_eq_true, if_false]
      exact Tl.now
theorem ev_Validate {h : List S31} (hl : h.length ≤ 1000) : Tl (fun k => haze_Validate.f k h) (vc h) := by
  unfold haze_Validate.f
  refine Tl.bind' (within_eq _ _ _) ?_
  unfold vc
  by_cases hc : 1 ≤ h.length ∧ h.length ≤ 12
  · rw [if_pos hc]
    refine Tl.pos (by simp; omega) ?_
    have := vloop h hl h.length 0 (by omega) (by omega)
    simpa using this
  · rw [if_neg hc]
    exact Tl.neg (by simp; omega) Tl.now
theorem rvloop (h : List S31) (hl : h.length ≤ 1000) (d : Nat) : ∀ i : Nat, i ≤ h.length → h.length - i = d →
    Tl (fun k => diaphoneref02_Validate.l0 k h (i : Int)) (if (h.drop i).all (fun r => decide (rok r)) then 0 else 1) := by
  induction d with
  | zero =>
    intro i hi hd
    obtain rfl : i = h.length := by omega
    refine Tl.succ ?_
    simp only [diaphoneref02_Validate.l0, List.drop_length, List.all_nil, if_true]
    exact Tl.neg (by omega) Tl.now
  | succ d ih =>
    intro i hi hd
    have hlt : i < h.length := by omega
    refine Tl.succ ?_
    simp only [diaphoneref02_Validate.l0]
    refine Tl.pos (by omega) (Tl.pos (by omega) (Tl.bind' (rwithin_eq _ _ _) ?_))
    rw [rd31 hlt, drop_cons hlt, List.all_cons]
    by_cases hr1 : 0 ≤ h[i].f0 ∧ h[i].f0 ≤ 100
    · refine Tl.pos (decide_eq_true hr1) (Tl.bind' (rwithin_eq _ _ _) ?_)
      by_cases hr2 : 1 ≤ h[i].f1 ∧ h[i].f1 ≤ 9
      · refine Tl.pos (decide_eq_true hr2) ?_
        rw [w64 (by omega) (by omega)]
        have := ih (i + 1) (by omega) (by omega)
        have hr : rok h[i] := ⟨hr1.1, hr1.2, hr2.1, hr2.2⟩
        simpa [hr] using this
      · refine Tl.neg (by simpa using hr2) ?_
        have hr : ¬ rok h[i] := fun q => hr2 ⟨q.2.2.1, q.2.2.2⟩
        simp only [hr, decide_false, Bool.false_and, Bool.false_eq_true, if_false]
        exact Tl.now
    · refine Tl.neg (by simpa using hr1) ?_
      have hr : ¬ rok h[i] := fun q => hr1 ⟨q.1, q.2.1⟩
      simp only [hr, decide_false, Bool.false_and, Bool.false_eq_true, if_false]
      exact Tl.now
theorem ev_rValidate {h : List S31} (hl : h.length ≤ 1000) : Tl (fun k => diaphoneref02_Validate.f k h) (vc h) := by
  unfold diaphoneref02_Validate.f
  refine Tl.bind' (rwithin_eq _ _ _) ?_
  unfold vc
  by_cases hc : 1 ≤ h.length ∧ h.length ≤ 12
  · rw [if_pos hc]
    refine Tl.pos (by simp; omega) ?_
    have := rvloop h hl h.length 0 (by omega) (by omega)
    simpa using this
  · rw [if_neg hc]
    exact Tl.neg (by simp; omega) Tl.now
theorem vc_ok {h : List S31} : vc h = 0 ↔ Ok h := by
  unfold vc Ok
  constructor
  · intro hv
    split at hv
    · rename_i hc
      split at hv
      · rename_i ha
        refine ⟨hc.1, hc.2, fun i hi => ?_⟩
        rw [rd31 hi]
        simpa using List.all_eq_true.1 ha h[i] (List.getElem_mem hi)
      · cases hv
    · cases hv
  · rintro ⟨h1, h2, h3⟩
    rw [if_pos ⟨h1, h2⟩, if_pos]
    rw [List.all_eq_true]
    intro r hr
    obtain ⟨i, hi, rfl⟩ := List.getElem_of_mem hr
    have := h3 i hi
    rw [rd31 hi] at this
    simpa using this
end Go.Proofs.Ytgdhbeccpicdcaa.Va
/- What every statement of the chapter asks besides: the document's example; and lists that are too long. -/
set_option linter.unusedVariables false
namespace Go.Proofs.Ytgdhbeccpicdcaa.Kn
open Go.RowKit Go.Proofs.Ytgdhbeccpicdcaa.P Go.Proofs.Ytgdhbeccpicdcaa.E Go.Proofs.Ytgdhbeccpicdcaa.Fr Go.Proofs.Ytgdhbeccpicdcaa.Sd Go.Proofs.Ytgdhbeccpicdcaa.Bl Go.Proofs.Ytgdhbeccpicdcaa.Va Go.Proofs.YtgdhbeccpicdcaaW.PrintMore
open Go.Proofs.YtgdhbeccpicdcaaW.PrintWords
theorem known_at : diaphonelaw02_known.f 40 = some true := by decide +kernel
theorem ev_known : Tl (fun k => diaphonelaw02_known.f k) true := Tl.mono diaphonelaw02_known.mono 40 known_at
theorem ev_known' : Tl (fun k => (diaphonelaw02_known.f k).bind fun t => some t) true := Tl.bind ev_known Tl.now
theorem long_eq (h : List S31) : diaphonelaw02_Long.f h = some (decide ((h.length : Int) > 100)) := rfl
/-- What is left to show of lists that are not long. -/
theorem by_long {h : List S31} {g : Nat → Option Bool} (hg : h.length ≤ 100 → Tl g true) : Tl (fun k => (diaphonelaw02_Long.f h).bind fun t => if t = true then ((diaphonelaw02_known.f k).bind fun t => some t) else g k) true := by
  refine Tl.bind' (long_eq h) ?_
  by_cases hl : (h.length : Int) > 100
  · exact Tl.pos (decide_eq_true hl) ev_known'
  · exact Tl.neg (by simpa using hl) (hg (by omega))
end Go.Proofs.Ytgdhbeccpicdcaa.Kn
