/- What the last law of the chapter needs of the plain laws: fractions, lines that touch the diagram, blocks, the best row, means, the misfit, pooled readings. -/
import Derived.Test.YtgdhbeccpicdcaaWWords
import Derived.Test.YtgdhbeccpicdcaaWMore
import Derived.Test.YtgdhbeccpicdcaaPx5
import Derived.Test.YtgdhbeccpicdcaaPx6
import Derived.Test.YtgdhbeccpicdcaaPx10
import Derived.Test.YtgdhbeccpicdcaaPx5
import Derived.Test.YtgdhbeccpicdcaaPx5
import Derived.Test.YtgdhbeccpicdcaaPx7
import Derived.Test.YtgdhbeccpicdcaaPx7
import Derived.Test.YtgdhbeccpicdcaaPx37
import Derived.Test.YtgdhbeccpicdcaaPx38
import Derived.Test.YtgdhbeccpicdcaaPx39
import Derived.Test.YtgdhbeccpicdcaaPx7
import Derived.Test.YtgdhbeccpicdcaaPx19
import Derived.Test.YtgdhbeccpicdcaaPx25
import Derived.Test.YtgdhbeccpicdcaaPx55
set_option linter.unusedVariables false
namespace Go.Proofs.Ytgdhbeccpicdcaa.E
open Go.RowKit Go.Proofs.YtgdhbeccpicdcaaW.PrintWords Go.Proofs.YtgdhbeccpicdcaaW.PrintMore
/-- From some number of rounds on, g answers r. -/
def Tl {α : Type} (g : Nat → Option α) (r : α) : Prop := ∃ K, ∀ k, K ≤ k → g k = some r
theorem Tl.now {α : Type} {r : α} : Tl (fun _ => some r) r := ⟨0, fun _ _ => rfl⟩
theorem Tl.of {α : Type} {o : Option α} {r : α} (h : o = some r) : Tl (fun _ => o) r := ⟨0, fun _ _ => h⟩
theorem Tl.mono {α : Type} {g : Nat → Option α} {r : α} (hm : ∀ k, LeO (g k) (g (k + 1))) (k : Nat) (h : g k = some r) : Tl g r := ⟨k, fun _ hk => at_rounds hm hk h⟩
theorem Tl.succ {α : Type} {g : Nat → Option α} {r : α} (h : Tl (fun k => g (k + 1)) r) : Tl g r := by
  obtain ⟨K, hK⟩ := h
  refine ⟨K + 1, fun k hk => ?_⟩
  obtain ⟨m, rfl⟩ : ∃ m, k = m + 1 := ⟨k - 1, by omega⟩
  exact hK m (by omega)
theorem Tl.bind {α β : Type} {g : Nat → Option α} {f : Nat → α → Option β} {a : α} {r : β} (h : Tl g a) (hf : Tl (fun k => f k a) r) : Tl (fun k => (g k).bind (f k)) r := by
  obtain ⟨K, hK⟩ := h
  obtain ⟨L, hL⟩ := hf
  refine ⟨max K L, fun k hk => ?_⟩
  show (g k).bind (f k) = some r
  rw [hK k (by omega)]
  exact hL k (by omega)
theorem Tl.bind' {α β : Type} {o : Option α} {f : Nat → α → Option β} {a : α} {r : β} (h : o = some a) (hf : Tl (fun k => f k a) r) : Tl (fun k => o.bind (f k)) r := by
  rw [h]; exact hf
theorem Tl.congr {α : Type} {g g' : Nat → Option α} {r : α} (h : Tl g r) (e : ∀ k, g' k = g k) : Tl g' r := by
  obtain ⟨K, hK⟩ := h
  exact ⟨K, fun k hk => (e k).trans (hK k hk)⟩
theorem Tl.to {α : Type} {g : Nat → Option α} {r r' : α} (h : Tl g r) (e : r = r') : Tl g r' := e ▸ h
theorem Tl.ex {α : Type} {g : Nat → Option α} {r : α} (h : Tl g r) : ∃ k, g k = some r := by
  obtain ⟨K, hK⟩ := h
  exact ⟨K, hK K (Nat.le_refl _)⟩
theorem Tl.pos {α : Type} {c : Prop} [Decidable c] {g g' : Nat → Option α} {r : α} (hc : c) (h : Tl g r) : Tl (fun k => if c then g k else g' k) r := by
  simpa only [if_pos hc] using h
theorem Tl.neg {α : Type} {c : Prop} [Decidable c] {g g' : Nat → Option α} {r : α} (hc : ¬ c) (h : Tl g' r) : Tl (fun k => if c then g k else g' k) r := by
  simpa only [if_neg hc] using h
theorem Tl.ite {α : Type} {c : Prop} [Decidable c] {g g' : Nat → Option α} {r r' : α} (h : c → Tl g r) (h' : ¬ c → Tl g' r') : Tl (fun k => if c then g k else g' k) (if c then r else r') := by
  by_cases hc : c
  · simpa only [if_pos hc] using h hc
  · simpa only [if_neg hc] using h' hc
theorem w64 {x : Int} (h1 : -9223372036854775808 ≤ x) (h2 : x < 9223372036854775808) : wrap64 x = x := by
  unfold wrap64
  omega
theorem wf64 {x : Int} (h : (Lit.int .i64 x).wf = true) : -9223372036854775808 ≤ x ∧ x < 9223372036854775808 := by
  simp only [Lit.wf, IntKind.min, IntKind.max, IntKind.signed, IntKind.bits, Bool.and_eq_true, decide_eq_true_eq, if_true] at h
  omega
theorem mx_eq (a b : Int) : mx a b = max a b := by unfold mx; omega
theorem mn_eq (a b : Int) : mn a b = min a b := by unfold mn; omega
theorem rd_nat (xs : List Int) (i : Nat) : rd xs (i : Int) = xs.getD i 0 := by simp [rd]
theorem rd_lt {xs : List Int} {i : Nat} (h : i < xs.length) : rd xs (i : Int) = xs[i] := by rw [rd_nat, List.getD_eq_getElem?_getD, List.getElem?_eq_getElem h]; rfl
end Go.Proofs.Ytgdhbeccpicdcaa.E
namespace Go.Proofs.Ytgdhbeccpicdcaa.Fr
open Go.RowKit Go.Proofs.Ytgdhbeccpicdcaa.P Go.Proofs.Ytgdhbeccpicdcaa.E Go.Proofs.YtgdhbeccpicdcaaW.PrintMore
open Go.Proofs.YtgdhbeccpicdcaaW.PrintWords
theorem ratio_loop (x0 x1 : Int) (n : Nat) : ∀ m : Nat, m < 4611686018427387904 → n < 4611686018427387904 → 0 < m + n →
    Tl (fun k => haze_ratio.l0 k x0 x1 (m : Int) (n : Int)) (wrap64 (Int.tdiv x0 (Nat.gcd m n : Nat)), wrap64 (Int.tdiv x1 (Nat.gcd m n : Nat))) := by
  induction n using Nat.strongRecOn with
  | _ n ih =>
    intro m hm hn' h0
    refine Tl.succ ?_
    simp only [haze_ratio.l0]
    by_cases hn : n = 0
    · subst hn
      refine Tl.pos (by simp) ?_
      have e1 : wrap64 (-(m : Int)) = -(m : Int) := w64 (by omega) (by omega)
      have e2 : mx (m : Int) (-(m : Int)) = m := by rw [mx_eq]; omega
      rw [e1, e2, Nat.gcd_zero_right]
      exact Tl.neg (by omega) Tl.now
    · refine Tl.neg (by omega) ?_
      rw [← Int.ofNat_tmod, Nat.gcd_comm, Nat.gcd_rec, Nat.gcd_comm]
      have := Nat.mod_lt m (show 0 < n by omega)
      exact ih (m % n) this n hn' (by omega) (by omega)
/-- A fraction in lowest terms. -/
def Rt (n d : Int) : Int × Int := (n / (Int.gcd n d : Nat), d / (Int.gcd n d : Nat))
theorem gcd_pos' {n d : Int} (hd : 0 < d) : 0 < (Int.gcd n d : Int) := by
  have : 0 < Int.gcd n d := Int.gcd_pos_of_ne_zero_right n (by omega)
  omega
theorem Rt_mul {n d : Int} (hd : 0 < d) : (Rt n d).1 * (Int.gcd n d : Nat) = n ∧ (Rt n d).2 * (Int.gcd n d : Nat) = d :=
  ⟨Int.ediv_mul_cancel (Int.gcd_dvd_left ..), Int.ediv_mul_cancel (Int.gcd_dvd_right ..)⟩
theorem Rt_pos {n d : Int} (hd : 0 < d) : 0 < (Rt n d).2 := by
  have h := (Rt_mul (n := n) hd).2
  have g := gcd_pos' (n := n) hd
  by_cases h1 : 0 < (Rt n d).2
  · exact h1
  · have := Int.mul_nonpos_of_nonpos_of_nonneg (show (Rt n d).2 ≤ 0 by omega) (Int.le_of_lt g)
    omega
theorem Rt_cross {n d : Int} (hd : 0 < d) : (Rt n d).1 * d = n * (Rt n d).2 := by
  obtain ⟨h1, h2⟩ := Rt_mul (n := n) hd
  conv => lhs; rw [← h2]
  conv => rhs; rw [← h1]
  grind
theorem Rt_le {n d : Int} (hd : 0 < d) : (Rt n d).2 ≤ d := by
  have h2 := (Rt_mul (n := n) hd).2
  have g := gcd_pos' (n := n) hd
  have := Rt_pos (n := n) hd
  have h3 := Int.mul_le_mul_of_nonneg_left (show (1 : Int) ≤ (Int.gcd n d : Nat) by omega) (show 0 ≤ (Rt n d).2 by omega)
  rw [h2] at h3
  omega
theorem Rt_nonneg {n d : Int} (hn : 0 ≤ n) (hd : 0 < d) : 0 ≤ (Rt n d).1 := Int.ediv_nonneg hn (Int.le_of_lt (gcd_pos' hd))
theorem Rt_num_le {n d : Int} (hn : 0 ≤ n) (hd : 0 < d) : (Rt n d).1 ≤ n := Int.ediv_le_self _ hn
/-- Equal fractions have equal lowest terms. -/
theorem Rt_eq {n d n' d' : Int} (hd : 0 < d) (hd' : 0 < d') (h : n * d' = n' * d) : Rt n d = Rt n' d' := by
  have key : ∀ {n d n' d' : Int}, 0 < d → 0 < d' → n * d' = n' * d → (Int.gcd n d : Int) * d' = (Int.gcd n' d' : Int) * d := by
    intro n d n' d' hd hd' h
    have a1 : Int.gcd (n * d') (d * d') = Int.gcd n d * d'.natAbs := Int.gcd_mul_right ..
    have a2 : Int.gcd (n' * d) (d' * d) = Int.gcd n' d' * d.natAbs := Int.gcd_mul_right ..
    rw [h, Int.mul_comm d d', a2] at a1
    have b1 : (d'.natAbs : Int) = d' := by omega
    have b2 : (d.natAbs : Int) = d := by omega
    rw [← b1, ← b2]
    have := congrArg (fun x : Nat => (x : Int)) a1
    simp only [Int.natCast_mul] at this
    rw [b1, b2] at this ⊢
    omega
  have hk := key hd hd' h
  obtain ⟨h1, h2⟩ := Rt_mul (n := n) hd
  obtain ⟨h3, h4⟩ := Rt_mul (n := n') hd'
  have g := gcd_pos' (n := n) hd
  have g' := gcd_pos' (n := n') hd'
  have e2 : (Rt n d).2 = (Rt n' d').2 := by
    -- d = D g, d' = D' g', g * d' = g' * d
    have : ((Rt n d).2 * ((Int.gcd n d : Nat) * (Int.gcd n' d' : Nat) : Int)) = ((Rt n' d').2 * ((Int.gcd n d : Nat) * (Int.gcd n' d' : Nat) : Int)) := by grind
    exact Int.eq_of_mul_eq_mul_right (Int.ne_of_gt (Int.mul_pos g g')) this
  have e1 : (Rt n d).1 = (Rt n' d').1 := by
    have c1 := Rt_cross (n := n) hd
    have c2 := Rt_cross (n := n') hd'
    have p := Rt_pos (n := n) hd
    have : (Rt n d).1 * (d * d') = (Rt n' d').1 * (d * d') := by
      have : (Rt n d).1 * (d * d') = (n * d') * (Rt n d).2 := by grind
      have : (Rt n' d').1 * (d * d') = (n' * d) * (Rt n' d').2 := by grind
      grind
    exact Int.eq_of_mul_eq_mul_right (Int.ne_of_gt (Int.mul_pos hd hd')) this
  exact Prod.ext e1 e2
theorem tdiv_gcd_left (n d : Int) (hd : 0 < d) : Int.tdiv n (Int.gcd n d : Nat) = (Rt n d).1 := by
  rw [Int.tdiv_eq_ediv_of_dvd (Int.gcd_dvd_left ..)]; rfl
theorem tdiv_gcd_right (n d : Int) (hd : 0 < d) : Int.tdiv d (Int.gcd n d : Nat) = (Rt n d).2 := by
  rw [Int.tdiv_eq_ediv_of_dvd (Int.gcd_dvd_right ..)]; rfl
theorem ev_ratio {n d : Int} (h0 : 0 ≤ n) (h1 : n < 4611686018427387904) (hd : 0 < d) (hd1 : d < 4611686018427387904) : Tl (fun k => haze_ratio.f k n d) (Rt n d) := by
  unfold haze_ratio.f
  have := ratio_loop n d d.toNat n.toNat (by omega) (by omega) (by omega)
  rw [show ((n.toNat : Nat) : Int) = n by omega, show ((d.toNat : Nat) : Int) = d by omega] at this
  refine this.to ?_
  have e : Nat.gcd n.toNat d.toNat = Int.gcd n d := by
    unfold Int.gcd
    congr 1 <;> omega
  rw [e, tdiv_gcd_left n d hd, tdiv_gcd_right n d hd]
  have b1 := Rt_pos (n := n) hd
  have b2 := Rt_le (n := n) hd
  have b3 := Rt_nonneg h0 hd
  have b4 := Rt_num_le h0 hd
  rw [w64 (by omega) (by omega), w64 (by omega) (by omega)]
end Go.Proofs.Ytgdhbeccpicdcaa.Fr
namespace Go.Proofs.Ytgdhbeccpicdcaa.Sd
/-- The line with the slope p/q touches the diagram of the sums at f and at t, and nowhere is the diagram above it. -/
def Sad (sv sw : Nat → Int) (n i : Nat) (p q : Int) : Prop :=
  ∃ f t, f ≤ i ∧ i < t ∧ t ≤ n ∧ q * sv t - p * sw t = q * sv f - p * sw f ∧ ∀ x, x ≤ n → q * sv x - p * sw x ≤ q * sv f - p * sw f
/-- Sums that grow. -/
def Up (sw : Nat → Int) (n : Nat) : Prop := ∀ x, x < n → sw x < sw (x + 1)
theorem Up.lt {sw : Nat → Int} {n : Nat} (h : Up sw n) {a b : Nat} (hab : a < b) (hb : b ≤ n) : sw a < sw b := by
  induction b with
  | zero => omega
  | succ b ih =>
    have h1 := h b (by omega)
    rcases Nat.lt_or_ge a b with h2 | h2
    · have := ih h2 (by omega); omega
    · obtain rfl : a = b := by omega
      exact h1
theorem Up.le {sw : Nat → Int} {n : Nat} (h : Up sw n) {a b : Nat} (hab : a ≤ b) (hb : b ≤ n) : sw a ≤ sw b := by
  rcases Nat.lt_or_ge a b with h2 | h2
  · exact Int.le_of_lt (h.lt h2 hb)
  · obtain rfl : a = b := by omega
    exact Int.le_refl _
theorem mul_le_of_cross {p q p' q' X Y : Int} (hq : 0 < q) (hq' : 0 < q') (hY : 0 < Y) (h1 : p * Y ≤ q * X) (h2 : q' * X ≤ p' * Y) : p * q' ≤ p' * q := by
  have a1 : q' * (p * Y) ≤ q' * (q * X) := Int.mul_le_mul_of_nonneg_left h1 (by omega)
  have a2 : q * (q' * X) ≤ q * (p' * Y) := Int.mul_le_mul_of_nonneg_left h2 (by omega)
  have a3 : (p * q') * Y ≤ (p' * q) * Y := by
    have e1 : q' * (p * Y) = (p * q') * Y := by rw [← Int.mul_assoc, Int.mul_comm q' p]
    have e2 : q * (p' * Y) = (p' * q) * Y := by rw [← Int.mul_assoc, Int.mul_comm q p']
    have e3 : q' * (q * X) = q * (q' * X) := by rw [← Int.mul_assoc, ← Int.mul_assoc, Int.mul_comm q' q]
    omega
  exact Int.le_of_mul_le_mul_right a3 hY
/-- The great comparison: what the first diagram rises from any place up to its own t, the second one does not rise from its own f. -/
theorem Sad.le {sv sw sv' sw' : Nat → Int} {n n' i : Nat} {p q p' q' : Int} (h : Sad sv sw n i p q) (h' : Sad sv' sw' n' i p' q') (hq : 0 < q) (hq' : 0 < q') (hw : Up sw n)
    (hb : ∀ f t, f ≤ i → i < t → t ≤ n → t ≤ n' ∧ sw' t - sw' f = sw t - sw f ∧ sv t - sv f ≤ sv' t - sv' f) : p * q' ≤ p' * q := by
  obtain ⟨f, t, hf, ht, htn, he, hm⟩ := h
  obtain ⟨f', t', hf', ht', htn', he', hm'⟩ := h'
  obtain ⟨h1, h2, h3⟩ := hb f' t hf' ht htn
  have a1 := hm f' (by omega)
  have a2 := hm' t h1
  have hY : 0 < sw t - sw f' := by have := hw.lt (show f' < t by omega) htn; omega
  refine mul_le_of_cross (X := sv t - sv f') (Y := sw t - sw f') hq hq' hY ?_ ?_
  · rw [Int.mul_sub, Int.mul_sub]; omega
  · have : q' * (sv t - sv f') ≤ q' * (sv' t - sv' f') := Int.mul_le_mul_of_nonneg_left h3 (by omega)
    rw [← h2]
    rw [Int.mul_sub q' (sv' t), ] at this
    rw [Int.mul_sub p']
    omega
theorem Sad.unique {sv sw : Nat → Int} {n i : Nat} {p q p' q' : Int} (h : Sad sv sw n i p q) (h' : Sad sv sw n i p' q') (hq : 0 < q) (hq' : 0 < q') (hw : Up sw n) : p * q' = p' * q := by
  have a := h.le h' hq hq' hw (fun f t _ _ ht => ⟨ht, rfl, Int.le_refl _⟩)
  have b := h'.le h hq' hq hw (fun f t _ _ ht => ⟨ht, rfl, Int.le_refl _⟩)
  omega
theorem merge_low {v1 w1 v2 w2 X Y : Int} (h1 : 0 < w1) (h2 : 0 < w2) (hY : 0 ≤ Y) (hle : v1 * w2 ≤ v2 * w1) (hX : w1 * X ≤ v1 * Y) : (w1 + w2) * X ≤ (v1 + v2) * Y := by
  have a1 := Int.mul_le_mul_of_nonneg_left hX (show 0 ≤ w1 + w2 by omega)
  have a2 := Int.mul_le_mul_of_nonneg_right hle hY
  have a3 : ((w1 + w2) * X) * w1 ≤ ((v1 + v2) * Y) * w1 := by grind
  exact Int.le_of_mul_le_mul_right a3 h1
theorem merge_high {v1 w1 v2 w2 X Y : Int} (h1 : 0 < w1) (h2 : 0 < w2) (hY : 0 ≤ Y) (hY2 : Y ≤ w2) (hle : v1 * w2 ≤ v2 * w1) (hX : w2 * X ≤ v2 * Y) : (w1 + w2) * (v1 + X) ≤ (v1 + v2) * (w1 + Y) := by
  have a1 := Int.mul_le_mul_of_nonneg_left hX (show 0 ≤ w1 + w2 by omega)
  have a2 := Int.mul_nonneg (show 0 ≤ v2 * w1 - v1 * w2 by omega) (show 0 ≤ w2 - Y by omega)
  have a3 : ((w1 + w2) * (v1 + X)) * w2 ≤ ((v1 + v2) * (w1 + Y)) * w2 := by grind
  exact Int.le_of_mul_le_mul_right a3 h2
/-- A block: nowhere in it is the diagram above the line from its begin to its end. -/
def Blk (sv sw : Nat → Int) (a e : Nat) : Prop := a < e ∧ ∀ x, a ≤ x → x ≤ e → (sw e - sw a) * (sv x - sv a) ≤ (sv e - sv a) * (sw x - sw a)
theorem Blk.one (sv sw : Nat → Int) (a : Nat) : Blk sv sw a (a + 1) := by
  refine ⟨by omega, fun x h1 h2 => ?_⟩
  rcases Nat.lt_or_ge a x with h | h
  · obtain rfl : x = a + 1 := by omega
    rw [Int.mul_comm]; exact Int.le_refl _
  · obtain rfl : x = a := by omega
    simp
theorem Blk.merge {sv sw : Nat → Int} {n a m e : Nat} (hw : Up sw n) (he : e ≤ n) (h1 : Blk sv sw a m) (h2 : Blk sv sw m e) (hle : (sv m - sv a) * (sw e - sw m) ≤ (sv e - sv m) * (sw m - sw a)) : Blk sv sw a e := by
  have p1 := h1.1
  have p2 := h2.1
  have w1 : 0 < sw m - sw a := by have := hw.lt p1 (by omega); omega
  have w2 : 0 < sw e - sw m := by have := hw.lt p2 he; omega
  refine ⟨by omega, fun x hx1 hx2 => ?_⟩
  have e1 : sw e - sw a = (sw m - sw a) + (sw e - sw m) := by omega
  have e2 : sv e - sv a = (sv m - sv a) + (sv e - sv m) := by omega
  rw [e1, e2]
  rcases Nat.lt_or_ge x m with h | h
  · have hY : 0 ≤ sw x - sw a := by have := hw.le hx1 (by omega); omega
    exact merge_low w1 w2 hY hle (h1.2 x hx1 (by omega))
  · have hY : 0 ≤ sw x - sw m := by have := hw.le h (by omega); omega
    have hY2 : sw x - sw m ≤ sw e - sw m := by have := hw.le hx2 he; omega
    have := merge_high w1 w2 hY hY2 hle (h2.2 x h hx2)
    rw [show sv x - sv a = (sv m - sv a) + (sv x - sv m) by omega, show sw x - sw a = (sw m - sw a) + (sw x - sw m) by omega]
    exact this
/-- Blocks (begin, end), one behind the other, of means that fall. -/
inductive Ch (sv sw : Nat → Int) : List (Nat × Nat) → Nat → Prop
  | nil : Ch sv sw [] 0
  | snoc {l : List (Nat × Nat)} {a e : Nat} (h : Ch sv sw l a) (hb : Blk sv sw a e) (hf : ∀ b, b ∈ l → (sv e - sv a) * (sw b.2 - sw b.1) < (sv b.2 - sv b.1) * (sw e - sw a)) : Ch sv sw (l ++ [(a, e)]) e
theorem Ch.in {sv sw : Nat → Int} {l : List (Nat × Nat)} {e : Nat} (h : Ch sv sw l e) : ∀ b ∈ l, b.1 < b.2 ∧ b.2 ≤ e := by
  induction h with
  | nil => simp
  | snoc h hb hf ih =>
    intro b hb'
    rcases List.mem_append.1 hb' with h1 | h1
    · have := ih b h1; have := hb.1; omega
    · rw [List.mem_singleton.1 h1]; exact ⟨hb.1, Nat.le_refl _⟩
/-- From any place on, up to the end, the diagram rises by no less than a line that is less steep than all blocks. -/
theorem Ch.low {sv sw : Nat → Int} {n : Nat} (hw : Up sw n) {l : List (Nat × Nat)} {e : Nat} (h : Ch sv sw l e) (he : e ≤ n) {p q : Int} (hq : 0 < q) (hb : ∀ b ∈ l, p * (sw b.2 - sw b.1) ≤ (sv b.2 - sv b.1) * q) :
    ∀ x, x ≤ e → p * (sw e - sw x) ≤ q * (sv e - sv x) := by
  induction h with
  | nil => intro x hx; obtain rfl : x = 0 := by omega
           simp
  | @snoc l a e h hk hf ih =>
    intro x hx
    have pa := hk.1
    have w1 : 0 < sw e - sw a := by have := hw.lt pa he; omega
    have hs := hb (a, e) (by simp)
    simp only at hs
    rcases Nat.lt_or_ge x a with h1 | h1
    · have i := ih (by omega) (fun b hb' => hb b (by simp [hb'])) x (by omega)
      grind
    · have k := hk.2 x h1 hx
      have y : 0 ≤ sw e - sw x := by have := hw.le hx he; omega
      -- W (sv e - sv x) ≥ V (sw e - sw x)
      have k2 : (sv e - sv a) * (sw e - sw x) ≤ (sw e - sw a) * (sv e - sv x) := by grind
      have k3 := Int.mul_le_mul_of_nonneg_right hs y
      have k4 := Int.mul_le_mul_of_nonneg_left k2 (show 0 ≤ q by omega)
      have k5 : (p * (sw e - sw x)) * (sw e - sw a) ≤ (q * (sv e - sv x)) * (sw e - sw a) := by grind
      exact Int.le_of_mul_le_mul_right k5 w1
/-- Each block's line touches the whole diagram from above. -/
theorem Ch.sad {sv sw : Nat → Int} {n : Nat} (hw : Up sw n) {l : List (Nat × Nat)} {e : Nat} (h : Ch sv sw l e) (he : e ≤ n) : ∀ b ∈ l, ∀ i, b.1 ≤ i → i < b.2 → Sad sv sw e i (sv b.2 - sv b.1) (sw b.2 - sw b.1) := by
  induction h with
  | nil => simp
  | @snoc l a e h hk hf ih =>
    intro b hb i hi1 hi2
    have pa := hk.1
    have w1 : 0 < sw e - sw a := by have := hw.lt pa he; omega
    rcases List.mem_append.1 hb with h1 | h1
    · obtain ⟨f, t, hf1, ht1, ht2, hq, hm⟩ := ih (by omega) b h1 i hi1 hi2
      refine ⟨f, t, hf1, ht1, by omega, hq, fun x hx => ?_⟩
      rcases Nat.lt_or_ge x a with h2 | h2
      · exact hm x (by omega)
      · have hma := hm a (Nat.le_refl _)
        have k := hk.2 x h2 hx
        have s := hf b h1
        have y : 0 ≤ sw x - sw a := by have := hw.le h2 (show x ≤ n by omega); omega
        have hbin := h.in b h1
        have w2 : 0 < sw b.2 - sw b.1 := by have := hw.lt hbin.1 (show b.2 ≤ n by omega); omega
        -- the rise from a to x is at most that of b's line
        have k3 := Int.mul_le_mul_of_nonneg_right (Int.le_of_lt s) y
        have k4 := Int.mul_le_mul_of_nonneg_left k (show 0 ≤ sw b.2 - sw b.1 by omega)
        have k5 : ((sw b.2 - sw b.1) * (sv x - sv a)) * (sw e - sw a) ≤ ((sv b.2 - sv b.1) * (sw x - sw a)) * (sw e - sw a) := by grind
        have k6 := Int.le_of_mul_le_mul_right k5 w1
        grind
    · rw [List.mem_singleton.1 h1] at hi1 hi2 ⊢
      simp only at hi1 hi2 ⊢
      refine ⟨a, e, hi1, hi2, Nat.le_refl _, by grind, fun x hx => ?_⟩
      rcases Nat.lt_or_ge x a with h2 | h2
      · have lo := h.low hw (show a ≤ n by omega) w1 (p := sv e - sv a) (fun b hb' => Int.le_of_lt (by have := hf b hb'; exact this)) x (by omega)
        grind
      · have k := hk.2 x h2 hx
        grind
end Go.Proofs.Ytgdhbeccpicdcaa.Sd
namespace Go.Proofs.Ytgdhbeccpicdcaa.Bl
open Go.RowKit Go.Proofs.Ytgdhbeccpicdcaa.P Go.Proofs.Ytgdhbeccpicdcaa.E Go.Proofs.Ytgdhbeccpicdcaa.Fr Go.Proofs.Ytgdhbeccpicdcaa.Sd Go.Proofs.YtgdhbeccpicdcaaW.PrintMore
open Go.Proofs.YtgdhbeccpicdcaaW.PrintWords
/-- The sums of the weights, and of weight times value, of the first hours. -/
def sw (h : List S31) : Nat → Int
  | 0 => 0
  | n + 1 => sw h n + (rd_T31 h (n : Int)).f1
def sv (h : List S31) : Nat → Int
  | 0 => 0
  | n + 1 => sv h n + (rd_T31 h (n : Int)).f1 * (rd_T31 h (n : Int)).f0
def rok (r : S31) : Prop := 0 ≤ r.f0 ∧ r.f0 ≤ 100 ∧ 1 ≤ r.f1 ∧ r.f1 ≤ 9
instance (r : S31) : Decidable (rok r) := by unfold rok; infer_instance
def Ok (h : List S31) : Prop := 1 ≤ h.length ∧ h.length ≤ 12 ∧ ∀ i : Nat, i < h.length → rok (rd_T31 h (i : Int))
theorem Ok.up {h : List S31} (k : Ok h) : Up (sw h) h.length := by
  intro x hx
  have := k.2.2 x hx
  simp only [rok] at this
  simp only [sw]
  omega
theorem Ok.bd {h : List S31} (k : Ok h) {a b : Nat} (hab : a ≤ b) (hb : b ≤ h.length) :
    (b : Int) - a ≤ sw h b - sw h a ∧ sw h b - sw h a ≤ 9 * ((b : Int) - a) ∧ 0 ≤ sv h b - sv h a ∧ sv h b - sv h a ≤ 900 * ((b : Int) - a) := by
  induction b with
  | zero => obtain rfl : a = 0 := by omega
            simp
  | succ b ih =>
    rcases Nat.lt_or_ge a (b + 1) with h1 | h1
    · have i := ih (by omega) (by omega)
      have r := k.2.2 b (by omega)
      simp only [rok] at r
      have m1 : 0 ≤ (rd_T31 h (b : Int)).f1 * (rd_T31 h (b : Int)).f0 := Int.mul_nonneg (by omega) (by omega)
      have m2 : (rd_T31 h (b : Int)).f1 * (rd_T31 h (b : Int)).f0 ≤ 9 * 100 := Int.mul_le_mul (by omega) (by omega) (by omega) (by omega)
      simp only [sw, sv]
      omega
    · obtain rfl : a = b + 1 := by omega
      simp
theorem Ok.small {h : List S31} (k : Ok h) {a b : Nat} (hab : a < b) (hb : b ≤ h.length) :
    0 < sw h b - sw h a ∧ sw h b - sw h a ≤ 108 ∧ 0 ≤ sv h b - sv h a ∧ sv h b - sv h a ≤ 10800 := by
  have := k.bd (Nat.le_of_lt hab) hb
  have := k.2.1
  omega
/-- The mean of the hours from a to b, b not included. -/
def M (h : List S31) (a b : Nat) : Int × Int := Rt (sv h b - sv h a) (sw h b - sw h a)
theorem Rt_lt {a b c d : Int} (hb : 0 < b) (hd : 0 < d) : (Rt c d).1 * (Rt a b).2 < (Rt a b).1 * (Rt c d).2 ↔ c * b < a * d := by
  obtain ⟨h1, h2⟩ := Rt_mul (n := a) hb
  obtain ⟨h3, h4⟩ := Rt_mul (n := c) hd
  have g := gcd_pos' (n := a) hb
  have g' := gcd_pos' (n := c) hd
  have gg := Int.mul_pos g g'
  have e1 : c * b = ((Rt c d).1 * (Rt a b).2) * ((Int.gcd a b : Nat) * (Int.gcd c d : Nat) : Int) := by
    conv => lhs; rw [← h3, ← h2]
    grind
  have e2 : a * d = ((Rt a b).1 * (Rt c d).2) * ((Int.gcd a b : Nat) * (Int.gcd c d : Nat) : Int) := by
    conv => lhs; rw [← h1, ← h4]
    grind
  rw [e1, e2]
  exact (Int.mul_lt_mul_right gg).symm
theorem small_mul {x y : Int} (h1 : 0 ≤ x) (h2 : x ≤ 1000000000) (h3 : 0 ≤ y) (h4 : y ≤ 1000000000) : 0 ≤ x * y ∧ x * y ≤ 1000000000000000000 :=
  ⟨Int.mul_nonneg h1 h3, Int.le_trans (Int.mul_le_mul h2 h4 h3 (by decide)) (by decide)⟩
theorem above_eq {a b c d : Int} (ha : 0 ≤ a) (ha' : a ≤ 1000000000) (hb : 0 < b) (hb' : b ≤ 1000000000) (hc : 0 ≤ c) (hc' : c ≤ 1000000000) (hd : 0 < d) (hd' : d ≤ 1000000000) :
    api_Rat_haze_compare.f (Rt a b).1 (Rt a b).2 (Rt c d).1 (Rt c d).2 = some (decide (c * b < a * d)) := by
  unfold api_Rat_haze_compare.f haze_compare.f
  have i1 := Rt_nonneg ha hb
  have i2 := Rt_num_le ha hb
  have i3 := Rt_pos (n := a) hb
  have i4 := Rt_le (n := a) hb
  have j1 := Rt_nonneg hc hd
  have j2 := Rt_num_le hc hd
  have j3 := Rt_pos (n := c) hd
  have j4 := Rt_le (n := c) hd
  have p := small_mul i1 (by omega) (Int.le_of_lt j3) (by omega)
  have q := small_mul j1 (by omega) (Int.le_of_lt i3) (by omega)
  rw [w64 (x := (Rt a b).1 * (Rt c d).2) (by omega) (by omega), w64 (x := (Rt c d).1 * (Rt a b).2) (by omega) (by omega), w64 (by omega) (by omega)]
  simp only [Option.bind_some]
  congr 1
  have := Rt_lt (a := a) (c := c) hb hd
  rw [decide_eq_decide]
  omega
theorem less_eq {a b c d : Int} (ha : 0 ≤ a) (ha' : a ≤ 1000000000) (hb : 0 < b) (hb' : b ≤ 1000000000) (hc : 0 ≤ c) (hc' : c ≤ 1000000000) (hd : 0 < d) (hd' : d ≤ 1000000000) :
    diaphoneref02_Less.f (Rt a b).1 (Rt a b).2 (Rt c d).1 (Rt c d).2 = some (decide (a * d < c * b)) := by
  unfold diaphoneref02_Less.f
  have i1 := Rt_nonneg ha hb
  have i2 := Rt_num_le ha hb
  have i3 := Rt_pos (n := a) hb
  have i4 := Rt_le (n := a) hb
  have j1 := Rt_nonneg hc hd
  have j2 := Rt_num_le hc hd
  have j3 := Rt_pos (n := c) hd
  have j4 := Rt_le (n := c) hd
  have p := small_mul i1 (by omega) (Int.le_of_lt j3) (by omega)
  have q := small_mul j1 (by omega) (Int.le_of_lt i3) (by omega)
  rw [w64 (x := (Rt a b).1 * (Rt c d).2) (by omega) (by omega), w64 (x := (Rt c d).1 * (Rt a b).2) (by omega) (by omega)]
  congr 1
  have := Rt_lt (a := c) (c := a) hd hb
  rw [decide_eq_decide]
  exact this
theorem ev_block_mean {f t w v : Int} (h0 : 0 ≤ v) (h1 : v ≤ 1000000000) (hd : 0 < w) (hd1 : w ≤ 1000000000) : Tl (fun k => haze_block_mean.f k f t w v) (Rt v w) := by
  unfold haze_block_mean.f
  exact Tl.bind (ev_ratio h0 (by omega) hd (by omega)) Tl.now
theorem of_eq {h : List S31} (k : Ok h) {i : Nat} (hi : i < h.length) : haze_of.f h (i : Int) = some ((i : Int), (i : Int), sw h (i + 1) - sw h i, sv h (i + 1) - sv h i) := by
  unfold haze_of.f
  have r := k.2.2 i hi
  simp only [rok] at r
  have m1 : 0 ≤ (rd_T31 h (i : Int)).f1 * (rd_T31 h (i : Int)).f0 := Int.mul_nonneg (by omega) (by omega)
  have m2 : (rd_T31 h (i : Int)).f1 * (rd_T31 h (i : Int)).f0 ≤ 9 * 100 := Int.mul_le_mul (by omega) (by omega) (by omega) (by omega)
  rw [if_pos (by omega), if_pos (by omega), w64 (by omega) (by omega)]
  have e1 : sw h (i + 1) - sw h i = (rd_T31 h (i : Int)).f1 := by simp only [sw]; omega
  have e2 : sv h (i + 1) - sv h i = (rd_T31 h (i : Int)).f1 * (rd_T31 h (i : Int)).f0 := by simp only [sv]; omega
  rw [e1, e2]
def bk (h : List S31) (b : Nat × Nat) : S75 := ⟨(b.1 : Int), (b.2 : Int) - 1, sw h b.2 - sw h b.1, sv h b.2 - sv h b.1⟩
theorem Ch.inv {sv sw : Nat → Int} {l : List (Nat × Nat)} {a : Nat} (h : Ch sv sw l a) : (l = [] ∧ a = 0) ∨ ∃ l0 a0, l = l0 ++ [(a0, a)] ∧ Ch sv sw l0 a0 ∧ Blk sv sw a0 a ∧ ∀ b, b ∈ l0 → (sv a - sv a0) * (sw b.2 - sw b.1) < (sv b.2 - sv b.1) * (sw a - sw a0) := by
  cases h with
  | nil => exact .inl ⟨rfl, rfl⟩
  | snoc h hb hf => exact .inr ⟨_, _, rfl, h, hb, hf⟩
theorem rd_last {α : Type} (l : List α) (x z : α) : (l ++ [x]).getD l.length z = x := by simp
theorem inner {h : List S31} (ok : Ok h) {i : Nat} (hi : i < h.length) (n : Nat) : ∀ (l : List (Nat × Nat)) (a : Nat), l.length = n → Ch (sv h) (sw h) l a → Blk (sv h) (sw h) a (i + 1) →
    ∃ l', Ch (sv h) (sw h) l' (i + 1) ∧ l'.length ≤ n + 1 ∧ ∀ r, Tl (fun k => haze_blocks.l0 k h (l'.map (bk h)) (h.length : Int) ((i : Int) + 1)) r →
      Tl (fun k => haze_blocks.l1 k h (l.map (bk h)) (h.length : Int) (i : Int) (a : Int) ((i : Int)) (sw h (i + 1) - sw h a) (sv h (i + 1) - sv h a)) r := by
  induction n with
  | zero =>
    intro l a hl hc hb
    rcases Ch.inv hc with ⟨rfl, rfl⟩ | ⟨l0, a0, rfl, _⟩
    · refine ⟨[] ++ [(0, i + 1)], Ch.snoc hc hb (by simp), by simp, fun r hr => ?_⟩
      refine Tl.succ ?_
      simp only [haze_blocks.l1, List.map_nil, List.length_nil]
      refine Tl.neg (by decide) (Tl.pos (by decide) ?_)
      rw [w64 (x := (i : Int) + 1) (by omega) (by have := ok.2.1; omega)]
      refine hr.congr (fun k => ?_)
      simp [bk]
    · simp at hl
  | succ n ih =>
    intro l a hl hc hb
    rcases Ch.inv hc with ⟨rfl, rfl⟩ | ⟨l0, a0, rfl, hc0, hb0, hf0⟩
    · simp at hl
    · have hl0 : l0.length = n := by simpa using hl
      have ha := hb.1
      have ha0 := hb0.1
      have hlen := ok.2.1
      have s1 := ok.small (show a0 < a by omega) (show a ≤ h.length by omega)
      have s2 := ok.small (show a < i + 1 by omega) (show i + 1 ≤ h.length by omega)
      have hn : n ≤ 12 := by
        have : ∀ {l : List (Nat × Nat)} {e : Nat}, Ch (sv h) (sw h) l e → l.length ≤ e := by
          intro l e hc
          induction hc with
          | nil => simp
          | snoc _ hb _ ih => have := hb.1; simp; omega
        have := this hc0
        omega
      have hw1 : wrap64 ((((l0 ++ [(a0, a)]).map (bk h)).length : Int) - 1) = (n : Int) := by
        rw [w64] <;> simp [hl0] <;> omega
      have hrd : rd_T75 ((l0 ++ [(a0, a)]).map (bk h)) (n : Int) = bk h (a0, a) := by
        unfold rd_T75
        rw [Int.toNat_natCast, List.map_append, ← hl0, ← List.length_map (f := bk h)]
        exact rd_last _ _ _
      by_cases hcmp : (sv h (i + 1) - sv h a) * (sw h a - sw h a0) < (sv h a - sv h a0) * (sw h (i + 1) - sw h a)
      · -- the new block is less than the last one: it is laid behind it
        refine ⟨(l0 ++ [(a0, a)]) ++ [(a, i + 1)], Ch.snoc hc hb ?_, by simp [hl0], fun r hr => ?_⟩
        · intro b hb'
          rcases List.mem_append.1 hb' with h1 | h1
          · have k1 := hf0 b h1
            have hbin := hc0.in b h1
            have s3 := ok.small hbin.1 (show b.2 ≤ h.length by omega)
            have k2 := Int.mul_lt_mul_of_pos_right hcmp s3.1
            have k3 := Int.mul_lt_mul_of_pos_right k1 s2.1
            have k4 : ((sv h (i + 1) - sv h a) * (sw h b.2 - sw h b.1)) * (sw h a - sw h a0) < ((sv h b.2 - sv h b.1) * (sw h (i + 1) - sw h a)) * (sw h a - sw h a0) := by grind
            exact Int.lt_of_mul_lt_mul_right k4 (Int.le_of_lt s1.1)
          · rw [List.mem_singleton.1 h1]; exact hcmp
        · refine Tl.succ ?_
          simp only [haze_blocks.l1]
          refine Tl.pos (by simp) ?_
          rw [hw1]
          refine Tl.pos (by omega) (Tl.pos (by simp [hl0]; omega) ?_)
          rw [hrd]
          refine Tl.bind (ev_block_mean (by simp only [bk]; omega) (by simp only [bk]; omega) (by simp only [bk]; omega) (by simp only [bk]; omega)) ?_
          refine Tl.bind (ev_block_mean (by omega) (by omega) (by omega) (by omega)) ?_
          refine Tl.bind' (above_eq (by simp only [bk]; omega) (by simp only [bk]; omega) (by simp only [bk]; omega) (by simp only [bk]; omega) (by omega) (by omega) (by omega) (by omega)) ?_
          refine Tl.pos (decide_eq_true (by simpa only [bk] using hcmp)) (Tl.pos (by simp [hl0]; omega) ?_)
          rw [w64 (x := (i : Int) + 1) (by omega) (by omega)]
          refine hr.congr (fun k => ?_)
          simp [bk]
      · -- it is joined with the last one
        have hm : Blk (sv h) (sw h) a0 (i + 1) := Blk.merge ok.up (by omega) hb0 hb (by omega)
        obtain ⟨l', hc', hl', hr'⟩ := ih l0 a0 hl0 hc0 hm
        refine ⟨l', hc', by omega, fun r hr => ?_⟩
        refine Tl.succ ?_
        simp only [haze_blocks.l1]
        refine Tl.pos (by simp) ?_
        rw [hw1]
        refine Tl.pos (by omega) (Tl.pos (by simp [hl0]; omega) ?_)
        rw [hrd]
        refine Tl.bind (ev_block_mean (by simp only [bk]; omega) (by simp only [bk]; omega) (by simp only [bk]; omega) (by simp only [bk]; omega)) ?_
        refine Tl.bind (ev_block_mean (by omega) (by omega) (by omega) (by omega)) ?_
        refine Tl.bind' (above_eq (by simp only [bk]; omega) (by simp only [bk]; omega) (by simp only [bk]; omega) (by simp only [bk]; omega) (by omega) (by omega) (by omega) (by omega)) ?_
        refine Tl.neg (by rw [decide_eq_true_eq]; simpa only [bk] using hcmp) ?_
        have hwith : haze_block_with.f (bk h (a0, a)).f0 (bk h (a0, a)).f1 (bk h (a0, a)).f2 (bk h (a0, a)).f3 (a : Int) (i : Int) (sw h (i + 1) - sw h a) (sv h (i + 1) - sv h a) = some ((a0 : Int), (i : Int), sw h (i + 1) - sw h a0, sv h (i + 1) - sv h a0) := by
          unfold haze_block_with.f
          simp only [bk]
          rw [w64 (by omega) (by omega), w64 (by omega) (by omega)]
          rw [show sw h a - sw h a0 + (sw h (i + 1) - sw h a) = sw h (i + 1) - sw h a0 by omega, show sv h a - sv h a0 + (sv h (i + 1) - sv h a) = sv h (i + 1) - sv h a0 by omega]
        refine Tl.bind' hwith ?_
        refine Tl.pos (by simp [hl0]; omega) ?_
        refine (hr' r hr).congr (fun k => ?_)
        congr 1
        rw [Int.toNat_natCast, List.map_append, List.take_left']
        simp [hl0]
theorem outer {h : List S31} (ok : Ok h) (d : Nat) : ∀ (i : Nat) (l : List (Nat × Nat)), h.length - i = d → i ≤ h.length → Ch (sv h) (sw h) l i →
    ∃ l', Ch (sv h) (sw h) l' h.length ∧ Tl (fun k => haze_blocks.l0 k h (l.map (bk h)) (h.length : Int) (i : Int)) (l'.map (bk h)) := by
  induction d with
  | zero =>
    intro i l hd hi hc
    obtain rfl : i = h.length := by omega
    refine ⟨l, hc, Tl.succ ?_⟩
    simp only [haze_blocks.l0]
    exact Tl.neg (by omega) Tl.now
  | succ d ih =>
    intro i l hd hi hc
    have hlt : i < h.length := by omega
    obtain ⟨l1, hc1, _, hr1⟩ := inner ok hlt _ l i rfl hc (Blk.one _ _ i)
    obtain ⟨l', hc', hr'⟩ := ih (i + 1) l1 (by omega) (by omega) hc1
    refine ⟨l', hc', Tl.succ ?_⟩
    simp only [haze_blocks.l0]
    refine Tl.pos (by omega) (Tl.bind' (of_eq ok hlt) ?_)
    exact hr1 _ hr'
theorem ev_blocks {h : List S31} (ok : Ok h) : ∃ l, Ch (sv h) (sw h) l h.length ∧ Tl (fun k => haze_blocks.f k h) (l.map (bk h)) := by
  obtain ⟨l, hc, hr⟩ := outer ok h.length 0 [] rfl (by omega) Ch.nil
  exact ⟨l, hc, hr⟩
end Go.Proofs.Ytgdhbeccpicdcaa.Bl
namespace Go.Proofs.Ytgdhbeccpicdcaa.Va
open Go.RowKit Go.Proofs.Ytgdhbeccpicdcaa.P Go.Proofs.Ytgdhbeccpicdcaa.E Go.Proofs.Ytgdhbeccpicdcaa.Bl Go.Proofs.YtgdhbeccpicdcaaW.PrintMore
open Go.Proofs.YtgdhbeccpicdcaaW.PrintWords
theorem within_eq (a b c : Int) : haze_within.f a b c = some (decide (b ≤ a ∧ a ≤ c)) := by
  unfold haze_within.f
  by_cases h : b ≤ a
  · rw [if_pos h]; simp [h]
  · rw [if_neg h]; simp [h]
theorem isReading_eq (a b : Int) : haze_isReading.f a b = some (decide (rok ⟨a, b⟩)) := by
  unfold haze_isReading.f
  simp only [within_eq, Option.bind_some]
  by_cases h : 0 ≤ a ∧ a ≤ 100
  · simp [h, rok]
  · simp only [h, decide_false, Bool.false_eq_true, if_false]
    congr 1
    symm
    rw [decide_eq_false_iff_not]
    rintro ⟨h2, h3, _⟩
    exact h ⟨h2, h3⟩
/-- The first error of readings. -/
def vc (h : List S31) : Int := if 1 ≤ h.length ∧ h.length ≤ 12 then (if h.all (fun r => decide (rok r)) then 0 else 1) else 3
theorem drop_cons {α : Type} {h : List α} {i : Nat} (hi : i < h.length) : h.drop i = h[i] :: h.drop (i + 1) := List.drop_eq_getElem_cons hi
theorem rd31 {h : List S31} {i : Nat} (hi : i < h.length) : rd_T31 h (i : Int) = h[i] := by
  unfold rd_T31
  rw [Int.toNat_natCast, List.getD_eq_getElem?_getD, List.getElem?_eq_getElem hi]; rfl
theorem vloop (h : List S31) (hl : h.length ≤ 1000) (d : Nat) : ∀ i : Nat, i ≤ h.length → h.length - i = d →
    Tl (fun k => haze_Validate.l0 k h (h.length : Int) (i : Int)) (if (h.drop i).all (fun r => decide (rok r)) then 0 else 1) := by
  induction d with
  | zero =>
    intro i hi hd
    obtain rfl : i = h.length := by omega
    refine Tl.succ ?_
    simp only [haze_Validate.l0, List.drop_length, List.all_nil, if_true]
    exact Tl.neg (by omega) Tl.now
  | succ d ih =>
    intro i hi hd
    have hlt : i < h.length := by omega
    refine Tl.succ ?_
    simp only [haze_Validate.l0]
    refine Tl.pos (by omega) (Tl.pos (by omega) (Tl.pos (by omega) (Tl.bind' (isReading_eq _ _) ?_)))
    rw [rd31 hlt, drop_cons hlt, List.all_cons]
    by_cases hr : rok h[i]
    · refine Tl.pos (decide_eq_true hr) ?_
      rw [w64 (by omega) (by omega)]
      have := ih (i + 1) (by omega) (by omega)
      simpa [hr] using this
    · refine Tl.neg (by simpa using hr) ?_
      simp only [hr, decide_false, Bool.false_and, Bool.false_eq_true, if_false]
      exact Tl.now
theorem ev_Validate {h : List S31} (hl : h.length ≤ 1000) : Tl (fun k => haze_Validate.f k h) (vc h) := by
  unfold haze_Validate.f
  refine Tl.bind' (within_eq _ _ _) ?_
  unfold vc
  by_cases hc : 1 ≤ h.length ∧ h.length ≤ 12
  · rw [if_pos hc]
    refine Tl.pos (by simp; omega) ?_
    have := vloop h hl h.length 0 (by omega) (by omega)
    simpa using this
  · rw [if_neg hc]
    exact Tl.neg (by simp; omega) Tl.now
theorem vc_ok {h : List S31} : vc h = 0 ↔ Ok h := by
  unfold vc Ok
  constructor
  · intro hv
    split at hv
    · rename_i hc
      split at hv
      · rename_i ha
        refine ⟨hc.1, hc.2, fun i hi => ?_⟩
        rw [rd31 hi]
        simpa using List.all_eq_true.1 ha h[i] (List.getElem_mem hi)
      · cases hv
    · cases hv
  · rintro ⟨h1, h2, h3⟩
    rw [if_pos ⟨h1, h2⟩, if_pos]
    rw [List.all_eq_true]
    intro r hr
    obtain ⟨i, hi, rfl⟩ := List.getElem_of_mem hr
    have := h3 i hi
    rw [rd31 hi] at this
    simpa using this
end Go.Proofs.Ytgdhbeccpicdcaa.Va
namespace Go.Proofs.Ytgdhbeccpicdcaa.Kn
open Go.RowKit Go.Proofs.Ytgdhbeccpicdcaa.P Go.Proofs.Ytgdhbeccpicdcaa.E Go.Proofs.Ytgdhbeccpicdcaa.Fr Go.Proofs.Ytgdhbeccpicdcaa.Sd Go.Proofs.Ytgdhbeccpicdcaa.Bl Go.Proofs.Ytgdhbeccpicdcaa.Va Go.Proofs.YtgdhbeccpicdcaaW.PrintMore
open Go.Proofs.YtgdhbeccpicdcaaW.PrintWords
theorem long_eq (h : List S31) : diaphonelaw02_Long.f h = some (decide ((h.length : Int) > 100)) := rfl
end Go.Proofs.Ytgdhbeccpicdcaa.Kn
namespace Go.Proofs.Ytgdhbeccpicdcaa.Be
open Go.RowKit Go.Proofs.Ytgdhbeccpicdcaa.P Go.Proofs.Ytgdhbeccpicdcaa.E Go.Proofs.Ytgdhbeccpicdcaa.Fr Go.Proofs.Ytgdhbeccpicdcaa.Sd Go.Proofs.Ytgdhbeccpicdcaa.Bl Go.Proofs.Ytgdhbeccpicdcaa.Va Go.Proofs.YtgdhbeccpicdcaaW.PrintMore
open Go.Proofs.YtgdhbeccpicdcaaW.PrintWords
def rat (x : Int × Int) : S33 := ⟨x.1, x.2⟩
theorem rd33 {l : List S33} {i : Nat} (hi : i < l.length) : rd_T33 l (i : Int) = l[i] := by
  unfold rd_T33
  rw [Int.toNat_natCast, List.getD_eq_getElem?_getD, List.getElem?_eq_getElem hi]; rfl
theorem rd75 {l : List S75} {i : Nat} (hi : i < l.length) : rd_T75 l (i : Int) = l[i] := by
  unfold rd_T75
  rw [Int.toNat_natCast, List.getD_eq_getElem?_getD, List.getElem?_eq_getElem hi]; rfl
/-- A row is the best one: at each hour a line touches the diagram, and the row has its slope. -/
def IsBest (h : List S31) (l : List S33) : Prop :=
  l.length = h.length ∧ ∀ i, (hi : i < l.length) → ∃ a b, a ≤ i ∧ i < b ∧ b ≤ h.length ∧ Sad (sv h) (sw h) h.length i (sv h b - sv h a) (sw h b - sw h a) ∧ l[i] = rat (M h a b)
theorem IsBest.unique {h : List S31} (ok : Ok h) {l l' : List S33} (k : IsBest h l) (k' : IsBest h l') : l = l' := by
  refine List.ext_getElem (k.1.trans k'.1.symm) (fun i h1 h2 => ?_)
  obtain ⟨a, b, ha, hb, hb2, hs, e⟩ := k.2 i h1
  obtain ⟨a', b', ha', hb', hb2', hs', e'⟩ := k'.2 i h2
  have s := ok.small (show a < b by omega) hb2
  have s' := ok.small (show a' < b' by omega) hb2'
  rw [e, e']
  congr 1
  exact Rt_eq s.1 s'.1 (hs.unique hs' s.1 s'.1 ok.up)
/-- The row that blocks tell. -/
def row (h : List S31) (l : List (Nat × Nat)) : List S33 := l.flatMap (fun b => List.replicate (b.2 - b.1) (rat (M h b.1 b.2)))
theorem row_length {h : List S31} {l : List (Nat × Nat)} {e : Nat} (hc : Ch (sv h) (sw h) l e) : (row h l).length = e := by
  induction hc with
  | nil => rfl
  | snoc hc hb hf ih =>
    have := hb.1
    simp only [row, List.flatMap_append, List.length_append, List.flatMap_cons, List.flatMap_nil, List.append_nil, List.length_replicate] at ih ⊢
    omega
theorem row_get {h : List S31} {l : List (Nat × Nat)} {e : Nat} (hc : Ch (sv h) (sw h) l e) : ∀ i, i < e → ∃ b ∈ l, b.1 ≤ i ∧ i < b.2 ∧ (row h l)[i]? = some (rat (M h b.1 b.2)) := by
  induction hc with
  | nil => intro i hi; omega
  | @snoc l a e hc hb hf ih =>
    intro i hi
    have hlen := row_length hc
    have e1 : row h (l ++ [(a, e)]) = row h l ++ List.replicate (e - a) (rat (M h a e)) := by simp [row]
    rw [e1]
    rcases Nat.lt_or_ge i a with h1 | h1
    · obtain ⟨b, hb1, hb2, hb3, hb4⟩ := ih i h1
      refine ⟨b, by simp [hb1], hb2, hb3, ?_⟩
      rw [List.getElem?_append_left (by omega)]
      exact hb4
    · refine ⟨(a, e), by simp, h1, hi, ?_⟩
      rw [List.getElem?_append_right (by omega), List.getElem?_replicate, if_pos (by omega)]
theorem Ch.row_best {h : List S31} (ok : Ok h) {l : List (Nat × Nat)} (hc : Ch (sv h) (sw h) l h.length) : IsBest h (row h l) := by
  refine ⟨row_length hc, fun i hi => ?_⟩
  obtain ⟨b, hb, h1, h2, h3⟩ := row_get hc i (by rw [row_length hc] at hi; exact hi)
  have hin := hc.in b hb
  refine ⟨b.1, b.2, h1, h2, hin.2, hc.sad ok.up (Nat.le_refl _) b hb i h1 h2, ?_⟩
  rw [List.getElem?_eq_getElem hi] at h3
  exact Option.some.inj h3
theorem Ch.len {sv sw : Nat → Int} {l : List (Nat × Nat)} {e : Nat} (hc : Ch sv sw l e) : l.length ≤ e := by
  induction hc with
  | nil => simp
  | snoc _ hb _ ih => have := hb.1; simp; omega
end Go.Proofs.Ytgdhbeccpicdcaa.Be
namespace Go.Proofs.Ytgdhbeccpicdcaa.Be
open Go.RowKit Go.Proofs.Ytgdhbeccpicdcaa.P Go.Proofs.Ytgdhbeccpicdcaa.E Go.Proofs.Ytgdhbeccpicdcaa.Fr Go.Proofs.Ytgdhbeccpicdcaa.Sd Go.Proofs.Ytgdhbeccpicdcaa.Bl Go.Proofs.Ytgdhbeccpicdcaa.Va Go.Proofs.YtgdhbeccpicdcaaW.PrintMore
open Go.Proofs.YtgdhbeccpicdcaaW.PrintWords
theorem best_loop {h : List S31} (ok : Ok h) {l : List (Nat × Nat)} {e : Nat} (hc : Ch (sv h) (sw h) l e) (he : e ≤ h.length) (hl : l.length ≤ 12) (d : Nat) : ∀ (i : Nat) (acc : List S33), i ≤ l.length → l.length - i = d → acc.length ≤ 12 * i →
    Tl (fun k => haze_best.l0 k acc (l.map (bk h)) (l.length : Int) (i : Int)) (acc ++ row h (l.drop i)) := by
  induction d with
  | zero =>
    intro i acc hi hd _
    obtain rfl : i = l.length := by omega
    refine Tl.succ ?_
    simp only [haze_best.l0, List.drop_length]
    refine Tl.neg (by omega) ?_
    simpa [row] using Tl.now (r := acc)
  | succ d ih =>
    intro i acc hi hd ha
    have hlt : i < l.length := by omega
    have hin := hc.in l[i] (List.getElem_mem hlt)
    have hlen := ok.2.1
    have s := ok.small hin.1 (show l[i].2 ≤ h.length by omega)
    refine Tl.succ ?_
    simp only [haze_best.l0]
    rw [rd75 (by simpa using hlt), List.getElem_map]
    refine Tl.pos (by omega) (Tl.pos (by omega) (Tl.pos (by simp; omega) ?_))
    refine Tl.bind (ev_block_mean (by simp only [bk]; omega) (by simp only [bk]; omega) (by simp only [bk]; omega) (by simp only [bk]; omega)) ?_
    have hrep : api_Rat.f ([(⟨(Rt (bk h l[i]).f3 (bk h l[i]).f2).1, (Rt (bk h l[i]).f3 (bk h l[i]).f2).2⟩ : S33)] : List S33) (wrap64 ((wrap64 ((bk h l[i]).f1 - (bk h l[i]).f0)) + 1)) = some (List.replicate (l[i].2 - l[i].1) (rat (M h l[i].1 l[i].2))) := by
      have e1 : wrap64 ((wrap64 ((bk h l[i]).f1 - (bk h l[i]).f0)) + 1) = ((l[i].2 - l[i].1 : Nat) : Int) := by
        simp only [bk]
        rw [w64 (x := (l[i].2 : Int) - 1 - l[i].1) (by omega) (by omega), w64 (by omega) (by omega)]
        omega
      rw [e1]
      unfold api_Rat.f
      rw [if_pos (by simp), if_pos (by simp), if_pos (by omega), if_pos (by omega)]
      congr 1
      rw [Int.toNat_natCast]
      have : ∀ (n : Nat) (x : S33), (List.replicate n [x]).flatten = List.replicate n x := by
        intro n x
        induction n with
        | zero => rfl
        | succ n ih => rw [List.replicate_succ, List.flatten_cons, ih, List.replicate_succ]; rfl
      rw [this]
      rfl
    refine Tl.bind' hrep (Tl.pos (by simp; omega) ?_)
    rw [w64 (by omega) (by omega)]
    have := ih (i + 1) (acc ++ List.replicate (l[i].2 - l[i].1) (rat (M h l[i].1 l[i].2))) (by omega) (by omega) (by simp; omega)
    refine this.to ?_
    rw [List.append_assoc, drop_cons hlt]
    rfl
theorem ev_best {h : List S31} (ok : Ok h) : ∃ l, IsBest h l ∧ Tl (fun k => haze_best.f k h) l := by
  obtain ⟨l, hc, hr⟩ := ev_blocks ok
  refine ⟨row h l, Ch.row_best ok hc, ?_⟩
  unfold haze_best.f
  refine Tl.bind hr ?_
  have hl := Ch.len hc
  have := best_loop ok hc (Nat.le_refl _) (by have := ok.2.1; omega) l.length 0 [] (by omega) (by omega) (by simp)
  simpa using this
theorem ev_Best_bad {h : List S31} (hl : h.length ≤ 1000) (hv : vc h ≠ 0) : Tl (fun k => haze_Best.f k h) ([], vc h) := by
  unfold haze_Best.f
  exact Tl.bind (ev_Validate hl) (Tl.neg hv Tl.now)
theorem ev_Best {h : List S31} (ok : Ok h) {l : List S33} (hb : IsBest h l) : Tl (fun k => haze_Best.f k h) (l, 0) := by
  obtain ⟨l', hb', hr⟩ := ev_best ok
  obtain rfl := hb.unique ok hb'
  unfold haze_Best.f
  have := ev_Validate (h := h) (by have := ok.2.1; omega)
  rw [vc_ok.2 ok] at this
  exact Tl.bind this (Tl.pos rfl (Tl.bind hr Tl.now))
end Go.Proofs.Ytgdhbeccpicdcaa.Be
namespace Go.Proofs.Ytgdhbeccpicdcaa.Me
open Go.RowKit Go.Proofs.Ytgdhbeccpicdcaa.P Go.Proofs.Ytgdhbeccpicdcaa.E Go.Proofs.Ytgdhbeccpicdcaa.Fr Go.Proofs.Ytgdhbeccpicdcaa.Sd Go.Proofs.Ytgdhbeccpicdcaa.Bl Go.Proofs.Ytgdhbeccpicdcaa.Va Go.Proofs.Ytgdhbeccpicdcaa.Be Go.Proofs.Ytgdhbeccpicdcaa.Kn Go.Proofs.YtgdhbeccpicdcaaW.PrintMore
open Go.Proofs.YtgdhbeccpicdcaaW.PrintWords
def inn (h : List S31) (a : Int) : Prop := 0 ≤ a ∧ a ≤ (h.length : Int) - 1
instance (h : List S31) (a : Int) : Decidable (inn h a) := by unfold inn; infer_instance
theorem within_in {h : List S31} (hl : h.length ≤ 1000) (a : Int) : haze_within.f a 0 (wrap64 ((h.length : Int) - 1)) = some (decide (inn h a)) := by
  rw [within_eq, w64 (by omega) (by omega)]; rfl
/-- The first error of readings and hours. -/
def hc (h : List S31) (a b : Int) : Int := if vc h = 0 then (if inn h a ∧ inn h b then 0 else 4) else vc h
theorem ev_hours2 {h : List S31} (hl : h.length ≤ 1000) (a b : Int) : Tl (fun k => haze_hours.f k h [a, b]) (hc h a b) := by
  unfold haze_hours.f hc
  refine Tl.bind (ev_Validate hl) ?_
  by_cases hv : vc h = 0
  · rw [if_pos hv]
    refine Tl.pos hv (Tl.succ ?_)
    simp only [haze_hours.l0]
    refine Tl.pos (by simp) (Tl.pos (by simp) (Tl.pos (by simp) (Tl.bind' (within_in hl _) ?_)))
    rw [show rd [a, b] 0 = a from rfl]
    by_cases ha : inn h a
    · refine Tl.pos (decide_eq_true ha) ?_
      rw [show wrap64 (0 + 1) = 1 by unfold wrap64; omega]
      refine Tl.succ ?_
      simp only [haze_hours.l0]
      refine Tl.pos (by simp) (Tl.pos (by simp) (Tl.pos (by simp) (Tl.bind' (within_in hl _) ?_)))
      rw [show rd [a, b] 1 = b from rfl]
      by_cases hb : inn h b
      · refine Tl.pos (decide_eq_true hb) ?_
        rw [if_pos ⟨ha, hb⟩, show wrap64 (1 + 1) = 2 by unfold wrap64; omega]
        refine Tl.succ ?_
        simp only [haze_hours.l0]
        exact Tl.neg (by simp) Tl.now
      · rw [if_neg (fun q => hb q.2)]
        exact Tl.neg (by simpa using hb) Tl.now
    · rw [if_neg (fun q => ha q.1)]
      exact Tl.neg (by simpa using ha) Tl.now
  · rw [if_neg hv]
    exact Tl.neg hv Tl.now
theorem ev_hours1 {h : List S31} (hl : h.length ≤ 1000) (a : Int) : Tl (fun k => haze_hours.f k h [a]) (hc h a a) := by
  unfold haze_hours.f hc
  refine Tl.bind (ev_Validate hl) ?_
  by_cases hv : vc h = 0
  · rw [if_pos hv]
    refine Tl.pos hv (Tl.succ ?_)
    simp only [haze_hours.l0]
    refine Tl.pos (by simp) (Tl.pos (by simp) (Tl.pos (by simp) (Tl.bind' (within_in hl _) ?_)))
    rw [show rd [a] 0 = a from rfl]
    by_cases ha : inn h a
    · refine Tl.pos (decide_eq_true ha) ?_
      rw [if_pos ⟨ha, ha⟩, show wrap64 (0 + 1) = 1 by unfold wrap64; omega]
      refine Tl.succ ?_
      simp only [haze_hours.l0]
      exact Tl.neg (by simp) Tl.now
    · rw [if_neg (fun q => ha q.1)]
      exact Tl.neg (by simpa using ha) Tl.now
  · rw [if_neg hv]
    exact Tl.neg hv Tl.now
theorem hc_ok {h : List S31} {a b : Int} (k : hc h a b = 0) : Ok h ∧ inn h a ∧ inn h b := by
  unfold hc at k
  split at k
  · rename_i hv
    split at k
    · rename_i hh
      exact ⟨vc_ok.1 hv, hh⟩
    · cases k
  · rename_i hv
    exact absurd k hv
end Go.Proofs.Ytgdhbeccpicdcaa.Me
namespace Go.Proofs.Ytgdhbeccpicdcaa.Me
open Go.RowKit Go.Proofs.Ytgdhbeccpicdcaa.P Go.Proofs.Ytgdhbeccpicdcaa.E Go.Proofs.Ytgdhbeccpicdcaa.Fr Go.Proofs.Ytgdhbeccpicdcaa.Sd Go.Proofs.Ytgdhbeccpicdcaa.Bl Go.Proofs.Ytgdhbeccpicdcaa.Va Go.Proofs.Ytgdhbeccpicdcaa.Be Go.Proofs.Ytgdhbeccpicdcaa.Kn Go.Proofs.YtgdhbeccpicdcaaW.PrintMore
open Go.Proofs.YtgdhbeccpicdcaaW.PrintWords
theorem span_loop {h : List S31} (ok : Ok h) {a b : Nat} (hb : b < h.length) (d : Nat) : ∀ j : Nat, a < j → j ≤ b + 1 → b + 1 - j = d →
    Tl (fun k => haze_span.l0 k h (b : Int) (j : Int) (a : Int) ((j : Int) - 1) (sw h j - sw h a) (sv h j - sv h a)) ((a : Int), (b : Int), sw h (b + 1) - sw h a, sv h (b + 1) - sv h a) := by
  induction d with
  | zero =>
    intro j h1 h2 h3
    obtain rfl : j = b + 1 := by omega
    refine Tl.succ ?_
    simp only [haze_span.l0]
    refine Tl.neg (by omega) (Tl.now.to ?_)
    congr 2
    omega
  | succ d ih =>
    intro j h1 h2 h3
    have hlen := ok.2.1
    have s := ok.bd (show a ≤ j + 1 by omega) (by omega)
    refine Tl.succ ?_
    simp only [haze_span.l0]
    refine Tl.pos (by omega) (Tl.bind' (of_eq ok (by omega)) ?_)
    have hw : haze_block_with.f (a : Int) ((j : Int) - 1) (sw h j - sw h a) (sv h j - sv h a) (j : Int) (j : Int) (sw h (j + 1) - sw h j) (sv h (j + 1) - sv h j) = some ((a : Int), (((j + 1 : Nat) : Int) - 1), sw h (j + 1) - sw h a, sv h (j + 1) - sv h a) := by
      unfold haze_block_with.f
      rw [w64 (by omega) (by omega), w64 (by omega) (by omega)]
      rw [show sw h j - sw h a + (sw h (j + 1) - sw h j) = sw h (j + 1) - sw h a by omega, show sv h j - sv h a + (sv h (j + 1) - sv h j) = sv h (j + 1) - sv h a by omega]
      congr 3
      omega
    refine Tl.bind' hw ?_
    rw [w64 (by omega) (by omega)]
    exact ih (j + 1) (by omega) (by omega) (by omega)
theorem ev_span {h : List S31} (ok : Ok h) {a b : Nat} (hab : a ≤ b) (hb : b < h.length) : Tl (fun k => haze_span.f k h (a : Int) (b : Int)) ((a : Int), (b : Int), sw h (b + 1) - sw h a, sv h (b + 1) - sv h a) := by
  unfold haze_span.f
  have hlen := ok.2.1
  refine Tl.bind' (of_eq ok (by omega)) ?_
  rw [w64 (by omega) (by omega)]
  have := span_loop ok (a := a) hb (b + 1 - (a + 1)) (a + 1) (by omega) (by omega) rfl
  refine this.congr (fun k => ?_)
  have e : (((a + 1 : Nat) : Int) - 1) = (a : Int) := by omega
  rw [e]
  rfl
theorem ev_span_mean {h : List S31} (ok : Ok h) {a b : Nat} (hab : a ≤ b) (hb : b < h.length) : Tl (fun k => haze_block_mean.f k (a : Int) (b : Int) (sw h (b + 1) - sw h a) (sv h (b + 1) - sv h a)) (M h a (b + 1)) := by
  have s := ok.small (show a < b + 1 by omega) (by omega)
  exact ev_block_mean (by omega) (by omega) (by omega) (by omega)
/-- The mean that is told, and the error. -/
def mc (h : List S31) (a b : Int) : Int × Int × Int := if hc h a b = 0 then (if a > b then (0, 0, 1) else ((M h a.toNat (b.toNat + 1)).1, (M h a.toNat (b.toNat + 1)).2, 0)) else (0, 0, hc h a b)
theorem ev_Mean {h : List S31} (hl : h.length ≤ 1000) (a b : Int) : Tl (fun k => haze_Mean.f k h a b) (mc h a b) := by
  unfold haze_Mean.f mc
  refine Tl.bind (ev_hours2 hl a b) ?_
  by_cases hk : hc h a b = 0
  · rw [if_pos hk]
    refine Tl.pos hk ?_
    obtain ⟨ok, ha, hb⟩ := hc_ok hk
    simp only [inn] at ha hb
    by_cases hab : a > b
    · rw [if_pos hab]; exact Tl.pos hab Tl.now
    · rw [if_neg hab]
      refine Tl.neg hab ?_
      have e1 := ev_span ok (a := a.toNat) (b := b.toNat) (by omega) (by omega)
      have e2 := ev_span_mean ok (a := a.toNat) (b := b.toNat) (by omega) (by omega)
      rw [show ((a.toNat : Nat) : Int) = a by omega, show ((b.toNat : Nat) : Int) = b by omega] at e1 e2
      exact Tl.bind e1 (Tl.bind e2 Tl.now)
  · rw [if_neg hk]; exact Tl.neg hk Tl.now
end Go.Proofs.Ytgdhbeccpicdcaa.Me
namespace Go.Proofs.Ytgdhbeccpicdcaa.Ra
open Go.RowKit Go.Proofs.Ytgdhbeccpicdcaa.P Go.Proofs.Ytgdhbeccpicdcaa.E Go.Proofs.Ytgdhbeccpicdcaa.Fr Go.Proofs.Ytgdhbeccpicdcaa.Sd Go.Proofs.Ytgdhbeccpicdcaa.Bl Go.Proofs.Ytgdhbeccpicdcaa.Va Go.Proofs.Ytgdhbeccpicdcaa.Be Go.Proofs.Ytgdhbeccpicdcaa.Kn Go.Proofs.YtgdhbeccpicdcaaW.PrintMore
open Go.Proofs.YtgdhbeccpicdcaaW.PrintWords
theorem rats_loop (l : List S33) (hl : l.length ≤ 1000) (d : Nat) : ∀ i : Nat, i ≤ l.length → l.length - i = d → Tl (fun k => diaphoneref02_SameRats.l0 k l l (i : Int)) true := by
  induction d with
  | zero =>
    intro i h1 h2
    refine Tl.succ ?_
    simp only [diaphoneref02_SameRats.l0]
    exact Tl.neg (by omega) Tl.now
  | succ d ih =>
    intro i h1 h2
    refine Tl.succ ?_
    simp only [diaphoneref02_SameRats.l0]
    refine Tl.pos (by omega) (Tl.pos (by omega) (Tl.pos (by omega) (Tl.neg (by simp) ?_)))
    rw [w64 (by omega) (by omega)]
    exact ih (i + 1) (by omega) (by omega)
theorem ev_SameRats (l : List S33) (hl : l.length ≤ 1000) : Tl (fun k => diaphoneref02_SameRats.f k l l) true := by
  unfold diaphoneref02_SameRats.f
  exact Tl.pos rfl (rats_loop l hl l.length 0 (by omega) (by omega))
/-- What is known of the numbers of a best row. -/
theorem IsBest.num {h : List S31} (ok : Ok h) {l : List S33} (hb : IsBest h l) {i : Nat} (hi : i < l.length) : ∃ v w, 0 ≤ v ∧ v ≤ 10800 ∧ 0 < w ∧ w ≤ 108 ∧ l[i] = rat (Rt v w) ∧ Sad (sv h) (sw h) h.length i v w := by
  obtain ⟨a, b, h1, h2, h3, h4, h5⟩ := hb.2 i hi
  have s := ok.small (show a < b by omega) h3
  exact ⟨_, _, s.2.2.1, s.2.2.2, s.1, s.2.1, h5, h4⟩
theorem copied_eq {l : List S31} (h0 : 0 < l.length) (hl : l.length ≤ 1000) : haze_copied.f l = some l := by
  unfold haze_copied.f
  rw [if_pos h0, if_pos (by omega)]
end Go.Proofs.Ytgdhbeccpicdcaa.Ra
namespace Go.Proofs.Ytgdhbeccpicdcaa.Po
open Go.RowKit Go.Proofs.Ytgdhbeccpicdcaa.P Go.Proofs.Ytgdhbeccpicdcaa.E Go.Proofs.Ytgdhbeccpicdcaa.Fr Go.Proofs.Ytgdhbeccpicdcaa.Sd Go.Proofs.Ytgdhbeccpicdcaa.Bl Go.Proofs.Ytgdhbeccpicdcaa.Va Go.Proofs.Ytgdhbeccpicdcaa.Be Go.Proofs.Ytgdhbeccpicdcaa.Kn Go.Proofs.Ytgdhbeccpicdcaa.Ra Go.Proofs.YtgdhbeccpicdcaaW.PrintMore
open Go.Proofs.YtgdhbeccpicdcaaW.PrintWords
/-- Two readings get the same value. -/
def pl (h : List S31) (i : Nat) (m : Int) : List S31 := (h.set i ⟨m, (rd_T31 h (i : Int)).f1⟩).set (i + 1) ⟨m, (rd_T31 h ((i + 1 : Nat) : Int)).f1⟩
theorem pl_length (h : List S31) (i : Nat) (m : Int) : (pl h i m).length = h.length := by simp [pl]
theorem pl_rd {h : List S31} {i : Nat} (m : Int) {j : Nat} (hj : j < h.length) : rd_T31 (pl h i m) (j : Int) = if j = i ∨ j = i + 1 then ⟨m, (rd_T31 h (j : Int)).f1⟩ else rd_T31 h (j : Int) := by
  rw [rd31 (by rw [pl_length]; exact hj), rd31 hj]
  simp only [pl, List.getElem_set]
  by_cases e1 : i + 1 = j
  · subst e1
    rw [if_pos rfl, if_pos (.inr rfl), rd31 hj]
  · rw [if_neg e1]
    by_cases e2 : i = j
    · subst e2
      rw [if_pos rfl, if_pos (.inl rfl), rd31 hj]
    · rw [if_neg e2, if_neg (by omega)]
theorem pl_ok {h : List S31} (ok : Ok h) {i : Nat} {m : Int} (hm : 0 ≤ m ∧ m ≤ 100) : Ok (pl h i m) := by
  refine ⟨by rw [pl_length]; exact ok.1, by rw [pl_length]; exact ok.2.1, fun j hj => ?_⟩
  rw [pl_length] at hj
  rw [pl_rd m hj]
  have := ok.2.2 j hj
  by_cases c : j = i ∨ j = i + 1
  · rw [if_pos c]
    simp only [rok] at this ⊢
    omega
  · rw [if_neg c]; exact this
theorem pl_sw {h : List S31} {i : Nat} {m : Int} : ∀ x : Nat, x ≤ h.length → sw (pl h i m) x = sw h x := by
  intro x
  induction x with
  | zero => intro _; rfl
  | succ x ih =>
    intro hx
    show sw (pl h i m) x + (rd_T31 (pl h i m) (x : Int)).f1 = sw h x + (rd_T31 h (x : Int)).f1
    rw [ih (by omega), pl_rd m (by omega)]
    by_cases c : x = i ∨ x = i + 1
    · rw [if_pos c]
    · rw [if_neg c]
/-- The sums stay, but for the one between the two. -/
theorem pl_sv {h : List S31} {i : Nat} {m : Int} (hi : i + 1 < h.length) (hm : m * (sw h (i + 2) - sw h i) = sv h (i + 2) - sv h i) :
    ∀ x : Nat, x ≤ h.length → sv (pl h i m) x = if x = i + 1 then sv h i + (sw h (i + 1) - sw h i) * m else sv h x := by
  have s1 : sv h (i + 1) = sv h i + (rd_T31 h (i : Int)).f1 * (rd_T31 h (i : Int)).f0 := rfl
  have s2 : sv h (i + 2) = sv h (i + 1) + (rd_T31 h ((i + 1 : Nat) : Int)).f1 * (rd_T31 h ((i + 1 : Nat) : Int)).f0 := rfl
  have w1 : sw h (i + 1) = sw h i + (rd_T31 h (i : Int)).f1 := rfl
  have w2 : sw h (i + 2) = sw h (i + 1) + (rd_T31 h ((i + 1 : Nat) : Int)).f1 := rfl
  intro x
  induction x with
  | zero => intro _; rw [if_neg (by omega)]; rfl
  | succ x ih =>
    intro hx
    show sv (pl h i m) x + (rd_T31 (pl h i m) (x : Int)).f1 * (rd_T31 (pl h i m) (x : Int)).f0 = _
    rw [ih (by omega), pl_rd m (by omega)]
    by_cases c1 : x = i
    · subst c1
      rw [if_neg (by omega), if_pos (.inl rfl), if_pos rfl]
      show sv h x + (rd_T31 h (x : Int)).f1 * m = _
      rw [w1, show sw h x + (rd_T31 h (x : Int)).f1 - sw h x = (rd_T31 h (x : Int)).f1 by omega]
    · by_cases c2 : x = i + 1
      · subst c2
        rw [if_pos rfl, if_pos (.inr rfl), if_neg (by omega)]
        show sv h i + (sw h (i + 1) - sw h i) * m + (rd_T31 h ((i + 1 : Nat) : Int)).f1 * m = sv h (i + 2)
        have : (sw h (i + 1) - sw h i) * m + (rd_T31 h ((i + 1 : Nat) : Int)).f1 * m = m * (sw h (i + 2) - sw h i) := by
          rw [← Int.add_mul, Int.mul_comm]
          congr 1
          omega
        omega
      · rw [if_neg c2, if_neg (by omega), if_neg (by omega)]
        rfl
theorem Sad.scale {sv sw : Nat → Int} {n i : Nat} {p q p' q' : Int} (h : Sad sv sw n i p q) (hq : 0 < q) (hq' : 0 < q') (e : p * q' = p' * q) : Sad sv sw n i p' q' := by
  obtain ⟨f, t, hf, ht, htn, he, hm⟩ := h
  have key : ∀ x, q * (q' * sv x - p' * sw x) = q' * (q * sv x - p * sw x) := by
    intro x
    rw [Int.mul_sub, Int.mul_sub, ← Int.mul_assoc, ← Int.mul_assoc, ← Int.mul_assoc, ← Int.mul_assoc, Int.mul_comm q q', Int.mul_comm q p', ← e, Int.mul_comm p q']
  refine ⟨f, t, hf, ht, htn, ?_, fun x hx => ?_⟩
  · have h1 := key t
    have h2 := key f
    rw [he, ← h2] at h1
    exact Int.eq_of_mul_eq_mul_left (by omega) h1
  · have h1 := key x
    have h2 := key f
    have h3 := Int.mul_le_mul_of_nonneg_left (hm x hx) (show 0 ≤ q' by omega)
    rw [← h1, ← h2] at h3
    exact Int.le_of_mul_le_mul_left h3 hq
/-- The best row of pooled readings is the best row. -/
theorem pl_best {h : List S31} (ok : Ok h) {i : Nat} {m : Int} (hi : i + 1 < h.length) (hlt : (rd_T31 h (i : Int)).f0 < (rd_T31 h ((i + 1 : Nat) : Int)).f0) (hm : m * (sw h (i + 2) - sw h i) = sv h (i + 2) - sv h i)
    {l : List S33} (hb : IsBest h l) : IsBest (pl h i m) l := by
  have s1 : sv h (i + 1) = sv h i + (rd_T31 h (i : Int)).f1 * (rd_T31 h (i : Int)).f0 := rfl
  have s2 : sv h (i + 2) = sv h (i + 1) + (rd_T31 h ((i + 1 : Nat) : Int)).f1 * (rd_T31 h ((i + 1 : Nat) : Int)).f0 := rfl
  have w1 : sw h (i + 1) = sw h i + (rd_T31 h (i : Int)).f1 := rfl
  have w2 : sw h (i + 2) = sw h (i + 1) + (rd_T31 h ((i + 1 : Nat) : Int)).f1 := rfl
  have r0 := ok.2.2 i (by omega)
  have r1 := ok.2.2 (i + 1) hi
  simp only [rok] at r0 r1
  generalize (rd_T31 h (i : Int)).f1 = a at s1 w1 r0
  generalize (rd_T31 h (i : Int)).f0 = u at s1 hlt r0
  generalize (rd_T31 h ((i + 1 : Nat) : Int)).f1 = b at s2 w2 r1
  generalize (rd_T31 h ((i + 1 : Nat) : Int)).f0 = v at s2 hlt r1
  have hsv := pl_sv (m := m) hi hm
  have hsw := pl_sw (h := h) (i := i) (m := m)
  have hab : m * (a + b) = a * u + b * v := by
    have : sw h (i + 2) - sw h i = a + b := by omega
    rw [this] at hm
    omega
  refine ⟨by rw [pl_length]; exact hb.1, fun j hj => ?_⟩
  have hjn : j < h.length := by rw [← hb.1]; exact hj
  obtain ⟨A, B, hA, hB, hBn, hs, he⟩ := hb.2 j hj
  have sm := ok.small (show A < B by omega) hBn
  obtain ⟨f, t, hf, ht, htn, e1, hmx⟩ := id hs
  generalize hp : sv h B - sv h A = p at hs e1 hmx he sm
  generalize hq : sw h B - sw h A = q at hs e1 hmx he sm
  have hq0 : 0 < q := sm.1
  -- the diagram between the two
  have x1 : (a + b) * (q * (sv h i + a * m) - p * (sw h i + a)) = b * (q * sv h i - p * sw h i) + a * (q * sv h (i + 2) - p * sw h (i + 2)) := by
    have e2 : sv h (i + 2) = sv h i + (a * u + b * v) := by omega
    have e3 : sw h (i + 2) = sw h i + a + b := by omega
    rw [e2, ← hab, e3]
    grind
  have x2 : (a + b) * (q * sv h (i + 1) - p * sw h (i + 1)) + q * (a * b * (v - u)) = b * (q * sv h i - p * sw h i) + a * (q * sv h (i + 2) - p * sw h (i + 2)) := by
    have e2 : sv h (i + 2) = sv h i + a * u + b * v := by omega
    have e3 : sw h (i + 2) = sw h i + a + b := by omega
    rw [e2, e3, s1, w1]
    grind
  have top1 := hmx i (by omega)
  have top2 := hmx (i + 2) (by omega)
  have below : (a + b) * (q * sv h (i + 1) - p * sw h (i + 1)) < (a + b) * (q * sv h f - p * sw h f) := by
    have y1 : b * (q * sv h i - p * sw h i) ≤ b * (q * sv h f - p * sw h f) := Int.mul_le_mul_of_nonneg_left top1 (by omega)
    have y2 : a * (q * sv h (i + 2) - p * sw h (i + 2)) ≤ a * (q * sv h f - p * sw h f) := Int.mul_le_mul_of_nonneg_left top2 (by omega)
    have y3 : 0 < q * (a * b * (v - u)) := Int.mul_pos hq0 (Int.mul_pos (Int.mul_pos (by omega) (by omega)) (by omega))
    rw [Int.add_mul a b (q * sv h f - p * sw h f)]
    omega
  have hf1 : f ≠ i + 1 := by
    intro q1
    rw [q1] at below
    omega
  have ht1 : t ≠ i + 1 := by
    intro q1
    rw [q1] at e1
    rw [e1] at below
    omega
  have hsad : Sad (sv (pl h i m)) (sw (pl h i m)) (pl h i m).length j p q := by
    rw [pl_length]
    refine ⟨f, t, hf, ht, htn, ?_, fun x hx => ?_⟩
    · rw [hsv t htn, hsv f (by omega), if_neg ht1, if_neg hf1, hsw t htn, hsw f (by omega)]
      exact e1
    · rw [hsv x hx, hsv f (by omega), if_neg hf1, hsw x hx, hsw f (by omega)]
      by_cases c : x = i + 1
      · subst c
        rw [if_pos rfl, w1, show sw h i + a - sw h i = a by omega]
        have y1 : b * (q * sv h i - p * sw h i) ≤ b * (q * sv h f - p * sw h f) := Int.mul_le_mul_of_nonneg_left top1 (by omega)
        have y2 : a * (q * sv h (i + 2) - p * sw h (i + 2)) ≤ a * (q * sv h f - p * sw h f) := Int.mul_le_mul_of_nonneg_left top2 (by omega)
        have y4 : (a + b) * (q * (sv h i + a * m) - p * (sw h i + a)) ≤ (a + b) * (q * sv h f - p * sw h f) := by
          rw [x1, Int.add_mul a b (q * sv h f - p * sw h f)]
          omega
        exact Int.le_of_mul_le_mul_left y4 (by omega)
      · rw [if_neg c]
        exact hmx x hx
  have sm2 := ok.small (show f < t by omega) htn
  have hcross : p * (sw h t - sw h f) = (sv h t - sv h f) * q := by
    rw [Int.mul_sub, Int.sub_mul, Int.mul_comm (sv h t) q, Int.mul_comm (sv h f) q]
    omega
  refine ⟨f, t, hf, ht, by rw [pl_length]; exact htn, ?_, ?_⟩
  · rw [hsv t htn, hsv f (by omega), if_neg ht1, if_neg hf1, hsw t htn, hsw f (by omega)]
    exact Sad.scale hsad hq0 sm2.1 hcross
  · rw [he]
    unfold M
    rw [hsv t htn, hsv f (by omega), if_neg ht1, if_neg hf1, hsw t htn, hsw f (by omega), hp, hq]
    congr 1
    exact Rt_eq hq0 sm2.1 hcross
end Go.Proofs.Ytgdhbeccpicdcaa.Po
namespace Go.Proofs.Ytgdhbeccpicdcaa.Be
open Go.RowKit Go.Proofs.Ytgdhbeccpicdcaa.P Go.Proofs.Ytgdhbeccpicdcaa.E Go.Proofs.Ytgdhbeccpicdcaa.Fr Go.Proofs.Ytgdhbeccpicdcaa.Sd Go.Proofs.Ytgdhbeccpicdcaa.Bl Go.Proofs.Ytgdhbeccpicdcaa.Va Go.Proofs.YtgdhbeccpicdcaaW.PrintMore
open Go.Proofs.YtgdhbeccpicdcaaW.PrintWords
/-- The greatest mean from a on to an end behind i (up to place j): t is its end. -/
def Hi (h : List S31) (a i j t : Nat) : Prop := i < t ∧ t ≤ j ∧ ∀ t', i < t' → t' ≤ j → (sv h t' - sv h a) * (sw h t - sw h a) ≤ (sv h t - sv h a) * (sw h t' - sw h a)
/-- What is at most all of the greatest means, and one of them, is the slope of the touching line. -/
theorem minmax {h : List S31} (ok : Ok h) {i f0 t0 a t : Nat} (hs : Sad (sv h) (sw h) h.length i (sv h t0 - sv h f0) (sw h t0 - sw h f0)) (hf0 : f0 ≤ i) (ht0 : i < t0) (ht0' : t0 ≤ h.length) (ha : a ≤ i) (ht : Hi h a i h.length t)
    (hmin : ∀ a', a' ≤ i → ∃ t', Hi h a' i h.length t' ∧ (sv h t - sv h a) * (sw h t' - sw h a') ≤ (sv h t' - sv h a') * (sw h t - sw h a)) : M h a t = M h f0 t0 := by
  obtain ⟨t1, t2, t3⟩ := ht
  obtain ⟨f, b, hf, hb, hb2, he, hm⟩ := hs
  obtain ⟨t', ⟨u1, u2, u3⟩, u4⟩ := hmin f hf
  have s0 := ok.small (show f0 < t0 by omega) ht0'
  have s := ok.small (show a < t by omega) t2
  have s' := ok.small (show f < t' by omega) u2
  have sb := ok.small (show a < b by omega) hb2
  refine Rt_eq s.1 s0.1 ?_
  -- at least
  have k1 := t3 b hb hb2
  have k2 := hm a (by omega)
  have k3 : (sv h t0 - sv h f0) * (sw h b - sw h a) ≤ (sw h t0 - sw h f0) * (sv h b - sv h a) := by grind
  have k4 := mul_le_of_cross (p' := sv h t - sv h a) (q' := sw h t - sw h a) s0.1 s.1 sb.1 k3 (by rw [Int.mul_comm]; exact k1)
  -- at most
  have k5 := hm t' u2
  have k6 : (sw h t0 - sw h f0) * (sv h t' - sv h f) ≤ (sv h t0 - sv h f0) * (sw h t' - sw h f) := by grind
  have k7 := mul_le_of_cross (p := sv h t - sv h a) (q := sw h t - sw h a) (p' := sv h t0 - sv h f0) (q' := sw h t0 - sw h f0) s.1 s0.1 s'.1 (by rw [Int.mul_comm (sw h t - sw h a)]; exact u4) k6
  omega
end Go.Proofs.Ytgdhbeccpicdcaa.Be
namespace Go.Proofs.Ytgdhbeccpicdcaa.Rl
open Go.RowKit Go.Proofs.Ytgdhbeccpicdcaa.P Go.Proofs.Ytgdhbeccpicdcaa.E Go.Proofs.Ytgdhbeccpicdcaa.Fr Go.Proofs.Ytgdhbeccpicdcaa.Sd Go.Proofs.Ytgdhbeccpicdcaa.Bl Go.Proofs.Ytgdhbeccpicdcaa.Va Go.Proofs.Ytgdhbeccpicdcaa.Be Go.Proofs.YtgdhbeccpicdcaaW.PrintMore
open Go.Proofs.YtgdhbeccpicdcaaW.PrintWords
theorem row_at {h : List S31} {l : List (Nat × Nat)} {e : Nat} (hc : Ch (sv h) (sw h) l e) : ∀ b ∈ l, ∀ i, b.1 ≤ i → i < b.2 → (row h l)[i]? = some (rat (M h b.1 b.2)) := by
  induction hc with
  | nil => intro b hb; simp at hb
  | @snoc l a e hc hb hf ih =>
    intro b hb' i h1 h2
    have hlen := row_length hc
    have e1 : row h (l ++ [(a, e)]) = row h l ++ List.replicate (e - a) (rat (M h a e)) := by simp [row]
    rw [e1]
    rcases List.mem_append.1 hb' with h3 | h3
    · have := hc.in b h3
      rw [List.getElem?_append_left (by omega)]
      exact ih b h3 i h1 h2
    · rw [List.mem_singleton.1 h3] at h1 h2 ⊢
      simp only at h1 h2 ⊢
      rw [List.getElem?_append_right (by omega), List.getElem?_replicate, if_pos (by omega)]
/-- A block, as both programs return it. -/
def b59 (h : List S31) (b : Nat × Nat) : S59 := ⟨(b.1 : Int), (b.2 : Int) - 1, rat (M h b.1 b.2)⟩
theorem rd59 {l : List S59} {i : Nat} (hi : i < l.length) : rd_T59 l (i : Int) = l[i] := by
  unfold rd_T59
  rw [Int.toNat_natCast, List.getD_eq_getElem?_getD, List.getElem?_eq_getElem hi]; rfl
theorem rd33' {l : List S33} {i : Nat} {x : S33} (h : l[i]? = some x) : rd_T33 l (i : Int) = x := by
  unfold rd_T33
  rw [Int.toNat_natCast, List.getD_eq_getElem?_getD, h]; rfl
end Go.Proofs.Ytgdhbeccpicdcaa.Rl
namespace Go.Proofs.Ytgdhbeccpicdcaa.Mi
open Go.RowKit Go.Proofs.Ytgdhbeccpicdcaa.P Go.Proofs.Ytgdhbeccpicdcaa.E Go.Proofs.Ytgdhbeccpicdcaa.Fr Go.Proofs.Ytgdhbeccpicdcaa.Sd Go.Proofs.Ytgdhbeccpicdcaa.Bl Go.Proofs.Ytgdhbeccpicdcaa.Va Go.Proofs.Ytgdhbeccpicdcaa.Be Go.Proofs.Ytgdhbeccpicdcaa.Rl Go.Proofs.YtgdhbeccpicdcaaW.PrintMore
open Go.Proofs.YtgdhbeccpicdcaaW.PrintWords
theorem mulb {a b A B : Int} (h1 : 0 ≤ a) (h2 : a ≤ A) (h3 : 0 ≤ b) (h4 : b ≤ B) : 0 ≤ a * b ∧ a * b ≤ A * B :=
  ⟨Int.mul_nonneg h1 h3, Int.mul_le_mul h2 h4 h3 (by omega)⟩
/-- The sums of weight times the square of the value. -/
def sq (h : List S31) : Nat → Int
  | 0 => 0
  | n + 1 => sq h n + (rd_T31 h (n : Int)).f1 * (rd_T31 h (n : Int)).f0 * (rd_T31 h (n : Int)).f0
theorem sq_bd {h : List S31} (ok : Ok h) {a b : Nat} (hab : a ≤ b) (hb : b ≤ h.length) : 0 ≤ sq h b - sq h a ∧ sq h b - sq h a ≤ 90000 * ((b : Int) - a) := by
  induction b with
  | zero => obtain rfl : a = 0 := by omega
            simp
  | succ b ih =>
    rcases Nat.lt_or_ge a (b + 1) with h1 | h1
    · have i := ih (by omega) (by omega)
      have r := ok.2.2 b (by omega)
      simp only [rok] at r
      have m1 := mulb (a := (rd_T31 h (b : Int)).f1) (A := 9) (by omega) (by omega) (b := (rd_T31 h (b : Int)).f0) (B := 100) (by omega) (by omega)
      have m2 := mulb m1.1 m1.2 (b := (rd_T31 h (b : Int)).f0) (B := 100) (by omega) (by omega)
      simp only [sq]
      omega
    · obtain rfl : a = b + 1 := by omega
      simp
theorem dev {h : List S31} (ok : Ok h) (r : Int) {a b : Nat} (hab : a ≤ b) (hb : b ≤ h.length) : 0 ≤ (sq h b - sq h a) - 2 * r * (sv h b - sv h a) + r * r * (sw h b - sw h a) := by
  induction b with
  | zero => obtain rfl : a = 0 := by omega
            simp
  | succ b ih =>
    rcases Nat.lt_or_ge a (b + 1) with h1 | h1
    · have i := ih (by omega) (by omega)
      have q := ok.2.2 b (by omega)
      simp only [rok] at q
      have m1 : 0 ≤ ((rd_T31 h (b : Int)).f0 - r) * ((rd_T31 h (b : Int)).f0 - r) := by
        rcases Int.le_total 0 ((rd_T31 h (b : Int)).f0 - r) with z | z
        · exact Int.mul_nonneg z z
        · exact Int.mul_nonneg_of_nonpos_of_nonpos z z
      have m2 := Int.mul_nonneg (show 0 ≤ (rd_T31 h (b : Int)).f1 by omega) m1
      simp only [sq, sv, sw]
      grind
    · obtain rfl : a = b + 1 := by omega
      simp
theorem cs {h : List S31} (ok : Ok h) {a b : Nat} (hab : a ≤ b) (hb : b ≤ h.length) : (sv h b - sv h a) * (sv h b - sv h a) ≤ (sq h b - sq h a) * (sw h b - sw h a) := by
  induction b with
  | zero => obtain rfl : a = 0 := by omega
            simp
  | succ b ih =>
    rcases Nat.lt_or_ge a (b + 1) with h1 | h1
    · have i := ih (by omega) (by omega)
      have q := ok.2.2 b (by omega)
      simp only [rok] at q
      have m1 := dev ok (rd_T31 h (b : Int)).f0 (show a ≤ b by omega) (show b ≤ h.length by omega)
      have m2 := Int.mul_nonneg (show 0 ≤ (rd_T31 h (b : Int)).f1 by omega) m1
      simp only [sq, sv, sw]
      grind
    · obtain rfl : a = b + 1 := by omega
      simp
theorem nine (k : Nat) (hk : 1 ≤ k) : 9 * (k : Int) ≤ (9 : Int) ^ k := by
  induction k with
  | zero => omega
  | succ k ih =>
    rcases Nat.lt_or_ge 0 k with h1 | h1
    · have := ih h1
      rw [Int.pow_succ]
      omega
    · obtain rfl : k = 0 := by omega
      decide
theorem nine_mono {a b : Nat} (h : a ≤ b) : (9 : Int) ^ a ≤ (9 : Int) ^ b := by
  induction b with
  | zero => obtain rfl : a = 0 := by omega
            exact Int.le_refl _
  | succ b ih =>
    rcases Nat.lt_or_ge a (b + 1) with h1 | h1
    · have := ih (by omega)
      have p : (0 : Int) < 9 ^ b := Int.pow_pos (by decide)
      rw [Int.pow_succ]
      omega
    · obtain rfl : a = b + 1 := by omega
      exact Int.le_refl _
/-- What a block adds. -/
def mb (h : List S31) (b : Nat × Nat) : Int × Int := Rt ((sq h b.2 - sq h b.1) * (sw h b.2 - sw h b.1) - (sv h b.2 - sv h b.1) * (sv h b.2 - sv h b.1)) (sw h b.2 - sw h b.1)
def st (h : List S31) (x : Int × Int) (b : Nat × Nat) : Int × Int := Rt (x.1 * (mb h b).2 + (mb h b).1 * x.2) (x.2 * (mb h b).2)
def mis (h : List S31) (l : List (Nat × Nat)) : Int × Int := l.foldl (st h) (0, 1)
theorem mis_snoc (h : List S31) (l : List (Nat × Nat)) (b : Nat × Nat) : mis h (l ++ [b]) = st h (mis h l) b := by simp [mis]
def Inv (h : List S31) (a : Nat) (x : Int × Int) : Prop := 0 < x.2 ∧ x.2 ≤ 9 ^ a ∧ 0 ≤ x.1 ∧ x.1 ≤ sq h a * x.2
/-- All that is calculated for a block is small. -/
theorem small {h : List S31} (ok : Ok h) {a e : Nat} (hae : a < e) (he : e ≤ h.length) {x : Int × Int} (k : Inv h a x) :
    (0 ≤ (sq h e - sq h a) * (sw h e - sw h a) ∧ (sq h e - sq h a) * (sw h e - sw h a) ≤ 116640000) ∧ (0 ≤ (sv h e - sv h a) * (sv h e - sv h a) ∧ (sv h e - sv h a) * (sv h e - sv h a) ≤ 116640000) ∧
    0 ≤ (sq h e - sq h a) * (sw h e - sw h a) - (sv h e - sv h a) * (sv h e - sv h a) ∧
    (0 ≤ x.1 * (mb h (a, e)).2 ∧ x.1 * (mb h (a, e)).2 ≤ 400000000000000000) ∧ (0 ≤ (mb h (a, e)).1 * x.2 ∧ (mb h (a, e)).1 * x.2 ≤ 400000000000000000) ∧
    (0 < x.2 * (mb h (a, e)).2 ∧ x.2 * (mb h (a, e)).2 ≤ 282429536481) ∧ Inv h e (st h x (a, e)) := by
  have s := ok.small hae he
  have sb := ok.bd (Nat.le_of_lt hae) he
  have hlen := ok.2.1
  have q := sq_bd ok (Nat.le_of_lt hae) he
  have q0 := sq_bd ok (Nat.zero_le a) (show a ≤ h.length by omega)
  have qe := sq_bd ok (Nat.zero_le e) he
  have es : sq h 0 = 0 := rfl
  rw [es] at q0 qe
  have c := cs ok (Nat.le_of_lt hae) he
  obtain ⟨k1, k2, k3, k4⟩ := k
  have m1 := mulb (a := sq h e - sq h a) (A := 1080000) (by omega) (by omega) (b := sw h e - sw h a) (B := 108) (by omega) (by omega)
  have m2 := mulb (a := sv h e - sv h a) (A := 10800) (by omega) (by omega) (b := sv h e - sv h a) (B := 10800) (by omega) (by omega)
  have p1 := Rt_pos (n := (sq h e - sq h a) * (sw h e - sw h a) - (sv h e - sv h a) * (sv h e - sv h a)) s.1
  have p2 := Rt_le (n := (sq h e - sq h a) * (sw h e - sw h a) - (sv h e - sv h a) * (sv h e - sv h a)) s.1
  have p3 := Rt_nonneg (n := (sq h e - sq h a) * (sw h e - sw h a) - (sv h e - sv h a) * (sv h e - sv h a)) (by omega) s.1
  have p4 := Rt_cross (n := (sq h e - sq h a) * (sw h e - sw h a) - (sv h e - sv h a) * (sv h e - sv h a)) s.1
  have em : Rt ((sq h e - sq h a) * (sw h e - sw h a) - (sv h e - sv h a) * (sv h e - sv h a)) (sw h e - sw h a) = mb h (a, e) := rfl
  rw [em] at p1 p2 p3 p4
  have hn : (mb h (a, e)).2 ≤ 9 ^ (e - a) := by
    have := nine (e - a) (by omega)
    omega
  -- the numerator is at most the sum of the squares times the denominator
  have hnum : (mb h (a, e)).1 ≤ (sq h e - sq h a) * (mb h (a, e)).2 := by
    have z := Int.mul_nonneg m2.1 (Int.le_of_lt p1)
    have : (mb h (a, e)).1 * (sw h e - sw h a) ≤ ((sq h e - sq h a) * (mb h (a, e)).2) * (sw h e - sw h a) := by
      rw [p4]
      grind
    exact Int.le_of_mul_le_mul_right this s.1
  have d0 : 0 < x.2 * (mb h (a, e)).2 := Int.mul_pos k1 p1
  have d1 : x.2 * (mb h (a, e)).2 ≤ 9 ^ e := by
    have := (mulb (Int.le_of_lt k1) k2 (Int.le_of_lt p1) hn).2
    rw [← Int.pow_add, show a + (e - a) = e by omega] at this
    exact this
  have d2 : x.2 * (mb h (a, e)).2 ≤ 282429536481 := by
    have := nine_mono (show e ≤ 12 by omega)
    have e12 : (9 : Int) ^ 12 = 282429536481 := by decide
    omega
  have n1 : x.1 * (mb h (a, e)).2 ≤ sq h a * (x.2 * (mb h (a, e)).2) := by
    have := Int.mul_le_mul_of_nonneg_right k4 (Int.le_of_lt p1)
    rw [Int.mul_assoc] at this
    exact this
  have n2 : (mb h (a, e)).1 * x.2 ≤ (sq h e - sq h a) * (x.2 * (mb h (a, e)).2) := by
    have := Int.mul_le_mul_of_nonneg_right hnum (Int.le_of_lt k1)
    grind
  have n3 := Int.mul_nonneg k3 (Int.le_of_lt p1)
  have n4 := Int.mul_nonneg p3 (Int.le_of_lt k1)
  have b1 := mulb (a := sq h a) (A := 1080000) (by omega) (by omega) (Int.le_of_lt d0) d2
  have b2 := mulb (a := sq h e - sq h a) (A := 1080000) (by omega) (by omega) (Int.le_of_lt d0) d2
  refine ⟨by omega, by omega, by omega, by omega, by omega, by omega, ?_⟩
  have N0 : 0 ≤ x.1 * (mb h (a, e)).2 + (mb h (a, e)).1 * x.2 := by omega
  refine ⟨Rt_pos d0, by have := Rt_le (n := x.1 * (mb h (a, e)).2 + (mb h (a, e)).1 * x.2) d0; exact Int.le_trans this d1, Rt_nonneg N0 d0, ?_⟩
  have hc := Rt_cross (n := x.1 * (mb h (a, e)).2 + (mb h (a, e)).1 * x.2) d0
  have hp := Rt_pos (n := x.1 * (mb h (a, e)).2 + (mb h (a, e)).1 * x.2) d0
  have hst : st h x (a, e) = Rt (x.1 * (mb h (a, e)).2 + (mb h (a, e)).1 * x.2) (x.2 * (mb h (a, e)).2) := rfl
  rw [← hst] at hc hp
  have hN : x.1 * (mb h (a, e)).2 + (mb h (a, e)).1 * x.2 ≤ sq h e * (x.2 * (mb h (a, e)).2) := by
    have : sq h e * (x.2 * (mb h (a, e)).2) = sq h a * (x.2 * (mb h (a, e)).2) + (sq h e - sq h a) * (x.2 * (mb h (a, e)).2) := by grind
    omega
  have hN2 := Int.mul_le_mul_of_nonneg_right hN (Int.le_of_lt hp)
  have : (st h x (a, e)).1 * (x.2 * (mb h (a, e)).2) ≤ (sq h e * (st h x (a, e)).2) * (x.2 * (mb h (a, e)).2) := by
    rw [hc]
    grind
  exact Int.le_of_mul_le_mul_right this d0
theorem p_in {h : List S31} (ok : Ok h) {a e : Nat} (hae : a < e) (he : e ≤ h.length) {B : List S75} {z : Int} {n i : Int} {x : Int × Int} {f0 f1 W V : Int} {r : Int × Int × Int} (d : Nat) : ∀ j : Nat, j ≤ e - a → e - a - j = d →
    Tl (fun k => haze_Misfit.l1 k h (sq h e - sq h a) B n i ((h.take e).drop a) ((e - a : Nat) : Int) ((e - a : Nat) : Int) x.1 x.2 f0 f1 W V) r →
    Tl (fun k => haze_Misfit.l1 k h (sq h (a + j) - sq h a) B n i ((h.take e).drop a) ((e - a : Nat) : Int) (j : Int) x.1 x.2 f0 f1 W V) r := by
  have hlen := ok.2.1
  induction d with
  | zero =>
    intro j h1 h2 H
    obtain rfl : j = e - a := by omega
    rw [show a + (e - a) = e by omega]
    exact H
  | succ d ih =>
    intro j h1 h2 H
    have next := ih (j + 1) (by omega) (by omega) H
    have r1 := ok.2.2 (a + j) (by omega)
    simp only [rok] at r1
    have m1 := mulb (a := (rd_T31 h ((a + j : Nat) : Int)).f1) (A := 9) (by omega) (by omega) (b := (rd_T31 h ((a + j : Nat) : Int)).f0) (B := 100) (by omega) (by omega)
    have m2 := mulb m1.1 m1.2 (b := (rd_T31 h ((a + j : Nat) : Int)).f0) (B := 100) (by omega) (by omega)
    have q := sq_bd ok (show a ≤ a + j by omega) (show a + j ≤ h.length by omega)
    have er : rd_T31 ((h.take e).drop a) (j : Int) = rd_T31 h ((a + j : Nat) : Int) := by
      rw [rd31 (by simp; omega), rd31 (by omega)]
      simp
    rw [show ((j + 1 : Nat) : Int) = (j : Int) + 1 by omega, show a + (j + 1) = (a + j) + 1 by omega] at next
    simp only [sq] at next
    refine Tl.succ ?_
    simp only [haze_Misfit.l1]
    rw [er, w64 (x := (rd_T31 h ((a + j : Nat) : Int)).f1 * (rd_T31 h ((a + j : Nat) : Int)).f0) (by omega) (by omega),
      w64 (x := (rd_T31 h ((a + j : Nat) : Int)).f1 * (rd_T31 h ((a + j : Nat) : Int)).f0 * (rd_T31 h ((a + j : Nat) : Int)).f0) (by omega) (by omega), w64 (by omega) (by omega), w64 (x := (j : Int) + 1) (by omega) (by omega)]
    refine Tl.pos (by omega) (Tl.pos (by omega) (Tl.pos (by simp; omega) ?_))
    rw [show sq h (a + j) - sq h a + (rd_T31 h ((a + j : Nat) : Int)).f1 * (rd_T31 h ((a + j : Nat) : Int)).f0 * (rd_T31 h ((a + j : Nat) : Int)).f0 = sq h (a + j) + (rd_T31 h ((a + j : Nat) : Int)).f1 * (rd_T31 h ((a + j : Nat) : Int)).f0 * (rd_T31 h ((a + j : Nat) : Int)).f0 - sq h a by omega]
    exact next
theorem p_ch {h : List S31} (ok : Ok h) {l : List (Nat × Nat)} {a : Nat} (hc : Ch (sv h) (sw h) l a) (ha : a ≤ h.length) : Inv h a (mis h l) ∧ ∀ (rest full : List (Nat × Nat)), full = l ++ rest → full.length ≤ 100 → ∀ r : Int × Int × Int,
    Tl (fun k => haze_Misfit.l0 k h (full.map (bk h)) (full.length : Int) (l.length : Int) (mis h l).1 (mis h l).2) r → Tl (fun k => haze_Misfit.l0 k h (full.map (bk h)) (full.length : Int) 0 0 1) r := by
  induction hc with
  | nil => exact ⟨⟨(by decide : (0 : Int) < 1), (by decide : (1 : Int) ≤ 9 ^ 0), (by decide : (0 : Int) ≤ 0), (by simp [mis, sq] : (mis h []).1 ≤ sq h 0 * (mis h []).2)⟩, fun rest full _ _ r H => H⟩
  | @snoc l a e hc hb hf ih =>
    have hae := hb.1
    have hlen := ok.2.1
    obtain ⟨inv, go⟩ := ih (by omega)
    obtain ⟨s1, s2, s3, s4, s5, s6, s7⟩ := small ok hae ha inv
    have s := ok.small hae ha
    rw [mis_snoc]
    refine ⟨s7, fun rest full hfull hlf r H => ?_⟩
    refine go ((a, e) :: rest) full (by rw [hfull]; simp) hlf r ?_
    have hll : l.length < full.length := by rw [hfull]; simp <;> omega
    have hget : rd_T75 (full.map (bk h)) (l.length : Int) = bk h (a, e) := by
      rw [rd75 (by simpa using hll), List.getElem_map]
      congr 1
      simp [hfull]
    refine Tl.succ ?_
    simp only [haze_Misfit.l0]
    rw [hget]
    have e1 : wrap64 ((bk h (a, e)).f1 + 1) = (e : Int) := by
      simp only [bk]
      rw [w64 (by omega) (by omega)]; omega
    rw [e1]
    refine Tl.pos (by omega) (Tl.pos (by omega) (Tl.pos (by simp; omega) (Tl.pos (by simp only [bk]; omega) (Tl.pos (by simp only [bk]; omega) (Tl.pos (by omega) ?_)))))
    simp only [Option.bind_some, Int.toNat_natCast]
    have eb : ((bk h (a, e)).f0).toNat = a := by simp [bk]
    rw [eb]
    have el : (((h.take e).drop a).length : Int) = ((e - a : Nat) : Int) := by simp; omega
    rw [el]
    have key := p_in ok hae ha (B := full.map (bk h)) (n := (full.length : Int)) (i := (l.length : Int)) (x := mis h l) (f0 := (bk h (a, e)).f0) (f1 := (bk h (a, e)).f1) (W := (bk h (a, e)).f2) (V := (bk h (a, e)).f3) (z := 0) (r := r) (e - a) 0 (by omega) (by omega)
    simp only [Nat.add_zero, Int.sub_self] at key
    refine key (Tl.succ ?_)
    simp only [haze_Misfit.l1]
    refine Tl.neg (by omega) ?_
    simp only [bk]
    rw [w64 (x := (sq h e - sq h a) * (sw h e - sw h a)) (by omega) (by omega), w64 (x := (sv h e - sv h a) * (sv h e - sv h a)) (by omega) (by omega), w64 (x := (sq h e - sq h a) * (sw h e - sw h a) - (sv h e - sv h a) * (sv h e - sv h a)) (by omega) (by omega)]
    refine Tl.bind (ev_ratio s3 (by omega) s.1 (by omega)) ?_
    have em : Rt ((sq h e - sq h a) * (sw h e - sw h a) - (sv h e - sv h a) * (sv h e - sv h a)) (sw h e - sw h a) = mb h (a, e) := rfl
    rw [em]
    have ea : Tl (fun k => haze_add.f k (mis h l).1 (mis h l).2 (mb h (a, e)).1 (mb h (a, e)).2) (st h (mis h l) (a, e)) := by
      unfold haze_add.f
      rw [w64 (x := (mis h l).1 * (mb h (a, e)).2) (by omega) (by omega), w64 (x := (mb h (a, e)).1 * (mis h l).2) (by omega) (by omega), w64 (x := (mis h l).1 * (mb h (a, e)).2 + (mb h (a, e)).1 * (mis h l).2) (by omega) (by omega), w64 (x := (mis h l).2 * (mb h (a, e)).2) (by omega) (by omega)]
      exact Tl.bind (ev_ratio (by omega) (by omega) (by omega) (by omega)) Tl.now
    refine Tl.bind ea ?_
    rw [w64 (x := (l.length : Int) + 1) (by omega) (by omega)]
    simpa using H
theorem ev_Misfit {h : List S31} (ok : Ok h) {l : List (Nat × Nat)} (hc : Ch (sv h) (sw h) l h.length) (hb : Tl (fun k => haze_blocks.f k h) (l.map (bk h))) : Tl (fun k => haze_Misfit.f k h) ((mis h l).1, (mis h l).2, 0) := by
  have hlen := ok.2.1
  have hll := Ch.len hc
  unfold haze_Misfit.f
  refine Tl.bind (ev_Validate (by omega)) (Tl.pos (vc_ok.2 ok) (Tl.bind (ev_ratio (n := 0) (d := 1) (by decide) (by decide) (by decide) (by decide)) (Tl.bind hb ?_)))
  have e0 : Rt 0 1 = (0, 1) := by decide
  rw [e0, List.length_map]
  refine (p_ch ok hc (by omega)).2 [] l (by simp) (by omega) _ (Tl.succ ?_)
  simp only [haze_Misfit.l0]
  exact Tl.neg (by omega) Tl.now
end Go.Proofs.Ytgdhbeccpicdcaa.Mi
namespace Go.Proofs.Ytgdhbeccpicdcaa.Pure
open Go.RowKit Go.Proofs.Ytgdhbeccpicdcaa.P Go.Proofs.Ytgdhbeccpicdcaa.E Go.Proofs.Ytgdhbeccpicdcaa.Fr Go.Proofs.Ytgdhbeccpicdcaa.Sd Go.Proofs.Ytgdhbeccpicdcaa.Bl Go.Proofs.Ytgdhbeccpicdcaa.Va Go.Proofs.Ytgdhbeccpicdcaa.Be Go.Proofs.Ytgdhbeccpicdcaa.Kn Go.Proofs.Ytgdhbeccpicdcaa.Ra Go.Proofs.Ytgdhbeccpicdcaa.Rl Go.Proofs.Ytgdhbeccpicdcaa.Mi Go.Proofs.YtgdhbeccpicdcaaW.PrintMore
open Go.Proofs.YtgdhbeccpicdcaaW.PrintWords
namespace Nea
/-- The misfit of a row. -/
def ss (h : List S31) (r : List Int) : Nat → Int
  | 0 => 0
  | n + 1 => ss h r n + (rd_T31 h (n : Int)).f1 * ((rd_T31 h (n : Int)).f0 - rd r (n : Int)) * ((rd_T31 h (n : Int)).f0 - rd r (n : Int))
def Fal (r : List Int) (n : Nat) : Prop := ∀ i, i + 1 < n → rd r ((i + 1 : Nat) : Int) ≤ rd r (i : Int)
/-- Within a block: hour by hour. -/
theorem abel {h : List S31} (ok : Ok h) {r : List Int} {a e : Nat} (hb : Blk (sv h) (sw h) a e) (he : e ≤ h.length) (hf : Fal r e) (x : Nat) : ∀ y : Nat, y = a + x + 1 → y ≤ e →
    2 * ((sw h e - sw h a) * (sv h y - sv h a) - (sv h e - sv h a) * (sw h y - sw h a)) * ((sv h e - sv h a) - (sw h e - sw h a) * rd r ((a + x : Nat) : Int)) ≤
    (sw h e - sw h a) * (sw h e - sw h a) * (ss h r y - ss h r a) - ((sw h e - sw h a) * (sw h e - sw h a) * (sq h y - sq h a) - 2 * (sw h e - sw h a) * (sv h e - sv h a) * (sv h y - sv h a) + (sv h e - sv h a) * (sv h e - sv h a) * (sw h y - sw h a)) := by
  generalize hW : sw h e - sw h a = W
  generalize hV : sv h e - sv h a = V
  have sqn : ∀ z : Int, 0 ≤ z * z := fun z => by
    rcases Int.le_total 0 z with q | q
    · exact Int.mul_nonneg q q
    · exact Int.mul_nonneg_of_nonpos_of_nonpos q q
  induction x with
  | zero =>
    intro y hy hye
    subst hy
    have q := ok.2.2 a (by have := hb.1; omega)
    simp only [rok] at q
    have m := Int.mul_nonneg (show 0 ≤ (rd_T31 h (a : Int)).f1 by omega) (sqn (V - W * rd r (a : Int)))
    simp only [Nat.add_zero, ss, sq, sv, sw]
    generalize (rd_T31 h (a : Int)).f0 = v at *
    generalize (rd_T31 h (a : Int)).f1 = w at *
    generalize rd r (a : Int) = p at *
    grind
  | succ x ih =>
    intro y hy hye
    subst hy
    have i := ih (a + x + 1) rfl (by omega)
    have q := ok.2.2 (a + x + 1) (by omega)
    simp only [rok] at q
    have m := Int.mul_nonneg (show 0 ≤ (rd_T31 h ((a + x + 1 : Nat) : Int)).f1 by omega) (sqn (V - W * rd r ((a + x + 1 : Nat) : Int)))
    have hA := hb.2 (a + x + 1) (by omega) (by omega)
    rw [hW, hV] at hA
    have hr := hf (a + x) (by omega)
    have hWp : 0 < W := by have := (ok.small hb.1 he).1; omega
    have m2 : 0 ≤ ((V * (sw h (a + x + 1) - sw h a) - W * (sv h (a + x + 1) - sv h a)) * W) * (rd r ((a + x : Nat) : Int) - rd r ((a + x + 1 : Nat) : Int)) := Int.mul_nonneg (Int.mul_nonneg (by omega) (by omega)) (by omega)
    rw [show a + (x + 1) = a + x + 1 by omega]
    generalize a + x + 1 = y0 at *
    simp only [ss, sq, sv, sw]
    generalize (rd_T31 h (y0 : Int)).f0 = v at *
    generalize (rd_T31 h (y0 : Int)).f1 = w at *
    generalize rd r (y0 : Int) = p at *
    generalize rd r ((a + x : Nat) : Int) = p0 at *
    generalize sv h y0 = S1 at *
    generalize sw h y0 = S2 at *
    generalize sq h y0 = S3 at *
    generalize ss h r y0 = S4 at *
    clear ih hA hr hb hf hye hV hW
    generalize sv h a = T1 at *
    generalize sw h a = T2 at *
    generalize sq h a = T3 at *
    generalize ss h r a = T4 at *
    grind
theorem block {h : List S31} (ok : Ok h) {r : List Int} {a e : Nat} (hb : Blk (sv h) (sw h) a e) (he : e ≤ h.length) (hf : Fal r e) :
    (sq h e - sq h a) * (sw h e - sw h a) - (sv h e - sv h a) * (sv h e - sv h a) ≤ (ss h r e - ss h r a) * (sw h e - sw h a) := by
  have hae := hb.1
  have k := abel ok hb he hf (e - a - 1) e (by omega) (Nat.le_refl _)
  have s := (ok.small hb.1 he).1
  generalize sw h e - sw h a = W at *
  generalize sv h e - sv h a = V at *
  generalize sq h e - sq h a = Q at *
  generalize ss h r e - ss h r a = S at *
  generalize rd r ((a + (e - a - 1) : Nat) : Int) = p at *
  have k2 : (Q * W - V * V) * W ≤ (S * W) * W := by grind
  exact Int.le_of_mul_le_mul_right k2 s
theorem near {h : List S31} (ok : Ok h) {r : List Int} {l : List (Nat × Nat)} {a : Nat} (hc : Ch (sv h) (sw h) l a) (ha : a ≤ h.length) (hf : Fal r a) : Mi.Inv h a (mis h l) ∧ (mis h l).1 ≤ ss h r a * (mis h l).2 := by
  induction hc with
  | nil => exact ⟨⟨(by decide : (0 : Int) < 1), (by decide : (1 : Int) ≤ 9 ^ 0), (by decide : (0 : Int) ≤ 0), (by simp [mis, sq] : (mis h []).1 ≤ sq h 0 * (mis h []).2)⟩, by simp [mis, ss]⟩
  | @snoc l a e hc hb hf' ih =>
    have hae := hb.1
    obtain ⟨inv, i⟩ := ih (by omega) (fun i hi => hf i (by omega))
    obtain ⟨s1, s2, s3, s4, s5, s6, s7⟩ := small ok hae ha inv
    rw [mis_snoc]
    refine ⟨s7, ?_⟩
    have s := ok.small hae ha
    have b := block ok hb ha hf
    have p1 := Rt_pos (n := (sq h e - sq h a) * (sw h e - sw h a) - (sv h e - sv h a) * (sv h e - sv h a)) s.1
    have p4 := Rt_cross (n := (sq h e - sq h a) * (sw h e - sw h a) - (sv h e - sv h a) * (sv h e - sv h a)) s.1
    have em : Rt ((sq h e - sq h a) * (sw h e - sw h a) - (sv h e - sv h a) * (sv h e - sv h a)) (sw h e - sw h a) = mb h (a, e) := rfl
    rw [em] at p1 p4
    have hnum : (mb h (a, e)).1 ≤ (ss h r e - ss h r a) * (mb h (a, e)).2 := by
      have z := Int.mul_le_mul_of_nonneg_right b (Int.le_of_lt p1)
      have : (mb h (a, e)).1 * (sw h e - sw h a) ≤ ((ss h r e - ss h r a) * (mb h (a, e)).2) * (sw h e - sw h a) := by
        rw [p4]
        refine Int.le_trans z (Int.le_of_eq ?_)
        grind
      exact Int.le_of_mul_le_mul_right this s.1
    have d0 := s6.1
    have n1 := Int.mul_le_mul_of_nonneg_right i (Int.le_of_lt p1)
    have n2 := Int.mul_le_mul_of_nonneg_right hnum (Int.le_of_lt inv.1)
    have hc := Rt_cross (n := (mis h l).1 * (mb h (a, e)).2 + (mb h (a, e)).1 * (mis h l).2) d0
    have hp := Rt_pos (n := (mis h l).1 * (mb h (a, e)).2 + (mb h (a, e)).1 * (mis h l).2) d0
    have hst : st h (mis h l) (a, e) = Rt ((mis h l).1 * (mb h (a, e)).2 + (mb h (a, e)).1 * (mis h l).2) ((mis h l).2 * (mb h (a, e)).2) := rfl
    rw [← hst] at hc hp
    have hN : (mis h l).1 * (mb h (a, e)).2 + (mb h (a, e)).1 * (mis h l).2 ≤ ss h r e * ((mis h l).2 * (mb h (a, e)).2) := by
      have : ss h r e * ((mis h l).2 * (mb h (a, e)).2) = ss h r a * (mis h l).2 * (mb h (a, e)).2 + (ss h r e - ss h r a) * (mb h (a, e)).2 * (mis h l).2 := by grind
      omega
    have hN2 := Int.mul_le_mul_of_nonneg_right hN (Int.le_of_lt hp)
    have : (st h (mis h l) (a, e)).1 * ((mis h l).2 * (mb h (a, e)).2) ≤ (ss h r e * (st h (mis h l) (a, e)).2) * ((mis h l).2 * (mb h (a, e)).2) := by
      rw [hc]
      refine Int.le_trans hN2 (Int.le_of_eq ?_)
      grind
    exact Int.le_of_mul_le_mul_right this d0
end Nea
open Nea
end Go.Proofs.Ytgdhbeccpicdcaa.Pure
namespace Go.Proofs.Ytgdhbeccpicdcaa.Pure
open Go.RowKit Go.Proofs.Ytgdhbeccpicdcaa.P Go.Proofs.Ytgdhbeccpicdcaa.E Go.Proofs.Ytgdhbeccpicdcaa.Fr Go.Proofs.Ytgdhbeccpicdcaa.Sd Go.Proofs.Ytgdhbeccpicdcaa.Bl Go.Proofs.Ytgdhbeccpicdcaa.Va Go.Proofs.Ytgdhbeccpicdcaa.Be Go.Proofs.Ytgdhbeccpicdcaa.Kn Go.Proofs.Ytgdhbeccpicdcaa.Ra Go.Proofs.Ytgdhbeccpicdcaa.Be Go.Proofs.Ytgdhbeccpicdcaa.Me Go.Proofs.Ytgdhbeccpicdcaa.Po Go.Proofs.YtgdhbeccpicdcaaW.PrintMore
open Go.Proofs.YtgdhbeccpicdcaaW.PrintWords
namespace Pool
/-- The pooled readings, or the error. -/
def pa (h : List S31) (a : Int) : List S31 × Int :=
  if hc h a a = 0 then (if a = (h.length : Int) - 1 then ([], 4) else (if (rd_T31 h a).f0 ≥ (rd_T31 h (a + 1)).f0 then ([], 6) else (if (M h a.toNat (a.toNat + 2)).2 = 1 then (pl h a.toNat (M h a.toNat (a.toNat + 2)).1, 0) else ([], 1))))
  else ([], hc h a a)
theorem set_pl {h : List S31} {i : Nat} (hi : i + 1 < h.length) (m : Int) : (h.set i ⟨m, (rd_T31 h (i : Int)).f1⟩).set (i + 1) ⟨m, (rd_T31 (h.set i ⟨m, (rd_T31 h (i : Int)).f1⟩) ((i : Int) + 1)).f1⟩ = pl h i m := by
  unfold pl
  congr 2
  rw [show ((i : Int) + 1) = ((i + 1 : Nat) : Int) by omega, rd31 (h := h.set i _) (i := i + 1) (by rw [List.length_set]; exact hi), rd31 hi, List.getElem_set, if_neg (by omega)]
theorem ev_Pool {h : List S31} (hl : h.length ≤ 100) (a : Int) : Tl (fun k => haze_Pool.f k h a) (pa h a) := by
  unfold haze_Pool.f
  refine Tl.bind (ev_hours1 (by omega) a) ?_
  by_cases hk : hc h a a = 0
  · obtain ⟨ok, ha, _⟩ := hc_ok hk
    simp only [inn] at ha
    obtain ⟨i, rfl⟩ := Int.eq_ofNat_of_zero_le ha.1
    have hi : i < h.length := by omega
    refine Tl.pos hk ?_
    rw [w64 (x := (h.length : Int) - 1) (by omega) (by omega), w64 (x := (i : Int) + 1) (by omega) (by omega)]
    by_cases h1 : (i : Int) = (h.length : Int) - 1
    · exact Tl.to (Tl.pos h1 Tl.now) (by rw [pa, if_pos hk, if_pos h1])
    · refine Tl.neg h1 (Tl.pos (by omega) (Tl.pos (by omega) (Tl.pos (by omega) (Tl.pos (by omega) ?_))))
      by_cases h2 : (rd_T31 h (i : Int)).f0 ≥ (rd_T31 h ((i : Int) + 1)).f0
      · exact Tl.to (Tl.pos h2 Tl.now) (by simp only [pa, if_pos hk, if_neg h1, if_pos h2])
      · have q1 := ev_span ok (a := i) (b := i + 1) (by omega) (by omega)
        have q2 := ev_span_mean ok (a := i) (b := i + 1) (by omega) (by omega)
        rw [show ((i + 1 : Nat) : Int) = (i : Int) + 1 by omega] at q1 q2
        refine Tl.neg h2 (Tl.bind q1 (Tl.bind q2 ?_))
        by_cases h3 : (M h i (i + 2)).2 = 1
        · have e : pa h (i : Int) = (pl h i (M h i (i + 2)).1, 0) := by
            simp only [pa, if_pos hk, if_neg h1, if_neg h2, Int.toNat_natCast, if_pos h3]
          rw [e]
          refine Tl.pos h3 ?_
          simp only [copied_eq (show 0 < h.length by omega) (show h.length ≤ 1000 by omega), Option.bind_some]
          refine Tl.pos (by omega) (Tl.pos (by omega) ?_)
          rw [Int.toNat_natCast, show ((i : Int) + 1).toNat = i + 1 by omega, set_pl (by omega)]
          exact Tl.now
        · have e : pa h (i : Int) = ([], 1) := by
            simp only [pa, if_pos hk, if_neg h1, if_neg h2, Int.toNat_natCast, if_neg h3]
          rw [e]
          exact Tl.neg h3 Tl.now
  · exact Tl.to (Tl.neg hk Tl.now) (by simp [pa, hk])
end Pool
open Pool
end Go.Proofs.Ytgdhbeccpicdcaa.Pure
