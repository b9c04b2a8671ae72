/- Words for the plain laws: a function with rounds comes to a value, from some number of rounds on. -/
import Derived.Test.YtboefcikdfjfmaaWWords
import Derived.Test.YtboefcikdfjfmaaWMore
import Derived.Test.YtboefcikdfjfmaaPx1
import Derived.Test.YtboefcikdfjfmaaPx8
import Derived.Test.YtboefcikdfjfmaaPx2
import Derived.Test.YtboefcikdfjfmaaPx7
import Derived.Test.YtboefcikdfjfmaaPx2
import Derived.Test.YtboefcikdfjfmaaPx1
set_option linter.unusedVariables false
namespace Go.Proofs.Ytboefcikdfjfmaa.E
open Go.RowKit Go.Proofs.YtboefcikdfjfmaaW.PrintWords Go.Proofs.YtboefcikdfjfmaaW.PrintMore

/-- From some number of rounds on, g answers r. -/
def Tl {α : Type} (g : Nat → Option α) (r : α) : Prop := ∃ K, ∀ k, K ≤ k → g k = some r
theorem Tl.now {α : Type} {r : α} : Tl (fun _ => some r) r := ⟨0, fun _ _ => rfl⟩
theorem Tl.of {α : Type} {o : Option α} {r : α} (h : o = some r) : Tl (fun _ => o) r := ⟨0, fun _ _ => h⟩
theorem Tl.mono {α : Type} {g : Nat → Option α} {r : α} (hm : ∀ k, LeO (g k) (g (k + 1))) (k : Nat) (h : g k = some r) : Tl g r := ⟨k, fun _ hk => at_rounds hm hk h⟩
theorem Tl.succ {α : Type} {g : Nat → Option α} {r : α} (h : Tl (fun k => g (k + 1)) r) : Tl g r := by
  obtain ⟨K, hK⟩ := h
  refine ⟨K + 1, fun k hk => ?_⟩
  obtain ⟨m, rfl⟩ : ∃ m, k = m + 1 := ⟨k - 1, by omega⟩
  exact hK m (by omega)
theorem Tl.bind {α β : Type} {g : Nat → Option α} {f : Nat → α → Option β} {a : α} {r : β} (h : Tl g a) (hf : Tl (fun k => f k a) r) : Tl (fun k => (g k).bind (f k)) r := by
  obtain ⟨K, hK⟩ := h
  obtain ⟨L, hL⟩ := hf
  refine ⟨max K L, fun k hk => ?_⟩
  show (g k).bind (f k) = some r
  rw [hK k (by omega)]
  exact hL k (by omega)
theorem Tl.bind' {α β : Type} {o : Option α} {f : Nat → α → Option β} {a : α} {r : β} (h : o = some a) (hf : Tl (fun k => f k a) r) : Tl (fun k => o.bind (f k)) r := by
  rw [h]; exact hf
theorem Tl.congr {α : Type} {g g' : Nat → Option α} {r : α} (h : Tl g r) (e : ∀ k, g' k = g k) : Tl g' r := by
  obtain ⟨K, hK⟩ := h
  exact ⟨K, fun k hk => (e k).trans (hK k hk)⟩
theorem Tl.to {α : Type} {g : Nat → Option α} {r r' : α} (h : Tl g r) (e : r = r') : Tl g r' := e ▸ h
theorem Tl.ex {α : Type} {g : Nat → Option α} {r : α} (h : Tl g r) : ∃ k, g k = some r := by
  obtain ⟨K, hK⟩ := h
  exact ⟨K, hK K (Nat.le_refl _)⟩
theorem Tl.pos {α : Type} {c : Prop} [Decidable c] {g g' : Nat → Option α} {r : α} (hc : c) (h : Tl g r) : Tl (fun k => if c then g k else g' k) r := by
  simpa only [if_pos hc] using h
theorem Tl.neg {α : Type} {c : Prop} [Decidable c] {g g' : Nat → Option α} {r : α} (hc : ¬ c) (h : Tl g' r) : Tl (fun k => if c then g k else g' k) r := by
  simpa only [if_neg hc] using h
theorem Tl.ite {α : Type} {c : Prop} [Decidable c] {g g' : Nat → Option α} {r r' : α} (h : c → Tl g r) (h' : ¬ c → Tl g' r') : Tl (fun k => if c then g k else g' k) (if c then r else r') := by
  by_cases hc : c
  · simpa only [if_pos hc] using h hc
  · simpa only [if_neg hc] using h' hc

theorem w64 {x : Int} (h1 : -9223372036854775808 ≤ x) (h2 : x < 9223372036854775808) : wrap64 x = x := by
  unfold wrap64
  omega
theorem wf64 {x : Int} (h : (Lit.int .i64 x).wf = true) : -9223372036854775808 ≤ x ∧ x < 9223372036854775808 := by
  simp only [Lit.wf, IntKind.min, IntKind.max, IntKind.signed, IntKind.bits, Bool.and_eq_true, decide_eq_true_eq, if_true] at h
  omega
theorem mx_eq (a b : Int) : mx a b = max a b := by unfold mx; omega
theorem mn_eq (a b : Int) : mn a b = min a b := by unfold mn; omega
theorem rd_nat (xs : List Int) (i : Nat) : rd xs (i : Int) = xs.getD i 0 := by simp [rd]
theorem rd_lt {xs : List Int} {i : Nat} (h : i < xs.length) : rd xs (i : Int) = xs[i] := by rw [rd_nat, List.getD_eq_getElem?_getD, List.getElem?_eq_getElem h]; rfl
end Go.Proofs.Ytboefcikdfjfmaa.E
/- The plans of a task: sums, lots, prices; what no plan undercuts, and what a plan reaches. -/
set_option linter.unusedVariables false
namespace Go.Proofs.Ytboefcikdfjfmaa.Am

/-- The sum over the numbers from s up to, but without, n. -/
def sm (f : Nat → Int) (s : Nat) : Nat → Int
  | 0 => 0
  | n + 1 => sm f s n + (if s ≤ n then f n else 0)
theorem sm_le {f : Nat → Int} {s n : Nat} (h : n ≤ s) : sm f s n = 0 := by
  induction n with
  | zero => rfl
  | succ n ih => rw [sm, ih (by omega), if_neg (by omega)]; rfl
theorem sm_succ {f : Nat → Int} {s n : Nat} (h : s ≤ n) : sm f s (n + 1) = sm f s n + f n := by rw [sm, if_pos h]
theorem sm_split {f : Nat → Int} {s m : Nat} (h : s ≤ m) (n : Nat) (hn : m ≤ n) : sm f s n = sm f s m + sm f m n := by
  induction n with
  | zero => obtain rfl : m = 0 := by omega
            simp [sm]
  | succ n ih =>
    rcases Nat.lt_or_ge n m with c | c
    · obtain rfl : m = n + 1 := by omega
      rw [sm_le (f := f) (s := n + 1) (Nat.le_refl _)]; omega
    · rw [sm_succ (by omega), sm_succ c, ih c]; omega
theorem sm_mono {f g : Nat → Int} {s n : Nat} (h : ∀ i, s ≤ i → i < n → f i ≤ g i) : sm f s n ≤ sm g s n := by
  induction n with
  | zero => exact Int.le_refl _
  | succ n ih =>
    have := ih (fun i h1 h2 => h i h1 (by omega))
    rw [sm, sm]
    by_cases c : s ≤ n
    · rw [if_pos c, if_pos c]; have := h n c (by omega); omega
    · rw [if_neg c, if_neg c]; omega
theorem sm_congr {f g : Nat → Int} {s n : Nat} (h : ∀ i, s ≤ i → i < n → f i = g i) : sm f s n = sm g s n :=
  Int.le_antisymm (sm_mono (fun i h1 h2 => Int.le_of_eq (h i h1 h2))) (sm_mono (fun i h1 h2 => Int.le_of_eq (h i h1 h2).symm))
theorem sm_zero (s n : Nat) : sm (fun _ => 0) s n = 0 := by
  induction n with
  | zero => rfl
  | succ n ih => rw [sm, ih]; split <;> rfl
theorem sm_nonneg {f : Nat → Int} {s n : Nat} (h : ∀ i, s ≤ i → i < n → 0 ≤ f i) : 0 ≤ sm f s n := by
  have := sm_mono (f := fun _ => 0) (g := f) h
  rwa [sm_zero] at this
theorem sm_add (f g : Nat → Int) (s n : Nat) : sm (fun i => f i + g i) s n = sm f s n + sm g s n := by
  induction n with
  | zero => rfl
  | succ n ih => rw [sm, sm, sm, ih]; by_cases c : s ≤ n <;> simp [c] <;> omega
theorem sm_sub (f g : Nat → Int) (s n : Nat) : sm (fun i => f i - g i) s n = sm f s n - sm g s n := by
  induction n with
  | zero => rfl
  | succ n ih => rw [sm, sm, sm, ih]; by_cases c : s ≤ n <;> simp [c] <;> omega
theorem sm_mul (b : Int) (f : Nat → Int) (s n : Nat) : sm (fun i => b * f i) s n = b * sm f s n := by
  induction n with
  | zero => simp [sm]
  | succ n ih => rw [sm, sm, ih, Int.mul_add]; by_cases c : s ≤ n <;> simp [c]
theorem sm_bump {f g : Nat → Int} {n s0 : Nat} {e : Int} (h : ∀ i, i < n → g i ≤ f i) (hs : s0 < n) (he : g s0 + e ≤ f s0) : sm g 0 n + e ≤ sm f 0 n := by
  induction n with
  | zero => omega
  | succ n ih =>
    rw [sm_succ (Nat.zero_le _), sm_succ (Nat.zero_le _)]
    rcases Nat.lt_or_ge s0 n with c | c
    · have := ih (fun i hi => h i (by omega)) c
      have := h n (by omega)
      omega
    · obtain rfl : s0 = n := by omega
      have := sm_mono (f := g) (g := f) (s := 0) (n := s0) (fun i _ hi => h i (by omega))
      omega
theorem sm_single (s n : Nat) (v : Int) : sm (fun i => if i = s then v else 0) 0 n = if s < n then v else 0 := by
  induction n with
  | zero => simp [sm]
  | succ n ih =>
    rw [sm_succ (Nat.zero_le _), ih]
    by_cases c : n = s
    · subst c; simp
    · rw [if_neg c]
      by_cases c2 : s < n
      · rw [if_pos c2, if_pos (by omega)]; omega
      · rw [if_neg c2, if_neg (by omega)]; omega
theorem sm_between (s k n : Nat) (v : Int) (h : s ≤ k) (hk : k ≤ n) : sm (fun i => if s ≤ i ∧ i < k then v else 0) 0 n = v * ((k : Int) - s) := by
  have key : ∀ m : Nat, sm (fun i => if s ≤ i ∧ i < k then v else 0) 0 m = v * ((min k (max s m) : Nat) - (s : Int)) := by
    intro m
    induction m with
    | zero => rw [show min k (max s 0) = s by omega]; simp [sm]
    | succ m ih =>
      rw [sm_succ (Nat.zero_le _), ih]
      by_cases c : s ≤ m ∧ m < k
      · rw [if_pos c, show min k (max s (m + 1)) = m + 1 by omega, show min k (max s m) = m by omega]
        have : ((m + 1 : Nat) : Int) - s = ((m : Int) - s) + 1 := by omega
        rw [this, Int.mul_add, Int.mul_one]
      · rw [if_neg c, show min k (max s (m + 1)) = min k (max s m) by omega]; omega
  rw [key, show min k (max s n) = k by omega]

/-- What a unit costs that is pumped in s for t. -/
def way (h : Int) (c : Nat → Int) (s t : Nat) : Int := c s + h * ((t : Int) - s)
theorem way_self (h : Int) (c : Nat → Int) (t : Nat) : way h c t t = c t := by simp [way]
theorem way_move (h : Int) (c : Nat → Int) (s t u : Nat) : way h c s u = way h c s t + h * ((u : Int) - t) := by
  unfold way
  have : (u : Int) - s = ((t : Int) - s) + ((u : Int) - t) := by omega
  rw [this, Int.mul_add]; omega
theorem way_nonneg {h : Int} {c : Nat → Int} {s t : Nat} (hh : 0 ≤ h) (hc : 0 ≤ c s) (hs : s ≤ t) : 0 ≤ way h c s t := by
  unfold way
  have := Int.mul_nonneg hh (show (0 : Int) ≤ (t : Int) - s by omega)
  omega
/-- The amount and the cost of a lot. -/
def lot (S h : Int) (c d : Nat → Int) (s n : Nat) : Int := sm (fun i => d i * way h c s i) s n + (if 0 < sm d s n then S else 0)
/-- What is told of the least costs of the first hours. -/
def IsF (S h : Int) (c d : Nat → Int) (N : Nat) (F : Nat → Int) : Prop :=
  F 0 = 0 ∧ ∀ n, 1 ≤ n → n ≤ N → (∀ s, s < n → F n ≤ F s + lot S h c d s n) ∧ ∃ s, s < n ∧ F n = F s + lot S h c d s n
/-- What the prices are above the needs, from an hour on. -/
def ab (h : Int) (c d p : Nat → Int) (s n : Nat) : Int := sm (fun t => max 0 (p t - d t * way h c s t)) s n
/-- The prices that are raised as far as all starts allow. -/
def IsP (S h : Int) (c d : Nat → Int) (N : Nat) (p : Nat → Int) : Prop :=
  ∀ n, n < N → (d n = 0 → p n = 0) ∧ (d n ≠ 0 → (∀ s, s ≤ n → p n ≤ d n * way h c s n + S - ab h c d p s n) ∧ ∃ s, s ≤ n ∧ p n = d n * way h c s n + S - ab h c d p s n)
structure Rt (S h : Int) (c d : Nat → Int) (N : Nat) : Prop where
  S0 : 0 ≤ S
  h0 : 0 ≤ h
  c0 : ∀ i, i < N → 0 ≤ c i
  d0 : ∀ i, i < N → 0 ≤ d i
theorem Rt.le {S h : Int} {c d : Nat → Int} {N n : Nat} (r : Rt S h c d N) (hn : n ≤ N) : Rt S h c d n := ⟨r.S0, r.h0, fun i hi => r.c0 i (by omega), fun i hi => r.d0 i (by omega)⟩
variable {S h : Int} {c d : Nat → Int} {N : Nat} {F p : Nat → Int}
theorem ab_succ {q : Nat → Int} {s n : Nat} (hs : s ≤ n) : ab h c d q s (n + 1) = ab h c d q s n + max 0 (q n - d n * way h c s n) := sm_succ hs
theorem ab_le {q : Nat → Int} {s m n : Nat} (hm : m ≤ n) : ab h c d q s m ≤ ab h c d q s n := by
  rcases Nat.lt_or_ge s m with c1 | c1
  · unfold ab
    rw [sm_split (by omega) n hm]
    have := sm_nonneg (f := fun t => max 0 (q t - d t * way h c s t)) (s := m) (n := n) (fun i _ _ => by omega)
    omega
  · unfold ab
    rw [sm_le c1]
    exact sm_nonneg (fun i _ _ => by omega)
theorem ab_nonneg {q : Nat → Int} (s n : Nat) : 0 ≤ ab h c d q s n := sm_nonneg (fun i _ _ => by omega)
theorem feas (r : Rt S h c d N) (hp : IsP S h c d N p) : ∀ n, n ≤ N → ∀ s, ab h c d p s n ≤ S := by
  intro n
  induction n with
  | zero => intro _ s; exact r.S0
  | succ n ih =>
    intro hn s
    rcases Nat.lt_or_ge n s with c1 | c1
    · unfold ab; rw [sm_le (by omega)]; exact r.S0
    · rw [ab_succ c1]
      have := ih (by omega) s
      by_cases hd : d n = 0
      · rw [(hp n (by omega)).1 hd, hd]; simp; exact this
      · have := ((hp n (by omega)).2 hd).1 s c1
        omega
theorem p_nonneg (r : Rt S h c d N) (hp : IsP S h c d N p) {n : Nat} (hn : n < N) : 0 ≤ p n := by
  by_cases hd : d n = 0
  · rw [(hp n hn).1 hd]; exact Int.le_refl _
  · obtain ⟨s, hs, he⟩ := ((hp n hn).2 hd).2
    have := feas r hp n (by omega) s
    have := Int.mul_nonneg (r.d0 n hn) (way_nonneg (t := n) r.h0 (r.c0 s (by omega)) hs)
    omega
theorem tight (r : Rt S h c d N) (hp : IsP S h c d N p) {n : Nat} (hn : n < N) (hd : d n ≠ 0) : ∃ s, s ≤ n ∧ d n * way h c s n ≤ p n ∧ ab h c d p s (n + 1) = S := by
  obtain ⟨s, hs, he⟩ := ((hp n hn).2 hd).2
  have := feas r hp n (by omega) s
  refine ⟨s, hs, by omega, ?_⟩
  rw [ab_succ hs]; omega
theorem after (r : Rt S h c d N) (hp : IsP S h c d N p) {s m t : Nat} (hm : ab h c d p s m = S) (hs : s ≤ t) (ht : m ≤ t) (hN : t < N) : p t ≤ d t * way h c s t := by
  have h1 := feas r hp (t + 1) (by omega) s
  rw [ab_succ hs] at h1
  have h2 := ab_le (h := h) (c := c) (d := d) (q := p) (s := s) ht
  omega
theorem F_le_p (r : Rt S h c d N) (hp : IsP S h c d N p) (hF : IsF S h c d N F) : ∀ n, n ≤ N → F n ≤ sm p 0 n := by
  intro n
  induction n using Nat.strongRecOn with
  | ind n ih =>
    intro hn
    cases n with
    | zero => rw [hF.1]; exact Int.le_refl _
    | succ n =>
      obtain ⟨hle, _⟩ := hF.2 (n + 1) (by omega) hn
      by_cases hd : d n = 0
      · have h1 := hle n (by omega)
        have h2 := ih n (by omega) (by omega)
        have e1 : lot S h c d n (n + 1) = 0 := by
          unfold lot
          rw [sm_succ (Nat.le_refl _), sm_succ (Nat.le_refl _), sm_le (Nat.le_refl _), sm_le (Nat.le_refl _), hd]; simp
        rw [sm_succ (Nat.zero_le _), (hp n (by omega)).1 hd]
        omega
      · obtain ⟨s, hs, hpn, hS⟩ := tight r hp (by omega) hd
        have h1 := hle s (by omega)
        have h2 := ih s (by omega) (by omega)
        have hall : ∀ t, s ≤ t → t < n + 1 → d t * way h c s t ≤ p t := by
          intro t ht htn
          rcases Nat.lt_or_ge t n with c1 | c1
          · by_cases hdt : d t = 0
            · rw [hdt, (hp t (by omega)).1 hdt]; simp
            · obtain ⟨s2, hs2, hp2, hS2⟩ := tight r hp (by omega) hdt
              have h3 := after r hp hS2 (show s2 ≤ n by omega) (by omega) (by omega)
              have hdn := r.d0 n (by omega)
              have hdt0 := r.d0 t (by omega)
              -- way s n ≤ way s2 n
              have h4 : way h c s n ≤ way h c s2 n := by
                have h5 : d n * way h c s n ≤ d n * way h c s2 n := by omega
                exact Int.le_of_mul_le_mul_left h5 (by omega)
              have h6 : way h c s t ≤ way h c s2 t := by
                rw [way_move h c s t n, way_move h c s2 t n] at h4
                omega
              have h7 := Int.mul_le_mul_of_nonneg_left h6 hdt0
              omega
          · obtain rfl : t = n := by omega
            exact hpn
        have e2 : sm p s (n + 1) = lot S h c d s (n + 1) := by
          unfold lot
          have hpos : 0 < sm d s (n + 1) := by
            rw [sm_succ (by omega)]
            have := sm_nonneg (f := d) (s := s) (n := n) (fun i _ hi => r.d0 i (by omega))
            have := r.d0 n (by omega)
            omega
          rw [if_pos hpos]
          have e3 : ab h c d p s (n + 1) = sm p s (n + 1) - sm (fun i => d i * way h c s i) s (n + 1) := by
            unfold ab
            rw [← sm_sub]
            exact sm_congr (fun i h1 h2 => by have := hall i h1 h2; omega)
          omega
        rw [sm_split (Nat.zero_le s) (n + 1) (by omega), e2]
        omega

/-- The best start so far. -/
def sg (h : Int) (c : Nat → Int) (a : Nat → Bool) : Nat → Option Nat
  | 0 => if a 0 then some 0 else none
  | t + 1 => match sg h c a t with
    | none => if a (t + 1) then some (t + 1) else none
    | some s => if a (t + 1) = true ∧ c (t + 1) < way h c s (t + 1) then some (t + 1) else some s
theorem sg_none {a : Nat → Bool} : ∀ {t : Nat}, sg h c a t = none → ∀ s, s ≤ t → a s = false := by
  intro t
  induction t with
  | zero => intro hs s h0; obtain rfl : s = 0 := by omega
            unfold sg at hs; cases e : a 0 with
            | false => rfl
            | true => simp [e] at hs
  | succ t ih =>
    intro hs s h0
    unfold sg at hs
    cases e : sg h c a t with
    | none =>
      rw [e] at hs
      rcases Nat.lt_or_ge s (t + 1) with c1 | c1
      · exact ih e s (by omega)
      · obtain rfl : s = t + 1 := by omega
        cases e2 : a (t + 1) with
        | false => rfl
        | true => simp [e2] at hs
    | some s2 =>
      rw [e] at hs
      simp only at hs
      split at hs <;> cases hs
theorem sg_some {a : Nat → Bool} : ∀ {t s : Nat}, sg h c a t = some s → s ≤ t ∧ a s = true ∧ ∀ s2, s2 ≤ t → a s2 = true → way h c s t ≤ way h c s2 t := by
  intro t
  induction t with
  | zero =>
    intro s hs
    unfold sg at hs
    cases e : a 0 with
    | false => simp [e] at hs
    | true =>
      simp [e] at hs; subst hs
      exact ⟨Nat.le_refl _, e, fun s2 h2 _ => by obtain rfl : s2 = 0 := by omega
                                                 exact Int.le_refl _⟩
  | succ t ih =>
    intro s hs
    unfold sg at hs
    cases e : sg h c a t with
    | none =>
      rw [e] at hs
      cases e2 : a (t + 1) with
      | false => simp [e2] at hs
      | true =>
        simp [e2] at hs; subst hs
        refine ⟨Nat.le_refl _, e2, fun s2 h2 h3 => ?_⟩
        rcases Nat.lt_or_ge s2 (t + 1) with c1 | c1
        · rw [sg_none e s2 (by omega)] at h3; cases h3
        · obtain rfl : s2 = t + 1 := by omega
          exact Int.le_refl _
    | some s1 =>
      rw [e] at hs
      simp only at hs
      obtain ⟨i1, i2, i3⟩ := ih e
      have mv : ∀ s2, s2 ≤ t → a s2 = true → way h c s1 (t + 1) ≤ way h c s2 (t + 1) := by
        intro s2 h2 h3
        have := i3 s2 h2 h3
        rw [way_move h c s1 t (t + 1), way_move h c s2 t (t + 1)]
        omega
      split at hs
      · rename_i hc
        injection hs with hs; subst hs
        refine ⟨Nat.le_refl _, hc.1, fun s2 h2 h3 => ?_⟩
        rw [way_self]
        rcases Nat.lt_or_ge s2 (t + 1) with c1 | c1
        · have := mv s2 (by omega) h3; omega
        · obtain rfl : s2 = t + 1 := by omega
          rw [way_self]; exact Int.le_refl _
      · rename_i hc
        injection hs with hs; subst hs
        refine ⟨by omega, i2, fun s2 h2 h3 => ?_⟩
        rcases Nat.lt_or_ge s2 (t + 1) with c1 | c1
        · exact mv s2 (by omega) h3
        · obtain rfl : s2 = t + 1 := by omega
          rw [way_self]
          rcases Int.lt_or_le (c (t + 1)) (way h c s1 (t + 1)) with c2 | c2
          · exact absurd ⟨h3, c2⟩ hc
          · exact c2
theorem sg_congr {a b : Nat → Bool} : ∀ {t : Nat}, (∀ i, i ≤ t → a i = b i) → sg h c a t = sg h c b t := by
  intro t
  induction t with
  | zero => intro hab; unfold sg; rw [hab 0 (Nat.le_refl _)]
  | succ t ih => intro hab; unfold sg; rw [ih (fun i hi => hab i (by omega)), hab (t + 1) (Nat.le_refl _)]
/-- What a unit costs at least that is used in t. -/
def mw (h : Int) (c : Nat → Int) (a : Nat → Bool) (t : Nat) : Int := match sg h c a t with
  | none => 0
  | some s => way h c s t
def ct (S : Int) (a : Nat → Bool) (n : Nat) : Int := sm (fun i => if a i then S else 0) 0 n
/-- A right plan. -/
structure Pl (d : Nat → Int) (N : Nat) (x : Nat → Int) : Prop where
  x0 : ∀ i, i < N → 0 ≤ x i
  st : ∀ n, n ≤ N → 0 ≤ sm (fun i => x i - d i) 0 n
  last : sm (fun i => x i - d i) 0 N = 0
def on (x : Nat → Int) (i : Nat) : Bool := decide (0 < x i)
/-- What is pumped and kept. -/
def keep (h : Int) (c d x : Nat → Int) (n : Nat) : Int := sm (fun i => c i * x i + h * sm (fun i => x i - d i) 0 (i + 1)) 0 n
def cost (S h : Int) (c d x : Nat → Int) (n : Nat) : Int := ct S (on x) n + keep h c d x n
theorem off_all {x : Nat → Int} (hx : Pl d N x) (r : Rt S h c d N) {t : Nat} (ht : t < N) (hs : sg h c (on x) t = none) : (∀ i, i ≤ t → d i = 0) ∧ sm (fun i => x i - d i) 0 (t + 1) = 0 := by
  have hx0 : ∀ i, i ≤ t → x i = 0 := by
    intro i hi
    have h1 := sg_none hs i hi
    have h2 := hx.x0 i (by omega)
    unfold on at h1
    have : ¬ 0 < x i := by simpa using h1
    omega
  have key : ∀ m, m ≤ t + 1 → sm (fun i => x i - d i) 0 m = - sm d 0 m := by
    intro m
    induction m with
    | zero => intro _; rfl
    | succ m ih => intro hm; rw [sm_succ (Nat.zero_le _), sm_succ (Nat.zero_le _), ih (by omega), hx0 m (by omega)]; omega
  have hz : ∀ m, m ≤ t + 1 → sm d 0 m = 0 := by
    intro m hm
    have h1 := hx.st m (by omega)
    rw [key m hm] at h1
    have := sm_nonneg (f := d) (s := 0) (n := m) (fun i _ hi => r.d0 i (by omega))
    omega
  refine ⟨fun i hi => ?_, by rw [key _ (Nat.le_refl _), hz _ (Nat.le_refl _)]; rfl⟩
  have h1 := hz i (by omega)
  have h2 := hz (i + 1) (by omega)
  rw [sm_succ (Nat.zero_le _)] at h2
  omega
/-- What a unit costs at least that was kept. -/
def pv (h : Int) (c : Nat → Int) (a : Nat → Bool) : Nat → Int
  | 0 => 0
  | t + 1 => mw h c a t
theorem keep_ge {x : Nat → Int} (hx : Pl d N x) (r : Rt S h c d N) : ∀ t, t ≤ N →
    sm (fun i => d i * mw h c (on x) i) 0 t + sm (fun i => x i - d i) 0 t * (pv h c (on x) t + h) ≤ keep h c d x t := by
  intro t
  induction t with
  | zero => intro _; simp [sm, keep]
  | succ t ih =>
    intro ht
    have h1 := ih (by omega)
    unfold keep at h1 ⊢
    rw [sm_succ (Nat.zero_le _), sm_succ (f := fun i => c i * x i + h * sm (fun i => x i - d i) 0 (i + 1)) (Nat.zero_le _)]
    have hst := hx.st t (by omega)
    have hst2 := hx.st (t + 1) ht
    have e1 : sm (fun i => x i - d i) 0 (t + 1) = sm (fun i => x i - d i) 0 t + (x t - d t) := sm_succ (Nat.zero_le _)
    generalize hA : sm (fun i => x i - d i) 0 t = A at *
    generalize hB : sm (fun i => x i - d i) 0 (t + 1) = B at *
    generalize hM : mw h c (on x) t = M at *
    -- x t * (c t - M) ≥ 0
    have hx1 : x t * M ≤ c t * x t := by
      have hx0 := hx.x0 t (by omega)
      rcases Int.lt_or_le 0 (x t) with c1 | c1
      · have hon : on x t = true := by simp [on, c1]
        have : M ≤ c t := by
          rw [← hM]; unfold mw
          cases e : sg h c (on x) t with
          | none => exact r.c0 t (by omega)
          | some s => have := (sg_some e).2.2 t (Nat.le_refl _) hon; rwa [way_self] at this
        have := Int.mul_le_mul_of_nonneg_left this hx0
        rw [Int.mul_comm (c t)]; exact this
      · obtain e0 : x t = 0 := by omega
        rw [e0]; simp
    have hA1 : A * M ≤ A * (pv h c (on x) t + h) := by
      cases t with
      | zero => simp only [sm] at hA; subst hA; simp
      | succ u =>
        simp only [pv]
        cases e : sg h c (on x) u with
        | none =>
          have := (off_all hx r (show u < N by omega) e).2
          rw [hA] at this
          rw [this]; simp
        | some s =>
          refine Int.mul_le_mul_of_nonneg_left ?_ hst
          obtain ⟨s1, s2, s3⟩ := sg_some e
          rw [← hM]
          have e5 : mw h c (on x) u = way h c s u := by unfold mw; rw [e]
          rw [e5]
          unfold mw
          cases e2 : sg h c (on x) (u + 1) with
          | none => exact absurd (sg_none e2 s (by omega)) (by simp [s2])
          | some s' =>
            have := (sg_some e2).2.2 s (by omega) s2
            rw [way_move h c s u (u + 1)] at this
            have e3 : h * (((u + 1 : Nat) : Int) - (u : Int)) = h := by rw [show ((u + 1 : Nat) : Int) - (u : Int) = 1 by omega, Int.mul_one]
            simp only at *
            omega
    subst e1
    have e6 : pv h c (on x) (t + 1) = M := hM
    rw [e6]
    generalize pv h c (on x) t = P at *
    have e4 : (A + (x t - d t)) * (M + h) = A * M + x t * M - d t * M + h * (A + (x t - d t)) := by grind
    rw [e4]
    omega
/-- Prices that hold. -/
structure Ho (S h : Int) (c d : Nat → Int) (N : Nat) (q : Nat → Int) : Prop where
  q0 : ∀ i, i < N → 0 ≤ q i
  z : ∀ i, i < N → d i = 0 → q i = 0
  ab : ∀ s, s < N → ab h c d q s N ≤ S
theorem sum_le {q x : Nat → Int} (hq : Ho S h c d N q) (hx : Pl d N x) (r : Rt S h c d N) : sm q 0 N ≤ sm (fun i => d i * mw h c (on x) i) 0 N + ct S (on x) N := by
  have key : ∀ t, t ≤ N → sm q 0 t ≤ sm (fun i => d i * mw h c (on x) i) 0 t + sm (fun s => if on x s then Am.ab h c d q s t else 0) 0 t := by
    intro t
    induction t with
    | zero => intro _; simp [sm]
    | succ t ih =>
      intro ht
      have h1 := ih (by omega)
      rw [sm_succ (Nat.zero_le _), sm_succ (f := fun i => d i * mw h c (on x) i) (Nat.zero_le _)]
      have mono : ∀ s, s < t + 1 → (if on x s then Am.ab h c d q s t else 0) ≤ (if on x s then Am.ab h c d q s (t + 1) else 0) := by
        intro s hs
        split
        · exact ab_le (by omega)
        · exact Int.le_refl _
      have e0 : sm (fun s => if on x s then Am.ab h c d q s t else 0) 0 (t + 1) = sm (fun s => if on x s then Am.ab h c d q s t else 0) 0 t := by
        rw [sm_succ (Nat.zero_le _)]
        have : Am.ab h c d q t t = 0 := sm_le (Nat.le_refl _)
        rw [this]; split <;> omega
      unfold mw
      cases e : sg h c (on x) t with
      | none =>
        have hd := (off_all hx r (show t < N by omega) e).1 t (Nat.le_refl _)
        rw [hq.z t (by omega) hd, hd]
        have := sm_mono (f := fun s => if on x s then Am.ab h c d q s t else 0) (g := fun s => if on x s then Am.ab h c d q s (t + 1) else 0) (s := 0) (n := t + 1) (fun i _ hi => mono i hi)
        have h2 : sm (fun i => d i * mw h c (on x) i) 0 t = sm (fun i => d i * match sg h c (on x) i with | none => 0 | some s => way h c s i) 0 t := rfl
        simp only
        omega
      | some s =>
        obtain ⟨s1, s2, s3⟩ := sg_some e
        have := sm_bump (f := fun s => if on x s then Am.ab h c d q s (t + 1) else 0) (g := fun s => if on x s then Am.ab h c d q s t else 0) (n := t + 1) (s0 := s) (e := max 0 (q t - d t * way h c s t)) mono (by omega) (by simp only [s2, if_true]; rw [ab_succ s1]; exact Int.le_refl _)
        have h2 : sm (fun i => d i * mw h c (on x) i) 0 t = sm (fun i => d i * match sg h c (on x) i with | none => 0 | some s => way h c s i) 0 t := rfl
        simp only
        omega
  have h1 := key N (Nat.le_refl _)
  have h2 : sm (fun s => if on x s then Am.ab h c d q s N else 0) 0 N ≤ ct S (on x) N := by
    unfold ct
    refine sm_mono (fun i _ hi => ?_)
    split
    · exact hq.ab i hi
    · exact Int.le_refl _
  omega
/-- No right plan costs less than prices that hold are worth. -/
theorem weak {q x : Nat → Int} (hq : Ho S h c d N q) (hx : Pl d N x) (r : Rt S h c d N) : sm q 0 N ≤ cost S h c d x N := by
  have h1 := sum_le hq hx r
  have h2 := keep_ge hx r N (Nat.le_refl _)
  rw [hx.last, Int.zero_mul] at h2
  unfold cost
  omega
theorem Ho_of (r : Rt S h c d N) (hp : IsP S h c d N p) : Ho S h c d N p := ⟨fun i hi => p_nonneg r hp hi, fun i hi hd => (hp i hi).1 hd, fun s _ => feas r hp N (Nat.le_refl _) s⟩
theorem IsP.le {n : Nat} (hp : IsP S h c d N p) (hn : n ≤ N) : IsP S h c d n p := fun i hi => hp i (by omega)
theorem IsF.le {n : Nat} (hF : IsF S h c d N F) (hn : n ≤ N) : IsF S h c d n F := ⟨hF.1, fun i h1 h2 => hF.2 i h1 (by omega)⟩
end Go.Proofs.Ytboefcikdfjfmaa.Am
/- The plans that a set of hours leads to, the plan of the lots, and that the least cost is reached and undercut by none. -/
set_option linter.unusedVariables false
namespace Go.Proofs.Ytboefcikdfjfmaa.Am
variable {S h : Int} {c d : Nat → Int} {N : Nat} {F p : Nat → Int}
/-- The plan that pumps in the hours of a set, for the first k hours. -/
def px (h : Int) (c d : Nat → Int) (a : Nat → Bool) (k i : Nat) : Int := sm (fun u => if sg h c a u = some i then d u else 0) 0 k
def okA (h : Int) (c d : Nat → Int) (a : Nat → Bool) (N : Nat) : Prop := ∀ u, u < N → d u ≠ 0 → sg h c a u ≠ none
def D (d : Nat → Int) (k i : Nat) : Int := if i < k then d i else 0
theorem px_succ (a : Nat → Bool) (k i : Nat) : px h c d a (k + 1) i = px h c d a k i + (if sg h c a k = some i then d k else 0) := sm_succ (Nat.zero_le _)
theorem D_succ (k i : Nat) : D d (k + 1) i = D d k i + (if i = k then d k else 0) := by
  unfold D
  by_cases c1 : i < k
  · rw [if_pos (by omega), if_pos c1, if_neg (by omega)]; omega
  · by_cases c2 : i = k
    · subst c2; simp
    · rw [if_neg (by omega), if_neg c1, if_neg c2]; rfl
theorem px_step (a : Nat → Bool) {k s : Nat} (hs : sg h c a k = some s) (n : Nat) :
    sm (fun j => px h c d a (k + 1) j - D d (k + 1) j) 0 n = sm (fun j => px h c d a k j - D d k j) 0 n + ((if s < n then d k else 0) - (if k < n then d k else 0)) := by
  have e : ∀ j, px h c d a (k + 1) j - D d (k + 1) j = (px h c d a k j - D d k j) + ((if j = s then d k else 0) - (if j = k then d k else 0)) := by
    intro j
    rw [px_succ, D_succ, hs]
    by_cases c1 : j = s
    · subst c1; simp; omega
    · rw [if_neg (by intro e; injection e with e; exact c1 e.symm), if_neg c1]; omega
  rw [sm_congr (g := fun j => (px h c d a k j - D d k j) + ((if j = s then d k else 0) - (if j = k then d k else 0))) (fun i _ _ => e i), sm_add, sm_sub (fun j => if j = s then d k else 0) (fun j => if j = k then d k else 0), sm_single, sm_single]
theorem px_zero (a : Nat → Bool) {k : Nat} (hd : d k = 0) (j : Nat) : px h c d a (k + 1) j = px h c d a k j := by
  rw [px_succ, hd]; simp
theorem D_zero {k : Nat} (hd : d k = 0) (j : Nat) : D d (k + 1) j = D d k j := by
  rw [D_succ, hd]; simp
theorem px_inv {a : Nat → Bool} (r : Rt S h c d N) (ok : okA h c d a N) : ∀ k, k ≤ N →
    (∀ n, n ≤ N → 0 ≤ sm (fun j => px h c d a k j - D d k j) 0 n) ∧ sm (fun j => px h c d a k j - D d k j) 0 N = 0 ∧
    sm (fun i => c i * px h c d a k i + h * sm (fun j => px h c d a k j - D d k j) 0 (i + 1)) 0 N = sm (fun u => d u * mw h c a u) 0 k := by
  intro k
  induction k with
  | zero =>
    intro _
    have e : ∀ n, sm (fun j => px h c d a 0 j - D d 0 j) 0 n = 0 := by
      intro n
      rw [sm_congr (g := fun _ => 0) (fun i _ _ => by simp [px, D, sm]), sm_zero]
    refine ⟨fun n _ => by rw [e]; exact Int.le_refl _, e N, ?_⟩
    rw [sm_congr (g := fun _ => 0) (fun i _ _ => by rw [e]; simp [px, sm]), sm_zero]; rfl
  | succ k ih =>
    intro hk
    obtain ⟨i1, i2, i3⟩ := ih (by omega)
    by_cases hd : d k = 0
    · have e1 : (fun j => px h c d a (k + 1) j - D d (k + 1) j) = fun j => px h c d a k j - D d k j := by funext j; rw [px_zero a hd, D_zero hd]
      have e2 : (fun i => c i * px h c d a (k + 1) i + h * sm (fun j => px h c d a k j - D d k j) 0 (i + 1)) = fun i => c i * px h c d a k i + h * sm (fun j => px h c d a k j - D d k j) 0 (i + 1) := by funext i; rw [px_zero a hd]
      rw [e1, e2, sm_succ (Nat.zero_le _), hd]
      refine ⟨i1, i2, by rw [i3]; simp⟩
    · cases hs : sg h c a k with
      | none => exact absurd hs (ok k (by omega) hd)
      | some s =>
        obtain ⟨s1, s2, s3⟩ := sg_some hs
        have hd0 := r.d0 k (by omega)
        refine ⟨fun n hn => ?_, ?_, ?_⟩
        · rw [px_step a hs]
          have := i1 n hn
          by_cases c1 : k < n
          · rw [if_pos c1, if_pos (by omega)]; omega
          · rw [if_neg c1]; split <;> omega
        · rw [px_step a hs, i2, if_pos (by omega), if_pos (by omega)]; omega
        · have e : ∀ i, c i * px h c d a (k + 1) i + h * sm (fun j => px h c d a (k + 1) j - D d (k + 1) j) 0 (i + 1)
              = (c i * px h c d a k i + h * sm (fun j => px h c d a k j - D d k j) 0 (i + 1)) + ((if i = s then c s * d k else 0) + (if s ≤ i ∧ i < k then h * d k else 0)) := by
            intro i
            rw [px_step a hs, px_succ, hs]
            have e1 : (c i * (px h c d a k i + if some s = some i then d k else 0)) = c i * px h c d a k i + (if i = s then c s * d k else 0) := by
              by_cases c1 : i = s
              · subst c1; rw [if_pos rfl, if_pos rfl, Int.mul_add]
              · rw [if_neg (by intro e; injection e with e; exact c1 e.symm), if_neg c1]; simp
            have e2 : h * (sm (fun j => px h c d a k j - D d k j) 0 (i + 1) + ((if s < i + 1 then d k else 0) - (if k < i + 1 then d k else 0))) = h * sm (fun j => px h c d a k j - D d k j) 0 (i + 1) + (if s ≤ i ∧ i < k then h * d k else 0) := by
              by_cases c1 : s ≤ i
              · by_cases c2 : i < k
                · rw [if_pos (by omega), if_neg (by omega), if_pos ⟨c1, c2⟩, Int.sub_zero, Int.mul_add]
                · rw [if_pos (by omega), if_pos (by omega), if_neg (by omega)]; simp
              · rw [if_neg (by omega), if_neg (by omega), if_neg (by omega)]; simp
            rw [e1, e2]; omega
          rw [sm_congr (fun i _ _ => e i), sm_add (fun i => c i * px h c d a k i + h * sm (fun j => px h c d a k j - D d k j) 0 (i + 1)), sm_add (fun i => if i = s then c s * d k else 0), sm_single, if_pos (by omega), sm_between s k N (h * d k) s1 (by omega), i3, sm_succ (Nat.zero_le _)]
          have : mw h c a k = way h c s k := by unfold mw; rw [hs]
          rw [this]
          unfold way
          have e3 : d k * (c s + h * ((k : Int) - s)) = c s * d k + h * d k * ((k : Int) - s) := by grind
          omega
theorem px_congr (a : Nat → Bool) {n : Nat} (hn : n ≤ N) : sm (fun j => px h c d a N j - d j) 0 n = sm (fun j => px h c d a N j - D d N j) 0 n :=
  sm_congr (fun i _ hi => by unfold D; rw [if_pos (by omega)])
theorem px_nonneg {a : Nat → Bool} (r : Rt S h c d N) (i : Nat) : 0 ≤ px h c d a N i :=
  sm_nonneg (fun u _ hu => by split; exact r.d0 u hu; exact Int.le_refl _)
/-- The plan of a set is right. -/
theorem px_pl {a : Nat → Bool} (r : Rt S h c d N) (ok : okA h c d a N) : Pl d N (px h c d a N) := by
  obtain ⟨i1, i2, i3⟩ := px_inv r ok N (Nat.le_refl _)
  exact ⟨fun i _ => px_nonneg r i, fun n hn => by rw [px_congr a hn]; exact i1 n hn, by rw [px_congr a (Nat.le_refl _)]; exact i2⟩
theorem px_keep {a : Nat → Bool} (r : Rt S h c d N) (ok : okA h c d a N) : keep h c d (px h c d a N) N = sm (fun u => d u * mw h c a u) 0 N := by
  obtain ⟨i1, i2, i3⟩ := px_inv r ok N (Nat.le_refl _)
  rw [← i3]
  unfold keep
  exact sm_congr (fun i _ hi => by rw [px_congr a (by omega)])
theorem px_on {a : Nat → Bool} {k i : Nat} (hi : 0 < px h c d a k i) : a i = true ∧ i < k := by
  unfold px at hi
  induction k with
  | zero => exact absurd hi (by simp [sm])
  | succ k ih =>
    rw [sm_succ (Nat.zero_le _)] at hi
    by_cases c1 : sg h c a k = some i
    · have := sg_some c1
      exact ⟨this.2.1, by omega⟩
    · rw [if_neg c1, Int.add_zero] at hi
      have := ih hi
      exact ⟨this.1, by omega⟩
theorem ct_mono {a b : Nat → Bool} {n : Nat} (hS : 0 ≤ S) (hab : ∀ i, i < n → a i = true → b i = true) : ct S a n ≤ ct S b n := by
  unfold ct
  refine sm_mono (fun i _ hi => ?_)
  cases e : a i with
  | false => simp; split <;> omega
  | true => rw [hab i hi e]; exact Int.le_refl _
theorem px_cost {a : Nat → Bool} (r : Rt S h c d N) (ok : okA h c d a N) : cost S h c d (px h c d a N) N ≤ ct S a N + sm (fun u => d u * mw h c a u) 0 N := by
  unfold cost
  rw [px_keep r ok]
  have := ct_mono (S := S) (a := on (px h c d a N)) (b := a) (n := N) r.S0 (fun i _ hi => (px_on (by simpa [on] using hi)).1)
  omega
/-- The lots lead to a set that costs no more. -/
theorem reach (r : Rt S h c d N) (hF : IsF S h c d N F) : ∀ n, n ≤ N → ∃ a : Nat → Bool, (∀ i, a i = true → i < n) ∧ okA h c d a n ∧ ct S a n + sm (fun u => d u * mw h c a u) 0 n ≤ F n := by
  intro n
  induction n using Nat.strongRecOn with
  | ind n ih =>
    intro hn
    cases n with
    | zero => exact ⟨fun _ => false, fun i hi => by simp at hi, fun u hu => by omega, by rw [hF.1]; simp [ct, sm]⟩
    | succ n =>
      obtain ⟨s, hs, he⟩ := (hF.2 (n + 1) (by omega) hn).2
      obtain ⟨a, h1, h2, h3⟩ := ih s hs (by omega)
      have hcl : ∀ b : Nat → Bool, (∀ i, i < s → b i = a i) → sm (fun u => d u * mw h c b u) 0 s = sm (fun u => d u * mw h c a u) 0 s := by
        intro b hb
        refine sm_congr (fun i _ hi => ?_)
        unfold mw
        rw [sg_congr (a := b) (b := a) (fun j hj => hb j (by omega))]
      by_cases hA : 0 < sm d s (n + 1)
      · refine ⟨fun i => if i = s then true else a i, ?_, ?_, ?_⟩
        · intro i hi
          by_cases c1 : i = s
          · omega
          · simp [c1] at hi; have := h1 i hi; omega
        · intro u hu hd
          rcases Nat.lt_or_ge u s with c1 | c1
          · rw [sg_congr (b := a) (fun j hj => by simp [show j ≠ s by omega])]
            exact h2 u c1 hd
          · intro e
            have := sg_none e s c1
            simp at this
        · have e1 : ct S (fun i => if i = s then true else a i) (n + 1) = ct S a s + S := by
            unfold ct
            rw [sm_split (Nat.zero_le s) (n + 1) (by omega)]
            have e2 : sm (fun i => if (if i = s then true else a i) = true then S else 0) 0 s = sm (fun i => if a i then S else 0) 0 s := sm_congr (fun i _ hi => by simp [show i ≠ s by omega])
            have e3 : sm (fun i => if (if i = s then true else a i) = true then S else 0) s (n + 1) = S := by
              rw [sm_split (m := s + 1) (by omega) (n + 1) (by omega), sm_succ (Nat.le_refl _), sm_le (Nat.le_refl _)]
              rw [sm_congr (g := fun _ => 0) (s := s + 1) (fun i h1' h2' => by
                have : a i = false := by
                  cases e : a i with
                  | false => rfl
                  | true => have := h1 i e; omega
                simp [show i ≠ s by omega, this]), sm_zero]
              simp
            rw [e2, e3]
          have e4 : sm (fun u => d u * mw h c (fun i => if i = s then true else a i) u) s (n + 1) ≤ sm (fun u => d u * way h c s u) s (n + 1) := by
            refine sm_mono (fun u hu1 hu2 => Int.mul_le_mul_of_nonneg_left ?_ (r.d0 u (by omega)))
            unfold mw
            cases e : sg h c (fun i => if i = s then true else a i) u with
            | none => have := sg_none e s hu1; simp at this
            | some s2 => exact (sg_some e).2.2 s hu1 (by simp)
          rw [e1, sm_split (Nat.zero_le s) (n + 1) (by omega), hcl _ (fun i hi => by simp [show i ≠ s by omega]), he]
          unfold lot
          rw [if_pos hA]
          omega
      · have hz : ∀ u, s ≤ u → u < n + 1 → d u = 0 := by
          intro u hu1 hu2
          have h4 := sm_split (f := d) hu1 (n + 1) (by omega)
          have h5 := sm_split (f := d) (show u ≤ u + 1 by omega) (n + 1) (by omega)
          rw [sm_succ (Nat.le_refl _), sm_le (Nat.le_refl _)] at h5
          have := sm_nonneg (f := d) (s := s) (n := u) (fun i _ hi => r.d0 i (by omega))
          have := sm_nonneg (f := d) (s := u + 1) (n := n + 1) (fun i _ hi => r.d0 i (by omega))
          have := r.d0 u (by omega)
          omega
        refine ⟨a, fun i hi => by have := h1 i hi; omega, fun u hu hd => ?_, ?_⟩
        · rcases Nat.lt_or_ge u s with c1 | c1
          · exact h2 u c1 hd
          · exact absurd (hz u c1 hu) hd
        · have e1 : ct S a (n + 1) = ct S a s := by
            unfold ct
            rw [sm_split (Nat.zero_le s) (n + 1) (by omega), sm_congr (g := fun _ => 0) (s := s) (fun i h1' h2' => by
              have : a i = false := by
                cases e : a i with
                | false => rfl
                | true => have := h1 i e; omega
              simp [this]), sm_zero]; omega
          have e2 : sm (fun u => d u * mw h c a u) s (n + 1) = 0 := by
            rw [sm_congr (g := fun _ => 0) (fun i h1' h2' => by rw [hz i h1' h2']; simp), sm_zero]
          have e3 : lot S h c d s (n + 1) = 0 := by
            unfold lot
            rw [if_neg hA, sm_congr (g := fun _ => 0) (fun i h1' h2' => by rw [hz i h1' h2']; simp), sm_zero]; rfl
          rw [e1, sm_split (Nat.zero_le s) (n + 1) (by omega), e2, he, e3]
          omega
/-- The least cost is the worth of the prices. -/
theorem F_eq_p (r : Rt S h c d N) (hp : IsP S h c d N p) (hF : IsF S h c d N F) {n : Nat} (hn : n ≤ N) : F n = sm p 0 n := by
  refine Int.le_antisymm (F_le_p r hp hF n hn) ?_
  obtain ⟨a, h1, h2, h3⟩ := reach r hF n hn
  have h4 := px_cost (r.le hn) h2
  have h5 := weak (Ho_of (r.le hn) (hp.le hn)) (px_pl (r.le hn) h2) (r.le hn)
  omega
/-- No right plan costs less than the least. -/
theorem F_le_plan (r : Rt S h c d N) (hp : IsP S h c d N p) (hF : IsF S h c d N F) {x : Nat → Int} (hx : Pl d N x) : F N ≤ cost S h c d x N := by
  rw [F_eq_p r hp hF (Nat.le_refl _)]
  exact weak (Ho_of r hp) hx r
/-- No prices that hold are worth more than the least. -/
theorem ho_le_F (r : Rt S h c d N) (hF : IsF S h c d N F) {q : Nat → Int} (hq : Ho S h c d N q) : sm q 0 N ≤ F N := by
  obtain ⟨a, h1, h2, h3⟩ := reach r hF N (Nat.le_refl _)
  have h4 := px_cost r h2
  have h5 := weak hq (px_pl r h2) r
  omega
theorem F_mono (r : Rt S h c d N) (hp : IsP S h c d N p) (hF : IsF S h c d N F) {n : Nat} (hn : n + 1 ≤ N) : F n ≤ F (n + 1) := by
  rw [F_eq_p r hp hF (by omega), F_eq_p r hp hF hn, sm_succ (Nat.zero_le _)]
  have := p_nonneg r hp (show n < N by omega)
  omega
theorem F_comp {S' h' : Int} {c' d' F' : Nat → Int} (hF : IsF S h c d N F) (hF' : IsF S' h' c' d' N F') (hl : ∀ s n, s < n → n ≤ N → lot S h c d s n ≤ lot S' h' c' d' s n) : ∀ n, n ≤ N → F n ≤ F' n := by
  intro n
  induction n using Nat.strongRecOn with
  | ind n ih =>
    intro hn
    cases n with
    | zero => rw [hF.1, hF'.1]; exact Int.le_refl _
    | succ n =>
      obtain ⟨s, hs, he⟩ := (hF'.2 (n + 1) (by omega) hn).2
      have := (hF.2 (n + 1) (by omega) hn).1 s hs
      have := ih s hs (by omega)
      have := hl s (n + 1) hs hn
      omega
theorem F_uniq {F' : Nat → Int} (hF : IsF S h c d N F) (hF' : IsF S h c d N F') {n : Nat} (hn : n ≤ N) : F n = F' n :=
  Int.le_antisymm (F_comp hF hF' (fun _ _ _ _ => Int.le_refl _) n hn) (F_comp hF' hF (fun _ _ _ _ => Int.le_refl _) n hn)

/-- What is told of a plan out of lots. -/
structure Good (S h : Int) (c d F : Nat → Int) (n : Nat) (y : Nat → Int) : Prop where
  pl : Pl d n y
  z : ∀ i, n ≤ i → y i = 0
  cost : cost S h c d y n = F n
  tidy : ∀ i, 1 ≤ i → i < n → 0 < y i → sm (fun j => y j - d j) 0 i = 0
theorem good_zero (hF : IsF S h c d N F) : Good S h c d F 0 (fun _ => 0) :=
  ⟨⟨fun i hi => by omega, fun n hn => by obtain rfl : n = 0 := by omega
                                         exact Int.le_refl _, rfl⟩, fun _ _ => rfl, by rw [hF.1]; rfl, fun i h1 h2 => by omega⟩
theorem stairs (s : Nat) (n : Nat) (hn : s ≤ n) : sm (fun i => sm d (i + 1) n) s n = sm (fun i => d i * ((i : Int) - s)) s n := by
  induction n with
  | zero => rfl
  | succ n ih =>
    rcases Nat.lt_or_ge n s with c1 | c1
    · rw [sm_le (by omega), sm_le (by omega)]
    · rw [sm_succ c1, sm_succ c1, sm_le (f := d) (Nat.le_refl _), ← ih c1]
      rw [sm_congr (g := fun i => sm d (i + 1) n + d n) (fun i h1 h2 => sm_succ (by omega)), sm_add]
      have : ∀ m : Nat, s ≤ m → sm (fun _ => d n) s m = d n * ((m : Int) - s) := by
        intro m hm
        induction m with
        | zero => obtain rfl : s = 0 := by omega
                  simp [sm]
        | succ m ih2 =>
          rcases Nat.lt_or_ge m s with c2 | c2
          · obtain rfl : s = m + 1 := by omega
            rw [sm_le (Nat.le_refl _)]; simp
          · rw [sm_succ c2, ih2 c2, show ((m + 1 : Nat) : Int) - s = ((m : Int) - s) + 1 by omega, Int.mul_add, Int.mul_one]
      rw [this n c1]; omega
theorem good_step (r : Rt S h c d N) {s n : Nat} {y : Nat → Int} (hn : n ≤ N) (hs : s < n) (hF : F n = F s + lot S h c d s n) (g : Good S h c d F s y) : Good S h c d F n (fun i => if i = s then sm d s n else y i) := by
  have hA0 : 0 ≤ sm d s n := sm_nonneg (fun i _ hi => r.d0 i (by omega))
  have st1 : ∀ m, m ≤ s → sm (fun i => (if i = s then sm d s n else y i) - d i) 0 m = sm (fun i => y i - d i) 0 m := fun m hm => sm_congr (fun i _ hi => by rw [if_neg (by omega)])
  have st2 : ∀ m, s < m → m ≤ n → sm (fun i => (if i = s then sm d s n else y i) - d i) 0 m = sm d m n := by
    intro m h1 h2
    rw [sm_split (Nat.zero_le s) m (by omega), st1 s (Nat.le_refl _), g.pl.last, sm_sub]
    have e1 : sm (fun i => if i = s then sm d s n else y i) s m = sm d s n := by
      rw [sm_split (m := s + 1) (by omega) m (by omega), sm_succ (Nat.le_refl _), sm_le (Nat.le_refl _)]
      rw [sm_congr (g := fun _ => 0) (s := s + 1) (fun i h3 h4 => by rw [if_neg (by omega)]; exact g.z i (by omega)), sm_zero]
      simp
    have e2 := sm_split (f := d) (show s ≤ m by omega) n h2
    omega
  refine ⟨⟨fun i hi => ?_, fun m hm => ?_, ?_⟩, fun i hi => ?_, ?_, fun i h1 h2 h3 => ?_⟩
  · split
    · exact hA0
    · rcases Nat.lt_or_ge i s with c1 | c1
      · exact g.pl.x0 i c1
      · rw [g.z i c1]; exact Int.le_refl _
  · rcases Nat.lt_or_ge s m with c1 | c1
    · rw [st2 m c1 hm]; exact sm_nonneg (fun i _ hi => r.d0 i (by omega))
    · rw [st1 m c1]; exact g.pl.st m c1
  · rw [st2 n hs (Nat.le_refl _), sm_le (Nat.le_refl _)]
  · rw [if_neg (by omega)]; exact g.z i (by omega)
  · have g2 := g.cost
    unfold cost keep ct at g2 ⊢
    rw [sm_split (Nat.zero_le s) n (by omega), sm_split (f := fun i => c i * (if i = s then sm d s n else y i) + h * sm (fun i => (if i = s then sm d s n else y i) - d i) 0 (i + 1)) (Nat.zero_le s) n (by omega)]
    have e1 : sm (fun i => if on (fun i => if i = s then sm d s n else y i) i = true then S else 0) 0 s = sm (fun i => if on y i = true then S else 0) 0 s := sm_congr (fun i _ hi => by simp [on, show i ≠ s by omega])
    have e2 : sm (fun i => if on (fun i => if i = s then sm d s n else y i) i = true then S else 0) s n = if 0 < sm d s n then S else 0 := by
      rw [sm_split (m := s + 1) (by omega) n (by omega), sm_succ (Nat.le_refl _), sm_le (Nat.le_refl _)]
      rw [sm_congr (g := fun _ => 0) (s := s + 1) (fun i h3 h4 => by simp [on, show i ≠ s by omega, g.z i (by omega)]), sm_zero]
      simp [on]
    have e3 : sm (fun i => c i * (if i = s then sm d s n else y i) + h * sm (fun i => (if i = s then sm d s n else y i) - d i) 0 (i + 1)) 0 s = sm (fun i => c i * y i + h * sm (fun i => y i - d i) 0 (i + 1)) 0 s :=
      sm_congr (fun i _ hi => by rw [st1 (i + 1) (by omega), if_neg (by omega)])
    have e4 : sm (fun i => c i * (if i = s then sm d s n else y i) + h * sm (fun i => (if i = s then sm d s n else y i) - d i) 0 (i + 1)) s n = sm (fun i => d i * way h c s i) s n := by
      rw [sm_congr (g := fun i => (if i = s then c s * sm d s n else 0) + h * sm d (i + 1) n) (fun i h3 h4 => by
        rw [st2 (i + 1) (by omega) (by omega)]
        by_cases c1 : i = s
        · subst c1; simp
        · rw [if_neg c1, if_neg c1, g.z i (by omega)]; simp), sm_add, sm_mul, stairs s n (by omega)]
      have e5 : sm (fun i => if i = s then c s * sm d s n else 0) s n = c s * sm d s n := by
        rw [sm_split (m := s + 1) (by omega) n (by omega), sm_succ (Nat.le_refl _), sm_le (Nat.le_refl _)]
        rw [sm_congr (g := fun _ => 0) (s := s + 1) (fun i h3 h4 => by rw [if_neg (by omega)]), sm_zero]
        simp
      rw [e5, ← sm_mul, ← sm_mul, ← sm_add]
      exact sm_congr (fun i _ _ => by unfold way; grind)
    rw [e1, e2, e3, e4, hF]
    unfold lot
    omega
  · by_cases c1 : i = s
    · subst c1
      rw [st1 i (Nat.le_refl _)]; exact g.pl.last
    · rw [if_neg c1] at h3
      rcases Nat.lt_or_ge i s with c2 | c2
      · rw [st1 i (by omega)]; exact g.tidy i h1 c2 h3
      · rw [g.z i c2] at h3; exact absurd h3 (by omega)

/-! The set of the hours in which a set's plan pumps leads to the same plan -/
theorem sg_first {a : Nat → Bool} : ∀ {t s : Nat}, sg h c a t = some s → ∀ s2, s2 < s → a s2 = true → way h c s t < way h c s2 t := by
  intro t
  induction t with
  | zero => intro s hs; have := (sg_some hs).1; omega
  | succ t ih =>
    intro s hs s2 h2 h3
    unfold sg at hs
    cases e : sg h c a t with
    | none =>
      rw [e] at hs
      cases e2 : a (t + 1) with
      | false => simp [e2] at hs
      | true =>
        simp [e2] at hs; subst hs
        rw [sg_none e s2 (by omega)] at h3; cases h3
    | some s1 =>
      rw [e] at hs
      simp only at hs
      split at hs
      · rename_i hc
        injection hs with hs; subst hs
        have h4 := (sg_some e).2.2 s2 (by omega) h3
        rw [way_self, way_move h c s2 t (t + 1)]
        have h5 := hc.2
        rw [way_move h c s1 t (t + 1)] at h5
        omega
      · injection hs with hs; subst hs
        have := ih e s2 h2 h3
        rw [way_move h c s1 t (t + 1), way_move h c s2 t (t + 1)]
        omega
theorem sg_sub {a b : Nat → Bool} {t s : Nat} (hs : sg h c a t = some s) (hb : b s = true) (hab : ∀ i, b i = true → a i = true) : sg h c b t = some s := by
  obtain ⟨s1, s2, s3⟩ := sg_some hs
  cases e : sg h c b t with
  | none => rw [sg_none e s s1] at hb; cases hb
  | some s' =>
    obtain ⟨t1, t2, t3⟩ := sg_some e
    have h1 := s3 s' t1 (hab _ t2)
    have h2 := t3 s s1 hb
    rcases Nat.lt_trichotomy s s' with c1 | c1 | c1
    · have := sg_first e s c1 hb; omega
    · rw [c1]
    · have := sg_first hs s' c1 (hab _ t2); omega
theorem px_again {a : Nat → Bool} (r : Rt S h c d N) (ok : okA h c d a N) :
    okA h c d (on (px h c d a N)) N ∧ ∀ i, px h c d (on (px h c d a N)) N i = px h c d a N i := by
  have key : ∀ u, u < N → d u ≠ 0 → ∃ s, sg h c a u = some s ∧ sg h c (on (px h c d a N)) u = some s := by
    intro u hu hd
    cases hs : sg h c a u with
    | none => exact absurd hs (ok u hu hd)
    | some s =>
      refine ⟨s, rfl, sg_sub hs ?_ (fun i hi => (px_on (by simpa [on] using hi)).1)⟩
      have h1 := sm_bump (f := fun v => if sg h c a v = some s then d v else 0) (g := fun _ => 0) (n := N) (s0 := u) (e := d u) (fun i hi => by split; exact r.d0 i hi; exact Int.le_refl _) hu (by rw [if_pos hs]; omega)
      rw [sm_zero] at h1
      have h2 := r.d0 u hu
      have h3 : d u ≤ px h c d a N s := by unfold px; omega
      simp [on]; omega
  refine ⟨fun u hu hd e => ?_, fun i => ?_⟩
  · obtain ⟨s, _, h2⟩ := key u hu hd
    rw [e] at h2; cases h2
  · unfold px
    refine sm_congr (fun u _ hu => ?_)
    by_cases hd : d u = 0
    · rw [hd]; simp
    · obtain ⟨s, h1, h2⟩ := key u hu hd
      have h3 : sg h c (on (fun i => sm (fun u => if sg h c a u = some i then d u else 0) 0 N)) u = some s := h2
      rw [h1]; first | rw [h3] | (rw [show sg h c (on (px h c d a N)) u = some s from h2])
/-! There are prices that are raised as far as all starts allow -/
def mq (q : Nat → Int) : Nat → Int
  | 0 => q 0
  | s + 1 => if q (s + 1) < mq q s then q (s + 1) else mq q s
theorem mq_le (q : Nat → Int) : ∀ n s, s ≤ n → mq q n ≤ q s := by
  intro n
  induction n with
  | zero => intro s hs; obtain rfl : s = 0 := by omega
            exact Int.le_refl _
  | succ n ih =>
    intro s hs
    unfold mq
    rcases Nat.lt_or_ge n s with c1 | c1
    · obtain rfl : s = n + 1 := by omega
      split <;> omega
    · have := ih s c1
      split <;> omega
theorem mq_ex (q : Nat → Int) : ∀ n, ∃ s, s ≤ n ∧ mq q n = q s := by
  intro n
  induction n with
  | zero => exact ⟨0, Nat.le_refl _, rfl⟩
  | succ n ih =>
    obtain ⟨s, h1, h2⟩ := ih
    unfold mq
    split
    · exact ⟨n + 1, Nat.le_refl _, rfl⟩
    · exact ⟨s, by omega, h2⟩
theorem ab_congr' {q q' : Nat → Int} {s n : Nat} (hq : ∀ j, j < n → q j = q' j) : ab h c d q s n = ab h c d q' s n := sm_congr (fun i _ hi => by rw [hq i hi])
theorem IsP_ex (S h : Int) (c d : Nat → Int) : ∀ N, ∃ p, IsP S h c d N p := by
  intro N
  induction N with
  | zero => exact ⟨fun _ => 0, fun n hn => by omega⟩
  | succ N ih =>
    obtain ⟨p, hp⟩ := ih
    obtain ⟨v, hv⟩ : ∃ v, v = (if d N = 0 then 0 else mq (fun s => d N * way h c s N + S - ab h c d p s N) N) := ⟨_, rfl⟩
    refine ⟨fun i => if i = N then v else p i, fun n hn => ?_⟩
    have e : ∀ s m, m ≤ N → ab h c d (fun i => if i = N then v else p i) s m = ab h c d p s m := fun s m hm => ab_congr' (fun j hj => if_neg (by omega))
    rcases Nat.lt_or_ge n N with c1 | c1
    · have := hp n c1
      have e1 : (fun i => if i = N then v else p i) n = p n := if_neg (by omega)
      rw [e1]
      refine ⟨this.1, fun hd => ?_⟩
      obtain ⟨g1, s, g2, g3⟩ := this.2 hd
      exact ⟨fun s hs => by rw [e s n (by omega)]; exact g1 s hs, s, g2, by rw [e s n (by omega)]; exact g3⟩
    · obtain rfl : n = N := by omega
      have e1 : (fun i => if i = n then v else p i) n = v := if_pos rfl
      rw [e1]
      refine ⟨fun hd => by rw [hv, if_pos hd], fun hd => ?_⟩
      have hv2 : v = mq (fun s => d n * way h c s n + S - ab h c d p s n) n := by rw [hv, if_neg hd]
      refine ⟨fun s hs => ?_, ?_⟩
      · rw [e s n (Nat.le_refl _), hv2]; exact mq_le (fun s => d n * way h c s n + S - ab h c d p s n) n s hs
      · obtain ⟨s, g1, g2⟩ := mq_ex (fun s => d n * way h c s n + S - ab h c d p s n) n
        exact ⟨s, g1, by rw [e s n (Nat.le_refl _), hv2]; exact g2⟩
theorem F_le_plan' (r : Rt S h c d N) (hF : IsF S h c d N F) {x : Nat → Int} (hx : Pl d N x) : F N ≤ cost S h c d x N := by
  obtain ⟨p, hp⟩ := IsP_ex S h c d N
  exact F_le_plan r hp hF hx
theorem F_mono' (r : Rt S h c d N) (hF : IsF S h c d N F) {n : Nat} (hn : n + 1 ≤ N) : F n ≤ F (n + 1) := by
  obtain ⟨p, hp⟩ := IsP_ex S h c d N
  exact F_mono r hp hF hn
theorem lot_congr {S h : Int} {c c' d d' : Nat → Int} {s n : Nat} (hs : s < n) (hc : ∀ i, i < n → c i = c' i) (hd : ∀ i, i < n → d i = d' i) : lot S h c d s n = lot S h c' d' s n := by
  unfold lot
  rw [sm_congr (f := d) (g := d') (fun i _ g2 => hd i g2), sm_congr (g := fun i => d' i * way h c' s i) (fun i _ g2 => by rw [hd i g2]; unfold way; rw [hc s hs])]
theorem F_congr {S h : Int} {c c' d d' : Nat → Int} {N : Nat} {F : Nat → Int} (hF : IsF S h c d N F) (hc : ∀ i, i < N → c i = c' i) (hd : ∀ i, i < N → d i = d' i) : IsF S h c' d' N F := by
  refine ⟨hF.1, fun n h1 h2 => ?_⟩
  obtain ⟨g1, s, g2, g3⟩ := hF.2 n h1 h2
  exact ⟨fun s hs => by rw [← lot_congr hs (fun i hi => hc i (by omega)) (fun i hi => hd i (by omega))]; exact g1 s hs, s, g2, by rw [← lot_congr g2 (fun i hi => hc i (by omega)) (fun i hi => hd i (by omega))]; exact g3⟩
theorem cost_congr {S h : Int} {cf df x y : Nat → Int} {n : Nat} (hxy : ∀ i, i < n → x i = y i) : cost S h cf df x n = cost S h cf df y n := by
  have e1 : ct S (on x) n = ct S (on y) n := sm_congr (fun i _ hi => by unfold on; rw [hxy i hi])
  have e2 : keep h cf df x n = keep h cf df y n := sm_congr (fun i _ hi => by
    have e3 : sm (fun i => x i - df i) 0 (i + 1) = sm (fun i => y i - df i) 0 (i + 1) := sm_congr (fun j _ hj => by rw [hxy j (by omega)])
    rw [hxy i hi, e3])
  unfold cost
  rw [e1, e2]
end Go.Proofs.Ytboefcikdfjfmaa.Am
/- Which tasks are valid; lists read as numbers. -/
set_option linter.unusedVariables false
namespace Go.Proofs.Ytboefcikdfjfmaa.Va
open Go.RowKit Go.Proofs.Ytboefcikdfjfmaa.P Go.Proofs.Ytboefcikdfjfmaa.E Go.Proofs.Ytboefcikdfjfmaa.Am Go.Proofs.YtboefcikdfjfmaaW.PrintMore Go.Proofs.YtboefcikdfjfmaaW.PrintWords

/-- A list, read as a function; 0 behind its end. -/
def fl (l : List Int) (i : Nat) : Int := l.getD i 0
theorem rd_fl (l : List Int) (i : Nat) : rd l (i : Int) = fl l i := rd_nat l i
theorem fl_lt {l : List Int} {i : Nat} (h : i < l.length) : fl l i = l[i] := by unfold fl; rw [List.getD_eq_getElem?_getD, List.getElem?_eq_getElem h]; rfl
theorem fl_ge {l : List Int} {i : Nat} (h : l.length ≤ i) : fl l i = 0 := by unfold fl; rw [List.getD_eq_getElem?_getD, List.getElem?_eq_none h]; rfl
theorem fl_set {l : List Int} {i : Nat} (j : Nat) (v : Int) (h : i < l.length) : fl (l.set i v) j = if j = i then v else fl l j := by
  unfold fl
  simp only [List.getD_eq_getElem?_getD]
  by_cases c : j = i
  · subst c; rw [if_pos rfl, List.getElem?_set_self h]; rfl
  · rw [if_neg c, List.getElem?_set_ne (by omega)]
theorem fl_snoc (l : List Int) (v : Int) (j : Nat) : fl (l ++ [v]) j = if j = l.length then v else fl l j := by
  unfold fl
  simp only [List.getD_eq_getElem?_getD]
  rcases Nat.lt_trichotomy j l.length with c | c | c
  · rw [if_neg (by omega), List.getElem?_append_left c]
  · subst c; simp
  · rw [if_neg (by omega), List.getElem?_eq_none (by simp; omega), List.getElem?_eq_none (by omega)]
theorem fl_take (l : List Int) (n j : Nat) : fl (l.take n) j = if j < n then fl l j else 0 := by
  unfold fl
  simp only [List.getD_eq_getElem?_getD]
  by_cases c : j < n
  · rw [if_pos c, List.getElem?_take_of_lt c]
  · rw [if_neg c, List.getElem?_eq_none (by rw [List.length_take]; omega)]; rfl
theorem fl_replicate (n : Nat) (j : Nat) : fl (List.replicate n 0) j = 0 := by
  unfold fl
  rw [List.getD_eq_getElem?_getD, List.getElem?_replicate]
  split <;> rfl
theorem fl_range (f : Nat → Int) (n j : Nat) : fl ((List.range n).map f) j = if j < n then f j else 0 := by
  unfold fl
  rw [List.getD_eq_getElem?_getD, List.getElem?_map]
  by_cases c : j < n
  · rw [List.getElem?_range c, if_pos c]; rfl
  · rw [List.getElem?_eq_none (by simpa using c), if_neg c]; rfl
theorem list_ext {l m : List Int} (h1 : l.length = m.length) (h2 : ∀ i, i < l.length → fl l i = fl m i) : l = m := by
  refine List.ext_getElem h1 (fun i a b => ?_)
  have := h2 i a
  rwa [fl_lt a, fl_lt b] at this
/-- A list has so many numbers, from 0 to m. -/
def allb (l : List Int) (n : Nat) (m : Int) : Bool := decide (l.length = n) && l.all fun x => decide (0 ≤ x ∧ x ≤ m)
theorem allb_iff {l : List Int} {n : Nat} {m : Int} (hm : 0 ≤ m) : allb l n m = true ↔ l.length = n ∧ ∀ i, 0 ≤ fl l i ∧ fl l i ≤ m := by
  unfold allb
  rw [Bool.and_eq_true, decide_eq_true_eq, List.all_eq_true]
  refine and_congr_right fun h => ⟨fun h2 i => ?_, fun h2 x hx => ?_⟩
  · rcases Nat.lt_or_ge i l.length with c | c
    · rw [fl_lt c]; simpa using h2 _ (List.getElem_mem c)
    · rw [fl_ge c]; exact ⟨Int.le_refl _, hm⟩
  · obtain ⟨i, hi, rfl⟩ := List.getElem_of_mem hx
    have := h2 i
    rw [fl_lt hi] at this
    simpa using this
theorem ev_within (a b c : Int) : air_within.f a b c = some (decide (b ≤ a ∧ a ≤ c)) := by
  unfold air_within.f
  by_cases h : b ≤ a
  · rw [if_pos h]; simp [h]
  · rw [if_neg h]; simp [h]
theorem ev_rwithin (a b c : Int) : diaphoneref03_within.f a b c = some (decide (b ≤ a ∧ a ≤ c)) := by
  unfold diaphoneref03_within.f
  by_cases h : b ≤ a
  · rw [if_pos h]; simp [h]
  · rw [if_neg h]; simp [h]
theorem ev_all {l : List Int} (hl : l.length ≤ 1000) (n : Nat) (m : Int) : air_all.f l (n : Int) m = some (allb l n m) := by
  unfold air_all.f
  rw [if_pos hl]
  congr 1
  unfold allb
  congr 1
  · simp only [decide_eq_decide]; omega
  · rw [List.all_eq_not_any_not]
    congr 2
    funext x
    simp
theorem rall_loop (l : List Int) (hl : l.length ≤ 1000) (m : Int) (e : Nat) : ∀ i : Nat, i ≤ l.length → l.length - i = e →
    Tl (fun k => diaphoneref03_all.l0 k l m (i : Int)) ((l.drop i).all fun x => decide (0 ≤ x ∧ x ≤ m)) := by
  induction e with
  | zero =>
    intro i hi hd
    obtain rfl : i = l.length := by omega
    refine Tl.succ ?_
    simp only [diaphoneref03_all.l0, List.drop_length, List.all_nil]
    exact Tl.neg (by omega) Tl.now
  | succ e ih =>
    intro i hi hd
    have hlt : i < l.length := by omega
    refine Tl.succ ?_
    simp only [diaphoneref03_all.l0]
    refine Tl.pos (by omega) (Tl.pos (by omega) (Tl.bind' (ev_rwithin _ _ _) ?_))
    rw [rd_lt hlt, List.drop_eq_getElem_cons hlt, List.all_cons]
    by_cases hr : 0 ≤ l[i] ∧ l[i] ≤ m
    · refine Tl.pos (decide_eq_true hr) ?_
      rw [w64 (by omega) (by omega)]
      have := ih (i + 1) (by omega) (by omega)
      rw [decide_eq_true hr, Bool.true_and]
      exact this
    · refine Tl.neg (by simpa using hr) ?_
      rw [decide_eq_false hr, Bool.false_and]
      exact Tl.now
theorem ev_rall {l : List Int} (hl : l.length ≤ 1000) (n : Nat) (m : Int) : Tl (fun k => diaphoneref03_all.f k l (n : Int) m) (allb l n m) := by
  unfold diaphoneref03_all.f allb
  by_cases c : l.length = n
  · refine Tl.pos (by omega) ?_
    rw [decide_eq_true c, Bool.true_and]
    exact rall_loop l hl m l.length 0 (by omega) (by omega)
  · refine Tl.neg (by omega) ?_
    rw [decide_eq_false c, Bool.false_and]
    exact Tl.now
/-- The first error of a task. -/
def vc (a0 a1 : Int) (c d : List Int) : Int := if (0 ≤ a0 ∧ a0 ≤ 999) ∧ (0 ≤ a1 ∧ a1 ≤ 20) ∧ (1 ≤ d.length ∧ d.length ≤ 12) ∧ allb c d.length 20 = true ∧ allb d d.length 50 = true then 0 else 1
/-- A valid task. -/
structure Ok (a0 a1 : Int) (c d : List Int) : Prop where
  s0 : 0 ≤ a0
  s1 : a0 ≤ 999
  k0 : 0 ≤ a1
  k1 : a1 ≤ 20
  n1 : 1 ≤ d.length
  n2 : d.length ≤ 12
  cl : c.length = d.length
  c0 : ∀ i, 0 ≤ fl c i
  c1 : ∀ i, fl c i ≤ 20
  d0 : ∀ i, 0 ≤ fl d i
  d1 : ∀ i, fl d i ≤ 50
theorem vc_ok {a0 a1 : Int} {c d : List Int} : vc a0 a1 c d = 0 ↔ Ok a0 a1 c d := by
  unfold vc
  constructor
  · intro h
    split at h
    · rename_i q
      obtain ⟨⟨q1, q2⟩, ⟨q3, q4⟩, ⟨q5, q6⟩, q7, q8⟩ := q
      have h1 := (allb_iff (by decide)).1 q7
      have h2 := (allb_iff (by decide)).1 q8
      exact ⟨q1, q2, q3, q4, q5, q6, h1.1, fun i => (h1.2 i).1, fun i => (h1.2 i).2, fun i => (h2.2 i).1, fun i => (h2.2 i).2⟩
    · cases h
  · intro ok
    rw [if_pos ⟨⟨ok.s0, ok.s1⟩, ⟨ok.k0, ok.k1⟩, ⟨ok.n1, ok.n2⟩, (allb_iff (by decide)).2 ⟨ok.cl, fun i => ⟨ok.c0 i, ok.c1 i⟩⟩, (allb_iff (by decide)).2 ⟨rfl, fun i => ⟨ok.d0 i, ok.d1 i⟩⟩⟩]
theorem vc_cases (a0 a1 : Int) (c d : List Int) : (vc a0 a1 c d = 0 ∧ Ok a0 a1 c d) ∨ (vc a0 a1 c d = 1 ∧ ¬ Ok a0 a1 c d) := by
  by_cases h : vc a0 a1 c d = 0
  · exact .inl ⟨h, vc_ok.1 h⟩
  · refine .inr ⟨?_, fun q => h (vc_ok.2 q)⟩
    unfold vc at h ⊢
    split at h
    · exact absurd rfl h
    · rename_i q; rw [if_neg q]
theorem ev_Validate {a0 a1 : Int} {c d : List Int} (hc : c.length ≤ 1000) (hd : d.length ≤ 1000) : air_Validate.f a0 a1 c d = some (vc a0 a1 c d) := by
  unfold air_Validate.f vc
  simp only [ev_within, ev_all hc, ev_all hd, Option.bind_some, decide_eq_true_eq]
  by_cases h1 : 0 ≤ a0 ∧ a0 ≤ 999
  · rw [if_pos h1]
    by_cases h2 : 0 ≤ a1 ∧ a1 ≤ 20
    · rw [if_pos h2]
      by_cases h3 : 1 ≤ d.length ∧ d.length ≤ 12
      · rw [if_pos (by omega)]
        by_cases h4 : allb c d.length 20 = true
        · rw [if_pos h4]
          by_cases h5 : allb d d.length 50 = true
          · rw [if_pos h5, if_pos ⟨h1, h2, h3, h4, h5⟩]
          · rw [if_neg h5, if_neg (fun q => h5 q.2.2.2.2)]
        · rw [if_neg h4, if_neg (fun q => h4 q.2.2.2.1)]
      · rw [if_neg (by omega), if_neg (fun q => h3 q.2.2.1)]
    · rw [if_neg h2, if_neg (fun q => h2 q.2.1)]
  · rw [if_neg h1, if_neg (fun q => h1 q.1)]
theorem ev_rValidate {a0 a1 : Int} {c d : List Int} (hc : c.length ≤ 1000) (hd : d.length ≤ 1000) : Tl (fun k => diaphoneref03_Validate.f k a0 a1 c d) (vc a0 a1 c d) := by
  unfold diaphoneref03_Validate.f vc
  simp only [ev_rwithin, Option.bind_some, decide_eq_true_eq]
  by_cases h1 : 0 ≤ a0 ∧ a0 ≤ 999
  · refine Tl.pos h1 ?_
    by_cases h2 : 0 ≤ a1 ∧ a1 ≤ 20
    · refine Tl.pos h2 ?_
      by_cases h3 : 1 ≤ d.length ∧ d.length ≤ 12
      · refine Tl.pos (by omega) (Tl.bind (ev_rall hc _ _) ?_)
        by_cases h4 : allb c d.length 20 = true
        · refine Tl.pos h4 (Tl.bind (ev_rall hd _ _) ?_)
          by_cases h5 : allb d d.length 50 = true
          · exact (Tl.pos h5 Tl.now).to (by rw [if_pos ⟨h1, h2, h3, h4, h5⟩])
          · exact (Tl.neg h5 Tl.now).to (by rw [if_neg (fun q => h5 q.2.2.2.2)])
        · exact (Tl.neg h4 Tl.now).to (by rw [if_neg (fun q => h4 q.2.2.2.1)])
      · exact (Tl.neg (by omega) Tl.now).to (by rw [if_neg (fun q => h3 q.2.2.1)])
    · exact (Tl.neg h2 Tl.now).to (by rw [if_neg (fun q => h2 q.2.1)])
  · exact (Tl.neg h1 Tl.now).to (by rw [if_neg (fun q => h1 q.1)])
theorem ev_large (l : List Int) : diaphonelaw03_large.f l = some (decide (100 < l.length)) := by
  unfold diaphonelaw03_large.f
  congr 1
  simp only [decide_eq_decide]; omega
theorem ev_Long (a0 a1 : Int) (c d : List Int) : diaphonelaw03_Long.f a0 a1 c d = some (decide (100 < c.length) || decide (100 < d.length)) := by
  unfold diaphonelaw03_Long.f
  simp only [ev_large, Option.bind_some]
  by_cases h : 100 < c.length
  · simp [h]
  · simp [h]
theorem sm_bound {f : Nat → Int} {B : Int} (hB : 0 ≤ B) {s : Nat} (n : Nat) (h : ∀ i, s ≤ i → i < n → 0 ≤ f i ∧ f i ≤ B) : 0 ≤ sm f s n ∧ sm f s n ≤ B * n := by
  refine ⟨sm_nonneg (fun i h1 h2 => (h i h1 h2).1), ?_⟩
  induction n with
  | zero => simp [sm]
  | succ n ih =>
    have h1 := ih (fun i h1 h2 => h i h1 (by omega))
    have e : B * ((n + 1 : Nat) : Int) = B * (n : Int) + B := by rw [show ((n + 1 : Nat) : Int) = (n : Int) + 1 by omega, Int.mul_add, Int.mul_one]
    rw [sm, e]
    split
    · rename_i c
      have := (h n c (by omega)).2
      omega
    · omega
theorem mul_bound {a b A B : Int} (ha : 0 ≤ a) (hA : a ≤ A) (hb : 0 ≤ b) (hB : b ≤ B) : 0 ≤ a * b ∧ a * b ≤ A * B :=
  ⟨Int.mul_nonneg ha hb, Int.mul_le_mul hA hB hb (by omega)⟩
theorem Ok.rt {a0 a1 : Int} {c d : List Int} (ok : Ok a0 a1 c d) : Rt a0 a1 (fl c) (fl d) d.length := ⟨ok.s0, ok.k0, fun i _ => ok.c0 i, fun i _ => ok.d0 i⟩
theorem Ok.take {a0 a1 : Int} {c d : List Int} (ok : Ok a0 a1 c d) {i : Nat} (h1 : 1 ≤ i) (h2 : i ≤ d.length) : Ok a0 a1 (c.take i) (d.take i) := by
  have hcl := ok.cl
  have := ok.n2
  have l1 : (c.take i).length = i := by rw [List.length_take]; omega
  have l2 : (d.take i).length = i := by rw [List.length_take]; omega
  exact ⟨ok.s0, ok.s1, ok.k0, ok.k1, by omega, by omega, by omega,
    fun j => by rw [fl_take]; split; exact ok.c0 j; decide, fun j => by rw [fl_take]; split; exact ok.c1 j; decide, fun j => by rw [fl_take]; split; exact ok.d0 j; decide, fun j => by rw [fl_take]; split; exact ok.d1 j; decide⟩
theorem way_bound {a0 a1 : Int} {c d : List Int} (ok : Ok a0 a1 c d) {s t : Nat} (hs : s ≤ t) (ht : t < d.length) : 0 ≤ way a1 (fl c) s t ∧ way a1 (fl c) s t ≤ 260 := by
  refine ⟨way_nonneg ok.k0 (ok.c0 s) hs, ?_⟩
  unfold way
  have := ok.n2
  have := (mul_bound (A := 20) (B := 12) ok.k0 ok.k1 (show (0 : Int) ≤ (t : Int) - s by omega) (by omega)).2
  have := ok.c1 s
  omega
end Go.Proofs.Ytboefcikdfjfmaa.Va
/- The least costs of the first hours, as the program finds them. -/
set_option linter.unusedVariables false
namespace Go.Proofs.Ytboefcikdfjfmaa.Fi
open Go.RowKit Go.Proofs.Ytboefcikdfjfmaa.P Go.Proofs.Ytboefcikdfjfmaa.E Go.Proofs.Ytboefcikdfjfmaa.Am Go.Proofs.Ytboefcikdfjfmaa.Va Go.Proofs.YtboefcikdfjfmaaW.PrintMore Go.Proofs.YtboefcikdfjfmaaW.PrintWords
variable {a0 a1 : Int} {c d : List Int}
theorem way_val (ok : Ok a0 a1 c d) {s t : Nat} (hst : s ≤ t) (ht : t < d.length) : wrap64 (fl c s + wrap64 (a1 * wrap64 ((t : Int) - (s : Int)))) = way a1 (fl c) s t := by
  have h1 := way_bound ok hst ht
  have h2 := ok.n2
  have h3 := mul_bound (A := 20) (B := 12) ok.k0 ok.k1 (show (0 : Int) ≤ (t : Int) - s by omega) (by omega)
  have h4 := ok.c0 s
  have h5 := ok.c1 s
  unfold way at h1 ⊢
  rw [w64 (x := (t : Int) - s) (by omega) (by omega), w64 (x := a1 * ((t : Int) - s)) (by omega) (by omega), w64 (by omega) (by omega)]
theorem ev_way (ok : Ok a0 a1 c d) {s t : Nat} (hst : s ≤ t) (ht : t < d.length) : air_way.f a0 a1 c d (s : Int) (t : Int) = some (way a1 (fl c) s t) := by
  unfold air_way.f
  rw [if_pos (by omega), if_pos (by have := ok.cl; omega), rd_fl, way_val ok hst ht]
theorem dw_bound (ok : Ok a0 a1 c d) {s t : Nat} (hst : s ≤ t) (ht : t < d.length) : 0 ≤ fl d t * way a1 (fl c) s t ∧ fl d t * way a1 (fl c) s t ≤ 13000 := by
  have h1 := way_bound ok hst ht
  exact mul_bound (A := 50) (B := 260) (ok.d0 t) (ok.d1 t) h1.1 h1.2
theorem lot_loop (ok : Ok a0 a1 c d) {s n : Nat} (hn : n ≤ d.length) (e : Nat) : ∀ i : Nat, s ≤ i → i ≤ n → n - i = e →
    Tl (fun k => air_lot.l0 k (s : Int) (n : Int) (sm (fun i => fl d i * way a1 (fl c) s i) s i) (sm (fl d) s i) (i : Int) a0 a1 c d) (lot a0 a1 (fl c) (fl d) s n, sm (fl d) s n) := by
  induction e with
  | zero =>
    intro i h1 h2 h3
    obtain rfl : i = n := by omega
    refine Tl.succ ?_
    simp only [air_lot.l0]
    refine Tl.neg (by omega) ?_
    have b1 := sm_bound (f := fun i => fl d i * way a1 (fl c) s i) (B := 13000) (by decide) (s := s) i (fun j g1 g2 => dw_bound ok g1 (by omega))
    unfold lot
    by_cases hp : 0 < sm (fl d) s i
    · refine Tl.pos hp ?_
      rw [if_pos hp, w64 (by have := ok.s0; omega) (by have := ok.s1; have := ok.n2; omega)]
      exact Tl.now
    · refine Tl.neg hp ?_
      rw [if_neg hp, Int.add_zero]
      exact Tl.now
  | succ e ih =>
    intro i h1 h2 h3
    refine Tl.succ ?_
    simp only [air_lot.l0]
    refine Tl.pos (by omega) (Tl.pos (by omega) (Tl.pos (by omega) (Tl.bind' (ev_way ok h1 (by omega)) ?_)))
    have b1 := sm_bound (f := fun i => fl d i * way a1 (fl c) s i) (B := 13000) (by decide) (s := s) i (fun j g1 g2 => dw_bound ok g1 (by omega))
    have b2 := sm_bound (f := fl d) (B := 50) (by decide) (s := s) i (fun j g1 g2 => ⟨ok.d0 j, ok.d1 j⟩)
    have b3 := dw_bound ok h1 (show i < d.length by omega)
    have := ok.n2
    have := ok.d0 i
    have := ok.d1 i
    rw [rd_fl, w64 (x := fl d i * way a1 (fl c) s i) (by omega) (by omega), w64 (x := sm (fun i => fl d i * way a1 (fl c) s i) s i + fl d i * way a1 (fl c) s i) (by omega) (by omega), w64 (x := sm (fl d) s i + fl d i) (by omega) (by omega), w64 (x := (i : Int) + 1) (by omega) (by omega)]
    have := ih (i + 1) (by omega) (by omega) (by omega)
    rw [sm_succ h1, sm_succ h1] at this
    exact this
theorem ev_lot (ok : Ok a0 a1 c d) {s n : Nat} (hs : s ≤ n) (hn : n ≤ d.length) : Tl (fun k => air_lot.f k a0 a1 c d (s : Int) (n : Int)) (lot a0 a1 (fl c) (fl d) s n, sm (fl d) s n) := by
  unfold air_lot.f
  have := lot_loop ok hn (n - s) s (Nat.le_refl _) hs rfl
  rw [sm_le (Nat.le_refl _), sm_le (Nat.le_refl _)] at this
  exact this
theorem lot_bound (ok : Ok a0 a1 c d) {s n : Nat} (hn : n ≤ d.length) : 0 ≤ lot a0 a1 (fl c) (fl d) s n ∧ lot a0 a1 (fl c) (fl d) s n ≤ 157000 := by
  have b1 := sm_bound (f := fun i => fl d i * way a1 (fl c) s i) (B := 13000) (by decide) (s := s) n (fun j g1 g2 => dw_bound ok g1 (by omega))
  have := ok.n2
  have := ok.s0
  have := ok.s1
  unfold lot
  split <;> omega
theorem row_loop (ok : Ok a0 a1 c d) {n : Nat} (hn : n ≤ d.length) {cs bs : List Int} (hb : ∀ s, s < n → 0 ≤ fl cs s ∧ fl cs s ≤ 157000) : ∀ s, 1 ≤ s → s ≤ n →
    ∃ b, b < s ∧ Tl (fun k => air_firsts.row k a0 a1 c d cs bs n s) (fl cs b + lot a0 a1 (fl c) (fl d) b n, (b : Int)) ∧ ∀ t, t < s → fl cs b + lot a0 a1 (fl c) (fl d) b n ≤ fl cs t + lot a0 a1 (fl c) (fl d) t n := by
  intro s
  induction s with
  | zero => intro h; omega
  | succ s ih =>
    intro _ hs
    have hl := lot_bound ok (s := s) hn
    have hbs := hb s (by omega)
    have hw : wrap64 (fl cs s + lot a0 a1 (fl c) (fl d) s n) = fl cs s + lot a0 a1 (fl c) (fl d) s n := w64 (by omega) (by omega)
    by_cases h0 : s = 0
    · subst h0
      refine ⟨0, by omega, ?_, fun t ht => by obtain rfl : t = 0 := by omega
                                              exact Int.le_refl _⟩
      simp only [air_firsts.row]
      refine Tl.bind' rfl (Tl.bind (ev_lot ok (Nat.zero_le _) hn) (Tl.pos (.inl trivial) ?_))
      simp only
      rw [rd_fl, hw]
      exact Tl.now
    · obtain ⟨b, hb1, hb2, hb3⟩ := ih (by omega) (by omega)
      by_cases h1 : fl cs s + lot a0 a1 (fl c) (fl d) s n < fl cs b + lot a0 a1 (fl c) (fl d) b n
      · refine ⟨s, by omega, ?_, fun t ht => ?_⟩
        · simp only [air_firsts.row]
          refine Tl.bind hb2 (Tl.bind (ev_lot ok (by omega) hn) ?_)
          simp only
          rw [rd_fl, hw]
          exact Tl.pos (.inr h1) Tl.now
        · rcases Nat.lt_or_ge t s with c1 | c1
          · have := hb3 t c1; omega
          · obtain rfl : t = s := by omega
            exact Int.le_refl _
      · refine ⟨b, by omega, ?_, fun t ht => ?_⟩
        · simp only [air_firsts.row]
          refine Tl.bind hb2 (Tl.bind (ev_lot ok (by omega) hn) ?_)
          simp only
          rw [rd_fl, hw]
          exact Tl.neg (fun h => h.elim h0 h1) Tl.now
        · rcases Nat.lt_or_ge t s with c1 | c1
          · exact hb3 t c1
          · obtain rfl : t = s := by omega
            omega
/-- What the program finds. -/
structure Fst (a0 a1 : Int) (c d cs bs : List Int) : Prop where
  ev : Tl (fun k => air_firsts.f k a0 a1 c d) (cs, bs)
  l1 : cs.length = d.length + 1
  l2 : bs.length = d.length + 1
  F : IsF a0 a1 (fl c) (fl d) d.length (fl cs)
  b : ∀ n, 1 ≤ n → n ≤ d.length → ∃ s : Nat, fl bs n = s ∧ s < n ∧ fl cs n = fl cs s + lot a0 a1 (fl c) (fl d) s n
  le : ∀ n, n ≤ d.length → 0 ≤ fl cs n ∧ fl cs n ≤ 157000
theorem firsts_ex (ok : Ok a0 a1 c d) : ∃ cs bs, Fst a0 a1 c d cs bs := by
  have key : ∀ m, m ≤ d.length + 1 → ∃ cs bs, Tl (fun k => air_firsts.go k a0 a1 c d m) (cs, bs) ∧ cs.length = d.length + 1 ∧ bs.length = d.length + 1 ∧ fl cs 0 = 0 ∧
      ∀ n, 1 ≤ n → n < m → (∀ s, s < n → fl cs n ≤ fl cs s + lot a0 a1 (fl c) (fl d) s n) ∧ (∃ s : Nat, fl bs n = s ∧ s < n ∧ fl cs n = fl cs s + lot a0 a1 (fl c) (fl d) s n) ∧ 0 ≤ fl cs n ∧ fl cs n ≤ 157000 := by
    intro m
    induction m with
    | zero => intro _; exact ⟨_, _, Tl.now, by simp, by simp, fl_replicate _ _, fun n h1 h2 => by omega⟩
    | succ m ih =>
      intro hm
      obtain ⟨cs, bs, h1, h2, h3, h4, h5⟩ := ih (by omega)
      by_cases h0 : m = 0
      · subst h0
        exact ⟨cs, bs, Tl.bind h1 (Tl.pos rfl Tl.now), h2, h3, h4, fun n g1 g2 => by omega⟩
      · have hbd : ∀ s, s < m → 0 ≤ fl cs s ∧ fl cs s ≤ 157000 := by
          intro s hs
          by_cases c1 : s = 0
          · subst c1; rw [h4]; decide
          · exact (h5 s (by omega) hs).2.2
        obtain ⟨b, g1, g2, g3⟩ := row_loop ok (n := m) (by omega) (cs := cs) (bs := bs) hbd m (by omega) (Nat.le_refl _)
        have e1 : ∀ j, fl (cs.set m (fl cs b + lot a0 a1 (fl c) (fl d) b m)) j = if j = m then fl cs b + lot a0 a1 (fl c) (fl d) b m else fl cs j := fun j => fl_set j _ (by omega)
        have e2 : ∀ j, fl (bs.set m (b : Int)) j = if j = m then (b : Int) else fl bs j := fun j => fl_set j _ (by omega)
        refine ⟨_, _, Tl.bind h1 (Tl.neg h0 (Tl.bind g2 Tl.now)), by simpa using h2, by simpa using h3, by rw [e1, if_neg (by omega)]; exact h4, fun n q1 q2 => ?_⟩
        by_cases c1 : n = m
        · subst c1
          rw [e1, if_pos rfl]
          refine ⟨fun s hs => by rw [e1, if_neg (by omega)]; exact g3 s hs, ⟨b, by rw [e2, if_pos rfl], g1, by rw [e1, if_neg (by omega)]⟩, ?_⟩
          have k1 := hbd b g1
          have k2 := lot_bound ok (s := b) (n := n) (by omega)
          have k3 := g3 0 (by omega)
          have k4 := lot_bound ok (s := 0) (n := n) (by omega)
          rw [h4] at k3
          omega
        · obtain ⟨q3, ⟨s, q4, q5, q6⟩, q7⟩ := h5 n q1 (by omega)
          rw [e1, if_neg c1]
          exact ⟨fun s hs => by rw [e1, if_neg (by omega)]; exact q3 s hs, ⟨s, by rw [e2, if_neg c1]; exact q4, q5, by rw [e1, if_neg (by omega)]; exact q6⟩, q7⟩
  obtain ⟨cs, bs, h1, h2, h3, h4, h5⟩ := key (d.length + 1) (Nat.le_refl _)
  refine ⟨cs, bs, ?_, h2, h3, ⟨h4, fun n g1 g2 => ?_⟩, fun n g1 g2 => (h5 n g1 (by omega)).2.1, fun n g1 => ?_⟩
  · unfold air_firsts.f
    exact Tl.pos (by have := ok.n2; omega) h1
  · obtain ⟨q1, ⟨s, q2, q3, q4⟩, _⟩ := h5 n g1 (by omega)
    exact ⟨q1, s, q3, q4⟩
  · by_cases c1 : n = 0
    · subst c1; rw [h4]; decide
    · exact (h5 n (by omega) (by omega)).2.2
theorem ev_Least {cs bs : List Int} (ok : Ok a0 a1 c d) (f : Fst a0 a1 c d cs bs) : Tl (fun k => air_Least.f k a0 a1 c d) (fl cs d.length, 0) := by
  unfold air_Least.f
  have := ok.n2
  refine Tl.bind' (ev_Validate (by have := ok.cl; omega) (by omega)) (Tl.pos (vc_ok.2 ok) (Tl.bind f.ev ?_))
  simp only
  have hl := f.l1
  have e : wrap64 ((cs.length : Int) - 1) = (d.length : Int) := by rw [w64 (by omega) (by omega)]; omega
  rw [e, rd_fl]
  exact Tl.pos (by omega) (Tl.pos (by omega) Tl.now)
theorem ev_Least_no (h1 : c.length ≤ 1000) (h2 : d.length ≤ 1000) (no : vc a0 a1 c d ≠ 0) : Tl (fun k => air_Least.f k a0 a1 c d) (0, vc a0 a1 c d) := by
  unfold air_Least.f
  exact Tl.bind' (ev_Validate h1 h2) (Tl.neg no Tl.now)
theorem ev_Firsts {cs bs : List Int} (ok : Ok a0 a1 c d) (f : Fst a0 a1 c d cs bs) : Tl (fun k => air_Firsts.f k a0 a1 c d) (cs, 0) := by
  unfold air_Firsts.f
  have := ok.n2
  exact Tl.bind' (ev_Validate (by have := ok.cl; omega) (by omega)) (Tl.pos (vc_ok.2 ok) (Tl.bind f.ev Tl.now))
theorem ev_Firsts_no (h1 : c.length ≤ 1000) (h2 : d.length ≤ 1000) (no : vc a0 a1 c d ≠ 0) : Tl (fun k => air_Firsts.f k a0 a1 c d) ([], vc a0 a1 c d) := by
  unfold air_Firsts.f
  exact Tl.bind' (ev_Validate h1 h2) (Tl.neg no Tl.now)
end Go.Proofs.Ytboefcikdfjfmaa.Fi
