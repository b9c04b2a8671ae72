/- What the last law of the chapter needs of the plain laws: lots, prices, plans, plans by sets of hours, and how many sets are best. -/
import Derived.Test.YtboefcikdfjfmaaWWords
import Derived.Test.YtboefcikdfjfmaaWMore
import Derived.Laws.BitsLemmas
import Derived.Test.YtboefcikdfjfmaaPx1
import Derived.Test.YtboefcikdfjfmaaPx14
import Derived.Test.YtboefcikdfjfmaaPx7
import Derived.Test.YtboefcikdfjfmaaPx2
import Derived.Test.YtboefcikdfjfmaaPx1
import Derived.Test.YtboefcikdfjfmaaPx20
import Derived.Test.YtboefcikdfjfmaaPx5
import Derived.Test.YtboefcikdfjfmaaPx38
import Derived.Test.YtboefcikdfjfmaaPx42
import Derived.Test.YtboefcikdfjfmaaPx42
import Derived.Test.YtboefcikdfjfmaaPx44
import Derived.Test.YtboefcikdfjfmaaPx54
import Derived.Test.YtboefcikdfjfmaaPx45
import Derived.Test.YtboefcikdfjfmaaPx46
import Derived.Test.YtboefcikdfjfmaaPx22
set_option linter.unusedVariables false
namespace Go.Proofs.Ytboefcikdfjfmaa.E
open Go.RowKit Go.Proofs.YtboefcikdfjfmaaW.PrintWords Go.Proofs.YtboefcikdfjfmaaW.PrintMore
/-- From some number of rounds on, g answers r. -/
def Tl {α : Type} (g : Nat → Option α) (r : α) : Prop := ∃ K, ∀ k, K ≤ k → g k = some r
theorem Tl.now {α : Type} {r : α} : Tl (fun _ => some r) r := ⟨0, fun _ _ => rfl⟩
theorem Tl.of {α : Type} {o : Option α} {r : α} (h : o = some r) : Tl (fun _ => o) r := ⟨0, fun _ _ => h⟩
theorem Tl.mono {α : Type} {g : Nat → Option α} {r : α} (hm : ∀ k, LeO (g k) (g (k + 1))) (k : Nat) (h : g k = some r) : Tl g r := ⟨k, fun _ hk => at_rounds hm hk h⟩
theorem Tl.succ {α : Type} {g : Nat → Option α} {r : α} (h : Tl (fun k => g (k + 1)) r) : Tl g r := by
  obtain ⟨K, hK⟩ := h
  refine ⟨K + 1, fun k hk => ?_⟩
  obtain ⟨m, rfl⟩ : ∃ m, k = m + 1 := ⟨k - 1, by omega⟩
  exact hK m (by omega)
theorem Tl.bind {α β : Type} {g : Nat → Option α} {f : Nat → α → Option β} {a : α} {r : β} (h : Tl g a) (hf : Tl (fun k => f k a) r) : Tl (fun k => (g k).bind (f k)) r := by
  obtain ⟨K, hK⟩ := h
  obtain ⟨L, hL⟩ := hf
  refine ⟨max K L, fun k hk => ?_⟩
  show (g k).bind (f k) = some r
  rw [hK k (by omega)]
  exact hL k (by omega)
theorem Tl.bind' {α β : Type} {o : Option α} {f : Nat → α → Option β} {a : α} {r : β} (h : o = some a) (hf : Tl (fun k => f k a) r) : Tl (fun k => o.bind (f k)) r := by
  rw [h]; exact hf
theorem Tl.congr {α : Type} {g g' : Nat → Option α} {r : α} (h : Tl g r) (e : ∀ k, g' k = g k) : Tl g' r := by
  obtain ⟨K, hK⟩ := h
  exact ⟨K, fun k hk => (e k).trans (hK k hk)⟩
theorem Tl.to {α : Type} {g : Nat → Option α} {r r' : α} (h : Tl g r) (e : r = r') : Tl g r' := e ▸ h
theorem Tl.ex {α : Type} {g : Nat → Option α} {r : α} (h : Tl g r) : ∃ k, g k = some r := by
  obtain ⟨K, hK⟩ := h
  exact ⟨K, hK K (Nat.le_refl _)⟩
theorem Tl.pos {α : Type} {c : Prop} [Decidable c] {g g' : Nat → Option α} {r : α} (hc : c) (h : Tl g r) : Tl (fun k => if c then g k else g' k) r := by
  simpa only [if_pos hc] using h
theorem Tl.neg {α : Type} {c : Prop} [Decidable c] {g g' : Nat → Option α} {r : α} (hc : ¬ c) (h : Tl g' r) : Tl (fun k => if c then g k else g' k) r := by
  simpa only [if_neg hc] using h
theorem Tl.ite {α : Type} {c : Prop} [Decidable c] {g g' : Nat → Option α} {r r' : α} (h : c → Tl g r) (h' : ¬ c → Tl g' r') : Tl (fun k => if c then g k else g' k) (if c then r else r') := by
  by_cases hc : c
  · simpa only [if_pos hc] using h hc
  · simpa only [if_neg hc] using h' hc
theorem w64 {x : Int} (h1 : -9223372036854775808 ≤ x) (h2 : x < 9223372036854775808) : wrap64 x = x := by
  unfold wrap64
  omega
theorem wf64 {x : Int} (h : (Lit.int .i64 x).wf = true) : -9223372036854775808 ≤ x ∧ x < 9223372036854775808 := by
  simp only [Lit.wf, IntKind.min, IntKind.max, IntKind.signed, IntKind.bits, Bool.and_eq_true, decide_eq_true_eq, if_true] at h
  omega
theorem mx_eq (a b : Int) : mx a b = max a b := by unfold mx; omega
theorem mn_eq (a b : Int) : mn a b = min a b := by unfold mn; omega
theorem rd_nat (xs : List Int) (i : Nat) : rd xs (i : Int) = xs.getD i 0 := by simp [rd]
theorem rd_lt {xs : List Int} {i : Nat} (h : i < xs.length) : rd xs (i : Int) = xs[i] := by rw [rd_nat, List.getD_eq_getElem?_getD, List.getElem?_eq_getElem h]; rfl
end Go.Proofs.Ytboefcikdfjfmaa.E
namespace Go.Proofs.Ytboefcikdfjfmaa.Am
/-- The sum over the numbers from s up to, but without, n. -/
def sm (f : Nat → Int) (s : Nat) : Nat → Int
  | 0 => 0
  | n + 1 => sm f s n + (if s ≤ n then f n else 0)
theorem sm_le {f : Nat → Int} {s n : Nat} (h : n ≤ s) : sm f s n = 0 := by
  induction n with
  | zero => rfl
  | succ n ih => rw [sm, ih (by omega), if_neg (by omega)]; rfl
theorem sm_succ {f : Nat → Int} {s n : Nat} (h : s ≤ n) : sm f s (n + 1) = sm f s n + f n := by rw [sm, if_pos h]
theorem sm_split {f : Nat → Int} {s m : Nat} (h : s ≤ m) (n : Nat) (hn : m ≤ n) : sm f s n = sm f s m + sm f m n := by
  induction n with
  | zero => obtain rfl : m = 0 := by omega
            simp [sm]
  | succ n ih =>
    rcases Nat.lt_or_ge n m with c | c
    · obtain rfl : m = n + 1 := by omega
      rw [sm_le (f := f) (s := n + 1) (Nat.le_refl _)]; omega
    · rw [sm_succ (by omega), sm_succ c, ih c]; omega
theorem sm_mono {f g : Nat → Int} {s n : Nat} (h : ∀ i, s ≤ i → i < n → f i ≤ g i) : sm f s n ≤ sm g s n := by
  induction n with
  | zero => exact Int.le_refl _
  | succ n ih =>
    have := ih (fun i h1 h2 => h i h1 (by omega))
    rw [sm, sm]
    by_cases c : s ≤ n
    · rw [if_pos c, if_pos c]; have := h n c (by omega); omega
    · rw [if_neg c, if_neg c]; omega
theorem sm_congr {f g : Nat → Int} {s n : Nat} (h : ∀ i, s ≤ i → i < n → f i = g i) : sm f s n = sm g s n :=
  Int.le_antisymm (sm_mono (fun i h1 h2 => Int.le_of_eq (h i h1 h2))) (sm_mono (fun i h1 h2 => Int.le_of_eq (h i h1 h2).symm))
theorem sm_zero (s n : Nat) : sm (fun _ => 0) s n = 0 := by
  induction n with
  | zero => rfl
  | succ n ih => rw [sm, ih]; split <;> rfl
theorem sm_nonneg {f : Nat → Int} {s n : Nat} (h : ∀ i, s ≤ i → i < n → 0 ≤ f i) : 0 ≤ sm f s n := by
  have := sm_mono (f := fun _ => 0) (g := f) h
  rwa [sm_zero] at this
theorem sm_add (f g : Nat → Int) (s n : Nat) : sm (fun i => f i + g i) s n = sm f s n + sm g s n := by
  induction n with
  | zero => rfl
  | succ n ih => rw [sm, sm, sm, ih]; by_cases c : s ≤ n <;> simp [c] <;> omega
theorem sm_sub (f g : Nat → Int) (s n : Nat) : sm (fun i => f i - g i) s n = sm f s n - sm g s n := by
  induction n with
  | zero => rfl
  | succ n ih => rw [sm, sm, sm, ih]; by_cases c : s ≤ n <;> simp [c] <;> omega
theorem sm_mul (b : Int) (f : Nat → Int) (s n : Nat) : sm (fun i => b * f i) s n = b * sm f s n := by
  induction n with
  | zero => simp [sm]
  | succ n ih => rw [sm, sm, ih, Int.mul_add]; by_cases c : s ≤ n <;> simp [c]
theorem sm_bump {f g : Nat → Int} {n s0 : Nat} {e : Int} (h : ∀ i, i < n → g i ≤ f i) (hs : s0 < n) (he : g s0 + e ≤ f s0) : sm g 0 n + e ≤ sm f 0 n := by
  induction n with
  | zero => omega
  | succ n ih =>
    rw [sm_succ (Nat.zero_le _), sm_succ (Nat.zero_le _)]
    rcases Nat.lt_or_ge s0 n with c | c
    · have := ih (fun i hi => h i (by omega)) c
      have := h n (by omega)
      omega
    · obtain rfl : s0 = n := by omega
      have := sm_mono (f := g) (g := f) (s := 0) (n := s0) (fun i _ hi => h i (by omega))
      omega
theorem sm_single (s n : Nat) (v : Int) : sm (fun i => if i = s then v else 0) 0 n = if s < n then v else 0 := by
  induction n with
  | zero => simp [sm]
  | succ n ih =>
    rw [sm_succ (Nat.zero_le _), ih]
    by_cases c : n = s
    · subst c; simp
    · rw [if_neg c]
      by_cases c2 : s < n
      · rw [if_pos c2, if_pos (by omega)]; omega
      · rw [if_neg c2, if_neg (by omega)]; omega
theorem sm_between (s k n : Nat) (v : Int) (h : s ≤ k) (hk : k ≤ n) : sm (fun i => if s ≤ i ∧ i < k then v else 0) 0 n = v * ((k : Int) - s) := by
  have key : ∀ m : Nat, sm (fun i => if s ≤ i ∧ i < k then v else 0) 0 m = v * ((min k (max s m) : Nat) - (s : Int)) := by
    intro m
    induction m with
    | zero => rw [show min k (max s 0) = s by omega]; simp [sm]
    | succ m ih =>
      rw [sm_succ (Nat.zero_le _), ih]
      by_cases c : s ≤ m ∧ m < k
      · rw [if_pos c, show min k (max s (m + 1)) = m + 1 by omega, show min k (max s m) = m by omega]
        have : ((m + 1 : Nat) : Int) - s = ((m : Int) - s) + 1 := by omega
        rw [this, Int.mul_add, Int.mul_one]
      · rw [if_neg c, show min k (max s (m + 1)) = min k (max s m) by omega]; omega
  rw [key, show min k (max s n) = k by omega]
/-- What a unit costs that is pumped in s for t. -/
def way (h : Int) (c : Nat → Int) (s t : Nat) : Int := c s + h * ((t : Int) - s)
theorem way_self (h : Int) (c : Nat → Int) (t : Nat) : way h c t t = c t := by simp [way]
theorem way_move (h : Int) (c : Nat → Int) (s t u : Nat) : way h c s u = way h c s t + h * ((u : Int) - t) := by
  unfold way
  have : (u : Int) - s = ((t : Int) - s) + ((u : Int) - t) := by omega
  rw [this, Int.mul_add]; omega
theorem way_nonneg {h : Int} {c : Nat → Int} {s t : Nat} (hh : 0 ≤ h) (hc : 0 ≤ c s) (hs : s ≤ t) : 0 ≤ way h c s t := by
  unfold way
  have := Int.mul_nonneg hh (show (0 : Int) ≤ (t : Int) - s by omega)
  omega
/-- The amount and the cost of a lot. -/
def lot (S h : Int) (c d : Nat → Int) (s n : Nat) : Int := sm (fun i => d i * way h c s i) s n + (if 0 < sm d s n then S else 0)
/-- What is told of the least costs of the first hours. -/
def IsF (S h : Int) (c d : Nat → Int) (N : Nat) (F : Nat → Int) : Prop :=
  F 0 = 0 ∧ ∀ n, 1 ≤ n → n ≤ N → (∀ s, s < n → F n ≤ F s + lot S h c d s n) ∧ ∃ s, s < n ∧ F n = F s + lot S h c d s n
/-- What the prices are above the needs, from an hour on. -/
def ab (h : Int) (c d p : Nat → Int) (s n : Nat) : Int := sm (fun t => max 0 (p t - d t * way h c s t)) s n
/-- The prices that are raised as far as all starts allow. -/
def IsP (S h : Int) (c d : Nat → Int) (N : Nat) (p : Nat → Int) : Prop :=
  ∀ n, n < N → (d n = 0 → p n = 0) ∧ (d n ≠ 0 → (∀ s, s ≤ n → p n ≤ d n * way h c s n + S - ab h c d p s n) ∧ ∃ s, s ≤ n ∧ p n = d n * way h c s n + S - ab h c d p s n)
structure Rt (S h : Int) (c d : Nat → Int) (N : Nat) : Prop where
  S0 : 0 ≤ S
  h0 : 0 ≤ h
  c0 : ∀ i, i < N → 0 ≤ c i
  d0 : ∀ i, i < N → 0 ≤ d i
theorem Rt.le {S h : Int} {c d : Nat → Int} {N n : Nat} (r : Rt S h c d N) (hn : n ≤ N) : Rt S h c d n := ⟨r.S0, r.h0, fun i hi => r.c0 i (by omega), fun i hi => r.d0 i (by omega)⟩
variable {S h : Int} {c d : Nat → Int} {N : Nat} {F p : Nat → Int}
theorem ab_succ {q : Nat → Int} {s n : Nat} (hs : s ≤ n) : ab h c d q s (n + 1) = ab h c d q s n + max 0 (q n - d n * way h c s n) := sm_succ hs
theorem ab_le {q : Nat → Int} {s m n : Nat} (hm : m ≤ n) : ab h c d q s m ≤ ab h c d q s n := by
  rcases Nat.lt_or_ge s m with c1 | c1
  · unfold ab
    rw [sm_split (by omega) n hm]
    have := sm_nonneg (f := fun t => max 0 (q t - d t * way h c s t)) (s := m) (n := n) (fun i _ _ => by omega)
    omega
  · unfold ab
    rw [sm_le c1]
    exact sm_nonneg (fun i _ _ => by omega)
theorem ab_nonneg {q : Nat → Int} (s n : Nat) : 0 ≤ ab h c d q s n := sm_nonneg (fun i _ _ => by omega)
theorem feas (r : Rt S h c d N) (hp : IsP S h c d N p) : ∀ n, n ≤ N → ∀ s, ab h c d p s n ≤ S := by
  intro n
  induction n with
  | zero => intro _ s; exact r.S0
  | succ n ih =>
    intro hn s
    rcases Nat.lt_or_ge n s with c1 | c1
    · unfold ab; rw [sm_le (by omega)]; exact r.S0
    · rw [ab_succ c1]
      have := ih (by omega) s
      by_cases hd : d n = 0
      · rw [(hp n (by omega)).1 hd, hd]; simp; exact this
      · have := ((hp n (by omega)).2 hd).1 s c1
        omega
theorem p_nonneg (r : Rt S h c d N) (hp : IsP S h c d N p) {n : Nat} (hn : n < N) : 0 ≤ p n := by
  by_cases hd : d n = 0
  · rw [(hp n hn).1 hd]; exact Int.le_refl _
  · obtain ⟨s, hs, he⟩ := ((hp n hn).2 hd).2
    have := feas r hp n (by omega) s
    have := Int.mul_nonneg (r.d0 n hn) (way_nonneg (t := n) r.h0 (r.c0 s (by omega)) hs)
    omega
theorem tight (r : Rt S h c d N) (hp : IsP S h c d N p) {n : Nat} (hn : n < N) (hd : d n ≠ 0) : ∃ s, s ≤ n ∧ d n * way h c s n ≤ p n ∧ ab h c d p s (n + 1) = S := by
  obtain ⟨s, hs, he⟩ := ((hp n hn).2 hd).2
  have := feas r hp n (by omega) s
  refine ⟨s, hs, by omega, ?_⟩
  rw [ab_succ hs]; omega
theorem after (r : Rt S h c d N) (hp : IsP S h c d N p) {s m t : Nat} (hm : ab h c d p s m = S) (hs : s ≤ t) (ht : m ≤ t) (hN : t < N) : p t ≤ d t * way h c s t := by
  have h1 := feas r hp (t + 1) (by omega) s
  rw [ab_succ hs] at h1
  have h2 := ab_le (h := h) (c := c) (d := d) (q := p) (s := s) ht
  omega
theorem F_le_p (r : Rt S h c d N) (hp : IsP S h c d N p) (hF : IsF S h c d N F) : ∀ n, n ≤ N → F n ≤ sm p 0 n := by
  intro n
  induction n using Nat.strongRecOn with
  | ind n ih =>
    intro hn
    cases n with
    | zero => rw [hF.1]; exact Int.le_refl _
    | succ n =>
      obtain ⟨hle, _⟩ := hF.2 (n + 1) (by omega) hn
      by_cases hd : d n = 0
      · have h1 := hle n (by omega)
        have h2 := ih n (by omega) (by omega)
        have e1 : lot S h c d n (n + 1) = 0 := by
          unfold lot
          rw [sm_succ (Nat.le_refl _), sm_succ (Nat.le_refl _), sm_le (Nat.le_refl _), sm_le (Nat.le_refl _), hd]; simp
        rw [sm_succ (Nat.zero_le _), (hp n (by omega)).1 hd]
        omega
      · obtain ⟨s, hs, hpn, hS⟩ := tight r hp (by omega) hd
        have h1 := hle s (by omega)
        have h2 := ih s (by omega) (by omega)
        have hall : ∀ t, s ≤ t → t < n + 1 → d t * way h c s t ≤ p t := by
          intro t ht htn
          rcases Nat.lt_or_ge t n with c1 | c1
          · by_cases hdt : d t = 0
            · rw [hdt, (hp t (by omega)).1 hdt]; simp
            · obtain ⟨s2, hs2, hp2, hS2⟩ := tight r hp (by omega) hdt
              have h3 := after r hp hS2 (show s2 ≤ n by omega) (by omega) (by omega)
              have hdn := r.d0 n (by omega)
              have hdt0 := r.d0 t (by omega)
              -- way s n ≤ way s2 n
              have h4 : way h c s n ≤ way h c s2 n := by
                have h5 : d n * way h c s n ≤ d n * way h c s2 n := by omega
                exact Int.le_of_mul_le_mul_left h5 (by omega)
              have h6 : way h c s t ≤ way h c s2 t := by
                rw [way_move h c s t n, way_move h c s2 t n] at h4
                omega
              have h7 := Int.mul_le_mul_of_nonneg_left h6 hdt0
              omega
          · obtain rfl : t = n := by omega
            exact hpn
        have e2 : sm p s (n + 1) = lot S h c d s (n + 1) := by
          unfold lot
          have hpos : 0 < sm d s (n + 1) := by
            rw [sm_succ (by omega)]
            have := sm_nonneg (f := d) (s := s) (n := n) (fun i _ hi => r.d0 i (by omega))
            have := r.d0 n (by omega)
            omega
          rw [if_pos hpos]
          have e3 : ab h c d p s (n + 1) = sm p s (n + 1) - sm (fun i => d i * way h c s i) s (n + 1) := by
            unfold ab
            rw [← sm_sub]
            exact sm_congr (fun i h1 h2 => by have := hall i h1 h2; omega)
          omega
        rw [sm_split (Nat.zero_le s) (n + 1) (by omega), e2]
        omega
/-- The best start so far. -/
def sg (h : Int) (c : Nat → Int) (a : Nat → Bool) : Nat → Option Nat
  | 0 => if a 0 then some 0 else none
  | t + 1 => match sg h c a t with
    | none => if a (t + 1) then some (t + 1) else none
    | some s => if a (t + 1) = true ∧ c (t + 1) < way h c s (t + 1) then some (t + 1) else some s
theorem sg_none {a : Nat → Bool} : ∀ {t : Nat}, sg h c a t = none → ∀ s, s ≤ t → a s = false := by
  intro t
  induction t with
  | zero => intro hs s h0; obtain rfl : s = 0 := by omega
            unfold sg at hs; cases e : a 0 with
            | false => rfl
            | true => simp [e] at hs
  | succ t ih =>
    intro hs s h0
    unfold sg at hs
    cases e : sg h c a t with
    | none =>
      rw [e] at hs
      rcases Nat.lt_or_ge s (t + 1) with c1 | c1
      · exact ih e s (by omega)
      · obtain rfl : s = t + 1 := by omega
        cases e2 : a (t + 1) with
        | false => rfl
        | true => simp [e2] at hs
    | some s2 =>
      rw [e] at hs
      simp only at hs
      split at hs <;> cases hs
theorem sg_some {a : Nat → Bool} : ∀ {t s : Nat}, sg h c a t = some s → s ≤ t ∧ a s = true ∧ ∀ s2, s2 ≤ t → a s2 = true → way h c s t ≤ way h c s2 t := by
  intro t
  induction t with
  | zero =>
    intro s hs
    unfold sg at hs
    cases e : a 0 with
    | false => simp [e] at hs
    | true =>
      simp [e] at hs; subst hs
      exact ⟨Nat.le_refl _, e, fun s2 h2 _ => by obtain rfl : s2 = 0 := by omega
                                                 exact Int.le_refl _⟩
  | succ t ih =>
    intro s hs
    unfold sg at hs
    cases e : sg h c a t with
    | none =>
      rw [e] at hs
      cases e2 : a (t + 1) with
      | false => simp [e2] at hs
      | true =>
        simp [e2] at hs; subst hs
        refine ⟨Nat.le_refl _, e2, fun s2 h2 h3 => ?_⟩
        rcases Nat.lt_or_ge s2 (t + 1) with c1 | c1
        · rw [sg_none e s2 (by omega)] at h3; cases h3
        · obtain rfl : s2 = t + 1 := by omega
          exact Int.le_refl _
    | some s1 =>
      rw [e] at hs
      simp only at hs
      obtain ⟨i1, i2, i3⟩ := ih e
      have mv : ∀ s2, s2 ≤ t → a s2 = true → way h c s1 (t + 1) ≤ way h c s2 (t + 1) := by
        intro s2 h2 h3
        have := i3 s2 h2 h3
        rw [way_move h c s1 t (t + 1), way_move h c s2 t (t + 1)]
        omega
      split at hs
      · rename_i hc
        injection hs with hs; subst hs
        refine ⟨Nat.le_refl _, hc.1, fun s2 h2 h3 => ?_⟩
        rw [way_self]
        rcases Nat.lt_or_ge s2 (t + 1) with c1 | c1
        · have := mv s2 (by omega) h3; omega
        · obtain rfl : s2 = t + 1 := by omega
          rw [way_self]; exact Int.le_refl _
      · rename_i hc
        injection hs with hs; subst hs
        refine ⟨by omega, i2, fun s2 h2 h3 => ?_⟩
        rcases Nat.lt_or_ge s2 (t + 1) with c1 | c1
        · exact mv s2 (by omega) h3
        · obtain rfl : s2 = t + 1 := by omega
          rw [way_self]
          rcases Int.lt_or_le (c (t + 1)) (way h c s1 (t + 1)) with c2 | c2
          · exact absurd ⟨h3, c2⟩ hc
          · exact c2
theorem sg_congr {a b : Nat → Bool} : ∀ {t : Nat}, (∀ i, i ≤ t → a i = b i) → sg h c a t = sg h c b t := by
  intro t
  induction t with
  | zero => intro hab; unfold sg; rw [hab 0 (Nat.le_refl _)]
  | succ t ih => intro hab; unfold sg; rw [ih (fun i hi => hab i (by omega)), hab (t + 1) (Nat.le_refl _)]
/-- What a unit costs at least that is used in t. -/
def mw (h : Int) (c : Nat → Int) (a : Nat → Bool) (t : Nat) : Int := match sg h c a t with
  | none => 0
  | some s => way h c s t
def ct (S : Int) (a : Nat → Bool) (n : Nat) : Int := sm (fun i => if a i then S else 0) 0 n
/-- A right plan. -/
structure Pl (d : Nat → Int) (N : Nat) (x : Nat → Int) : Prop where
  x0 : ∀ i, i < N → 0 ≤ x i
  st : ∀ n, n ≤ N → 0 ≤ sm (fun i => x i - d i) 0 n
  last : sm (fun i => x i - d i) 0 N = 0
def on (x : Nat → Int) (i : Nat) : Bool := decide (0 < x i)
/-- What is pumped and kept. -/
def keep (h : Int) (c d x : Nat → Int) (n : Nat) : Int := sm (fun i => c i * x i + h * sm (fun i => x i - d i) 0 (i + 1)) 0 n
def cost (S h : Int) (c d x : Nat → Int) (n : Nat) : Int := ct S (on x) n + keep h c d x n
theorem off_all {x : Nat → Int} (hx : Pl d N x) (r : Rt S h c d N) {t : Nat} (ht : t < N) (hs : sg h c (on x) t = none) : (∀ i, i ≤ t → d i = 0) ∧ sm (fun i => x i - d i) 0 (t + 1) = 0 := by
  have hx0 : ∀ i, i ≤ t → x i = 0 := by
    intro i hi
    have h1 := sg_none hs i hi
    have h2 := hx.x0 i (by omega)
    unfold on at h1
    have : ¬ 0 < x i := by simpa using h1
    omega
  have key : ∀ m, m ≤ t + 1 → sm (fun i => x i - d i) 0 m = - sm d 0 m := by
    intro m
    induction m with
    | zero => intro _; rfl
    | succ m ih => intro hm; rw [sm_succ (Nat.zero_le _), sm_succ (Nat.zero_le _), ih (by omega), hx0 m (by omega)]; omega
  have hz : ∀ m, m ≤ t + 1 → sm d 0 m = 0 := by
    intro m hm
    have h1 := hx.st m (by omega)
    rw [key m hm] at h1
    have := sm_nonneg (f := d) (s := 0) (n := m) (fun i _ hi => r.d0 i (by omega))
    omega
  refine ⟨fun i hi => ?_, by rw [key _ (Nat.le_refl _), hz _ (Nat.le_refl _)]; rfl⟩
  have h1 := hz i (by omega)
  have h2 := hz (i + 1) (by omega)
  rw [sm_succ (Nat.zero_le _)] at h2
  omega
/-- What a unit costs at least that was kept. -/
def pv (h : Int) (c : Nat → Int) (a : Nat → Bool) : Nat → Int
  | 0 => 0
  | t + 1 => mw h c a t
theorem keep_ge {x : Nat → Int} (hx : Pl d N x) (r : Rt S h c d N) : ∀ t, t ≤ N →
    sm (fun i => d i * mw h c (on x) i) 0 t + sm (fun i => x i - d i) 0 t * (pv h c (on x) t + h) ≤ keep h c d x t := by
  intro t
  induction t with
  | zero => intro _; simp [sm, keep]
  | succ t ih =>
    intro ht
    have h1 := ih (by omega)
    unfold keep at h1 ⊢
    rw [sm_succ (Nat.zero_le _), sm_succ (f := fun i => c i * x i + h * sm (fun i => x i - d i) 0 (i + 1)) (Nat.zero_le _)]
    have hst := hx.st t (by omega)
    have hst2 := hx.st (t + 1) ht
    have e1 : sm (fun i => x i - d i) 0 (t + 1) = sm (fun i => x i - d i) 0 t + (x t - d t) := sm_succ (Nat.zero_le _)
    generalize hA : sm (fun i => x i - d i) 0 t = A at *
    generalize hB : sm (fun i => x i - d i) 0 (t + 1) = B at *
    generalize hM : mw h c (on x) t = M at *
    -- x t * (c t - M) ≥ 0
    have hx1 : x t * M ≤ c t * x t := by
      have hx0 := hx.x0 t (by omega)
      rcases Int.lt_or_le 0 (x t) with c1 | c1
      · have hon : on x t = true := by simp [on, c1]
        have : M ≤ c t := by
          rw [← hM]; unfold mw
          cases e : sg h c (on x) t with
          | none => exact r.c0 t (by omega)
          | some s => have := (sg_some e).2.2 t (Nat.le_refl _) hon; rwa [way_self] at this
        have := Int.mul_le_mul_of_nonneg_left this hx0
        rw [Int.mul_comm (c t)]; exact this
      · obtain e0 : x t = 0 := by omega
        rw [e0]; simp
    have hA1 : A * M ≤ A * (pv h c (on x) t + h) := by
      cases t with
      | zero => simp only [sm] at hA; subst hA; simp
      | succ u =>
        simp only [pv]
        cases e : sg h c (on x) u with
        | none =>
          have := (off_all hx r (show u < N by omega) e).2
          rw [hA] at this
          rw [this]; simp
        | some s =>
          refine Int.mul_le_mul_of_nonneg_left ?_ hst
          obtain ⟨s1, s2, s3⟩ := sg_some e
          rw [← hM]
          have e5 : mw h c (on x) u = way h c s u := by unfold mw; rw [e]
          rw [e5]
          unfold mw
          cases e2 : sg h c (on x) (u + 1) with
          | none => exact absurd (sg_none e2 s (by omega)) (by simp [s2])
          | some s' =>
            have := (sg_some e2).2.2 s (by omega) s2
            rw [way_move h c s u (u + 1)] at this
            have e3 : h * (((u + 1 : Nat) : Int) - (u : Int)) = h := by rw [show ((u + 1 : Nat) : Int) - (u : Int) = 1 by omega, Int.mul_one]
            simp only at *
            omega
    subst e1
    have e6 : pv h c (on x) (t + 1) = M := hM
    rw [e6]
    generalize pv h c (on x) t = P at *
    have e4 : (A + (x t - d t)) * (M + h) = A * M + x t * M - d t * M + h * (A + (x t - d t)) := by grind
    rw [e4]
    omega
/-- Prices that hold. -/
structure Ho (S h : Int) (c d : Nat → Int) (N : Nat) (q : Nat → Int) : Prop where
  q0 : ∀ i, i < N → 0 ≤ q i
  z : ∀ i, i < N → d i = 0 → q i = 0
  ab : ∀ s, s < N → ab h c d q s N ≤ S
theorem sum_le {q x : Nat → Int} (hq : Ho S h c d N q) (hx : Pl d N x) (r : Rt S h c d N) : sm q 0 N ≤ sm (fun i => d i * mw h c (on x) i) 0 N + ct S (on x) N := by
  have key : ∀ t, t ≤ N → sm q 0 t ≤ sm (fun i => d i * mw h c (on x) i) 0 t + sm (fun s => if on x s then Am.ab h c d q s t else 0) 0 t := by
    intro t
    induction t with
    | zero => intro _; simp [sm]
    | succ t ih =>
      intro ht
      have h1 := ih (by omega)
      rw [sm_succ (Nat.zero_le _), sm_succ (f := fun i => d i * mw h c (on x) i) (Nat.zero_le _)]
      have mono : ∀ s, s < t + 1 → (if on x s then Am.ab h c d q s t else 0) ≤ (if on x s then Am.ab h c d q s (t + 1) else 0) := by
        intro s hs
        split
        · exact ab_le (by omega)
        · exact Int.le_refl _
      have e0 : sm (fun s => if on x s then Am.ab h c d q s t else 0) 0 (t + 1) = sm (fun s => if on x s then Am.ab h c d q s t else 0) 0 t := by
        rw [sm_succ (Nat.zero_le _)]
        have : Am.ab h c d q t t = 0 := sm_le (Nat.le_refl _)
        rw [this]; split <;> omega
      unfold mw
      cases e : sg h c (on x) t with
      | none =>
        have hd := (off_all hx r (show t < N by omega) e).1 t (Nat.le_refl _)
        rw [hq.z t (by omega) hd, hd]
        have := sm_mono (f := fun s => if on x s then Am.ab h c d q s t else 0) (g := fun s => if on x s then Am.ab h c d q s (t + 1) else 0) (s := 0) (n := t + 1) (fun i _ hi => mono i hi)
        have h2 : sm (fun i => d i * mw h c (on x) i) 0 t = sm (fun i => d i * match sg h c (on x) i with | none => 0 | some s => way h c s i) 0 t := rfl
        simp only
        omega
      | some s =>
        obtain ⟨s1, s2, s3⟩ := sg_some e
        have := sm_bump (f := fun s => if on x s then Am.ab h c d q s (t + 1) else 0) (g := fun s => if on x s then Am.ab h c d q s t else 0) (n := t + 1) (s0 := s) (e := max 0 (q t - d t * way h c s t)) mono (by omega) (by simp only [s2, if_true]; rw [ab_succ s1]; exact Int.le_refl _)
        have h2 : sm (fun i => d i * mw h c (on x) i) 0 t = sm (fun i => d i * match sg h c (on x) i with | none => 0 | some s => way h c s i) 0 t := rfl
        simp only
        omega
  have h1 := key N (Nat.le_refl _)
  have h2 : sm (fun s => if on x s then Am.ab h c d q s N else 0) 0 N ≤ ct S (on x) N := by
    unfold ct
    refine sm_mono (fun i _ hi => ?_)
    split
    · exact hq.ab i hi
    · exact Int.le_refl _
  omega
/-- No right plan costs less than prices that hold are worth. -/
theorem weak {q x : Nat → Int} (hq : Ho S h c d N q) (hx : Pl d N x) (r : Rt S h c d N) : sm q 0 N ≤ cost S h c d x N := by
  have h1 := sum_le hq hx r
  have h2 := keep_ge hx r N (Nat.le_refl _)
  rw [hx.last, Int.zero_mul] at h2
  unfold cost
  omega
theorem Ho_of (r : Rt S h c d N) (hp : IsP S h c d N p) : Ho S h c d N p := ⟨fun i hi => p_nonneg r hp hi, fun i hi hd => (hp i hi).1 hd, fun s _ => feas r hp N (Nat.le_refl _) s⟩
theorem IsP.le {n : Nat} (hp : IsP S h c d N p) (hn : n ≤ N) : IsP S h c d n p := fun i hi => hp i (by omega)
theorem IsF.le {n : Nat} (hF : IsF S h c d N F) (hn : n ≤ N) : IsF S h c d n F := ⟨hF.1, fun i h1 h2 => hF.2 i h1 (by omega)⟩
end Go.Proofs.Ytboefcikdfjfmaa.Am
namespace Go.Proofs.Ytboefcikdfjfmaa.Am
variable {S h : Int} {c d : Nat → Int} {N : Nat} {F p : Nat → Int}
/-- The plan that pumps in the hours of a set, for the first k hours. -/
def px (h : Int) (c d : Nat → Int) (a : Nat → Bool) (k i : Nat) : Int := sm (fun u => if sg h c a u = some i then d u else 0) 0 k
def okA (h : Int) (c d : Nat → Int) (a : Nat → Bool) (N : Nat) : Prop := ∀ u, u < N → d u ≠ 0 → sg h c a u ≠ none
def D (d : Nat → Int) (k i : Nat) : Int := if i < k then d i else 0
theorem px_succ (a : Nat → Bool) (k i : Nat) : px h c d a (k + 1) i = px h c d a k i + (if sg h c a k = some i then d k else 0) := sm_succ (Nat.zero_le _)
theorem D_succ (k i : Nat) : D d (k + 1) i = D d k i + (if i = k then d k else 0) := by
  unfold D
  by_cases c1 : i < k
  · rw [if_pos (by omega), if_pos c1, if_neg (by omega)]; omega
  · by_cases c2 : i = k
    · subst c2; simp
    · rw [if_neg (by omega), if_neg c1, if_neg c2]; rfl
theorem px_step (a : Nat → Bool) {k s : Nat} (hs : sg h c a k = some s) (n : Nat) :
    sm (fun j => px h c d a (k + 1) j - D d (k + 1) j) 0 n = sm (fun j => px h c d a k j - D d k j) 0 n + ((if s < n then d k else 0) - (if k < n then d k else 0)) := by
  have e : ∀ j, px h c d a (k + 1) j - D d (k + 1) j = (px h c d a k j - D d k j) + ((if j = s then d k else 0) - (if j = k then d k else 0)) := by
    intro j
    rw [px_succ, D_succ, hs]
    by_cases c1 : j = s
    · subst c1; simp; omega
    · rw [if_neg (by intro e; injection e with e; exact c1 e.symm), if_neg c1]; omega
  rw [sm_congr (g := fun j => (px h c d a k j - D d k j) + ((if j = s then d k else 0) - (if j = k then d k else 0))) (fun i _ _ => e i), sm_add, sm_sub (fun j => if j = s then d k else 0) (fun j => if j = k then d k else 0), sm_single, sm_single]
theorem px_zero (a : Nat → Bool) {k : Nat} (hd : d k = 0) (j : Nat) : px h c d a (k + 1) j = px h c d a k j := by
  rw [px_succ, hd]; simp
theorem D_zero {k : Nat} (hd : d k = 0) (j : Nat) : D d (k + 1) j = D d k j := by
  rw [D_succ, hd]; simp
theorem px_inv {a : Nat → Bool} (r : Rt S h c d N) (ok : okA h c d a N) : ∀ k, k ≤ N →
    (∀ n, n ≤ N → 0 ≤ sm (fun j => px h c d a k j - D d k j) 0 n) ∧ sm (fun j => px h c d a k j - D d k j) 0 N = 0 ∧
    sm (fun i => c i * px h c d a k i + h * sm (fun j => px h c d a k j - D d k j) 0 (i + 1)) 0 N = sm (fun u => d u * mw h c a u) 0 k := by
  intro k
  induction k with
  | zero =>
    intro _
    have e : ∀ n, sm (fun j => px h c d a 0 j - D d 0 j) 0 n = 0 := by
      intro n
      rw [sm_congr (g := fun _ => 0) (fun i _ _ => by simp [px, D, sm]), sm_zero]
    refine ⟨fun n _ => by rw [e]; exact Int.le_refl _, e N, ?_⟩
    rw [sm_congr (g := fun _ => 0) (fun i _ _ => by rw [e]; simp [px, sm]), sm_zero]; rfl
  | succ k ih =>
    intro hk
    obtain ⟨i1, i2, i3⟩ := ih (by omega)
    by_cases hd : d k = 0
    · have e1 : (fun j => px h c d a (k + 1) j - D d (k + 1) j) = fun j => px h c d a k j - D d k j := by funext j; rw [px_zero a hd, D_zero hd]
      have e2 : (fun i => c i * px h c d a (k + 1) i + h * sm (fun j => px h c d a k j - D d k j) 0 (i + 1)) = fun i => c i * px h c d a k i + h * sm (fun j => px h c d a k j - D d k j) 0 (i + 1) := by funext i; rw [px_zero a hd]
      rw [e1, e2, sm_succ (Nat.zero_le _), hd]
      refine ⟨i1, i2, by rw [i3]; simp⟩
    · cases hs : sg h c a k with
      | none => exact absurd hs (ok k (by omega) hd)
      | some s =>
        obtain ⟨s1, s2, s3⟩ := sg_some hs
        have hd0 := r.d0 k (by omega)
        refine ⟨fun n hn => ?_, ?_, ?_⟩
        · rw [px_step a hs]
          have := i1 n hn
          by_cases c1 : k < n
          · rw [if_pos c1, if_pos (by omega)]; omega
          · rw [if_neg c1]; split <;> omega
        · rw [px_step a hs, i2, if_pos (by omega), if_pos (by omega)]; omega
        · have e : ∀ i, c i * px h c d a (k + 1) i + h * sm (fun j => px h c d a (k + 1) j - D d (k + 1) j) 0 (i + 1)
              = (c i * px h c d a k i + h * sm (fun j => px h c d a k j - D d k j) 0 (i + 1)) + ((if i = s then c s * d k else 0) + (if s ≤ i ∧ i < k then h * d k else 0)) := by
            intro i
            rw [px_step a hs, px_succ, hs]
            have e1 : (c i * (px h c d a k i + if some s = some i then d k else 0)) = c i * px h c d a k i + (if i = s then c s * d k else 0) := by
              by_cases c1 : i = s
              · subst c1; rw [if_pos rfl, if_pos rfl, Int.mul_add]
              · rw [if_neg (by intro e; injection e with e; exact c1 e.symm), if_neg c1]; simp
            have e2 : h * (sm (fun j => px h c d a k j - D d k j) 0 (i + 1) + ((if s < i + 1 then d k else 0) - (if k < i + 1 then d k else 0))) = h * sm (fun j => px h c d a k j - D d k j) 0 (i + 1) + (if s ≤ i ∧ i < k then h * d k else 0) := by
              by_cases c1 : s ≤ i
              · by_cases c2 : i < k
                · rw [if_pos (by omega), if_neg (by omega), if_pos ⟨c1, c2⟩, Int.sub_zero, Int.mul_add]
                · rw [if_pos (by omega), if_pos (by omega), if_neg (by omega)]; simp
              · rw [if_neg (by omega), if_neg (by omega), if_neg (by omega)]; simp
            rw [e1, e2]; omega
          rw [sm_congr (fun i _ _ => e i), sm_add (fun i => c i * px h c d a k i + h * sm (fun j => px h c d a k j - D d k j) 0 (i + 1)), sm_add (fun i => if i = s then c s * d k else 0), sm_single, if_pos (by omega), sm_between s k N (h * d k) s1 (by omega), i3, sm_succ (Nat.zero_le _)]
          have : mw h c a k = way h c s k := by unfold mw; rw [hs]
          rw [this]
          unfold way
          have e3 : d k * (c s + h * ((k : Int) - s)) = c s * d k + h * d k * ((k : Int) - s) := by grind
          omega
theorem px_congr (a : Nat → Bool) {n : Nat} (hn : n ≤ N) : sm (fun j => px h c d a N j - d j) 0 n = sm (fun j => px h c d a N j - D d N j) 0 n :=
  sm_congr (fun i _ hi => by unfold D; rw [if_pos (by omega)])
theorem px_nonneg {a : Nat → Bool} (r : Rt S h c d N) (i : Nat) : 0 ≤ px h c d a N i :=
  sm_nonneg (fun u _ hu => by split; exact r.d0 u hu; exact Int.le_refl _)
/-- The plan of a set is right. -/
theorem px_pl {a : Nat → Bool} (r : Rt S h c d N) (ok : okA h c d a N) : Pl d N (px h c d a N) := by
  obtain ⟨i1, i2, i3⟩ := px_inv r ok N (Nat.le_refl _)
  exact ⟨fun i _ => px_nonneg r i, fun n hn => by rw [px_congr a hn]; exact i1 n hn, by rw [px_congr a (Nat.le_refl _)]; exact i2⟩
theorem px_keep {a : Nat → Bool} (r : Rt S h c d N) (ok : okA h c d a N) : keep h c d (px h c d a N) N = sm (fun u => d u * mw h c a u) 0 N := by
  obtain ⟨i1, i2, i3⟩ := px_inv r ok N (Nat.le_refl _)
  rw [← i3]
  unfold keep
  exact sm_congr (fun i _ hi => by rw [px_congr a (by omega)])
theorem px_on {a : Nat → Bool} {k i : Nat} (hi : 0 < px h c d a k i) : a i = true ∧ i < k := by
  unfold px at hi
  induction k with
  | zero => exact absurd hi (by simp [sm])
  | succ k ih =>
    rw [sm_succ (Nat.zero_le _)] at hi
    by_cases c1 : sg h c a k = some i
    · have := sg_some c1
      exact ⟨this.2.1, by omega⟩
    · rw [if_neg c1, Int.add_zero] at hi
      have := ih hi
      exact ⟨this.1, by omega⟩
theorem ct_mono {a b : Nat → Bool} {n : Nat} (hS : 0 ≤ S) (hab : ∀ i, i < n → a i = true → b i = true) : ct S a n ≤ ct S b n := by
  unfold ct
  refine sm_mono (fun i _ hi => ?_)
  cases e : a i with
  | false => simp; split <;> omega
  | true => rw [hab i hi e]; exact Int.le_refl _
theorem px_cost {a : Nat → Bool} (r : Rt S h c d N) (ok : okA h c d a N) : cost S h c d (px h c d a N) N ≤ ct S a N + sm (fun u => d u * mw h c a u) 0 N := by
  unfold cost
  rw [px_keep r ok]
  have := ct_mono (S := S) (a := on (px h c d a N)) (b := a) (n := N) r.S0 (fun i _ hi => (px_on (by simpa [on] using hi)).1)
  omega
/-- The lots lead to a set that costs no more. -/
theorem reach (r : Rt S h c d N) (hF : IsF S h c d N F) : ∀ n, n ≤ N → ∃ a : Nat → Bool, (∀ i, a i = true → i < n) ∧ okA h c d a n ∧ ct S a n + sm (fun u => d u * mw h c a u) 0 n ≤ F n := by
  intro n
  induction n using Nat.strongRecOn with
  | ind n ih =>
    intro hn
    cases n with
    | zero => exact ⟨fun _ => false, fun i hi => by simp at hi, fun u hu => by omega, by rw [hF.1]; simp [ct, sm]⟩
    | succ n =>
      obtain ⟨s, hs, he⟩ := (hF.2 (n + 1) (by omega) hn).2
      obtain ⟨a, h1, h2, h3⟩ := ih s hs (by omega)
      have hcl : ∀ b : Nat → Bool, (∀ i, i < s → b i = a i) → sm (fun u => d u * mw h c b u) 0 s = sm (fun u => d u * mw h c a u) 0 s := by
        intro b hb
        refine sm_congr (fun i _ hi => ?_)
        unfold mw
        rw [sg_congr (a := b) (b := a) (fun j hj => hb j (by omega))]
      by_cases hA : 0 < sm d s (n + 1)
      · refine ⟨fun i => if i = s then true else a i, ?_, ?_, ?_⟩
        · intro i hi
          by_cases c1 : i = s
          · omega
          · simp [c1] at hi; have := h1 i hi; omega
        · intro u hu hd
          rcases Nat.lt_or_ge u s with c1 | c1
          · rw [sg_congr (b := a) (fun j hj => by simp [show j ≠ s by omega])]
            exact h2 u c1 hd
          · intro e
            have := sg_none e s c1
            simp at this
        · have e1 : ct S (fun i => if i = s then true else a i) (n + 1) = ct S a s + S := by
            unfold ct
            rw [sm_split (Nat.zero_le s) (n + 1) (by omega)]
            have e2 : sm (fun i => if (if i = s then true else a i) = true then S else 0) 0 s = sm (fun i => if a i then S else 0) 0 s := sm_congr (fun i _ hi => by simp [show i ≠ s by omega])
            have e3 : sm (fun i => if (if i = s then true else a i) = true then S else 0) s (n + 1) = S := by
              rw [sm_split (m := s + 1) (by omega) (n + 1) (by omega), sm_succ (Nat.le_refl _), sm_le (Nat.le_refl _)]
              rw [sm_congr (g := fun _ => 0) (s := s + 1) (fun i h1' h2' => by
                have : a i = false := by
                  cases e : a i with
                  | false => rfl
                  | true => have := h1 i e; omega
                simp [show i ≠ s by omega, this]), sm_zero]
              simp
            rw [e2, e3]
          have e4 : sm (fun u => d u * mw h c (fun i => if i = s then true else a i) u) s (n + 1) ≤ sm (fun u => d u * way h c s u) s (n + 1) := by
            refine sm_mono (fun u hu1 hu2 => Int.mul_le_mul_of_nonneg_left ?_ (r.d0 u (by omega)))
            unfold mw
            cases e : sg h c (fun i => if i = s then true else a i) u with
            | none => have := sg_none e s hu1; simp at this
            | some s2 => exact (sg_some e).2.2 s hu1 (by simp)
          rw [e1, sm_split (Nat.zero_le s) (n + 1) (by omega), hcl _ (fun i hi => by simp [show i ≠ s by omega]), he]
          unfold lot
          rw [if_pos hA]
          omega
      · have hz : ∀ u, s ≤ u → u < n + 1 → d u = 0 := by
          intro u hu1 hu2
          have h4 := sm_split (f := d) hu1 (n + 1) (by omega)
          have h5 := sm_split (f := d) (show u ≤ u + 1 by omega) (n + 1) (by omega)
          rw [sm_succ (Nat.le_refl _), sm_le (Nat.le_refl _)] at h5
          have := sm_nonneg (f := d) (s := s) (n := u) (fun i _ hi => r.d0 i (by omega))
          have := sm_nonneg (f := d) (s := u + 1) (n := n + 1) (fun i _ hi => r.d0 i (by omega))
          have := r.d0 u (by omega)
          omega
        refine ⟨a, fun i hi => by have := h1 i hi; omega, fun u hu hd => ?_, ?_⟩
        · rcases Nat.lt_or_ge u s with c1 | c1
          · exact h2 u c1 hd
          · exact absurd (hz u c1 hu) hd
        · have e1 : ct S a (n + 1) = ct S a s := by
            unfold ct
            rw [sm_split (Nat.zero_le s) (n + 1) (by omega), sm_congr (g := fun _ => 0) (s := s) (fun i h1' h2' => by
              have : a i = false := by
                cases e : a i with
                | false => rfl
                | true => have := h1 i e; omega
              simp [this]), sm_zero]; omega
          have e2 : sm (fun u => d u * mw h c a u) s (n + 1) = 0 := by
            rw [sm_congr (g := fun _ => 0) (fun i h1' h2' => by rw [hz i h1' h2']; simp), sm_zero]
          have e3 : lot S h c d s (n + 1) = 0 := by
            unfold lot
            rw [if_neg hA, sm_congr (g := fun _ => 0) (fun i h1' h2' => by rw [hz i h1' h2']; simp), sm_zero]; rfl
          rw [e1, sm_split (Nat.zero_le s) (n + 1) (by omega), e2, he, e3]
          omega
/-- The least cost is the worth of the prices. -/
theorem F_eq_p (r : Rt S h c d N) (hp : IsP S h c d N p) (hF : IsF S h c d N F) {n : Nat} (hn : n ≤ N) : F n = sm p 0 n := by
  refine Int.le_antisymm (F_le_p r hp hF n hn) ?_
  obtain ⟨a, h1, h2, h3⟩ := reach r hF n hn
  have h4 := px_cost (r.le hn) h2
  have h5 := weak (Ho_of (r.le hn) (hp.le hn)) (px_pl (r.le hn) h2) (r.le hn)
  omega
/-- No right plan costs less than the least. -/
theorem F_le_plan (r : Rt S h c d N) (hp : IsP S h c d N p) (hF : IsF S h c d N F) {x : Nat → Int} (hx : Pl d N x) : F N ≤ cost S h c d x N := by
  rw [F_eq_p r hp hF (Nat.le_refl _)]
  exact weak (Ho_of r hp) hx r
/-- No prices that hold are worth more than the least. -/
theorem ho_le_F (r : Rt S h c d N) (hF : IsF S h c d N F) {q : Nat → Int} (hq : Ho S h c d N q) : sm q 0 N ≤ F N := by
  obtain ⟨a, h1, h2, h3⟩ := reach r hF N (Nat.le_refl _)
  have h4 := px_cost r h2
  have h5 := weak hq (px_pl r h2) r
  omega
theorem F_mono (r : Rt S h c d N) (hp : IsP S h c d N p) (hF : IsF S h c d N F) {n : Nat} (hn : n + 1 ≤ N) : F n ≤ F (n + 1) := by
  rw [F_eq_p r hp hF (by omega), F_eq_p r hp hF hn, sm_succ (Nat.zero_le _)]
  have := p_nonneg r hp (show n < N by omega)
  omega
theorem F_comp {S' h' : Int} {c' d' F' : Nat → Int} (hF : IsF S h c d N F) (hF' : IsF S' h' c' d' N F') (hl : ∀ s n, s < n → n ≤ N → lot S h c d s n ≤ lot S' h' c' d' s n) : ∀ n, n ≤ N → F n ≤ F' n := by
  intro n
  induction n using Nat.strongRecOn with
  | ind n ih =>
    intro hn
    cases n with
    | zero => rw [hF.1, hF'.1]; exact Int.le_refl _
    | succ n =>
      obtain ⟨s, hs, he⟩ := (hF'.2 (n + 1) (by omega) hn).2
      have := (hF.2 (n + 1) (by omega) hn).1 s hs
      have := ih s hs (by omega)
      have := hl s (n + 1) hs hn
      omega
theorem F_uniq {F' : Nat → Int} (hF : IsF S h c d N F) (hF' : IsF S h c d N F') {n : Nat} (hn : n ≤ N) : F n = F' n :=
  Int.le_antisymm (F_comp hF hF' (fun _ _ _ _ => Int.le_refl _) n hn) (F_comp hF' hF (fun _ _ _ _ => Int.le_refl _) n hn)
/-- What is told of a plan out of lots. -/
structure Good (S h : Int) (c d F : Nat → Int) (n : Nat) (y : Nat → Int) : Prop where
  pl : Pl d n y
  z : ∀ i, n ≤ i → y i = 0
  cost : cost S h c d y n = F n
  tidy : ∀ i, 1 ≤ i → i < n → 0 < y i → sm (fun j => y j - d j) 0 i = 0
theorem good_zero (hF : IsF S h c d N F) : Good S h c d F 0 (fun _ => 0) :=
  ⟨⟨fun i hi => by omega, fun n hn => by obtain rfl : n = 0 := by omega
                                         exact Int.le_refl _, rfl⟩, fun _ _ => rfl, by rw [hF.1]; rfl, fun i h1 h2 => by omega⟩
theorem stairs (s : Nat) (n : Nat) (hn : s ≤ n) : sm (fun i => sm d (i + 1) n) s n = sm (fun i => d i * ((i : Int) - s)) s n := by
  induction n with
  | zero => rfl
  | succ n ih =>
    rcases Nat.lt_or_ge n s with c1 | c1
    · rw [sm_le (by omega), sm_le (by omega)]
    · rw [sm_succ c1, sm_succ c1, sm_le (f := d) (Nat.le_refl _), ← ih c1]
      rw [sm_congr (g := fun i => sm d (i + 1) n + d n) (fun i h1 h2 => sm_succ (by omega)), sm_add]
      have : ∀ m : Nat, s ≤ m → sm (fun _ => d n) s m = d n * ((m : Int) - s) := by
        intro m hm
        induction m with
        | zero => obtain rfl : s = 0 := by omega
                  simp [sm]
        | succ m ih2 =>
          rcases Nat.lt_or_ge m s with c2 | c2
          · obtain rfl : s = m + 1 := by omega
            rw [sm_le (Nat.le_refl _)]; simp
          · rw [sm_succ c2, ih2 c2, show ((m + 1 : Nat) : Int) - s = ((m : Int) - s) + 1 by omega, Int.mul_add, Int.mul_one]
      rw [this n c1]; omega
theorem good_step (r : Rt S h c d N) {s n : Nat} {y : Nat → Int} (hn : n ≤ N) (hs : s < n) (hF : F n = F s + lot S h c d s n) (g : Good S h c d F s y) : Good S h c d F n (fun i => if i = s then sm d s n else y i) := by
  have hA0 : 0 ≤ sm d s n := sm_nonneg (fun i _ hi => r.d0 i (by omega))
  have st1 : ∀ m, m ≤ s → sm (fun i => (if i = s then sm d s n else y i) - d i) 0 m = sm (fun i => y i - d i) 0 m := fun m hm => sm_congr (fun i _ hi => by rw [if_neg (by omega)])
  have st2 : ∀ m, s < m → m ≤ n → sm (fun i => (if i = s then sm d s n else y i) - d i) 0 m = sm d m n := by
    intro m h1 h2
    rw [sm_split (Nat.zero_le s) m (by omega), st1 s (Nat.le_refl _), g.pl.last, sm_sub]
    have e1 : sm (fun i => if i = s then sm d s n else y i) s m = sm d s n := by
      rw [sm_split (m := s + 1) (by omega) m (by omega), sm_succ (Nat.le_refl _), sm_le (Nat.le_refl _)]
      rw [sm_congr (g := fun _ => 0) (s := s + 1) (fun i h3 h4 => by rw [if_neg (by omega)]; exact g.z i (by omega)), sm_zero]
      simp
    have e2 := sm_split (f := d) (show s ≤ m by omega) n h2
    omega
  refine ⟨⟨fun i hi => ?_, fun m hm => ?_, ?_⟩, fun i hi => ?_, ?_, fun i h1 h2 h3 => ?_⟩
  · split
    · exact hA0
    · rcases Nat.lt_or_ge i s with c1 | c1
      · exact g.pl.x0 i c1
      · rw [g.z i c1]; exact Int.le_refl _
  · rcases Nat.lt_or_ge s m with c1 | c1
    · rw [st2 m c1 hm]; exact sm_nonneg (fun i _ hi => r.d0 i (by omega))
    · rw [st1 m c1]; exact g.pl.st m c1
  · rw [st2 n hs (Nat.le_refl _), sm_le (Nat.le_refl _)]
  · rw [if_neg (by omega)]; exact g.z i (by omega)
  · have g2 := g.cost
    unfold cost keep ct at g2 ⊢
    rw [sm_split (Nat.zero_le s) n (by omega), sm_split (f := fun i => c i * (if i = s then sm d s n else y i) + h * sm (fun i => (if i = s then sm d s n else y i) - d i) 0 (i + 1)) (Nat.zero_le s) n (by omega)]
    have e1 : sm (fun i => if on (fun i => if i = s then sm d s n else y i) i = true then S else 0) 0 s = sm (fun i => if on y i = true then S else 0) 0 s := sm_congr (fun i _ hi => by simp [on, show i ≠ s by omega])
    have e2 : sm (fun i => if on (fun i => if i = s then sm d s n else y i) i = true then S else 0) s n = if 0 < sm d s n then S else 0 := by
      rw [sm_split (m := s + 1) (by omega) n (by omega), sm_succ (Nat.le_refl _), sm_le (Nat.le_refl _)]
      rw [sm_congr (g := fun _ => 0) (s := s + 1) (fun i h3 h4 => by simp [on, show i ≠ s by omega, g.z i (by omega)]), sm_zero]
      simp [on]
    have e3 : sm (fun i => c i * (if i = s then sm d s n else y i) + h * sm (fun i => (if i = s then sm d s n else y i) - d i) 0 (i + 1)) 0 s = sm (fun i => c i * y i + h * sm (fun i => y i - d i) 0 (i + 1)) 0 s :=
      sm_congr (fun i _ hi => by rw [st1 (i + 1) (by omega), if_neg (by omega)])
    have e4 : sm (fun i => c i * (if i = s then sm d s n else y i) + h * sm (fun i => (if i = s then sm d s n else y i) - d i) 0 (i + 1)) s n = sm (fun i => d i * way h c s i) s n := by
      rw [sm_congr (g := fun i => (if i = s then c s * sm d s n else 0) + h * sm d (i + 1) n) (fun i h3 h4 => by
        rw [st2 (i + 1) (by omega) (by omega)]
        by_cases c1 : i = s
        · subst c1; simp
        · rw [if_neg c1, if_neg c1, g.z i (by omega)]; simp), sm_add, sm_mul, stairs s n (by omega)]
      have e5 : sm (fun i => if i = s then c s * sm d s n else 0) s n = c s * sm d s n := by
        rw [sm_split (m := s + 1) (by omega) n (by omega), sm_succ (Nat.le_refl _), sm_le (Nat.le_refl _)]
        rw [sm_congr (g := fun _ => 0) (s := s + 1) (fun i h3 h4 => by rw [if_neg (by omega)]), sm_zero]
        simp
      rw [e5, ← sm_mul, ← sm_mul, ← sm_add]
      exact sm_congr (fun i _ _ => by unfold way; grind)
    rw [e1, e2, e3, e4, hF]
    unfold lot
    omega
  · by_cases c1 : i = s
    · subst c1
      rw [st1 i (Nat.le_refl _)]; exact g.pl.last
    · rw [if_neg c1] at h3
      rcases Nat.lt_or_ge i s with c2 | c2
      · rw [st1 i (by omega)]; exact g.tidy i h1 c2 h3
      · rw [g.z i c2] at h3; exact absurd h3 (by omega)
theorem sg_first {a : Nat → Bool} : ∀ {t s : Nat}, sg h c a t = some s → ∀ s2, s2 < s → a s2 = true → way h c s t < way h c s2 t := by
  intro t
  induction t with
  | zero => intro s hs; have := (sg_some hs).1; omega
  | succ t ih =>
    intro s hs s2 h2 h3
    unfold sg at hs
    cases e : sg h c a t with
    | none =>
      rw [e] at hs
      cases e2 : a (t + 1) with
      | false => simp [e2] at hs
      | true =>
        simp [e2] at hs; subst hs
        rw [sg_none e s2 (by omega)] at h3; cases h3
    | some s1 =>
      rw [e] at hs
      simp only at hs
      split at hs
      · rename_i hc
        injection hs with hs; subst hs
        have h4 := (sg_some e).2.2 s2 (by omega) h3
        rw [way_self, way_move h c s2 t (t + 1)]
        have h5 := hc.2
        rw [way_move h c s1 t (t + 1)] at h5
        omega
      · injection hs with hs; subst hs
        have := ih e s2 h2 h3
        rw [way_move h c s1 t (t + 1), way_move h c s2 t (t + 1)]
        omega
theorem sg_sub {a b : Nat → Bool} {t s : Nat} (hs : sg h c a t = some s) (hb : b s = true) (hab : ∀ i, b i = true → a i = true) : sg h c b t = some s := by
  obtain ⟨s1, s2, s3⟩ := sg_some hs
  cases e : sg h c b t with
  | none => rw [sg_none e s s1] at hb; cases hb
  | some s' =>
    obtain ⟨t1, t2, t3⟩ := sg_some e
    have h1 := s3 s' t1 (hab _ t2)
    have h2 := t3 s s1 hb
    rcases Nat.lt_trichotomy s s' with c1 | c1 | c1
    · have := sg_first e s c1 hb; omega
    · rw [c1]
    · have := sg_first hs s' c1 (hab _ t2); omega
theorem px_again {a : Nat → Bool} (r : Rt S h c d N) (ok : okA h c d a N) :
    okA h c d (on (px h c d a N)) N ∧ ∀ i, px h c d (on (px h c d a N)) N i = px h c d a N i := by
  have key : ∀ u, u < N → d u ≠ 0 → ∃ s, sg h c a u = some s ∧ sg h c (on (px h c d a N)) u = some s := by
    intro u hu hd
    cases hs : sg h c a u with
    | none => exact absurd hs (ok u hu hd)
    | some s =>
      refine ⟨s, rfl, sg_sub hs ?_ (fun i hi => (px_on (by simpa [on] using hi)).1)⟩
      have h1 := sm_bump (f := fun v => if sg h c a v = some s then d v else 0) (g := fun _ => 0) (n := N) (s0 := u) (e := d u) (fun i hi => by split; exact r.d0 i hi; exact Int.le_refl _) hu (by rw [if_pos hs]; omega)
      rw [sm_zero] at h1
      have h2 := r.d0 u hu
      have h3 : d u ≤ px h c d a N s := by unfold px; omega
      simp [on]; omega
  refine ⟨fun u hu hd e => ?_, fun i => ?_⟩
  · obtain ⟨s, _, h2⟩ := key u hu hd
    rw [e] at h2; cases h2
  · unfold px
    refine sm_congr (fun u _ hu => ?_)
    by_cases hd : d u = 0
    · rw [hd]; simp
    · obtain ⟨s, h1, h2⟩ := key u hu hd
      have h3 : sg h c (on (fun i => sm (fun u => if sg h c a u = some i then d u else 0) 0 N)) u = some s := h2
      rw [h1]; first | rw [h3] | (rw [show sg h c (on (px h c d a N)) u = some s from h2])
def mq (q : Nat → Int) : Nat → Int
  | 0 => q 0
  | s + 1 => if q (s + 1) < mq q s then q (s + 1) else mq q s
theorem mq_le (q : Nat → Int) : ∀ n s, s ≤ n → mq q n ≤ q s := by
  intro n
  induction n with
  | zero => intro s hs; obtain rfl : s = 0 := by omega
            exact Int.le_refl _
  | succ n ih =>
    intro s hs
    unfold mq
    rcases Nat.lt_or_ge n s with c1 | c1
    · obtain rfl : s = n + 1 := by omega
      split <;> omega
    · have := ih s c1
      split <;> omega
theorem mq_ex (q : Nat → Int) : ∀ n, ∃ s, s ≤ n ∧ mq q n = q s := by
  intro n
  induction n with
  | zero => exact ⟨0, Nat.le_refl _, rfl⟩
  | succ n ih =>
    obtain ⟨s, h1, h2⟩ := ih
    unfold mq
    split
    · exact ⟨n + 1, Nat.le_refl _, rfl⟩
    · exact ⟨s, by omega, h2⟩
theorem ab_congr' {q q' : Nat → Int} {s n : Nat} (hq : ∀ j, j < n → q j = q' j) : ab h c d q s n = ab h c d q' s n := sm_congr (fun i _ hi => by rw [hq i hi])
theorem IsP_ex (S h : Int) (c d : Nat → Int) : ∀ N, ∃ p, IsP S h c d N p := by
  intro N
  induction N with
  | zero => exact ⟨fun _ => 0, fun n hn => by omega⟩
  | succ N ih =>
    obtain ⟨p, hp⟩ := ih
    obtain ⟨v, hv⟩ : ∃ v, v = (if d N = 0 then 0 else mq (fun s => d N * way h c s N + S - ab h c d p s N) N) := ⟨_, rfl⟩
    refine ⟨fun i => if i = N then v else p i, fun n hn => ?_⟩
    have e : ∀ s m, m ≤ N → ab h c d (fun i => if i = N then v else p i) s m = ab h c d p s m := fun s m hm => ab_congr' (fun j hj => if_neg (by omega))
    rcases Nat.lt_or_ge n N with c1 | c1
    · have := hp n c1
      have e1 : (fun i => if i = N then v else p i) n = p n := if_neg (by omega)
      rw [e1]
      refine ⟨this.1, fun hd => ?_⟩
      obtain ⟨g1, s, g2, g3⟩ := this.2 hd
      exact ⟨fun s hs => by rw [e s n (by omega)]; exact g1 s hs, s, g2, by rw [e s n (by omega)]; exact g3⟩
    · obtain rfl : n = N := by omega
      have e1 : (fun i => if i = n then v else p i) n = v := if_pos rfl
      rw [e1]
      refine ⟨fun hd => by rw [hv, if_pos hd], fun hd => ?_⟩
      have hv2 : v = mq (fun s => d n * way h c s n + S - ab h c d p s n) n := by rw [hv, if_neg hd]
      refine ⟨fun s hs => ?_, ?_⟩
      · rw [e s n (Nat.le_refl _), hv2]; exact mq_le (fun s => d n * way h c s n + S - ab h c d p s n) n s hs
      · obtain ⟨s, g1, g2⟩ := mq_ex (fun s => d n * way h c s n + S - ab h c d p s n) n
        exact ⟨s, g1, by rw [e s n (Nat.le_refl _), hv2]; exact g2⟩
theorem F_le_plan' (r : Rt S h c d N) (hF : IsF S h c d N F) {x : Nat → Int} (hx : Pl d N x) : F N ≤ cost S h c d x N := by
  obtain ⟨p, hp⟩ := IsP_ex S h c d N
  exact F_le_plan r hp hF hx
theorem F_mono' (r : Rt S h c d N) (hF : IsF S h c d N F) {n : Nat} (hn : n + 1 ≤ N) : F n ≤ F (n + 1) := by
  obtain ⟨p, hp⟩ := IsP_ex S h c d N
  exact F_mono r hp hF hn
theorem lot_congr {S h : Int} {c c' d d' : Nat → Int} {s n : Nat} (hs : s < n) (hc : ∀ i, i < n → c i = c' i) (hd : ∀ i, i < n → d i = d' i) : lot S h c d s n = lot S h c' d' s n := by
  unfold lot
  rw [sm_congr (f := d) (g := d') (fun i _ g2 => hd i g2), sm_congr (g := fun i => d' i * way h c' s i) (fun i _ g2 => by rw [hd i g2]; unfold way; rw [hc s hs])]
theorem F_congr {S h : Int} {c c' d d' : Nat → Int} {N : Nat} {F : Nat → Int} (hF : IsF S h c d N F) (hc : ∀ i, i < N → c i = c' i) (hd : ∀ i, i < N → d i = d' i) : IsF S h c' d' N F := by
  refine ⟨hF.1, fun n h1 h2 => ?_⟩
  obtain ⟨g1, s, g2, g3⟩ := hF.2 n h1 h2
  exact ⟨fun s hs => by rw [← lot_congr hs (fun i hi => hc i (by omega)) (fun i hi => hd i (by omega))]; exact g1 s hs, s, g2, by rw [← lot_congr g2 (fun i hi => hc i (by omega)) (fun i hi => hd i (by omega))]; exact g3⟩
theorem cost_congr {S h : Int} {cf df x y : Nat → Int} {n : Nat} (hxy : ∀ i, i < n → x i = y i) : cost S h cf df x n = cost S h cf df y n := by
  have e1 : ct S (on x) n = ct S (on y) n := sm_congr (fun i _ hi => by unfold on; rw [hxy i hi])
  have e2 : keep h cf df x n = keep h cf df y n := sm_congr (fun i _ hi => by
    have e3 : sm (fun i => x i - df i) 0 (i + 1) = sm (fun i => y i - df i) 0 (i + 1) := sm_congr (fun j _ hj => by rw [hxy j (by omega)])
    rw [hxy i hi, e3])
  unfold cost
  rw [e1, e2]
end Go.Proofs.Ytboefcikdfjfmaa.Am
namespace Go.Proofs.Ytboefcikdfjfmaa.Va
open Go.RowKit Go.Proofs.Ytboefcikdfjfmaa.P Go.Proofs.Ytboefcikdfjfmaa.E Go.Proofs.Ytboefcikdfjfmaa.Am Go.Proofs.YtboefcikdfjfmaaW.PrintMore Go.Proofs.YtboefcikdfjfmaaW.PrintWords
/-- A list, read as a function; 0 behind its end. -/
def fl (l : List Int) (i : Nat) : Int := l.getD i 0
theorem rd_fl (l : List Int) (i : Nat) : rd l (i : Int) = fl l i := rd_nat l i
theorem fl_lt {l : List Int} {i : Nat} (h : i < l.length) : fl l i = l[i] := by unfold fl; rw [List.getD_eq_getElem?_getD, List.getElem?_eq_getElem h]; rfl
theorem fl_ge {l : List Int} {i : Nat} (h : l.length ≤ i) : fl l i = 0 := by unfold fl; rw [List.getD_eq_getElem?_getD, List.getElem?_eq_none h]; rfl
theorem fl_set {l : List Int} {i : Nat} (j : Nat) (v : Int) (h : i < l.length) : fl (l.set i v) j = if j = i then v else fl l j := by
  unfold fl
  simp only [List.getD_eq_getElem?_getD]
  by_cases c : j = i
  · subst c; rw [if_pos rfl, List.getElem?_set_self h]; rfl
  · rw [if_neg c, List.getElem?_set_ne (by omega)]
theorem fl_snoc (l : List Int) (v : Int) (j : Nat) : fl (l ++ [v]) j = if j = l.length then v else fl l j := by
  unfold fl
  simp only [List.getD_eq_getElem?_getD]
  rcases Nat.lt_trichotomy j l.length with c | c | c
  · rw [if_neg (by omega), List.getElem?_append_left c]
  · subst c; simp
  · rw [if_neg (by omega), List.getElem?_eq_none (by simp; omega), List.getElem?_eq_none (by omega)]
theorem fl_take (l : List Int) (n j : Nat) : fl (l.take n) j = if j < n then fl l j else 0 := by
  unfold fl
  simp only [List.getD_eq_getElem?_getD]
  by_cases c : j < n
  · rw [if_pos c, List.getElem?_take_of_lt c]
  · rw [if_neg c, List.getElem?_eq_none (by rw [List.length_take]; omega)]; rfl
theorem fl_replicate (n : Nat) (j : Nat) : fl (List.replicate n 0) j = 0 := by
  unfold fl
  rw [List.getD_eq_getElem?_getD, List.getElem?_replicate]
  split <;> rfl
theorem fl_range (f : Nat → Int) (n j : Nat) : fl ((List.range n).map f) j = if j < n then f j else 0 := by
  unfold fl
  rw [List.getD_eq_getElem?_getD, List.getElem?_map]
  by_cases c : j < n
  · rw [List.getElem?_range c, if_pos c]; rfl
  · rw [List.getElem?_eq_none (by simpa using c), if_neg c]; rfl
theorem list_ext {l m : List Int} (h1 : l.length = m.length) (h2 : ∀ i, i < l.length → fl l i = fl m i) : l = m := by
  refine List.ext_getElem h1 (fun i a b => ?_)
  have := h2 i a
  rwa [fl_lt a, fl_lt b] at this
/-- A list has so many numbers, from 0 to m. -/
def allb (l : List Int) (n : Nat) (m : Int) : Bool := decide (l.length = n) && l.all fun x => decide (0 ≤ x ∧ x ≤ m)
theorem allb_iff {l : List Int} {n : Nat} {m : Int} (hm : 0 ≤ m) : allb l n m = true ↔ l.length = n ∧ ∀ i, 0 ≤ fl l i ∧ fl l i ≤ m := by
  unfold allb
  rw [Bool.and_eq_true, decide_eq_true_eq, List.all_eq_true]
  refine and_congr_right fun h => ⟨fun h2 i => ?_, fun h2 x hx => ?_⟩
  · rcases Nat.lt_or_ge i l.length with c | c
    · rw [fl_lt c]; simpa using h2 _ (List.getElem_mem c)
    · rw [fl_ge c]; exact ⟨Int.le_refl _, hm⟩
  · obtain ⟨i, hi, rfl⟩ := List.getElem_of_mem hx
    have := h2 i
    rw [fl_lt hi] at this
    simpa using this
theorem ev_within (a b c : Int) : air_within.f a b c = some (decide (b ≤ a ∧ a ≤ c)) := by
  unfold air_within.f
  by_cases h : b ≤ a
  · rw [if_pos h]; simp [h]
  · rw [if_neg h]; simp [h]
theorem ev_all {l : List Int} (hl : l.length ≤ 1000) (n : Nat) (m : Int) : air_all.f l (n : Int) m = some (allb l n m) := by
  unfold air_all.f
  rw [if_pos hl]
  congr 1
  unfold allb
  congr 1
  · simp only [decide_eq_decide]; omega
  · rw [List.all_eq_not_any_not]
    congr 2
    funext x
    simp
/-- The first error of a task. -/
def vc (a0 a1 : Int) (c d : List Int) : Int := if (0 ≤ a0 ∧ a0 ≤ 999) ∧ (0 ≤ a1 ∧ a1 ≤ 20) ∧ (1 ≤ d.length ∧ d.length ≤ 12) ∧ allb c d.length 20 = true ∧ allb d d.length 50 = true then 0 else 1
/-- A valid task. -/
structure Ok (a0 a1 : Int) (c d : List Int) : Prop where
  s0 : 0 ≤ a0
  s1 : a0 ≤ 999
  k0 : 0 ≤ a1
  k1 : a1 ≤ 20
  n1 : 1 ≤ d.length
  n2 : d.length ≤ 12
  cl : c.length = d.length
  c0 : ∀ i, 0 ≤ fl c i
  c1 : ∀ i, fl c i ≤ 20
  d0 : ∀ i, 0 ≤ fl d i
  d1 : ∀ i, fl d i ≤ 50
theorem vc_ok {a0 a1 : Int} {c d : List Int} : vc a0 a1 c d = 0 ↔ Ok a0 a1 c d := by
  unfold vc
  constructor
  · intro h
    split at h
    · rename_i q
      obtain ⟨⟨q1, q2⟩, ⟨q3, q4⟩, ⟨q5, q6⟩, q7, q8⟩ := q
      have h1 := (allb_iff (by decide)).1 q7
      have h2 := (allb_iff (by decide)).1 q8
      exact ⟨q1, q2, q3, q4, q5, q6, h1.1, fun i => (h1.2 i).1, fun i => (h1.2 i).2, fun i => (h2.2 i).1, fun i => (h2.2 i).2⟩
    · cases h
  · intro ok
    rw [if_pos ⟨⟨ok.s0, ok.s1⟩, ⟨ok.k0, ok.k1⟩, ⟨ok.n1, ok.n2⟩, (allb_iff (by decide)).2 ⟨ok.cl, fun i => ⟨ok.c0 i, ok.c1 i⟩⟩, (allb_iff (by decide)).2 ⟨rfl, fun i => ⟨ok.d0 i, ok.d1 i⟩⟩⟩]
theorem vc_cases (a0 a1 : Int) (c d : List Int) : (vc a0 a1 c d = 0 ∧ Ok a0 a1 c d) ∨ (vc a0 a1 c d = 1 ∧ ¬ Ok a0 a1 c d) := by
  by_cases h : vc a0 a1 c d = 0
  · exact .inl ⟨h, vc_ok.1 h⟩
  · refine .inr ⟨?_, fun q => h (vc_ok.2 q)⟩
    unfold vc at h ⊢
    split at h
    · exact absurd rfl h
    · rename_i q; rw [if_neg q]
theorem ev_Validate {a0 a1 : Int} {c d : List Int} (hc : c.length ≤ 1000) (hd : d.length ≤ 1000) : air_Validate.f a0 a1 c d = some (vc a0 a1 c d) := by
  unfold air_Validate.f vc
  simp only [ev_within, ev_all hc, ev_all hd, Option.bind_some, decide_eq_true_eq]
  by_cases h1 : 0 ≤ a0 ∧ a0 ≤ 999
  · rw [if_pos h1]
    by_cases h2 : 0 ≤ a1 ∧ a1 ≤ 20
    · rw [if_pos h2]
      by_cases h3 : 1 ≤ d.length ∧ d.length ≤ 12
      · rw [if_pos (by omega)]
        by_cases h4 : allb c d.length 20 = true
        · rw [if_pos h4]
          by_cases h5 : allb d d.length 50 = true
          · rw [if_pos h5, if_pos ⟨h1, h2, h3, h4, h5⟩]
          · rw [if_neg h5, if_neg (fun q => h5 q.2.2.2.2)]
        · rw [if_neg h4, if_neg (fun q => h4 q.2.2.2.1)]
      · rw [if_neg (by omega), if_neg (fun q => h3 q.2.2.1)]
    · rw [if_neg h2, if_neg (fun q => h2 q.2.1)]
  · rw [if_neg h1, if_neg (fun q => h1 q.1)]
theorem ev_large (l : List Int) : diaphonelaw03_large.f l = some (decide (100 < l.length)) := by
  unfold diaphonelaw03_large.f
  congr 1
  simp only [decide_eq_decide]; omega
theorem ev_Long (a0 a1 : Int) (c d : List Int) : diaphonelaw03_Long.f a0 a1 c d = some (decide (100 < c.length) || decide (100 < d.length)) := by
  unfold diaphonelaw03_Long.f
  simp only [ev_large, Option.bind_some]
  by_cases h : 100 < c.length
  · simp [h]
  · simp [h]
theorem sm_bound {f : Nat → Int} {B : Int} (hB : 0 ≤ B) {s : Nat} (n : Nat) (h : ∀ i, s ≤ i → i < n → 0 ≤ f i ∧ f i ≤ B) : 0 ≤ sm f s n ∧ sm f s n ≤ B * n := by
  refine ⟨sm_nonneg (fun i h1 h2 => (h i h1 h2).1), ?_⟩
  induction n with
  | zero => simp [sm]
  | succ n ih =>
    have h1 := ih (fun i h1 h2 => h i h1 (by omega))
    have e : B * ((n + 1 : Nat) : Int) = B * (n : Int) + B := by rw [show ((n + 1 : Nat) : Int) = (n : Int) + 1 by omega, Int.mul_add, Int.mul_one]
    rw [sm, e]
    split
    · rename_i c
      have := (h n c (by omega)).2
      omega
    · omega
theorem mul_bound {a b A B : Int} (ha : 0 ≤ a) (hA : a ≤ A) (hb : 0 ≤ b) (hB : b ≤ B) : 0 ≤ a * b ∧ a * b ≤ A * B :=
  ⟨Int.mul_nonneg ha hb, Int.mul_le_mul hA hB hb (by omega)⟩
theorem Ok.rt {a0 a1 : Int} {c d : List Int} (ok : Ok a0 a1 c d) : Rt a0 a1 (fl c) (fl d) d.length := ⟨ok.s0, ok.k0, fun i _ => ok.c0 i, fun i _ => ok.d0 i⟩
theorem Ok.take {a0 a1 : Int} {c d : List Int} (ok : Ok a0 a1 c d) {i : Nat} (h1 : 1 ≤ i) (h2 : i ≤ d.length) : Ok a0 a1 (c.take i) (d.take i) := by
  have hcl := ok.cl
  have := ok.n2
  have l1 : (c.take i).length = i := by rw [List.length_take]; omega
  have l2 : (d.take i).length = i := by rw [List.length_take]; omega
  exact ⟨ok.s0, ok.s1, ok.k0, ok.k1, by omega, by omega, by omega,
    fun j => by rw [fl_take]; split; exact ok.c0 j; decide, fun j => by rw [fl_take]; split; exact ok.c1 j; decide, fun j => by rw [fl_take]; split; exact ok.d0 j; decide, fun j => by rw [fl_take]; split; exact ok.d1 j; decide⟩
theorem way_bound {a0 a1 : Int} {c d : List Int} (ok : Ok a0 a1 c d) {s t : Nat} (hs : s ≤ t) (ht : t < d.length) : 0 ≤ way a1 (fl c) s t ∧ way a1 (fl c) s t ≤ 260 := by
  refine ⟨way_nonneg ok.k0 (ok.c0 s) hs, ?_⟩
  unfold way
  have := ok.n2
  have := (mul_bound (A := 20) (B := 12) ok.k0 ok.k1 (show (0 : Int) ≤ (t : Int) - s by omega) (by omega)).2
  have := ok.c1 s
  omega
end Go.Proofs.Ytboefcikdfjfmaa.Va
namespace Go.Proofs.Ytboefcikdfjfmaa.Va
open Go.RowKit Go.Proofs.Ytboefcikdfjfmaa.P Go.Proofs.Ytboefcikdfjfmaa.E Go.Proofs.Ytboefcikdfjfmaa.Am Go.Proofs.Ytboefcikdfjfmaa.Va Go.Proofs.YtboefcikdfjfmaaW.PrintMore Go.Proofs.YtboefcikdfjfmaaW.PrintWords
theorem same_loop (l m : List Int) (hl : l.length ≤ 1000) (hm : l.length = m.length) (e : Nat) : ∀ i : Nat, i ≤ l.length → l.length - i = e →
    Tl (fun k => diaphoneref01_SameInts.l0 k l m (i : Int)) (decide (l.drop i = m.drop i)) := by
  induction e with
  | zero =>
    intro i hi hd
    refine Tl.succ ?_
    simp only [diaphoneref01_SameInts.l0]
    refine (Tl.neg (by omega) Tl.now).to ?_
    rw [List.drop_eq_nil_of_le (by omega), List.drop_eq_nil_of_le (by omega)]; rfl
  | succ e ih =>
    intro i hi hd
    have hlt : i < l.length := by omega
    refine Tl.succ ?_
    simp only [diaphoneref01_SameInts.l0]
    refine Tl.pos (by omega) (Tl.pos (by omega) (Tl.pos (by omega) ?_))
    rw [rd_lt hlt, rd_lt (show i < m.length by omega), List.drop_eq_getElem_cons hlt, List.drop_eq_getElem_cons (show i < m.length by omega)]
    by_cases hr : l[i] = m[i]'(by omega)
    · refine Tl.pos hr ?_
      rw [w64 (by omega) (by omega)]
      refine (ih (i + 1) (by omega) (by omega)).to ?_
      rw [hr]
      simp only [List.cons.injEq, true_and]
    · refine (Tl.neg hr Tl.now).to ?_
      simp only [List.cons.injEq, hr, false_and, decide_false]
theorem ev_Same {l m : List Int} (hl : l.length ≤ 1000) : Tl (fun k => diaphoneref01_SameInts.f k l m) (decide (l = m)) := by
  unfold diaphoneref01_SameInts.f
  by_cases c : l.length = m.length
  · refine Tl.pos (by omega) ?_
    have := same_loop l m hl c l.length 0 (by omega) (by omega)
    simpa using this
  · refine (Tl.neg (by omega) Tl.now).to ?_
    symm
    rw [decide_eq_false_iff_not]
    rintro rfl
    exact c rfl
end Go.Proofs.Ytboefcikdfjfmaa.Va
namespace Go.Proofs.Ytboefcikdfjfmaa.Fi
open Go.RowKit Go.Proofs.Ytboefcikdfjfmaa.P Go.Proofs.Ytboefcikdfjfmaa.E Go.Proofs.Ytboefcikdfjfmaa.Am Go.Proofs.Ytboefcikdfjfmaa.Va Go.Proofs.YtboefcikdfjfmaaW.PrintMore Go.Proofs.YtboefcikdfjfmaaW.PrintWords
variable {a0 a1 : Int} {c d : List Int}
theorem way_val (ok : Ok a0 a1 c d) {s t : Nat} (hst : s ≤ t) (ht : t < d.length) : wrap64 (fl c s + wrap64 (a1 * wrap64 ((t : Int) - (s : Int)))) = way a1 (fl c) s t := by
  have h1 := way_bound ok hst ht
  have h2 := ok.n2
  have h3 := mul_bound (A := 20) (B := 12) ok.k0 ok.k1 (show (0 : Int) ≤ (t : Int) - s by omega) (by omega)
  have h4 := ok.c0 s
  have h5 := ok.c1 s
  unfold way at h1 ⊢
  rw [w64 (x := (t : Int) - s) (by omega) (by omega), w64 (x := a1 * ((t : Int) - s)) (by omega) (by omega), w64 (by omega) (by omega)]
theorem ev_way (ok : Ok a0 a1 c d) {s t : Nat} (hst : s ≤ t) (ht : t < d.length) : air_way.f a0 a1 c d (s : Int) (t : Int) = some (way a1 (fl c) s t) := by
  unfold air_way.f
  rw [if_pos (by omega), if_pos (by have := ok.cl; omega), rd_fl, way_val ok hst ht]
theorem dw_bound (ok : Ok a0 a1 c d) {s t : Nat} (hst : s ≤ t) (ht : t < d.length) : 0 ≤ fl d t * way a1 (fl c) s t ∧ fl d t * way a1 (fl c) s t ≤ 13000 := by
  have h1 := way_bound ok hst ht
  exact mul_bound (A := 50) (B := 260) (ok.d0 t) (ok.d1 t) h1.1 h1.2
theorem lot_loop (ok : Ok a0 a1 c d) {s n : Nat} (hn : n ≤ d.length) (e : Nat) : ∀ i : Nat, s ≤ i → i ≤ n → n - i = e →
    Tl (fun k => air_lot.l0 k (s : Int) (n : Int) (sm (fun i => fl d i * way a1 (fl c) s i) s i) (sm (fl d) s i) (i : Int) a0 a1 c d) (lot a0 a1 (fl c) (fl d) s n, sm (fl d) s n) := by
  induction e with
  | zero =>
    intro i h1 h2 h3
    obtain rfl : i = n := by omega
    refine Tl.succ ?_
    simp only [air_lot.l0]
    refine Tl.neg (by omega) ?_
    have b1 := sm_bound (f := fun i => fl d i * way a1 (fl c) s i) (B := 13000) (by decide) (s := s) i (fun j g1 g2 => dw_bound ok g1 (by omega))
    unfold lot
    by_cases hp : 0 < sm (fl d) s i
    · refine Tl.pos hp ?_
      rw [if_pos hp, w64 (by have := ok.s0; omega) (by have := ok.s1; have := ok.n2; omega)]
      exact Tl.now
    · refine Tl.neg hp ?_
      rw [if_neg hp, Int.add_zero]
      exact Tl.now
  | succ e ih =>
    intro i h1 h2 h3
    refine Tl.succ ?_
    simp only [air_lot.l0]
    refine Tl.pos (by omega) (Tl.pos (by omega) (Tl.pos (by omega) (Tl.bind' (ev_way ok h1 (by omega)) ?_)))
    have b1 := sm_bound (f := fun i => fl d i * way a1 (fl c) s i) (B := 13000) (by decide) (s := s) i (fun j g1 g2 => dw_bound ok g1 (by omega))
    have b2 := sm_bound (f := fl d) (B := 50) (by decide) (s := s) i (fun j g1 g2 => ⟨ok.d0 j, ok.d1 j⟩)
    have b3 := dw_bound ok h1 (show i < d.length by omega)
    have := ok.n2
    have := ok.d0 i
    have := ok.d1 i
    rw [rd_fl, w64 (x := fl d i * way a1 (fl c) s i) (by omega) (by omega), w64 (x := sm (fun i => fl d i * way a1 (fl c) s i) s i + fl d i * way a1 (fl c) s i) (by omega) (by omega), w64 (x := sm (fl d) s i + fl d i) (by omega) (by omega), w64 (x := (i : Int) + 1) (by omega) (by omega)]
    have := ih (i + 1) (by omega) (by omega) (by omega)
    rw [sm_succ h1, sm_succ h1] at this
    exact this
theorem ev_lot (ok : Ok a0 a1 c d) {s n : Nat} (hs : s ≤ n) (hn : n ≤ d.length) : Tl (fun k => air_lot.f k a0 a1 c d (s : Int) (n : Int)) (lot a0 a1 (fl c) (fl d) s n, sm (fl d) s n) := by
  unfold air_lot.f
  have := lot_loop ok hn (n - s) s (Nat.le_refl _) hs rfl
  rw [sm_le (Nat.le_refl _), sm_le (Nat.le_refl _)] at this
  exact this
theorem lot_bound (ok : Ok a0 a1 c d) {s n : Nat} (hn : n ≤ d.length) : 0 ≤ lot a0 a1 (fl c) (fl d) s n ∧ lot a0 a1 (fl c) (fl d) s n ≤ 157000 := by
  have b1 := sm_bound (f := fun i => fl d i * way a1 (fl c) s i) (B := 13000) (by decide) (s := s) n (fun j g1 g2 => dw_bound ok g1 (by omega))
  have := ok.n2
  have := ok.s0
  have := ok.s1
  unfold lot
  split <;> omega
theorem row_loop (ok : Ok a0 a1 c d) {n : Nat} (hn : n ≤ d.length) {cs bs : List Int} (hb : ∀ s, s < n → 0 ≤ fl cs s ∧ fl cs s ≤ 157000) : ∀ s, 1 ≤ s → s ≤ n →
    ∃ b, b < s ∧ Tl (fun k => air_firsts.row k a0 a1 c d cs bs n s) (fl cs b + lot a0 a1 (fl c) (fl d) b n, (b : Int)) ∧ ∀ t, t < s → fl cs b + lot a0 a1 (fl c) (fl d) b n ≤ fl cs t + lot a0 a1 (fl c) (fl d) t n := by
  intro s
  induction s with
  | zero => intro h; omega
  | succ s ih =>
    intro _ hs
    have hl := lot_bound ok (s := s) hn
    have hbs := hb s (by omega)
    have hw : wrap64 (fl cs s + lot a0 a1 (fl c) (fl d) s n) = fl cs s + lot a0 a1 (fl c) (fl d) s n := w64 (by omega) (by omega)
    by_cases h0 : s = 0
    · subst h0
      refine ⟨0, by omega, ?_, fun t ht => by obtain rfl : t = 0 := by omega
                                              exact Int.le_refl _⟩
      simp only [air_firsts.row]
      refine Tl.bind' rfl (Tl.bind (ev_lot ok (Nat.zero_le _) hn) (Tl.pos (.inl trivial) ?_))
      simp only
      rw [rd_fl, hw]
      exact Tl.now
    · obtain ⟨b, hb1, hb2, hb3⟩ := ih (by omega) (by omega)
      by_cases h1 : fl cs s + lot a0 a1 (fl c) (fl d) s n < fl cs b + lot a0 a1 (fl c) (fl d) b n
      · refine ⟨s, by omega, ?_, fun t ht => ?_⟩
        · simp only [air_firsts.row]
          refine Tl.bind hb2 (Tl.bind (ev_lot ok (by omega) hn) ?_)
          simp only
          rw [rd_fl, hw]
          exact Tl.pos (.inr h1) Tl.now
        · rcases Nat.lt_or_ge t s with c1 | c1
          · have := hb3 t c1; omega
          · obtain rfl : t = s := by omega
            exact Int.le_refl _
      · refine ⟨b, by omega, ?_, fun t ht => ?_⟩
        · simp only [air_firsts.row]
          refine Tl.bind hb2 (Tl.bind (ev_lot ok (by omega) hn) ?_)
          simp only
          rw [rd_fl, hw]
          exact Tl.neg (fun h => h.elim h0 h1) Tl.now
        · rcases Nat.lt_or_ge t s with c1 | c1
          · exact hb3 t c1
          · obtain rfl : t = s := by omega
            omega
/-- What the program finds. -/
structure Fst (a0 a1 : Int) (c d cs bs : List Int) : Prop where
  ev : Tl (fun k => air_firsts.f k a0 a1 c d) (cs, bs)
  l1 : cs.length = d.length + 1
  l2 : bs.length = d.length + 1
  F : IsF a0 a1 (fl c) (fl d) d.length (fl cs)
  b : ∀ n, 1 ≤ n → n ≤ d.length → ∃ s : Nat, fl bs n = s ∧ s < n ∧ fl cs n = fl cs s + lot a0 a1 (fl c) (fl d) s n
  le : ∀ n, n ≤ d.length → 0 ≤ fl cs n ∧ fl cs n ≤ 157000
theorem firsts_ex (ok : Ok a0 a1 c d) : ∃ cs bs, Fst a0 a1 c d cs bs := by
  have key : ∀ m, m ≤ d.length + 1 → ∃ cs bs, Tl (fun k => air_firsts.go k a0 a1 c d m) (cs, bs) ∧ cs.length = d.length + 1 ∧ bs.length = d.length + 1 ∧ fl cs 0 = 0 ∧
      ∀ n, 1 ≤ n → n < m → (∀ s, s < n → fl cs n ≤ fl cs s + lot a0 a1 (fl c) (fl d) s n) ∧ (∃ s : Nat, fl bs n = s ∧ s < n ∧ fl cs n = fl cs s + lot a0 a1 (fl c) (fl d) s n) ∧ 0 ≤ fl cs n ∧ fl cs n ≤ 157000 := by
    intro m
    induction m with
    | zero => intro _; exact ⟨_, _, Tl.now, by simp, by simp, fl_replicate _ _, fun n h1 h2 => by omega⟩
    | succ m ih =>
      intro hm
      obtain ⟨cs, bs, h1, h2, h3, h4, h5⟩ := ih (by omega)
      by_cases h0 : m = 0
      · subst h0
        exact ⟨cs, bs, Tl.bind h1 (Tl.pos rfl Tl.now), h2, h3, h4, fun n g1 g2 => by omega⟩
      · have hbd : ∀ s, s < m → 0 ≤ fl cs s ∧ fl cs s ≤ 157000 := by
          intro s hs
          by_cases c1 : s = 0
          · subst c1; rw [h4]; decide
          · exact (h5 s (by omega) hs).2.2
        obtain ⟨b, g1, g2, g3⟩ := row_loop ok (n := m) (by omega) (cs := cs) (bs := bs) hbd m (by omega) (Nat.le_refl _)
        have e1 : ∀ j, fl (cs.set m (fl cs b + lot a0 a1 (fl c) (fl d) b m)) j = if j = m then fl cs b + lot a0 a1 (fl c) (fl d) b m else fl cs j := fun j => fl_set j _ (by omega)
        have e2 : ∀ j, fl (bs.set m (b : Int)) j = if j = m then (b : Int) else fl bs j := fun j => fl_set j _ (by omega)
        refine ⟨_, _, Tl.bind h1 (Tl.neg h0 (Tl.bind g2 Tl.now)), by simpa using h2, by simpa using h3, by rw [e1, if_neg (by omega)]; exact h4, fun n q1 q2 => ?_⟩
        by_cases c1 : n = m
        · subst c1
          rw [e1, if_pos rfl]
          refine ⟨fun s hs => by rw [e1, if_neg (by omega)]; exact g3 s hs, ⟨b, by rw [e2, if_pos rfl], g1, by rw [e1, if_neg (by omega)]⟩, ?_⟩
          have k1 := hbd b g1
          have k2 := lot_bound ok (s := b) (n := n) (by omega)
          have k3 := g3 0 (by omega)
          have k4 := lot_bound ok (s := 0) (n := n) (by omega)
          rw [h4] at k3
          omega
        · obtain ⟨q3, ⟨s, q4, q5, q6⟩, q7⟩ := h5 n q1 (by omega)
          rw [e1, if_neg c1]
          exact ⟨fun s hs => by rw [e1, if_neg (by omega)]; exact q3 s hs, ⟨s, by rw [e2, if_neg c1]; exact q4, q5, by rw [e1, if_neg (by omega)]; exact q6⟩, q7⟩
  obtain ⟨cs, bs, h1, h2, h3, h4, h5⟩ := key (d.length + 1) (Nat.le_refl _)
  refine ⟨cs, bs, ?_, h2, h3, ⟨h4, fun n g1 g2 => ?_⟩, fun n g1 g2 => (h5 n g1 (by omega)).2.1, fun n g1 => ?_⟩
  · unfold air_firsts.f
    exact Tl.pos (by have := ok.n2; omega) h1
  · obtain ⟨q1, ⟨s, q2, q3, q4⟩, _⟩ := h5 n g1 (by omega)
    exact ⟨q1, s, q3, q4⟩
  · by_cases c1 : n = 0
    · subst c1; rw [h4]; decide
    · exact (h5 n (by omega) (by omega)).2.2
theorem ev_Least {cs bs : List Int} (ok : Ok a0 a1 c d) (f : Fst a0 a1 c d cs bs) : Tl (fun k => air_Least.f k a0 a1 c d) (fl cs d.length, 0) := by
  unfold air_Least.f
  have := ok.n2
  refine Tl.bind' (ev_Validate (by have := ok.cl; omega) (by omega)) (Tl.pos (vc_ok.2 ok) (Tl.bind f.ev ?_))
  simp only
  have hl := f.l1
  have e : wrap64 ((cs.length : Int) - 1) = (d.length : Int) := by rw [w64 (by omega) (by omega)]; omega
  rw [e, rd_fl]
  exact Tl.pos (by omega) (Tl.pos (by omega) Tl.now)
theorem ev_Least_no (h1 : c.length ≤ 1000) (h2 : d.length ≤ 1000) (no : vc a0 a1 c d ≠ 0) : Tl (fun k => air_Least.f k a0 a1 c d) (0, vc a0 a1 c d) := by
  unfold air_Least.f
  exact Tl.bind' (ev_Validate h1 h2) (Tl.neg no Tl.now)
theorem ev_Firsts {cs bs : List Int} (ok : Ok a0 a1 c d) (f : Fst a0 a1 c d cs bs) : Tl (fun k => air_Firsts.f k a0 a1 c d) (cs, 0) := by
  unfold air_Firsts.f
  have := ok.n2
  exact Tl.bind' (ev_Validate (by have := ok.cl; omega) (by omega)) (Tl.pos (vc_ok.2 ok) (Tl.bind f.ev Tl.now))
theorem ev_Firsts_no (h1 : c.length ≤ 1000) (h2 : d.length ≤ 1000) (no : vc a0 a1 c d ≠ 0) : Tl (fun k => air_Firsts.f k a0 a1 c d) ([], vc a0 a1 c d) := by
  unfold air_Firsts.f
  exact Tl.bind' (ev_Validate h1 h2) (Tl.neg no Tl.now)
end Go.Proofs.Ytboefcikdfjfmaa.Fi
namespace Go.Proofs.Ytboefcikdfjfmaa.Pr
open Go.RowKit Go.Proofs.Ytboefcikdfjfmaa.P Go.Proofs.Ytboefcikdfjfmaa.E Go.Proofs.Ytboefcikdfjfmaa.Am Go.Proofs.Ytboefcikdfjfmaa.Va Go.Proofs.Ytboefcikdfjfmaa.Fi Go.Proofs.YtboefcikdfjfmaaW.PrintMore Go.Proofs.YtboefcikdfjfmaaW.PrintWords
variable {a0 a1 : Int} {c d : List Int}
theorem term_val (ok : Ok a0 a1 c d) {p : List Int} {s i : Nat} (hp : 0 ≤ fl p i ∧ fl p i ≤ 100000) (h1 : s ≤ i) (hi : i < d.length) :
    mx 0 (wrap64 (fl p i - wrap64 (fl d i * way a1 (fl c) s i))) = max 0 (fl p i - fl d i * way a1 (fl c) s i) := by
  have := dw_bound ok h1 hi
  rw [w64 (x := fl d i * way a1 (fl c) s i) (by omega) (by omega), w64 (by omega) (by omega), mx_eq]
theorem ab_bound (ok : Ok a0 a1 c d) {p : List Int} (hp : ∀ i, 0 ≤ fl p i ∧ fl p i ≤ 100000) (s : Nat) {i : Nat} (hi : i ≤ d.length) : 0 ≤ ab a1 (fl c) (fl d) (fl p) s i ∧ ab a1 (fl c) (fl d) (fl p) s i ≤ 1200000 := by
  have := sm_bound (f := fun t => max 0 (fl p t - fl d t * way a1 (fl c) s t)) (B := 100000) (by decide) (s := s) i (fun j g1 g2 => by have := dw_bound ok g1 (show j < d.length by omega); have := hp j; omega)
  have := ok.n2
  unfold ab
  omega
theorem above_loop (ok : Ok a0 a1 c d) {p : List Int} (hl : p.length ≤ d.length) (hp : ∀ i, 0 ≤ fl p i ∧ fl p i ≤ 100000) {s : Nat} (e : Nat) : ∀ i : Nat, s ≤ i → i ≤ p.length → p.length - i = e →
    Tl (fun k => air_above.l0 k p (s : Int) (ab a1 (fl c) (fl d) (fl p) s i) (i : Int) a0 a1 c d) (ab a1 (fl c) (fl d) (fl p) s p.length) := by
  induction e with
  | zero =>
    intro i h1 h2 h3
    obtain rfl : i = p.length := by omega
    refine Tl.succ ?_
    simp only [air_above.l0]
    exact Tl.neg (by omega) Tl.now
  | succ e ih =>
    intro i h1 h2 h3
    refine Tl.succ ?_
    simp only [air_above.l0]
    refine Tl.pos (by omega) (Tl.pos (by omega) (Tl.pos (by omega) (Tl.bind' (ev_way ok h1 (by omega)) ?_)))
    have b1 := ab_bound ok hp s (i := i) (by omega)
    have b2 := dw_bound ok h1 (show i < d.length by omega)
    have b3 := hp i
    have := ok.n2
    rw [rd_fl, rd_fl, term_val ok b3 h1 (by omega), w64 (by omega) (by omega), w64 (x := (i : Int) + 1) (by omega) (by omega)]
    have := ih (i + 1) (by omega) (by omega) (by omega)
    rw [ab_succ h1] at this
    exact this
theorem ev_above (ok : Ok a0 a1 c d) {p : List Int} (hl : p.length ≤ d.length) (hp : ∀ i, 0 ≤ fl p i ∧ fl p i ≤ 100000) {s : Nat} (hs : s ≤ p.length) : Tl (fun k => air_above.f k a0 a1 c d p (s : Int)) (ab a1 (fl c) (fl d) (fl p) s p.length) := by
  unfold air_above.f
  have := above_loop ok hl hp (p.length - s) s (Nat.le_refl _) hs rfl
  have e : ab a1 (fl c) (fl d) (fl p) s s = 0 := sm_le (Nat.le_refl _)
  rw [e] at this
  exact this
/-- Prices hold in an hour. -/
def hold (a0 a1 : Int) (c d p : List Int) (s : Nat) : Prop := (fl d s = 0 → fl p s = 0) ∧ ab a1 (fl c) (fl d) (fl p) s d.length ≤ a0
def HoL (a0 a1 : Int) (c d p : List Int) (i : Nat) : Prop := ∀ s, i ≤ s → s < d.length → hold a0 a1 c d p s
theorem HoL.ho {p : List Int} (h : HoL a0 a1 c d p 0) (hp : ∀ i, 0 ≤ fl p i) : Ho a0 a1 (fl c) (fl d) d.length (fl p) :=
  ⟨fun i _ => hp i, fun i hi hd => (h i (Nat.zero_le _) hi).1 hd, fun s hs => (h s (Nat.zero_le _) hs).2⟩
theorem HoL_succ {p : List Int} {i : Nat} (hi : i < d.length) : HoL a0 a1 c d p i ↔ hold a0 a1 c d p i ∧ HoL a0 a1 c d p (i + 1) := by
  constructor
  · exact fun h => ⟨h i (Nat.le_refl _) hi, fun s h1 h2 => h s (by omega) h2⟩
  · rintro ⟨h1, h2⟩ s h3 h4
    rcases Nat.lt_or_ge i s with c1 | c1
    · exact h2 s c1 h4
    · obtain rfl : s = i := by omega
      exact h1
theorem priced_loop (ok : Ok a0 a1 c d) {p : List Int} (hl : p.length = d.length) (hp : ∀ i, 0 ≤ fl p i ∧ fl p i ≤ 100000) (e : Nat) : ∀ i : Nat, i ≤ d.length → d.length - i = e → ∀ r : Int, (HoL a0 a1 c d p i → r = 0) → (¬ HoL a0 a1 c d p i → r = 7) →
    Tl (fun k => air_priced.l0 k p (d.length : Int) (i : Int) a0 a1 c d) r := by
  induction e with
  | zero =>
    intro i h1 h2 r hr0 hr7
    refine Tl.succ ?_
    simp only [air_priced.l0]
    refine (Tl.neg (by omega) Tl.now).to (hr0 (fun s h3 h4 => by omega)).symm
  | succ e ih =>
    intro i h1 h2 r hr0 hr7
    have hi : i < d.length := by omega
    have := ok.n2
    refine Tl.succ ?_
    simp only [air_priced.l0]
    refine Tl.pos (by omega) (Tl.pos (by omega) (Tl.pos (by omega) ?_))
    have ha := ev_above ok (p := p) (by omega) hp (s := i) (by omega)
    rw [hl] at ha
    rw [rd_fl, rd_fl]
    have rest : (fl d i = 0 → fl p i = 0) → Tl (fun k => (air_above.f k a0 a1 c d p (i : Int)).bind fun t107 => (if t107 > a0 then (some 7) else (air_priced.l0 k p (d.length : Int) (wrap64 ((i : Int) + 1)) a0 a1 c d))) r := by
      intro hz
      refine Tl.bind ha ?_
      by_cases h3 : ab a1 (fl c) (fl d) (fl p) i d.length > a0
      · exact (Tl.pos h3 Tl.now).to (hr7 (fun q => by have := (q i (Nat.le_refl _) hi).2; omega)).symm
      · refine Tl.neg h3 ?_
        rw [w64 (by omega) (by omega)]
        have hh : hold a0 a1 c d p i := ⟨hz, by omega⟩
        exact ih (i + 1) (by omega) (by omega) r (fun q => hr0 ((HoL_succ hi).2 ⟨hh, q⟩)) (fun q => hr7 (fun q2 => q ((HoL_succ hi).1 q2).2))
    by_cases h0 : fl d i = 0
    · refine Tl.pos h0 (Tl.pos (by omega) ?_)
      by_cases h4 : fl p i > 0
      · exact (Tl.pos h4 Tl.now).to (hr7 (fun q => by have := (q i (Nat.le_refl _) hi).1 h0; omega)).symm
      · exact Tl.neg h4 (rest (fun _ => by have := (hp i).1; omega))
    · exact Tl.neg h0 (rest (fun q => absurd q h0))
/-- The error of a task and prices. -/
theorem ev_priced (ok : Ok a0 a1 c d) {p : List Int} (hl : p.length ≤ 1000) : ∀ r : Int, (allb p d.length 100000 = false → r = 1) → (allb p d.length 100000 = true → HoL a0 a1 c d p 0 → r = 0) → (allb p d.length 100000 = true → ¬ HoL a0 a1 c d p 0 → r = 7) →
    Tl (fun k => air_priced.f k a0 a1 c d p) r := by
  intro r h1 h2 h3
  have := ok.n2
  unfold air_priced.f
  refine Tl.bind' (ev_Validate (by have := ok.cl; omega) (by omega)) (Tl.pos (vc_ok.2 ok) (Tl.bind' (ev_all hl _ _) ?_))
  by_cases c1 : allb p d.length 100000 = true
  · have h4 := (allb_iff (by decide)).1 c1
    exact Tl.pos c1 (priced_loop ok h4.1 h4.2 d.length 0 (by omega) (by omega) r (h2 c1) (h3 c1))
  · exact (Tl.neg c1 Tl.now).to (h1 (by simpa using c1)).symm
theorem worth_loop {p : List Int} (hl : p.length ≤ 1000) (hp : ∀ i, 0 ≤ fl p i ∧ fl p i ≤ 100000) (e : Nat) : ∀ i : Nat, i ≤ p.length → p.length - i = e →
    Tl (fun k => air_worth.l0 k (sm (fl p) 0 i) p (p.length : Int) (i : Int)) (sm (fl p) 0 p.length) := by
  induction e with
  | zero =>
    intro i h1 h2
    obtain rfl : i = p.length := by omega
    refine Tl.succ ?_
    simp only [air_worth.l0]
    exact Tl.neg (by omega) Tl.now
  | succ e ih =>
    intro i h1 h2
    refine Tl.succ ?_
    simp only [air_worth.l0]
    refine Tl.pos (by omega) (Tl.pos (by omega) (Tl.pos (by omega) ?_))
    have b1 := sm_bound (f := fl p) (B := 100000) (by decide) (s := 0) i (fun j _ _ => hp j)
    have b2 := hp i
    rw [rd_fl, w64 (by omega) (by omega), w64 (by omega) (by omega)]
    have := ih (i + 1) (by omega) (by omega)
    rw [sm_succ (Nat.zero_le _)] at this
    exact this
theorem ev_worth {p : List Int} (hl : p.length ≤ 1000) (hp : ∀ i, 0 ≤ fl p i ∧ fl p i ≤ 100000) : Tl (fun k => air_worth.f k p) (sm (fl p) 0 p.length) := by
  unfold air_worth.f
  exact worth_loop hl hp p.length 0 (by omega) (by omega)
/-- What CheckPrices answers: the worth, and the error. -/
def Cp (a0 a1 : Int) (c d p : List Int) (r : Int × Int) : Prop :=
  (allb p d.length 100000 = false → r = (0, 1)) ∧ (allb p d.length 100000 = true → HoL a0 a1 c d p 0 → r = (sm (fl p) 0 d.length, 0)) ∧ (allb p d.length 100000 = true → ¬ HoL a0 a1 c d p 0 → r = (0, 7))
theorem Cp_ex (a0 a1 : Int) (c d p : List Int) : ∃ r, Cp a0 a1 c d p r := by
  by_cases h1 : allb p d.length 100000 = true
  · by_cases h2 : HoL a0 a1 c d p 0
    · exact ⟨(sm (fl p) 0 d.length, 0), And.intro (fun h => by rw [h1] at h; cases h) (And.intro (fun _ _ => rfl) (fun _ h => absurd h2 h))⟩
    · exact ⟨(0, 7), And.intro (fun h => by rw [h1] at h; cases h) (And.intro (fun _ h => absurd h h2) (fun _ _ => rfl))⟩
  · exact ⟨(0, 1), And.intro (fun _ => rfl) (And.intro (fun h => absurd h h1) (fun h => absurd h h1))⟩
theorem ev_CheckPrices (ok : Ok a0 a1 c d) {p : List Int} (hl : p.length ≤ 1000) {r : Int × Int} (hr : Cp a0 a1 c d p r) : Tl (fun k => air_CheckPrices.f k a0 a1 c d p) r := by
  unfold air_CheckPrices.f
  obtain ⟨h1, h2, h3⟩ := hr
  by_cases c1 : allb p d.length 100000 = true
  · have h4 := (allb_iff (by decide)).1 c1
    by_cases c2 : HoL a0 a1 c d p 0
    · rw [h2 c1 c2]
      refine Tl.bind (ev_priced ok hl 0 (fun q => by rw [c1] at q; cases q) (fun _ _ => rfl) (fun _ q => absurd c2 q)) (Tl.pos rfl (Tl.bind (ev_worth hl h4.2) ?_))
      rw [h4.1]
      exact Tl.now
    · rw [h3 c1 c2]
      exact Tl.bind (ev_priced ok hl 7 (fun q => by rw [c1] at q; cases q) (fun _ q => absurd q c2) (fun _ _ => rfl)) (Tl.neg (by decide) Tl.now)
  · rw [h1 (by simpa using c1)]
    exact Tl.bind (ev_priced ok hl 1 (fun _ => rfl) (fun q => absurd q c1) (fun q => absurd q c1)) (Tl.neg (by decide) Tl.now)
theorem ev_CheckPrices_no (h1 : c.length ≤ 1000) (h2 : d.length ≤ 1000) (no : vc a0 a1 c d ≠ 0) (p : List Int) : Tl (fun k => air_CheckPrices.f k a0 a1 c d p) (0, vc a0 a1 c d) := by
  unfold air_CheckPrices.f air_priced.f
  exact Tl.bind (Tl.bind' (ev_Validate h1 h2) (Tl.neg no Tl.now)) (Tl.neg no Tl.now)
end Go.Proofs.Ytboefcikdfjfmaa.Pr
namespace Go.Proofs.Ytboefcikdfjfmaa.Pr
open Go.RowKit Go.Proofs.Ytboefcikdfjfmaa.P Go.Proofs.Ytboefcikdfjfmaa.E Go.Proofs.Ytboefcikdfjfmaa.Am Go.Proofs.Ytboefcikdfjfmaa.Va Go.Proofs.Ytboefcikdfjfmaa.Fi Go.Proofs.YtboefcikdfjfmaaW.PrintMore Go.Proofs.YtboefcikdfjfmaaW.PrintWords
variable {a0 a1 : Int} {c d : List Int}
/-- What a start in s allows for the hour i. -/
def qq (a0 a1 : Int) (c d p : List Int) (i s : Nat) : Int := fl d i * way a1 (fl c) s i + a0 - ab a1 (fl c) (fl d) (fl p) s i
theorem prices_inner (ok : Ok a0 a1 c d) {p : List Int} {i : Nat} (hpl : p.length = i) (hi : i < d.length) (hp : ∀ j, 0 ≤ fl p j ∧ fl p j ≤ 100000) (hP : IsP a0 a1 (fl c) (fl d) i (fl p)) (r : List Int × Int)
    (hgo : Tl (fun k => air_Prices.l0 k (p ++ [mq (qq a0 a1 c d p i) i]) d (d.length : Int) ((i + 1 : Nat) : Int) a0 a1 c d) r) (e : Nat) : ∀ s : Nat, s ≤ i → i - s = e →
    Tl (fun k => air_Prices.l1 k p (i : Int) (fl d i) (mq (qq a0 a1 c d p i) s) d (d.length : Int) (i : Int) ((i + 1 : Nat) : Int) ((s + 1 : Nat) : Int) a0 a1 c d) r := by
  have hq : ∀ s, s ≤ i → 0 ≤ qq a0 a1 c d p i s ∧ qq a0 a1 c d p i s ≤ 13999 := by
    intro s hs
    have h1 := dw_bound ok hs hi
    have h2 := feas (ok.rt.le (show i ≤ d.length by omega)) hP i (Nat.le_refl _) s
    have h3 := ab_nonneg (h := a1) (c := fl c) (d := fl d) (q := fl p) s i
    have := ok.s1
    unfold qq
    omega
  have hm0 : ∀ s, s ≤ i → 0 ≤ mq (qq a0 a1 c d p i) s ∧ mq (qq a0 a1 c d p i) s ≤ 13999 := by
    intro s hs
    obtain ⟨s2, h1, h2⟩ := mq_ex (qq a0 a1 c d p i) s
    rw [h2]
    exact hq s2 (by omega)
  have := ok.n2
  induction e with
  | zero =>
    intro s h1 h2
    obtain rfl : s = i := by omega
    refine Tl.succ ?_
    simp only [air_Prices.l1]
    refine Tl.neg (by omega) (Tl.pos (by omega) ?_)
    rw [w64 (by omega) (by omega)]
    exact hgo
  | succ e ih =>
    intro s h1 h2
    refine Tl.succ ?_
    simp only [air_Prices.l1]
    have ha := ev_above ok (p := p) (by omega) hp (s := s + 1) (by omega)
    rw [hpl] at ha
    refine Tl.pos (by omega) (Tl.bind' (ev_way ok (show s + 1 ≤ i by omega) hi) (Tl.bind ha ?_))
    have g1 := dw_bound ok (show s + 1 ≤ i by omega) hi
    have g2 := feas (ok.rt.le (show i ≤ d.length by omega)) hP i (Nat.le_refl _) (s + 1)
    have g3 := ab_nonneg (h := a1) (c := fl c) (d := fl d) (q := fl p) (s + 1) i
    have g4 := ok.s1
    have g5 := hm0 s (by omega)
    have e1 : wrap64 (wrap64 (wrap64 (fl d i * way a1 (fl c) (s + 1) i) + a0) - ab a1 (fl c) (fl d) (fl p) (s + 1) i) = qq a0 a1 c d p i (s + 1) := by
      rw [w64 (x := fl d i * way a1 (fl c) (s + 1) i) (by omega) (by omega), w64 (x := fl d i * way a1 (fl c) (s + 1) i + a0) (by omega) (by omega), w64 (by omega) (by omega)]
      rfl
    rw [e1, w64 (x := ((s + 1 : Nat) : Int) + 1) (by omega) (by omega)]
    refine Tl.neg (by omega) ?_
    have hn := ih (s + 1) (by omega) (by omega)
    by_cases c1 : qq a0 a1 c d p i (s + 1) < mq (qq a0 a1 c d p i) s
    · refine Tl.pos c1 ?_
      have e2 : mq (qq a0 a1 c d p i) (s + 1) = qq a0 a1 c d p i (s + 1) := by show (if _ then _ else _) = _; rw [if_pos c1]
      rw [e2] at hn
      exact hn
    · refine Tl.neg c1 ?_
      have e2 : mq (qq a0 a1 c d p i) (s + 1) = mq (qq a0 a1 c d p i) s := by show (if _ then _ else _) = _; rw [if_neg c1]
      rw [e2] at hn
      exact hn
theorem ab_congr {h : Int} {cf df q q' : Nat → Int} {s n : Nat} (hq : ∀ j, j < n → q j = q' j) : ab h cf df q s n = ab h cf df q' s n := sm_congr (fun i _ hi => by rw [hq i hi])
theorem IsP_snoc (ok : Ok a0 a1 c d) {p : List Int} {i : Nat} {v : Int} (hpl : p.length = i) (hP : IsP a0 a1 (fl c) (fl d) i (fl p)) (h0 : fl d i = 0 → v = 0)
    (h1 : fl d i ≠ 0 → (∀ s, s ≤ i → v ≤ qq a0 a1 c d p i s) ∧ ∃ s, s ≤ i ∧ v = qq a0 a1 c d p i s) : IsP a0 a1 (fl c) (fl d) (i + 1) (fl (p ++ [v])) := by
  intro n hn
  have e1 : ∀ j, j < i → fl (p ++ [v]) j = fl p j := fun j hj => by rw [fl_snoc, if_neg (by omega)]
  rcases Nat.lt_or_ge n i with c1 | c1
  · rw [e1 n c1]
    have := hP n c1
    refine ⟨this.1, fun hd => ?_⟩
    obtain ⟨g1, s, g2, g3⟩ := this.2 hd
    exact ⟨fun s hs => by rw [ab_congr (q' := fl p) (fun j hj => e1 j (by omega))]; exact g1 s hs, s, g2, by rw [ab_congr (q' := fl p) (fun j hj => e1 j (by omega))]; exact g3⟩
  · obtain rfl : n = i := by omega
    rw [fl_snoc, if_pos hpl.symm]
    refine ⟨h0, fun hd => ?_⟩
    obtain ⟨g1, s, g2, g3⟩ := h1 hd
    exact ⟨fun s hs => by rw [ab_congr (q' := fl p) (fun j hj => e1 j hj)]; exact g1 s hs, s, g2, by rw [ab_congr (q' := fl p) (fun j hj => e1 j hj)]; exact g3⟩
/-- What the program returns. -/
structure Prs (a0 a1 : Int) (c d p : List Int) : Prop where
  l : p.length = d.length
  P : IsP a0 a1 (fl c) (fl d) d.length (fl p)
  b : ∀ i, 0 ≤ fl p i ∧ fl p i ≤ 100000
theorem prices_loop (ok : Ok a0 a1 c d) (e : Nat) : ∀ (i : Nat) (p : List Int), i ≤ d.length → d.length - i = e → p.length = i → (∀ j, 0 ≤ fl p j ∧ fl p j ≤ 100000) → IsP a0 a1 (fl c) (fl d) i (fl p) →
    ∃ p', Prs a0 a1 c d p' ∧ Tl (fun k => air_Prices.l0 k p d (d.length : Int) (i : Int) a0 a1 c d) (p', 0) := by
  have := ok.n2
  induction e with
  | zero =>
    intro i p h1 h2 h3 h4 h5
    obtain rfl : i = d.length := by omega
    refine ⟨p, ⟨h3, h5, h4⟩, Tl.succ ?_⟩
    simp only [air_Prices.l0]
    exact Tl.neg (by omega) Tl.now
  | succ e ih =>
    intro i p h1 h2 h3 h4 h5
    have hi : i < d.length := by omega
    by_cases h0 : fl d i = 0
    · obtain ⟨p', g1, g2⟩ := ih (i + 1) (p ++ [0]) (by omega) (by omega) (by simp [h3]) (fun j => by rw [fl_snoc]; split; decide; exact h4 j) (IsP_snoc ok h3 h5 (fun _ => rfl) (fun q => absurd h0 q))
      refine ⟨p', g1, Tl.succ ?_⟩
      simp only [air_Prices.l0]
      refine Tl.pos (by omega) (Tl.pos (by omega) (Tl.pos (by omega) ?_))
      rw [rd_fl]
      refine Tl.pos h0 (Tl.pos (by omega) ?_)
      rw [w64 (by omega) (by omega)]
      exact g2
    · have hq : ∀ s, s ≤ i → 0 ≤ qq a0 a1 c d p i s ∧ qq a0 a1 c d p i s ≤ 13999 := by
        intro s hs
        have h1 := dw_bound ok hs hi
        have h2 := feas (ok.rt.le (show i ≤ d.length by omega)) h5 i (Nat.le_refl _) s
        have h3 := ab_nonneg (h := a1) (c := fl c) (d := fl d) (q := fl p) s i
        have := ok.s1
        unfold qq
        omega
      have hm : 0 ≤ mq (qq a0 a1 c d p i) i ∧ mq (qq a0 a1 c d p i) i ≤ 100000 := by
        obtain ⟨s2, k1, k2⟩ := mq_ex (qq a0 a1 c d p i) i
        rw [k2]
        have := hq s2 k1
        omega
      obtain ⟨p', g1, g2⟩ := ih (i + 1) (p ++ [mq (qq a0 a1 c d p i) i]) (by omega) (by omega) (by simp [h3]) (fun j => by rw [fl_snoc]; split; exact hm; exact h4 j)
        (IsP_snoc ok h3 h5 (fun q => absurd q h0) (fun _ => ⟨fun s hs => mq_le _ i s hs, mq_ex _ i⟩))
      refine ⟨p', g1, Tl.succ ?_⟩
      simp only [air_Prices.l0]
      refine Tl.pos (by omega) (Tl.pos (by omega) (Tl.pos (by omega) ?_))
      rw [rd_fl]
      refine Tl.neg h0 ?_
      rw [w64 (by omega) (by omega)]
      refine Tl.succ ?_
      simp only [air_Prices.l1]
      have ha := ev_above ok (p := p) (by omega) h4 (s := 0) (by omega)
      rw [h3] at ha
      have hw := ev_way ok (show 0 ≤ i by omega) hi
      refine Tl.pos (by omega) (Tl.bind' hw (Tl.bind ha (Tl.pos (by decide) ?_)))
      have k1 := dw_bound ok (show 0 ≤ i by omega) hi
      have k2 := feas (ok.rt.le (show i ≤ d.length by omega)) h5 i (Nat.le_refl _) 0
      have k3 := ab_nonneg (h := a1) (c := fl c) (d := fl d) (q := fl p) 0 i
      have k4 := ok.s1
      have e1 : wrap64 (wrap64 (wrap64 (fl d i * way a1 (fl c) 0 i) + a0) - ab a1 (fl c) (fl d) (fl p) 0 i) = qq a0 a1 c d p i 0 := by
        rw [w64 (x := fl d i * way a1 (fl c) 0 i) (by omega) (by omega), w64 (x := fl d i * way a1 (fl c) 0 i + a0) (by omega) (by omega), w64 (by omega) (by omega)]
        rfl
      rw [e1, show wrap64 (0 + 1) = ((0 + 1 : Nat) : Int) by rw [w64 (by omega) (by omega)]; rfl]
      exact prices_inner ok h3 hi h4 h5 (p', 0) g2 i 0 (by omega) (by omega)
theorem ev_Prices (ok : Ok a0 a1 c d) : ∃ p, Prs a0 a1 c d p ∧ Tl (fun k => air_Prices.f k a0 a1 c d) (p, 0) := by
  obtain ⟨p, h1, h2⟩ := prices_loop ok d.length 0 [] (by omega) (by omega) rfl (fun j => by rw [fl_ge (Nat.zero_le _)]; decide) (fun n hn => by omega)
  refine ⟨p, h1, ?_⟩
  unfold air_Prices.f
  have := ok.n2
  exact Tl.bind' (ev_Validate (by have := ok.cl; omega) (by omega)) (Tl.pos (vc_ok.2 ok) h2)
theorem ev_Prices_no (h1 : c.length ≤ 1000) (h2 : d.length ≤ 1000) (no : vc a0 a1 c d ≠ 0) : Tl (fun k => air_Prices.f k a0 a1 c d) ([], vc a0 a1 c d) := by
  unfold air_Prices.f
  exact Tl.bind' (ev_Validate h1 h2) (Tl.neg no Tl.now)
/-- The program's prices hold. -/
theorem Prs.hol (ok : Ok a0 a1 c d) {p : List Int} (h : Prs a0 a1 c d p) : allb p d.length 100000 = true ∧ HoL a0 a1 c d p 0 := by
  refine ⟨(allb_iff (by decide)).2 ⟨h.l, h.b⟩, fun s _ hs => ?_⟩
  have := Ho_of ok.rt h.P
  exact ⟨this.z s hs, this.ab s hs⟩
end Go.Proofs.Ytboefcikdfjfmaa.Pr
namespace Go.Proofs.Ytboefcikdfjfmaa.Pn
open Go.RowKit Go.Proofs.Ytboefcikdfjfmaa.P Go.Proofs.Ytboefcikdfjfmaa.E Go.Proofs.Ytboefcikdfjfmaa.Am Go.Proofs.Ytboefcikdfjfmaa.Va Go.Proofs.Ytboefcikdfjfmaa.Fi Go.Proofs.YtboefcikdfjfmaaW.PrintMore Go.Proofs.YtboefcikdfjfmaaW.PrintWords
variable {a0 a1 : Int} {c d x : List Int}
/-- The stock after so many hours. -/
def sk (d x : List Int) (n : Nat) : Int := sm (fun j => fl x j - fl d j) 0 n
theorem sk_succ (d x : List Int) (n : Nat) : sk d x (n + 1) = sk d x n + (fl x n - fl d n) := sm_succ (Nat.zero_le _)
/-- The list of the stocks. -/
def stl (d x : List Int) (n : Nat) : List Int := (List.range n).map fun i => sk d x (i + 1)
theorem stl_succ (d x : List Int) (n : Nat) : stl d x (n + 1) = stl d x n ++ [sk d x (n + 1)] := by unfold stl; rw [List.range_succ, List.map_append]; rfl
theorem stl_len (d x : List Int) (n : Nat) : (stl d x n).length = n := by simp [stl]
theorem stl_fl (d x : List Int) {n i : Nat} (h : i < n) : fl (stl d x n) i = sk d x (i + 1) := by unfold stl; rw [fl_range, if_pos h]
/-- Numbers that a plan may have. -/
def Small (x : List Int) : Prop := ∀ j, 0 ≤ fl x j ∧ fl x j ≤ 600
theorem sk_bound (ok : Ok a0 a1 c d) (hx : Small x) (n : Nat) : -(50 * (n : Int)) ≤ sk d x n ∧ sk d x n ≤ 600 * n := by
  have h1 := sm_bound (f := fl x) (B := 600) (by decide) (s := 0) n (fun j _ _ => hx j)
  have h2 := sm_bound (f := fl d) (B := 50) (by decide) (s := 0) n (fun j _ _ => ⟨ok.d0 j, ok.d1 j⟩)
  unfold sk
  rw [sm_sub]
  omega
theorem stock_val (ok : Ok a0 a1 c d) (hx : Small x) {i : Nat} (hi : i < d.length) : wrap64 (sk d x i + wrap64 (fl x i - fl d i)) = sk d x (i + 1) := by
  have h1 := sk_bound ok hx i
  have h2 := hx i
  have h3 := ok.d0 i
  have h4 := ok.d1 i
  have := ok.n2
  rw [w64 (x := fl x i - fl d i) (by omega) (by omega), w64 (by omega) (by omega), sk_succ]
/-- The cost of the first hours. -/
def cs (a0 a1 : Int) (c d x : List Int) (n : Nat) : Int := cost a0 a1 (fl c) (fl d) (fl x) n
theorem cs_succ (n : Nat) : cs a0 a1 c d x (n + 1) = cs a0 a1 c d x n + (if 0 < fl x n then a0 else 0) + (fl c n * fl x n + a1 * sk d x (n + 1)) := by
  unfold cs cost ct keep
  rw [sm_succ (Nat.zero_le _), sm_succ (Nat.zero_le _)]
  have : (if on (fl x) n = true then a0 else 0) = if 0 < fl x n then a0 else 0 := by unfold on; simp
  rw [this]
  unfold sk
  omega
theorem mul_bound2 {a b A B : Int} (ha : 0 ≤ a) (hA : a ≤ A) (hb : -B ≤ b) (hB : b ≤ B) (h0 : 0 ≤ B) : -(A * B) ≤ a * b ∧ a * b ≤ A * B := by
  have h1 : a * b ≤ a * B := Int.mul_le_mul_of_nonneg_left hB ha
  have h2 : a * (-B) ≤ a * b := Int.mul_le_mul_of_nonneg_left hb ha
  have h3 : a * B ≤ A * B := Int.mul_le_mul_of_nonneg_right hA h0
  rw [Int.mul_neg] at h2
  omega
theorem step_bound (ok : Ok a0 a1 c d) (hx : Small x) {i : Nat} (hi : i < d.length) : 0 ≤ fl c i * fl x i ∧ fl c i * fl x i ≤ 12000 ∧ -144000 ≤ a1 * sk d x (i + 1) ∧ a1 * sk d x (i + 1) ≤ 144000 := by
  have h1 := mul_bound (A := 20) (B := 600) (ok.c0 i) (ok.c1 i) (hx i).1 (hx i).2
  have h2 := sk_bound ok hx (i + 1)
  have := ok.n2
  have h3 := mul_bound2 (A := 20) (B := 7200) ok.k0 ok.k1 (b := sk d x (i + 1)) (by omega) (by omega) (by decide)
  omega
theorem cs_bound (ok : Ok a0 a1 c d) (hx : Small x) : ∀ n, n ≤ d.length → -(200000 * (n : Int)) ≤ cs a0 a1 c d x n ∧ cs a0 a1 c d x n ≤ 200000 * n := by
  intro n
  induction n with
  | zero => intro _; simp [cs, cost, ct, keep, sm]
  | succ n ih =>
    intro hn
    have h1 := ih (by omega)
    have h2 := step_bound ok hx (show n < d.length by omega)
    have := ok.s0
    have := ok.s1
    rw [cs_succ]
    split <;> omega
theorem cost_val1 (ok : Ok a0 a1 c d) (hx : Small x) {i : Nat} (hi : i < d.length) (h : 0 < fl x i) : wrap64 (wrap64 (cs a0 a1 c d x i + a0) + wrap64 (wrap64 (fl c i * fl x i) + wrap64 (a1 * sk d x (i + 1)))) = cs a0 a1 c d x (i + 1) := by
  have h1 := cs_bound ok hx i (by omega)
  have h2 := step_bound ok hx hi
  have := ok.s0
  have := ok.s1
  have := ok.n2
  rw [cs_succ, if_pos h, w64 (x := fl c i * fl x i) (by omega) (by omega), w64 (x := a1 * sk d x (i + 1)) (by omega) (by omega), w64 (x := fl c i * fl x i + a1 * sk d x (i + 1)) (by omega) (by omega), w64 (x := cs a0 a1 c d x i + a0) (by omega) (by omega), w64 (by omega) (by omega)]
theorem cost_val2 (ok : Ok a0 a1 c d) (hx : Small x) {i : Nat} (hi : i < d.length) (h : ¬ 0 < fl x i) : wrap64 (cs a0 a1 c d x i + wrap64 (wrap64 (fl c i * fl x i) + wrap64 (a1 * sk d x (i + 1)))) = cs a0 a1 c d x (i + 1) := by
  have h1 := cs_bound ok hx i (by omega)
  have h2 := step_bound ok hx hi
  have := ok.n2
  rw [cs_succ, if_neg h, w64 (x := fl c i * fl x i) (by omega) (by omega), w64 (x := a1 * sk d x (i + 1)) (by omega) (by omega), w64 (x := fl c i * fl x i + a1 * sk d x (i + 1)) (by omega) (by omega), w64 (by omega) (by omega)]
  omega
/-- A plan is right. -/
def Right (d x : List Int) : Prop := (∀ i, i < d.length → 0 ≤ sk d x (i + 1)) ∧ sk d x d.length = 0
theorem Right.pl (hr : Right d x) (hx : Small x) : Pl (fl d) d.length (fl x) := by
  refine ⟨fun i _ => (hx i).1, fun n hn => ?_, hr.2⟩
  cases n with
  | zero => exact Int.le_refl _
  | succ n => exact hr.1 n (by omega)
theorem right_of (h : Pl (fl d) d.length (fl x)) : Right d x := ⟨fun i hi => h.st (i + 1) (by omega), h.last⟩
theorem last_val (ok : Ok a0 a1 c d) : wrap64 (((stl d x d.length).length : Int) - 1) = ((d.length - 1 : Nat) : Int) := by
  have := ok.n1
  have := ok.n2
  rw [stl_len, w64 (by omega) (by omega)]
  omega
theorem last_fl (ok : Ok a0 a1 c d) : fl (stl d x d.length) (d.length - 1) = sk d x d.length := by
  have := ok.n1
  rw [stl_fl d x (by omega), show d.length - 1 + 1 = d.length by omega]
theorem small_of {n : Nat} (h : allb x n 600 = true) : Small x ∧ x.length = n := by
  have := (allb_iff (by decide)).1 h
  exact ⟨this.2, this.1⟩
/-- The error of a task and a plan. -/
def Pe (d x : List Int) (r : Int) : Prop := (allb x d.length 600 = false → r = 1) ∧ (allb x d.length 600 = true → Right d x → r = 0) ∧ (allb x d.length 600 = true → ¬ Right d x → r = 6)
theorem Pe_ex (d x : List Int) : ∃ r, Pe d x r := by
  by_cases h1 : allb x d.length 600 = true
  · by_cases h2 : Right d x
    · exact ⟨0, And.intro (fun h => by rw [h1] at h; cases h) (And.intro (fun _ _ => rfl) (fun _ h => absurd h2 h))⟩
    · exact ⟨6, And.intro (fun h => by rw [h1] at h; cases h) (And.intro (fun _ h => absurd h h2) (fun _ _ => rfl))⟩
  · exact ⟨1, And.intro (fun _ => rfl) (And.intro (fun h => absurd h h1) (fun h => absurd h h1))⟩
theorem Pe.zero {r : Int} (h : Pe d x r) (h0 : r = 0) : allb x d.length 600 = true ∧ Right d x := by
  obtain ⟨h1, h2, h3⟩ := h
  by_cases c1 : allb x d.length 600 = true
  · by_cases c2 : Right d x
    · exact ⟨c1, c2⟩
    · have := h3 c1 c2; omega
  · have := h1 (by simpa using c1); omega
/-- What CheckPlan answers. -/
def cpv (a0 a1 : Int) (c d x : List Int) (r : Int) : Int × Int := if r = 0 then (cs a0 a1 c d x d.length, 0) else (0, r)
/-- Nothing is pumped while there is stock, from an hour on. -/
def Tidy (d x : List Int) (i : Nat) : Prop := ∀ s, i ≤ s → s < d.length → 0 < fl x s → ¬ 0 < sk d x s
theorem tidy_succ {i : Nat} (hi : i < d.length) : Tidy d x i ↔ (0 < fl x i → ¬ 0 < sk d x i) ∧ Tidy d x (i + 1) := by
  constructor
  · exact fun h => ⟨h i (Nat.le_refl _) hi, fun s h1 h2 => h s (by omega) h2⟩
  · rintro ⟨h1, h2⟩ s h3 h4
    rcases Nat.lt_or_ge i s with c1 | c1
    · exact h2 s c1 h4
    · obtain rfl : s = i := by omega
      exact h1
/-- What IsTidy answers. -/
def Ti (d x : List Int) (e : Int) (r : Bool × Int) : Prop := (e ≠ 0 → r = (false, e)) ∧ (e = 0 → Tidy d x 1 → r = (true, 0)) ∧ (e = 0 → ¬ Tidy d x 1 → r = (false, 0))
theorem Ti_ex (d x : List Int) (e : Int) : ∃ r, Ti d x e r := by
  by_cases h1 : e = 0
  · by_cases h2 : Tidy d x 1
    · exact ⟨(true, 0), And.intro (fun h => absurd h1 h) (And.intro (fun _ _ => rfl) (fun _ h => absurd h2 h))⟩
    · exact ⟨(false, 0), And.intro (fun h => absurd h1 h) (And.intro (fun _ h => absurd h h2) (fun _ _ => rfl))⟩
  · exact ⟨(false, e), And.intro (fun _ => rfl) (And.intro (fun h => absurd h h1) (fun h => absurd h h1))⟩
end Go.Proofs.Ytboefcikdfjfmaa.Pn
namespace Go.Proofs.Ytboefcikdfjfmaa.At
open Go.RowKit Go.Proofs.Ytboefcikdfjfmaa.P Go.Proofs.Ytboefcikdfjfmaa.E Go.Proofs.Ytboefcikdfjfmaa.Am Go.Proofs.Ytboefcikdfjfmaa.Va Go.Proofs.Ytboefcikdfjfmaa.Fi Go.Proofs.Ytboefcikdfjfmaa.Pn Go.Proofs.YtboefcikdfjfmaaW.PrintMore Go.Proofs.YtboefcikdfjfmaaW.PrintWords
variable {a0 a1 : Int} {c d : List Int}
/-- The plan of a set after so many hours, as a list. -/
def pxl (a1 : Int) (c d : List Int) (a : Nat → Bool) (u : Nat) : List Int := (List.range d.length).map fun i => px a1 (fl c) (fl d) a u i
theorem pxl_len (a : Nat → Bool) (u : Nat) : (pxl a1 c d a u).length = d.length := by simp [pxl]
theorem pxl_fl (a : Nat → Bool) (u : Nat) {i : Nat} (hi : i < d.length) : fl (pxl a1 c d a u) i = px a1 (fl c) (fl d) a u i := by unfold pxl; rw [fl_range, if_pos hi]
theorem pxl_zero (a : Nat → Bool) : pxl a1 c d a 0 = List.replicate d.length 0 := by
  refine list_ext (by simp [pxl]) (fun i hi => ?_)
  rw [pxl_len] at hi
  rw [pxl_fl a 0 hi, fl_replicate]; rfl
theorem pxl_skip (a : Nat → Bool) {u : Nat} (h0 : fl d u = 0) : pxl a1 c d a (u + 1) = pxl a1 c d a u := by
  refine list_ext (by rw [pxl_len, pxl_len]) (fun i hi => ?_)
  rw [pxl_len] at hi
  rw [pxl_fl a _ hi, pxl_fl a _ hi, px_zero a h0]
theorem pxl_set (a : Nat → Bool) {u s : Nat} (hs : sg a1 (fl c) a u = some s) (hu : u < d.length) : pxl a1 c d a (u + 1) = (pxl a1 c d a u).set s (fl (pxl a1 c d a u) s + fl d u) := by
  have hsu := (sg_some hs).1
  refine list_ext (by rw [pxl_len, List.length_set, pxl_len]) (fun i hi => ?_)
  rw [pxl_len] at hi
  rw [fl_set i _ (by rw [pxl_len]; omega), pxl_fl a _ hi, px_succ, hs, pxl_fl a _ (show s < d.length by omega), pxl_fl a _ hi]
  by_cases c1 : i = s
  · subst c1; simp
  · rw [if_neg (by intro e; injection e with e; exact c1 e.symm), if_neg c1]; omega
theorem px_bound (ok : Ok a0 a1 c d) (a : Nat → Bool) {u : Nat} (hu : u ≤ d.length) (i : Nat) : 0 ≤ px a1 (fl c) (fl d) a u i ∧ px a1 (fl c) (fl d) a u i ≤ 600 := by
  have := sm_bound (f := fun v => if sg a1 (fl c) a v = some i then fl d v else 0) (B := 50) (by decide) (s := 0) u (fun j _ _ => by have := ok.d0 j; have := ok.d1 j; split <;> omega)
  have := ok.n2
  unfold px
  omega
theorem pxl_small (ok : Ok a0 a1 c d) (a : Nat → Bool) {u : Nat} (hu : u ≤ d.length) : Small (pxl a1 c d a u) := by
  intro j
  rcases Nat.lt_or_ge j d.length with c1 | c1
  · rw [pxl_fl a u c1]; exact px_bound ok a hu j
  · rw [fl_ge (by rw [pxl_len]; exact c1)]; decide
theorem u64_nat {s : Nat} (h : s ≤ 1000) : IntKind.u64.wrap (s : Int) = (s : Int) := by
  simp only [IntKind.wrap, IntKind.signed, IntKind.bits]
  simp
  omega
def bv : Option Nat → Int
  | none => -1
  | some s => (s : Int)
theorem okA_le {a : Nat → Bool} {i : Nat} (hi : i < d.length) : (∀ u, i ≤ u → u < d.length → fl d u ≠ 0 → sg a1 (fl c) a u ≠ none) ↔ (fl d i ≠ 0 → sg a1 (fl c) a i ≠ none) ∧ (∀ u, i + 1 ≤ u → u < d.length → fl d u ≠ 0 → sg a1 (fl c) a u ≠ none) := by
  constructor
  · exact fun h => ⟨h i (Nat.le_refl _) hi, fun u h1 h2 => h u (by omega) h2⟩
  · rintro ⟨h1, h2⟩ u h3 h4
    rcases Nat.lt_or_ge i u with c1 | c1
    · exact h2 u c1 h4
    · obtain rfl : u = i := by omega
      exact h1
/-- What a set of hours leads to. -/
def Atv (a1 : Int) (c d : List Int) (a : Nat → Bool) (r : List Int × Bool) : Prop :=
  (okA a1 (fl c) (fl d) a d.length → r = (pxl a1 c d a d.length, true)) ∧ (¬ okA a1 (fl c) (fl d) a d.length → r = ([], false))
theorem Atv_ex (a1 : Int) (c d : List Int) (a : Nat → Bool) : ∃ r, Atv a1 c d a r := by
  by_cases h : okA a1 (fl c) (fl d) a d.length
  · exact ⟨(pxl a1 c d a d.length, true), And.intro (fun _ => rfl) (fun q => absurd h q)⟩
  · exact ⟨([], false), And.intro (fun q => absurd q h) (fun _ => rfl)⟩
theorem okA_congr {h : Int} {cf df : Nat → Int} {a b : Nat → Bool} {n : Nat} (hab : ∀ i, i < n → a i = b i) : okA h cf df a n ↔ okA h cf df b n := by
  constructor
  · intro q u hu hd; rw [← sg_congr (a := a) (fun i hi => hab i (by omega))]; exact q u hu hd
  · intro q u hu hd; rw [sg_congr (b := b) (fun i hi => hab i (by omega))]; exact q u hu hd
theorem px_congr2 {h : Int} {cf df : Nat → Int} {a b : Nat → Bool} {n : Nat} (hab : ∀ i, i < n → a i = b i) (i : Nat) : px h cf df a n i = px h cf df b n i := by
  unfold px
  exact sm_congr (fun u _ hu => by rw [sg_congr (a := a) (b := b) (fun j hj => hab j (by omega))])
theorem Atv_congr {a b : Nat → Bool} (hab : ∀ i, i < d.length → a i = b i) {r : List Int × Bool} : Atv a1 c d a r ↔ Atv a1 c d b r := by
  have e1 : pxl a1 c d a d.length = pxl a1 c d b d.length := by
    unfold pxl
    exact List.map_congr_left (fun i _ => px_congr2 hab i)
  unfold Atv
  rw [okA_congr hab, e1]
/-- What is told of the plan that a set leads to. -/
theorem at_pl (ok : Ok a0 a1 c d) {a : Nat → Bool} (hok : okA a1 (fl c) (fl d) a d.length) : Pl (fl d) d.length (fl (pxl a1 c d a d.length)) := by
  have h := px_pl ok.rt hok
  have e : ∀ n, n ≤ d.length → sm (fun i => fl (pxl a1 c d a d.length) i - fl d i) 0 n = sm (fun i => px a1 (fl c) (fl d) a d.length i - fl d i) 0 n := fun n hn => sm_congr (fun i _ hi => by rw [pxl_fl a _ (by omega)])
  exact ⟨fun i hi => by rw [pxl_fl a _ hi]; exact h.x0 i hi, fun n hn => by rw [e n hn]; exact h.st n hn, by rw [e _ (Nat.le_refl _)]; exact h.last⟩
theorem at_cost (a : Nat → Bool) : cs a0 a1 c d (pxl a1 c d a d.length) d.length = cost a0 a1 (fl c) (fl d) (px a1 (fl c) (fl d) a d.length) d.length := cost_congr (fun i hi => pxl_fl a _ hi)
theorem at_allb (ok : Ok a0 a1 c d) (a : Nat → Bool) : allb (pxl a1 c d a d.length) d.length 600 = true := (allb_iff (by decide)).2 ⟨pxl_len _ _, pxl_small ok a (Nat.le_refl _)⟩
end Go.Proofs.Ytboefcikdfjfmaa.At
namespace Go.Proofs.Ytboefcikdfjfmaa.Pn
open Go.RowKit Go.Proofs.Ytboefcikdfjfmaa.P Go.Proofs.Ytboefcikdfjfmaa.E Go.Proofs.Ytboefcikdfjfmaa.Am Go.Proofs.Ytboefcikdfjfmaa.Va Go.Proofs.Ytboefcikdfjfmaa.Fi Go.Proofs.YtboefcikdfjfmaaW.PrintMore Go.Proofs.YtboefcikdfjfmaaW.PrintWords
variable {a0 a1 : Int} {c d x : List Int}
theorem stock_loop (ok : Ok a0 a1 c d) (hx : Small x) (hl : x.length = d.length) (e : Nat) : ∀ i : Nat, i ≤ d.length → d.length - i = e →
    Tl (fun k => air_stock.l0 k (stl d x i) (sk d x i) x (x.length : Int) (i : Int) a0 a1 c d) (stl d x d.length) := by
  have := ok.n2
  induction e with
  | zero =>
    intro i h1 h2
    obtain rfl : i = d.length := by omega
    refine Tl.succ ?_
    simp only [air_stock.l0]
    exact Tl.neg (by omega) Tl.now
  | succ e ih =>
    intro i h1 h2
    refine Tl.succ ?_
    simp only [air_stock.l0]
    have hll := stl_len d x i
    refine Tl.pos (by omega) (Tl.pos (by omega) (Tl.pos (by omega) (Tl.pos (by omega) (Tl.pos (by omega) ?_))))
    rw [rd_fl, rd_fl, stock_val ok hx (by omega), w64 (by omega) (by omega), ← stl_succ]
    exact ih (i + 1) (by omega) (by omega)
theorem ev_stock (ok : Ok a0 a1 c d) (hx : Small x) (hl : x.length = d.length) : Tl (fun k => air_stock.f k a0 a1 c d x) (stl d x d.length) := by
  unfold air_stock.f
  exact stock_loop ok hx hl d.length 0 (by omega) (by omega)
theorem mn_mq (l : List Int) (n : Nat) : slices_Min_int_int.mn l n = mq (fl l) n := by
  induction n with
  | zero => simp only [slices_Min_int_int.mn, mq]; exact rd_fl l 0
  | succ n ih => simp only [slices_Min_int_int.mn, mq, ih, rd_fl]
theorem ev_planned (ok : Ok a0 a1 c d) (hl : x.length ≤ 1000) {r : Int} (hr : Pe d x r) : Tl (fun k => air_planned.f k a0 a1 c d x) r := by
  unfold air_planned.f
  obtain ⟨h1, h2, h3⟩ := hr
  have hn1 := ok.n1
  have hn2 := ok.n2
  refine Tl.bind' (ev_Validate (by have := ok.cl; omega) (by omega)) (Tl.pos (vc_ok.2 ok) (Tl.bind' (ev_all hl _ _) ?_))
  by_cases c1 : allb x d.length 600 = true
  · obtain ⟨hx, hxl⟩ := small_of c1
    have hll := stl_len d x d.length
    have em : slices_Min_int_int.f (stl d x d.length) = some (mq (fl (stl d x d.length)) (d.length - 1)) := by
      unfold slices_Min_int_int.f
      rw [if_pos (by omega), mn_mq, hll]
    refine Tl.pos c1 (Tl.bind (ev_stock ok hx hxl) (Tl.bind' em ?_))
    by_cases c2 : mq (fl (stl d x d.length)) (d.length - 1) < 0
    · refine (Tl.pos c2 Tl.now).to (h3 c1 (fun q => ?_)).symm
      obtain ⟨s, g1, g2⟩ := mq_ex (fl (stl d x d.length)) (d.length - 1)
      rw [stl_fl d x (by omega)] at g2
      have := q.1 s (by omega)
      omega
    · refine Tl.neg c2 ?_
      rw [last_val ok, rd_fl, last_fl ok]
      refine Tl.pos (by omega) (Tl.pos (by omega) ?_)
      by_cases c3 : sk d x d.length = 0
      · refine (Tl.pos c3 Tl.now).to (h2 c1 ⟨fun i hi => ?_, c3⟩).symm
        have := mq_le (fl (stl d x d.length)) (d.length - 1) i (by omega)
        rw [stl_fl d x hi] at this
        omega
      · exact (Tl.neg c3 Tl.now).to (h3 c1 (fun q => c3 q.2)).symm
  · exact (Tl.neg c1 Tl.now).to (h1 (by simpa using c1)).symm
theorem ev_planned_no (h1 : c.length ≤ 1000) (h2 : d.length ≤ 1000) (no : vc a0 a1 c d ≠ 0) (x : List Int) : Tl (fun k => air_planned.f k a0 a1 c d x) (vc a0 a1 c d) := by
  unfold air_planned.f
  exact Tl.bind' (ev_Validate h1 h2) (Tl.neg no Tl.now)
end Go.Proofs.Ytboefcikdfjfmaa.Pn
namespace Go.Proofs.Ytboefcikdfjfmaa.Pn
open Go.RowKit Go.Proofs.Ytboefcikdfjfmaa.P Go.Proofs.Ytboefcikdfjfmaa.E Go.Proofs.Ytboefcikdfjfmaa.Am Go.Proofs.Ytboefcikdfjfmaa.Va Go.Proofs.Ytboefcikdfjfmaa.Fi Go.Proofs.YtboefcikdfjfmaaW.PrintMore Go.Proofs.YtboefcikdfjfmaaW.PrintWords
variable {a0 a1 : Int} {c d x : List Int}
theorem cost_loop (ok : Ok a0 a1 c d) (hx : Small x) (hl : x.length = d.length) (e : Nat) : ∀ i : Nat, i ≤ d.length → d.length - i = e →
    Tl (fun k => air_cost.l0 k x (cs a0 a1 c d x i) (stl d x d.length) ((stl d x d.length).length : Int) (i : Int) a0 a1 c d) (cs a0 a1 c d x d.length) := by
  have := ok.n2
  have hll := stl_len d x d.length
  have hcl := ok.cl
  induction e with
  | zero =>
    intro i h1 h2
    obtain rfl : i = d.length := by omega
    refine Tl.succ ?_
    simp only [air_cost.l0]
    exact Tl.neg (by omega) Tl.now
  | succ e ih =>
    intro i h1 h2
    have hi : i < d.length := by omega
    refine Tl.succ ?_
    simp only [air_cost.l0]
    refine Tl.pos (by omega) (Tl.pos (by omega) (Tl.pos (by omega) (Tl.pos (by omega) ?_)))
    rw [rd_fl, rd_fl, rd_fl, stl_fl d x hi, w64 (x := (i : Int) + 1) (by omega) (by omega)]
    by_cases h3 : 0 < fl x i
    · refine Tl.pos h3 (Tl.pos (by omega) ?_)
      rw [cost_val1 ok hx hi h3]
      exact ih (i + 1) (by omega) (by omega)
    · refine Tl.neg h3 (Tl.pos (by omega) ?_)
      rw [cost_val2 ok hx hi h3]
      exact ih (i + 1) (by omega) (by omega)
theorem ev_cost (ok : Ok a0 a1 c d) (hx : Small x) (hl : x.length = d.length) : Tl (fun k => air_cost.f k a0 a1 c d x) (cs a0 a1 c d x d.length) := by
  unfold air_cost.f
  exact Tl.bind (ev_stock ok hx hl) (cost_loop ok hx hl d.length 0 (by omega) (by omega))
end Go.Proofs.Ytboefcikdfjfmaa.Pn
namespace Go.Proofs.Ytboefcikdfjfmaa.Pn
open Go.RowKit Go.Proofs.Ytboefcikdfjfmaa.P Go.Proofs.Ytboefcikdfjfmaa.E Go.Proofs.Ytboefcikdfjfmaa.Am Go.Proofs.Ytboefcikdfjfmaa.Va Go.Proofs.Ytboefcikdfjfmaa.Fi Go.Proofs.YtboefcikdfjfmaaW.PrintMore Go.Proofs.YtboefcikdfjfmaaW.PrintWords
variable {a0 a1 : Int} {c d x : List Int}
theorem ev_CheckPlan (ok : Ok a0 a1 c d) (hl : x.length ≤ 1000) {r : Int} (hr : Pe d x r) : Tl (fun k => air_CheckPlan.f k a0 a1 c d x) (cpv a0 a1 c d x r) := by
  unfold air_CheckPlan.f cpv
  refine Tl.bind (ev_planned ok hl hr) ?_
  refine Tl.ite (fun h0 => ?_) (fun _ => Tl.now)
  obtain ⟨g1, g2⟩ := small_of (hr.zero h0).1
  exact Tl.bind (ev_cost ok g1 g2) Tl.now
theorem ev_CheckPlan_no (h1 : c.length ≤ 1000) (h2 : d.length ≤ 1000) (no : vc a0 a1 c d ≠ 0) (x : List Int) : Tl (fun k => air_CheckPlan.f k a0 a1 c d x) (0, vc a0 a1 c d) := by
  unfold air_CheckPlan.f
  exact Tl.bind (ev_planned_no h1 h2 no x) (Tl.neg no Tl.now)
end Go.Proofs.Ytboefcikdfjfmaa.Pn
namespace Go.Proofs.Ytboefcikdfjfmaa.Pn
open Go.RowKit Go.Proofs.Ytboefcikdfjfmaa.P Go.Proofs.Ytboefcikdfjfmaa.E Go.Proofs.Ytboefcikdfjfmaa.Am Go.Proofs.Ytboefcikdfjfmaa.Va Go.Proofs.Ytboefcikdfjfmaa.Fi Go.Proofs.YtboefcikdfjfmaaW.PrintMore Go.Proofs.YtboefcikdfjfmaaW.PrintWords
variable {a0 a1 : Int} {c d x : List Int}
/-- The hours in which something is pumped. -/
def sts (x : List Int) (n : Nat) : List Int := ((List.range n).filter fun i => on (fl x) i).map fun (i : Nat) => (i : Int)
theorem sts_succ (x : List Int) (n : Nat) : sts x (n + 1) = if 0 < fl x n then sts x n ++ [(n : Int)] else sts x n := by
  unfold sts
  rw [List.range_succ, List.filter_append, List.map_append]
  by_cases c1 : 0 < fl x n
  · rw [if_pos c1]; simp [on, c1]
  · rw [if_neg c1]; simp [on, c1]
theorem sts_len (x : List Int) (n : Nat) : (sts x n).length ≤ n := by
  unfold sts
  rw [List.length_map]
  exact Nat.le_trans (List.length_filter_le _ _) (by simp)
theorem starts_loop (hl : x.length ≤ 1000) (e : Nat) : ∀ i : Nat, i ≤ x.length → x.length - i = e → Tl (fun k => air_starts.l0 k (sts x i) x (x.length : Int) (i : Int)) (sts x x.length) := by
  induction e with
  | zero =>
    intro i h1 h2
    obtain rfl : i = x.length := by omega
    refine Tl.succ ?_
    simp only [air_starts.l0]
    exact Tl.neg (by omega) Tl.now
  | succ e ih =>
    intro i h1 h2
    have hs := sts_len x i
    have hrec := ih (i + 1) (by omega) (by omega)
    refine Tl.succ ?_
    simp only [air_starts.l0]
    refine Tl.pos (by omega) (Tl.pos (by omega) (Tl.pos (by omega) ?_))
    rw [rd_fl, w64 (by omega) (by omega)]
    rw [sts_succ] at hrec
    by_cases c1 : fl x i > 0
    · rw [if_pos c1] at hrec
      exact Tl.pos c1 (Tl.pos (by omega) hrec)
    · rw [if_neg c1] at hrec
      exact Tl.neg c1 hrec
theorem ev_starts (hl : x.length ≤ 1000) : Tl (fun k => air_starts.f k x) (sts x x.length) := by
  unfold air_starts.f
  exact starts_loop hl x.length 0 (by omega) (by omega)
end Go.Proofs.Ytboefcikdfjfmaa.Pn
namespace Go.Proofs.Ytboefcikdfjfmaa.Pn
open Go.RowKit Go.Proofs.Ytboefcikdfjfmaa.P Go.Proofs.Ytboefcikdfjfmaa.E Go.Proofs.Ytboefcikdfjfmaa.Am Go.Proofs.Ytboefcikdfjfmaa.Va Go.Proofs.Ytboefcikdfjfmaa.Fi Go.Proofs.YtboefcikdfjfmaaW.PrintMore Go.Proofs.YtboefcikdfjfmaaW.PrintWords
variable {a0 a1 : Int} {c d x : List Int}
theorem tidy_loop (ok : Ok a0 a1 c d) (hl : x.length = d.length) (e : Nat) : ∀ i : Nat, 1 ≤ i → i ≤ d.length → d.length - i = e → ∀ r : Bool × Int, (Tidy d x i → r = (true, 0)) → (¬ Tidy d x i → r = (false, 0)) →
    Tl (fun k => air_IsTidy.l0 k x (stl d x d.length) (i : Int)) r := by
  have hn2 := ok.n2
  have hll := stl_len d x d.length
  induction e with
  | zero =>
    intro i h0 h1 h2 r ht hf
    refine Tl.succ ?_
    simp only [air_IsTidy.l0]
    exact (Tl.neg (by omega) Tl.now).to (ht (fun s g1 g2 => by omega)).symm
  | succ e ih =>
    intro i h0 h1 h2 r ht hf
    have hi : i < d.length := by omega
    have e1 : wrap64 ((i : Int) - 1) = ((i - 1 : Nat) : Int) := by rw [w64 (by omega) (by omega)]; omega
    have hrec := ih (i + 1) (by omega) (by omega) (by omega) r
    refine Tl.succ ?_
    simp only [air_IsTidy.l0]
    refine Tl.pos (by omega) (Tl.pos (by omega) ?_)
    rw [e1, rd_fl, rd_fl, stl_fl d x (by omega), show i - 1 + 1 = i by omega, w64 (by omega) (by omega)]
    by_cases c1 : fl x i > 0
    · refine Tl.pos c1 (Tl.pos (by omega) (Tl.pos (by omega) ?_))
      by_cases c2 : sk d x i > 0
      · exact (Tl.pos c2 Tl.now).to (hf (fun q => q i (Nat.le_refl _) hi c1 c2)).symm
      · exact Tl.neg c2 (hrec (fun q => ht ((tidy_succ hi).2 ⟨fun _ => c2, q⟩)) (fun q => hf (fun q2 => q ((tidy_succ hi).1 q2).2)))
    · exact Tl.neg c1 (hrec (fun q => ht ((tidy_succ hi).2 ⟨fun q3 => absurd q3 c1, q⟩)) (fun q => hf (fun q2 => q ((tidy_succ hi).1 q2).2)))
theorem ev_IsTidy (ok : Ok a0 a1 c d) (hl : x.length ≤ 1000) {e : Int} (he : Pe d x e) {r : Bool × Int} (hr : Ti d x e r) : Tl (fun k => air_IsTidy.f k a0 a1 c d x) r := by
  unfold air_IsTidy.f
  refine Tl.bind (ev_planned ok hl he) ?_
  obtain ⟨h1, h2, h3⟩ := hr
  by_cases h0 : e = 0
  · obtain ⟨g1, g2⟩ := small_of (he.zero h0).1
    exact Tl.pos h0 (Tl.bind (ev_stock ok g1 g2) (tidy_loop ok g2 (d.length - 1) 1 (Nat.le_refl _) ok.n1 rfl r (h2 h0) (h3 h0)))
  · exact (Tl.neg h0 Tl.now).to (h1 h0).symm
theorem ev_Starts (ok : Ok a0 a1 c d) (hl : x.length ≤ 1000) {r : Int} (hr : Pe d x r) : Tl (fun k => air_Starts.f k a0 a1 c d x) (if r = 0 then (sts x x.length, 0) else ([], r)) := by
  unfold air_Starts.f
  refine Tl.bind (ev_planned ok hl hr) ?_
  exact Tl.ite (fun h0 => Tl.bind (ev_starts hl) Tl.now) (fun _ => Tl.now)
end Go.Proofs.Ytboefcikdfjfmaa.Pn
namespace Go.Proofs.Ytboefcikdfjfmaa.At
open Go.RowKit Go.Proofs.Ytboefcikdfjfmaa.P Go.Proofs.Ytboefcikdfjfmaa.E Go.Proofs.Ytboefcikdfjfmaa.Am Go.Proofs.Ytboefcikdfjfmaa.Va Go.Proofs.Ytboefcikdfjfmaa.Fi Go.Proofs.Ytboefcikdfjfmaa.Pr Go.Proofs.Ytboefcikdfjfmaa.Pn Go.Proofs.YtboefcikdfjfmaaW.PrintMore Go.Proofs.YtboefcikdfjfmaaW.PrintWords
variable {a0 a1 : Int} {c d : List Int}
/-- The hours of a number's bits. -/
def bit (m : Int) (s : Nat) : Bool := decide ((Go.bits .and .i64 (shr .i64 m (s : Int)) 1) = 1)
end Go.Proofs.Ytboefcikdfjfmaa.At
namespace Go.Proofs.Ytboefcikdfjfmaa.Le
open Go.RowKit Go.Proofs.Ytboefcikdfjfmaa.P Go.Proofs.Ytboefcikdfjfmaa.E Go.Proofs.Ytboefcikdfjfmaa.Am Go.Proofs.Ytboefcikdfjfmaa.Va Go.Proofs.Ytboefcikdfjfmaa.Fi Go.Proofs.Ytboefcikdfjfmaa.Pr Go.Proofs.Ytboefcikdfjfmaa.Pn Go.Proofs.Ytboefcikdfjfmaa.At Go.Proofs.YtboefcikdfjfmaaW.PrintMore Go.Proofs.YtboefcikdfjfmaaW.PrintWords
variable {a0 a1 : Int} {c d : List Int}
theorem i64_small (n : Int) (h0 : 0 ≤ n) (h1 : n < 2 ^ 40) : IntKind.i64.wrap n = n := by
  rw [IntKind.wrap_i64]; omega
theorem bit_nat {m s : Nat} (hm : m < 2 ^ 40) (hs : s ≤ 40) : bit (m : Int) s = m.testBit s := by
  unfold bit shr
  have e1 : min ((s : Int).toNat) IntKind.i64.bits = s := by
    have : IntKind.i64.bits = 64 := rfl
    omega
  rw [e1]
  have e2 : (m : Int) / 2 ^ s = ((m / 2 ^ s : Nat) : Int) := by simp
  rw [e2]
  have h1 : m / 2 ^ s < 2 ^ 40 := Nat.lt_of_le_of_lt (Nat.div_le_self _ _) hm
  have e3 := (bits_nat .i64 40 (by decide) i64_small (m / 2 ^ s) 1 h1 (by decide)).1
  rw [show (1 : Int) = ((1 : Nat) : Int) from rfl, e3]
  rw [Nat.testBit, Nat.shiftRight_eq_div_pow, Nat.and_comm 1]
  generalize m / 2 ^ s = q
  have h2 : q &&& 1 = q % 2 := Nat.and_one_is_mod q
  rw [h2]
  rcases Nat.mod_two_eq_zero_or_one q with h | h
  · rw [h]; decide
  · rw [h]; decide
theorem shl_pow {n : Nat} (hn : n ≤ 12) : shl .i64 1 (n : Int) = ((2 ^ n : Nat) : Int) := by
  have key : ∀ k : Fin 13, shl .i64 1 ((k.val : Nat) : Int) = ((2 ^ k.val : Nat) : Int) := by decide +kernel
  exact key ⟨n, by omega⟩
theorem pow_le {n : Nat} (hn : n ≤ 12) : 2 ^ n ≤ 4096 := Nat.pow_le_pow_right (n := 2) (by decide) hn
/-- The number of a set. -/
def mk (a : Nat → Bool) : Nat → Nat
  | 0 => 0
  | n + 1 => if a n then mk a n ||| 2 ^ n else mk a n
theorem mk_lt (a : Nat → Bool) (n : Nat) : mk a n < 2 ^ n := by
  induction n with
  | zero => exact Nat.one_pos
  | succ n ih =>
    have h1 : 2 ^ n < 2 ^ (n + 1) := Nat.pow_lt_pow_right (by decide) (Nat.lt_succ_self n)
    unfold mk
    split
    · exact Nat.or_lt_two_pow (by omega) h1
    · omega
theorem mk_bit (a : Nat → Bool) (n s : Nat) : (mk a n).testBit s = (decide (s < n) && a s) := by
  induction n with
  | zero => simp [mk]
  | succ n ih =>
    unfold mk
    by_cases c1 : a n = true
    · rw [if_pos c1, Nat.testBit_or, ih, Nat.testBit_two_pow]
      by_cases c2 : n = s
      · subst c2; simp [c1]
      · have : decide (s < n + 1) = decide (s < n) := by rw [decide_eq_decide]; omega
        rw [this]; simp [c2]
    · rw [if_neg c1, ih]
      by_cases c2 : n = s
      · subst c2; simp at c1; simp [c1]
      · have : decide (s < n + 1) = decide (s < n) := by rw [decide_eq_decide]; omega
        rw [this]
/-- The cost of a set's plan. -/
def cm (a0 a1 : Int) (c d : List Int) (a : Nat → Bool) : Int := cs a0 a1 c d (pxl a1 c d a d.length) d.length
theorem cm_ge (ok : Ok a0 a1 c d) {F : Nat → Int} (hF : IsF a0 a1 (fl c) (fl d) d.length F) {a : Nat → Bool} (h : okA a1 (fl c) (fl d) a d.length) : F d.length ≤ cm a0 a1 c d a :=
  F_le_plan' ok.rt hF (at_pl ok h)
theorem cm_ex (ok : Ok a0 a1 c d) {F : Nat → Int} (hF : IsF a0 a1 (fl c) (fl d) d.length F) : ∃ m : Nat, m < 2 ^ d.length ∧ okA a1 (fl c) (fl d) (bit (m : Int)) d.length ∧ cm a0 a1 c d (bit (m : Int)) = F d.length := by
  obtain ⟨a, h1, h2, h3⟩ := reach ok.rt hF d.length (Nat.le_refl _)
  have hn := ok.n2
  have hlt := mk_lt a d.length
  have hp := pow_le hn
  have hbit : ∀ i, i < d.length → bit ((mk a d.length : Nat) : Int) i = a i := fun i hi => by
    rw [bit_nat (by omega) (by omega), mk_bit]; simp [hi]
  have hok : okA a1 (fl c) (fl d) (bit ((mk a d.length : Nat) : Int)) d.length := (okA_congr hbit).2 h2
  refine ⟨mk a d.length, hlt, hok, Int.le_antisymm ?_ (cm_ge ok hF hok)⟩
  unfold cm
  rw [at_cost, cost_congr (y := px a1 (fl c) (fl d) a d.length) (fun i _ => px_congr2 hbit i)]
  have := px_cost ok.rt h2
  omega
end Go.Proofs.Ytboefcikdfjfmaa.Le
namespace Go.Proofs.Ytboefcikdfjfmaa.At
open Go.RowKit Go.Proofs.Ytboefcikdfjfmaa.P Go.Proofs.Ytboefcikdfjfmaa.E Go.Proofs.Ytboefcikdfjfmaa.Am Go.Proofs.Ytboefcikdfjfmaa.Va Go.Proofs.Ytboefcikdfjfmaa.Fi Go.Proofs.Ytboefcikdfjfmaa.Pn Go.Proofs.YtboefcikdfjfmaaW.PrintMore Go.Proofs.YtboefcikdfjfmaaW.PrintWords
variable {a0 a1 : Int} {c d : List Int}
def mem (l : List Int) (s : Nat) : Bool := decide ((s : Int) ∈ l)
/-- A set of hours, as a list. -/
structure Set (l : List Int) (n : Nat) : Prop where
  lo : ∀ i, i < l.length → 0 ≤ fl l i
  hi : ∀ i, i < l.length → fl l i < n
  up : ∀ i, i + 1 < l.length → fl l i < fl l (i + 1)
theorem Set.mono {l : List Int} {n : Nat} (h : Set l n) {i j : Nat} (hij : i < j) (hj : j < l.length) : fl l i < fl l j := by
  induction j with
  | zero => omega
  | succ j ih =>
    have h1 := h.up j hj
    rcases Nat.lt_or_ge i j with c1 | c1
    · have := ih c1 (by omega); omega
    · obtain rfl : i = j := by omega
      exact h1
theorem mem_iff {l : List Int} {s : Nat} : mem l s = true ↔ ∃ i, i < l.length ∧ fl l i = s := by
  unfold mem
  rw [decide_eq_true_eq]
  constructor
  · intro h
    obtain ⟨i, hi, he⟩ := List.getElem_of_mem h
    exact ⟨i, hi, by rw [fl_lt hi, he]⟩
  · rintro ⟨i, hi, he⟩
    rw [fl_lt hi] at he
    rw [← he]
    exact List.getElem_mem hi
/-- The best start among the first j of a list. -/
def Bst (a1 : Int) (c l : List Int) (u j : Nat) : Option Nat → Prop
  | none => ∀ i, i < j → ¬ fl l i ≤ u
  | some s => (∃ i, i < j ∧ fl l i = s) ∧ s ≤ u ∧ (∀ i t : Nat, i < j → fl l i = (t : Int) → t ≤ u → way a1 (fl c) s u ≤ way a1 (fl c) t u) ∧ ∀ i t : Nat, i < j → fl l i = (t : Int) → t < s → way a1 (fl c) s u < way a1 (fl c) t u
theorem Bst_sg {l : List Int} {n u : Nat} (h : Set l n) {o : Option Nat} (ho : Bst a1 c l u l.length o) : sg a1 (fl c) (mem l) u = o := by
  cases o with
  | none =>
    cases hs : sg a1 (fl c) (mem l) u with
    | none => rfl
    | some s =>
      obtain ⟨g1, g2, g3⟩ := sg_some hs
      obtain ⟨i, hi, he⟩ := mem_iff.1 g2
      exact absurd (by omega) (ho i hi)
  | some s =>
    obtain ⟨⟨i, hi, he⟩, h1, h2, h3⟩ := ho
    have hm : mem l s = true := mem_iff.2 ⟨i, hi, he⟩
    cases hs : sg a1 (fl c) (mem l) u with
    | none => rw [sg_none hs s h1] at hm; cases hm
    | some s' =>
      obtain ⟨g1, g2, g3⟩ := sg_some hs
      obtain ⟨i', hi', he'⟩ := mem_iff.1 g2
      have k1 := g3 s h1 hm
      have k2 := h2 i' s' hi' he' g1
      rcases Nat.lt_trichotomy s s' with c1 | c1 | c1
      · have := sg_first hs s c1 hm; omega
      · rw [c1]
      · have := h3 i' s' hi' he' c1; omega
theorem plan_inner (ok : Ok a0 a1 c d) {l : List Int} (hl : Set l d.length) (hll : l.length ≤ 1000) {u : Nat} (hu : u < d.length) (P : List Int) (hP : P.length = d.length) (v : Int) (r : List Int × Bool)
    (hno : sg a1 (fl c) (mem l) u = none → r = ([], false)) (hgo : ∀ s, sg a1 (fl c) (mem l) u = some s → Tl (fun k => air_plan.l0 k l (P.set s (wrap64 (fl P s + v))) d (d.length : Int) ((u + 1 : Nat) : Int) a0 a1 c d) r) (e : Nat) : ∀ j : Nat, j ≤ l.length → l.length - j = e → ∀ o, Bst a1 c l u j o →
    Tl (fun k => air_plan.l1 k l P (u : Int) v (bv o) d (d.length : Int) (u : Int) l (l.length : Int) (j : Int) a0 a1 c d) r := by
  have hn2 := ok.n2
  induction e with
  | zero =>
    intro j h1 h2 o ho
    obtain rfl : j = l.length := by omega
    have hs := Bst_sg hl ho
    refine Tl.succ ?_
    simp only [air_plan.l1]
    refine Tl.neg (by omega) ?_
    cases o with
    | none => exact (Tl.pos (by decide) Tl.now).to (hno hs).symm
    | some s =>
      have hsu := ho.2.1
      simp only [bv]
      refine Tl.neg (by omega) (Tl.pos (by omega) (Tl.pos (by omega) ?_))
      rw [rd_fl, Int.toNat_natCast, w64 (x := (u : Int) + 1) (by omega) (by omega)]
      exact hgo s hs
  | succ e ih =>
    intro j h1 h2 o ho
    have hj : j < l.length := by omega
    have lo := hl.lo j hj
    have hi := hl.hi j hj
    obtain ⟨t, ht⟩ : ∃ t : Nat, fl l j = (t : Int) := ⟨(fl l j).toNat, by omega⟩
    have hrec := ih (j + 1) (by omega) (by omega)
    refine Tl.succ ?_
    simp only [air_plan.l1]
    rw [w64 (x := (j : Int) + 1) (by omega) (by omega)]
    refine Tl.pos (by omega) (Tl.pos (by omega) (Tl.pos (by omega) ?_))
    rw [rd_fl, ht]
    have older : ∀ i t2 : Nat, i < j → fl l i = (t2 : Int) → t2 < t := by
      intro i t2 g1 g2
      have := hl.mono g1 hj
      omega
    by_cases c1 : (t : Int) ≤ (u : Int)
    · refine Tl.pos c1 ?_
      cases o with
      | none =>
        refine Tl.pos (by decide) (hrec (some t) ⟨⟨j, by omega, ht⟩, by omega, fun i t2 g1 g2 g3 => ?_, fun i t2 g1 g2 g3 => ?_⟩)
        · rcases Nat.lt_or_ge i j with c2 | c2
          · exact absurd (by omega) (ho i c2)
          · obtain rfl : i = j := by omega
            obtain rfl : t2 = t := by omega
            exact Int.le_refl _
        · rcases Nat.lt_or_ge i j with c2 | c2
          · exact absurd (by omega) (ho i c2)
          · obtain rfl : i = j := by omega
            omega
      | some s =>
        obtain ⟨⟨i0, g1, g2⟩, g3, g4, g5⟩ := ho
        have hst := older i0 s g1 g2
        simp only [bv]
        refine Tl.neg (by omega) (Tl.bind' (ev_way ok (show t ≤ u by omega) hu) (Tl.bind' (ev_way ok g3 hu) ?_))
        by_cases c2 : way a1 (fl c) t u < way a1 (fl c) s u
        · refine Tl.pos c2 (hrec (some t) ⟨⟨j, by omega, ht⟩, by omega, fun i t2 k1 k2 k3 => ?_, fun i t2 k1 k2 k3 => ?_⟩)
          · rcases Nat.lt_or_ge i j with c3 | c3
            · have := g4 i t2 c3 k2 k3; omega
            · obtain rfl : i = j := by omega
              obtain rfl : t2 = t := by omega
              exact Int.le_refl _
          · rcases Nat.lt_or_ge i j with c3 | c3
            · have := g4 i t2 c3 k2 (by omega); omega
            · obtain rfl : i = j := by omega
              omega
        · refine Tl.neg c2 (hrec (some s) ⟨⟨i0, by omega, g2⟩, g3, fun i t2 k1 k2 k3 => ?_, fun i t2 k1 k2 k3 => ?_⟩)
          · rcases Nat.lt_or_ge i j with c3 | c3
            · exact g4 i t2 c3 k2 k3
            · obtain rfl : i = j := by omega
              obtain rfl : t2 = t := by omega
              omega
          · rcases Nat.lt_or_ge i j with c3 | c3
            · exact g5 i t2 c3 k2 k3
            · obtain rfl : i = j := by omega
              obtain rfl : t2 = t := by omega
              omega
    · refine Tl.neg c1 ?_
      cases o with
      | none =>
        refine hrec none (fun i g1 => ?_)
        rcases Nat.lt_or_ge i j with c3 | c3
        · exact ho i c3
        · obtain rfl : i = j := by omega
          omega
      | some s =>
        obtain ⟨⟨i0, g1, g2⟩, g3, g4, g5⟩ := ho
        refine hrec (some s) ⟨⟨i0, by omega, g2⟩, g3, fun i t2 k1 k2 k3 => ?_, fun i t2 k1 k2 k3 => ?_⟩
        · rcases Nat.lt_or_ge i j with c3 | c3
          · exact g4 i t2 c3 k2 k3
          · obtain rfl : i = j := by omega
            omega
        · rcases Nat.lt_or_ge i j with c3 | c3
          · exact g5 i t2 c3 k2 k3
          · obtain rfl : i = j := by omega
            omega
theorem plan_loop (ok : Ok a0 a1 c d) {l : List Int} (hl : Set l d.length) (hll : l.length ≤ 1000) (e : Nat) : ∀ u : Nat, u ≤ d.length → d.length - u = e → ∀ r : List Int × Bool,
    ((∀ v, u ≤ v → v < d.length → fl d v ≠ 0 → sg a1 (fl c) (mem l) v ≠ none) → r = (pxl a1 c d (mem l) d.length, true)) → (¬ (∀ v, u ≤ v → v < d.length → fl d v ≠ 0 → sg a1 (fl c) (mem l) v ≠ none) → r = ([], false)) →
    Tl (fun k => air_plan.l0 k l (pxl a1 c d (mem l) u) d (d.length : Int) (u : Int) a0 a1 c d) r := by
  have hn2 := ok.n2
  induction e with
  | zero =>
    intro u h1 h2 r hy hn
    obtain rfl : u = d.length := by omega
    refine Tl.succ ?_
    simp only [air_plan.l0]
    exact (Tl.neg (by omega) Tl.now).to (hy (fun v g1 g2 => by omega)).symm
  | succ e ih =>
    intro u h1 h2 r hy hn
    have hu : u < d.length := by omega
    refine Tl.succ ?_
    simp only [air_plan.l0]
    refine Tl.pos (by omega) (Tl.pos (by omega) (Tl.pos (by omega) ?_))
    rw [rd_fl]
    by_cases h0 : fl d u = 0
    · refine Tl.pos h0 ?_
      rw [w64 (by omega) (by omega)]
      have := ih (u + 1) (by omega) (by omega) r (fun q => hy ((okA_le hu).2 ⟨fun q2 => absurd h0 q2, q⟩)) (fun q => hn (fun q2 => q ((okA_le hu).1 q2).2))
      rw [pxl_skip (mem l) h0] at this
      exact this
    · refine Tl.neg h0 ?_
      refine plan_inner ok hl hll hu (pxl a1 c d (mem l) u) (pxl_len _ _) (fl d u) r (fun hs => hn (fun q => q u (Nat.le_refl _) hu h0 hs)) (fun s hs => ?_) l.length 0 (by omega) (by omega) none (fun i hi => by omega)
      have hb := (sg_some hs).1
      have b1 := px_bound ok (mem l) (show u ≤ d.length by omega) s
      have b2 := ok.d0 u
      have b3 := ok.d1 u
      have := ih (u + 1) (by omega) (by omega) r (fun q => hy ((okA_le hu).2 ⟨fun _ q3 => (by rw [hs] at q3; cases q3), q⟩)) (fun q => hn (fun q2 => q ((okA_le hu).1 q2).2))
      rw [pxl_set (mem l) hs hu] at this
      rw [w64 (by rw [pxl_fl _ _ (show s < d.length by omega)]; omega) (by rw [pxl_fl _ _ (show s < d.length by omega)]; omega)]
      exact this
theorem ev_plan (ok : Ok a0 a1 c d) {l : List Int} (hl : Set l d.length) (hll : l.length ≤ 1000) {r : List Int × Bool} (hr : Atv a1 c d (mem l) r) : Tl (fun k => air_plan.f k a0 a1 c d l) r := by
  unfold air_plan.f
  have := ok.n2
  refine Tl.pos (by omega) (Tl.pos (by omega) ?_)
  have h := plan_loop ok hl hll d.length 0 (by omega) (by omega) r (fun q => hr.1 (fun u hu hd => q u (Nat.zero_le _) hu hd)) (fun q => hr.2 (fun q2 => q (fun v _ hv hd => q2 v hv hd)))
  rw [pxl_zero] at h
  rw [Int.toNat_natCast]
  exact h
end Go.Proofs.Ytboefcikdfjfmaa.At
namespace Go.Proofs.Ytboefcikdfjfmaa.Be
open Go.RowKit Go.Proofs.Ytboefcikdfjfmaa.P Go.Proofs.Ytboefcikdfjfmaa.E Go.Proofs.Ytboefcikdfjfmaa.Am Go.Proofs.Ytboefcikdfjfmaa.Va Go.Proofs.Ytboefcikdfjfmaa.Fi Go.Proofs.Ytboefcikdfjfmaa.Pn Go.Proofs.YtboefcikdfjfmaaW.PrintMore Go.Proofs.YtboefcikdfjfmaaW.PrintWords
variable {a0 a1 : Int} {c d fs bs : List Int}
/-- What a plan out of lots becomes in a list. -/
def lay (y : Nat → Int) (n : Nat) (out : List Int) : List Int := (List.range out.length).map fun i => if i < n then y i else fl out i
theorem lay_len (y : Nat → Int) (n : Nat) (out : List Int) : (lay y n out).length = out.length := by simp [lay]
theorem lay_fl (y : Nat → Int) (n : Nat) {out : List Int} {i : Nat} (hi : i < out.length) : fl (lay y n out) i = if i < n then y i else fl out i := by unfold lay; rw [fl_range, if_pos hi]
theorem best_loop (ok : Ok a0 a1 c d) (f : Fst a0 a1 c d fs bs) : ∀ n, n ≤ d.length → ∃ y, Am.Good a0 a1 (fl c) (fl d) (fl fs) n y ∧ ∀ out : List Int, out.length = d.length → (∀ i, i < n → fl out i = 0) →
    Tl (fun k => air_Best.l0 k bs out (n : Int) a0 a1 c d) (lay y n out, 0) := by
  have hn2 := ok.n2
  have hl2 := f.l2
  intro n
  induction n using Nat.strongRecOn with
  | ind n ih =>
    intro hn
    cases n with
    | zero =>
      refine ⟨_, good_zero f.F, fun out ho hz => Tl.succ ?_⟩
      simp only [air_Best.l0]
      refine (Tl.neg (by omega) Tl.now).to ?_
      congr 1
      exact list_ext (by rw [lay_len]) (fun i hi => by rw [lay_fl _ _ hi, if_neg (by omega)])
    | succ n =>
      obtain ⟨s, g1, g2, g3⟩ := f.b (n + 1) (by omega) hn
      obtain ⟨y, g, hy⟩ := ih s g2 (by omega)
      refine ⟨_, good_step ok.rt hn g2 g3 g, fun out ho hz => Tl.succ ?_⟩
      simp only [air_Best.l0]
      rw [rd_fl, g1]
      refine Tl.pos (by omega) (Tl.pos (by omega) (Tl.pos (by omega) (Tl.bind (ev_lot ok (show s ≤ n + 1 by omega) hn) (Tl.pos (by omega) (Tl.pos (by omega) ?_)))))
      have hset : ∀ i, fl (out.set s (sm (fl d) s (n + 1))) i = if i = s then sm (fl d) s (n + 1) else fl out i := fun i => fl_set i _ (by omega)
      have h := hy (out.set s (sm (fl d) s (n + 1))) (by simpa using ho) (fun i hi => by rw [hset, if_neg (by omega)]; exact hz i (by omega))
      rw [Int.toNat_natCast]
      refine h.to ?_
      congr 1
      refine list_ext (by rw [lay_len, lay_len, List.length_set]) (fun i hi => ?_)
      rw [lay_len, List.length_set] at hi
      rw [lay_fl _ _ (by simpa using hi), lay_fl _ _ hi, hset]
      by_cases c1 : i < s
      · rw [if_pos c1, if_pos (by omega), if_neg (by omega)]
      · rw [if_neg c1]
        by_cases c2 : i = s
        · subst c2; rw [if_pos rfl, if_pos (by omega), if_pos rfl]
        · rw [if_neg c2]
          by_cases c3 : i < n + 1
          · rw [if_pos c3, if_neg c2, hz i c3, g.z i (by omega)]
          · rw [if_neg c3]
/-- What is told of the plan that the program returns. -/
structure Bst (a0 a1 : Int) (c d fs x : List Int) : Prop where
  l : allb x d.length 600 = true
  r : Right d x
  cost : cs a0 a1 c d x d.length = fl fs d.length
  tidy : Tidy d x 1
theorem best_ex (ok : Ok a0 a1 c d) (f : Fst a0 a1 c d fs bs) : ∃ x, Bst a0 a1 c d fs x ∧ Tl (fun k => air_Best.f k a0 a1 c d) (x, 0) := by
  obtain ⟨y, g, hy⟩ := best_loop ok f d.length (Nat.le_refl _)
  have hn2 := ok.n2
  have h := hy (List.replicate d.length 0) (by simp) (fun i _ => fl_replicate _ _)
  have hf : ∀ i, i < d.length → fl (lay y d.length (List.replicate d.length 0)) i = y i := fun i hi => by rw [lay_fl _ _ (by simpa using hi), if_pos hi]
  have hlen : (lay y d.length (List.replicate d.length 0)).length = d.length := by rw [lay_len]; simp
  have hsk : ∀ n, n ≤ d.length → sk d (lay y d.length (List.replicate d.length 0)) n = sm (fun i => y i - fl d i) 0 n := fun n hn => sm_congr (fun i _ hi => by rw [hf i (by omega)])
  refine ⟨_, ⟨(allb_iff (by decide)).2 ⟨hlen, fun i => ?_⟩, ⟨fun i hi => by rw [hsk (i + 1) (by omega)]; exact g.pl.st (i + 1) (by omega), by rw [hsk _ (Nat.le_refl _)]; exact g.pl.last⟩, ?_, fun s h1 h2 h3 => ?_⟩, ?_⟩
  · rcases Nat.lt_or_ge i d.length with c1 | c1
    · rw [hf i c1]
      refine ⟨g.pl.x0 i c1, ?_⟩
      have h1 := sm_bump (f := y) (g := fun _ => 0) (n := d.length) (s0 := i) (e := y i) (fun j hj => g.pl.x0 j hj) c1 (by omega)
      rw [sm_zero] at h1
      have h2 := g.pl.last
      rw [sm_sub] at h2
      have h3 := (sm_bound (f := fl d) (B := 50) (by decide) (s := 0) d.length (fun j _ _ => ⟨ok.d0 j, ok.d1 j⟩)).2
      omega
    · rw [fl_ge (by rw [hlen]; exact c1)]; decide
  · unfold cs
    rw [cost_congr hf]
    exact g.cost
  · rw [hf s h2] at h3
    rw [hsk s (by omega), g.tidy s h1 h2 h3]
    decide
  · unfold air_Best.f
    refine Tl.bind' (ev_Validate (by have := ok.cl; omega) (by omega)) (Tl.pos (vc_ok.2 ok) (Tl.bind f.ev (Tl.pos (by omega) (Tl.pos (by omega) ?_))))
    rw [Int.toNat_natCast]
    exact h
theorem ev_Best_no (h1 : c.length ≤ 1000) (h2 : d.length ≤ 1000) (no : vc a0 a1 c d ≠ 0) : Tl (fun k => air_Best.f k a0 a1 c d) ([], vc a0 a1 c d) := by
  unfold air_Best.f
  exact Tl.bind' (ev_Validate h1 h2) (Tl.neg no Tl.now)
end Go.Proofs.Ytboefcikdfjfmaa.Be
namespace Go.Proofs.Ytboefcikdfjfmaa.Kn
open Go.RowKit Go.Proofs.Ytboefcikdfjfmaa.P Go.Proofs.Ytboefcikdfjfmaa.E Go.Proofs.Ytboefcikdfjfmaa.Am Go.Proofs.Ytboefcikdfjfmaa.Va Go.Proofs.YtboefcikdfjfmaaW.PrintMore Go.Proofs.YtboefcikdfjfmaaW.PrintWords
theorem ev_copied (a0 a1 : Int) {c d : List Int} (hc : c.length ≤ 1000) (hd : d.length ≤ 1000) : air_copied.f a0 a1 c d = some (a0, a1, c, d) := by
  unfold air_copied.f slices_Clone_int_int.f
  rw [if_pos (by omega), if_pos (by omega)]
  rfl
end Go.Proofs.Ytboefcikdfjfmaa.Kn
namespace Go.Proofs.Ytboefcikdfjfmaa.Pure
open Go.RowKit Go.Proofs.Ytboefcikdfjfmaa.P Go.Proofs.Ytboefcikdfjfmaa.E Go.Proofs.Ytboefcikdfjfmaa.Am Go.Proofs.Ytboefcikdfjfmaa.Va Go.Proofs.Ytboefcikdfjfmaa.Fi Go.Proofs.Ytboefcikdfjfmaa.Pn Go.Proofs.Ytboefcikdfjfmaa.At Go.Proofs.Ytboefcikdfjfmaa.Le Go.Proofs.Ytboefcikdfjfmaa.Kn Go.Proofs.YtboefcikdfjfmaaW.PrintMore Go.Proofs.YtboefcikdfjfmaaW.PrintWords
variable {a0 a1 : Int} {c d : List Int}
/-- An hour of a list is in its place. -/
def okl (l : List Int) (n j : Nat) : Prop := (0 ≤ fl l j ∧ fl l j ≤ (n : Int) - 1) ∧ (0 < j → fl l (j - 1) < fl l j)
def OkL (l : List Int) (n i : Nat) : Prop := ∀ j, i ≤ j → j < l.length → okl l n j
theorem OkL_succ {l : List Int} {n i : Nat} (hi : i < l.length) : OkL l n i ↔ okl l n i ∧ OkL l n (i + 1) := by
  constructor
  · exact fun h => ⟨h i (Nat.le_refl _) hi, fun j h1 h2 => h j (by omega) h2⟩
  · rintro ⟨h1, h2⟩ j h3 h4
    rcases Nat.lt_or_ge i j with c1 | c1
    · exact h2 j c1 h4
    · obtain rfl : j = i := by omega
      exact h1
theorem OkL.set {l : List Int} {n : Nat} (h : OkL l n 0) : Set l n := by
  refine ⟨fun i hi => (h i (Nat.zero_le _) hi).1.1, fun i hi => by have := (h i (Nat.zero_le _) hi).1.2; omega, fun i hi => ?_⟩
  have := (h (i + 1) (Nat.zero_le _) hi).2 (by omega)
  simpa using this
theorem at_list (ok : Ok a0 a1 c d) {l : List Int} (hll : l.length ≤ 1000) {r : List Int × Bool} (hr : OkL l d.length 0 → Atv a1 c d (mem l) r) (e : Nat) : ∀ i : Nat, i ≤ l.length → l.length - i = e → (∀ j, j < i → okl l d.length j) → ∀ v : List Int × Bool × Int,
    (OkL l d.length 0 → v = (r.1, r.2, 0)) → (¬ OkL l d.length 0 → v = ([], false, 1)) → Tl (fun k => air_At.l0 k l l (l.length : Int) (i : Int) a0 a1 c d) v := by
  have hn2 := ok.n2
  induction e with
  | zero =>
    intro i h1 h2 h3 v hy hn
    have hall : OkL l d.length 0 := fun j _ hj => h3 j (by omega)
    refine Tl.succ ?_
    simp only [air_At.l0]
    rw [hy hall]
    exact Tl.neg (by omega) (Tl.bind (ev_plan ok hall.set hll (hr hall)) Tl.now)
  | succ e ih =>
    intro i h1 h2 h3 v hy hn
    have hi : i < l.length := by omega
    have hw : wrap64 ((d.length : Int) - 1) = (d.length : Int) - 1 := w64 (by omega) (by omega)
    refine Tl.succ ?_
    simp only [air_At.l0]
    rw [hw, rd_fl]
    refine Tl.pos (by omega) (Tl.pos (by omega) (Tl.pos (by omega) (Tl.bind' (ev_within _ _ _) ?_)))
    have next : okl l d.length i → Tl (fun k => air_At.l0 k l l (l.length : Int) (wrap64 ((i : Int) + 1)) a0 a1 c d) v := by
      intro hk
      rw [w64 (by omega) (by omega)]
      refine ih (i + 1) (by omega) (by omega) (fun j hj => ?_) v hy hn
      rcases Nat.lt_or_ge j i with c1 | c1
      · exact h3 j c1
      · obtain rfl : j = i := by omega
        exact hk
    by_cases c1 : 0 ≤ fl l i ∧ fl l i ≤ (d.length : Int) - 1
    · refine Tl.pos (decide_eq_true c1) ?_
      by_cases c2 : (i : Int) > 0
      · have e1 : wrap64 ((i : Int) - 1) = ((i - 1 : Nat) : Int) := by rw [w64 (by omega) (by omega)]; omega
        rw [e1, rd_fl]
        refine Tl.pos c2 (Tl.pos (by omega) (Tl.pos (by omega) ?_))
        by_cases c3 : fl l i ≤ fl l (i - 1)
        · exact (Tl.pos c3 Tl.now).to (hn (fun q => by have := (q i (Nat.zero_le _) hi).2 (by omega); omega)).symm
        · exact Tl.neg c3 (next ⟨c1, fun _ => by omega⟩)
      · exact Tl.neg c2 (next ⟨c1, fun q => by omega⟩)
    · exact (Tl.neg (by simpa using c1) Tl.now).to (hn (fun q => c1 (q i (Nat.zero_le _) hi).1)).symm
end Go.Proofs.Ytboefcikdfjfmaa.Pure
namespace Go.Proofs.Ytboefcikdfjfmaa.Pure
open Go.RowKit Go.Proofs.Ytboefcikdfjfmaa.P Go.Proofs.Ytboefcikdfjfmaa.E Go.Proofs.Ytboefcikdfjfmaa.Am Go.Proofs.Ytboefcikdfjfmaa.Va Go.Proofs.Ytboefcikdfjfmaa.Fi Go.Proofs.Ytboefcikdfjfmaa.Pn Go.Proofs.Ytboefcikdfjfmaa.At Go.Proofs.Ytboefcikdfjfmaa.Le Go.Proofs.Ytboefcikdfjfmaa.Kn Go.Proofs.YtboefcikdfjfmaaW.PrintMore Go.Proofs.YtboefcikdfjfmaaW.PrintWords
variable {a0 a1 : Int} {c d : List Int}
theorem eq_loop (l m : List Int) (hl : l.length ≤ 1000) (hm : l.length = m.length) (e : Nat) : ∀ i : Nat, i ≤ l.length → l.length - i = e →
    Tl (fun k => slices_Equal_int_int.l0 k l m (l.length : Int) (i : Int)) (decide (l.drop i = m.drop i)) := by
  induction e with
  | zero =>
    intro i hi hd
    refine Tl.succ ?_
    simp only [slices_Equal_int_int.l0]
    refine (Tl.neg (by omega) Tl.now).to ?_
    rw [List.drop_eq_nil_of_le (by omega), List.drop_eq_nil_of_le (by omega)]; rfl
  | succ e ih =>
    intro i hi hd
    have hlt : i < l.length := by omega
    refine Tl.succ ?_
    simp only [slices_Equal_int_int.l0]
    refine Tl.pos (by omega) (Tl.pos (by omega) (Tl.pos (by omega) (Tl.pos (by omega) ?_)))
    rw [rd_lt hlt, rd_lt (show i < m.length by omega), List.drop_eq_getElem_cons hlt, List.drop_eq_getElem_cons (show i < m.length by omega)]
    by_cases hr : l[i] = m[i]'(by omega)
    · refine Tl.pos hr ?_
      rw [w64 (by omega) (by omega)]
      refine (ih (i + 1) (by omega) (by omega)).to ?_
      rw [hr]
      simp only [List.cons.injEq, true_and]
    · refine (Tl.neg hr Tl.now).to ?_
      simp only [List.cons.injEq, hr, false_and, decide_false]
theorem ev_Equal {l m : List Int} (hl : l.length ≤ 1000) : Tl (fun k => slices_Equal_int_int.f k l m) (decide (l = m)) := by
  unfold slices_Equal_int_int.f
  by_cases c : l.length = m.length
  · refine Tl.pos (by omega) ?_
    have := eq_loop l m hl c l.length 0 (by omega) (by omega)
    simpa using this
  · refine (Tl.neg (by omega) Tl.now).to ?_
    symm
    rw [decide_eq_false_iff_not]
    rintro rfl
    exact c rfl
/-- The hours of a number, as a list. -/
def bl (m : Int) (n : Nat) : List Int := ((List.range n).filter fun i => bit m i).map fun (i : Nat) => (i : Int)
theorem bl_succ (m : Int) (n : Nat) : bl m (n + 1) = if bit m n = true then bl m n ++ [(n : Int)] else bl m n := by
  unfold bl
  rw [List.range_succ, List.filter_append, List.map_append]
  by_cases c1 : bit m n = true
  · rw [if_pos c1]; simp [c1]
  · rw [if_neg c1]; simp [c1]
theorem bl_len (m : Int) (n : Nat) : (bl m n).length ≤ n := by
  unfold bl
  rw [List.length_map]
  exact Nat.le_trans (List.length_filter_le _ _) (by simp)
theorem bl_mem {m : Int} {n s : Nat} : ((s : Int) ∈ bl m n) ↔ s < n ∧ bit m s = true := by
  unfold bl
  rw [List.mem_map]
  constructor
  · rintro ⟨i, hi, he⟩
    obtain rfl : i = s := by omega
    simpa using hi
  · intro h
    exact ⟨s, by simpa using h, rfl⟩
theorem bl_set (m : Int) (n : Nat) : Set (bl m n) n := by
  induction n with
  | zero => exact ⟨fun i hi => by simp [bl] at hi, fun i hi => by simp [bl] at hi, fun i hi => by simp [bl] at hi⟩
  | succ n ih =>
    by_cases c1 : bit m n = true
    · have e : bl m (n + 1) = bl m n ++ [(n : Int)] := by rw [bl_succ, if_pos c1]
      refine ⟨fun i hi => ?_, fun i hi => ?_, fun i hi => ?_⟩
      · rw [e] at hi ⊢; rw [fl_snoc]
        split
        · omega
        · exact ih.lo i (by simp at hi; omega)
      · rw [e] at hi ⊢; rw [fl_snoc]
        split
        · omega
        · have := ih.hi i (by simp at hi; omega); omega
      · rw [e] at hi ⊢; rw [fl_snoc, fl_snoc]
        simp at hi
        rw [if_neg (by omega)]
        split
        · exact ih.hi i (by omega)
        · exact ih.up i (by omega)
    · have e : bl m (n + 1) = bl m n := by rw [bl_succ, if_neg c1]
      rw [e]
      exact ⟨ih.lo, fun i hi => by have := ih.hi i hi; omega, ih.up⟩
theorem bl_bit {m : Int} {n s : Nat} (hs : s < n) : mem (bl m n) s = bit m s := by
  unfold mem
  cases hb : bit m s with
  | true => exact decide_eq_true (bl_mem.2 ⟨hs, hb⟩)
  | false => exact decide_eq_false (fun q => by have := (bl_mem.1 q).2; rw [hb] at this; cases this)
/-- A plan pumps in all hours of a set, and in no others. -/
def Use (x : List Int) (m : Int) (n : Nat) : Prop := ∀ i, i < n → on (fl x) i = bit m i
theorem use_iff {x : List Int} {m : Int} {n : Nat} : sts x n = bl m n ↔ Use x m n := by
  constructor
  · intro h i hi
    have h1 : ((i : Int) ∈ sts x n) ↔ ((i : Int) ∈ bl m n) := by rw [h]
    rw [bl_mem] at h1
    have h2 : ((i : Int) ∈ sts x n) ↔ on (fl x) i = true := by
      unfold sts
      rw [List.mem_map]
      constructor
      · rintro ⟨j, hj, he⟩
        obtain rfl : j = i := by omega
        exact (List.mem_filter.1 hj).2
      · intro q
        exact ⟨i, List.mem_filter.2 ⟨List.mem_range.2 hi, q⟩, rfl⟩
    rw [h2] at h1
    cases hb : bit m i with
    | true => exact h1.2 ⟨hi, hb⟩
    | false =>
      cases ho : on (fl x) i with
      | false => rfl
      | true => have := (h1.1 ho).2; rw [hb] at this; cases this
  · intro h
    unfold sts bl
    congr 1
    exact List.filter_congr (fun i hi => h i (List.mem_range.1 hi))
/-- A set is one of the best. -/
def Gd (a0 a1 : Int) (c d : List Int) (F : Int) (m : Int) : Prop := okA a1 (fl c) (fl d) (bit m) d.length ∧ Use (pxl a1 c d (bit m) d.length) m d.length ∧ cm a0 a1 c d (bit m) = F
/-- So many of the first m numbers are best sets. -/
inductive Cn (P : Nat → Prop) : Nat → Nat → Prop
  | z : Cn P 0 0
  | y {m n : Nat} : P m → Cn P m n → Cn P (m + 1) (n + 1)
  | n {m n : Nat} : ¬ P m → Cn P m n → Cn P (m + 1) n
theorem Cn.le {P : Nat → Prop} {m n : Nat} (h : Cn P m n) : n ≤ m := by
  induction h with
  | z => exact Nat.le_refl _
  | y _ _ ih => omega
  | n _ _ ih => omega
theorem Cn.pos {P : Nat → Prop} {m n : Nat} (h : Cn P m n) {q : Nat} (hq : q < m) (hP : P q) : 0 < n := by
  induction h with
  | z => omega
  | y _ _ ih => omega
  | @n m n h1 _ ih =>
    rcases Nat.lt_or_ge q m with c1 | c1
    · exact ih c1
    · obtain rfl : q = m := by omega
      exact absurd hP h1
theorem Cn.un {P : Nat → Prop} {m n n' : Nat} (h : Cn P m n) (h' : Cn P m n') : n = n' := by
  induction h generalizing n' with
  | z => cases h'; rfl
  | y h1 _ ih => cases h' with
    | y _ q => rw [ih q]
    | n q _ => exact absurd h1 q
  | n h1 _ ih => cases h' with
    | y q _ => exact absurd q h1
    | n _ q => exact ih q
theorem Cn.ex (P : Nat → Prop) (m : Nat) : ∃ n, Cn P m n := by
  induction m with
  | zero => exact ⟨0, .z⟩
  | succ m ih =>
    obtain ⟨n, h⟩ := ih
    by_cases c1 : P m
    · exact ⟨n + 1, .y c1 h⟩
    · exact ⟨n, .n c1 h⟩
theorem count_inner (ok : Ok a0 a1 c d) {F : Int} {M : Nat} {n m : Nat} (hM : M ≤ 4096) (hm : m < M) (r : Int × Int)
    (hy : Gd a0 a1 c d F (m : Int) → Tl (fun k => air_Count.l0 k F (wrap64 ((n : Int) + 1)) (M : Int) (wrap64 ((m : Int) + 1)) a0 a1 c d) r)
    (hn : ¬ Gd a0 a1 c d F (m : Int) → Tl (fun k => air_Count.l0 k F (n : Int) (M : Int) (wrap64 ((m : Int) + 1)) a0 a1 c d) r) (e : Nat) : ∀ i : Nat, i ≤ d.length → d.length - i = e →
    Tl (fun k => air_Count.l1 k F (n : Int) (m : Int) (bl (m : Int) i) (M : Int) (m : Int) (d.length : Int) (i : Int) a0 a1 c d) r := by
  have hn2 := ok.n2
  induction e with
  | zero =>
    intro i h1 h2
    obtain rfl : i = d.length := by omega
    refine Tl.succ ?_
    simp only [air_Count.l1]
    refine Tl.neg (by omega) ?_
    obtain ⟨v, hv⟩ := Atv_ex a1 c d (bit (m : Int))
    have hpl := ev_plan ok (bl_set (m : Int) d.length) (by have := bl_len (m : Int) d.length; omega) ((Atv_congr (fun i hi => bl_bit hi)).2 hv)
    refine Tl.bind hpl ?_
    by_cases hok : okA a1 (fl c) (fl d) (bit (m : Int)) d.length
    · rw [hv.1 hok]
      have hlen := pxl_len (a1 := a1) (c := c) (d := d) (bit (m : Int)) d.length
      have hst := ev_starts (x := pxl a1 c d (bit (m : Int)) d.length) (by omega)
      rw [hlen] at hst
      have hsl := sts_len (pxl a1 c d (bit (m : Int)) d.length) d.length
      refine Tl.pos rfl (Tl.bind hst (Tl.bind (ev_Equal (by omega)) ?_))
      by_cases hu : Use (pxl a1 c d (bit (m : Int)) d.length) (m : Int) d.length
      · refine Tl.pos (decide_eq_true (use_iff.2 hu)) (Tl.bind (ev_cost ok (pxl_small ok _ (Nat.le_refl _)) hlen) ?_)
        by_cases hc : cm a0 a1 c d (bit (m : Int)) = F
        · exact Tl.pos hc (hy ⟨hok, hu, hc⟩)
        · exact Tl.neg hc (hn (fun q => hc q.2.2))
      · exact Tl.neg (by simpa using fun q => hu (use_iff.1 q)) (hn (fun q => hu q.2.1))
    · rw [hv.2 hok]
      exact Tl.neg (by decide) (hn (fun q => hok q.1))
  | succ e ih =>
    intro i h1 h2
    have hbl := bl_len (m : Int) i
    have hrec := ih (i + 1) (by omega) (by omega)
    rw [bl_succ] at hrec
    refine Tl.succ ?_
    simp only [air_Count.l1]
    rw [w64 (x := (i : Int) + 1) (by omega) (by omega)]
    refine Tl.pos (by omega) (Tl.pos (by omega) ?_)
    by_cases hb : bit (m : Int) i = true
    · rw [if_pos hb] at hrec
      exact Tl.pos (of_decide_eq_true hb) (Tl.pos (by omega) hrec)
    · rw [if_neg hb] at hrec
      exact Tl.neg (fun q => hb (decide_eq_true q)) hrec
theorem count_loop (ok : Ok a0 a1 c d) {F : Int} {M : Nat} (hM : M ≤ 4096) {t : Nat} (ht : Cn (fun m => Gd a0 a1 c d F (m : Int)) M t) (e : Nat) : ∀ m n : Nat, m ≤ M → M - m = e → Cn (fun m => Gd a0 a1 c d F (m : Int)) m n →
    Tl (fun k => air_Count.l0 k F (n : Int) (M : Int) (m : Int) a0 a1 c d) ((t : Int), 0) := by
  have hn2 := ok.n2
  induction e with
  | zero =>
    intro m n h1 h2 h3
    obtain rfl : m = M := by omega
    refine Tl.succ ?_
    simp only [air_Count.l0]
    refine (Tl.neg (by omega) Tl.now).to ?_
    rw [h3.un ht]
  | succ e ih =>
    intro m n h1 h2 h3
    have hle := h3.le
    refine Tl.succ ?_
    simp only [air_Count.l0]
    refine Tl.pos (by omega) ?_
    have h := count_inner ok (F := F) (n := n) hM (show m < M by omega) ((t : Int), 0) (fun q => ?_) (fun q => ?_) d.length 0 (by omega) (by omega)
    · exact h
    · rw [w64 (by omega) (by omega), w64 (by omega) (by omega)]
      exact ih (m + 1) (n + 1) (by omega) (by omega) (.y q h3)
    · rw [w64 (by omega) (by omega)]
      exact ih (m + 1) n (by omega) (by omega) (.n q h3)
theorem gd_ex (ok : Ok a0 a1 c d) {F : Nat → Int} (hF : IsF a0 a1 (fl c) (fl d) d.length F) : ∃ m : Nat, m < 2 ^ d.length ∧ Gd a0 a1 c d (F d.length) (m : Int) := by
  obtain ⟨m, h1, h2, h3⟩ := cm_ex ok hF
  have hn := ok.n2
  have hp := pow_le hn
  obtain ⟨k1, k2⟩ := px_again ok.rt h2
  have hlt := mk_lt (on (px a1 (fl c) (fl d) (bit (m : Int)) d.length)) d.length
  have hbit : ∀ i, i < d.length → bit ((mk (on (px a1 (fl c) (fl d) (bit (m : Int)) d.length)) d.length : Nat) : Int) i = on (px a1 (fl c) (fl d) (bit (m : Int)) d.length) i := fun i hi => by
    rw [bit_nat (by omega) (by omega), mk_bit]; simp [hi]
  have hpx : ∀ i, px a1 (fl c) (fl d) (bit ((mk (on (px a1 (fl c) (fl d) (bit (m : Int)) d.length)) d.length : Nat) : Int)) d.length i = px a1 (fl c) (fl d) (bit (m : Int)) d.length i := fun i => (px_congr2 hbit i).trans (k2 i)
  refine ⟨_, hlt, (okA_congr hbit).2 k1, fun i hi => ?_, ?_⟩
  · rw [hbit i hi]
    show decide (0 < fl _ i) = decide (0 < px _ _ _ _ _ i)
    rw [pxl_fl _ _ hi, hpx]
  · rw [← h3]
    unfold cm
    rw [at_cost, at_cost]
    exact cost_congr (fun i _ => hpx i)
end Go.Proofs.Ytboefcikdfjfmaa.Pure
