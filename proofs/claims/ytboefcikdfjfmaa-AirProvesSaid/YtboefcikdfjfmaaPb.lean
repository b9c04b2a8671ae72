/- Plans: the stock, the cost, which are right, which tidy. -/
import Derived.Test.YtboefcikdfjfmaaFi
set_option linter.unusedVariables false
namespace Go.Proofs.Ytboefcikdfjfmaa.Pn
open Go.RowKit Go.Proofs.Ytboefcikdfjfmaa.P Go.Proofs.Ytboefcikdfjfmaa.E Go.Proofs.Ytboefcikdfjfmaa.Am Go.Proofs.Ytboefcikdfjfmaa.Va Go.Proofs.Ytboefcikdfjfmaa.Fi Go.Proofs.YtboefcikdfjfmaaW.PrintMore Go.Proofs.YtboefcikdfjfmaaW.PrintWords
variable {a0 a1 : Int} {c d x : List Int}
/-- The stock after so many hours. -/
def sk (d x : List Int) (n : Nat) : Int := sm (fun j => fl x j - fl d j) 0 n
theorem sk_succ (d x : List Int) (n : Nat) : sk d x (n + 1) = sk d x n + (fl x n - fl d n) := sm_succ (Nat.zero_le _)
/-- The list of the stocks. -/
def stl (d x : List Int) (n : Nat) : List Int := (List.range n).map fun i => sk d x (i + 1)
theorem stl_succ (d x : List Int) (n : Nat) : stl d x (n + 1) = stl d x n ++ [sk d x (n + 1)] := by unfold stl; rw [List.range_succ, List.map_append]; rfl
theorem stl_len (d x : List Int) (n : Nat) : (stl d x n).length = n := by simp [stl]
theorem stl_fl (d x : List Int) {n i : Nat} (h : i < n) : fl (stl d x n) i = sk d x (i + 1) := by unfold stl; rw [fl_range, if_pos h]
/-- Numbers that a plan may have. -/
def Small (x : List Int) : Prop := ∀ j, 0 ≤ fl x j ∧ fl x j ≤ 600
theorem sk_bound (ok : Ok a0 a1 c d) (hx : Small x) (n : Nat) : -(50 * (n : Int)) ≤ sk d x n ∧ sk d x n ≤ 600 * n := by
  have h1 := sm_bound (f := fl x) (B := 600) (by decide) (s := 0) n (fun j _ _ => hx j)
  have h2 := sm_bound (f := fl d) (B := 50) (by decide) (s := 0) n (fun j _ _ => ⟨ok.d0 j, ok.d1 j⟩)
  unfold sk
  rw [sm_sub]
  omega
theorem stock_val (ok : Ok a0 a1 c d) (hx : Small x) {i : Nat} (hi : i < d.length) : wrap64 (sk d x i + wrap64 (fl x i - fl d i)) = sk d x (i + 1) := by
  have h1 := sk_bound ok hx i
  have h2 := hx i
  have h3 := ok.d0 i
  have h4 := ok.d1 i
  have := ok.n2
  rw [w64 (x := fl x i - fl d i) (by omega) (by omega), w64 (by omega) (by omega), sk_succ]
/-- The cost of the first hours. -/
def cs (a0 a1 : Int) (c d x : List Int) (n : Nat) : Int := cost a0 a1 (fl c) (fl d) (fl x) n
theorem cs_succ (n : Nat) : cs a0 a1 c d x (n + 1) = cs a0 a1 c d x n + (if 0 < fl x n then a0 else 0) + (fl c n * fl x n + a1 * sk d x (n + 1)) := by
  unfold cs cost ct keep
  rw [sm_succ (Nat.zero_le _), sm_succ (Nat.zero_le _)]
  have : (if on (fl x) n = true then a0 else 0) = if 0 < fl x n then a0 else 0 := by unfold on; simp
  rw [this]
  unfold sk
  omega
theorem mul_bound2 {a b A B : Int} (ha : 0 ≤ a) (hA : a ≤ A) (hb : -B ≤ b) (hB : b ≤ B) (h0 : 0 ≤ B) : -(A * B) ≤ a * b ∧ a * b ≤ A * B := by
  have h1 : a * b ≤ a * B := Int.mul_le_mul_of_nonneg_left hB ha
  have h2 : a * (-B) ≤ a * b := Int.mul_le_mul_of_nonneg_left hb ha
  have h3 : a * B ≤ A * B := Int.mul_le_mul_of_nonneg_right hA h0
  rw [Int.mul_neg] at h2
  omega
theorem step_bound (ok : Ok a0 a1 c d) (hx : Small x) {i : Nat} (hi : i < d.length) : 0 ≤ fl c i * fl x i ∧ fl c i * fl x i ≤ 12000 ∧ -144000 ≤ a1 * sk d x (i + 1) ∧ a1 * sk d x (i + 1) ≤ 144000 := by
  have h1 := mul_bound (A := 20) (B := 600) (ok.c0 i) (ok.c1 i) (hx i).1 (hx i).2
  have h2 := sk_bound ok hx (i + 1)
  have := ok.n2
  have h3 := mul_bound2 (A := 20) (B := 7200) ok.k0 ok.k1 (b := sk d x (i + 1)) (by omega) (by omega) (by decide)
  omega
theorem cs_bound (ok : Ok a0 a1 c d) (hx : Small x) : ∀ n, n ≤ d.length → -(200000 * (n : Int)) ≤ cs a0 a1 c d x n ∧ cs a0 a1 c d x n ≤ 200000 * n := by
  intro n
  induction n with
  | zero => intro _; simp [cs, cost, ct, keep, sm]
  | succ n ih =>
    intro hn
    have h1 := ih (by omega)
    have h2 := step_bound ok hx (show n < d.length by omega)
    have := ok.s0
    have := ok.s1
    rw [cs_succ]
    split <;> omega
theorem cost_val1 (ok : Ok a0 a1 c d) (hx : Small x) {i : Nat} (hi : i < d.length) (h : 0 < fl x i) : wrap64 (wrap64 (cs a0 a1 c d x i + a0) + wrap64 (wrap64 (fl c i * fl x i) + wrap64 (a1 * sk d x (i + 1)))) = cs a0 a1 c d x (i + 1) := by
  have h1 := cs_bound ok hx i (by omega)
  have h2 := step_bound ok hx hi
  have := ok.s0
  have := ok.s1
  have := ok.n2
  rw [cs_succ, if_pos h, w64 (x := fl c i * fl x i) (by omega) (by omega), w64 (x := a1 * sk d x (i + 1)) (by omega) (by omega), w64 (x := fl c i * fl x i + a1 * sk d x (i + 1)) (by omega) (by omega), w64 (x := cs a0 a1 c d x i + a0) (by omega) (by omega), w64 (by omega) (by omega)]
theorem cost_val2 (ok : Ok a0 a1 c d) (hx : Small x) {i : Nat} (hi : i < d.length) (h : ¬ 0 < fl x i) : wrap64 (cs a0 a1 c d x i + wrap64 (wrap64 (fl c i * fl x i) + wrap64 (a1 * sk d x (i + 1)))) = cs a0 a1 c d x (i + 1) := by
  have h1 := cs_bound ok hx i (by omega)
  have h2 := step_bound ok hx hi
  have := ok.n2
  rw [cs_succ, if_neg h, w64 (x := fl c i * fl x i) (by omega) (by omega), w64 (x := a1 * sk d x (i + 1)) (by omega) (by omega), w64 (x := fl c i * fl x i + a1 * sk d x (i + 1)) (by omega) (by omega), w64 (by omega) (by omega)]
  omega
/-- A plan is right. -/
def Right (d x : List Int) : Prop := (∀ i, i < d.length → 0 ≤ sk d x (i + 1)) ∧ sk d x d.length = 0
theorem Right.pl (hr : Right d x) (hx : Small x) : Pl (fl d) d.length (fl x) := by
  refine ⟨fun i _ => (hx i).1, fun n hn => ?_, hr.2⟩
  cases n with
  | zero => exact Int.le_refl _
  | succ n => exact hr.1 n (by omega)
theorem right_of (h : Pl (fl d) d.length (fl x)) : Right d x := ⟨fun i hi => h.st (i + 1) (by omega), h.last⟩
theorem last_val (ok : Ok a0 a1 c d) : wrap64 (((stl d x d.length).length : Int) - 1) = ((d.length - 1 : Nat) : Int) := by
  have := ok.n1
  have := ok.n2
  rw [stl_len, w64 (by omega) (by omega)]
  omega
theorem last_fl (ok : Ok a0 a1 c d) : fl (stl d x d.length) (d.length - 1) = sk d x d.length := by
  have := ok.n1
  rw [stl_fl d x (by omega), show d.length - 1 + 1 = d.length by omega]
theorem small_of {n : Nat} (h : allb x n 600 = true) : Small x ∧ x.length = n := by
  have := (allb_iff (by decide)).1 h
  exact ⟨this.2, this.1⟩
/-- The error of a task and a plan. -/
def Pe (d x : List Int) (r : Int) : Prop := (allb x d.length 600 = false → r = 1) ∧ (allb x d.length 600 = true → Right d x → r = 0) ∧ (allb x d.length 600 = true → ¬ Right d x → r = 6)
theorem Pe_ex (d x : List Int) : ∃ r, Pe d x r := by
  by_cases h1 : allb x d.length 600 = true
  · by_cases h2 : Right d x
    · exact ⟨0, And.intro (fun h => by rw [h1] at h; cases h) (And.intro (fun _ _ => rfl) (fun _ h => absurd h2 h))⟩
    · exact ⟨6, And.intro (fun h => by rw [h1] at h; cases h) (And.intro (fun _ h => absurd h h2) (fun _ _ => rfl))⟩
  · exact ⟨1, And.intro (fun _ => rfl) (And.intro (fun h => absurd h h1) (fun h => absurd h h1))⟩
theorem Pe.zero {r : Int} (h : Pe d x r) (h0 : r = 0) : allb x d.length 600 = true ∧ Right d x := by
  obtain ⟨h1, h2, h3⟩ := h
  by_cases c1 : allb x d.length 600 = true
  · by_cases c2 : Right d x
    · exact ⟨c1, c2⟩
    · have := h3 c1 c2; omega
  · have := h1 (by simpa using c1); omega
/-- What CheckPlan answers. -/
def cpv (a0 a1 : Int) (c d x : List Int) (r : Int) : Int × Int := if r = 0 then (cs a0 a1 c d x d.length, 0) else (0, r)
/-- Nothing is pumped while there is stock, from an hour on. -/
def Tidy (d x : List Int) (i : Nat) : Prop := ∀ s, i ≤ s → s < d.length → 0 < fl x s → ¬ 0 < sk d x s
theorem tidy_succ {i : Nat} (hi : i < d.length) : Tidy d x i ↔ (0 < fl x i → ¬ 0 < sk d x i) ∧ Tidy d x (i + 1) := by
  constructor
  · exact fun h => ⟨h i (Nat.le_refl _) hi, fun s h1 h2 => h s (by omega) h2⟩
  · rintro ⟨h1, h2⟩ s h3 h4
    rcases Nat.lt_or_ge i s with c1 | c1
    · exact h2 s c1 h4
    · obtain rfl : s = i := by omega
      exact h1
/-- What IsTidy answers. -/
def Ti (d x : List Int) (e : Int) (r : Bool × Int) : Prop := (e ≠ 0 → r = (false, e)) ∧ (e = 0 → Tidy d x 1 → r = (true, 0)) ∧ (e = 0 → ¬ Tidy d x 1 → r = (false, 0))
theorem Ti_ex (d x : List Int) (e : Int) : ∃ r, Ti d x e r := by
  by_cases h1 : e = 0
  · by_cases h2 : Tidy d x 1
    · exact ⟨(true, 0), And.intro (fun h => absurd h1 h) (And.intro (fun _ _ => rfl) (fun _ h => absurd h2 h))⟩
    · exact ⟨(false, 0), And.intro (fun h => absurd h1 h) (And.intro (fun _ h => absurd h h2) (fun _ _ => rfl))⟩
  · exact ⟨(false, e), And.intro (fun _ => rfl) (And.intro (fun h => absurd h h1) (fun h => absurd h h1))⟩
end Go.Proofs.Ytboefcikdfjfmaa.Pn
/- The plan that a set of hours leads to. -/
set_option linter.unusedVariables false
namespace Go.Proofs.Ytboefcikdfjfmaa.At
open Go.RowKit Go.Proofs.Ytboefcikdfjfmaa.P Go.Proofs.Ytboefcikdfjfmaa.E Go.Proofs.Ytboefcikdfjfmaa.Am Go.Proofs.Ytboefcikdfjfmaa.Va Go.Proofs.Ytboefcikdfjfmaa.Fi Go.Proofs.Ytboefcikdfjfmaa.Pn Go.Proofs.YtboefcikdfjfmaaW.PrintMore Go.Proofs.YtboefcikdfjfmaaW.PrintWords
variable {a0 a1 : Int} {c d : List Int}
/-- The plan of a set after so many hours, as a list. -/
def pxl (a1 : Int) (c d : List Int) (a : Nat → Bool) (u : Nat) : List Int := (List.range d.length).map fun i => px a1 (fl c) (fl d) a u i
theorem pxl_len (a : Nat → Bool) (u : Nat) : (pxl a1 c d a u).length = d.length := by simp [pxl]
theorem pxl_fl (a : Nat → Bool) (u : Nat) {i : Nat} (hi : i < d.length) : fl (pxl a1 c d a u) i = px a1 (fl c) (fl d) a u i := by unfold pxl; rw [fl_range, if_pos hi]
theorem pxl_zero (a : Nat → Bool) : pxl a1 c d a 0 = List.replicate d.length 0 := by
  refine list_ext (by simp [pxl]) (fun i hi => ?_)
  rw [pxl_len] at hi
  rw [pxl_fl a 0 hi, fl_replicate]; rfl
theorem pxl_skip (a : Nat → Bool) {u : Nat} (h0 : fl d u = 0) : pxl a1 c d a (u + 1) = pxl a1 c d a u := by
  refine list_ext (by rw [pxl_len, pxl_len]) (fun i hi => ?_)
  rw [pxl_len] at hi
  rw [pxl_fl a _ hi, pxl_fl a _ hi, px_zero a h0]
theorem pxl_set (a : Nat → Bool) {u s : Nat} (hs : sg a1 (fl c) a u = some s) (hu : u < d.length) : pxl a1 c d a (u + 1) = (pxl a1 c d a u).set s (fl (pxl a1 c d a u) s + fl d u) := by
  have hsu := (sg_some hs).1
  refine list_ext (by rw [pxl_len, List.length_set, pxl_len]) (fun i hi => ?_)
  rw [pxl_len] at hi
  rw [fl_set i _ (by rw [pxl_len]; omega), pxl_fl a _ hi, px_succ, hs, pxl_fl a _ (show s < d.length by omega), pxl_fl a _ hi]
  by_cases c1 : i = s
  · subst c1; simp
  · rw [if_neg (by intro e; injection e with e; exact c1 e.symm), if_neg c1]; omega
theorem px_bound (ok : Ok a0 a1 c d) (a : Nat → Bool) {u : Nat} (hu : u ≤ d.length) (i : Nat) : 0 ≤ px a1 (fl c) (fl d) a u i ∧ px a1 (fl c) (fl d) a u i ≤ 600 := by
  have := sm_bound (f := fun v => if sg a1 (fl c) a v = some i then fl d v else 0) (B := 50) (by decide) (s := 0) u (fun j _ _ => by have := ok.d0 j; have := ok.d1 j; split <;> omega)
  have := ok.n2
  unfold px
  omega
theorem pxl_small (ok : Ok a0 a1 c d) (a : Nat → Bool) {u : Nat} (hu : u ≤ d.length) : Small (pxl a1 c d a u) := by
  intro j
  rcases Nat.lt_or_ge j d.length with c1 | c1
  · rw [pxl_fl a u c1]; exact px_bound ok a hu j
  · rw [fl_ge (by rw [pxl_len]; exact c1)]; decide
theorem u64_nat {s : Nat} (h : s ≤ 1000) : IntKind.u64.wrap (s : Int) = (s : Int) := by
  simp only [IntKind.wrap, IntKind.signed, IntKind.bits]
  simp
  omega
def bv : Option Nat → Int
  | none => -1
  | some s => (s : Int)
theorem okA_le {a : Nat → Bool} {i : Nat} (hi : i < d.length) : (∀ u, i ≤ u → u < d.length → fl d u ≠ 0 → sg a1 (fl c) a u ≠ none) ↔ (fl d i ≠ 0 → sg a1 (fl c) a i ≠ none) ∧ (∀ u, i + 1 ≤ u → u < d.length → fl d u ≠ 0 → sg a1 (fl c) a u ≠ none) := by
  constructor
  · exact fun h => ⟨h i (Nat.le_refl _) hi, fun u h1 h2 => h u (by omega) h2⟩
  · rintro ⟨h1, h2⟩ u h3 h4
    rcases Nat.lt_or_ge i u with c1 | c1
    · exact h2 u c1 h4
    · obtain rfl : u = i := by omega
      exact h1
/-- What a set of hours leads to. -/
def Atv (a1 : Int) (c d : List Int) (a : Nat → Bool) (r : List Int × Bool) : Prop :=
  (okA a1 (fl c) (fl d) a d.length → r = (pxl a1 c d a d.length, true)) ∧ (¬ okA a1 (fl c) (fl d) a d.length → r = ([], false))
theorem Atv_ex (a1 : Int) (c d : List Int) (a : Nat → Bool) : ∃ r, Atv a1 c d a r := by
  by_cases h : okA a1 (fl c) (fl d) a d.length
  · exact ⟨(pxl a1 c d a d.length, true), And.intro (fun _ => rfl) (fun q => absurd h q)⟩
  · exact ⟨([], false), And.intro (fun q => absurd q h) (fun _ => rfl)⟩
theorem okA_congr {h : Int} {cf df : Nat → Int} {a b : Nat → Bool} {n : Nat} (hab : ∀ i, i < n → a i = b i) : okA h cf df a n ↔ okA h cf df b n := by
  constructor
  · intro q u hu hd; rw [← sg_congr (a := a) (fun i hi => hab i (by omega))]; exact q u hu hd
  · intro q u hu hd; rw [sg_congr (b := b) (fun i hi => hab i (by omega))]; exact q u hu hd
theorem px_congr2 {h : Int} {cf df : Nat → Int} {a b : Nat → Bool} {n : Nat} (hab : ∀ i, i < n → a i = b i) (i : Nat) : px h cf df a n i = px h cf df b n i := by
  unfold px
  exact sm_congr (fun u _ hu => by rw [sg_congr (a := a) (b := b) (fun j hj => hab j (by omega))])
theorem Atv_congr {a b : Nat → Bool} (hab : ∀ i, i < d.length → a i = b i) {r : List Int × Bool} : Atv a1 c d a r ↔ Atv a1 c d b r := by
  have e1 : pxl a1 c d a d.length = pxl a1 c d b d.length := by
    unfold pxl
    exact List.map_congr_left (fun i _ => px_congr2 hab i)
  unfold Atv
  rw [okA_congr hab, e1]
/-- What is told of the plan that a set leads to. -/
theorem at_pl (ok : Ok a0 a1 c d) {a : Nat → Bool} (hok : okA a1 (fl c) (fl d) a d.length) : Pl (fl d) d.length (fl (pxl a1 c d a d.length)) := by
  have h := px_pl ok.rt hok
  have e : ∀ n, n ≤ d.length → sm (fun i => fl (pxl a1 c d a d.length) i - fl d i) 0 n = sm (fun i => px a1 (fl c) (fl d) a d.length i - fl d i) 0 n := fun n hn => sm_congr (fun i _ hi => by rw [pxl_fl a _ (by omega)])
  exact ⟨fun i hi => by rw [pxl_fl a _ hi]; exact h.x0 i hi, fun n hn => by rw [e n hn]; exact h.st n hn, by rw [e _ (Nat.le_refl _)]; exact h.last⟩
theorem at_cost (a : Nat → Bool) : cs a0 a1 c d (pxl a1 c d a d.length) d.length = cost a0 a1 (fl c) (fl d) (px a1 (fl c) (fl d) a d.length) d.length := cost_congr (fun i hi => pxl_fl a _ hi)
theorem at_allb (ok : Ok a0 a1 c d) (a : Nat → Bool) : allb (pxl a1 c d a d.length) d.length 600 = true := (allb_iff (by decide)).2 ⟨pxl_len _ _, pxl_small ok a (Nat.le_refl _)⟩end Go.Proofs.Ytboefcikdfjfmaa.At
