/- Prices: which hold, and their worth. -/
import Derived.Test.YtboefcikdfjfmaaFi
import Derived.Test.YtboefcikdfjfmaaPx3
import Derived.Test.YtboefcikdfjfmaaPx4
import Derived.Test.YtboefcikdfjfmaaPx5
set_option linter.unusedVariables false
namespace Go.Proofs.Ytboefcikdfjfmaa.Pr
open Go.RowKit Go.Proofs.Ytboefcikdfjfmaa.P Go.Proofs.Ytboefcikdfjfmaa.E Go.Proofs.Ytboefcikdfjfmaa.Am Go.Proofs.Ytboefcikdfjfmaa.Va Go.Proofs.Ytboefcikdfjfmaa.Fi Go.Proofs.YtboefcikdfjfmaaW.PrintMore Go.Proofs.YtboefcikdfjfmaaW.PrintWords
variable {a0 a1 : Int} {c d : List Int}
theorem term_val (ok : Ok a0 a1 c d) {p : List Int} {s i : Nat} (hp : 0 ≤ fl p i ∧ fl p i ≤ 100000) (h1 : s ≤ i) (hi : i < d.length) :
    mx 0 (wrap64 (fl p i - wrap64 (fl d i * way a1 (fl c) s i))) = max 0 (fl p i - fl d i * way a1 (fl c) s i) := by
  have := dw_bound ok h1 hi
  rw [w64 (x := fl d i * way a1 (fl c) s i) (by omega) (by omega), w64 (by omega) (by omega), mx_eq]
theorem ab_bound (ok : Ok a0 a1 c d) {p : List Int} (hp : ∀ i, 0 ≤ fl p i ∧ fl p i ≤ 100000) (s : Nat) {i : Nat} (hi : i ≤ d.length) : 0 ≤ ab a1 (fl c) (fl d) (fl p) s i ∧ ab a1 (fl c) (fl d) (fl p) s i ≤ 1200000 := by
  have := sm_bound (f := fun t => max 0 (fl p t - fl d t * way a1 (fl c) s t)) (B := 100000) (by decide) (s := s) i (fun j g1 g2 => by have := dw_bound ok g1 (show j < d.length by omega); have := hp j; omega)
  have := ok.n2
  unfold ab
  omega
theorem above_loop (ok : Ok a0 a1 c d) {p : List Int} (hl : p.length ≤ d.length) (hp : ∀ i, 0 ≤ fl p i ∧ fl p i ≤ 100000) {s : Nat} (e : Nat) : ∀ i : Nat, s ≤ i → i ≤ p.length → p.length - i = e →
    Tl (fun k => air_above.l0 k p (s : Int) (ab a1 (fl c) (fl d) (fl p) s i) (i : Int) a0 a1 c d) (ab a1 (fl c) (fl d) (fl p) s p.length) := by
  induction e with
  | zero =>
    intro i h1 h2 h3
    obtain rfl : i = p.length := by omega
    refine Tl.succ ?_
    simp only [air_above.l0]
    exact Tl.neg (by omega) Tl.now
  | succ e ih =>
    intro i h1 h2 h3
    refine Tl.succ ?_
    simp only [air_above.l0]
    refine Tl.pos (by omega) (Tl.pos (by omega) (Tl.pos (by omega) (Tl.bind' (ev_way ok h1 (by omega)) ?_)))
    have b1 := ab_bound ok hp s (i := i) (by omega)
    have b2 := dw_bound ok h1 (show i < d.length by omega)
    have b3 := hp i
    have := ok.n2
    rw [rd_fl, rd_fl, term_val ok b3 h1 (by omega), w64 (by omega) (by omega), w64 (x := (i : Int) + 1) (by omega) (by omega)]
    have := ih (i + 1) (by omega) (by omega) (by omega)
    rw [ab_succ h1] at this
    exact this
theorem ev_above (ok : Ok a0 a1 c d) {p : List Int} (hl : p.length ≤ d.length) (hp : ∀ i, 0 ≤ fl p i ∧ fl p i ≤ 100000) {s : Nat} (hs : s ≤ p.length) : Tl (fun k => air_above.f k a0 a1 c d p (s : Int)) (ab a1 (fl c) (fl d) (fl p) s p.length) := by
  unfold air_above.f
  have := above_loop ok hl hp (p.length - s) s (Nat.le_refl _) hs rfl
  have e : ab a1 (fl c) (fl d) (fl p) s s = 0 := sm_le (Nat.le_refl _)
  rw [e] at this
  exact this
/-- Prices hold in an hour. -/
def hold (a0 a1 : Int) (c d p : List Int) (s : Nat) : Prop := (fl d s = 0 → fl p s = 0) ∧ ab a1 (fl c) (fl d) (fl p) s d.length ≤ a0
def HoL (a0 a1 : Int) (c d p : List Int) (i : Nat) : Prop := ∀ s, i ≤ s → s < d.length → hold a0 a1 c d p s
theorem HoL.ho {p : List Int} (h : HoL a0 a1 c d p 0) (hp : ∀ i, 0 ≤ fl p i) : Ho a0 a1 (fl c) (fl d) d.length (fl p) :=
  ⟨fun i _ => hp i, fun i hi hd => (h i (Nat.zero_le _) hi).1 hd, fun s hs => (h s (Nat.zero_le _) hs).2⟩
theorem HoL_succ {p : List Int} {i : Nat} (hi : i < d.length) : HoL a0 a1 c d p i ↔ hold a0 a1 c d p i ∧ HoL a0 a1 c d p (i + 1) := by
  constructor
  · exact fun h => ⟨h i (Nat.le_refl _) hi, fun s h1 h2 => h s (by omega) h2⟩
  · rintro ⟨h1, h2⟩ s h3 h4
    rcases Nat.lt_or_ge i s with c1 | c1
    · exact h2 s c1 h4
    · obtain rfl : s = i := by omega
      exact h1
theorem priced_loop (ok : Ok a0 a1 c d) {p : List Int} (hl : p.length = d.length) (hp : ∀ i, 0 ≤ fl p i ∧ fl p i ≤ 100000) (e : Nat) : ∀ i : Nat, i ≤ d.length → d.length - i = e → ∀ r : Int, (HoL a0 a1 c d p i → r = 0) → (¬ HoL a0 a1 c d p i → r = 7) →
    Tl (fun k => air_priced.l0 k p (d.length : Int) (i : Int) a0 a1 c d) r := by
  induction e with
  | zero =>
    intro i h1 h2 r hr0 hr7
    refine Tl.succ ?_
    simp only [air_priced.l0]
    refine (Tl.neg (by omega) Tl.now).to (hr0 (fun s h3 h4 => by omega)).symm
  | succ e ih =>
    intro i h1 h2 r hr0 hr7
    have hi : i < d.length := by omega
    have := ok.n2
    refine Tl.succ ?_
    simp only [air_priced.l0]
    refine Tl.pos (by omega) (Tl.pos (by omega) (Tl.pos (by omega) ?_))
    have ha := ev_above ok (p := p) (by omega) hp (s := i) (by omega)
    rw [hl] at ha
    rw [rd_fl, rd_fl]
    have rest : (fl d i = 0 → fl p i = 0) → Tl (fun k => (air_above.f k a0 a1 c d p (i : Int)).bind fun t107 => (if t107 > a0 then (some 7) else (air_priced.l0 k p (d.length : Int) (wrap64 ((i : Int) + 1)) a0 a1 c d))) r := by
      intro hz
      refine Tl.bind ha ?_
      by_cases h3 : ab a1 (fl c) (fl d) (fl p) i d.length > a0
      · exact (Tl.pos h3 Tl.now).to (hr7 (fun q => by have := (q i (Nat.le_refl _) hi).2; omega)).symm
      · refine Tl.neg h3 ?_
        rw [w64 (by omega) (by omega)]
        have hh : hold a0 a1 c d p i := ⟨hz, by omega⟩
        exact ih (i + 1) (by omega) (by omega) r (fun q => hr0 ((HoL_succ hi).2 ⟨hh, q⟩)) (fun q => hr7 (fun q2 => q ((HoL_succ hi).1 q2).2))
    by_cases h0 : fl d i = 0
    · refine Tl.pos h0 (Tl.pos (by omega) ?_)
      by_cases h4 : fl p i > 0
      · exact (Tl.pos h4 Tl.now).to (hr7 (fun q => by have := (q i (Nat.le_refl _) hi).1 h0; omega)).symm
      · exact Tl.neg h4 (rest (fun _ => by have := (hp i).1; omega))
    · exact Tl.neg h0 (rest (fun q => absurd q h0))
/-- The error of a task and prices. -/
theorem ev_priced (ok : Ok a0 a1 c d) {p : List Int} (hl : p.length ≤ 1000) : ∀ r : Int, (allb p d.length 100000 = false → r = 1) → (allb p d.length 100000 = true → HoL a0 a1 c d p 0 → r = 0) → (allb p d.length 100000 = true → ¬ HoL a0 a1 c d p 0 → r = 7) →
    Tl (fun k => air_priced.f k a0 a1 c d p) r := by
  intro r h1 h2 h3
  have := ok.n2
  unfold air_priced.f
  refine Tl.bind' (ev_Validate (by have := ok.cl; omega) (by omega)) (Tl.pos (vc_ok.2 ok) (Tl.bind' (ev_all hl _ _) ?_))
  by_cases c1 : allb p d.length 100000 = true
  · have h4 := (allb_iff (by decide)).1 c1
    exact Tl.pos c1 (priced_loop ok h4.1 h4.2 d.length 0 (by omega) (by omega) r (h2 c1) (h3 c1))
  · exact (Tl.neg c1 Tl.now).to (h1 (by simpa using c1)).symm
theorem worth_loop {p : List Int} (hl : p.length ≤ 1000) (hp : ∀ i, 0 ≤ fl p i ∧ fl p i ≤ 100000) (e : Nat) : ∀ i : Nat, i ≤ p.length → p.length - i = e →
    Tl (fun k => air_worth.l0 k (sm (fl p) 0 i) p (p.length : Int) (i : Int)) (sm (fl p) 0 p.length) := by
  induction e with
  | zero =>
    intro i h1 h2
    obtain rfl : i = p.length := by omega
    refine Tl.succ ?_
    simp only [air_worth.l0]
    exact Tl.neg (by omega) Tl.now
  | succ e ih =>
    intro i h1 h2
    refine Tl.succ ?_
    simp only [air_worth.l0]
    refine Tl.pos (by omega) (Tl.pos (by omega) (Tl.pos (by omega) ?_))
    have b1 := sm_bound (f := fl p) (B := 100000) (by decide) (s := 0) i (fun j _ _ => hp j)
    have b2 := hp i
    rw [rd_fl, w64 (by omega) (by omega), w64 (by omega) (by omega)]
    have := ih (i + 1) (by omega) (by omega)
    rw [sm_succ (Nat.zero_le _)] at this
    exact this
theorem ev_worth {p : List Int} (hl : p.length ≤ 1000) (hp : ∀ i, 0 ≤ fl p i ∧ fl p i ≤ 100000) : Tl (fun k => air_worth.f k p) (sm (fl p) 0 p.length) := by
  unfold air_worth.f
  exact worth_loop hl hp p.length 0 (by omega) (by omega)
/-- What CheckPrices answers: the worth, and the error. -/
def Cp (a0 a1 : Int) (c d p : List Int) (r : Int × Int) : Prop :=
  (allb p d.length 100000 = false → r = (0, 1)) ∧ (allb p d.length 100000 = true → HoL a0 a1 c d p 0 → r = (sm (fl p) 0 d.length, 0)) ∧ (allb p d.length 100000 = true → ¬ HoL a0 a1 c d p 0 → r = (0, 7))
theorem Cp_ex (a0 a1 : Int) (c d p : List Int) : ∃ r, Cp a0 a1 c d p r := by
  by_cases h1 : allb p d.length 100000 = true
  · by_cases h2 : HoL a0 a1 c d p 0
    · exact ⟨(sm (fl p) 0 d.length, 0), And.intro (fun h => by rw [h1] at h; cases h) (And.intro (fun _ _ => rfl) (fun _ h => absurd h2 h))⟩
    · exact ⟨(0, 7), And.intro (fun h => by rw [h1] at h; cases h) (And.intro (fun _ h => absurd h h2) (fun _ _ => rfl))⟩
  · exact ⟨(0, 1), And.intro (fun _ => rfl) (And.intro (fun h => absurd h h1) (fun h => absurd h h1))⟩
theorem ev_CheckPrices (ok : Ok a0 a1 c d) {p : List Int} (hl : p.length ≤ 1000) {r : Int × Int} (hr : Cp a0 a1 c d p r) : Tl (fun k => air_CheckPrices.f k a0 a1 c d p) r := by
  unfold air_CheckPrices.f
  obtain ⟨h1, h2, h3⟩ := hr
  by_cases c1 : allb p d.length 100000 = true
  · have h4 := (allb_iff (by decide)).1 c1
    by_cases c2 : HoL a0 a1 c d p 0
    · rw [h2 c1 c2]
      refine Tl.bind (ev_priced ok hl 0 (fun q => by rw [c1] at q; cases q) (fun _ _ => rfl) (fun _ q => absurd c2 q)) (Tl.pos rfl (Tl.bind (ev_worth hl h4.2) ?_))
      rw [h4.1]
      exact Tl.now
    · rw [h3 c1 c2]
      exact Tl.bind (ev_priced ok hl 7 (fun q => by rw [c1] at q; cases q) (fun _ q => absurd q c2) (fun _ _ => rfl)) (Tl.neg (by decide) Tl.now)
  · rw [h1 (by simpa using c1)]
    exact Tl.bind (ev_priced ok hl 1 (fun _ => rfl) (fun q => absurd q c1) (fun q => absurd q c1)) (Tl.neg (by decide) Tl.now)
theorem ev_CheckPrices_no (h1 : c.length ≤ 1000) (h2 : d.length ≤ 1000) (no : vc a0 a1 c d ≠ 0) (p : List Int) : Tl (fun k => air_CheckPrices.f k a0 a1 c d p) (0, vc a0 a1 c d) := by
  unfold air_CheckPrices.f air_priced.f
  exact Tl.bind (Tl.bind' (ev_Validate h1 h2) (Tl.neg no Tl.now)) (Tl.neg no Tl.now)
end Go.Proofs.Ytboefcikdfjfmaa.Pr
