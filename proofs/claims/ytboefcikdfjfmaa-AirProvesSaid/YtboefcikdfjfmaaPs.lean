/- The prices that the program returns. -/
import Derived.Test.YtboefcikdfjfmaaPr
import Derived.Test.YtboefcikdfjfmaaPx20
import Derived.Test.YtboefcikdfjfmaaRw
import Derived.Test.YtboefcikdfjfmaaPx19
set_option linter.unusedVariables false
namespace Go.Proofs.Ytboefcikdfjfmaa.Pr
open Go.RowKit Go.Proofs.Ytboefcikdfjfmaa.P Go.Proofs.Ytboefcikdfjfmaa.E Go.Proofs.Ytboefcikdfjfmaa.Am Go.Proofs.Ytboefcikdfjfmaa.Va Go.Proofs.Ytboefcikdfjfmaa.Fi Go.Proofs.YtboefcikdfjfmaaW.PrintMore Go.Proofs.YtboefcikdfjfmaaW.PrintWords
variable {a0 a1 : Int} {c d : List Int}
/-! The prices that the program returns -/
/-- What a start in s allows for the hour i. -/
def qq (a0 a1 : Int) (c d p : List Int) (i s : Nat) : Int := fl d i * way a1 (fl c) s i + a0 - ab a1 (fl c) (fl d) (fl p) s i
theorem prices_inner (ok : Ok a0 a1 c d) {p : List Int} {i : Nat} (hpl : p.length = i) (hi : i < d.length) (hp : ∀ j, 0 ≤ fl p j ∧ fl p j ≤ 100000) (hP : IsP a0 a1 (fl c) (fl d) i (fl p)) (r : List Int × Int)
    (hgo : Tl (fun k => air_Prices.l0 k (p ++ [mq (qq a0 a1 c d p i) i]) d (d.length : Int) ((i + 1 : Nat) : Int) a0 a1 c d) r) (e : Nat) : ∀ s : Nat, s ≤ i → i - s = e →
    Tl (fun k => air_Prices.l1 k p (i : Int) (fl d i) (mq (qq a0 a1 c d p i) s) d (d.length : Int) (i : Int) ((i + 1 : Nat) : Int) ((s + 1 : Nat) : Int) a0 a1 c d) r := by
  have hq : ∀ s, s ≤ i → 0 ≤ qq a0 a1 c d p i s ∧ qq a0 a1 c d p i s ≤ 13999 := by
    intro s hs
    have h1 := dw_bound ok hs hi
    have h2 := feas (ok.rt.le (show i ≤ d.length by omega)) hP i (Nat.le_refl _) s
    have h3 := ab_nonneg (h := a1) (c := fl c) (d := fl d) (q := fl p) s i
    have := ok.s1
    unfold qq
    omega
  have hm0 : ∀ s, s ≤ i → 0 ≤ mq (qq a0 a1 c d p i) s ∧ mq (qq a0 a1 c d p i) s ≤ 13999 := by
    intro s hs
    obtain ⟨s2, h1, h2⟩ := mq_ex (qq a0 a1 c d p i) s
    rw [h2]
    exact hq s2 (by omega)
  have := ok.n2
  induction e with
  | zero =>
    intro s h1 h2
    obtain rfl : s = i := by omega
    refine Tl.succ ?_
    simp only [air_Prices.l1]
    refine Tl.neg (by omega) (Tl.pos (by omega) ?_)
    rw [w64 (by omega) (by omega)]
    exact hgo
  | succ e ih =>
    intro s h1 h2
    refine Tl.succ ?_
    simp only [air_Prices.l1]
    have ha := ev_above ok (p := p) (by omega) hp (s := s + 1) (by omega)
    rw [hpl] at ha
    refine Tl.pos (by omega) (Tl.bind' (ev_way ok (show s + 1 ≤ i by omega) hi) (Tl.bind ha ?_))
    have g1 := dw_bound ok (show s + 1 ≤ i by omega) hi
    have g2 := feas (ok.rt.le (show i ≤ d.length by omega)) hP i (Nat.le_refl _) (s + 1)
    have g3 := ab_nonneg (h := a1) (c := fl c) (d := fl d) (q := fl p) (s + 1) i
    have g4 := ok.s1
    have g5 := hm0 s (by omega)
    have e1 : wrap64 (wrap64 (wrap64 (fl d i * way a1 (fl c) (s + 1) i) + a0) - ab a1 (fl c) (fl d) (fl p) (s + 1) i) = qq a0 a1 c d p i (s + 1) := by
      rw [w64 (x := fl d i * way a1 (fl c) (s + 1) i) (by omega) (by omega), w64 (x := fl d i * way a1 (fl c) (s + 1) i + a0) (by omega) (by omega), w64 (by omega) (by omega)]
      rfl
    rw [e1, w64 (x := ((s + 1 : Nat) : Int) + 1) (by omega) (by omega)]
    refine Tl.neg (by omega) ?_
    have hn := ih (s + 1) (by omega) (by omega)
    by_cases c1 : qq a0 a1 c d p i (s + 1) < mq (qq a0 a1 c d p i) s
    · refine Tl.pos c1 ?_
      have e2 : mq (qq a0 a1 c d p i) (s + 1) = qq a0 a1 c d p i (s + 1) := by show (if _ then _ else _) = _; rw [if_pos c1]
      rw [e2] at hn
      exact hn
    · refine Tl.neg c1 ?_
      have e2 : mq (qq a0 a1 c d p i) (s + 1) = mq (qq a0 a1 c d p i) s := by show (if _ then _ else _) = _; rw [if_neg c1]
      rw [e2] at hn
      exact hn
theorem ab_congr {h : Int} {cf df q q' : Nat → Int} {s n : Nat} (hq : ∀ j, j < n → q j = q' j) : ab h cf df q s n = ab h cf df q' s n := sm_congr (fun i _ hi => by rw [hq i hi])
theorem IsP_snoc (ok : Ok a0 a1 c d) {p : List Int} {i : Nat} {v : Int} (hpl : p.length = i) (hP : IsP a0 a1 (fl c) (fl d) i (fl p)) (h0 : fl d i = 0 → v = 0)
    (h1 : fl d i ≠ 0 → (∀ s, s ≤ i → v ≤ qq a0 a1 c d p i s) ∧ ∃ s, s ≤ i ∧ v = qq a0 a1 c d p i s) : IsP a0 a1 (fl c) (fl d) (i + 1) (fl (p ++ [v])) := by
  intro n hn
  have e1 : ∀ j, j < i → fl (p ++ [v]) j = fl p j := fun j hj => by rw [fl_snoc, if_neg (by omega)]
  rcases Nat.lt_or_ge n i with c1 | c1
  · rw [e1 n c1]
    have := hP n c1
    refine ⟨this.1, fun hd => ?_⟩
    obtain ⟨g1, s, g2, g3⟩ := this.2 hd
    exact ⟨fun s hs => by rw [ab_congr (q' := fl p) (fun j hj => e1 j (by omega))]; exact g1 s hs, s, g2, by rw [ab_congr (q' := fl p) (fun j hj => e1 j (by omega))]; exact g3⟩
  · obtain rfl : n = i := by omega
    rw [fl_snoc, if_pos hpl.symm]
    refine ⟨h0, fun hd => ?_⟩
    obtain ⟨g1, s, g2, g3⟩ := h1 hd
    exact ⟨fun s hs => by rw [ab_congr (q' := fl p) (fun j hj => e1 j hj)]; exact g1 s hs, s, g2, by rw [ab_congr (q' := fl p) (fun j hj => e1 j hj)]; exact g3⟩
/-- What the program returns. -/
structure Prs (a0 a1 : Int) (c d p : List Int) : Prop where
  l : p.length = d.length
  P : IsP a0 a1 (fl c) (fl d) d.length (fl p)
  b : ∀ i, 0 ≤ fl p i ∧ fl p i ≤ 100000
theorem prices_loop (ok : Ok a0 a1 c d) (e : Nat) : ∀ (i : Nat) (p : List Int), i ≤ d.length → d.length - i = e → p.length = i → (∀ j, 0 ≤ fl p j ∧ fl p j ≤ 100000) → IsP a0 a1 (fl c) (fl d) i (fl p) →
    ∃ p', Prs a0 a1 c d p' ∧ Tl (fun k => air_Prices.l0 k p d (d.length : Int) (i : Int) a0 a1 c d) (p', 0) := by
  have := ok.n2
  induction e with
  | zero =>
    intro i p h1 h2 h3 h4 h5
    obtain rfl : i = d.length := by omega
    refine ⟨p, ⟨h3, h5, h4⟩, Tl.succ ?_⟩
    simp only [air_Prices.l0]
    exact Tl.neg (by omega) Tl.now
  | succ e ih =>
    intro i p h1 h2 h3 h4 h5
    have hi : i < d.length := by omega
    by_cases h0 : fl d i = 0
    · obtain ⟨p', g1, g2⟩ := ih (i + 1) (p ++ [0]) (by omega) (by omega) (by simp [h3]) (fun j => by rw [fl_snoc]; split; decide; exact h4 j) (IsP_snoc ok h3 h5 (fun _ => rfl) (fun q => absurd h0 q))
      refine ⟨p', g1, Tl.succ ?_⟩
      simp only [air_Prices.l0]
      refine Tl.pos (by omega) (Tl.pos (by omega) (Tl.pos (by omega) ?_))
      rw [rd_fl]
      refine Tl.pos h0 (Tl.pos (by omega) ?_)
      rw [w64 (by omega) (by omega)]
      exact g2
    · have hq : ∀ s, s ≤ i → 0 ≤ qq a0 a1 c d p i s ∧ qq a0 a1 c d p i s ≤ 13999 := by
        intro s hs
        have h1 := dw_bound ok hs hi
        have h2 := feas (ok.rt.le (show i ≤ d.length by omega)) h5 i (Nat.le_refl _) s
        have h3 := ab_nonneg (h := a1) (c := fl c) (d := fl d) (q := fl p) s i
        have := ok.s1
        unfold qq
        omega
      have hm : 0 ≤ mq (qq a0 a1 c d p i) i ∧ mq (qq a0 a1 c d p i) i ≤ 100000 := by
        obtain ⟨s2, k1, k2⟩ := mq_ex (qq a0 a1 c d p i) i
        rw [k2]
        have := hq s2 k1
        omega
      obtain ⟨p', g1, g2⟩ := ih (i + 1) (p ++ [mq (qq a0 a1 c d p i) i]) (by omega) (by omega) (by simp [h3]) (fun j => by rw [fl_snoc]; split; exact hm; exact h4 j)
        (IsP_snoc ok h3 h5 (fun q => absurd q h0) (fun _ => ⟨fun s hs => mq_le _ i s hs, mq_ex _ i⟩))
      refine ⟨p', g1, Tl.succ ?_⟩
      simp only [air_Prices.l0]
      refine Tl.pos (by omega) (Tl.pos (by omega) (Tl.pos (by omega) ?_))
      rw [rd_fl]
      refine Tl.neg h0 ?_
      rw [w64 (by omega) (by omega)]
      refine Tl.succ ?_
      simp only [air_Prices.l1]
      have ha := ev_above ok (p := p) (by omega) h4 (s := 0) (by omega)
      rw [h3] at ha
      have hw := ev_way ok (show 0 ≤ i by omega) hi
      refine Tl.pos (by omega) (Tl.bind' hw (Tl.bind ha (Tl.pos (by decide) ?_)))
      have k1 := dw_bound ok (show 0 ≤ i by omega) hi
      have k2 := feas (ok.rt.le (show i ≤ d.length by omega)) h5 i (Nat.le_refl _) 0
      have k3 := ab_nonneg (h := a1) (c := fl c) (d := fl d) (q := fl p) 0 i
      have k4 := ok.s1
      have e1 : wrap64 (wrap64 (wrap64 (fl d i * way a1 (fl c) 0 i) + a0) - ab a1 (fl c) (fl d) (fl p) 0 i) = qq a0 a1 c d p i 0 := by
        rw [w64 (x := fl d i * way a1 (fl c) 0 i) (by omega) (by omega), w64 (x := fl d i * way a1 (fl c) 0 i + a0) (by omega) (by omega), w64 (by omega) (by omega)]
        rfl
      rw [e1, show wrap64 (0 + 1) = ((0 + 1 : Nat) : Int) by rw [w64 (by omega) (by omega)]; rfl]
      exact prices_inner ok h3 hi h4 h5 (p', 0) g2 i 0 (by omega) (by omega)
theorem ev_Prices (ok : Ok a0 a1 c d) : ∃ p, Prs a0 a1 c d p ∧ Tl (fun k => air_Prices.f k a0 a1 c d) (p, 0) := by
  obtain ⟨p, h1, h2⟩ := prices_loop ok d.length 0 [] (by omega) (by omega) rfl (fun j => by rw [fl_ge (Nat.zero_le _)]; decide) (fun n hn => by omega)
  refine ⟨p, h1, ?_⟩
  unfold air_Prices.f
  have := ok.n2
  exact Tl.bind' (ev_Validate (by have := ok.cl; omega) (by omega)) (Tl.pos (vc_ok.2 ok) h2)
theorem ev_Prices_no (h1 : c.length ≤ 1000) (h2 : d.length ≤ 1000) (no : vc a0 a1 c d ≠ 0) : Tl (fun k => air_Prices.f k a0 a1 c d) ([], vc a0 a1 c d) := by
  unfold air_Prices.f
  exact Tl.bind' (ev_Validate h1 h2) (Tl.neg no Tl.now)
/-- The program's prices hold. -/
theorem Prs.hol (ok : Ok a0 a1 c d) {p : List Int} (h : Prs a0 a1 c d p) : allb p d.length 100000 = true ∧ HoL a0 a1 c d p 0 := by
  refine ⟨(allb_iff (by decide)).2 ⟨h.l, h.b⟩, fun s _ hs => ?_⟩
  have := Ho_of ok.rt h.P
  exact ⟨this.z s hs, this.ab s hs⟩end Go.Proofs.Ytboefcikdfjfmaa.Pr
/- Prices: what the document says of them. -/
set_option linter.unusedVariables false
namespace Go.Proofs.Ytboefcikdfjfmaa.Pr
open Go.RowKit Go.Proofs.Ytboefcikdfjfmaa.P Go.Proofs.Ytboefcikdfjfmaa.E Go.Proofs.Ytboefcikdfjfmaa.Am Go.Proofs.Ytboefcikdfjfmaa.Va Go.Proofs.Ytboefcikdfjfmaa.Fi Go.Proofs.YtboefcikdfjfmaaW.PrintMore Go.Proofs.YtboefcikdfjfmaaW.PrintWords
variable {a0 a1 : Int} {c d : List Int}
theorem rcp_inner (ok : Ok a0 a1 c d) {p : List Int} (hl : p.length = d.length) (hp : ∀ i, 0 ≤ fl p i ∧ fl p i ≤ 100000) {s : Nat} (W : Int) (r : Int × Int)
    (hno : ab a1 (fl c) (fl d) (fl p) s d.length > a0 → r = (0, 7)) (hgo : ¬ ab a1 (fl c) (fl d) (fl p) s d.length > a0 → Tl (fun k => diaphoneref03_CheckPrices.l0 k p W (wrap64 ((s : Int) + 1)) a0 a1 c d) r) (e : Nat) : ∀ i : Nat, s ≤ i → i ≤ p.length → p.length - i = e →
    Tl (fun k => diaphoneref03_CheckPrices.l1 k p W (s : Int) (ab a1 (fl c) (fl d) (fl p) s i) (i : Int) a0 a1 c d) r := by
  induction e with
  | zero =>
    intro i h1 h2 h3
    obtain rfl : i = p.length := by omega
    refine Tl.succ ?_
    simp only [diaphoneref03_CheckPrices.l1]
    refine Tl.neg (by omega) ?_
    rw [hl]
    by_cases c1 : ab a1 (fl c) (fl d) (fl p) s d.length > a0
    · exact (Tl.pos c1 Tl.now).to (hno c1).symm
    · exact Tl.neg c1 (hgo c1)
  | succ e ih =>
    intro i h1 h2 h3
    refine Tl.succ ?_
    simp only [diaphoneref03_CheckPrices.l1]
    refine Tl.pos (by omega) (Tl.pos (by omega) (Tl.pos (by omega) (Tl.bind' (ev_rway ok h1 (by omega)) ?_)))
    have b1 := ab_bound ok hp s (i := i) (by omega)
    have b2 := dw_bound ok h1 (show i < d.length by omega)
    have b3 := hp i
    have := ok.n2
    rw [rd_fl, rd_fl, term_val ok b3 h1 (by omega), w64 (by omega) (by omega), w64 (x := (i : Int) + 1) (by omega) (by omega)]
    have := ih (i + 1) (by omega) (by omega) (by omega)
    rw [ab_succ h1] at this
    exact this
theorem rcp_loop (ok : Ok a0 a1 c d) {p : List Int} (hl : p.length = d.length) (hp : ∀ i, 0 ≤ fl p i ∧ fl p i ≤ 100000) (e : Nat) : ∀ i : Nat, i ≤ d.length → d.length - i = e → ∀ r : Int × Int, (HoL a0 a1 c d p i → r = (sm (fl p) 0 d.length, 0)) → (¬ HoL a0 a1 c d p i → r = (0, 7)) →
    Tl (fun k => diaphoneref03_CheckPrices.l0 k p (sm (fl p) 0 i) (i : Int) a0 a1 c d) r := by
  induction e with
  | zero =>
    intro i h1 h2 r hr0 hr7
    obtain rfl : i = d.length := by omega
    refine Tl.succ ?_
    simp only [diaphoneref03_CheckPrices.l0]
    refine (Tl.neg (by omega) Tl.now).to (hr0 (fun s h3 h4 => by omega)).symm
  | succ e ih =>
    intro i h1 h2 r hr0 hr7
    have hi : i < d.length := by omega
    have := ok.n2
    refine Tl.succ ?_
    simp only [diaphoneref03_CheckPrices.l0]
    refine Tl.pos (by omega) (Tl.pos (by omega) (Tl.pos (by omega) ?_))
    rw [rd_fl, rd_fl]
    have b1 := sm_bound (f := fl p) (B := 100000) (by decide) (s := 0) i (fun j _ _ => hp j)
    have b2 := hp i
    have rest : (fl d i = 0 → fl p i = 0) → Tl (fun k => diaphoneref03_CheckPrices.j1 k p (sm (fl p) 0 i) (i : Int) false a0 a1 c d) r := by
      intro hz
      refine Tl.succ ?_
      simp only [diaphoneref03_CheckPrices.j1]
      refine Tl.neg (by decide) (Tl.pos (by omega) (Tl.pos (by omega) ?_))
      rw [rd_fl, w64 (by omega) (by omega)]
      have hin := rcp_inner ok hl hp (s := i) (sm (fl p) 0 i + fl p i) r (fun q => hr7 (fun q2 => by have := (q2 i (Nat.le_refl _) hi).2; omega)) (fun q => by
        rw [w64 (by omega) (by omega)]
        have hh : hold a0 a1 c d p i := ⟨hz, by omega⟩
        have := ih (i + 1) (by omega) (by omega) r (fun q => hr0 ((HoL_succ hi).2 ⟨hh, q⟩)) (fun q => hr7 (fun q2 => q ((HoL_succ hi).1 q2).2))
        rw [sm_succ (Nat.zero_le _)] at this
        exact this) (p.length - i) i (Nat.le_refl _) (by omega) rfl
      have e0 : ab a1 (fl c) (fl d) (fl p) i i = 0 := sm_le (Nat.le_refl _)
      rw [e0] at hin
      exact hin
    by_cases h0 : fl d i = 0
    · refine Tl.pos h0 ?_
      by_cases h4 : fl p i = 0
      · have e1 : (fl p i != 0) = false := by simp [h4]
        rw [e1]
        exact rest (fun _ => h4)
      · have e1 : (fl p i != 0) = true := by simp [h4]
        rw [e1]
        refine Tl.succ ?_
        simp only [diaphoneref03_CheckPrices.j1]
        rw [hr7 (fun q => h4 ((q i (Nat.le_refl _) hi).1 h0))]
        exact Tl.pos trivial Tl.now
    · exact Tl.neg h0 (rest (fun q => absurd q h0))
theorem ev_rCheckPrices (ok : Ok a0 a1 c d) {p : List Int} (hl : p.length ≤ 1000) {r : Int × Int} (hr : Cp a0 a1 c d p r) : Tl (fun k => diaphoneref03_CheckPrices.f k a0 a1 c d p) r := by
  unfold diaphoneref03_CheckPrices.f
  obtain ⟨h1, h2, h3⟩ := hr
  have := ok.n2
  refine Tl.bind (ev_rValidate (by have := ok.cl; omega) (by omega)) (Tl.pos (vc_ok.2 ok) (Tl.bind (ev_rall hl _ _) ?_))
  by_cases c1 : allb p d.length 100000 = true
  · have h4 := (allb_iff (by decide)).1 c1
    exact Tl.pos c1 (rcp_loop ok h4.1 h4.2 d.length 0 (by omega) (by omega) r (h2 c1) (h3 c1))
  · exact (Tl.neg c1 Tl.now).to (h1 (by simpa using c1)).symm
theorem ev_rCheckPrices_no (h1 : c.length ≤ 1000) (h2 : d.length ≤ 1000) (no : vc a0 a1 c d ≠ 0) (p : List Int) : Tl (fun k => diaphoneref03_CheckPrices.f k a0 a1 c d p) (0, vc a0 a1 c d) := by
  unfold diaphoneref03_CheckPrices.f
  exact Tl.bind (ev_rValidate h1 h2) (Tl.neg no Tl.now)

end Go.Proofs.Ytboefcikdfjfmaa.Pr
