/- The best row as the document counts it. -/
import Derived.Test.YtgdhbeccpicdcaaBe
import Derived.Test.YtgdhbeccpicdcaaPx15
import Derived.Test.YtgdhbeccpicdcaaPx16
import Derived.Test.YtgdhbeccpicdcaaPx17
set_option linter.unusedVariables false
namespace Go.Proofs.Ytgdhbeccpicdcaa.Be
open Go.RowKit Go.Proofs.Ytgdhbeccpicdcaa.P Go.Proofs.Ytgdhbeccpicdcaa.E Go.Proofs.Ytgdhbeccpicdcaa.Fr Go.Proofs.Ytgdhbeccpicdcaa.Sd Go.Proofs.Ytgdhbeccpicdcaa.Bl Go.Proofs.Ytgdhbeccpicdcaa.Va Go.Proofs.YtgdhbeccpicdcaaW.PrintMore
open Go.Proofs.YtgdhbeccpicdcaaW.PrintWords

-- the reference
theorem mean_loop {h : List S31} (ok : Ok h) {b a : Nat} (hb : b < h.length) (d : Nat) : ∀ i : Nat, a ≤ i → i ≤ b + 1 → b + 1 - i = d → a ≤ b →
    Tl (fun k => diaphoneref02_mean.l0 k h (b : Int) (sv h i - sv h a) (sw h i - sw h a) (i : Int)) (M h a (b + 1)) := by
  induction d with
  | zero =>
    intro i h1 h2 h3 h4
    obtain rfl : i = b + 1 := by omega
    have s := ok.small (show a < b + 1 by omega) (by omega)
    refine Tl.succ ?_
    simp only [diaphoneref02_mean.l0]
    refine Tl.neg (by omega) ?_
    exact Tl.bind (ev_Ratio (by omega) (by omega) (by omega) (by omega)) Tl.now
  | succ d ih =>
    intro i h1 h2 h3 h4
    have hlen := ok.2.1
    refine Tl.succ ?_
    simp only [diaphoneref02_mean.l0]
    refine Tl.pos (by omega) (Tl.pos (by omega) (Tl.pos (by omega) ?_))
    have s := ok.bd (show a ≤ i + 1 by omega) (by omega)
    have s1 := ok.bd (show i ≤ i + 1 by omega) (by omega)
    have e1 : sw h (i + 1) - sw h i = (rd_T31 h (i : Int)).f1 := by simp only [sw]; omega
    have e2 : sv h (i + 1) - sv h i = (rd_T31 h (i : Int)).f1 * (rd_T31 h (i : Int)).f0 := by simp only [sv]; omega
    rw [← e2, ← e1]
    rw [w64 (x := sv h (i + 1) - sv h i) (by omega) (by omega), w64 (x := (i : Int) + 1) (by omega) (by omega)]
    rw [show sv h i - sv h a + (sv h (i + 1) - sv h i) = sv h (i + 1) - sv h a by omega, show sw h i - sw h a + (sw h (i + 1) - sw h i) = sw h (i + 1) - sw h a by omega]
    rw [w64 (x := sv h (i + 1) - sv h a) (by omega) (by omega), w64 (x := sw h (i + 1) - sw h a) (by omega) (by omega)]
    exact ih (i + 1) (by omega) (by omega) (by omega) h4
theorem ev_mean {h : List S31} (ok : Ok h) {a b : Nat} (hab : a ≤ b) (hb : b < h.length) : Tl (fun k => diaphoneref02_mean.f k h (a : Int) (b : Int)) (M h a (b + 1)) := by
  unfold diaphoneref02_mean.f
  have := mean_loop ok (a := a) hb (b + 1 - a) a (by omega) (by omega) rfl hab
  rw [Int.sub_self, Int.sub_self] at this
  exact this
/-- The greatest mean from a on to an end behind i (up to place j): t is its end. -/
def Hi (h : List S31) (a i j t : Nat) : Prop := i < t ∧ t ≤ j ∧ ∀ t', i < t' → t' ≤ j → (sv h t' - sv h a) * (sw h t - sw h a) ≤ (sv h t - sv h a) * (sw h t' - sw h a)
theorem highest_loop {h : List S31} (ok : Ok h) {a i : Nat} (hai : a ≤ i) (d : Nat) : ∀ (j t : Nat), i < j → j ≤ h.length → h.length - j = d → Hi h a i j t →
    ∃ t', Hi h a i h.length t' ∧ Tl (fun k => diaphoneref02_highest.l0 k h (a : Int) (j : Int) (M h a t).1 (M h a t).2) (M h a t') := by
  induction d with
  | zero =>
    intro j t h1 h2 h3 h4
    obtain rfl : j = h.length := by omega
    refine ⟨t, h4, Tl.succ ?_⟩
    simp only [diaphoneref02_highest.l0]
    exact Tl.neg (by omega) Tl.now
  | succ d ih =>
    intro j t h1 h2 h3 h4
    obtain ⟨t1, t2, t3⟩ := h4
    have hlen := ok.2.1
    have s := ok.small (show a < t by omega) (show t ≤ h.length by omega)
    have s' := ok.small (show a < j + 1 by omega) (show j + 1 ≤ h.length by omega)
    have body : ∀ t', Tl (fun k => if (decide ((sv h t - sv h a) * (sw h (j + 1) - sw h a) < (sv h (j + 1) - sv h a) * (sw h t - sw h a))) = true then (diaphoneref02_highest.l0 k h (a : Int) (wrap64 ((j : Int) + 1)) (M h a (j + 1)).1 (M h a (j + 1)).2) else (diaphoneref02_highest.l0 k h (a : Int) (wrap64 ((j : Int) + 1)) (M h a t).1 (M h a t).2)) (M h a t') →
        Tl (fun k => diaphoneref02_highest.l0 k h (a : Int) (j : Int) (M h a t).1 (M h a t).2) (M h a t') := by
      intro t' hb
      refine Tl.succ ?_
      simp only [diaphoneref02_highest.l0]
      refine Tl.pos (by omega) (Tl.bind (ev_mean ok (by omega) (by omega)) (Tl.bind' (less_eq (by omega) (by omega) (by omega) (by omega) (by omega) (by omega) (by omega) (by omega)) hb))
    by_cases hc : (sv h t - sv h a) * (sw h (j + 1) - sw h a) < (sv h (j + 1) - sv h a) * (sw h t - sw h a)
    · have hi : Hi h a i (j + 1) (j + 1) := by
        refine ⟨by omega, Nat.le_refl _, fun t' h5 h6 => ?_⟩
        rcases Nat.lt_or_ge j t' with h7 | h7
        · obtain rfl : t' = j + 1 := by omega
          exact Int.le_refl _
        · have k1 := t3 t' h5 h7
          have s2 := ok.small (show a < t' by omega) (show t' ≤ h.length by omega)
          have k2 := Int.mul_le_mul_of_nonneg_right k1 (Int.le_of_lt s'.1)
          have k3 := Int.mul_le_mul_of_nonneg_right (Int.le_of_lt hc) (Int.le_of_lt s2.1)
          have k4 : ((sv h t' - sv h a) * (sw h (j + 1) - sw h a)) * (sw h t - sw h a) ≤ ((sv h (j + 1) - sv h a) * (sw h t' - sw h a)) * (sw h t - sw h a) := by grind
          exact Int.le_of_mul_le_mul_right k4 s.1
      obtain ⟨t', ht', hr⟩ := ih (j + 1) (j + 1) (by omega) (by omega) (by omega) hi
      refine ⟨t', ht', body t' ?_⟩
      refine Tl.pos (decide_eq_true hc) ?_
      rw [w64 (by omega) (by omega)]
      exact hr
    · have hi : Hi h a i (j + 1) t := by
        refine ⟨t1, by omega, fun t' h5 h6 => ?_⟩
        rcases Nat.lt_or_ge j t' with h7 | h7
        · obtain rfl : t' = j + 1 := by omega
          omega
        · exact t3 t' h5 h7
      obtain ⟨t', ht', hr⟩ := ih (j + 1) t (by omega) (by omega) (by omega) hi
      refine ⟨t', ht', body t' ?_⟩
      refine Tl.neg (by simpa using hc) ?_
      rw [w64 (by omega) (by omega)]
      exact hr
theorem ev_highest {h : List S31} (ok : Ok h) {a i : Nat} (hai : a ≤ i) (hi : i < h.length) : ∃ t, Hi h a i h.length t ∧ Tl (fun k => diaphoneref02_highest.f k h (a : Int) (i : Int)) (M h a t) := by
  have hlen := ok.2.1
  have h0 : Hi h a i (i + 1) (i + 1) := ⟨by omega, Nat.le_refl _, fun t' h5 h6 => by obtain rfl : t' = i + 1 := by omega
                                                                                     exact Int.le_refl _⟩
  obtain ⟨t, ht, hr⟩ := highest_loop ok hai (h.length - (i + 1)) (i + 1) (i + 1) (by omega) (by omega) rfl h0
  refine ⟨t, ht, ?_⟩
  unfold diaphoneref02_highest.f
  refine Tl.bind (ev_mean ok hai hi) ?_
  rw [w64 (by omega) (by omega)]
  exact hr
/-- What is at most all of the greatest means, and one of them, is the slope of the touching line. -/
theorem minmax {h : List S31} (ok : Ok h) {i f0 t0 a t : Nat} (hs : Sad (sv h) (sw h) h.length i (sv h t0 - sv h f0) (sw h t0 - sw h f0)) (hf0 : f0 ≤ i) (ht0 : i < t0) (ht0' : t0 ≤ h.length) (ha : a ≤ i) (ht : Hi h a i h.length t)
    (hmin : ∀ a', a' ≤ i → ∃ t', Hi h a' i h.length t' ∧ (sv h t - sv h a) * (sw h t' - sw h a') ≤ (sv h t' - sv h a') * (sw h t - sw h a)) : M h a t = M h f0 t0 := by
  obtain ⟨t1, t2, t3⟩ := ht
  obtain ⟨f, b, hf, hb, hb2, he, hm⟩ := hs
  obtain ⟨t', ⟨u1, u2, u3⟩, u4⟩ := hmin f hf
  have s0 := ok.small (show f0 < t0 by omega) ht0'
  have s := ok.small (show a < t by omega) t2
  have s' := ok.small (show f < t' by omega) u2
  have sb := ok.small (show a < b by omega) hb2
  refine Rt_eq s.1 s0.1 ?_
  -- at least
  have k1 := t3 b hb hb2
  have k2 := hm a (by omega)
  have k3 : (sv h t0 - sv h f0) * (sw h b - sw h a) ≤ (sw h t0 - sw h f0) * (sv h b - sv h a) := by grind
  have k4 := mul_le_of_cross (p' := sv h t - sv h a) (q' := sw h t - sw h a) s0.1 s.1 sb.1 k3 (by rw [Int.mul_comm]; exact k1)
  -- at most
  have k5 := hm t' u2
  have k6 : (sw h t0 - sw h f0) * (sv h t' - sv h f) ≤ (sv h t0 - sv h f0) * (sw h t' - sw h f) := by grind
  have k7 := mul_le_of_cross (p := sv h t - sv h a) (q := sw h t - sw h a) (p' := sv h t0 - sv h f0) (q' := sw h t0 - sw h f0) s.1 s0.1 s'.1 (by rw [Int.mul_comm (sw h t - sw h a)]; exact u4) k6
  omega
theorem min_loop {h : List S31} (ok : Ok h) {i : Nat} (hi : i < h.length) (out : List S33) (hout : out.length ≤ 12) (d : Nat) : ∀ (j a t : Nat), 1 ≤ j → j ≤ i + 1 → i + 1 - j = d → a ≤ i → Hi h a i h.length t →
    (∀ a', a' < j → ∃ t', Hi h a' i h.length t' ∧ (sv h t - sv h a) * (sw h t' - sw h a') ≤ (sv h t' - sv h a') * (sw h t - sw h a)) →
    ∃ a2 t2, a2 ≤ i ∧ Hi h a2 i h.length t2 ∧ (∀ a', a' ≤ i → ∃ t', Hi h a' i h.length t' ∧ (sv h t2 - sv h a2) * (sw h t' - sw h a') ≤ (sv h t' - sv h a') * (sw h t2 - sw h a2)) ∧
      ∀ r, Tl (fun k => diaphoneref02_best.l0 k h (out ++ [rat (M h a2 t2)]) ((i : Int) + 1)) r → Tl (fun k => diaphoneref02_best.l1 k h out (i : Int) (j : Int) (M h a t).1 (M h a t).2) r := by
  induction d with
  | zero =>
    intro j a t h1 h2 h3 h4 h5 h6
    obtain rfl : j = i + 1 := by omega
    refine ⟨a, t, h4, h5, fun a' ha' => h6 a' (by omega), fun r hr => Tl.succ ?_⟩
    simp only [diaphoneref02_best.l1]
    refine Tl.neg (by omega) (Tl.pos (by omega) ?_)
    have hlen := ok.2.1
    rw [w64 (by omega) (by omega)]
    exact hr
  | succ d ih =>
    intro j a t h1 h2 h3 h4 h5 h6
    have hlen := ok.2.1
    obtain ⟨t', ht', hr'⟩ := ev_highest ok (show j ≤ i by omega) hi
    have s := ok.small (show a < t by have := h5.1; omega) h5.2.1
    have s' := ok.small (show j < t' by have := ht'.1; omega) ht'.2.1
    have body : ∀ r, Tl (fun k => if (decide ((sv h t' - sv h j) * (sw h t - sw h a) < (sv h t - sv h a) * (sw h t' - sw h j))) = true then (diaphoneref02_best.l1 k h out (i : Int) (wrap64 ((j : Int) + 1)) (M h j t').1 (M h j t').2) else (diaphoneref02_best.l1 k h out (i : Int) (wrap64 ((j : Int) + 1)) (M h a t).1 (M h a t).2)) r →
        Tl (fun k => diaphoneref02_best.l1 k h out (i : Int) (j : Int) (M h a t).1 (M h a t).2) r := by
      intro r hb
      refine Tl.succ ?_
      simp only [diaphoneref02_best.l1]
      exact Tl.pos (by omega) (Tl.bind hr' (Tl.bind' (less_eq (by omega) (by omega) (by omega) (by omega) (by omega) (by omega) (by omega) (by omega)) hb))
    by_cases hc : (sv h t' - sv h j) * (sw h t - sw h a) < (sv h t - sv h a) * (sw h t' - sw h j)
    · obtain ⟨a2, t2, g1, g2, g3, g4⟩ := ih (j + 1) j t' (by omega) (by omega) (by omega) (by omega) ht' (by
        intro a' ha'
        rcases Nat.lt_or_ge a' j with h7 | h7
        · obtain ⟨t'', u1, u2⟩ := h6 a' h7
          refine ⟨t'', u1, ?_⟩
          have s2 := ok.small (show a' < t'' by have := u1.1; omega) u1.2.1
          have k2 := Int.mul_le_mul_of_nonneg_right u2 (Int.le_of_lt s'.1)
          have k3 := Int.mul_le_mul_of_nonneg_right (Int.le_of_lt hc) (Int.le_of_lt s2.1)
          have k4 : ((sv h t' - sv h j) * (sw h t'' - sw h a')) * (sw h t - sw h a) ≤ ((sv h t'' - sv h a') * (sw h t' - sw h j)) * (sw h t - sw h a) := by grind
          exact Int.le_of_mul_le_mul_right k4 s.1
        · obtain rfl : a' = j := by omega
          exact ⟨t', ht', Int.le_refl _⟩)
      refine ⟨a2, t2, g1, g2, g3, fun r hr => body r (Tl.pos (decide_eq_true hc) ?_)⟩
      rw [w64 (by omega) (by omega)]
      exact g4 r hr
    · obtain ⟨a2, t2, g1, g2, g3, g4⟩ := ih (j + 1) a t (by omega) (by omega) (by omega) h4 h5 (by
        intro a' ha'
        rcases Nat.lt_or_ge a' j with h7 | h7
        · exact h6 a' h7
        · obtain rfl : a' = j := by omega
          exact ⟨t', ht', by omega⟩)
      refine ⟨a2, t2, g1, g2, g3, fun r hr => body r (Tl.neg (by simpa using hc) ?_)⟩
      rw [w64 (by omega) (by omega)]
      exact g4 r hr
theorem rbest_loop {h : List S31} (ok : Ok h) {l : List S33} (hb : IsBest h l) (d : Nat) : ∀ i : Nat, i ≤ h.length → h.length - i = d → Tl (fun k => diaphoneref02_best.l0 k h (l.take i) (i : Int)) l := by
  induction d with
  | zero =>
    intro i h1 h2
    obtain rfl : i = h.length := by omega
    refine Tl.succ ?_
    simp only [diaphoneref02_best.l0]
    refine Tl.neg (by omega) ?_
    rw [← hb.1, List.take_length]
    exact Tl.now
  | succ d ih =>
    intro i h1 h2
    have hlt : i < h.length := by omega
    have hll : i < l.length := by rw [hb.1]; exact hlt
    have hlen := ok.2.1
    obtain ⟨f0, t0, q1, q2, q3, q4, q5⟩ := hb.2 i hll
    obtain ⟨t, ht, hr⟩ := ev_highest ok (show 0 ≤ i by omega) hlt
    obtain ⟨a2, t2, g1, g2, g3, g4⟩ := min_loop ok hlt (l.take i) (by simp; omega) i 1 0 t (by omega) (by omega) (by omega) (by omega) ht (by
      intro a' ha'
      obtain rfl : a' = 0 := by omega
      exact ⟨t, ht, Int.le_refl _⟩)
    have e := minmax ok q4 q1 q2 q3 g1 g2 g3
    refine Tl.succ ?_
    simp only [diaphoneref02_best.l0]
    refine Tl.pos (by omega) (Tl.bind hr (g4 _ ?_))
    rw [e, ← q5]
    have := ih (i + 1) (by omega) (by omega)
    rw [List.take_succ_eq_append_getElem hll] at this
    exact this
theorem ev_rbest {h : List S31} (ok : Ok h) {l : List S33} (hb : IsBest h l) : Tl (fun k => diaphoneref02_best.f k h) l := by
  unfold diaphoneref02_best.f
  exact rbest_loop ok hb h.length 0 (by omega) rfl
end Go.Proofs.Ytgdhbeccpicdcaa.Be
