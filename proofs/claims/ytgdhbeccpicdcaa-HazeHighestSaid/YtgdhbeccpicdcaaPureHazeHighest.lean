/- Proved here: for every list of readings and every hour, the program's greatest mean from the beginning on is the document's, and the best row is not above it; it holds under no condition. -/
import Derived.Test.YtgdhbeccpicdcaaRa
import Derived.Test.YtgdhbeccpicdcaaMe
import Derived.Test.YtgdhbeccpicdcaaPx44
import Derived.Test.YtgdhbeccpicdcaaPx44
import Derived.Test.YtgdhbeccpicdcaaPx46
set_option linter.unusedVariables false
namespace Go.Proofs.Ytgdhbeccpicdcaa.Pure
open Go.RowKit Go.Proofs.Ytgdhbeccpicdcaa.P Go.Proofs.Ytgdhbeccpicdcaa.E Go.Proofs.Ytgdhbeccpicdcaa.Fr Go.Proofs.Ytgdhbeccpicdcaa.Sd Go.Proofs.Ytgdhbeccpicdcaa.Bl Go.Proofs.Ytgdhbeccpicdcaa.Va Go.Proofs.Ytgdhbeccpicdcaa.Be Go.Proofs.Ytgdhbeccpicdcaa.Kn Go.Proofs.Ytgdhbeccpicdcaa.Ra Go.Proofs.Ytgdhbeccpicdcaa.Me Go.Proofs.YtgdhbeccpicdcaaW.PrintMore
open Go.Proofs.YtgdhbeccpicdcaaW.PrintWords
theorem phighest_loop {h : List S31} (ok : Ok h) {i : Nat} (d : Nat) : ∀ (j t : Nat), i < j → j ≤ h.length → h.length - j = d → Hi h 0 i j t →
    ∃ t', Hi h 0 i h.length t' ∧ Tl (fun k => haze_Highest.l0 k h (j : Int) (M h 0 t).1 (M h 0 t).2) ((M h 0 t').1, (M h 0 t').2, 0) := by
  induction d with
  | zero =>
    intro j t h1 h2 h3 h4
    obtain rfl : j = h.length := by omega
    refine ⟨t, h4, Tl.succ ?_⟩
    simp only [haze_Highest.l0]
    exact Tl.neg (by omega) Tl.now
  | succ d ih =>
    intro j t h1 h2 h3 h4
    obtain ⟨t1, t2, t3⟩ := h4
    have hlen := ok.2.1
    have s := ok.small (show 0 < t by omega) (show t ≤ h.length by omega)
    have s' := ok.small (show 0 < j + 1 by omega) (show j + 1 ≤ h.length by omega)
    have e1 := ev_span ok (a := 0) (b := j) (by omega) (by omega)
    have e2 := ev_span_mean ok (a := 0) (b := j) (by omega) (by omega)
    have body : ∀ r, Tl (fun k => if (decide ((sv h t - sv h 0) * (sw h (j + 1) - sw h 0) < (sv h (j + 1) - sv h 0) * (sw h t - sw h 0))) = true then (haze_Highest.l0 k h (wrap64 ((j : Int) + 1)) (M h 0 (j + 1)).1 (M h 0 (j + 1)).2) else (haze_Highest.l0 k h (wrap64 ((j : Int) + 1)) (M h 0 t).1 (M h 0 t).2)) r →
        Tl (fun k => haze_Highest.l0 k h (j : Int) (M h 0 t).1 (M h 0 t).2) r := by
      intro r hb
      refine Tl.succ ?_
      simp only [haze_Highest.l0]
      exact Tl.pos (by omega) (Tl.bind e1 (Tl.bind e2 (Tl.bind' (above_eq (by omega) (by omega) (by omega) (by omega) (by omega) (by omega) (by omega) (by omega)) hb)))
    by_cases hc : (sv h t - sv h 0) * (sw h (j + 1) - sw h 0) < (sv h (j + 1) - sv h 0) * (sw h t - sw h 0)
    · have hi : Hi h 0 i (j + 1) (j + 1) := by
        refine ⟨by omega, Nat.le_refl _, fun t' h5 h6 => ?_⟩
        rcases Nat.lt_or_ge j t' with h7 | h7
        · obtain rfl : t' = j + 1 := by omega
          exact Int.le_refl _
        · have k1 := t3 t' h5 h7
          have s2 := ok.small (show 0 < t' by omega) (show t' ≤ h.length by omega)
          have k2 := Int.mul_le_mul_of_nonneg_right k1 (Int.le_of_lt s'.1)
          have k3 := Int.mul_le_mul_of_nonneg_right (Int.le_of_lt hc) (Int.le_of_lt s2.1)
          have k4 : ((sv h t' - sv h 0) * (sw h (j + 1) - sw h 0)) * (sw h t - sw h 0) ≤ ((sv h (j + 1) - sv h 0) * (sw h t' - sw h 0)) * (sw h t - sw h 0) := by grind
          exact Int.le_of_mul_le_mul_right k4 s.1
      obtain ⟨t', ht', hr⟩ := ih (j + 1) (j + 1) (by omega) (by omega) (by omega) hi
      refine ⟨t', ht', body _ (Tl.pos (decide_eq_true hc) ?_)⟩
      rw [w64 (by omega) (by omega)]
      exact hr
    · have hi : Hi h 0 i (j + 1) t := by
        refine ⟨t1, by omega, fun t' h5 h6 => ?_⟩
        rcases Nat.lt_or_ge j t' with h7 | h7
        · obtain rfl : t' = j + 1 := by omega
          omega
        · exact t3 t' h5 h7
      obtain ⟨t', ht', hr⟩ := ih (j + 1) t (by omega) (by omega) (by omega) hi
      refine ⟨t', ht', body _ (Tl.neg (by simpa using hc) ?_)⟩
      rw [w64 (by omega) (by omega)]
      exact hr
theorem Hi.eq {h : List S31} (ok : Ok h) {a i j t t' : Nat} (ha : a ≤ i) (hj : j ≤ h.length) (k : Hi h a i j t) (k' : Hi h a i j t') : M h a t = M h a t' := by
  have s := ok.small (show a < t by have := k.1; omega) (by have := k.2.1; omega)
  have s' := ok.small (show a < t' by have := k'.1; omega) (by have := k'.2.1; omega)
  have u1 := k.2.2 t' k'.1 k'.2.1
  have u2 := k'.2.2 t k.1 k.2.1
  exact Rt_eq s.1 s'.1 (by omega)
theorem ev_Highest {h : List S31} (ok : Ok h) {i : Nat} (hi : i < h.length) {t : Nat} (ht : Hi h 0 i h.length t) (hk : hc h (i : Int) (i : Int) = 0) : Tl (fun k => haze_Highest.f k h (i : Int)) ((M h 0 t).1, (M h 0 t).2, 0) := by
  have hlen := ok.2.1
  have e0 := ev_hours1 (h := h) (by omega) (i : Int)
  rw [hk] at e0
  have h0 : Hi h 0 i (i + 1) (i + 1) := ⟨by omega, Nat.le_refl _, fun t' h5 h6 => by obtain rfl : t' = i + 1 := by omega
                                                                                     exact Int.le_refl _⟩
  obtain ⟨t', ht', hr⟩ := phighest_loop ok (h.length - (i + 1)) (i + 1) (i + 1) (by omega) (by omega) rfl h0
  have e := Hi.eq ok (by omega) (Nat.le_refl _) ht ht'
  rw [e]
  unfold haze_Highest.f
  refine Tl.bind e0 (Tl.pos rfl (Tl.bind (ev_span ok (a := 0) (b := i) (by omega) hi) (Tl.bind (ev_span_mean ok (a := 0) (b := i) (by omega) hi) ?_)))
  rw [w64 (by omega) (by omega)]
  exact hr
theorem HazeHighest : ∀ (x0 : List (S31)) (x1 : Int), ((∀ y ∈ x0, ((Lit.int .i64 y.f0).wf = true) ∧ ((Lit.int .i64 y.f1).wf = true)) ∧ x0.length ≤ maxLen) → ((Lit.int .i64 x1).wf = true) → ∃ k, diaphonelaw02_HazeHighest.f k x0 x1 = some true := by
  intro h a _ _
  refine Tl.ex (g := fun k => diaphonelaw02_HazeHighest.f k h a) ?_
  unfold diaphonelaw02_HazeHighest.f
  refine by_long (fun hl => ?_)
  by_cases hk : hc h a a = 0
  · obtain ⟨ok, ha, _⟩ := hc_ok hk
    simp only [inn] at ha
    obtain ⟨i, rfl⟩ := Int.eq_ofNat_of_zero_le ha.1
    have hi : i < h.length := by omega
    have hlen := ok.2.1
    obtain ⟨t, ht, hr⟩ := ev_highest ok (show 0 ≤ i by omega) hi
    have e0 := ev_houred (h := h) (by omega) (i : Int) (i : Int)
    rw [hk] at e0
    have er : Tl (fun k => diaphoneref02_Highest.f k h (i : Int)) ((M h 0 t).1, (M h 0 t).2, 0) := by
      unfold diaphoneref02_Highest.f
      exact Tl.bind e0 (Tl.pos rfl (Tl.bind hr Tl.now))
    obtain ⟨x, hx, _⟩ := ev_best ok
    have hxl := hx.1
    have hix : i < x.length := by omega
    refine Tl.bind (ev_Highest ok hi ht hk) (Tl.bind er (Tl.neg (by simp) (Tl.succ ?_)))
    simp only [diaphonelaw02_HazeHighest.j0]
    refine Tl.neg (by simp) (Tl.pos trivial (Tl.bind (ev_Best ok hx) (Tl.pos rfl (Tl.neg (by omega) (Tl.neg (by show ¬ (x.length : Int) ≤ _; omega) (Tl.bind (ev_fair ok hx) (Tl.succ ?_)))))))
    simp only [diaphonelaw02_HazeHighest.j1]
    obtain ⟨v, w, q1, q2, q3, q4, q5, q6⟩ := IsBest.num ok hx hix
    have s := ok.small (show 0 < t by have := ht.1; omega) ht.2.1
    obtain ⟨f, b, hf, hb, hb2, he, hm⟩ := q6
    have sb := ok.small (show 0 < b by omega) hb2
    have k1 := ht.2.2 b hb hb2
    have k2 := hm 0 (by omega)
    have k3 : v * (sw h b - sw h 0) ≤ w * (sv h b - sv h 0) := by grind
    have k4 := mul_le_of_cross (p' := sv h t - sv h 0) (q' := sw h t - sw h 0) q3 s.1 sb.1 k3 (by rw [Int.mul_comm]; exact k1)
    refine Tl.neg (by simp) (Tl.pos (by omega) (Tl.pos (by omega) ?_))
    rw [rd33 hix, q5]
    simp only [rat]
    refine Tl.bind' (less_eq (by omega) (by omega) (by omega) (by omega) (by omega) (by omega) (by omega) (by omega)) (Tl.neg (by simp; omega) ?_)
    by_cases h0 : i = 0
    · subst h0
      refine Tl.neg (by simp) (Tl.pos (by omega) (Tl.pos ?_ ev_known'))
      have e1 := rd33 hix
      rw [show ((0 : Nat) : Int) = 0 from rfl] at e1
      rw [e1, q5]
      simp only [rat]
      obtain rfl : f = 0 := by omega
      have k5 := hm t ht.2.1
      have k6 : (sv h t - sv h 0) * w ≤ v * (sw h t - sw h 0) := by grind
      have : Rt (sv h t - sv h 0) (sw h t - sw h 0) = Rt v w := Rt_eq s.1 q3 (by omega)
      simp only [M]
      rw [this]
      simp
    · exact Tl.pos (by omega) ev_known'
  · have e1 : Tl (fun k => haze_Highest.f k h a) (0, 0, hc h a a) := by
      unfold haze_Highest.f
      exact Tl.bind (ev_hours1 (by omega) a) (Tl.neg hk Tl.now)
    have e2 : Tl (fun k => diaphoneref02_Highest.f k h a) (0, 0, hc h a a) := by
      unfold diaphoneref02_Highest.f
      exact Tl.bind (ev_houred (by omega) a a) (Tl.neg hk Tl.now)
    refine Tl.bind e1 (Tl.bind e2 (Tl.neg (by simp) (Tl.succ ?_)))
    simp only [diaphonelaw02_HazeHighest.j0]
    exact Tl.neg (by simp) (Tl.neg hk ev_known')
end Go.Proofs.Ytgdhbeccpicdcaa.Pure
