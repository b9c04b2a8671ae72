/- Proved here: for every list of readings and every fraction, the first hour at which the best row is low enough is told as the document says; it holds under no condition. -/
import Derived.Test.YtgdhbeccpicdcaaKn
import Derived.Test.YtgdhbeccpicdcaaPx18
set_option linter.unusedVariables false
namespace Go.Proofs.Ytgdhbeccpicdcaa.Pure
open Go.RowKit Go.Proofs.Ytgdhbeccpicdcaa.P Go.Proofs.Ytgdhbeccpicdcaa.E Go.Proofs.Ytgdhbeccpicdcaa.Fr Go.Proofs.Ytgdhbeccpicdcaa.Sd Go.Proofs.Ytgdhbeccpicdcaa.Bl Go.Proofs.Ytgdhbeccpicdcaa.Va Go.Proofs.Ytgdhbeccpicdcaa.Be Go.Proofs.Ytgdhbeccpicdcaa.Kn Go.Proofs.YtgdhbeccpicdcaaW.PrintMore
open Go.Proofs.YtgdhbeccpicdcaaW.PrintWords
theorem Rt_le_iff {v w n d : Int} (hw : 0 < w) : (Rt v w).1 * d ≤ n * (Rt v w).2 ↔ v * d ≤ n * w := by
  obtain ⟨h1, h2⟩ := Rt_mul (n := v) hw
  have g := gcd_pos' (n := v) hw
  have e1 : v * d = ((Rt v w).1 * d) * (Int.gcd v w : Nat) := by
    conv => lhs; rw [← h1]
    grind
  have e2 : n * w = (n * (Rt v w).2) * (Int.gcd v w : Nat) := by
    conv => lhs; rw [← h2]
    grind
  rw [e1, e2]
  exact (Int.mul_le_mul_right g).symm
theorem until_loop {h : List S31} (ok : Ok h) {l : List S33} (hb : IsBest h l) {n d : Int} (hd : 1 ≤ d) (hd' : d ≤ 100) (hn : 0 ≤ n) (hn' : n ≤ 10000) (m : Nat) : ∀ i : Nat, i ≤ l.length → l.length - i = m →
    ∃ r, Tl (fun k => haze_Until.l0 k n d l (l.length : Int) (i : Int)) r ∧ Tl (fun k => diaphoneref02_Until.l0 k n d l (i : Int)) r := by
  induction m with
  | zero =>
    intro i hi hm
    refine ⟨(false, 0, 0), Tl.succ ?_, Tl.succ ?_⟩
    · simp only [haze_Until.l0]; exact Tl.neg (by omega) Tl.now
    · simp only [diaphoneref02_Until.l0]; exact Tl.neg (by omega) Tl.now
  | succ m ih =>
    intro i hi hm
    have hlt : i < l.length := by omega
    have hlen := ok.2.1
    have hll := hb.1
    obtain ⟨a, b, h1, h2, h3, h4, h5⟩ := hb.2 i hlt
    have s := ok.small (show a < b by omega) h3
    have q1 := Rt_nonneg s.2.2.1 s.1
    have q2 := Rt_num_le s.2.2.1 s.1
    have q3 := Rt_pos (n := sv h b - sv h a) s.1
    have q4 := Rt_le (n := sv h b - sv h a) s.1
    have m1 := small_mul q1 (by omega) (show 0 ≤ d by omega) (by omega)
    have m2 := small_mul hn (by omega) (show 0 ≤ (Rt (sv h b - sv h a) (sw h b - sw h a)).2 by omega) (by omega)
    have hiff := Rt_le_iff (v := sv h b - sv h a) (n := n) (d := d) s.1
    obtain ⟨r, hr1, hr2⟩ := ih (i + 1) (by omega) (by omega)
    by_cases hc : n * (sw h b - sw h a) < (sv h b - sv h a) * d
    · refine ⟨r, Tl.succ ?_, Tl.succ ?_⟩
      · simp only [haze_Until.l0]
        rw [rd33 hlt, h5]
        refine Tl.pos (by omega) (Tl.pos (by omega) (Tl.pos (by omega) (Tl.bind (ev_ratio hn (by omega) (by omega) (by omega)) (Tl.bind' (above_eq (by omega) (by omega) (by omega) (by omega) (by omega) (by omega) (by omega) (by omega)) (Tl.pos (decide_eq_true hc) ?_)))))
        rw [w64 (by omega) (by omega)]
        exact hr1
      · simp only [diaphoneref02_Until.l0]
        rw [rd33 hlt, h5]
        refine Tl.pos (by omega) (Tl.pos (by omega) (Tl.neg ?_ ?_))
        · simp only [rat, M]
          rw [w64 (by omega) (by omega), w64 (by omega) (by omega), hiff]
          omega
        · rw [w64 (by omega) (by omega)]
          exact hr2
    · refine ⟨(true, (i : Int), 0), Tl.succ ?_, Tl.succ ?_⟩
      · simp only [haze_Until.l0]
        rw [rd33 hlt, h5]
        exact Tl.pos (by omega) (Tl.pos (by omega) (Tl.pos (by omega) (Tl.bind (ev_ratio hn (by omega) (by omega) (by omega)) (Tl.bind' (above_eq (by omega) (by omega) (by omega) (by omega) (by omega) (by omega) (by omega) (by omega)) (Tl.neg (by simpa using hc) Tl.now)))))
      · simp only [diaphoneref02_Until.l0]
        rw [rd33 hlt, h5]
        refine Tl.pos (by omega) (Tl.pos (by omega) (Tl.pos ?_ Tl.now))
        simp only [rat, M]
        rw [w64 (by omega) (by omega), w64 (by omega) (by omega), hiff]
        omega
theorem until_both {h : List S31} (hl : h.length ≤ 1000) (n d : Int) : ∃ r, Tl (fun k => haze_Until.f k h n d) r ∧ Tl (fun k => diaphoneref02_Until.f k h n d) r := by
  unfold haze_Until.f diaphoneref02_Until.f
  by_cases hv : vc h = 0
  · have ok := vc_ok.1 hv
    have v1 := ev_Validate hl
    have v2 := ev_rValidate hl
    rw [hv] at v1 v2
    obtain ⟨l, hb, hr⟩ := ev_best ok
    have hr' := ev_rbest ok hb
    by_cases hd : 1 ≤ d ∧ d ≤ 100
    · have w1 : wrap64 (100 * d) = 100 * d := w64 (by omega) (by omega)
      by_cases hn : 0 ≤ n ∧ n ≤ 100 * d
      · obtain ⟨r, g1, g2⟩ := until_loop ok hb hd.1 hd.2 hn.1 (by omega) l.length 0 (by omega) (by omega)
        refine ⟨r, Tl.bind v1 (Tl.pos rfl (Tl.bind' (within_eq _ _ _) (Tl.pos (decide_eq_true hd) (Tl.bind' (within_eq _ _ _) (Tl.succ ?_))))), Tl.bind v2 (Tl.pos rfl (Tl.bind' (rwithin_eq _ _ _) (Tl.pos (decide_eq_true hd) (Tl.bind' (rwithin_eq _ _ _) (Tl.succ ?_)))))⟩
        · simp only [haze_Until.j0]
          exact Tl.neg (by rw [w1]; simp [hn]) (Tl.bind hr g1)
        · simp only [diaphoneref02_Until.j0]
          exact Tl.neg (by rw [w1]; simp [hn]) (Tl.bind hr' g2)
      · refine ⟨(false, 0, 1), Tl.bind v1 (Tl.pos rfl (Tl.bind' (within_eq _ _ _) (Tl.pos (decide_eq_true hd) (Tl.bind' (within_eq _ _ _) (Tl.succ ?_))))), Tl.bind v2 (Tl.pos rfl (Tl.bind' (rwithin_eq _ _ _) (Tl.pos (decide_eq_true hd) (Tl.bind' (rwithin_eq _ _ _) (Tl.succ ?_)))))⟩
        · simp only [haze_Until.j0]
          exact Tl.pos (by rw [w1]; simp; omega) Tl.now
        · simp only [diaphoneref02_Until.j0]
          exact Tl.pos (by rw [w1]; simp; omega) Tl.now
    · refine ⟨(false, 0, 1), Tl.bind v1 (Tl.pos rfl (Tl.bind' (within_eq _ _ _) (Tl.neg (by simpa using hd) (Tl.succ ?_)))), Tl.bind v2 (Tl.pos rfl (Tl.bind' (rwithin_eq _ _ _) (Tl.neg (by simpa using hd) (Tl.succ ?_))))⟩
      · simp only [haze_Until.j0]; exact Tl.pos trivial Tl.now
      · simp only [diaphoneref02_Until.j0]; exact Tl.pos trivial Tl.now
  · exact ⟨(false, 0, vc h), Tl.bind (ev_Validate hl) (Tl.neg hv Tl.now), Tl.bind (ev_rValidate hl) (Tl.neg hv Tl.now)⟩

theorem HazeUntil : ∀ (x0 : List (S31)) (x1 : Int) (x2 : Int), ((∀ y ∈ x0, ((Lit.int .i64 y.f0).wf = true) ∧ ((Lit.int .i64 y.f1).wf = true)) ∧ x0.length ≤ maxLen) → ((Lit.int .i64 x1).wf = true) → ((Lit.int .i64 x2).wf = true) → ∃ k, diaphonelaw02_HazeUntil.f k x0 x1 x2 = some true := by
  intro h n d _ _ _
  refine Tl.ex (g := fun k => diaphonelaw02_HazeUntil.f k h n d) ?_
  unfold diaphonelaw02_HazeUntil.f
  refine by_long (fun hl => ?_)
  obtain ⟨r, g1, g2⟩ := until_both (h := h) (by omega) n d
  exact Tl.bind g1 (Tl.bind g2 (Tl.pos (by simp) (Tl.pos rfl ev_known')))
end Go.Proofs.Ytgdhbeccpicdcaa.Pure
