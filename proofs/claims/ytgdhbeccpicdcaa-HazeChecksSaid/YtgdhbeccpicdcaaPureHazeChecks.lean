/- Proved here: for every list of readings and every claim, the program's check of the best row answers as the document's; it holds under no condition. -/
import Derived.Test.YtgdhbeccpicdcaaKn
import Derived.Test.YtgdhbeccpicdcaaPx32
import Derived.Test.YtgdhbeccpicdcaaPx33
import Derived.Test.YtgdhbeccpicdcaaPx34
set_option linter.unusedVariables false
namespace Go.Proofs.Ytgdhbeccpicdcaa.Pure
open Go.RowKit Go.Proofs.Ytgdhbeccpicdcaa.P Go.Proofs.Ytgdhbeccpicdcaa.E Go.Proofs.Ytgdhbeccpicdcaa.Fr Go.Proofs.Ytgdhbeccpicdcaa.Sd Go.Proofs.Ytgdhbeccpicdcaa.Bl Go.Proofs.Ytgdhbeccpicdcaa.Va Go.Proofs.Ytgdhbeccpicdcaa.Be Go.Proofs.Ytgdhbeccpicdcaa.Kn Go.Proofs.YtgdhbeccpicdcaaW.PrintMore
open Go.Proofs.YtgdhbeccpicdcaaW.PrintWords
def nok (x : Int) : Prop := -1000000000 ≤ x ∧ x ≤ 1000000000
instance (x : Int) : Decidable (nok x) := by unfold nok; infer_instance
theorem index_loop (l : List Int) (hl : l.length ≤ 1000) (d : Nat) : ∀ i : Nat, i ≤ l.length → l.length - i = d →
    ∃ r, Tl (fun k => slices_IndexFunc_int_int_haze_CheckBest_1.l0 k l (l.length : Int) (i : Int)) r ∧ (r ≥ 0 ↔ ¬ (l.drop i).all (fun x => decide (nok x)) = true) := by
  induction d with
  | zero =>
    intro i hi hd
    obtain rfl : i = l.length := by omega
    refine ⟨-1, Tl.succ ?_, by simp⟩
    simp only [slices_IndexFunc_int_int_haze_CheckBest_1.l0]
    exact Tl.neg (by omega) Tl.now
  | succ d ih =>
    intro i hi hd
    have hlt : i < l.length := by omega
    have e1 : haze_CheckBest_1.f l[i] = some (!decide (nok l[i])) := by
      unfold haze_CheckBest_1.f
      rw [within_eq]; rfl
    by_cases hn : nok l[i]
    · obtain ⟨r, g1, g2⟩ := ih (i + 1) (by omega) (by omega)
      refine ⟨r, Tl.succ ?_, ?_⟩
      · simp only [slices_IndexFunc_int_int_haze_CheckBest_1.l0]
        rw [rd_lt hlt]
        refine Tl.pos (by omega) (Tl.pos (by omega) (Tl.pos (by omega) (Tl.bind' e1 (Tl.neg (by simp [hn]) ?_))))
        rw [w64 (by omega) (by omega)]
        exact g1
      · rw [drop_cons hlt, List.all_cons, decide_eq_true hn, Bool.true_and]; exact g2
    · refine ⟨(i : Int), Tl.succ ?_, ?_⟩
      · simp only [slices_IndexFunc_int_int_haze_CheckBest_1.l0]
        rw [rd_lt hlt]
        exact Tl.pos (by omega) (Tl.pos (by omega) (Tl.pos (by omega) (Tl.bind' e1 (Tl.pos (by simp [hn]) Tl.now))))
      · rw [drop_cons hlt, List.all_cons, decide_eq_false hn, Bool.false_and]
        simp
theorem ev_contains (l : List Int) (hl : l.length ≤ 1000) : Tl (fun k => slices_ContainsFunc_int_int_haze_CheckBest_1.f k l) (!(l.all (fun x => decide (nok x)))) := by
  unfold slices_ContainsFunc_int_int_haze_CheckBest_1.f slices_IndexFunc_int_int_haze_CheckBest_1.f
  obtain ⟨r, g1, g2⟩ := index_loop l hl l.length 0 (by omega) (by omega)
  refine Tl.bind g1 (Tl.now.to ?_)
  rw [List.drop_zero] at g2
  cases hb : l.all (fun x => decide (nok x)) with
  | true => simp [hb] at g2; simp; exact g2
  | false => simp [hb] at g2; simp; exact g2
theorem Rt_eq_iff {n d v w : Int} (hd : 0 < d) (hw : 0 < w) : Rt n d = Rt v w ↔ n * w = v * d := by
  constructor
  · intro e
    have c1 := Rt_mul (n := n) hd
    have c2 := Rt_mul (n := v) hw
    rw [e] at c1
    have a1 : n * w = ((Rt v w).1 * (Int.gcd n d : Nat)) * ((Rt v w).2 * (Int.gcd v w : Nat)) := by rw [c1.1, c2.2]
    have a2 : v * d = ((Rt v w).1 * (Int.gcd v w : Nat)) * ((Rt v w).2 * (Int.gcd n d : Nat)) := by rw [c2.1, c1.2]
    rw [a1, a2]; grind
  · exact Rt_eq hd hw
theorem cross_iff {n d v w : Int} (hw : 0 < w) : n * (Rt v w).2 = (Rt v w).1 * d ↔ n * w = v * d := by
  obtain ⟨h1, h2⟩ := Rt_mul (n := v) hw
  have g := gcd_pos' (n := v) hw
  have e1 : v * d = ((Rt v w).1 * d) * (Int.gcd v w : Nat) := by
    conv => lhs; rw [← h1]
    grind
  have e2 : n * w = (n * (Rt v w).2) * (Int.gcd v w : Nat) := by
    conv => lhs; rw [← h2]
    grind
  rw [e1, e2]
  exact (Int.mul_eq_mul_right_iff (Int.ne_of_gt g)).symm
theorem abs_mul {x y : Int} (h1 : -1000000000 ≤ x) (h2 : x ≤ 1000000000) (h3 : 0 ≤ y) (h4 : y ≤ 1000000000) : -1000000000000000000 ≤ x * y ∧ x * y ≤ 1000000000000000000 := by
  constructor
  · have a := Int.mul_le_mul_of_nonneg_right h1 h3
    have b := Int.mul_le_mul_of_nonneg_left h4 (show (0 : Int) ≤ 1000000000 by decide)
    omega
  · have a := Int.mul_le_mul_of_nonneg_right h2 h3
    have b := Int.mul_le_mul_of_nonneg_left h4 (show (0 : Int) ≤ 1000000000 by decide)
    omega
theorem check_loop {h : List S31} (ok : Ok h) {l : List S33} (hb : IsBest h l) {den : Int} (hd : 1 ≤ den) (hd' : den ≤ 10000) {num : List Int} (hn : num.length = h.length) (hall : num.all (fun x => decide (nok x)) = true) (m : Nat) : ∀ i : Nat, i ≤ l.length → l.length - i = m →
    ∃ r, Tl (fun k => haze_CheckBest.l0 k l (l.length : Int) (i : Int) den num) r ∧ Tl (fun k => diaphoneref02_CheckBest.l1 k l (i : Int) den num) r := by
  induction m with
  | zero =>
    intro i hi hm
    refine ⟨0, Tl.succ ?_, Tl.succ ?_⟩
    · simp only [haze_CheckBest.l0]; exact Tl.neg (by omega) Tl.now
    · simp only [diaphoneref02_CheckBest.l1]; exact Tl.neg (by omega) Tl.now
  | succ m ih =>
    intro i hi hm
    have hlt : i < l.length := by omega
    have hlen := ok.2.1
    have hll := hb.1
    obtain ⟨a, b, h1, h2, h3, h4, h5⟩ := hb.2 i hlt
    have s := ok.small (show a < b by omega) h3
    have q1 := Rt_nonneg s.2.2.1 s.1
    have q2 := Rt_num_le s.2.2.1 s.1
    have q3 := Rt_pos (n := sv h b - sv h a) s.1
    have q4 := Rt_le (n := sv h b - sv h a) s.1
    have hni : i < num.length := by omega
    have hk : nok num[i] := by simpa using List.all_eq_true.1 hall num[i] (List.getElem_mem hni)
    simp only [nok] at hk
    have m1 := abs_mul hk.1 hk.2 (show 0 ≤ (Rt (sv h b - sv h a) (sw h b - sw h a)).2 by omega) (by omega)
    have m2 := small_mul q1 (by omega) (show 0 ≤ den by omega) (by omega)
    have c1 := cross_iff (n := num[i]) (d := den) (v := sv h b - sv h a) s.1
    have c2 := Rt_eq_iff (n := num[i]) (v := sv h b - sv h a) (show 0 < den by omega) s.1
    obtain ⟨r, hr1, hr2⟩ := ih (i + 1) (by omega) (by omega)
    by_cases hc : num[i] * (sw h b - sw h a) = (sv h b - sv h a) * den
    · refine ⟨r, Tl.succ ?_, Tl.succ ?_⟩
      · simp only [haze_CheckBest.l0]
        rw [rd33 hlt, h5, rd_lt hni]
        refine Tl.pos (by omega) (Tl.pos (by omega) (Tl.pos (by omega) (Tl.pos (by omega) (Tl.pos ?_ ?_))))
        · simp only [rat, M]
          rw [w64 (by omega) (by omega), w64 (by omega) (by omega)]
          exact c1.2 hc
        · rw [w64 (by omega) (by omega)]; exact hr1
      · simp only [diaphoneref02_CheckBest.l1]
        rw [rd33 hlt, h5, rd_lt hni]
        refine Tl.pos (by omega) (Tl.pos (by omega) (Tl.pos (by omega) (Tl.bind (ev_Ratio (by omega) (by omega) (by omega) (by omega)) (Tl.neg ?_ ?_))))
        · rw [c2.2 hc]; simp [rat, M]
        · rw [w64 (by omega) (by omega)]; exact hr2
    · refine ⟨7, Tl.succ ?_, Tl.succ ?_⟩
      · simp only [haze_CheckBest.l0]
        rw [rd33 hlt, h5, rd_lt hni]
        refine Tl.pos (by omega) (Tl.pos (by omega) (Tl.pos (by omega) (Tl.pos (by omega) (Tl.neg ?_ Tl.now))))
        simp only [rat, M]
        rw [w64 (by omega) (by omega), w64 (by omega) (by omega)]
        exact fun e => hc (c1.1 e)
      · simp only [diaphoneref02_CheckBest.l1]
        rw [rd33 hlt, h5, rd_lt hni]
        refine Tl.pos (by omega) (Tl.pos (by omega) (Tl.pos (by omega) (Tl.bind (ev_Ratio (by omega) (by omega) (by omega) (by omega)) (Tl.pos ?_ Tl.now))))
        have : Rt num[i] den ≠ Rt (sv h b - sv h a) (sw h b - sw h a) := fun e => hc (c2.1 e)
        simp only [rat, M]
        simp only [Bool.or_eq_true, Bool.not_eq_true', beq_eq_false_iff_ne]
        rcases Decidable.em ((Rt num[i] den).1 = (Rt (sv h b - sv h a) (sw h b - sw h a)).1) with e1 | e1
        · right
          intro e2
          exact this (Prod.ext e1 e2)
        · exact .inl e1
theorem rscan {h : List S31} (num : List Int) (hl : num.length ≤ 1000) (den : Int) (m : Nat) : ∀ i : Nat, i ≤ num.length → num.length - i = m → ∀ r,
    ((num.drop i).all (fun x => decide (nok x)) = true → Tl (fun k => (diaphoneref02_best.f k h).bind fun t => diaphoneref02_CheckBest.l1 k t 0 den num) r) → (¬ (num.drop i).all (fun x => decide (nok x)) = true → r = 1) →
    Tl (fun k => diaphoneref02_CheckBest.l0 k h (i : Int) den num) r := by
  induction m with
  | zero =>
    intro i hi hm r h1 h2
    obtain rfl : i = num.length := by omega
    refine Tl.succ ?_
    simp only [diaphoneref02_CheckBest.l0]
    exact Tl.neg (by omega) (h1 (by simp))
  | succ m ih =>
    intro i hi hm r h1 h2
    have hlt : i < num.length := by omega
    rw [drop_cons hlt, List.all_cons] at h1 h2
    refine Tl.succ ?_
    simp only [diaphoneref02_CheckBest.l0]
    rw [rd_lt hlt]
    refine Tl.pos (by omega) (Tl.pos (by omega) (Tl.bind' (rwithin_eq _ _ _) ?_))
    by_cases hn : nok num[i]
    · refine Tl.pos (decide_eq_true hn) ?_
      rw [w64 (by omega) (by omega)]
      rw [decide_eq_true hn, Bool.true_and] at h1 h2
      exact ih (i + 1) (by omega) (by omega) r h1 h2
    · rw [decide_eq_false hn, Bool.false_and] at h2
      rw [h2 (by simp)]
      exact Tl.neg (by simpa [nok] using hn) Tl.now
theorem checks_both {h : List S31} (hl : h.length ≤ 1000) (den : Int) (num : List Int) (hnl : num.length ≤ 1000) : ∃ r, Tl (fun k => haze_CheckBest.f k h den num) r ∧ Tl (fun k => diaphoneref02_CheckBest.f k h den num) r := by
  unfold haze_CheckBest.f diaphoneref02_CheckBest.f
  by_cases hv : vc h = 0
  · have ok := vc_ok.1 hv
    have v1 := ev_Validate hl
    have v2 := ev_rValidate hl
    rw [hv] at v1 v2
    obtain ⟨l, hb, hr⟩ := ev_best ok
    have hr' := ev_rbest ok hb
    by_cases hd : 1 ≤ den ∧ den ≤ 10000
    · by_cases hn : num.length = h.length
      · by_cases hall : num.all (fun x => decide (nok x)) = true
        · obtain ⟨r, g1, g2⟩ := check_loop ok hb hd.1 hd.2 hn hall l.length 0 (by omega) (by omega)
          refine ⟨r, Tl.bind v1 (Tl.pos rfl (Tl.bind' (within_eq _ _ _) (Tl.pos (decide_eq_true hd) (Tl.pos (by omega) (Tl.bind (ev_contains num hnl) (Tl.succ ?_)))))), Tl.bind v2 (Tl.pos rfl (Tl.bind' (rwithin_eq _ _ _) (Tl.pos (decide_eq_true hd) (Tl.succ ?_))))⟩
          · simp only [haze_CheckBest.j0]
            exact Tl.neg (by rw [hall]; simp) (Tl.bind hr g1)
          · simp only [diaphoneref02_CheckBest.j0]
            exact Tl.neg (by simp [hn]) (rscan num hnl den num.length 0 (by omega) (by omega) r (fun _ => Tl.bind hr' g2) (fun q => absurd (by simpa using hall) q))
        · refine ⟨1, Tl.bind v1 (Tl.pos rfl (Tl.bind' (within_eq _ _ _) (Tl.pos (decide_eq_true hd) (Tl.pos (by omega) (Tl.bind (ev_contains num hnl) (Tl.succ ?_)))))), Tl.bind v2 (Tl.pos rfl (Tl.bind' (rwithin_eq _ _ _) (Tl.pos (decide_eq_true hd) (Tl.succ ?_))))⟩
          · simp only [haze_CheckBest.j0]
            exact Tl.pos (by simpa using hall) Tl.now
          · simp only [diaphoneref02_CheckBest.j0]
            exact Tl.neg (by simp [hn]) (rscan num hnl den num.length 0 (by omega) (by omega) 1 (fun q => absurd (by simpa using q) hall) (fun _ => rfl))
      · refine ⟨1, Tl.bind v1 (Tl.pos rfl (Tl.bind' (within_eq _ _ _) (Tl.pos (decide_eq_true hd) (Tl.neg (by omega) (Tl.succ ?_))))), Tl.bind v2 (Tl.pos rfl (Tl.bind' (rwithin_eq _ _ _) (Tl.pos (decide_eq_true hd) (Tl.succ ?_))))⟩
        · simp only [haze_CheckBest.j0]; exact Tl.pos trivial Tl.now
        · simp only [diaphoneref02_CheckBest.j0]; exact Tl.pos (by simp; omega) Tl.now
    · refine ⟨1, Tl.bind v1 (Tl.pos rfl (Tl.bind' (within_eq _ _ _) (Tl.neg (by simpa using hd) (Tl.succ ?_)))), Tl.bind v2 (Tl.pos rfl (Tl.bind' (rwithin_eq _ _ _) (Tl.neg (by simpa using hd) (Tl.succ ?_))))⟩
      · simp only [haze_CheckBest.j0]; exact Tl.pos trivial Tl.now
      · simp only [diaphoneref02_CheckBest.j0]; exact Tl.pos trivial Tl.now
  · exact ⟨vc h, Tl.bind (ev_Validate hl) (Tl.neg hv Tl.now), Tl.bind (ev_rValidate hl) (Tl.neg hv Tl.now)⟩
theorem HazeChecks : ∀ (x0 : List (S31)) (x1 : S51), ((∀ y ∈ x0, ((Lit.int .i64 y.f0).wf = true) ∧ ((Lit.int .i64 y.f1).wf = true)) ∧ x0.length ≤ maxLen) → (((Lit.int .i64 x1.f0).wf = true) ∧ ((∀ y ∈ x1.f1, (Lit.int .i64 y).wf = true) ∧ x1.f1.length ≤ maxLen)) → ∃ k, diaphonelaw02_HazeChecks.f k x0 x1.f0 x1.f1 = some true := by
  intro h r _ _
  refine Tl.ex (g := fun k => diaphonelaw02_HazeChecks.f k h r.f0 r.f1) ?_
  unfold diaphonelaw02_HazeChecks.f
  refine Tl.bind' (long_eq h) ?_
  by_cases hl : (h.length : Int) > 100
  · refine Tl.pos (decide_eq_true hl) (Tl.succ ?_)
    simp only [diaphonelaw02_HazeChecks.j0]
    exact Tl.pos trivial ev_known'
  · refine Tl.neg (by simpa using hl) (Tl.succ ?_)
    simp only [diaphonelaw02_HazeChecks.j0]
    by_cases hn : (r.f1.length : Int) > 100
    · exact Tl.pos (decide_eq_true hn) ev_known'
    · obtain ⟨x, g1, g2⟩ := checks_both (h := h) (by omega) r.f0 r.f1 (by omega)
      exact Tl.neg (by simpa using hn) (Tl.bind g1 (Tl.bind g2 (Tl.pos rfl ev_known')))
end Go.Proofs.Ytgdhbeccpicdcaa.Pure
