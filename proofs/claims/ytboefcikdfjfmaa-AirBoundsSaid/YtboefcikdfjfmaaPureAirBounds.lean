/- Proved here: for every task, plan and prices, no right plan costs less than the least, no prices that hold are worth more, and none more than a right plan costs; it holds under no condition. -/
import Derived.Test.YtboefcikdfjfmaaKn
import Derived.Test.YtboefcikdfjfmaaPk
import Derived.Test.YtboefcikdfjfmaaPr
import Derived.Test.YtboefcikdfjfmaaPx40
set_option linter.unusedVariables false
namespace Go.Proofs.Ytboefcikdfjfmaa.Pure
open Go.RowKit Go.Proofs.Ytboefcikdfjfmaa.P Go.Proofs.Ytboefcikdfjfmaa.E Go.Proofs.Ytboefcikdfjfmaa.Am Go.Proofs.Ytboefcikdfjfmaa.Va Go.Proofs.Ytboefcikdfjfmaa.Fi Go.Proofs.Ytboefcikdfjfmaa.Pr Go.Proofs.Ytboefcikdfjfmaa.Pn Go.Proofs.Ytboefcikdfjfmaa.Kn Go.Proofs.YtboefcikdfjfmaaW.PrintMore Go.Proofs.YtboefcikdfjfmaaW.PrintWords
theorem AirBounds : ∀ (x0 : S24) (x1 : S47), (((Lit.int .i64 x0.f0).wf = true) ∧ ((Lit.int .i64 x0.f1).wf = true) ∧ ((∀ y ∈ x0.f2, (Lit.int .i64 y).wf = true) ∧ x0.f2.length ≤ maxLen) ∧ ((∀ y ∈ x0.f3, (Lit.int .i64 y).wf = true) ∧ x0.f3.length ≤ maxLen)) → (((∀ y ∈ x1.f0, (Lit.int .i64 y).wf = true) ∧ x1.f0.length ≤ maxLen) ∧ ((∀ y ∈ x1.f1, (Lit.int .i64 y).wf = true) ∧ x1.f1.length ≤ maxLen)) → ∃ k, diaphonelaw03_AirBounds.f k x0.f0 x0.f1 x0.f2 x0.f3 x1.f0 x1.f1 = some true := by
  rintro ⟨a0, a1, c, d⟩ ⟨x, p⟩ _ _
  refine Tl.ex (g := fun k => diaphonelaw03_AirBounds.f k a0 a1 c d x p) ?_
  have j0t : Tl (fun k => diaphonelaw03_AirBounds.j0 k true a0 a1 c d x p) true := by
    refine Tl.succ ?_
    simp only [diaphonelaw03_AirBounds.j0]
    exact Tl.pos trivial ev_known'
  unfold diaphonelaw03_AirBounds.f
  refine Tl.bind' (ev_Long _ _ _ _) ?_
  by_cases h1 : 100 < c.length
  · exact Tl.pos (by simp [h1]) j0t
  by_cases h2 : 100 < d.length
  · exact Tl.pos (by simp [h2]) j0t
  refine Tl.neg (by simp [h1, h2]) (Tl.bind' (ev_large _) ?_)
  by_cases h3 : 100 < x.length
  · exact Tl.pos (by simp [h3]) j0t
  refine Tl.neg (by simp [h3]) (Tl.bind' (ev_large _) ?_)
  by_cases h4 : 100 < p.length
  · rw [decide_eq_true h4]; exact j0t
  rw [decide_eq_false h4]
  refine Tl.succ ?_
  simp only [diaphonelaw03_AirBounds.j0]
  refine Tl.neg (by decide) ?_
  rcases vc_cases a0 a1 c d with ⟨hv, ok⟩ | ⟨hv, no⟩
  · obtain ⟨e, he⟩ := Pe_ex d x
    obtain ⟨r, hr⟩ := Cp_ex a0 a1 c d p
    obtain ⟨fs, bs, hf⟩ := firsts_ex ok
    refine Tl.bind (ev_CheckPlan ok (by omega) he) (Tl.bind (ev_Least ok hf) (Tl.bind (ev_CheckPrices ok (by omega) hr) (Tl.pos rfl ?_)))
    have rt := ok.rt
    have hho : r.2 = 0 → r.1 = sm (fl p) 0 d.length ∧ Ho a0 a1 (fl c) (fl d) d.length (fl p) := by
      intro h0
      obtain ⟨g1, g2, g3⟩ := hr
      by_cases c1 : allb p d.length 100000 = true
      · by_cases c2 : HoL a0 a1 c d p 0
        · exact ⟨by rw [g2 c1 c2], c2.ho (fun i => (((allb_iff (by decide)).1 c1).2 i).1)⟩
        · rw [g3 c1 c2] at h0; cases h0
      · rw [g1 (by simpa using c1)] at h0; cases h0
    have hpl : e = 0 → Pl (fl d) d.length (fl x) := fun h0 => by
      obtain ⟨g1, g2⟩ := he.zero h0
      exact g2.pl (small_of g1).1
    have hr1 : r.2 = 0 → r.1 ≤ fl fs d.length := fun h0 => by
      obtain ⟨g1, g2⟩ := hho h0
      rw [g1]; exact ho_le_F rt hf.F g2
    unfold cpv
    by_cases c1 : e = 0
    · rw [if_pos c1]
      have k1 : fl fs d.length ≤ cs a0 a1 c d x d.length := F_le_plan' rt hf.F (hpl c1)
      refine Tl.pos rfl (Tl.pos k1 ?_)
      by_cases c2 : r.2 = 0
      · exact Tl.pos c2 (Tl.pos (hr1 c2) (Tl.pos (by have := hr1 c2; show _ ≤ cs a0 a1 c d x d.length; omega) ev_known'))
      · exact Tl.neg c2 ev_known'
    · rw [if_neg c1]
      refine Tl.neg c1 ?_
      by_cases c2 : r.2 = 0
      · exact Tl.pos c2 (Tl.pos (hr1 c2) ev_known')
      · exact Tl.neg c2 ev_known'
  · exact Tl.bind (ev_CheckPlan_no (by omega) (by omega) (by omega) x) (Tl.bind (ev_Least_no (by omega) (by omega) (by omega)) (Tl.bind (ev_CheckPrices_no (by omega) (by omega) (by omega) p) (Tl.neg (by show vc a0 a1 c d ≠ 0; omega) ev_known')))
end Go.Proofs.Ytboefcikdfjfmaa.Pure
