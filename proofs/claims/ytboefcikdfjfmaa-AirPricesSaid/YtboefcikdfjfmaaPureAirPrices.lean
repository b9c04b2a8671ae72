/- Proved here: for every task and prices, which prices hold and their worth is as the document says, and those that the program returns hold and are worth the least cost; it holds under no condition. -/
import Derived.Test.YtboefcikdfjfmaaKn
import Derived.Test.YtboefcikdfjfmaaPs
import Derived.Test.YtboefcikdfjfmaaPx21
set_option linter.unusedVariables false
namespace Go.Proofs.Ytboefcikdfjfmaa.Pure
open Go.RowKit Go.Proofs.Ytboefcikdfjfmaa.P Go.Proofs.Ytboefcikdfjfmaa.E Go.Proofs.Ytboefcikdfjfmaa.Am Go.Proofs.Ytboefcikdfjfmaa.Va Go.Proofs.Ytboefcikdfjfmaa.Fi Go.Proofs.Ytboefcikdfjfmaa.Pr Go.Proofs.Ytboefcikdfjfmaa.Kn Go.Proofs.YtboefcikdfjfmaaW.PrintMore Go.Proofs.YtboefcikdfjfmaaW.PrintWords
theorem AirPrices : ∀ (x0 : S24) (x1 : List Int), (((Lit.int .i64 x0.f0).wf = true) ∧ ((Lit.int .i64 x0.f1).wf = true) ∧ ((∀ y ∈ x0.f2, (Lit.int .i64 y).wf = true) ∧ x0.f2.length ≤ maxLen) ∧ ((∀ y ∈ x0.f3, (Lit.int .i64 y).wf = true) ∧ x0.f3.length ≤ maxLen)) → ((∀ y ∈ x1, (Lit.int .i64 y).wf = true) ∧ x1.length ≤ maxLen) → ∃ k, diaphonelaw03_AirPrices.f k x0.f0 x0.f1 x0.f2 x0.f3 x1 = some true := by
  rintro ⟨a0, a1, c, d⟩ p _ _
  refine Tl.ex (g := fun k => diaphonelaw03_AirPrices.f k a0 a1 c d p) ?_
  have j0t : Tl (fun k => diaphonelaw03_AirPrices.j0 k p true a0 a1 c d) true := by
    refine Tl.succ ?_
    simp only [diaphonelaw03_AirPrices.j0]
    exact Tl.pos trivial ev_known'
  unfold diaphonelaw03_AirPrices.f
  refine Tl.bind' (ev_Long _ _ _ _) ?_
  by_cases h1 : 100 < c.length
  · exact Tl.pos (by simp [h1]) j0t
  by_cases h2 : 100 < d.length
  · exact Tl.pos (by simp [h2]) j0t
  refine Tl.neg (by simp [h1, h2]) (Tl.bind' (ev_large _) ?_)
  by_cases h3 : 100 < p.length
  · rw [decide_eq_true h3]; exact j0t
  rw [decide_eq_false h3]
  refine Tl.succ ?_
  simp only [diaphonelaw03_AirPrices.j0]
  refine Tl.neg (by decide) ?_
  rcases vc_cases a0 a1 c d with ⟨hv, ok⟩ | ⟨hv, no⟩
  · obtain ⟨r, hr⟩ := Cp_ex a0 a1 c d p
    refine Tl.bind (ev_CheckPrices ok (by omega) hr) (Tl.bind (ev_rCheckPrices ok (by omega) hr) (Tl.pos rfl ?_))
    refine Tl.succ ?_
    simp only [diaphonelaw03_AirPrices.j1]
    refine Tl.neg (by simp) ?_
    obtain ⟨cs, bs, hf⟩ := firsts_ex ok
    obtain ⟨q, hq, hev⟩ := ev_Prices ok
    have hh := hq.hol ok
    refine Tl.bind hev (Tl.bind (ev_Least ok hf) (Tl.pos rfl (Tl.pos rfl (Tl.bind (ev_rCheckPrices ok (p := q) (by have := hq.l; omega) (r := (sm (fl q) 0 d.length, 0)) (And.intro (fun h => by rw [hh.1] at h; cases h) (And.intro (fun _ _ => rfl) (fun _ h => absurd hh.2 h)))) (Tl.pos rfl (Tl.pos ?_ ev_known'))))))
    exact (F_eq_p ok.rt hq.P hf.F (Nat.le_refl _)).symm
  · refine Tl.bind (ev_CheckPrices_no (by omega) (by omega) (by omega) p) (Tl.bind (ev_rCheckPrices_no (by omega) (by omega) (by omega) p) (Tl.pos rfl ?_))
    refine Tl.succ ?_
    simp only [diaphonelaw03_AirPrices.j1]
    refine Tl.neg (by simp) ?_
    exact Tl.bind (ev_Prices_no (by omega) (by omega) (by omega)) (Tl.bind (ev_Least_no (by omega) (by omega) (by omega)) (Tl.pos rfl (Tl.neg (by omega) (Tl.pos rfl ev_known'))))
end Go.Proofs.Ytboefcikdfjfmaa.Pure
