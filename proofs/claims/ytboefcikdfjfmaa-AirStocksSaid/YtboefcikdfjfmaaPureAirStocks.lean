/- Proved here: for every task and list, the stock after each hour, the hours of starts, and whether the plan is tidy, are as the document says; it holds under no condition. -/
import Derived.Test.YtboefcikdfjfmaaKn
import Derived.Test.YtboefcikdfjfmaaTk
import Derived.Test.YtboefcikdfjfmaaSa
import Derived.Test.YtboefcikdfjfmaaFi
import Derived.Test.YtboefcikdfjfmaaPx48
set_option linter.unusedVariables false
namespace Go.Proofs.Ytboefcikdfjfmaa.Pure
open Go.RowKit Go.Proofs.Ytboefcikdfjfmaa.P Go.Proofs.Ytboefcikdfjfmaa.E Go.Proofs.Ytboefcikdfjfmaa.Am Go.Proofs.Ytboefcikdfjfmaa.Va Go.Proofs.Ytboefcikdfjfmaa.Fi Go.Proofs.Ytboefcikdfjfmaa.Pn Go.Proofs.Ytboefcikdfjfmaa.Kn Go.Proofs.YtboefcikdfjfmaaW.PrintMore Go.Proofs.YtboefcikdfjfmaaW.PrintWords
theorem AirStocks : ∀ (x0 : S24) (x1 : List Int), (((Lit.int .i64 x0.f0).wf = true) ∧ ((Lit.int .i64 x0.f1).wf = true) ∧ ((∀ y ∈ x0.f2, (Lit.int .i64 y).wf = true) ∧ x0.f2.length ≤ maxLen) ∧ ((∀ y ∈ x0.f3, (Lit.int .i64 y).wf = true) ∧ x0.f3.length ≤ maxLen)) → ((∀ y ∈ x1, (Lit.int .i64 y).wf = true) ∧ x1.length ≤ maxLen) → ∃ k, diaphonelaw03_AirStocks.f k x0.f0 x0.f1 x0.f2 x0.f3 x1 = some true := by
  rintro ⟨a0, a1, c, d⟩ x _ _
  refine Tl.ex (g := fun k => diaphonelaw03_AirStocks.f k a0 a1 c d x) ?_
  have j0t : Tl (fun k => diaphonelaw03_AirStocks.j0 k x true a0 a1 c d) true := by
    refine Tl.succ ?_
    simp only [diaphonelaw03_AirStocks.j0]
    exact Tl.pos trivial ev_known'
  unfold diaphonelaw03_AirStocks.f
  refine Tl.bind' (ev_Long _ _ _ _) ?_
  by_cases h1 : 100 < c.length
  · exact Tl.pos (by simp [h1]) j0t
  by_cases h2 : 100 < d.length
  · exact Tl.pos (by simp [h2]) j0t
  refine Tl.neg (by simp [h1, h2]) (Tl.bind' (ev_large _) ?_)
  by_cases h3 : 100 < x.length
  · rw [decide_eq_true h3]; exact j0t
  rw [decide_eq_false h3]
  refine Tl.succ ?_
  simp only [diaphonelaw03_AirStocks.j0]
  refine Tl.neg (by decide) ?_
  rcases vc_cases a0 a1 c d with ⟨hv, ok⟩ | ⟨hv, no⟩
  · obtain ⟨r, hr⟩ := Pe_ex d x
    obtain ⟨t, ht⟩ := Ti_ex d x r
    have := ok.n2
    refine Tl.bind (ev_Stock ok (by omega) hr) (Tl.bind (ev_rStock ok (by omega) hr) (Tl.bind (ev_Starts ok (by omega) hr) (Tl.bind (ev_rStarts ok (by omega) hr) (Tl.bind (ev_IsTidy ok (by omega) hr ht) (Tl.bind (ev_rIsTidy ok (by omega) hr ht) (Tl.bind (ev_Same ?_) (Tl.pos (by simp) (Tl.pos rfl (Tl.bind (ev_Same ?_) (Tl.pos (by simp) (Tl.pos rfl (Tl.pos (by simp) (Tl.pos rfl ev_known')))))))))))))
    · split
      · rw [stl_len]; omega
      · simp
    · split
      · have := sts_len x x.length; show (sts x x.length).length ≤ 1000; omega
      · simp
  · obtain ⟨e1, e2, e3, e4⟩ := ev_no (a0 := a0) (a1 := a1) (c := c) (d := d) (by omega) (by omega) (by omega) x
    exact Tl.bind e3 (Tl.bind e4 (Tl.bind e1 (Tl.bind e2 (Tl.bind (ev_IsTidy_no (by omega) (by omega) (by omega) x) (Tl.bind (ev_rIsTidy_no (by omega) (by omega) (by omega) x) (Tl.bind (ev_Same (by simp)) (Tl.pos (by simp) (Tl.pos rfl (Tl.bind (ev_Same (by simp)) (Tl.pos (by simp) (Tl.pos rfl (Tl.pos (by simp) (Tl.pos rfl ev_known')))))))))))))
end Go.Proofs.Ytboefcikdfjfmaa.Pure
