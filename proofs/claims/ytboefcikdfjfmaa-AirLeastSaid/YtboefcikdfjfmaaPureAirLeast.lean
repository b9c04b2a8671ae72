/- Proved here: for every task, the program's least cost is the document's, and the plan that it returns is right, has it and is tidy; it holds under no condition. -/
import Derived.Test.YtboefcikdfjfmaaKn
import Derived.Test.YtboefcikdfjfmaaLe
import Derived.Test.YtboefcikdfjfmaaBe
import Derived.Test.YtboefcikdfjfmaaRk
import Derived.Test.YtboefcikdfjfmaaRt
import Derived.Test.YtboefcikdfjfmaaPx15
import Derived.Test.YtboefcikdfjfmaaPx55
set_option linter.unusedVariables false
namespace Go.Proofs.Ytboefcikdfjfmaa.Pure
open Go.RowKit Go.Proofs.Ytboefcikdfjfmaa.P Go.Proofs.Ytboefcikdfjfmaa.E Go.Proofs.Ytboefcikdfjfmaa.Am Go.Proofs.Ytboefcikdfjfmaa.Va Go.Proofs.Ytboefcikdfjfmaa.Fi Go.Proofs.Ytboefcikdfjfmaa.Pn Go.Proofs.Ytboefcikdfjfmaa.Le Go.Proofs.Ytboefcikdfjfmaa.Be Go.Proofs.Ytboefcikdfjfmaa.Kn Go.Proofs.YtboefcikdfjfmaaW.PrintMore Go.Proofs.YtboefcikdfjfmaaW.PrintWords
theorem AirLeast : ∀ (x0 : S24), (((Lit.int .i64 x0.f0).wf = true) ∧ ((Lit.int .i64 x0.f1).wf = true) ∧ ((∀ y ∈ x0.f2, (Lit.int .i64 y).wf = true) ∧ x0.f2.length ≤ maxLen) ∧ ((∀ y ∈ x0.f3, (Lit.int .i64 y).wf = true) ∧ x0.f3.length ≤ maxLen)) → ∃ k, diaphonelaw03_AirLeast.f k x0.f0 x0.f1 x0.f2 x0.f3 = some true := by
  rintro ⟨a0, a1, c, d⟩ _
  refine Tl.ex (g := fun k => diaphonelaw03_AirLeast.f k a0 a1 c d) ?_
  unfold diaphonelaw03_AirLeast.f
  refine by_long (fun h1 h2 => ?_)
  rcases vc_cases a0 a1 c d with ⟨hv, ok⟩ | ⟨hv, no⟩
  · obtain ⟨fs, bs, hf⟩ := firsts_ex ok
    obtain ⟨x, hx, hev⟩ := best_ex ok hf
    have e1 : Tl (fun k => diaphoneref03_Least.f k a0 a1 c d) (fl fs d.length, 0) := by
      unfold diaphoneref03_Least.f
      exact Tl.bind (ev_rValidate (by omega) (by omega)) (Tl.pos hv (Tl.bind (ev_rleast ok hf.F (hf.le _ (Nat.le_refl _)).1) Tl.now))
    refine Tl.bind (ev_Least ok hf) (Tl.bind e1 (Tl.bind hev (Tl.pos rfl (Tl.pos rfl ?_))))
    refine Tl.succ ?_
    simp only [diaphonelaw03_AirLeast.j0]
    refine Tl.neg (by simp) (Tl.pos trivial ?_)
    have hl := small_of hx.l
    have hpe : Pe d x 0 := And.intro (fun h => by rw [hx.l] at h; cases h) (And.intro (fun _ _ => rfl) (fun _ h => absurd hx.r h))
    have hti : Ti d x 0 (true, 0) := And.intro (fun h => absurd rfl h) (And.intro (fun _ _ => rfl) (fun _ h => absurd hx.tidy h))
    have e2 := ev_rCheckPlan ok (by omega) hpe
    unfold cpv at e2
    rw [if_pos rfl, hx.cost] at e2
    exact Tl.bind e2 (Tl.bind (ev_rIsTidy ok (by omega) hpe hti) (Tl.pos rfl (Tl.pos rfl (Tl.pos rfl (Tl.pos rfl ev_known')))))
  · have e1 : Tl (fun k => diaphoneref03_Least.f k a0 a1 c d) (0, vc a0 a1 c d) := by
      unfold diaphoneref03_Least.f
      exact Tl.bind (ev_rValidate (by omega) (by omega)) (Tl.neg (by omega) Tl.now)
    refine Tl.bind (ev_Least_no (by omega) (by omega) (by omega)) (Tl.bind e1 (Tl.bind (ev_Best_no (by omega) (by omega) (by omega)) (Tl.pos rfl (Tl.pos rfl ?_))))
    refine Tl.succ ?_
    simp only [diaphonelaw03_AirLeast.j0]
    exact Tl.neg (by simp) (Tl.neg (by omega) (Tl.pos rfl ev_known'))
end Go.Proofs.Ytboefcikdfjfmaa.Pure
