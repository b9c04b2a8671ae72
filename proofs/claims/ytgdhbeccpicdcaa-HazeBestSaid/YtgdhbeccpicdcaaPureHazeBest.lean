/- Proved here: for every list of readings, the program's best row and its misfit are the document's; it holds under no condition. -/
import Derived.Test.YtgdhbeccpicdcaaMi
import Derived.Test.YtgdhbeccpicdcaaRa
import Derived.Test.YtgdhbeccpicdcaaPx24
import Derived.Test.YtgdhbeccpicdcaaPx27
set_option linter.unusedVariables false
namespace Go.Proofs.Ytgdhbeccpicdcaa.Pure
open Go.RowKit Go.Proofs.Ytgdhbeccpicdcaa.P Go.Proofs.Ytgdhbeccpicdcaa.E Go.Proofs.Ytgdhbeccpicdcaa.Fr Go.Proofs.Ytgdhbeccpicdcaa.Sd Go.Proofs.Ytgdhbeccpicdcaa.Bl Go.Proofs.Ytgdhbeccpicdcaa.Va Go.Proofs.Ytgdhbeccpicdcaa.Be Go.Proofs.Ytgdhbeccpicdcaa.Kn Go.Proofs.Ytgdhbeccpicdcaa.Ra Go.Proofs.Ytgdhbeccpicdcaa.Rl Go.Proofs.Ytgdhbeccpicdcaa.Mi Go.Proofs.YtgdhbeccpicdcaaW.PrintMore
open Go.Proofs.YtgdhbeccpicdcaaW.PrintWords
theorem HazeBest : ∀ (x0 : List (S31)), ((∀ y ∈ x0, ((Lit.int .i64 y.f0).wf = true) ∧ ((Lit.int .i64 y.f1).wf = true)) ∧ x0.length ≤ maxLen) → ∃ k, diaphonelaw02_HazeBest.f k x0 = some true := by
  intro h _
  refine Tl.ex (g := fun k => diaphonelaw02_HazeBest.f k h) ?_
  unfold diaphonelaw02_HazeBest.f
  refine by_long (fun hl => ?_)
  by_cases hk : vc h = 0
  · have ok := vc_ok.1 hk
    have hlen := ok.2.1
    obtain ⟨l, hc, hb⟩ := ev_blocks ok
    have hx := Ch.row_best ok hc
    have hxl := hx.1
    have e1 : Tl (fun k => diaphoneref02_Best.f k h) (row h l, 0) := by
      unfold diaphoneref02_Best.f
      exact Tl.bind (ev_rValidate (by omega)) (Tl.pos hk (Tl.bind (ev_rbest ok hx) Tl.now))
    exact Tl.bind (ev_Best ok hx) (Tl.bind e1 (Tl.bind (ev_Misfit ok hc hb) (Tl.bind (ev_rMisfit ok hc) (Tl.bind (ev_SameRats (row h l) (by omega)) (Tl.pos rfl (Tl.pos rfl (Tl.pos (by simp) (Tl.pos rfl ev_known'))))))))
  · have e1 : Tl (fun k => diaphoneref02_Best.f k h) ([], vc h) := by
      unfold diaphoneref02_Best.f
      exact Tl.bind (ev_rValidate (by omega)) (Tl.neg hk Tl.now)
    have e2 : Tl (fun k => haze_Misfit.f k h) (0, 0, vc h) := by
      unfold haze_Misfit.f
      exact Tl.bind (ev_Validate (by omega)) (Tl.neg hk Tl.now)
    have e3 : Tl (fun k => diaphoneref02_Misfit.f k h) (0, 0, vc h) := by
      unfold diaphoneref02_Misfit.f
      refine Tl.bind (a := ([], vc h)) ?_ (Tl.neg hk Tl.now)
      unfold diaphoneref02_Blocks.f
      exact Tl.bind (ev_rValidate (by omega)) (Tl.neg hk Tl.now)
    exact Tl.bind (ev_Best_bad (by omega) hk) (Tl.bind e1 (Tl.bind e2 (Tl.bind e3 (Tl.bind (ev_SameRats _ (by simp)) (Tl.pos rfl (Tl.pos rfl (Tl.pos (by simp) (Tl.pos rfl ev_known'))))))))
end Go.Proofs.Ytgdhbeccpicdcaa.Pure
