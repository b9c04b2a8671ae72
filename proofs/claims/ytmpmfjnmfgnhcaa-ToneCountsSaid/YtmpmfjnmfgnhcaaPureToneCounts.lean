/- Proved here: for every number, how many names there are is the document's answer, and with their turns they are all tones; it holds under no condition. -/
import Derived.Test.YtmpmfjnmfgnhcaaVa
import Derived.Test.YtmpmfjnmfgnhcaaPx43
set_option linter.unusedVariables false
namespace Go.Proofs.Ytmpmfjnmfgnhcaa.Pure
open Go.RowKit Go.Proofs.Ytmpmfjnmfgnhcaa.P Go.Proofs.Ytmpmfjnmfgnhcaa.E Go.Proofs.Ytmpmfjnmfgnhcaa.Va Go.Proofs.YtmpmfjnmfgnhcaaW.PrintMore
open Go.Proofs.YtmpmfjnmfgnhcaaW.PrintWords
theorem ToneCounts : ∀ (x0 : Int), ((Lit.int .i64 x0).wf = true) → ∃ k, diaphonelaw01_ToneCounts.f k x0 = some true := by
  intro n _
  by_cases h : 1 ≤ n ∧ n ≤ 16
  · refine ⟨260, ?_⟩
    have : n = 1 ∨ n = 2 ∨ n = 3 ∨ n = 4 ∨ n = 5 ∨ n = 6 ∨ n = 7 ∨ n = 8 ∨ n = 9 ∨ n = 10 ∨ n = 11 ∨ n = 12 ∨ n = 13 ∨ n = 14 ∨ n = 15 ∨ n = 16 := by omega
    rcases this with rfl | rfl | rfl | rfl | rfl | rfl | rfl | rfl | rfl | rfl | rfl | rfl | rfl | rfl | rfl | rfl <;> decide +kernel
  · refine Tl.ex (g := fun k => diaphonelaw01_ToneCounts.f k n) ?_
    have e1 : Tl (fun k => tone_Count.f k n) (0, 1) := by
      refine Tl.succ ?_
      simp only [tone_Count.f]
      exact Tl.bind' (within_eq _ _ _) (Tl.neg (by rw [decide_eq_true_eq]; omega) Tl.now)
    have e2 : Tl (fun k => diaphoneref01_Count.f k n) (0, 1) := by
      unfold diaphoneref01_Count.f
      exact Tl.bind' (rwithin_eq _ _ _) (Tl.neg (by rw [decide_eq_true_eq]; omega) Tl.now)
    unfold diaphonelaw01_ToneCounts.f
    refine Tl.bind e1 (Tl.bind e2 (Tl.pos rfl (Tl.succ ?_)))
    simp only [diaphonelaw01_ToneCounts.j0]
    refine Tl.neg (by simp) (Tl.neg (by omega) (Tl.succ ?_))
    simp only [diaphonelaw01_ToneCounts.j1]
    exact Tl.pos trivial ev_known'
end Go.Proofs.Ytmpmfjnmfgnhcaa.Pure
