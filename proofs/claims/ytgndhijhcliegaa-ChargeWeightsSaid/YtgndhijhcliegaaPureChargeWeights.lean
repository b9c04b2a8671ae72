/- Proved here: for all weights and counts, which are right, the measure, and the amount of counts are the document's; it holds under no condition. -/
import Derived.Test.YtgndhijhcliegaaCc
import Derived.Test.YtgndhijhcliegaaPx45
set_option linter.unusedVariables false
namespace Go.Proofs.Ytgndhijhcliegaa.Pure
open Go.RowKit Go.Proofs.Ytgndhijhcliegaa.P Go.Proofs.Ytgndhijhcliegaa.E Go.Proofs.Ytgndhijhcliegaa.Va Go.Proofs.Ytgndhijhcliegaa.Kn Go.Proofs.Ytgndhijhcliegaa.Me Go.Proofs.Ytgndhijhcliegaa.Cc Go.Proofs.YtgndhijhcliegaaW.PrintMore
open Go.Proofs.YtgndhijhcliegaaW.PrintWords
namespace Wei
theorem ev_Long2 (w l : List Int) : Tl (fun k => diaphonelaw07_Long.f k [w, l]) (decide ((w.length : Int) > 50 ∨ (l.length : Int) > 50)) := by
  unfold diaphonelaw07_Long.f
  refine Tl.succ ?_
  simp only [diaphonelaw07_Long.l0]
  have e : rd_L1 [w, l] 0 = w := rfl
  have e1 : rd_L1 [w, l] 1 = l := rfl
  rw [e]
  refine Tl.pos (by simp) (Tl.pos (by omega) ?_)
  by_cases c : (w.length : Int) > 50
  · exact Tl.to (Tl.pos c Tl.now) (decide_eq_true (.inl c)).symm
  · refine Tl.neg c (Tl.succ ?_)
    rw [show wrap64 ((0 : Int) + 1) = 1 by unfold wrap64; omega]
    simp only [diaphonelaw07_Long.l0]
    rw [e1]
    refine Tl.pos (by simp) (Tl.pos (by omega) ?_)
    by_cases c2 : (l.length : Int) > 50
    · exact Tl.to (Tl.pos c2 Tl.now) (decide_eq_true (.inr c2)).symm
    · refine Tl.neg c2 (Tl.succ ?_)
      rw [show wrap64 ((1 : Int) + 1) = 2 by unfold wrap64; omega]
      simp only [diaphonelaw07_Long.l0]
      exact Tl.to (Tl.neg (by simp) Tl.now) (decide_eq_false (by omega)).symm
end Wei
open Wei
theorem ChargeWeights : ∀ (x0 : List Int) (x1 : List Int), ((∀ y ∈ x0, (Lit.int .i64 y).wf = true) ∧ x0.length ≤ maxLen) → ((∀ y ∈ x1, (Lit.int .i64 y).wf = true) ∧ x1.length ≤ maxLen) → ∃ k, diaphonelaw07_ChargeWeights.f k x0 x1 = some true := by
  intro w l _ _
  refine Tl.ex (g := fun k => diaphonelaw07_ChargeWeights.f k w l) ?_
  unfold diaphonelaw07_ChargeWeights.f
  refine Tl.bind (ev_Long2 w l) ?_
  by_cases c : (w.length : Int) > 50 ∨ (l.length : Int) > 50
  · exact Tl.pos (decide_eq_true c) ev_sane'
  · refine Tl.neg (by rw [decide_eq_true_eq]; exact c) ?_
    exact Tl.bind (ev_Measure w) (Tl.bind (ev_rMeasure w) (Tl.bind (ev_Check (by omega)) (Tl.bind (ev_rCheck (by omega)) (Tl.bind (ev_Validate w) (Tl.bind (ev_rValidate w) (Tl.pos rfl (Tl.pos rfl (Tl.pos rfl (Tl.pos rfl (Tl.pos rfl ev_sane'))))))))))
end Go.Proofs.Ytgndhijhcliegaa.Pure
