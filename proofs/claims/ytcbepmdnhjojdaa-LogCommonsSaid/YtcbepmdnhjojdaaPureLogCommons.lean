/- Proved here: for all logs and lists, which lists are part of two logs is told as the document tells it, and none is longer than the longest one; it holds under no condition. -/
import Derived.Test.YtcbepmdnhjojdaaCt
import Derived.Test.YtcbepmdnhjojdaaPx39
set_option linter.unusedVariables false
namespace Go.Proofs.Ytcbepmdnhjojdaa.Pure
open Go.RowKit Go.Proofs.Ytcbepmdnhjojdaa.P Go.Proofs.Ytcbepmdnhjojdaa.E Go.Proofs.Ytcbepmdnhjojdaa.Al Go.Proofs.Ytcbepmdnhjojdaa.Lo Go.Proofs.Ytcbepmdnhjojdaa.Lr Go.Proofs.Ytcbepmdnhjojdaa.Re Go.Proofs.Ytcbepmdnhjojdaa.Co Go.Proofs.Ytcbepmdnhjojdaa.Ct Go.Proofs.YtcbepmdnhjojdaaW.PrintMore
open Go.Proofs.YtcbepmdnhjojdaaW.PrintWords
theorem LogCommons : ∀ (x0 : S26) (x1 : List Int), (((∀ y ∈ x0.f0, (Lit.int .i64 y).wf = true) ∧ x0.f0.length ≤ maxLen) ∧ ((∀ y ∈ x0.f1, (Lit.int .i64 y).wf = true) ∧ x0.f1.length ≤ maxLen) ∧ (((Lit.int .i64 x0.f2.f0).wf = true) ∧ ((Lit.int .i64 x0.f2.f1).wf = true) ∧ ((Lit.int .i64 x0.f2.f2).wf = true))) → ((∀ y ∈ x1, (Lit.int .i64 y).wf = true) ∧ x1.length ≤ maxLen) → ∃ k, diaphonelaw06_LogCommons.f k x0.f0 x0.f1 x0.f2.f0 x0.f2.f1 x0.f2.f2 x1 = some true := by
  intro x p _ _
  refine Tl.ex (g := fun k => diaphonelaw06_LogCommons.f k x.f0 x.f1 x.f2.f0 x.f2.f1 x.f2.f2 p) ?_
  unfold diaphonelaw06_LogCommons.f
  generalize x.f0 = l
  generalize x.f1 = m
  generalize x.f2.f0 = o
  generalize x.f2.f1 = i
  generalize x.f2.f2 = c
  have kn : Tl (fun k => diaphonelaw06_LogCommons.j0 k p true l m o i c) true := by
    refine Tl.succ ?_
    simp only [diaphonelaw06_LogCommons.j0]
    exact Tl.pos trivial ev_known'
  refine Tl.bind' (long_eq _ _ _ _ _) ?_
  cases h : lg l m with
  | true => exact Tl.pos rfl kn
  | false =>
    obtain ⟨h1, h2⟩ := lg_false h
    refine Tl.neg (by simp) (Tl.bind' (a := decide ((p.length : Int) > 100)) rfl ?_)
    by_cases ht : (p.length : Int) > 100
    · rw [decide_eq_true ht]; exact kn
    rw [decide_eq_false ht]
    refine Tl.succ ?_
    simp only [diaphonelaw06_LogCommons.j0]
    refine Tl.neg (by simp) (Tl.bind (ev_CheckCommon (by omega) (by omega) (by omega)) (Tl.bind (ev_rCheckCommon (by omega) (by omega) (by omega)) (Tl.pos rfl (Tl.bind (ev_Common (by omega) (by omega)) ?_))))
    by_cases hv : cv l m p = 0
    · refine Tl.pos hv ?_
      unfold cv at hv
      have ht0 : tc l m = 0 := by
        by_cases q : tc l m = 0
        · exact q
        · rw [if_neg q] at hv; exact hv
      rw [if_pos ht0] at hv
      have hs : p.isSublist l = true ∧ p.isSublist m = true := by
        by_cases q : p.isSublist l = true ∧ p.isSublist m = true
        · exact q
        · rw [if_neg q] at hv; exact absurd hv (by decide)
      have hm := cm_most l m p (List.isSublist_iff_sublist.1 hs.1) (List.isSublist_iff_sublist.1 hs.2)
      unfold cn
      rw [if_pos ht0]
      exact Tl.pos rfl (Tl.pos (by show (p.length : Int) ≤ (cm l m : Int); omega) ev_known')
    · exact Tl.neg hv ev_known'
end Go.Proofs.Ytcbepmdnhjojdaa.Pure
