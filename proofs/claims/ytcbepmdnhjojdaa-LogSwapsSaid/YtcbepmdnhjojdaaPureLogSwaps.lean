/- Proved here: for all logs and costs, the logs and costs exchanged are the document's, and the distance stays; it holds under no condition. -/
import Derived.Test.YtcbepmdnhjojdaaLr
import Derived.Test.YtcbepmdnhjojdaaPx10
import Derived.Test.YtcbepmdnhjojdaaPx11
import Derived.Test.YtcbepmdnhjojdaaPx35
set_option linter.unusedVariables false
namespace Go.Proofs.Ytcbepmdnhjojdaa.Pure
open Go.RowKit Go.Proofs.Ytcbepmdnhjojdaa.P Go.Proofs.Ytcbepmdnhjojdaa.E Go.Proofs.Ytcbepmdnhjojdaa.Al Go.Proofs.Ytcbepmdnhjojdaa.Lo Go.Proofs.Ytcbepmdnhjojdaa.Lr Go.Proofs.YtcbepmdnhjojdaaW.PrintMore
open Go.Proofs.YtcbepmdnhjojdaaW.PrintWords
theorem LogSwaps : ∀ (x0 : S26), (((∀ y ∈ x0.f0, (Lit.int .i64 y).wf = true) ∧ x0.f0.length ≤ maxLen) ∧ ((∀ y ∈ x0.f1, (Lit.int .i64 y).wf = true) ∧ x0.f1.length ≤ maxLen) ∧ (((Lit.int .i64 x0.f2.f0).wf = true) ∧ ((Lit.int .i64 x0.f2.f1).wf = true) ∧ ((Lit.int .i64 x0.f2.f2).wf = true))) → ∃ k, diaphonelaw06_LogSwaps.f k x0.f0 x0.f1 x0.f2.f0 x0.f2.f1 x0.f2.f2 = some true := by
  intro x _
  refine Tl.ex (g := fun k => diaphonelaw06_LogSwaps.f k x.f0 x.f1 x.f2.f0 x.f2.f1 x.f2.f2) ?_
  unfold diaphonelaw06_LogSwaps.f
  generalize x.f0 = l
  generalize x.f1 = m
  generalize x.f2.f0 = o
  generalize x.f2.f1 = i
  generalize x.f2.f2 = c
  refine Tl.bind' (long_eq _ _ _ _ _) ?_
  cases h : lg l m with
  | true => exact Tl.pos rfl ev_known'
  | false =>
    obtain ⟨h1, h2⟩ := lg_false h
    refine Tl.neg (by simp) ?_
    obtain ⟨d1, g1, e1⟩ := ev_Distance (l := l) (m := m) (o := o) (i := i) (c := c) (by omega) (by omega)
    by_cases hk : kc l m o i c = 0
    · obtain ⟨a1, a2, a3⟩ := kc_zero.1 hk
      obtain ⟨d2, g2, e2⟩ := ev_Distance (l := m) (m := l) (o := i) (i := o) (c := c) (by omega) (by omega)
      have hk2 : kc m l i o c = 0 := kc_zero.2 ⟨a2, a1, cc_zero.2 ⟨(cc_zero.1 a3).2.1, (cc_zero.1 a3).1, (cc_zero.1 a3).2.2⟩⟩
      have s1 : Tl (fun k => log_Swap.f k l m o i c) (m, l, i, o, c, 0) := by
        unfold log_Swap.f
        exact Tl.bind (ev_check (by omega) (by omega)) (Tl.pos hk (Tl.bind' (clone_eq (by omega)) (Tl.bind' (clone_eq (by omega)) Tl.now)))
      have s2 : Tl (fun k => diaphoneref06_Swap.f k l m o i c) (m, l, i, o, c, 0) := by
        unfold diaphoneref06_Swap.f
        exact Tl.bind (ev_costed (by omega) (by omega)) (Tl.pos hk (Tl.bind' rfl (Tl.pos (by simp; omega) (Tl.bind' rfl (Tl.pos (by simp; omega) Tl.now)))))
      refine Tl.bind s1 (Tl.bind s2 (Tl.bind (ev_SameInts m (by omega)) (Tl.pos rfl (Tl.bind (ev_SameInts l (by omega)) (Tl.pos rfl (Tl.neg (by simp) (Tl.succ ?_)))))))
      simp only [diaphonelaw06_LogSwaps.j0]
      rw [if_pos hk, hk] at e1
      rw [if_pos hk2, hk2] at e2
      exact Tl.neg (by simp) (Tl.bind e1 (Tl.bind e2 (Tl.pos trivial (Tl.pos rfl (Tl.pos rfl (Tl.pos ((g2 hk2).unique (isD_swap (g1 hk))).symm ev_known'))))))
    · obtain ⟨d2, g2, e2⟩ := ev_Distance (l := []) (m := []) (o := 0) (i := 0) (c := 0) (by simp) (by simp)
      have s1 : Tl (fun k => log_Swap.f k l m o i c) ([], [], 0, 0, 0, kc l m o i c) := by
        unfold log_Swap.f
        exact Tl.bind (ev_check (by omega) (by omega)) (Tl.neg hk Tl.now)
      have s2 : Tl (fun k => diaphoneref06_Swap.f k l m o i c) ([], [], 0, 0, 0, kc l m o i c) := by
        unfold diaphoneref06_Swap.f
        exact Tl.bind (ev_costed (by omega) (by omega)) (Tl.neg hk Tl.now)
      refine Tl.bind s1 (Tl.bind s2 (Tl.bind (ev_SameInts [] (by simp)) (Tl.pos rfl (Tl.bind (ev_SameInts [] (by simp)) (Tl.pos rfl (Tl.neg (by simp) (Tl.succ ?_)))))))
      simp only [diaphonelaw06_LogSwaps.j0]
      exact Tl.neg (by simp) (Tl.bind e1 (Tl.bind e2 (Tl.neg hk ev_known')))
end Go.Proofs.Ytcbepmdnhjojdaa.Pure
