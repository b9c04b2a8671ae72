/- Proved here: for all logs, the longest list that is part of both is the document's, and the distance with the costs 1, 1 and 2 is told by it; it holds under no condition. -/
import Derived.Test.YtcbepmdnhjojdaaPt
import Derived.Test.YtcbepmdnhjojdaaPx40
set_option linter.unusedVariables false
namespace Go.Proofs.Ytcbepmdnhjojdaa.Pure
open Go.RowKit Go.Proofs.Ytcbepmdnhjojdaa.P Go.Proofs.Ytcbepmdnhjojdaa.E Go.Proofs.Ytcbepmdnhjojdaa.Al Go.Proofs.Ytcbepmdnhjojdaa.Lo Go.Proofs.Ytcbepmdnhjojdaa.Lr Go.Proofs.Ytcbepmdnhjojdaa.Re Go.Proofs.Ytcbepmdnhjojdaa.Co Go.Proofs.Ytcbepmdnhjojdaa.Ct Go.Proofs.Ytcbepmdnhjojdaa.Pt Go.Proofs.YtcbepmdnhjojdaaW.PrintMore
open Go.Proofs.YtcbepmdnhjojdaaW.PrintWords
theorem LogParts : ∀ (x0 : S26), (((∀ y ∈ x0.f0, (Lit.int .i64 y).wf = true) ∧ x0.f0.length ≤ maxLen) ∧ ((∀ y ∈ x0.f1, (Lit.int .i64 y).wf = true) ∧ x0.f1.length ≤ maxLen) ∧ (((Lit.int .i64 x0.f2.f0).wf = true) ∧ ((Lit.int .i64 x0.f2.f1).wf = true) ∧ ((Lit.int .i64 x0.f2.f2).wf = true))) → ∃ k, diaphonelaw06_LogParts.f k x0.f0 x0.f1 x0.f2.f0 x0.f2.f1 x0.f2.f2 = some true := by
  intro x _
  refine Tl.ex (g := fun k => diaphonelaw06_LogParts.f k x.f0 x.f1 x.f2.f0 x.f2.f1 x.f2.f2) ?_
  unfold diaphonelaw06_LogParts.f
  generalize x.f0 = l
  generalize x.f1 = m
  generalize x.f2.f0 = o
  generalize x.f2.f1 = i
  generalize x.f2.f2 = c
  refine Tl.bind' (long_eq _ _ _ _ _) ?_
  cases h : lg l m with
  | true => exact Tl.pos rfl ev_known'
  | false =>
    obtain ⟨h1, h2⟩ := lg_false h
    refine Tl.neg (by simp) (Tl.bind (ev_Common (by omega) (by omega)) ?_)
    obtain ⟨d, g, e⟩ := ev_Distance (l := l) (m := m) (o := 1) (i := 1) (c := 2) (by omega) (by omega)
    by_cases ht : tc l m = 0
    · obtain ⟨p, hp, e1, e2, e3⟩ := ev_parts (l := l) (m := m) (by omega) (by omega) ht
      have ps := isP_sub hp
      have cl := cm_len l m
      have hk : kc l m 1 1 2 = 0 := kc_zero.2 ⟨(tc_zero.1 ht).1, (tc_zero.1 ht).2, by decide⟩
      have hd := (g hk).unique (dist_cm l m)
      rw [if_pos hk, hk] at e
      have hcn : cn l m = ((cm l m : Int), 0) := if_pos ht
      rw [hcn]
      refine Tl.bind e3 (Tl.bind e1 (Tl.bind e2 (Tl.pos rfl (Tl.pos rfl (Tl.bind (ev_SameInts p (by omega)) (Tl.pos rfl (Tl.succ ?_)))))))
      simp only [diaphonelaw06_LogParts.j0]
      have hcv : cv l m p = 0 := by
        unfold cv
        rw [if_pos ht, if_pos ⟨List.isSublist_iff_sublist.2 ps.1, List.isSublist_iff_sublist.2 ps.2.1⟩]
      have ec := ev_CheckCommon (l := l) (m := m) (p := p) (by omega) (by omega) (by omega)
      rw [hcv] at ec
      rw [w64 (x := (l.length : Int) + (m.length : Int)) (by omega) (by omega), w64 (x := 2 * (cm l m : Int)) (by omega) (by omega), w64 (x := (l.length : Int) + (m.length : Int) - 2 * (cm l m : Int)) (by omega) (by omega)]
      exact Tl.neg (by simp) (Tl.bind e (Tl.pos trivial (Tl.pos rfl (Tl.pos hd (Tl.bind ec (Tl.pos rfl ev_known'))))))
    · have hcn : cn l m = (0, tc l m) := if_neg ht
      rw [hcn]
      have e1 : Tl (fun k => log_Part.f k l m) ([], tc l m) := by
        unfold log_Part.f
        exact Tl.bind (ev_two (by omega) (by omega)) (Tl.neg ht Tl.now)
      have e2 : Tl (fun k => diaphoneref06_Part.f k l m) ([], tc l m) := by
        unfold diaphoneref06_Part.f
        exact Tl.bind (ev_rtwo (by omega) (by omega)) (Tl.neg ht Tl.now)
      have e3 : Tl (fun k => diaphoneref06_Common.f k l m) (0, tc l m) := by
        unfold diaphoneref06_Common.f
        exact Tl.bind (ev_rtwo (by omega) (by omega)) (Tl.neg ht Tl.now)
      refine Tl.bind e3 (Tl.bind e1 (Tl.bind e2 (Tl.pos rfl (Tl.pos rfl (Tl.bind (ev_SameInts [] (by simp)) (Tl.pos rfl (Tl.succ ?_)))))))
      simp only [diaphonelaw06_LogParts.j0]
      exact Tl.neg (by simp) (Tl.bind e (Tl.neg ht ev_known'))
end Go.Proofs.Ytcbepmdnhjojdaa.Pure
