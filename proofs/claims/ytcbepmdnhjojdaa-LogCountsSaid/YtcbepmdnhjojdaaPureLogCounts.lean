/- Proved here: for all logs and costs, so many comparisons have the smallest cost as the document says; it holds under no condition. -/
import Derived.Test.YtcbepmdnhjojdaaEn
import Derived.Test.YtcbepmdnhjojdaaPx43
set_option linter.unusedVariables false
namespace Go.Proofs.Ytcbepmdnhjojdaa.Pure
open Go.RowKit Go.Proofs.Ytcbepmdnhjojdaa.P Go.Proofs.Ytcbepmdnhjojdaa.E Go.Proofs.Ytcbepmdnhjojdaa.Al Go.Proofs.Ytcbepmdnhjojdaa.Lo Go.Proofs.Ytcbepmdnhjojdaa.Lr Go.Proofs.Ytcbepmdnhjojdaa.Cn Go.Proofs.Ytcbepmdnhjojdaa.Cq Go.Proofs.Ytcbepmdnhjojdaa.En Go.Proofs.YtcbepmdnhjojdaaW.PrintMore
open Go.Proofs.YtcbepmdnhjojdaaW.PrintWords
namespace Cou
theorem ev_rCount {l m : List Int} {o i c n : Int} (hl : l.length ≤ 1000) (hm : m.length ≤ 1000) (hn : kc l m o i c = 0 → ∃ d, Bst (Dn l.length m.length) (uc o i (gp l m c) l.length m.length) d n) : Tl (fun k => diaphoneref06_Count.f k l m o i c) (if kc l m o i c = 0 then n else 0, kc l m o i c) := by
  unfold diaphoneref06_Count.f
  by_cases h : kc l m o i c = 0
  · obtain ⟨h1, h2, h3⟩ := kc_zero.1 h
    have g3 := cc_zero.1 h3
    obtain ⟨d, hd⟩ := hn h
    obtain ⟨r, ⟨s1, s2, hok⟩, t⟩ := ev_ends (l := l) (m := m) (o := o) (i := i) (c := c) (lc_zero.1 h1).1 (lc_zero.1 h2).1 ⟨by omega, by omega⟩ ⟨by omega, by omega⟩ ⟨by omega, by omega⟩
    have h0 := (hok 0 0 (by omega) (by omega)).2
    simp only [Int.ofNat_zero, Int.natCast_zero, Int.sub_zero] at h0
    have e := ((bst_rev h0).unique hd).2
    have l1 := s2.len
    have l2 := s2.row 0 (by omega)
    refine Tl.bind (ev_costed hl hm) (Tl.pos h (Tl.bind t (Tl.pos (by rw [l1]; omega) (Tl.pos (by rw [show (0 : Int) = ((0 : Nat) : Int) from rfl, l2]; omega) (Tl.to Tl.now ?_)))))
    rw [if_pos h, h, ← e]; rfl
  · rw [if_neg h]; exact Tl.bind (ev_costed hl hm) (Tl.neg h Tl.now)
end Cou
theorem LogCounts : ∀ (x0 : S26), (((∀ y ∈ x0.f0, (Lit.int .i64 y).wf = true) ∧ x0.f0.length ≤ maxLen) ∧ ((∀ y ∈ x0.f1, (Lit.int .i64 y).wf = true) ∧ x0.f1.length ≤ maxLen) ∧ (((Lit.int .i64 x0.f2.f0).wf = true) ∧ ((Lit.int .i64 x0.f2.f1).wf = true) ∧ ((Lit.int .i64 x0.f2.f2).wf = true))) → ∃ k, diaphonelaw06_LogCounts.f k x0.f0 x0.f1 x0.f2.f0 x0.f2.f1 x0.f2.f2 = some true := by
  intro x _
  refine Tl.ex (g := fun k => diaphonelaw06_LogCounts.f k x.f0 x.f1 x.f2.f0 x.f2.f1 x.f2.f2) ?_
  unfold diaphonelaw06_LogCounts.f
  refine Tl.bind' (long_eq _ _ _ _ _) ?_
  cases h : lg x.f0 x.f1 with
  | true => exact Tl.pos rfl ev_known'
  | false =>
    obtain ⟨h1, h2⟩ := lg_false h
    obtain ⟨n, hn, e⟩ := ev_Count (l := x.f0) (m := x.f1) (o := x.f2.f0) (i := x.f2.f1) (c := x.f2.f2) (by omega) (by omega)
    exact Tl.neg (by simp) (Tl.bind e (Tl.bind (Cou.ev_rCount (by omega) (by omega) hn) (Tl.pos rfl (Tl.pos rfl ev_known'))))
end Go.Proofs.Ytcbepmdnhjojdaa.Pure
