/- Proved here: for all lists, the tone with given blasts is the document's, and it has these blasts; it holds under no condition. -/
import Derived.Test.YtmpmfjnmfgnhcaaBt
import Derived.Test.YtmpmfjnmfgnhcaaPx49
set_option linter.unusedVariables false
namespace Go.Proofs.Ytmpmfjnmfgnhcaa.Pure
open Go.RowKit Go.Proofs.Ytmpmfjnmfgnhcaa.P Go.Proofs.Ytmpmfjnmfgnhcaa.E Go.Proofs.Ytmpmfjnmfgnhcaa.Va Go.Proofs.Ytmpmfjnmfgnhcaa.Pe Go.Proofs.Ytmpmfjnmfgnhcaa.Nm Go.Proofs.Ytmpmfjnmfgnhcaa.Sm Go.Proofs.Ytmpmfjnmfgnhcaa.Bt Go.Proofs.YtmpmfjnmfgnhcaaW.PrintMore
open Go.Proofs.YtmpmfjnmfgnhcaaW.PrintWords
theorem fc_len (l : List Int) : (fc l).1.length ≤ 1000 := by
  unfold fc
  by_cases c : 2 ≤ l.length ∧ l.length % 2 = 0 ∧ inb l = true
  · rw [if_pos c]
    by_cases c2 : (ex 0 l).length ≤ 24
    · rw [if_pos c2]; show (ex 0 l).length ≤ 1000; omega
    · rw [if_neg c2]; simp
  · rw [if_neg c]; simp
theorem ToneMakes : ∀ (x0 : List Int), ((∀ y ∈ x0, (Lit.int .i64 y).wf = true) ∧ x0.length ≤ maxLen) → ∃ k, diaphonelaw01_ToneMakes.f k x0 = some true := by
  intro l _
  refine Tl.ex (g := fun k => diaphonelaw01_ToneMakes.f k l) ?_
  unfold diaphonelaw01_ToneMakes.f
  refine by_long (fun hl => ?_)
  have hb := fc_len l
  refine Tl.bind (ev_FromBlasts (by omega)) (Tl.bind (ev_rFromBlasts (by omega)) (Tl.bind (ev_SameInts _ hb) (Tl.pos rfl (Tl.succ ?_))))
  simp only [diaphonelaw01_ToneMakes.j0]
  refine Tl.neg (by simp) (Tl.bind (ev_Blasts hb) ?_)
  by_cases c : (fc l).2 = 0
  · refine Tl.pos c ?_
    have e : bc (fc l).1 = (l, 0) := by
      unfold fc at c ⊢
      by_cases h2 : 2 ≤ l.length ∧ l.length % 2 = 0 ∧ inb l = true
      · rw [if_pos h2] at c ⊢
        by_cases c2 : (ex 0 l).length ≤ 24
        · rw [if_pos c2]
          exact forth h2 c2
        · rw [if_neg c2] at c
          exact absurd c (by omega)
      · rw [if_neg h2] at c
        exact absurd c (by omega)
    rw [e]
    exact Tl.pos rfl (Tl.bind (ev_SameInts l (by omega)) (Tl.pos rfl ev_known'))
  · exact Tl.neg c ev_known'
end Go.Proofs.Ytmpmfjnmfgnhcaa.Pure
