/- Proved here: for all lists, the blasts of a tone are the document's, and the tone is made again from them; it holds under no condition. -/
import Derived.Test.YtmpmfjnmfgnhcaaBt
import Derived.Test.YtmpmfjnmfgnhcaaPx48
set_option linter.unusedVariables false
namespace Go.Proofs.Ytmpmfjnmfgnhcaa.Pure
open Go.RowKit Go.Proofs.Ytmpmfjnmfgnhcaa.P Go.Proofs.Ytmpmfjnmfgnhcaa.E Go.Proofs.Ytmpmfjnmfgnhcaa.Va Go.Proofs.Ytmpmfjnmfgnhcaa.Pe Go.Proofs.Ytmpmfjnmfgnhcaa.Nm Go.Proofs.Ytmpmfjnmfgnhcaa.Sm Go.Proofs.Ytmpmfjnmfgnhcaa.Bt Go.Proofs.YtmpmfjnmfgnhcaaW.PrintMore
open Go.Proofs.YtmpmfjnmfgnhcaaW.PrintWords
theorem bc_len {t : List Int} (hl : t.length ≤ 1000) : (bc t).1.length ≤ 1000 := by
  unfold bc
  by_cases hk : vc t = 0
  · rw [if_pos hk]
    by_cases c : rd t 0 = 1 ∧ rd t ((t.length : Int) - 1) = 0
    · rw [if_pos c]
      have ok := vc_ok.1 hk
      obtain ⟨m, hm⟩ : ∃ m, t.length = m + 1 := ⟨t.length - 1, by have := ok.1; omega⟩
      obtain ⟨C, r, e1, r1, r2, hC, hlen, hex, hla⟩ := rn_inv ok c.1 m (by omega)
      rw [← hm] at e1
      show (rn t t.length).length ≤ 1000
      rw [e1]; simp; omega
    · rw [if_neg c]; simp
  · rw [if_neg hk]; simp
theorem ToneBlasts : ∀ (x0 : List Int), ((∀ y ∈ x0, (Lit.int .i64 y).wf = true) ∧ x0.length ≤ maxLen) → ∃ k, diaphonelaw01_ToneBlasts.f k x0 = some true := by
  intro t _
  refine Tl.ex (g := fun k => diaphonelaw01_ToneBlasts.f k t) ?_
  unfold diaphonelaw01_ToneBlasts.f
  refine by_long (fun hl => ?_)
  have hb := bc_len (t := t) (by omega)
  refine Tl.bind (ev_Blasts (by omega)) (Tl.bind (ev_rBlasts (by omega)) (Tl.bind (ev_SameInts _ hb) (Tl.pos rfl (Tl.succ ?_))))
  simp only [diaphonelaw01_ToneBlasts.j0]
  refine Tl.neg (by simp) (Tl.bind (ev_FromBlasts hb) ?_)
  by_cases c : (bc t).2 = 0
  · refine Tl.pos c ?_
    have e : fc (bc t).1 = (t, 0) := by
      unfold bc at c ⊢
      by_cases hk : vc t = 0
      · rw [if_pos hk] at c ⊢
        by_cases c1 : rd t 0 = 1 ∧ rd t ((t.length : Int) - 1) = 0
        · rw [if_pos c1]
          exact back (vc_ok.1 hk) c1.1 c1.2
        · rw [if_neg c1] at c
          exact absurd c (by omega)
      · rw [if_neg hk] at c
        exact absurd c hk
    rw [e]
    exact Tl.pos rfl (Tl.bind (ev_SameInts t (by omega)) (Tl.pos rfl ev_known'))
  · exact Tl.neg c ev_known'
end Go.Proofs.Ytmpmfjnmfgnhcaa.Pure
