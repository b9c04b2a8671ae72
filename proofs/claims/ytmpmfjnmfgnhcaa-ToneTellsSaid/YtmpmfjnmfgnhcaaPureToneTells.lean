/- Proved here: for all lists and pieces, which tones of a list have a piece is the document's answer; it holds under no condition. -/
import Derived.Test.YtmpmfjnmfgnhcaaFl
import Derived.Test.YtmpmfjnmfgnhcaaPx58
set_option linter.unusedVariables false
namespace Go.Proofs.Ytmpmfjnmfgnhcaa.Pure
open Go.RowKit Go.Proofs.Ytmpmfjnmfgnhcaa.P Go.Proofs.Ytmpmfjnmfgnhcaa.E Go.Proofs.Ytmpmfjnmfgnhcaa.Va Go.Proofs.Ytmpmfjnmfgnhcaa.Sm Go.Proofs.Ytmpmfjnmfgnhcaa.Fl Go.Proofs.YtmpmfjnmfgnhcaaW.PrintMore
open Go.Proofs.YtmpmfjnmfgnhcaaW.PrintWords
theorem ToneTells : ∀ (x0 : List (List Int)) (x1 : List Int), ((∀ y ∈ x0, (∀ z ∈ y, (Lit.int .i64 z).wf = true) ∧ y.length ≤ maxLen) ∧ x0.length ≤ maxLen) → ((∀ y ∈ x1, (Lit.int .i64 y).wf = true) ∧ x1.length ≤ maxLen) → ∃ k, diaphonelaw01_ToneTells.f k x0 x1 = some true := by
  intro l x _ _
  refine Tl.ex (g := fun k => diaphonelaw01_ToneTells.f k l x) ?_
  unfold diaphonelaw01_ToneTells.f
  have j0t : Tl (fun k => diaphonelaw01_ToneTells.j0 k l x true) true := by
    refine Tl.succ ?_
    simp only [diaphonelaw01_ToneTells.j0]
    exact Tl.pos trivial ev_known'
  obtain ⟨b, hb, tb⟩ := ev_Many l
  refine Tl.bind tb ?_
  cases b with
  | true => exact Tl.pos rfl j0t
  | false =>
    have hs := hb rfl
    refine Tl.neg (by simp) ?_
    unfold diaphonelaw01_Long.f
    by_cases c : (x.length : Int) > 200
    · exact Tl.bind' (congrArg some (decide_eq_true c)) j0t
    · refine Tl.bind' (congrArg some (decide_eq_false c)) (Tl.succ ?_)
      simp only [diaphonelaw01_ToneTells.j0]
      obtain ⟨r, hr, _, r1, r2⟩ := ev_Tell hs (x := x) (by omega)
      exact Tl.neg (by simp) (Tl.bind r1 (Tl.bind r2 (Tl.bind (ev_SameInts r.1 hr) (Tl.pos rfl (Tl.pos rfl ev_known')))))
end Go.Proofs.Ytmpmfjnmfgnhcaa.Pure
