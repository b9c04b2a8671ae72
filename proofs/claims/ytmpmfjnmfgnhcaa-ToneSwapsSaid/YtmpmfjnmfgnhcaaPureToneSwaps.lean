/- Proved here: for all lists, a tone with sound and silence exchanged, and one that is turned round, are the document's, and neither changes the period; it holds under no condition. -/
import Derived.Test.YtmpmfjnmfgnhcaaSw
import Derived.Test.YtmpmfjnmfgnhcaaPx46
set_option linter.unusedVariables false
namespace Go.Proofs.Ytmpmfjnmfgnhcaa.Pure
open Go.RowKit Go.Proofs.Ytmpmfjnmfgnhcaa.P Go.Proofs.Ytmpmfjnmfgnhcaa.E Go.Proofs.Ytmpmfjnmfgnhcaa.Va Go.Proofs.Ytmpmfjnmfgnhcaa.Pe Go.Proofs.Ytmpmfjnmfgnhcaa.Nm Go.Proofs.Ytmpmfjnmfgnhcaa.Tn Go.Proofs.Ytmpmfjnmfgnhcaa.Sm Go.Proofs.Ytmpmfjnmfgnhcaa.Sw Go.Proofs.YtmpmfjnmfgnhcaaW.PrintMore
open Go.Proofs.YtmpmfjnmfgnhcaaW.PrintWords
theorem ToneSwaps : ∀ (x0 : List Int), ((∀ y ∈ x0, (Lit.int .i64 y).wf = true) ∧ x0.length ≤ maxLen) → ∃ k, diaphonelaw01_ToneSwaps.f k x0 = some true := by
  intro t _
  refine Tl.ex (g := fun k => diaphonelaw01_ToneSwaps.f k t) ?_
  unfold diaphonelaw01_ToneSwaps.f
  refine by_long (fun hl => ?_)
  have v1 := ev_Validate (t := t) (by omega)
  have v2 := ev_rValidate (t := t) (by omega)
  by_cases hk : vc t = 0
  · have ok := vc_ok.1 hk
    have h0 := ok.1
    have e1 : Tl (fun k => tone_Swap.f k t) (sw t, 0) := by
      unfold tone_Swap.f
      have := sw_loop ok t.length 0 (by omega) (by omega)
      simp only [List.take_zero, List.drop_zero, List.nil_append] at this
      exact Tl.bind v1 (Tl.pos hk (Tl.bind' (clone_eq (by omega)) this))
    have e2 : Tl (fun k => diaphoneref01_Swap.f k t) (sw t, 0) := by
      unfold diaphoneref01_Swap.f
      exact Tl.bind v2 (Tl.pos hk (rsw_loop ok t.length 0 (by omega) (by omega)))
    have e3 : Tl (fun k => tone_Back.f k t) (t.reverse, 0) := by
      unfold tone_Back.f
      exact Tl.bind v1 (Tl.pos hk (Tl.bind' (clone_eq (by omega)) (Tl.bind (ev_rev t (by omega)) Tl.now)))
    have e4 : Tl (fun k => diaphoneref01_Back.f k t) (t.reverse, 0) := by
      unfold diaphoneref01_Back.f
      have := rback_loop ok t.length 0 (by omega) (by omega)
      rw [w64 (by omega) (by omega)]
      simp only [List.take_zero] at this
      rw [show (t.length : Int) - 1 - ((0 : Nat) : Int) = (t.length : Int) - 1 by omega] at this
      exact Tl.bind v2 (Tl.pos hk this)
    obtain ⟨p, hp, _⟩ := ev_period h0 (show t.length ≤ 1000 by omega)
    have q1 := ev_Period ok hp
    have q2 := ev_Period (ok_sw ok) (isper_congr (sw_length t) (per_sw h0) hp)
    have q3 := ev_Period (ok_rev ok) (isper_congr (by simp) (per_rev h0) hp)
    refine Tl.bind e1 (Tl.bind e2 (Tl.bind e3 (Tl.bind e4 (Tl.bind (ev_SameInts (sw t) (by rw [sw_length]; omega)) (Tl.pos rfl (Tl.pos rfl (Tl.bind (ev_SameInts t.reverse (by simp; omega)) (Tl.pos rfl (Tl.succ ?_)))))))))
    simp only [diaphonelaw01_ToneSwaps.j0]
    exact Tl.neg (by simp) (Tl.bind q1 (Tl.bind q2 (Tl.bind q3 (Tl.pos trivial (Tl.pos rfl (Tl.pos rfl (Tl.pos rfl (Tl.pos rfl (Tl.pos rfl ev_known')))))))))
  · have e1 : Tl (fun k => tone_Swap.f k t) ([], vc t) := by
      unfold tone_Swap.f
      exact Tl.bind v1 (Tl.neg hk Tl.now)
    have e2 : Tl (fun k => diaphoneref01_Swap.f k t) ([], vc t) := by
      unfold diaphoneref01_Swap.f
      exact Tl.bind v2 (Tl.neg hk Tl.now)
    have e3 : Tl (fun k => tone_Back.f k t) ([], vc t) := by
      unfold tone_Back.f
      exact Tl.bind v1 (Tl.neg hk Tl.now)
    have e4 : Tl (fun k => diaphoneref01_Back.f k t) ([], vc t) := by
      unfold diaphoneref01_Back.f
      exact Tl.bind v2 (Tl.neg hk Tl.now)
    have q1 := ev_Period_no (t := t) (by omega) hk
    have q2 := ev_Period_no (t := []) (by simp) (by simp [vc])
    refine Tl.bind e1 (Tl.bind e2 (Tl.bind e3 (Tl.bind e4 (Tl.bind (ev_SameInts [] (by simp)) (Tl.pos rfl (Tl.pos rfl (Tl.bind (ev_SameInts [] (by simp)) (Tl.pos rfl (Tl.succ ?_)))))))))
    simp only [diaphonelaw01_ToneSwaps.j0]
    exact Tl.neg (by simp) (Tl.bind q1 (Tl.bind q2 (Tl.bind q2 (Tl.neg hk ev_known'))))
end Go.Proofs.Ytmpmfjnmfgnhcaa.Pure
