/- Proved here: for every list, the period, the root and the name are the document's, and the period divides the length; it holds under no condition. -/
import Derived.Test.YtmpmfjnmfgnhcaaNm
import Derived.Test.YtmpmfjnmfgnhcaaPx36
import Derived.Test.YtmpmfjnmfgnhcaaPx37
import Derived.Test.YtmpmfjnmfgnhcaaPx39
import Derived.Test.YtmpmfjnmfgnhcaaPx10
import Derived.Test.YtmpmfjnmfgnhcaaPx10
import Derived.Test.YtmpmfjnmfgnhcaaPx10
import Derived.Test.YtmpmfjnmfgnhcaaPx42
set_option linter.unusedVariables false
namespace Go.Proofs.Ytmpmfjnmfgnhcaa.Pure
open Go.RowKit Go.Proofs.Ytmpmfjnmfgnhcaa.P Go.Proofs.Ytmpmfjnmfgnhcaa.E Go.Proofs.Ytmpmfjnmfgnhcaa.Va Go.Proofs.Ytmpmfjnmfgnhcaa.Pe Go.Proofs.Ytmpmfjnmfgnhcaa.Nm Go.Proofs.YtmpmfjnmfgnhcaaW.PrintMore
open Go.Proofs.YtmpmfjnmfgnhcaaW.PrintWords
theorem TonePeriods : ∀ (x0 : List Int), ((∀ y ∈ x0, (Lit.int .i64 y).wf = true) ∧ x0.length ≤ maxLen) → ∃ k, diaphonelaw01_TonePeriods.f k x0 = some true := by
  intro t _
  refine Tl.ex (g := fun k => diaphonelaw01_TonePeriods.f k t) ?_
  unfold diaphonelaw01_TonePeriods.f
  refine by_long (fun hl => ?_)
  have v1 := ev_Validate (t := t) (by omega)
  have v2 := ev_rValidate (t := t) (by omega)
  by_cases hk : vc t = 0
  · have ok := vc_ok.1 hk
    have h0 := ok.1
    obtain ⟨p, hp, hr⟩ := ev_period h0 (show t.length ≤ 1000 by omega)
    have h1 := hp.1
    have h2 := hp.2.1
    obtain ⟨r, hrl, n1, n2⟩ := ev_name h0 (show t.length ≤ 1000 by omega) hp
    have rr := ev_rperiod h0 (show t.length ≤ 1000 by omega) hp
    have e1 : Tl (fun k => tone_Period.f k t) ((p : Int), 0) := by
      unfold tone_Period.f
      exact Tl.bind v1 (Tl.pos hk (Tl.bind hr Tl.now))
    have e2 : Tl (fun k => diaphoneref01_Period.f k t) ((p : Int), 0) := by
      unfold diaphoneref01_Period.f
      exact Tl.bind v2 (Tl.pos hk (Tl.bind rr Tl.now))
    have e3 : Tl (fun k => tone_Root.f k t) (t.take p, 0) := by
      unfold tone_Root.f
      exact Tl.bind v1 (Tl.pos hk (Tl.bind (ev_root h0 (by omega) hp) Tl.now))
    have e4 : Tl (fun k => diaphoneref01_Root.f k t) (t.take p, 0) := by
      unfold diaphoneref01_Root.f
      have := ev_piece h0 (show t.length ≤ 1000 by omega) (f := 0) (by omega) (show p ≤ 1000 by omega)
      rw [pc_take h2] at this
      exact Tl.bind v2 (Tl.pos hk (Tl.bind rr (Tl.bind this Tl.now)))
    have e5 : Tl (fun k => tone_Name.f k t) (r, 0) := by
      unfold tone_Name.f
      exact Tl.bind v1 (Tl.pos hk (Tl.bind n1 Tl.now))
    have e6 : Tl (fun k => diaphoneref01_Name.f k t) (r, 0) := by
      unfold diaphoneref01_Name.f
      exact Tl.bind v2 (Tl.pos hk (Tl.bind n2 Tl.now))
    have hd := per_dvd hp (per_len t)
    exact Tl.bind e1 (Tl.bind e2 (Tl.bind e3 (Tl.bind e4 (Tl.bind e5 (Tl.bind e6 (Tl.pos rfl (Tl.pos rfl (Tl.bind (ev_SameInts (t.take p) (by simp; omega)) (Tl.pos rfl (Tl.pos rfl (Tl.bind (ev_SameInts r (by omega)) (Tl.pos rfl (Tl.pos rfl (Tl.pos rfl (Tl.pos (by show (p : Int) > 0; omega) (Tl.neg (by show ¬ (p : Int) = 0; omega) (Tl.pos (by show (t.length : Int) % (p : Int) = 0; omega) ev_known')))))))))))))))))
  · have e1 : Tl (fun k => tone_Period.f k t) (0, vc t) := by
      unfold tone_Period.f
      exact Tl.bind v1 (Tl.neg hk Tl.now)
    have e2 : Tl (fun k => diaphoneref01_Period.f k t) (0, vc t) := by
      unfold diaphoneref01_Period.f
      exact Tl.bind v2 (Tl.neg hk Tl.now)
    have e3 : Tl (fun k => tone_Root.f k t) ([], vc t) := by
      unfold tone_Root.f
      exact Tl.bind v1 (Tl.neg hk Tl.now)
    have e4 : Tl (fun k => diaphoneref01_Root.f k t) ([], vc t) := by
      unfold diaphoneref01_Root.f
      exact Tl.bind v2 (Tl.neg hk Tl.now)
    have e5 : Tl (fun k => tone_Name.f k t) ([], vc t) := by
      unfold tone_Name.f
      exact Tl.bind v1 (Tl.neg hk Tl.now)
    have e6 : Tl (fun k => diaphoneref01_Name.f k t) ([], vc t) := by
      unfold diaphoneref01_Name.f
      exact Tl.bind v2 (Tl.neg hk Tl.now)
    exact Tl.bind e1 (Tl.bind e2 (Tl.bind e3 (Tl.bind e4 (Tl.bind e5 (Tl.bind e6 (Tl.pos rfl (Tl.pos rfl (Tl.bind (ev_SameInts [] (by simp)) (Tl.pos rfl (Tl.pos rfl (Tl.bind (ev_SameInts [] (by simp)) (Tl.pos rfl (Tl.pos rfl (Tl.neg hk ev_known'))))))))))))))
end Go.Proofs.Ytmpmfjnmfgnhcaa.Pure
