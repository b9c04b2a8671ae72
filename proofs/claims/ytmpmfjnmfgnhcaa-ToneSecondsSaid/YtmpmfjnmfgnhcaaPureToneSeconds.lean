/- Proved here: for every list and number, which lists are tones and each second of them is as the document says, and a second comes again after the period; it holds under no condition. -/
import Derived.Test.YtmpmfjnmfgnhcaaPe
import Derived.Test.YtmpmfjnmfgnhcaaPx8
import Derived.Test.YtmpmfjnmfgnhcaaPx9
import Derived.Test.YtmpmfjnmfgnhcaaPx36
import Derived.Test.YtmpmfjnmfgnhcaaPx41
set_option linter.unusedVariables false
namespace Go.Proofs.Ytmpmfjnmfgnhcaa.Pure
open Go.RowKit Go.Proofs.Ytmpmfjnmfgnhcaa.P Go.Proofs.Ytmpmfjnmfgnhcaa.E Go.Proofs.Ytmpmfjnmfgnhcaa.Va Go.Proofs.Ytmpmfjnmfgnhcaa.Pe Go.Proofs.YtmpmfjnmfgnhcaaW.PrintMore
open Go.Proofs.YtmpmfjnmfgnhcaaW.PrintWords
namespace Sec
def at2 (t : List Int) (i : Int) : Int × Int := if vc t = 0 then (sec t i, 0) else (0, vc t)
theorem ev_At {t : List Int} (hl : t.length ≤ 1000) (i : Int) : Tl (fun k => tone_At.f k t i) (at2 t i) := by
  unfold tone_At.f
  refine Tl.bind (ev_Validate hl) ?_
  by_cases hk : vc t = 0
  · exact Tl.to (Tl.pos hk (Tl.bind' (at_eq (vc_ok.1 hk).1 hl i) Tl.now)) (by simp only [at2, if_pos hk])
  · exact Tl.to (Tl.neg hk Tl.now) (by simp only [at2, if_neg hk])
theorem ev_rAt {t : List Int} (hl : t.length ≤ 1000) (i : Int) : Tl (fun k => diaphoneref01_At.f k t i) (at2 t i) := by
  unfold diaphoneref01_At.f
  refine Tl.bind (ev_rValidate hl) ?_
  by_cases hk : vc t = 0
  · exact Tl.to (Tl.pos hk (Tl.bind' (rat_eq (vc_ok.1 hk).1 hl i) Tl.now)) (by simp only [at2, if_pos hk])
  · exact Tl.to (Tl.neg hk Tl.now) (by simp only [at2, if_neg hk])
end Sec
open Sec
theorem ToneSeconds : ∀ (x0 : List Int) (x1 : Int), ((∀ y ∈ x0, (Lit.int .i64 y).wf = true) ∧ x0.length ≤ maxLen) → ((Lit.int .i64 x1).wf = true) → ∃ k, diaphonelaw01_ToneSeconds.f k x0 x1 = some true := by
  intro t i _ _
  refine Tl.ex (g := fun k => diaphonelaw01_ToneSeconds.f k t i) ?_
  unfold diaphonelaw01_ToneSeconds.f
  refine by_long (fun hl => ?_)
  refine Tl.bind (ev_At (by omega) i) (Tl.bind (ev_rAt (by omega) i) (Tl.bind (ev_Validate (by omega)) (Tl.bind (ev_rValidate (by omega)) (Tl.pos rfl (Tl.pos rfl (Tl.succ ?_))))))
  simp only [diaphonelaw01_ToneSeconds.j0]
  refine Tl.neg (by simp) ?_
  by_cases hk : vc t = 0
  · have ok := vc_ok.1 hk
    have hlen := ok.2.1
    obtain ⟨p, hp, hr⟩ := ev_period ok.1 (show t.length ≤ 1000 by omega)
    have h1 := hp.1
    have h2 := hp.2.1
    have e : at2 t i = (sec t i, 0) := by simp only [at2, if_pos hk]
    have eP : Tl (fun k => tone_Period.f k t) ((p : Int), 0) := by
      unfold tone_Period.f
      exact Tl.bind (ev_Validate (by omega)) (Tl.pos hk (Tl.bind hr Tl.now))
    rw [e]
    refine Tl.bind eP (Tl.pos rfl ?_)
    by_cases c1 : i > 1099511627776
    · refine Tl.pos c1 (Tl.succ ?_)
      simp only [diaphonelaw01_ToneSeconds.j1]
      exact Tl.pos trivial ev_known'
    refine Tl.neg c1 (Tl.succ ?_)
    simp only [diaphonelaw01_ToneSeconds.j1]
    by_cases c2 : i < -1099511627776
    · exact Tl.pos (decide_eq_true c2) ev_known'
    · have e2 : at2 t (i + p) = (sec t i, 0) := by simp only [at2, if_pos hk]; rw [hp.2.2.1 i]
      have ea := ev_At (t := t) (by omega) (i + p)
      rw [e2] at ea
      refine Tl.neg (by simpa using c2) ?_
      rw [w64 (x := i + (p : Int)) (by omega) (by omega)]
      exact Tl.bind ea (Tl.pos trivial (Tl.pos rfl (Tl.pos (by omega) (Tl.pos rfl ev_known'))))
  · have e : at2 t i = (0, vc t) := by simp only [at2, if_neg hk]
    have eP : Tl (fun k => tone_Period.f k t) (0, vc t) := by
      unfold tone_Period.f
      exact Tl.bind (ev_Validate (by omega)) (Tl.neg hk Tl.now)
    rw [e]
    refine Tl.bind eP (Tl.neg hk (Tl.succ ?_))
    simp only [diaphonelaw01_ToneSeconds.j1]
    exact Tl.pos trivial ev_known'
end Go.Proofs.Ytmpmfjnmfgnhcaa.Pure
