/- Hours that there are. -/
import Derived.Test.YtgdhbeccpicdcaaBe
import Derived.Test.YtgdhbeccpicdcaaBl
import Derived.Test.YtgdhbeccpicdcaaPx37
import Derived.Test.YtgdhbeccpicdcaaPx45
set_option linter.unusedVariables false
namespace Go.Proofs.Ytgdhbeccpicdcaa.Me
open Go.RowKit Go.Proofs.Ytgdhbeccpicdcaa.P Go.Proofs.Ytgdhbeccpicdcaa.E Go.Proofs.Ytgdhbeccpicdcaa.Fr Go.Proofs.Ytgdhbeccpicdcaa.Sd Go.Proofs.Ytgdhbeccpicdcaa.Bl Go.Proofs.Ytgdhbeccpicdcaa.Va Go.Proofs.Ytgdhbeccpicdcaa.Be Go.Proofs.Ytgdhbeccpicdcaa.Kn Go.Proofs.YtgdhbeccpicdcaaW.PrintMore
open Go.Proofs.YtgdhbeccpicdcaaW.PrintWords
def inn (h : List S31) (a : Int) : Prop := 0 ≤ a ∧ a ≤ (h.length : Int) - 1
instance (h : List S31) (a : Int) : Decidable (inn h a) := by unfold inn; infer_instance
theorem within_in {h : List S31} (hl : h.length ≤ 1000) (a : Int) : haze_within.f a 0 (wrap64 ((h.length : Int) - 1)) = some (decide (inn h a)) := by
  rw [within_eq, w64 (by omega) (by omega)]; rfl
theorem rwithin_in {h : List S31} (hl : h.length ≤ 1000) (a : Int) : diaphoneref02_within.f a 0 (wrap64 ((h.length : Int) - 1)) = some (decide (inn h a)) := by
  rw [rwithin_eq, w64 (by omega) (by omega)]; rfl
/-- The first error of readings and hours. -/
def hc (h : List S31) (a b : Int) : Int := if vc h = 0 then (if inn h a ∧ inn h b then 0 else 4) else vc h
theorem ev_hours2 {h : List S31} (hl : h.length ≤ 1000) (a b : Int) : Tl (fun k => haze_hours.f k h [a, b]) (hc h a b) := by
  unfold haze_hours.f hc
  refine Tl.bind (ev_Validate hl) ?_
  by_cases hv : vc h = 0
  · rw [if_pos hv]
    refine Tl.pos hv (Tl.succ ?_)
    simp only [haze_hours.l0]
    refine Tl.pos (by simp) (Tl.pos (by simp) (Tl.pos (by simp) (Tl.bind' (within_in hl _) ?_)))
    rw [show rd [a, b] 0 = a from rfl]
    by_cases ha : inn h a
    · refine Tl.pos (decide_eq_true ha) ?_
      rw [show wrap64 (0 + 1) = 1 by unfold wrap64; omega]
      refine Tl.succ ?_
      simp only [haze_hours.l0]
      refine Tl.pos (by simp) (Tl.pos (by simp) (Tl.pos (by simp) (Tl.bind' (within_in hl _) ?_)))
      rw [show rd [a, b] 1 = b from rfl]
      by_cases hb : inn h b
      · refine Tl.pos (decide_eq_true hb) ?_
        rw [if_pos ⟨ha, hb⟩, show wrap64 (1 + 1) = 2 by unfold wrap64; omega]
        refine Tl.succ ?_
        simp only [haze_hours.l0]
        exact Tl.neg (by simp) Tl.now
      · rw [if_neg (fun q => hb q.2)]
        exact Tl.neg (by simpa using hb) Tl.now
    · rw [if_neg (fun q => ha q.1)]
      exact Tl.neg (by simpa using ha) Tl.now
  · rw [if_neg hv]
    exact Tl.neg hv Tl.now
theorem ev_hours1 {h : List S31} (hl : h.length ≤ 1000) (a : Int) : Tl (fun k => haze_hours.f k h [a]) (hc h a a) := by
  unfold haze_hours.f hc
  refine Tl.bind (ev_Validate hl) ?_
  by_cases hv : vc h = 0
  · rw [if_pos hv]
    refine Tl.pos hv (Tl.succ ?_)
    simp only [haze_hours.l0]
    refine Tl.pos (by simp) (Tl.pos (by simp) (Tl.pos (by simp) (Tl.bind' (within_in hl _) ?_)))
    rw [show rd [a] 0 = a from rfl]
    by_cases ha : inn h a
    · refine Tl.pos (decide_eq_true ha) ?_
      rw [if_pos ⟨ha, ha⟩, show wrap64 (0 + 1) = 1 by unfold wrap64; omega]
      refine Tl.succ ?_
      simp only [haze_hours.l0]
      exact Tl.neg (by simp) Tl.now
    · rw [if_neg (fun q => ha q.1)]
      exact Tl.neg (by simpa using ha) Tl.now
  · rw [if_neg hv]
    exact Tl.neg hv Tl.now
theorem ev_houred {h : List S31} (hl : h.length ≤ 1000) (a b : Int) : Tl (fun k => diaphoneref02_houred.f k h a b) (hc h a b) := by
  unfold diaphoneref02_houred.f
  refine Tl.bind (ev_rValidate hl) ?_
  by_cases hv : vc h = 0
  · by_cases ha : inn h a
    · by_cases hb : inn h b
      · exact Tl.to (Tl.pos hv (Tl.bind' (rwithin_in hl _) (Tl.pos (decide_eq_true ha) (Tl.bind' (rwithin_in hl _) (Tl.pos (decide_eq_true hb) Tl.now))))) (by simp [hc, hv, ha, hb])
      · exact Tl.to (Tl.pos hv (Tl.bind' (rwithin_in hl _) (Tl.pos (decide_eq_true ha) (Tl.bind' (rwithin_in hl _) (Tl.neg (by simpa using hb) Tl.now))))) (by simp [hc, hv, hb])
    · exact Tl.to (Tl.pos hv (Tl.bind' (rwithin_in hl _) (Tl.neg (by simpa using ha) Tl.now))) (by simp [hc, hv, ha])
  · exact Tl.to (Tl.neg hv Tl.now) (by simp [hc, hv])
theorem hc_ok {h : List S31} {a b : Int} (k : hc h a b = 0) : Ok h ∧ inn h a ∧ inn h b := by
  unfold hc at k
  split at k
  · rename_i hv
    split at k
    · rename_i hh
      exact ⟨vc_ok.1 hv, hh⟩
    · cases k
  · rename_i hv
    exact absurd k hv
end Go.Proofs.Ytgdhbeccpicdcaa.Me
