/- Which readings are valid, and what the first tests of all functions answer. -/
import Derived.Test.YtgdhbeccpicdcaaBl
import Derived.Test.YtgdhbeccpicdcaaPx5
import Derived.Test.YtgdhbeccpicdcaaPx13
set_option linter.unusedVariables false
namespace Go.Proofs.Ytgdhbeccpicdcaa.Va
open Go.RowKit Go.Proofs.Ytgdhbeccpicdcaa.P Go.Proofs.Ytgdhbeccpicdcaa.E Go.Proofs.Ytgdhbeccpicdcaa.Bl Go.Proofs.YtgdhbeccpicdcaaW.PrintMore
open Go.Proofs.YtgdhbeccpicdcaaW.PrintWords

theorem within_eq (a b c : Int) : haze_within.f a b c = some (decide (b ≤ a ∧ a ≤ c)) := by
  unfold haze_within.f
  by_cases h : b ≤ a
  · rw [if_pos h]; simp [h]
  · rw [if_neg h]; simp [h]
theorem rwithin_eq (a b c : Int) : diaphoneref02_within.f a b c = some (decide (b ≤ a ∧ a ≤ c)) := by
  unfold diaphoneref02_within.f
  by_cases h : b ≤ a
  · rw [if_pos h]; simp [h]
  · rw [if_neg h]; simp [h]
theorem isReading_eq (a b : Int) : haze_isReading.f a b = some (decide (rok ⟨a, b⟩)) := by
  unfold haze_isReading.f
  simp only [within_eq, Option.bind_some]
  by_cases h : 0 ≤ a ∧ a ≤ 100
  · simp [h, rok]
  · simp only [h, decide_false, Bool.false_eq_true, if_false]
    congr 1
    symm
    rw [decide_eq_false_iff_not]
    rintro ⟨h2, h3, _⟩
    exact h ⟨h2, h3⟩
/-- The first error of readings. -/
def vc (h : List S31) : Int := if 1 ≤ h.length ∧ h.length ≤ 12 then (if h.all (fun r => decide (rok r)) then 0 else 1) else 3
theorem drop_cons {α : Type} {h : List α} {i : Nat} (hi : i < h.length) : h.drop i = h[i] :: h.drop (i + 1) := List.drop_eq_getElem_cons hi
theorem rd31 {h : List S31} {i : Nat} (hi : i < h.length) : rd_T31 h (i : Int) = h[i] := by
  unfold rd_T31
  rw [Int.toNat_natCast, List.getD_eq_getElem?_getD, List.getElem?_eq_getElem hi]; rfl
theorem vloop (h : List S31) (hl : h.length ≤ 1000) (d : Nat) : ∀ i : Nat, i ≤ h.length → h.length - i = d →
    Tl (fun k => haze_Validate.l0 k h (h.length : Int) (i : Int)) (if (h.drop i).all (fun r => decide (rok r)) then 0 else 1) := by
  induction d with
  | zero =>
    intro i hi hd
    obtain rfl : i = h.length := by omega
    refine Tl.succ ?_
    simp only [haze_Validate.l0, List.drop_length, List.all_nil, if_true]
    exact Tl.neg (by omega) Tl.now
  | succ d ih =>
    intro i hi hd
    have hlt : i < h.length := by omega
    refine Tl.succ ?_
    simp only [haze_Validate.l0]
    refine Tl.pos (by omega) (Tl.pos (by omega) (Tl.pos (by omega) (Tl.bind' (isReading_eq _ _) ?_)))
    rw [rd31 hlt, drop_cons hlt, List.all_cons]
    by_cases hr : rok h[i]
    · refine Tl.pos (decide_eq_true hr) ?_
      rw [w64 (by omega) (by omega)]
      have := ih (i + 1) (by omega) (by omega)
      simpa [hr] using this
    · refine Tl.neg (by simpa using hr) ?_
      simp only [hr, decide_false, Bool.false_and, Bool.false_eq_true, if_false]
      exact Tl.now
theorem ev_Validate {h : List S31} (hl : h.length ≤ 1000) : Tl (fun k => haze_Validate.f k h) (vc h) := by
  unfold haze_Validate.f
  refine Tl.bind' (within_eq _ _ _) ?_
  unfold vc
  by_cases hc : 1 ≤ h.length ∧ h.length ≤ 12
  · rw [if_pos hc]
    refine Tl.pos (by simp; omega) ?_
    have := vloop h hl h.length 0 (by omega) (by omega)
    simpa using this
  · rw [if_neg hc]
    exact Tl.neg (by simp; omega) Tl.now
theorem rvloop (h : List S31) (hl : h.length ≤ 1000) (d : Nat) : ∀ i : Nat, i ≤ h.length → h.length - i = d →
    Tl (fun k => diaphoneref02_Validate.l0 k h (i : Int)) (if (h.drop i).all (fun r => decide (rok r)) then 0 else 1) := by
  induction d with
  | zero =>
    intro i hi hd
    obtain rfl : i = h.length := by omega
    refine Tl.succ ?_
    simp only [diaphoneref02_Validate.l0, List.drop_length, List.all_nil, if_true]
    exact Tl.neg (by omega) Tl.now
  | succ d ih =>
    intro i hi hd
    have hlt : i < h.length := by omega
    refine Tl.succ ?_
    simp only [diaphoneref02_Validate.l0]
    refine Tl.pos (by omega) (Tl.pos (by omega) (Tl.bind' (rwithin_eq _ _ _) ?_))
    rw [rd31 hlt, drop_cons hlt, List.all_cons]
    by_cases hr1 : 0 ≤ h[i].f0 ∧ h[i].f0 ≤ 100
    · refine Tl.pos (decide_eq_true hr1) (Tl.bind' (rwithin_eq _ _ _) ?_)
      by_cases hr2 : 1 ≤ h[i].f1 ∧ h[i].f1 ≤ 9
      · refine Tl.pos (decide_eq_true hr2) ?_
        rw [w64 (by omega) (by omega)]
        have := ih (i + 1) (by omega) (by omega)
        have hr : rok h[i] := ⟨hr1.1, hr1.2, hr2.1, hr2.2⟩
        simpa [hr] using this
      · refine Tl.neg (by simpa using hr2) ?_
        have hr : ¬ rok h[i] := fun q => hr2 ⟨q.2.2.1, q.2.2.2⟩
        simp only [hr, decide_false, Bool.false_and, Bool.false_eq_true, if_false]
        exact Tl.now
    · refine Tl.neg (by simpa using hr1) ?_
      have hr : ¬ rok h[i] := fun q => hr1 ⟨q.1, q.2.1⟩
      simp only [hr, decide_false, Bool.false_and, Bool.false_eq_true, if_false]
      exact Tl.now
theorem ev_rValidate {h : List S31} (hl : h.length ≤ 1000) : Tl (fun k => diaphoneref02_Validate.f k h) (vc h) := by
  unfold diaphoneref02_Validate.f
  refine Tl.bind' (rwithin_eq _ _ _) ?_
  unfold vc
  by_cases hc : 1 ≤ h.length ∧ h.length ≤ 12
  · rw [if_pos hc]
    refine Tl.pos (by simp; omega) ?_
    have := rvloop h hl h.length 0 (by omega) (by omega)
    simpa using this
  · rw [if_neg hc]
    exact Tl.neg (by simp; omega) Tl.now
theorem vc_ok {h : List S31} : vc h = 0 ↔ Ok h := by
  unfold vc Ok
  constructor
  · intro hv
    split at hv
    · rename_i hc
      split at hv
      · rename_i ha
        refine ⟨hc.1, hc.2, fun i hi => ?_⟩
        rw [rd31 hi]
        simpa using List.all_eq_true.1 ha h[i] (List.getElem_mem hi)
      · cases hv
    · cases hv
  · rintro ⟨h1, h2, h3⟩
    rw [if_pos ⟨h1, h2⟩, if_pos]
    rw [List.all_eq_true]
    intro r hr
    obtain ⟨i, hi, rfl⟩ := List.getElem_of_mem hr
    have := h3 i hi
    rw [rd31 hi] at this
    simpa using this
end Go.Proofs.Ytgdhbeccpicdcaa.Va
