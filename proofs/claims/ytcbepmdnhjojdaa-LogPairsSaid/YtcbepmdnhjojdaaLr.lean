/- The document's words for logs and costs; lists compared; a log turned round. -/
import Derived.Test.YtcbepmdnhjojdaaLo
import Derived.Test.YtcbepmdnhjojdaaPx7
import Derived.Test.YtcbepmdnhjojdaaPx9
set_option linter.unusedVariables false
namespace Go.Proofs.Ytcbepmdnhjojdaa.Lr
open Go.RowKit Go.Proofs.Ytcbepmdnhjojdaa.P Go.Proofs.Ytcbepmdnhjojdaa.E Go.Proofs.Ytcbepmdnhjojdaa.Al Go.Proofs.Ytcbepmdnhjojdaa.Lo Go.Proofs.YtcbepmdnhjojdaaW.PrintMore
open Go.Proofs.YtcbepmdnhjojdaaW.PrintWords
theorem rwithin_eq (a b c : Int) : diaphoneref06_within.f a b c = some (decide (b ≤ a ∧ a ≤ c)) := by
  unfold diaphoneref06_within.f
  by_cases h : a ≥ b
  · rw [if_pos h]; congr 1; exact decide_eq_decide.2 ⟨fun q => ⟨h, q⟩, fun q => q.2⟩
  · rw [if_neg h]; congr 1; exact (decide_eq_false (fun q => h q.1)).symm
theorem rvloop (t : List Int) (hl : t.length ≤ 1000) (d : Nat) : ∀ i : Nat, i ≤ t.length → t.length - i = d → Tl (fun k => diaphoneref06_Validate.l0 k t (i : Int)) (if good (t.drop i) = true then 0 else 1) := by
  induction d with
  | zero =>
    intro i h1 h2
    refine Tl.succ ?_
    simp only [diaphoneref06_Validate.l0]
    refine Tl.to (Tl.neg (by omega) Tl.now) ?_
    rw [List.drop_eq_nil_of_le (by omega)]; rfl
  | succ d ih =>
    intro i h1 h2
    have next := ih (i + 1) (by omega) (by omega)
    rw [show ((i + 1 : Nat) : Int) = (i : Int) + 1 by omega, ← w64 (x := (i : Int) + 1) (by omega) (by omega)] at next
    refine Tl.succ ?_
    simp only [diaphoneref06_Validate.l0]
    refine Tl.pos (by omega) (Tl.pos (by omega) (Tl.bind' (rwithin_eq _ _ _) ?_))
    rw [good_drop (by omega)]
    by_cases c : 0 ≤ rd t (i : Int) ∧ rd t (i : Int) ≤ 5
    · exact Tl.to (Tl.pos (decide_eq_true c) next) (by simp [c])
    · exact Tl.to (Tl.neg (by simpa using c) Tl.now) (by simp [c])
theorem ev_rValidate {t : List Int} (hl : t.length ≤ 1000) : Tl (fun k => diaphoneref06_Validate.f k t) (lc t) := by
  unfold diaphoneref06_Validate.f
  by_cases h : t.length ≤ 10
  · have := rvloop t hl t.length 0 (by omega) (by omega)
    rw [List.drop_zero] at this
    exact Tl.to (Tl.neg (by omega) this) (by simp [lc, h])
  · exact Tl.to (Tl.pos (by omega) Tl.now) (by simp [lc, h])
theorem rcosts_eq (o i c : Int) : diaphoneref06_ValidateCosts.f o i c = some (cc o i c) := by
  unfold diaphoneref06_ValidateCosts.f cc
  rw [rwithin_eq, Option.bind_some]
  by_cases h1 : 1 ≤ o ∧ o ≤ 9
  · rw [if_pos (decide_eq_true h1), rwithin_eq, Option.bind_some]
    by_cases h2 : 1 ≤ i ∧ i ≤ 9
    · rw [if_pos (decide_eq_true h2), rwithin_eq, Option.bind_some]
      by_cases h3 : 1 ≤ c ∧ c ≤ 9
      · rw [if_pos (decide_eq_true h3), if_pos ⟨h1, h2, h3⟩]
      · rw [if_neg (by simpa using h3), if_neg (fun q => h3 q.2.2)]
    · rw [if_neg (by simpa using h2), if_neg (fun q => h2 q.2.1)]
  · rw [if_neg (by simpa using h1), if_neg (fun q => h1 q.1)]
theorem ev_costed {l m : List Int} {o i c : Int} (hl : l.length ≤ 1000) (hm : m.length ≤ 1000) : Tl (fun k => diaphoneref06_costed.f k l m o i c) (kc l m o i c) := by
  unfold diaphoneref06_costed.f diaphoneref06_two.f kc
  by_cases h : lc l = 0
  · rw [if_pos h]
    by_cases h2 : lc m = 0
    · rw [if_pos h2]
      exact Tl.bind (Tl.bind (ev_rValidate hl) (Tl.pos h (Tl.bind (ev_rValidate hm) Tl.now))) (Tl.pos h2 (Tl.bind' (rcosts_eq o i c) Tl.now))
    · rw [if_neg h2]
      exact Tl.bind (Tl.bind (ev_rValidate hl) (Tl.pos h (Tl.bind (ev_rValidate hm) Tl.now))) (Tl.neg h2 Tl.now)
  · rw [if_neg h]
    exact Tl.bind (Tl.bind (ev_rValidate hl) (Tl.neg h Tl.now)) (Tl.neg h Tl.now)
theorem same_loop (l : List Int) (hl : l.length ≤ 1000) (d : Nat) : ∀ i : Nat, i ≤ l.length → l.length - i = d → Tl (fun k => diaphoneref01_SameInts.l0 k l l (i : Int)) true := by
  induction d with
  | zero =>
    intro i h1 h2
    refine Tl.succ ?_
    simp only [diaphoneref01_SameInts.l0]
    exact Tl.neg (by omega) Tl.now
  | succ d ih =>
    intro i h1 h2
    have next := ih (i + 1) (by omega) (by omega)
    rw [show ((i + 1 : Nat) : Int) = (i : Int) + 1 by omega, ← w64 (x := (i : Int) + 1) (by omega) (by omega)] at next
    refine Tl.succ ?_
    simp only [diaphoneref01_SameInts.l0]
    exact Tl.pos (by omega) (Tl.pos (by omega) (Tl.pos (by omega) (Tl.pos trivial next)))
theorem ev_SameInts (l : List Int) (hl : l.length ≤ 1000) : Tl (fun k => diaphoneref01_SameInts.f k l l) true := by
  unfold diaphoneref01_SameInts.f
  exact Tl.pos rfl (same_loop l hl l.length 0 (by omega) (by omega))
theorem clone_eq {t : List Int} (h : t.length ≤ 1000) : slices_Clone_int_int.f t = some t := by
  unfold slices_Clone_int_int.f
  rw [if_pos (by omega)]
theorem good_mem {l : List Int} : good l = true ↔ ∀ x ∈ l, 0 ≤ x ∧ x ≤ 5 := by
  unfold good
  rw [List.all_eq_true]
  exact ⟨fun h x hx => by simpa using h x hx, fun h x hx => by simpa using h x hx⟩
theorem lc_rev (l : List Int) : lc l.reverse = lc l := by
  unfold lc good
  rw [List.length_reverse, List.all_reverse]
end Go.Proofs.Ytcbepmdnhjojdaa.Lr
