/- Where a sign is first; which lists are part of a log. -/
import Derived.Test.YtcbepmdnhjojdaaLr
import Derived.Test.YtcbepmdnhjojdaaPx22
import Derived.Test.YtcbepmdnhjojdaaPx25
set_option linter.unusedVariables false
namespace Go.Proofs.Ytcbepmdnhjojdaa.Re
open Go.RowKit Go.Proofs.Ytcbepmdnhjojdaa.P Go.Proofs.Ytcbepmdnhjojdaa.E Go.Proofs.Ytcbepmdnhjojdaa.Al Go.Proofs.Ytcbepmdnhjojdaa.Lo Go.Proofs.Ytcbepmdnhjojdaa.Lr Go.Proofs.YtcbepmdnhjojdaaW.PrintMore
open Go.Proofs.YtcbepmdnhjojdaaW.PrintWords
/-- The place of the first s, counted from b on; -1 if there is none. -/
def fx (s : Int) : List Int → Int → Int
  | [], _ => -1
  | a :: t, b => if s = a then b else fx s t (b + 1)
theorem fx_spec (s : Int) : ∀ (l : List Int) (b : Int), (fx s l b = -1 ∧ s ∉ l) ∨ ∃ n : Nat, n < l.length ∧ fx s l b = b + n ∧ l[n]? = some s ∧ ∀ j, j < n → l[j]? ≠ some s
  | [], b => .inl ⟨rfl, by simp⟩
  | a :: t, b => by
    rw [fx]
    by_cases h : s = a
    · rw [if_pos h]
      exact .inr ⟨0, by simp, by simp, by simp [h], fun j hj => by omega⟩
    · rw [if_neg h]
      rcases fx_spec s t (b + 1) with ⟨h1, h2⟩ | ⟨n, h1, h2, h3, h4⟩
      · exact .inl ⟨h1, by simp [h, h2]⟩
      · refine .inr ⟨n + 1, by simp; omega, by rw [h2]; omega, by simpa using h3, fun j hj => ?_⟩
        cases j with
        | zero => simp; exact fun e => h e.symm
        | succ j => simpa using h4 j (by omega)
theorem fx_nonneg {s : Int} {l : List Int} {b : Int} (hb : 0 ≤ b) : 0 ≤ fx s l b ↔ s ∈ l := by
  rcases fx_spec s l b with ⟨h1, h2⟩ | ⟨n, h1, h2, h3, h4⟩
  · exact ⟨fun q => by omega, fun q => absurd q h2⟩
  · exact ⟨fun _ => List.mem_of_getElem? h3, fun _ => by omega⟩
theorem ix_loop (l : List Int) (s : Int) (hl : l.length ≤ 1000) (d : Nat) : ∀ i : Nat, i ≤ l.length → l.length - i = d → Tl (fun k => slices_Index_int_int.l0 k l s (l.length : Int) (i : Int)) (fx s (l.drop i) (i : Int)) := by
  induction d with
  | zero =>
    intro i h1 h2
    refine Tl.succ ?_
    simp only [slices_Index_int_int.l0]
    rw [List.drop_eq_nil_of_le (by omega)]
    exact Tl.neg (by omega) Tl.now
  | succ d ih =>
    intro i h1 h2
    have next := ih (i + 1) (by omega) (by omega)
    rw [show ((i + 1 : Nat) : Int) = (i : Int) + 1 by omega] at next
    refine Tl.succ ?_
    simp only [slices_Index_int_int.l0]
    rw [w64 (x := (i : Int) + 1) (by omega) (by omega), drop_cons (show i < l.length by omega), fx, ← rd_lt (show i < l.length by omega)]
    refine Tl.pos (by omega) (Tl.pos (by omega) (Tl.pos (by omega) ?_))
    exact Tl.ite (fun _ => Tl.now) (fun _ => next)
theorem ev_Index (l : List Int) (s : Int) (hl : l.length ≤ 1000) : Tl (fun k => slices_Index_int_int.f k l s) (fx s l 0) := by
  unfold slices_Index_int_int.f
  have := ix_loop l s hl l.length 0 (by omega) (by omega)
  rwa [List.drop_zero] at this
/-- The document's test: a list is part of another one. -/
theorem in_loop (p l : List Int) (hp : p.length ≤ 1000) (hl : l.length ≤ 1000) (d : Nat) : ∀ i j : Nat, i ≤ l.length → j ≤ p.length → l.length - i = d → Tl (fun k => diaphoneref06_in.l0 k p l (j : Int) (i : Int)) ((p.drop j).isSublist (l.drop i)) := by
  induction d with
  | zero =>
    intro i j h1 h2 h3
    refine Tl.succ ?_
    simp only [diaphoneref06_in.l0]
    refine Tl.neg (by omega) (Tl.succ ?_)
    simp only [diaphoneref06_in.j1]
    refine Tl.to (Tl.neg (by simp) Tl.now) ?_
    rw [List.drop_eq_nil_of_le (show l.length ≤ i by omega)]
    by_cases hj : j < p.length
    · rw [drop_cons hj]
      simp [List.isSublist]; omega
    · rw [List.drop_eq_nil_of_le (show p.length ≤ j by omega)]
      simp [List.isSublist]; omega
  | succ d ih =>
    intro i j h1 h2 h3
    have hi : i < l.length := by omega
    refine Tl.succ ?_
    simp only [diaphoneref06_in.l0]
    refine Tl.pos (by omega) (Tl.succ ?_)
    simp only [diaphoneref06_in.j1]
    by_cases hj : j < p.length
    · refine Tl.pos (by simp; omega) (Tl.pos (by omega) (Tl.pos (by omega) (Tl.pos (by omega) (Tl.pos (by omega) ?_))))
      rw [w64 (x := (i : Int) + 1) (by omega) (by omega), w64 (x := (j : Int) + 1) (by omega) (by omega)]
      by_cases e : rd l (i : Int) = rd p (j : Int)
      · have next := ih (i + 1) (j + 1) (by omega) (by omega) (by omega)
        rw [show ((i + 1 : Nat) : Int) = (i : Int) + 1 by omega, show ((j + 1 : Nat) : Int) = (j : Int) + 1 by omega] at next
        refine Tl.to (Tl.pos e next) ?_
        rw [drop_cons hi, drop_cons hj, List.isSublist]
        rw [rd_lt hi, rd_lt hj] at e
        simp [e]
      · have next := ih (i + 1) j (by omega) (by omega) (by omega)
        rw [show ((i + 1 : Nat) : Int) = (i : Int) + 1 by omega] at next
        refine Tl.to (Tl.neg e next) ?_
        rw [drop_cons hi, drop_cons hj, List.isSublist]
        rw [rd_lt hi, rd_lt hj] at e
        have e' : ¬ p[j] = l[i] := fun q => e q.symm
        simp [e']
    · refine Tl.to (Tl.neg (by simp; omega) Tl.now) ?_
      rw [List.drop_eq_nil_of_le (show p.length ≤ j by omega)]
      simp [List.isSublist]; omega
theorem ev_in (p l : List Int) (hp : p.length ≤ 1000) (hl : l.length ≤ 1000) : Tl (fun k => diaphoneref06_in.f k p l) (p.isSublist l) := by
  unfold diaphoneref06_in.f
  have := in_loop p l hp hl l.length 0 0 (by omega) (by omega) (by omega)
  rwa [List.drop_zero, List.drop_zero] at this
end Go.Proofs.Ytcbepmdnhjojdaa.Re
