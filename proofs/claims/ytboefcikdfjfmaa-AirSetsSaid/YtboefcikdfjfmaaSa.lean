/- Whether two lists are equal. -/
import Derived.Test.YtboefcikdfjfmaaFi
import Derived.Test.YtboefcikdfjfmaaPx14
set_option linter.unusedVariables false
namespace Go.Proofs.Ytboefcikdfjfmaa.Va
open Go.RowKit Go.Proofs.Ytboefcikdfjfmaa.P Go.Proofs.Ytboefcikdfjfmaa.E Go.Proofs.Ytboefcikdfjfmaa.Am Go.Proofs.Ytboefcikdfjfmaa.Va Go.Proofs.YtboefcikdfjfmaaW.PrintMore Go.Proofs.YtboefcikdfjfmaaW.PrintWords
theorem same_loop (l m : List Int) (hl : l.length ≤ 1000) (hm : l.length = m.length) (e : Nat) : ∀ i : Nat, i ≤ l.length → l.length - i = e →
    Tl (fun k => diaphoneref01_SameInts.l0 k l m (i : Int)) (decide (l.drop i = m.drop i)) := by
  induction e with
  | zero =>
    intro i hi hd
    refine Tl.succ ?_
    simp only [diaphoneref01_SameInts.l0]
    refine (Tl.neg (by omega) Tl.now).to ?_
    rw [List.drop_eq_nil_of_le (by omega), List.drop_eq_nil_of_le (by omega)]; rfl
  | succ e ih =>
    intro i hi hd
    have hlt : i < l.length := by omega
    refine Tl.succ ?_
    simp only [diaphoneref01_SameInts.l0]
    refine Tl.pos (by omega) (Tl.pos (by omega) (Tl.pos (by omega) ?_))
    rw [rd_lt hlt, rd_lt (show i < m.length by omega), List.drop_eq_getElem_cons hlt, List.drop_eq_getElem_cons (show i < m.length by omega)]
    by_cases hr : l[i] = m[i]'(by omega)
    · refine Tl.pos hr ?_
      rw [w64 (by omega) (by omega)]
      refine (ih (i + 1) (by omega) (by omega)).to ?_
      rw [hr]
      simp only [List.cons.injEq, true_and]
    · refine (Tl.neg hr Tl.now).to ?_
      simp only [List.cons.injEq, hr, false_and, decide_false]
theorem ev_Same {l m : List Int} (hl : l.length ≤ 1000) : Tl (fun k => diaphoneref01_SameInts.f k l m) (decide (l = m)) := by
  unfold diaphoneref01_SameInts.f
  by_cases c : l.length = m.length
  · refine Tl.pos (by omega) ?_
    have := same_loop l m hl c l.length 0 (by omega) (by omega)
    simpa using this
  · refine (Tl.neg (by omega) Tl.now).to ?_
    symm
    rw [decide_eq_false_iff_not]
    rintro rfl
    exact c rfl
end Go.Proofs.Ytboefcikdfjfmaa.Va
