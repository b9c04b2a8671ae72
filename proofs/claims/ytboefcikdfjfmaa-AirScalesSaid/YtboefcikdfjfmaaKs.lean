/- Equal tasks; tasks that are made. -/
import Derived.Test.YtboefcikdfjfmaaKn
import Derived.Test.YtboefcikdfjfmaaPx26
import Derived.Test.YtboefcikdfjfmaaPx25
set_option linter.unusedVariables false
namespace Go.Proofs.Ytboefcikdfjfmaa.Kn
open Go.RowKit Go.Proofs.Ytboefcikdfjfmaa.P Go.Proofs.Ytboefcikdfjfmaa.E Go.Proofs.Ytboefcikdfjfmaa.Am Go.Proofs.Ytboefcikdfjfmaa.Va Go.Proofs.YtboefcikdfjfmaaW.PrintMore Go.Proofs.YtboefcikdfjfmaaW.PrintWords
theorem same1 (a0 a1 b0 b1 : Int) (c d m : List Int) (hl : d.length ≤ 1000) (e : Nat) : ∀ i : Nat, i ≤ d.length → d.length - i = e →
    Tl (fun k => diaphoneref03_Same.l1 k (i : Int) a0 a1 c d b0 b1 m d) true := by
  induction e with
  | zero =>
    intro i h1 h2
    refine Tl.succ ?_
    simp only [diaphoneref03_Same.l1]
    exact Tl.neg (by omega) Tl.now
  | succ e ih =>
    intro i h1 h2
    refine Tl.succ ?_
    simp only [diaphoneref03_Same.l1]
    refine Tl.pos (by omega) (Tl.pos (by omega) (Tl.pos (by omega) (Tl.pos trivial ?_)))
    rw [w64 (by omega) (by omega)]
    exact ih (i + 1) (by omega) (by omega)
theorem same0 (a0 a1 b0 b1 : Int) (c d : List Int) (hc : c.length ≤ 1000) (hl : d.length ≤ 1000) (e : Nat) : ∀ i : Nat, i ≤ c.length → c.length - i = e →
    Tl (fun k => diaphoneref03_Same.l0 k (i : Int) a0 a1 c d b0 b1 c d) true := by
  induction e with
  | zero =>
    intro i h1 h2
    refine Tl.succ ?_
    simp only [diaphoneref03_Same.l0]
    exact Tl.neg (by omega) (same1 a0 a1 b0 b1 c d c hl d.length 0 (by omega) (by omega))
  | succ e ih =>
    intro i h1 h2
    refine Tl.succ ?_
    simp only [diaphoneref03_Same.l0]
    refine Tl.pos (by omega) (Tl.pos (by omega) (Tl.pos (by omega) (Tl.pos trivial ?_)))
    rw [w64 (by omega) (by omega)]
    exact ih (i + 1) (by omega) (by omega)
/-- A task is equal to itself. -/
theorem ev_same (a0 a1 : Int) {c d : List Int} (hc : c.length ≤ 1000) (hd : d.length ≤ 1000) : Tl (fun k => diaphoneref03_Same.f k a0 a1 c d a0 a1 c d) true := by
  unfold diaphoneref03_Same.f
  refine Tl.pos rfl (Tl.pos rfl (Tl.pos rfl ?_))
  refine Tl.succ ?_
  simp only [diaphoneref03_Same.j0]
  refine Tl.neg (by simp) ?_
  exact same0 a0 a1 a0 a1 c d hc hd c.length 0 (by omega) (by omega)
theorem ev_Copy (a0 a1 : Int) {c d : List Int} (hc : c.length ≤ 1000) (hd : d.length ≤ 1000) : diaphoneref03_Copy.f a0 a1 c d = some (a0, a1, c, d) := by
  unfold diaphoneref03_Copy.f
  simp only [Option.bind_some, List.length_nil, List.nil_append]
  rw [if_pos (by omega), if_pos (by omega)]
end Go.Proofs.Ytboefcikdfjfmaa.Kn
