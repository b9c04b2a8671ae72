/- The hours in which something is pumped. -/
import Derived.Test.YtboefcikdfjfmaaPb
import Derived.Test.YtboefcikdfjfmaaPx43
set_option linter.unusedVariables false
namespace Go.Proofs.Ytboefcikdfjfmaa.Pn
open Go.RowKit Go.Proofs.Ytboefcikdfjfmaa.P Go.Proofs.Ytboefcikdfjfmaa.E Go.Proofs.Ytboefcikdfjfmaa.Am Go.Proofs.Ytboefcikdfjfmaa.Va Go.Proofs.Ytboefcikdfjfmaa.Fi Go.Proofs.YtboefcikdfjfmaaW.PrintMore Go.Proofs.YtboefcikdfjfmaaW.PrintWords
variable {a0 a1 : Int} {c d x : List Int}
/-- The hours in which something is pumped. -/
def sts (x : List Int) (n : Nat) : List Int := ((List.range n).filter fun i => on (fl x) i).map fun (i : Nat) => (i : Int)
theorem sts_succ (x : List Int) (n : Nat) : sts x (n + 1) = if 0 < fl x n then sts x n ++ [(n : Int)] else sts x n := by
  unfold sts
  rw [List.range_succ, List.filter_append, List.map_append]
  by_cases c1 : 0 < fl x n
  · rw [if_pos c1]; simp [on, c1]
  · rw [if_neg c1]; simp [on, c1]
theorem sts_len (x : List Int) (n : Nat) : (sts x n).length ≤ n := by
  unfold sts
  rw [List.length_map]
  exact Nat.le_trans (List.length_filter_le _ _) (by simp)
theorem starts_loop (hl : x.length ≤ 1000) (e : Nat) : ∀ i : Nat, i ≤ x.length → x.length - i = e → Tl (fun k => air_starts.l0 k (sts x i) x (x.length : Int) (i : Int)) (sts x x.length) := by
  induction e with
  | zero =>
    intro i h1 h2
    obtain rfl : i = x.length := by omega
    refine Tl.succ ?_
    simp only [air_starts.l0]
    exact Tl.neg (by omega) Tl.now
  | succ e ih =>
    intro i h1 h2
    have hs := sts_len x i
    have hrec := ih (i + 1) (by omega) (by omega)
    refine Tl.succ ?_
    simp only [air_starts.l0]
    refine Tl.pos (by omega) (Tl.pos (by omega) (Tl.pos (by omega) ?_))
    rw [rd_fl, w64 (by omega) (by omega)]
    rw [sts_succ] at hrec
    by_cases c1 : fl x i > 0
    · rw [if_pos c1] at hrec
      exact Tl.pos c1 (Tl.pos (by omega) hrec)
    · rw [if_neg c1] at hrec
      exact Tl.neg c1 hrec
theorem ev_starts (hl : x.length ≤ 1000) : Tl (fun k => air_starts.f k x) (sts x x.length) := by
  unfold air_starts.f
  exact starts_loop hl x.length 0 (by omega) (by omega)
end Go.Proofs.Ytboefcikdfjfmaa.Pn
