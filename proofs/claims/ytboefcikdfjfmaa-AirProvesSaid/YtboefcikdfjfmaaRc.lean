/- Plans: what the document says of their stock and cost. -/
import Derived.Test.YtboefcikdfjfmaaPb
import Derived.Test.YtboefcikdfjfmaaPx9
import Derived.Test.YtboefcikdfjfmaaPx10
set_option linter.unusedVariables false
namespace Go.Proofs.Ytboefcikdfjfmaa.Pn
open Go.RowKit Go.Proofs.Ytboefcikdfjfmaa.P Go.Proofs.Ytboefcikdfjfmaa.E Go.Proofs.Ytboefcikdfjfmaa.Am Go.Proofs.Ytboefcikdfjfmaa.Va Go.Proofs.Ytboefcikdfjfmaa.Fi Go.Proofs.YtboefcikdfjfmaaW.PrintMore Go.Proofs.YtboefcikdfjfmaaW.PrintWords
variable {a0 a1 : Int} {c d x : List Int}
theorem rstock_loop (ok : Ok a0 a1 c d) (hx : Small x) (hl : x.length = d.length) (e : Nat) : ∀ i : Nat, i ≤ d.length → d.length - i = e →
    Tl (fun k => diaphoneref03_stock.l0 k x (stl d x i) (sk d x i) (i : Int) a0 a1 c d) (stl d x d.length) := by
  have := ok.n2
  induction e with
  | zero =>
    intro i h1 h2
    obtain rfl : i = d.length := by omega
    refine Tl.succ ?_
    simp only [diaphoneref03_stock.l0]
    exact Tl.neg (by omega) Tl.now
  | succ e ih =>
    intro i h1 h2
    refine Tl.succ ?_
    simp only [diaphoneref03_stock.l0]
    have hll := stl_len d x i
    refine Tl.pos (by omega) (Tl.pos (by omega) (Tl.pos (by omega) (Tl.pos (by omega) ?_)))
    rw [rd_fl, rd_fl, stock_val ok hx (by omega), w64 (by omega) (by omega), ← stl_succ]
    exact ih (i + 1) (by omega) (by omega)
theorem ev_rstock (ok : Ok a0 a1 c d) (hx : Small x) (hl : x.length = d.length) : Tl (fun k => diaphoneref03_stock.f k a0 a1 c d x) (stl d x d.length) := by
  unfold diaphoneref03_stock.f
  exact rstock_loop ok hx hl d.length 0 (by omega) (by omega)
theorem rcost_loop (ok : Ok a0 a1 c d) (hx : Small x) (hl : x.length = d.length) (e : Nat) : ∀ i : Nat, i ≤ d.length → d.length - i = e →
    Tl (fun k => diaphoneref03_cost.l0 k x (stl d x d.length) (cs a0 a1 c d x i) (i : Int) a0 a1 c d) (cs a0 a1 c d x d.length) := by
  have := ok.n2
  have hll := stl_len d x d.length
  have hcl := ok.cl
  induction e with
  | zero =>
    intro i h1 h2
    obtain rfl : i = d.length := by omega
    refine Tl.succ ?_
    simp only [diaphoneref03_cost.l0]
    exact Tl.neg (by omega) Tl.now
  | succ e ih =>
    intro i h1 h2
    have hi : i < d.length := by omega
    refine Tl.succ ?_
    simp only [diaphoneref03_cost.l0]
    refine Tl.pos (by omega) (Tl.pos (by omega) ?_)
    rw [rd_fl, rd_fl, rd_fl, stl_fl d x hi, w64 (x := (i : Int) + 1) (by omega) (by omega)]
    by_cases h3 : 0 < fl x i
    · refine Tl.pos h3 (Tl.pos (by omega) (Tl.pos (by omega) ?_))
      rw [cost_val1 ok hx hi h3]
      exact ih (i + 1) (by omega) (by omega)
    · refine Tl.neg h3 (Tl.pos (by omega) (Tl.pos (by omega) ?_))
      rw [cost_val2 ok hx hi h3]
      exact ih (i + 1) (by omega) (by omega)
theorem ev_rcost (ok : Ok a0 a1 c d) (hx : Small x) (hl : x.length = d.length) : Tl (fun k => diaphoneref03_cost.f k a0 a1 c d x) (cs a0 a1 c d x d.length) := by
  unfold diaphoneref03_cost.f
  exact Tl.bind (ev_rstock ok hx hl) (rcost_loop ok hx hl d.length 0 (by omega) (by omega))
end Go.Proofs.Ytboefcikdfjfmaa.Pn
