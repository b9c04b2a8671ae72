/- Plans: what the program says of them. -/
import Derived.Test.YtboefcikdfjfmaaPc
import Derived.Test.YtboefcikdfjfmaaPx38
set_option linter.unusedVariables false
namespace Go.Proofs.Ytboefcikdfjfmaa.Pn
open Go.RowKit Go.Proofs.Ytboefcikdfjfmaa.P Go.Proofs.Ytboefcikdfjfmaa.E Go.Proofs.Ytboefcikdfjfmaa.Am Go.Proofs.Ytboefcikdfjfmaa.Va Go.Proofs.Ytboefcikdfjfmaa.Fi Go.Proofs.YtboefcikdfjfmaaW.PrintMore Go.Proofs.YtboefcikdfjfmaaW.PrintWords
variable {a0 a1 : Int} {c d x : List Int}
theorem ev_CheckPlan (ok : Ok a0 a1 c d) (hl : x.length ≤ 1000) {r : Int} (hr : Pe d x r) : Tl (fun k => air_CheckPlan.f k a0 a1 c d x) (cpv a0 a1 c d x r) := by
  unfold air_CheckPlan.f cpv
  refine Tl.bind (ev_planned ok hl hr) ?_
  refine Tl.ite (fun h0 => ?_) (fun _ => Tl.now)
  obtain ⟨g1, g2⟩ := small_of (hr.zero h0).1
  exact Tl.bind (ev_cost ok g1 g2) Tl.now
theorem ev_CheckPlan_no (h1 : c.length ≤ 1000) (h2 : d.length ≤ 1000) (no : vc a0 a1 c d ≠ 0) (x : List Int) : Tl (fun k => air_CheckPlan.f k a0 a1 c d x) (0, vc a0 a1 c d) := by
  unfold air_CheckPlan.f
  exact Tl.bind (ev_planned_no h1 h2 no x) (Tl.neg no Tl.now)
end Go.Proofs.Ytboefcikdfjfmaa.Pn
