/- The document's way. -/
import Derived.Test.YtboefcikdfjfmaaFi
import Derived.Test.YtboefcikdfjfmaaPx11
set_option linter.unusedVariables false
namespace Go.Proofs.Ytboefcikdfjfmaa.Pr
open Go.RowKit Go.Proofs.Ytboefcikdfjfmaa.P Go.Proofs.Ytboefcikdfjfmaa.E Go.Proofs.Ytboefcikdfjfmaa.Am Go.Proofs.Ytboefcikdfjfmaa.Va Go.Proofs.Ytboefcikdfjfmaa.Fi Go.Proofs.YtboefcikdfjfmaaW.PrintMore Go.Proofs.YtboefcikdfjfmaaW.PrintWords
variable {a0 a1 : Int} {c d : List Int}
theorem ev_rway (ok : Ok a0 a1 c d) {s t : Nat} (hst : s ≤ t) (ht : t < d.length) : diaphoneref03_way.f a0 a1 c d (s : Int) (t : Int) = some (way a1 (fl c) s t) := by
  unfold diaphoneref03_way.f
  rw [if_pos (by omega), if_pos (by have := ok.cl; omega), rd_fl, way_val ok hst ht]
end Go.Proofs.Ytboefcikdfjfmaa.Pr
