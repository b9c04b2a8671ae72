/- A task in new memory. -/
import Derived.Test.YtboefcikdfjfmaaKs
import Derived.Test.YtboefcikdfjfmaaPx22
set_option linter.unusedVariables false
namespace Go.Proofs.Ytboefcikdfjfmaa.Kn
open Go.RowKit Go.Proofs.Ytboefcikdfjfmaa.P Go.Proofs.Ytboefcikdfjfmaa.E Go.Proofs.Ytboefcikdfjfmaa.Am Go.Proofs.Ytboefcikdfjfmaa.Va Go.Proofs.YtboefcikdfjfmaaW.PrintMore Go.Proofs.YtboefcikdfjfmaaW.PrintWords
theorem ev_copied (a0 a1 : Int) {c d : List Int} (hc : c.length ≤ 1000) (hd : d.length ≤ 1000) : air_copied.f a0 a1 c d = some (a0, a1, c, d) := by
  unfold air_copied.f slices_Clone_int_int.f
  rw [if_pos (by omega), if_pos (by omega)]
  rfl
end Go.Proofs.Ytboefcikdfjfmaa.Kn
