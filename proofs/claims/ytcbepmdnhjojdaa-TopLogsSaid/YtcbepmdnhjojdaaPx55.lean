-- laid by a program of this session (wip/tools): plain functions of the Go code and their contracts
-- thinned4
-- thinned
import Derived.Test.YtcbepmdnhjojdaaPx0
import Derived.Test.YtcbepmdnhjojdaaPx2
namespace Go.Proofs.Ytcbepmdnhjojdaa.P
open Go.RowKit Go.Proofs.YtcbepmdnhjojdaaW.PrintWords Go.Proofs.YtcbepmdnhjojdaaW.PrintLast Go.Proofs.YtcbepmdnhjojdaaW.PrintMore
attribute [local go_sem] max2_int min2_int max_two min_two max_three min_three max_four min_four   -- for this text's walks alone
set_option linter.unusedVariables false
set_option linter.unusedSimpArgs false

/-! ### log_costBoth: function 58 -/

def log_costBoth.f (a0 a1 a2 x y : Int) : Option Int := some (log_ch a2 x y)
theorem log_costBoth.calls (a0 a1 a2 x y r : Int) (w : World) (h : log_costBoth.f a0 a1 a2 x y = some r) : Calls Try.prog 58 #[.agg #[.int .i64 a0, .int .i64 a1, .int .i64 a2], .iface 70 (.agg #[.int .i64 x, .int .i64 y])] w fun e w' => e = .returned (.int .i64 r) ∧ Below w.heap.size w w' := by
 obtain rfl := Option.some.inj h; exact log_cost.both a0 a1 a2 x y w


end Go.Proofs.Ytcbepmdnhjojdaa.P
