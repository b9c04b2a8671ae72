/- Tasks that are made. -/
import Derived.Test.YtboefcikdfjfmaaKc
import Derived.Test.YtboefcikdfjfmaaPx22
import Derived.Test.YtboefcikdfjfmaaPx23
import Derived.Test.YtboefcikdfjfmaaPx23
set_option linter.unusedVariables false
namespace Go.Proofs.Ytboefcikdfjfmaa.Kn
open Go.RowKit Go.Proofs.Ytboefcikdfjfmaa.P Go.Proofs.Ytboefcikdfjfmaa.E Go.Proofs.Ytboefcikdfjfmaa.Am Go.Proofs.Ytboefcikdfjfmaa.Va Go.Proofs.YtboefcikdfjfmaaW.PrintMore Go.Proofs.YtboefcikdfjfmaaW.PrintWords
/-- What is handed back of a task that is made: the task, if it is valid. -/
def told (a0 a1 : Int) (c d : List Int) : Int × Int × List Int × List Int × Int := if vc a0 a1 c d = 0 then (a0, a1, c, d, 0) else (0, 0, [], [], 1)
theorem ev_checked {a0 a1 : Int} {c d : List Int} (hc : c.length ≤ 1000) (hd : d.length ≤ 1000) : air_checked.f a0 a1 c d = some (told a0 a1 c d) := by
  unfold air_checked.f told
  rw [ev_Validate hc hd, Option.bind_some]
  rcases vc_cases a0 a1 c d with ⟨h, _⟩ | ⟨h, _⟩
  · rw [h]; rfl
  · rw [h]; rfl
theorem ev_told {a0 a1 : Int} {c d : List Int} (hc : c.length ≤ 1000) (hd : d.length ≤ 1000) : Tl (fun k => diaphoneref03_told.f k a0 a1 c d) (told a0 a1 c d) := by
  unfold diaphoneref03_told.f told
  refine Tl.bind (ev_rValidate hc hd) ?_
  exact Tl.ite (fun h => Tl.now) (fun h => Tl.now)variable {a0 a1 : Int} {c d : List Int}
theorem told_ok (ok : Ok a0 a1 c d) : told a0 a1 c d = (a0, a1, c, d, 0) := by unfold told; rw [if_pos (vc_ok.2 ok)]
theorem told_no (no : ¬ Ok a0 a1 c d) : told a0 a1 c d = (0, 0, [], [], 1) := by unfold told; rw [if_neg (fun h => no (vc_ok.1 h))]
end Go.Proofs.Ytboefcikdfjfmaa.Kn
