/- What every statement of the chapter asks besides: the document's example; and lists that are too long. -/
import Derived.Test.YtgdhbeccpicdcaaBe
import Derived.Test.YtgdhbeccpicdcaaPx8
import Derived.Test.YtgdhbeccpicdcaaPx5
set_option linter.unusedVariables false
namespace Go.Proofs.Ytgdhbeccpicdcaa.Kn
open Go.RowKit Go.Proofs.Ytgdhbeccpicdcaa.P Go.Proofs.Ytgdhbeccpicdcaa.E Go.Proofs.Ytgdhbeccpicdcaa.Fr Go.Proofs.Ytgdhbeccpicdcaa.Sd Go.Proofs.Ytgdhbeccpicdcaa.Bl Go.Proofs.Ytgdhbeccpicdcaa.Va Go.Proofs.Ytgdhbeccpicdcaa.Be Go.Proofs.YtgdhbeccpicdcaaW.PrintMore
open Go.Proofs.YtgdhbeccpicdcaaW.PrintWords
theorem known_at : diaphonelaw02_known.f 40 = some true := by decide +kernel
theorem ev_known : Tl (fun k => diaphonelaw02_known.f k) true := Tl.mono diaphonelaw02_known.mono 40 known_at
theorem ev_known' : Tl (fun k => (diaphonelaw02_known.f k).bind fun t => some t) true := Tl.bind ev_known Tl.now
theorem long_eq (h : List S31) : diaphonelaw02_Long.f h = some (decide ((h.length : Int) > 100)) := rfl
/-- What is left to show of lists that are not long. -/
theorem by_long {h : List S31} {g : Nat → Option Bool} (hg : h.length ≤ 100 → Tl g true) : Tl (fun k => (diaphonelaw02_Long.f h).bind fun t => if t = true then ((diaphonelaw02_known.f k).bind fun t => some t) else g k) true := by
  refine Tl.bind' (long_eq h) ?_
  by_cases hl : (h.length : Int) > 100
  · exact Tl.pos (decide_eq_true hl) ev_known'
  · exact Tl.neg (by simpa using hl) (hg (by omega))
end Go.Proofs.Ytgdhbeccpicdcaa.Kn
