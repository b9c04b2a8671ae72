/- What every statement of the chapter asks besides: the document's example; and lists that are too long. -/
import Derived.Test.YtboefcikdfjfmaaFi
import Derived.Test.YtboefcikdfjfmaaPx6
set_option linter.unusedVariables false
namespace Go.Proofs.Ytboefcikdfjfmaa.Kn
open Go.RowKit Go.Proofs.Ytboefcikdfjfmaa.P Go.Proofs.Ytboefcikdfjfmaa.E Go.Proofs.Ytboefcikdfjfmaa.Am Go.Proofs.Ytboefcikdfjfmaa.Va Go.Proofs.YtboefcikdfjfmaaW.PrintMore Go.Proofs.YtboefcikdfjfmaaW.PrintWords
theorem known_at : diaphonelaw03_known.f 40 = some true := by decide +kernel
theorem ev_known : Tl (fun k => diaphonelaw03_known.f k) true := Tl.mono diaphonelaw03_known.mono 40 known_at
theorem ev_known' : Tl (fun k => (diaphonelaw03_known.f k).bind fun t => some t) true := Tl.bind ev_known Tl.now
/-- What is left to show of tasks that are not long. -/
theorem by_long {a0 a1 : Int} {c d : List Int} {g : Nat → Option Bool} (hg : c.length ≤ 100 → d.length ≤ 100 → Tl g true) : Tl (fun k => (diaphonelaw03_Long.f a0 a1 c d).bind fun t => if t = true then ((diaphonelaw03_known.f k).bind fun t => some t) else g k) true := by
  refine Tl.bind' (ev_Long _ _ _ _) ?_
  by_cases h1 : 100 < c.length
  · exact Tl.pos (by simp [h1]) ev_known'
  · by_cases h2 : 100 < d.length
    · exact Tl.pos (by simp [h2]) ev_known'
    · exact Tl.neg (by simp [h1, h2]) (hg (by omega) (by omega))
end Go.Proofs.Ytboefcikdfjfmaa.Kn
