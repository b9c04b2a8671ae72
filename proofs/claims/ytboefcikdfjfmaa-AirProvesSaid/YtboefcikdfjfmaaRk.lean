/- Plans: which are right, by the document. -/
import Derived.Test.YtboefcikdfjfmaaRc
import Derived.Test.YtboefcikdfjfmaaPx16
import Derived.Test.YtboefcikdfjfmaaPx17
set_option linter.unusedVariables false
namespace Go.Proofs.Ytboefcikdfjfmaa.Pn
open Go.RowKit Go.Proofs.Ytboefcikdfjfmaa.P Go.Proofs.Ytboefcikdfjfmaa.E Go.Proofs.Ytboefcikdfjfmaa.Am Go.Proofs.Ytboefcikdfjfmaa.Va Go.Proofs.Ytboefcikdfjfmaa.Fi Go.Proofs.YtboefcikdfjfmaaW.PrintMore Go.Proofs.YtboefcikdfjfmaaW.PrintWords
variable {a0 a1 : Int} {c d x : List Int}
theorem rplanned_loop (ok : Ok a0 a1 c d) (e : Nat) : ∀ i : Nat, i ≤ d.length → d.length - i = e → ∀ r : Int, (((∀ s, i ≤ s → s < d.length → 0 ≤ sk d x (s + 1)) ∧ sk d x d.length = 0) → r = 0) → (¬ ((∀ s, i ≤ s → s < d.length → 0 ≤ sk d x (s + 1)) ∧ sk d x d.length = 0) → r = 6) →
    Tl (fun k => diaphoneref03_planned.l0 k (stl d x d.length) (i : Int)) r := by
  have hn1 := ok.n1
  have hn2 := ok.n2
  have hll := stl_len d x d.length
  induction e with
  | zero =>
    intro i h1 h2 r h0 h6
    obtain rfl : i = d.length := by omega
    refine Tl.succ ?_
    simp only [diaphoneref03_planned.l0]
    refine Tl.neg (by omega) ?_
    rw [last_val ok, rd_fl, last_fl ok]
    refine Tl.pos (by omega) (Tl.pos (by omega) ?_)
    by_cases c3 : sk d x d.length = 0
    · exact (Tl.pos c3 Tl.now).to (h0 ⟨fun s g1 g2 => by omega, c3⟩).symm
    · exact (Tl.neg c3 Tl.now).to (h6 (fun q => c3 q.2)).symm
  | succ e ih =>
    intro i h1 h2 r h0 h6
    refine Tl.succ ?_
    simp only [diaphoneref03_planned.l0]
    refine Tl.pos (by omega) (Tl.pos (by omega) ?_)
    rw [rd_fl, stl_fl d x (by omega)]
    by_cases c1 : sk d x (i + 1) < 0
    · exact (Tl.pos c1 Tl.now).to (h6 (fun q => by have := q.1 i (Nat.le_refl _) (by omega); omega)).symm
    · refine Tl.neg c1 ?_
      rw [w64 (by omega) (by omega)]
      refine ih (i + 1) (by omega) (by omega) r (fun q => h0 ⟨fun s g1 g2 => ?_, q.2⟩) (fun q => h6 (fun q2 => q ⟨fun s g1 g2 => q2.1 s (by omega) g2, q2.2⟩))
      rcases Nat.lt_or_ge i s with c2 | c2
      · exact q.1 s c2 g2
      · obtain rfl : s = i := by omega
        omega
theorem ev_rplanned (ok : Ok a0 a1 c d) (hl : x.length ≤ 1000) {r : Int} (hr : Pe d x r) : Tl (fun k => diaphoneref03_planned.f k a0 a1 c d x) r := by
  unfold diaphoneref03_planned.f
  obtain ⟨h1, h2, h3⟩ := hr
  have hn1 := ok.n1
  have hn2 := ok.n2
  refine Tl.bind (ev_rValidate (by have := ok.cl; omega) (by omega)) (Tl.pos (vc_ok.2 ok) (Tl.bind (ev_rall hl _ _) ?_))
  by_cases c1 : allb x d.length 600 = true
  · obtain ⟨hx, hxl⟩ := small_of c1
    refine Tl.pos c1 (Tl.bind (ev_rstock ok hx hxl) (rplanned_loop ok d.length 0 (by omega) (by omega) r (fun q => h2 c1 ⟨fun i hi => q.1 i (Nat.zero_le _) hi, q.2⟩) (fun q => h3 c1 (fun q2 => q ⟨fun s _ g2 => q2.1 s g2, q2.2⟩))))
  · exact (Tl.neg c1 Tl.now).to (h1 (by simpa using c1)).symm
theorem ev_rplanned_no (h1 : c.length ≤ 1000) (h2 : d.length ≤ 1000) (no : vc a0 a1 c d ≠ 0) (x : List Int) : Tl (fun k => diaphoneref03_planned.f k a0 a1 c d x) (vc a0 a1 c d) := by
  unfold diaphoneref03_planned.f
  exact Tl.bind (ev_rValidate h1 h2) (Tl.neg no Tl.now)
end Go.Proofs.Ytboefcikdfjfmaa.Pn
/- Plans: what the document says of them. -/
set_option linter.unusedVariables false
namespace Go.Proofs.Ytboefcikdfjfmaa.Pn
open Go.RowKit Go.Proofs.Ytboefcikdfjfmaa.P Go.Proofs.Ytboefcikdfjfmaa.E Go.Proofs.Ytboefcikdfjfmaa.Am Go.Proofs.Ytboefcikdfjfmaa.Va Go.Proofs.Ytboefcikdfjfmaa.Fi Go.Proofs.YtboefcikdfjfmaaW.PrintMore Go.Proofs.YtboefcikdfjfmaaW.PrintWords
variable {a0 a1 : Int} {c d x : List Int}
theorem ev_rCheckPlan (ok : Ok a0 a1 c d) (hl : x.length ≤ 1000) {r : Int} (hr : Pe d x r) : Tl (fun k => diaphoneref03_CheckPlan.f k a0 a1 c d x) (cpv a0 a1 c d x r) := by
  unfold diaphoneref03_CheckPlan.f cpv
  refine Tl.bind (ev_rplanned ok hl hr) ?_
  refine Tl.ite (fun h0 => ?_) (fun _ => Tl.now)
  obtain ⟨g1, g2⟩ := small_of (hr.zero h0).1
  exact Tl.bind (ev_rcost ok g1 g2) Tl.now
theorem ev_rCheckPlan_no (h1 : c.length ≤ 1000) (h2 : d.length ≤ 1000) (no : vc a0 a1 c d ≠ 0) (x : List Int) : Tl (fun k => diaphoneref03_CheckPlan.f k a0 a1 c d x) (0, vc a0 a1 c d) := by
  unfold diaphoneref03_CheckPlan.f
  exact Tl.bind (ev_rplanned_no h1 h2 no x) (Tl.neg no Tl.now)
end Go.Proofs.Ytboefcikdfjfmaa.Pn
