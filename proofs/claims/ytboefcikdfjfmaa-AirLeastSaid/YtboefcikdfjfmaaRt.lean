/- Plans: which are tidy, by the document. -/
import Derived.Test.YtboefcikdfjfmaaRk
import Derived.Test.YtboefcikdfjfmaaPx18
set_option linter.unusedVariables false
namespace Go.Proofs.Ytboefcikdfjfmaa.Pn
open Go.RowKit Go.Proofs.Ytboefcikdfjfmaa.P Go.Proofs.Ytboefcikdfjfmaa.E Go.Proofs.Ytboefcikdfjfmaa.Am Go.Proofs.Ytboefcikdfjfmaa.Va Go.Proofs.Ytboefcikdfjfmaa.Fi Go.Proofs.YtboefcikdfjfmaaW.PrintMore Go.Proofs.YtboefcikdfjfmaaW.PrintWords
variable {a0 a1 : Int} {c d x : List Int}
theorem rtidy_loop (ok : Ok a0 a1 c d) (hl : x.length = d.length) (e : Nat) : ∀ i : Nat, 1 ≤ i → i ≤ d.length → d.length - i = e → ∀ r : Bool × Int, (Tidy d x i → r = (true, 0)) → (¬ Tidy d x i → r = (false, 0)) →
    Tl (fun k => diaphoneref03_IsTidy.l0 k x (stl d x d.length) (i : Int)) r := by
  have hn2 := ok.n2
  have hll := stl_len d x d.length
  induction e with
  | zero =>
    intro i h0 h1 h2 r ht hf
    refine Tl.succ ?_
    simp only [diaphoneref03_IsTidy.l0]
    exact (Tl.neg (by omega) Tl.now).to (ht (fun s g1 g2 => by omega)).symm
  | succ e ih =>
    intro i h0 h1 h2 r ht hf
    have hi : i < d.length := by omega
    have e1 : wrap64 ((i : Int) - 1) = ((i - 1 : Nat) : Int) := by rw [w64 (by omega) (by omega)]; omega
    have hrec := ih (i + 1) (by omega) (by omega) (by omega) r
    refine Tl.succ ?_
    simp only [diaphoneref03_IsTidy.l0]
    refine Tl.pos (by omega) (Tl.pos (by omega) ?_)
    rw [e1, rd_fl, rd_fl, stl_fl d x (by omega), show i - 1 + 1 = i by omega, w64 (by omega) (by omega)]
    by_cases c1 : fl x i > 0
    · refine Tl.pos c1 (Tl.pos (by omega) (Tl.pos (by omega) ?_))
      by_cases c2 : sk d x i > 0
      · exact (Tl.pos c2 Tl.now).to (hf (fun q => q i (Nat.le_refl _) hi c1 c2)).symm
      · exact Tl.neg c2 (hrec (fun q => ht ((tidy_succ hi).2 ⟨fun _ => c2, q⟩)) (fun q => hf (fun q2 => q ((tidy_succ hi).1 q2).2)))
    · exact Tl.neg c1 (hrec (fun q => ht ((tidy_succ hi).2 ⟨fun q3 => absurd q3 c1, q⟩)) (fun q => hf (fun q2 => q ((tidy_succ hi).1 q2).2)))
theorem ev_rIsTidy (ok : Ok a0 a1 c d) (hl : x.length ≤ 1000) {e : Int} (he : Pe d x e) {r : Bool × Int} (hr : Ti d x e r) : Tl (fun k => diaphoneref03_IsTidy.f k a0 a1 c d x) r := by
  unfold diaphoneref03_IsTidy.f
  refine Tl.bind (ev_rplanned ok hl he) ?_
  obtain ⟨h1, h2, h3⟩ := hr
  by_cases h0 : e = 0
  · obtain ⟨g1, g2⟩ := small_of (he.zero h0).1
    exact Tl.pos h0 (Tl.bind (ev_rstock ok g1 g2) (rtidy_loop ok g2 (d.length - 1) 1 (Nat.le_refl _) ok.n1 rfl r (h2 h0) (h3 h0)))
  · exact (Tl.neg h0 Tl.now).to (h1 h0).symm
theorem ev_rIsTidy_no (h1 : c.length ≤ 1000) (h2 : d.length ≤ 1000) (no : vc a0 a1 c d ≠ 0) (x : List Int) : Tl (fun k => diaphoneref03_IsTidy.f k a0 a1 c d x) (false, vc a0 a1 c d) := by
  unfold diaphoneref03_IsTidy.f
  exact Tl.bind (ev_rplanned_no h1 h2 no x) (Tl.neg no Tl.now)
end Go.Proofs.Ytboefcikdfjfmaa.Pn
