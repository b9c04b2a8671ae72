/- Proved here: for every task and number, the task with that start is as the document says, and a dearer start never makes the least cost smaller; it holds under no condition. -/
import Derived.Test.YtboefcikdfjfmaaCm
import Derived.Test.YtboefcikdfjfmaaKt
import Derived.Test.YtboefcikdfjfmaaPx24
import Derived.Test.YtboefcikdfjfmaaPx24
import Derived.Test.YtboefcikdfjfmaaPx27
set_option linter.unusedVariables false
namespace Go.Proofs.Ytboefcikdfjfmaa.Pure
open Go.RowKit Go.Proofs.Ytboefcikdfjfmaa.P Go.Proofs.Ytboefcikdfjfmaa.E Go.Proofs.Ytboefcikdfjfmaa.Am Go.Proofs.Ytboefcikdfjfmaa.Va Go.Proofs.Ytboefcikdfjfmaa.Fi Go.Proofs.Ytboefcikdfjfmaa.Kn Go.Proofs.Ytboefcikdfjfmaa.Cm Go.Proofs.YtboefcikdfjfmaaW.PrintMore Go.Proofs.YtboefcikdfjfmaaW.PrintWords
theorem AirDearer : ∀ (x0 : S24) (x1 : Int), (((Lit.int .i64 x0.f0).wf = true) ∧ ((Lit.int .i64 x0.f1).wf = true) ∧ ((∀ y ∈ x0.f2, (Lit.int .i64 y).wf = true) ∧ x0.f2.length ≤ maxLen) ∧ ((∀ y ∈ x0.f3, (Lit.int .i64 y).wf = true) ∧ x0.f3.length ≤ maxLen)) → ((Lit.int .i64 x1).wf = true) → ∃ k, diaphonelaw03_AirDearer.f k x0.f0 x0.f1 x0.f2 x0.f3 x1 = some true := by
  rintro ⟨a0, a1, c, d⟩ b _ _
  refine Tl.ex (g := fun k => diaphonelaw03_AirDearer.f k a0 a1 c d b) ?_
  unfold diaphonelaw03_AirDearer.f
  refine by_long (fun h1 h2 => ?_)
  rcases vc_cases a0 a1 c d with ⟨hv, ok⟩ | ⟨hv, no⟩
  · have e1 : air_Dearer.f a0 a1 c d b = some (told b a1 c d) := by
      unfold air_Dearer.f
      rw [ev_Validate (by omega) (by omega), Option.bind_some, if_pos hv, ev_copied a0 a1 (by omega) (by omega), Option.bind_some, ev_checked (by first | omega | (dsimp only; omega)) (by first | omega | (dsimp only; omega)), Option.bind_some]
    have e2 : Tl (fun k => diaphoneref03_Dearer.f k a0 a1 c d b) (told b a1 c d) := by
      unfold diaphoneref03_Dearer.f
      refine Tl.bind (ev_rValidate (by omega) (by omega)) (Tl.pos hv (Tl.bind' (ev_Copy a0 a1 (by omega) (by omega)) (Tl.bind (ev_told (by first | omega | (dsimp only; omega)) (by first | omega | (dsimp only; omega))) ?_)))
      exact Tl.now
    by_cases ok2 : Ok b a1 c d
    · rw [told_ok ok2] at e1 e2
      refine Tl.bind' e1 (Tl.bind e2 (Tl.bind (ev_same _ _ (by first | omega | (dsimp only; omega)) (by first | omega | (dsimp only; omega))) (Tl.pos rfl ?_)))
      refine Tl.succ ?_
      simp only [diaphonelaw03_AirDearer.j0]
      refine Tl.neg (by simp) ?_
      obtain ⟨cs, bs, hf⟩ := firsts_ex ok
      obtain ⟨cs2, bs2, hf2⟩ := firsts_ex ok2
      have up : a0 ≤ b → fl cs d.length ≤ fl cs2 d.length := fun hb => F_comp hf.F hf2.F (fun s n _ hn => lot_mono ok.rt hb (fun i _ => Int.le_refl _) hn) _ (Nat.le_refl _)
      have dn : b ≤ a0 → fl cs2 d.length ≤ fl cs d.length := fun hb => F_comp hf2.F hf.F (fun s n _ hn => lot_mono ok2.rt hb (fun i _ => Int.le_refl _) hn) _ (Nat.le_refl _)
      refine Tl.bind (ev_Least ok hf) (Tl.bind (ev_Least ok2 hf2) (Tl.pos trivial (Tl.pos rfl (Tl.pos rfl ?_))))
      by_cases c1 : b < a0
      · refine Tl.pos c1 (Tl.neg (by omega) (Tl.pos (dn (by omega)) ev_known'))
      · refine Tl.neg c1 (Tl.pos (up (by omega)) ?_)
        by_cases c2 : b > a0
        · exact Tl.pos c2 ev_known'
        · exact Tl.neg c2 (Tl.pos (dn (by omega)) ev_known')
    · rw [told_no ok2] at e1 e2
      refine Tl.bind' e1 (Tl.bind e2 (Tl.bind (ev_same _ _ (by simp) (by simp)) (Tl.pos rfl ?_)))
      refine Tl.succ ?_
      simp only [diaphonelaw03_AirDearer.j0]
      refine Tl.neg (by simp) ?_
      obtain ⟨cs, bs, hf⟩ := firsts_ex ok
      rcases least_cases 0 0 (c := []) (d := []) (by simp) (by simp) with ⟨q, _⟩ | ⟨_, q⟩
      · exact absurd q (no_nil _ _ _)
      · exact Tl.bind (ev_Least ok hf) (Tl.bind q (Tl.neg (by decide) ev_known'))
  · have e1 : air_Dearer.f a0 a1 c d b = some (0, 0, [], [], 1) := by
      unfold air_Dearer.f
      rw [ev_Validate (by omega) (by omega), Option.bind_some, if_neg (by omega), hv]
    have e2 : Tl (fun k => diaphoneref03_Dearer.f k a0 a1 c d b) (0, 0, [], [], 1) := by
      unfold diaphoneref03_Dearer.f
      exact (Tl.bind (ev_rValidate (by omega) (by omega)) (Tl.neg (by omega) Tl.now)).to (by rw [hv])
    refine Tl.bind' e1 (Tl.bind e2 (Tl.bind (ev_same _ _ (by simp) (by simp)) (Tl.pos rfl ?_)))
    refine Tl.succ ?_
    simp only [diaphonelaw03_AirDearer.j0]
    refine Tl.neg (by simp) ?_
    rcases least_cases 0 0 (c := []) (d := []) (by simp) (by simp) with ⟨q, _⟩ | ⟨_, q⟩
    · exact absurd q (no_nil _ _ _)
    · exact Tl.bind (ev_Least_no (by omega) (by omega) (by omega)) (Tl.bind q (Tl.neg (by decide) ev_known'))
end Go.Proofs.Ytboefcikdfjfmaa.Pure
