/- Proved here: for all weights, the program says that two sets make up the same amounts just where the document does, and that is where the same weights are left; it holds under no condition. -/
import Derived.Test.YtgndhijhcliegaaNd
import Derived.Test.YtgndhijhcliegaaKn
import Derived.Test.YtgndhijhcliegaaPx49
set_option linter.unusedVariables false
namespace Go.Proofs.Ytgndhijhcliegaa.Pure
open Go.RowKit Go.Proofs.Ytgndhijhcliegaa.P Go.Proofs.Ytgndhijhcliegaa.E Go.Proofs.Ytgndhijhcliegaa.Va Go.Proofs.Ytgndhijhcliegaa.Kn Go.Proofs.Ytgndhijhcliegaa.Nd Go.Proofs.YtgndhijhcliegaaW.PrintMore
open Go.Proofs.YtgndhijhcliegaaW.PrintWords
namespace Sam
theorem ev_Long2 (w l : List Int) : Tl (fun k => diaphonelaw07_Long.f k [w, l]) (decide ((w.length : Int) > 50 ∨ (l.length : Int) > 50)) := by
  unfold diaphonelaw07_Long.f
  refine Tl.succ ?_
  simp only [diaphonelaw07_Long.l0]
  have e : rd_L1 [w, l] 0 = w := rfl
  have e1 : rd_L1 [w, l] 1 = l := rfl
  rw [e]
  refine Tl.pos (by simp) (Tl.pos (by omega) ?_)
  by_cases c : (w.length : Int) > 50
  · exact Tl.to (Tl.pos c Tl.now) (decide_eq_true (.inl c)).symm
  · refine Tl.neg c (Tl.succ ?_)
    rw [show wrap64 ((0 : Int) + 1) = 1 by unfold wrap64; omega]
    simp only [diaphonelaw07_Long.l0]
    rw [e1]
    refine Tl.pos (by simp) (Tl.pos (by omega) ?_)
    by_cases c2 : (l.length : Int) > 50
    · exact Tl.to (Tl.pos c2 Tl.now) (decide_eq_true (.inr c2)).symm
    · refine Tl.neg c2 (Tl.succ ?_)
      rw [show wrap64 ((1 : Int) + 1) = 2 by unfold wrap64; omega]
      simp only [diaphonelaw07_Long.l0]
      exact Tl.to (Tl.neg (by simp) Tl.now) (decide_eq_false (by omega)).symm
theorem sc_zero {v w : List Int} (h : (sc v w).2 = 0) : vc v = 0 ∧ vc w = 0 ∧ (sc v w).1 = decide (rl v v.length = rl w w.length) := by
  unfold sc at h ⊢
  by_cases h1 : vc v = 0
  · rw [if_pos h1] at h ⊢
    by_cases h2 : vc w = 0
    · rw [if_pos h2]; exact ⟨h1, h2, rfl⟩
    · rw [if_neg h2] at h; exact absurd h h2
  · rw [if_neg h1] at h; exact absurd h h1
end Sam
open Sam
theorem ChargeSame : ∀ (x0 : List Int) (x1 : List Int), ((∀ y ∈ x0, (Lit.int .i64 y).wf = true) ∧ x0.length ≤ maxLen) → ((∀ y ∈ x1, (Lit.int .i64 y).wf = true) ∧ x1.length ≤ maxLen) → ∃ k, diaphonelaw07_ChargeSame.f k x0 x1 = some true := by
  intro v w _ _
  refine Tl.ex (g := fun k => diaphonelaw07_ChargeSame.f k v w) ?_
  unfold diaphonelaw07_ChargeSame.f
  refine Tl.bind (ev_Long2 v w) ?_
  by_cases c : (v.length : Int) > 50 ∨ (w.length : Int) > 50
  · exact Tl.pos (decide_eq_true c) ev_sane'
  · refine Tl.neg (by rw [decide_eq_true_eq]; exact c) (Tl.bind (ev_Same v w) (Tl.bind (ev_rSame v w) (Tl.neg (by simp) ?_)))
    rw [show ((sc v w).2 != (sc v w).2) = false by simp]
    refine Tl.succ ?_
    simp only [diaphonelaw07_ChargeSame.j0]
    refine Tl.neg (by simp) ?_
    by_cases h : (sc v w).2 = 0
    · obtain ⟨h1, h2, h3⟩ := sc_zero h
      have rv := ev_Reduce v
      have rw_ := ev_Reduce w
      rw [if_pos h1] at rv
      rw [if_pos h2] at rw_
      have hl := rl_len v v.length
      have h0 := (vc_ok.1 h1).1
      refine Tl.pos h (Tl.bind rv (Tl.bind rw_ (Tl.pos rfl (Tl.pos rfl (Tl.bind (ev_SameInts (show (rl v v.length).length ≤ 1000 by omega)) (Tl.pos ?_ ev_sane'))))))
      rw [h3]; simp
    · exact Tl.neg h ev_sane'
end Go.Proofs.Ytgndhijhcliegaa.Pure
