/- Proved here: for every list of readings and any two hours, the program's validity, mean and falling of values are the document's; it holds under no condition. -/
import Derived.Test.YtgdhbeccpicdcaaMe
import Derived.Test.YtgdhbeccpicdcaaPx40
import Derived.Test.YtgdhbeccpicdcaaPx52
import Derived.Test.YtgdhbeccpicdcaaPx52
import Derived.Test.YtgdhbeccpicdcaaPx53
set_option linter.unusedVariables false
namespace Go.Proofs.Ytgdhbeccpicdcaa.Pure
open Go.RowKit Go.Proofs.Ytgdhbeccpicdcaa.P Go.Proofs.Ytgdhbeccpicdcaa.E Go.Proofs.Ytgdhbeccpicdcaa.Fr Go.Proofs.Ytgdhbeccpicdcaa.Sd Go.Proofs.Ytgdhbeccpicdcaa.Bl Go.Proofs.Ytgdhbeccpicdcaa.Va Go.Proofs.Ytgdhbeccpicdcaa.Be Go.Proofs.Ytgdhbeccpicdcaa.Kn Go.Proofs.Ytgdhbeccpicdcaa.Me Go.Proofs.YtgdhbeccpicdcaaW.PrintMore
open Go.Proofs.YtgdhbeccpicdcaaW.PrintWords
theorem ev_rMean {h : List S31} (hl : h.length ≤ 1000) (a b : Int) : Tl (fun k => diaphoneref02_Mean.f k h a b) (mc h a b) := by
  unfold diaphoneref02_Mean.f mc
  refine Tl.bind (ev_houred hl a b) ?_
  by_cases hk : hc h a b = 0
  · rw [if_pos hk]
    refine Tl.pos hk ?_
    obtain ⟨ok, ha, hb⟩ := hc_ok hk
    simp only [inn] at ha hb
    by_cases hab : a > b
    · rw [if_pos hab]; exact Tl.pos hab Tl.now
    · rw [if_neg hab]
      refine Tl.neg hab ?_
      have e1 := ev_mean ok (a := a.toNat) (b := b.toNat) (by omega) (by omega)
      rw [show ((a.toNat : Nat) : Int) = a by omega, show ((b.toNat : Nat) : Int) = b by omega] at e1
      exact Tl.bind e1 Tl.now
  · rw [if_neg hk]; exact Tl.neg hk Tl.now
theorem falling_loop {h : List S31} (hl : h.length ≤ 1000) (d : Nat) : ∀ i : Nat, i + 1 ≤ h.length → h.length - (i + 1) = d →
    ∃ r, Tl (fun k => haze_IsFalling.l0 k h (wrap64 ((h.length : Int) - 1)) (i : Int)) r ∧ Tl (fun k => diaphoneref02_IsFalling.l0 k h ((i : Int) + 1)) r := by
  have e : wrap64 ((h.length : Int) - 1) = (h.length : Int) - 1 := w64 (by omega) (by omega)
  rw [e]
  induction d with
  | zero =>
    intro i hi hd
    refine ⟨(true, 0), Tl.succ ?_, Tl.succ ?_⟩
    · simp only [haze_IsFalling.l0]; exact Tl.neg (by omega) Tl.now
    · simp only [diaphoneref02_IsFalling.l0]; exact Tl.neg (by omega) Tl.now
  | succ d ih =>
    intro i hi hd
    have e1 : wrap64 ((i : Int) + 1) = (i : Int) + 1 := w64 (by omega) (by omega)
    have e2 : wrap64 (((i : Int) + 1) - 1) = (i : Int) := by rw [w64 (by omega) (by omega)]; omega
    by_cases hc : (rd_T31 h (i : Int)).f0 < (rd_T31 h ((i : Int) + 1)).f0
    · refine ⟨(false, 0), Tl.succ ?_, Tl.succ ?_⟩
      · simp only [haze_IsFalling.l0, e1]
        exact Tl.pos (by omega) (Tl.pos (by omega) (Tl.pos (by omega) (Tl.pos (by omega) (Tl.pos (by omega) (Tl.pos hc Tl.now)))))
      · simp only [diaphoneref02_IsFalling.l0, e2]
        exact Tl.pos (by omega) (Tl.pos (by omega) (Tl.pos (by omega) (Tl.pos (by omega) (Tl.pos hc Tl.now))))
    · obtain ⟨r, g1, g2⟩ := ih (i + 1) (by omega) (by omega)
      refine ⟨r, Tl.succ ?_, Tl.succ ?_⟩
      · simp only [haze_IsFalling.l0, e1]
        exact Tl.pos (by omega) (Tl.pos (by omega) (Tl.pos (by omega) (Tl.pos (by omega) (Tl.pos (by omega) (Tl.neg hc g1)))))
      · simp only [diaphoneref02_IsFalling.l0, e2]
        rw [w64 (x := (i : Int) + 1 + 1) (by omega) (by omega)]
        exact Tl.pos (by omega) (Tl.pos (by omega) (Tl.pos (by omega) (Tl.pos (by omega) (Tl.neg hc g2))))
theorem falling_both {h : List S31} (hl : h.length ≤ 1000) : ∃ r, Tl (fun k => haze_IsFalling.f k h) r ∧ Tl (fun k => diaphoneref02_IsFalling.f k h) r := by
  unfold haze_IsFalling.f diaphoneref02_IsFalling.f
  by_cases hv : vc h = 0
  · have ok := vc_ok.1 hv
    obtain ⟨r, g1, g2⟩ := falling_loop hl (h.length - 1) 0 (by have := ok.1; omega) (by omega)
    exact ⟨r, Tl.bind (ev_Validate hl) (Tl.pos hv g1), Tl.bind (ev_rValidate hl) (Tl.pos hv g2)⟩
  · exact ⟨(false, vc h), Tl.bind (ev_Validate hl) (Tl.neg hv Tl.now), Tl.bind (ev_rValidate hl) (Tl.neg hv Tl.now)⟩
theorem HazeMeans : ∀ (x0 : List (S31)) (x1 : Int) (x2 : Int), ((∀ y ∈ x0, ((Lit.int .i64 y.f0).wf = true) ∧ ((Lit.int .i64 y.f1).wf = true)) ∧ x0.length ≤ maxLen) → ((Lit.int .i64 x1).wf = true) → ((Lit.int .i64 x2).wf = true) → ∃ k, diaphonelaw02_HazeMeans.f k x0 x1 x2 = some true := by
  intro h a b _ _ _
  refine Tl.ex (g := fun k => diaphonelaw02_HazeMeans.f k h a b) ?_
  unfold diaphonelaw02_HazeMeans.f
  refine by_long (fun hl => ?_)
  obtain ⟨r, g1, g2⟩ := falling_both (h := h) (by omega)
  refine Tl.bind (ev_Mean (by omega) a b) (Tl.bind (ev_rMean (by omega) a b) (Tl.bind g1 (Tl.bind g2 (Tl.bind (ev_Validate (by omega)) (Tl.bind (ev_rValidate (by omega)) (Tl.pos rfl (Tl.pos (by simp) (Tl.pos rfl (Tl.pos (by simp) (Tl.pos rfl ev_known'))))))))))
end Go.Proofs.Ytgdhbeccpicdcaa.Pure
