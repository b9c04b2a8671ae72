/- Proved here: for all weights and amounts, an amount is made up exactly if it is no gap, and all above the greatest gap are; it holds under no condition. -/
import Derived.Test.YtgndhijhcliegaaGp
import Derived.Test.YtgndhijhcliegaaPx41
set_option linter.unusedVariables false
namespace Go.Proofs.Ytgndhijhcliegaa.Pure
open Go.RowKit Go.Proofs.Ytgndhijhcliegaa.P Go.Proofs.Ytgndhijhcliegaa.E Go.Proofs.Ytgndhijhcliegaa.Va Go.Proofs.Ytgndhijhcliegaa.Kn Go.Proofs.Ytgndhijhcliegaa.Me Go.Proofs.Ytgndhijhcliegaa.Rs Go.Proofs.Ytgndhijhcliegaa.Gp Go.Proofs.YtgndhijhcliegaaW.PrintMore
open Go.Proofs.YtgndhijhcliegaaW.PrintWords
theorem ChargeAbove : ∀ (x0 : List Int) (x1 : Int), ((∀ y ∈ x0, (Lit.int .i64 y).wf = true) ∧ x0.length ≤ maxLen) → ((Lit.int .i64 x1).wf = true) → ∃ k, diaphonelaw07_ChargeAbove.f k x0 x1 = some true := by
  intro w a _ _
  refine Tl.ex (g := fun k => diaphonelaw07_ChargeAbove.f k w a) ?_
  unfold diaphonelaw07_ChargeAbove.f
  refine by_long (fun hl => ?_)
  have jt : ∀ (l : List Int) (v : Int) (b : Bool), Tl (fun k => diaphonelaw07_ChargeAbove.j0 k a l v b true) true := by
    intro l v b
    refine Tl.succ ?_
    simp only [diaphonelaw07_ChargeAbove.j0]
    exact Tl.pos trivial ev_sane'
  refine Tl.bind (ev_Gaps w) ?_
  by_cases hs : sc w = 0
  · obtain ⟨ok, h1⟩ := sc_ok.1 hs
    obtain ⟨v, hv, v2, _, _⟩ := ev_greatest ok h1
    have e : gc w = (gl w, 0) := by unfold gc; rw [if_pos hs]
    rw [e]
    refine Tl.bind (ev_Greatest hs hv) (Tl.bind (ev_Can w a) (Tl.pos rfl (Tl.pos rfl ?_)))
    unfold cc
    by_cases h : ac w a = 0
    · rw [if_pos h]
      have hk := ac_ok.1 h
      obtain ⟨m, rfl⟩ : ∃ m : Nat, a = (m : Int) := ⟨a.toNat, by omega⟩
      have hf : (fw w m ≥ 0) ↔ made w m := fw_nonneg
      rw [Int.toNat_natCast]
      have hgl := gl_len w
      refine Tl.succ ?_
      simp only [diaphonelaw07_ChargeAbove.j0]
      refine Tl.neg (by decide) (Tl.bind (ev_Has (by omega) _) (Tl.pos ?_ ?_))
      · rw [beq_iff_eq]
        have hm := gl_mem (w := w) m
        by_cases c : made w m
        · rw [decide_eq_true (hf.2 c), decide_eq_false (fun q => (hm.1 q).2 c)]; rfl
        · rw [decide_eq_false (fun q => c (hf.1 q)), decide_eq_true (hm.2 ⟨by
            rcases Nat.lt_or_ge m 870 with q | q
            · omega
            · exact absurd (made_far ok h1 q) c, c⟩)]; rfl
      · by_cases c : (m : Int) ≤ v
        · exact Tl.pos c ev_sane'
        · exact Tl.neg c (Tl.pos (decide_eq_true (hf.2 (hv.2.1 m (by omega)))) ev_sane')
    · rw [if_neg h]
      dsimp only
      rw [show (ac w a != 0) = true from bne_iff_ne.2 h]
      exact jt _ _ _
  · have e : gc w = ([], sc w) := by unfold gc; rw [if_neg hs]
    rw [e]
    exact Tl.bind (ev_Greatest_no hs) (Tl.bind (ev_Can w a) (Tl.neg hs (jt _ _ _)))
end Go.Proofs.Ytgndhijhcliegaa.Pure
