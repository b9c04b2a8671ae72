/- Proved here: for all weights and amounts, the sum of two amounts that are made up is made up; it holds under no condition. -/
import Derived.Test.YtgndhijhcliegaaMe
import Derived.Test.YtgndhijhcliegaaPx33
set_option linter.unusedVariables false
namespace Go.Proofs.Ytgndhijhcliegaa.Pure
open Go.RowKit Go.Proofs.Ytgndhijhcliegaa.P Go.Proofs.Ytgndhijhcliegaa.E Go.Proofs.Ytgndhijhcliegaa.Va Go.Proofs.Ytgndhijhcliegaa.Kn Go.Proofs.Ytgndhijhcliegaa.Me Go.Proofs.YtgndhijhcliegaaW.PrintMore
open Go.Proofs.YtgndhijhcliegaaW.PrintWords
theorem ChargeAdds : ∀ (x0 : List Int) (x1 : Int) (x2 : Int), ((∀ y ∈ x0, (Lit.int .i64 y).wf = true) ∧ x0.length ≤ maxLen) → ((Lit.int .i64 x1).wf = true) → ((Lit.int .i64 x2).wf = true) → ∃ k, diaphonelaw07_ChargeAdds.f k x0 x1 x2 = some true := by
  intro w a b _ _ _
  refine Tl.ex (g := fun k => diaphonelaw07_ChargeAdds.f k w a b) ?_
  unfold diaphonelaw07_ChargeAdds.f
  refine by_long (fun hl => ?_)
  have jt : Tl (fun k => diaphonelaw07_ChargeAdds.j0 k w a b true) true := by
    refine Tl.succ ?_
    simp only [diaphonelaw07_ChargeAdds.j0]
    exact Tl.pos trivial ev_sane'
  refine Tl.bind (ev_Can w a) (Tl.bind (ev_Can w b) ?_)
  unfold cc
  by_cases ha : ac w a = 0
  · rw [if_pos ha]
    refine Tl.pos rfl ?_
    by_cases hb : ac w b = 0
    · rw [if_pos hb]
      refine Tl.pos rfl ?_
      have ka := ac_ok.1 ha
      have kb := ac_ok.1 hb
      by_cases ca : fw w a.toNat ≥ 0
      · refine Tl.pos (decide_eq_true ca) ?_
        by_cases cb : fw w b.toNat ≥ 0
        · show Tl (fun k => diaphonelaw07_ChargeAdds.j0 k w a b (!decide (fw w b.toNat ≥ 0))) true
          rw [decide_eq_true cb]
          refine Tl.succ ?_
          simp only [diaphonelaw07_ChargeAdds.j0]
          rw [w64 (x := a + b) (by omega) (by omega)]
          refine Tl.neg (by simp) (Tl.bind (ev_Can w (a + b)) ?_)
          obtain ⟨c, hc⟩ := fw_nonneg.1 ca
          obtain ⟨d, hd⟩ := fw_nonneg.1 cb
          have hs := fw_nonneg.2 ⟨_, mk_add hc hd⟩
          rw [show a.toNat + b.toNat = (a + b).toNat by omega] at hs
          unfold cc
          by_cases z : a + b ≤ 2000
          · rw [if_pos (ac_ok.2 ⟨ka.1, by omega, z⟩)]
            exact Tl.neg (show ¬ (0 : Int) = 1 by decide) (Tl.pos rfl (Tl.pos (decide_eq_true hs) ev_sane'))
          · have hac : ac w (a + b) = 1 := by unfold ac; rw [if_pos (vc_ok.2 ka.1), if_neg (by omega)]
            rw [hac, if_neg (by decide)]
            exact Tl.pos rfl (Tl.pos (by omega) ev_sane')
        · show Tl (fun k => diaphonelaw07_ChargeAdds.j0 k w a b (!decide (fw w b.toNat ≥ 0))) true
          rw [decide_eq_false cb]
          exact jt
      · exact Tl.neg (by rw [decide_eq_true_eq]; exact ca) jt
    · rw [if_neg hb]
      exact Tl.neg hb jt
  · rw [if_neg ha]
    exact Tl.neg ha jt
end Go.Proofs.Ytgndhijhcliegaa.Pure
