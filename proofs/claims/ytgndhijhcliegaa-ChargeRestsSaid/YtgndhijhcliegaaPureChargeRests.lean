/- Proved here: for all weights and amounts, an amount is made up exactly if it is not below the residue of its remainder; it holds under no condition. -/
import Derived.Test.YtgndhijhcliegaaRs
import Derived.Test.YtgndhijhcliegaaPx34
set_option linter.unusedVariables false
namespace Go.Proofs.Ytgndhijhcliegaa.Pure
open Go.RowKit Go.Proofs.Ytgndhijhcliegaa.P Go.Proofs.Ytgndhijhcliegaa.E Go.Proofs.Ytgndhijhcliegaa.Va Go.Proofs.Ytgndhijhcliegaa.Kn Go.Proofs.Ytgndhijhcliegaa.Me Go.Proofs.Ytgndhijhcliegaa.Rs Go.Proofs.YtgndhijhcliegaaW.PrintMore
open Go.Proofs.YtgndhijhcliegaaW.PrintWords
theorem ChargeRests : ∀ (x0 : List Int) (x1 : Int), ((∀ y ∈ x0, (Lit.int .i64 y).wf = true) ∧ x0.length ≤ maxLen) → ((Lit.int .i64 x1).wf = true) → ∃ k, diaphonelaw07_ChargeRests.f k x0 x1 = some true := by
  intro w a _ _
  refine Tl.ex (g := fun k => diaphonelaw07_ChargeRests.f k w a) ?_
  unfold diaphonelaw07_ChargeRests.f
  refine by_long (fun hl => ?_)
  have jt : ∀ (l : List Int) (b : Bool), Tl (fun k => diaphonelaw07_ChargeRests.j0 k w a l b true) true := by
    intro l b
    refine Tl.succ ?_
    simp only [diaphonelaw07_ChargeRests.j0]
    exact Tl.pos trivial ev_sane'
  refine Tl.bind (ev_Residues w) (Tl.bind (ev_Can w a) ?_)
  unfold rc cc
  by_cases hv : vc w = 0
  · rw [if_pos hv]
    have ok := vc_ok.1 hv
    have hw := w0_range ok
    have hlen := ok.1
    refine Tl.pos rfl ?_
    by_cases h : ac w a = 0
    · rw [if_pos h]
      have hk := ac_ok.1 h
      obtain ⟨m, rfl⟩ : ∃ m : Nat, a = (m : Int) := ⟨a.toNat, by omega⟩
      have hml := Nat.mod_lt m (show w0 w > 0 by omega)
      have em : Int.tmod (m : Int) (w0 w : Int) = ((m % w0 w : Nat) : Int) := by rw [Int.tmod_eq_emod_of_nonneg (by omega)]; omega
      have hrr := rl_rd (w := w) hml
      have hrlen := rl_length w (w0 w)
      refine Tl.succ ?_
      simp only [diaphonelaw07_ChargeRests.j0]
      rw [hw.2.2, em, hrr, Int.toNat_natCast]
      refine Tl.neg (by decide) (Tl.pos (by omega) (Tl.pos (by omega) (Tl.neg (by omega) (Tl.pos (by omega) (Tl.pos (by omega) ?_)))))
      have hf : (fw w m ≥ 0) ↔ made w m := fw_nonneg
      rcases res_is w (m % w0 w) with ⟨h1, h2⟩ | ⟨n, h1, h2, h3, h4⟩
      · have hno : ¬ fw w m ≥ 0 := fun q => h2 m rfl (hf.1 q)
        refine Tl.neg (by omega) (Tl.pos ?_ ev_sane')
        rw [decide_eq_false hno]; rfl
      · refine Tl.pos (by omega) (Tl.pos ?_ ev_sane')
        rw [beq_iff_eq]
        refine decide_eq_decide.2 ?_
        rw [hf, h1]
        constructor
        · intro q
          have := h4 m rfl q
          omega
        · intro q
          exact made_up ok h3 (by omega) h2
    · rw [if_neg h]
      show Tl (fun k => diaphonelaw07_ChargeRests.j0 k w a (rl w (w0 w)) false (ac w a != 0)) true
      rw [show (ac w a != 0) = true from bne_iff_ne.2 h]
      exact jt _ _
  · rw [if_neg hv]
    exact Tl.neg hv (jt _ _)
end Go.Proofs.Ytgndhijhcliegaa.Pure
