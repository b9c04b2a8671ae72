/- Proved here: for all weights and amounts, which amounts are made up, and by how few cartridges, is the document's answer, and they are multiples of the measure; it holds under no condition. -/
import Derived.Test.YtgndhijhcliegaaMe
import Derived.Test.YtgndhijhcliegaaPx35
set_option linter.unusedVariables false
namespace Go.Proofs.Ytgndhijhcliegaa.Pure
open Go.RowKit Go.Proofs.Ytgndhijhcliegaa.P Go.Proofs.Ytgndhijhcliegaa.E Go.Proofs.Ytgndhijhcliegaa.Va Go.Proofs.Ytgndhijhcliegaa.Kn Go.Proofs.Ytgndhijhcliegaa.Me Go.Proofs.YtgndhijhcliegaaW.PrintMore
open Go.Proofs.YtgndhijhcliegaaW.PrintWords
theorem ChargeCans : ∀ (x0 : List Int) (x1 : Int), ((∀ y ∈ x0, (Lit.int .i64 y).wf = true) ∧ x0.length ≤ maxLen) → ((Lit.int .i64 x1).wf = true) → ∃ k, diaphonelaw07_ChargeCans.f k x0 x1 = some true := by
  intro w a _ _
  refine Tl.ex (g := fun k => diaphonelaw07_ChargeCans.f k w a) ?_
  unfold diaphonelaw07_ChargeCans.f
  refine by_long (fun hl => ?_)
  have fin : ∀ (x : Bool) (e : Int), (x = true → e = 0 ∧ Ok w ∧ 0 ≤ a ∧ mg w w.length ∣ a.toNat) → Tl (fun k => diaphonelaw07_ChargeCans.j0 k w a x false) true := by
    intro x e hx
    refine Tl.succ ?_
    simp only [diaphonelaw07_ChargeCans.j0]
    refine Tl.neg (by simp) (Tl.bind (ev_Measure w) ?_)
    by_cases c : x = true
    · obtain ⟨_, ok, h0, hd⟩ := hx c
      have hr := mg_range ok
      have em : mc w = ((mg w w.length : Int), 0) := by unfold mc; rw [if_pos (vc_ok.2 ok)]
      rw [em]
      refine Tl.pos c (Tl.pos rfl (Tl.pos ?_ (Tl.neg ?_ (Tl.pos ?_ ev_sane'))))
      · show (mg w w.length : Int) > 0; omega
      · show ¬ (mg w w.length : Int) = 0; omega
      · show Int.tmod a (mg w w.length : Int) = 0
        rw [Int.tmod_eq_emod_of_nonneg h0, show a = (a.toNat : Int) by omega, ← Int.natCast_emod, Nat.mod_eq_zero_of_dvd hd]
        rfl
    · exact Tl.neg c ev_sane'
  refine Tl.bind (ev_Can w a) (Tl.bind (ev_Fewest w a) (Tl.bind (ev_rFewest w a) ?_))
  unfold cc fc
  by_cases h : ac w a = 0
  · have hk := ac_ok.1 h
    rw [if_pos h, if_pos h]
    by_cases c : fw w a.toNat ≥ 0
    · rw [if_pos c, decide_eq_true c]
      obtain ⟨n, hn⟩ := fw_nonneg.1 c
      exact Tl.neg (by simp) (Tl.pos rfl (Tl.pos rfl (Tl.neg (by simp) (fin true 0 (fun _ => ⟨rfl, hk.1, hk.2.1, mk_mg hn⟩)))))
    · rw [if_neg c, decide_eq_false c]
      exact Tl.neg (by simp) (Tl.pos rfl (Tl.pos rfl (Tl.neg (by simp) (fin false 0 (fun q => by simp at q)))))
  · rw [if_neg h, if_neg h]
    have e : (ac w a != ac w a) = false := by simp
    refine Tl.neg (by simp) (Tl.pos rfl (Tl.pos rfl (Tl.neg (by simp) ?_)))
    show Tl (fun k => diaphonelaw07_ChargeCans.j0 k w a false (ac w a != ac w a)) true
    rw [e]
    exact fin false 0 (fun q => by simp at q)
end Go.Proofs.Ytgndhijhcliegaa.Pure
