/- Proved here: for all weights, whether of all amounts and their counterparts just one is made up is the document's answer, and for two weights it is so; it holds under no condition. -/
import Derived.Test.YtgndhijhcliegaaTw
import Derived.Test.YtgndhijhcliegaaPx42
import Derived.Test.YtgndhijhcliegaaPx42
import Derived.Test.YtgndhijhcliegaaPx43
set_option linter.unusedVariables false
namespace Go.Proofs.Ytgndhijhcliegaa.Pure
open Go.RowKit Go.Proofs.Ytgndhijhcliegaa.P Go.Proofs.Ytgndhijhcliegaa.E Go.Proofs.Ytgndhijhcliegaa.Va Go.Proofs.Ytgndhijhcliegaa.Kn Go.Proofs.Ytgndhijhcliegaa.Me Go.Proofs.Ytgndhijhcliegaa.Rs Go.Proofs.Ytgndhijhcliegaa.Gp Go.Proofs.Ytgndhijhcliegaa.Tw Go.Proofs.YtgndhijhcliegaaW.PrintMore
open Go.Proofs.YtgndhijhcliegaaW.PrintWords
namespace Evn
/-- From a number on, each or its counterpart is made up. -/
def Ev (w : List Int) (v : Int) (i : Nat) : Prop := ∀ n : Nat, i ≤ n → (n : Int) ≤ v → (made w n ↔ ¬ made w (v.toNat - n))
theorem ev_IsEven {w : List Int} (hs : sc w = 0) {v : Int} (hv : Gt w v) (v2 : v ≤ 900) {r : Bool} (hr : r = true ↔ Ev w v 0) : Tl (fun k => charge_IsEven.f k w) (r, 0) := by
  obtain ⟨ok, h1⟩ := sc_ok.1 hs
  obtain ⟨u, hu, _, hg, _⟩ := ev_greatest ok h1
  obtain rfl := gt_unique hv hu
  obtain ⟨L, _, _, hf⟩ := ev_fill ok.wt (show 900 ≤ 10000 by omega)
  obtain ⟨T, hT⟩ : ∃ T, T = tab w (900 + 1) := ⟨_, rfl⟩
  rw [← hT] at hf
  have hcan : ∀ n : Nat, n ≤ 900 → charge_table_can.f T L (n : Int) = some (decide (fw w n ≥ 0)) := by
    intro n hn
    unfold charge_table_can.f
    rw [if_pos (by omega), if_pos (by rw [hT, tab_length]; omega), hT, tab_rd (by omega)]
  have hm : ∀ n : Nat, (decide (fw w n ≥ 0) = true) ↔ made w n := fun n => by rw [decide_eq_true_eq]; exact fw_nonneg
  have v1 := hv.1
  have loop : ∀ d i : Nat, (i : Int) + d = v + 1 → (r = true ↔ Ev w v i) → Tl (fun k => charge_IsEven.l0 k v (v + 1) (i : Int) T L) (r, 0) := by
    intro d
    induction d with
    | zero =>
      intro i h hr
      have : r = true := hr.2 (fun n h1 h2 => by omega)
      subst this
      refine Tl.succ ?_
      simp only [charge_IsEven.l0]
      exact Tl.neg (by omega) Tl.now
    | succ d ih =>
      intro i h hr
      refine Tl.succ ?_
      simp only [charge_IsEven.l0]
      rw [w64 (x := (i : Int) + 1) (by omega) (by omega), w64 (x := v - (i : Int)) (by omega) (by omega), show v - (i : Int) = ((v.toNat - i : Nat) : Int) by omega, show (i : Int) + 1 = ((i + 1 : Nat) : Int) by omega]
      refine Tl.pos (by omega) (Tl.bind' (hcan i (by omega)) (Tl.bind' (hcan _ (by omega)) ?_))
      by_cases c : made w i ↔ ¬ made w (v.toNat - i)
      · refine Tl.neg ?_ (ih (i + 1) (by omega) (hr.trans ⟨fun q n h1 h2 => q n (by omega) h2, fun q n h1 h2 => by
          by_cases e : n = i
          · rw [e]; exact c
          · exact q n (by omega) h2⟩))
        rw [beq_iff_eq, Bool.eq_iff_iff, hm, hm, c]
        exact fun q => by by_cases z : made w (v.toNat - i) <;> simp [z] at q
      · have : r = false := by
          cases r with
          | false => rfl
          | true => exact absurd (hr.1 rfl i (Nat.le_refl _) (by omega)) c
        subst this
        refine Tl.pos ?_ Tl.now
        rw [beq_iff_eq, Bool.eq_iff_iff, hm, hm]
        by_cases z1 : made w i <;> by_cases z2 : made w (v.toNat - i) <;> simp [z1, z2] at c ⊢
  unfold charge_IsEven.f
  refine Tl.bind (ev_single w) (Tl.pos hs (Tl.bind hf (Tl.bind hg ?_)))
  rw [w64 (x := v + 1) (by omega) (by omega)]
  exact loop (v + 1).toNat 0 (by omega) hr
theorem ev_rIsEven {w : List Int} (hs : sc w = 0) {v : Int} (hv : Gt w v) (v2 : v ≤ 900) {r : Bool} (hr : r = true ↔ Ev w v 0) : Tl (fun k => diaphoneref07_IsEven.f k w) (r, 0) := by
  obtain ⟨ok, h1⟩ := sc_ok.1 hs
  have e : gc w = (gl w, 0) := by unfold gc; rw [if_pos hs]
  have hg := ev_rGaps w
  rw [e] at hg
  have hl := gl_len w
  have hlast := last_gap ok h1
  have hmem := gl_mem (w := w)
  generalize gl w = G at hg hl hlast hmem
  have v1 := hv.1
  unfold diaphoneref07_IsEven.f
  rcases hlast with ⟨e1, e2⟩ | ⟨D, n, e1, e2, e3⟩
  · obtain rfl := gt_unique hv e2
    have : r = true := hr.2 (fun n h1 h2 => by omega)
    subst this
    subst e1
    exact Tl.bind hg (Tl.pos rfl (Tl.pos rfl Tl.now))
  · obtain rfl := gt_unique hv e3
    have hh : ∀ m : Nat, m ≤ 900 → Tl (fun k => diaphoneref07_Has.f k G (m : Int)) (!decide (made w m)) := by
      intro m hm
      refine Tl.to (ev_Has (by omega) _) ?_
      by_cases c : made w m
      · rw [decide_eq_true c, decide_eq_false (fun q => ((hmem m).1 q).2 c)]; rfl
      · rw [decide_eq_false c, decide_eq_true ((hmem m).2 ⟨by omega, c⟩)]; rfl
    have loop : ∀ d i : Nat, i + d = n + 1 → (r = true ↔ Ev w n i) → Tl (fun k => diaphoneref07_IsEven.l0 k G (n : Int) (i : Int)) (r, 0) := by
      intro d
      induction d with
      | zero =>
        intro i h hr
        have : r = true := hr.2 (fun m h1 h2 => by omega)
        subst this
        refine Tl.succ ?_
        simp only [diaphoneref07_IsEven.l0]
        exact Tl.neg (by omega) Tl.now
      | succ d ih =>
        intro i h hr
        refine Tl.succ ?_
        simp only [diaphoneref07_IsEven.l0]
        rw [w64 (x := (i : Int) + 1) (by omega) (by omega), w64 (x := (n : Int) - (i : Int)) (by omega) (by omega), show (n : Int) - (i : Int) = ((n - i : Nat) : Int) by omega, show (i : Int) + 1 = ((i + 1 : Nat) : Int) by omega]
        refine Tl.pos (by omega) (Tl.bind (hh i (by omega)) (Tl.bind (hh _ (by omega)) ?_))
        by_cases c : made w i ↔ ¬ made w (n - i)
        · refine Tl.neg ?_ (ih (i + 1) (by omega) (hr.trans ⟨fun q m h1 h2 => q m (by omega) h2, fun q m h1 h2 => by
            by_cases e : m = i
            · rw [e, Int.toNat_natCast]; exact c
            · exact q m (by omega) h2⟩))
          by_cases z1 : made w i <;> by_cases z2 : made w (n - i) <;> simp [z1, z2] at c ⊢
        · have : r = false := by
            cases r with
            | false => rfl
            | true =>
              have := hr.1 rfl i (Nat.le_refl _) (by omega)
              rw [Int.toNat_natCast] at this
              exact absurd this c
          subst this
          refine Tl.pos ?_ Tl.now
          by_cases z1 : made w i <;> by_cases z2 : made w (n - i) <;> simp [z1, z2] at c ⊢
    have hfin := loop (n + 1) 0 (by omega) hr
    clear hh loop
    have el : wrap64 ((G.length : Int) - 1) = (D.length : Int) := by
      rw [e1, show (((D ++ [(n : Int)]).length : Int) - 1) = (D.length : Int) by simp, w64 (by omega) (by rw [e1] at hl; simp at hl; omega)]
    have er : rd G (D.length : Int) = (n : Int) := by rw [e1, rd_snoc]
    have hGl : G.length = D.length + 1 := by rw [e1]; simp
    refine Tl.bind hg (Tl.pos rfl ?_)
    dsimp only
    rw [el, er]
    exact Tl.neg (by omega) (Tl.pos (by omega) (Tl.pos (by omega) hfin))
end Evn
open Evn
theorem ChargeEven : ∀ (x0 : List Int), ((∀ y ∈ x0, (Lit.int .i64 y).wf = true) ∧ x0.length ≤ maxLen) → ∃ k, diaphonelaw07_ChargeEven.f k x0 = some true := by
  intro w _
  refine Tl.ex (g := fun k => diaphonelaw07_ChargeEven.f k w) ?_
  unfold diaphonelaw07_ChargeEven.f
  refine by_long (fun hl => ?_)
  by_cases hs : sc w = 0
  · obtain ⟨ok, h1⟩ := sc_ok.1 hs
    obtain ⟨v, hv, v2, _, _⟩ := ev_greatest ok h1
    obtain ⟨r, hr⟩ : ∃ r : Bool, r = true ↔ Ev w v 0 := by
      by_cases c : Ev w v 0
      · exact ⟨true, fun _ => c, fun _ => rfl⟩
      · exact ⟨false, fun q => by simp at q, fun q => absurd q c⟩
    refine Tl.bind (ev_IsEven hs hv v2 hr) (Tl.bind (ev_rIsEven hs hv v2 hr) (Tl.pos (by simp) (Tl.pos rfl (Tl.pos rfl ?_))))
    by_cases h2 : (w.length : Int) = 2
    · have h2' : w.length = 2 := by omega
      have : r = true := hr.2 (fun n _ hn => by
        have hF := gt_two ok h2' h1
        have he := even ok h2' h1 (n : Int)
        rw [← gt_unique hv hF, Int.toNat_natCast, show v - (n : Int) = ((v.toNat - n : Nat) : Int) by omega, Int.toNat_natCast] at he
        constructor
        · intro q z; exact he.1 ⟨by omega, q⟩ ⟨by omega, z⟩
        · intro q; exact (he.2 (fun z => q z.2)).2)
      exact Tl.pos h2 (Tl.pos this ev_sane')
    · exact Tl.neg h2 ev_sane'
  · have e : gc w = ([], sc w) := by unfold gc; rw [if_neg hs]
    have g2 := ev_rGaps w
    rw [e] at g2
    have e1 : Tl (fun k => charge_IsEven.f k w) (false, sc w) := by
      unfold charge_IsEven.f
      exact Tl.bind (ev_single w) (Tl.neg hs Tl.now)
    have e2 : Tl (fun k => diaphoneref07_IsEven.f k w) (false, sc w) := by
      unfold diaphoneref07_IsEven.f
      exact Tl.bind g2 (Tl.neg hs Tl.now)
    exact Tl.bind e1 (Tl.bind e2 (Tl.pos (by simp) (Tl.pos rfl (Tl.neg hs ev_sane'))))
end Go.Proofs.Ytgndhijhcliegaa.Pure
