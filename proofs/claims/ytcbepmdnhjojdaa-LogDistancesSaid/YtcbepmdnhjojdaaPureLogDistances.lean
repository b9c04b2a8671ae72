/- Proved here: for all logs and costs, the distance is the document's, and the comparison that the program returns has it; it holds under no condition. -/
import Derived.Test.YtcbepmdnhjojdaaBs
import Derived.Test.YtcbepmdnhjojdaaPx54
set_option linter.unusedVariables false
namespace Go.Proofs.Ytcbepmdnhjojdaa.Pure
open Go.RowKit Go.Proofs.Ytcbepmdnhjojdaa.P Go.Proofs.Ytcbepmdnhjojdaa.E Go.Proofs.Ytcbepmdnhjojdaa.Al Go.Proofs.Ytcbepmdnhjojdaa.Lo Go.Proofs.Ytcbepmdnhjojdaa.Lr Go.Proofs.Ytcbepmdnhjojdaa.Cn Go.Proofs.Ytcbepmdnhjojdaa.Cq Go.Proofs.Ytcbepmdnhjojdaa.En Go.Proofs.Ytcbepmdnhjojdaa.Bs Go.Proofs.YtcbepmdnhjojdaaW.PrintMore
open Go.Proofs.YtcbepmdnhjojdaaW.PrintWords
namespace Dis
def v (l m : List Int) (o i c : Int) : Int := if kc l m o i c = 0 then log_tb l m o i c l.length m.length else 0
theorem ev_lDist {l m : List Int} {o i c : Int} (hl : l.length ≤ 1000) (hm : m.length ≤ 1000) : Tl (fun k => log_Distance.f k l m o i c) (v l m o i c, kc l m o i c) := by
  unfold log_Distance.f v
  by_cases h : kc l m o i c = 0
  · obtain ⟨h1, h2, h3⟩ := kc_zero.1 h
    have g3 := cc_zero.1 h3
    rw [if_pos h, h]
    exact Tl.bind (ev_check hl hm) (Tl.pos h (Tl.bind' (ldistance_eq (lc_zero.1 h1).1 (lc_zero.1 h2).1 ⟨by omega, by omega⟩ ⟨by omega, by omega⟩ ⟨by omega, by omega⟩) Tl.now))
  · rw [if_neg h]; exact Tl.bind (ev_check hl hm) (Tl.neg h Tl.now)
theorem ev_rDist {l m : List Int} {o i c : Int} (hl : l.length ≤ 1000) (hm : m.length ≤ 1000) : Tl (fun k => diaphoneref06_Distance.f k l m o i c) (v l m o i c, kc l m o i c) := by
  unfold diaphoneref06_Distance.f v
  by_cases h : kc l m o i c = 0
  · obtain ⟨h1, h2, h3⟩ := kc_zero.1 h
    have g3 := cc_zero.1 h3
    rw [if_pos h, h]
    exact Tl.bind (ev_costed hl hm) (Tl.pos h (Tl.bind (ev_rdistance (lc_zero.1 h1).1 (lc_zero.1 h2).1 ⟨by omega, by omega⟩ ⟨by omega, by omega⟩ ⟨by omega, by omega⟩) Tl.now))
  · rw [if_neg h]; exact Tl.bind (ev_costed hl hm) (Tl.neg h Tl.now)
theorem same_loop2 {a b : List Int} (hl : a.length ≤ 1000) (he : a.length = b.length) : ∀ (d i : Nat), i ≤ a.length → a.length - i = d → Tl (fun k => diaphoneref01_SameInts.l0 k a b (i : Int)) (decide (a.drop i = b.drop i)) := by
  intro d
  induction d with
  | zero =>
    intro i h1 h2
    refine Tl.succ ?_
    simp only [diaphoneref01_SameInts.l0]
    refine Tl.to (Tl.neg (by omega) Tl.now) ?_
    rw [List.drop_eq_nil_of_le (by omega), List.drop_eq_nil_of_le (by omega)]; rfl
  | succ d ih =>
    intro i h1 h2
    have ha : i < a.length := by omega
    have hb : i < b.length := by omega
    have next := ih (i + 1) (by omega) (by omega)
    have E1 := Aside0.mk (show wrap64 ((i : Int) + 1) = ((i + 1 : Nat) : Int) by rw [w64 (by omega) (by omega)]; omega)
    refine Tl.succ ?_
    simp only [diaphoneref01_SameInts.l0]
    rw [E1.out, rd_lt ha, rd_lt hb, drop_cons ha, drop_cons hb]
    refine Tl.pos (by omega) (Tl.pos (by omega) (Tl.pos (by omega) ?_))
    by_cases h : a[i] = b[i]
    · exact Tl.to (Tl.pos h next) (decide_eq_decide.2 ⟨fun e => by rw [h, e], fun e => (List.cons.inj e).2⟩)
    · exact Tl.to (Tl.neg h Tl.now) (decide_eq_false (fun e => h (List.cons.inj e).1)).symm
theorem ev_Same {a b : List Int} (hl : a.length ≤ 1000) : Tl (fun k => diaphoneref01_SameInts.f k a b) (decide (a = b)) := by
  unfold diaphoneref01_SameInts.f
  by_cases he : a.length = b.length
  · have := same_loop2 hl he a.length 0 (by omega) (by omega)
    rw [List.drop_zero, List.drop_zero] at this
    exact Tl.pos (by omega) this
  · exact Tl.to (Tl.neg (by omega) Tl.now) (decide_eq_false (fun e => he (by rw [e]))).symm
theorem core {l m : List Int} {o i c : Int} (hl : l.length ≤ 1000) (hm : m.length ≤ 1000) (U : Cmp) (hU : kc l m o i c = 0 → Up l.length m.length 0 0 U ∧ U.length ≤ l.length ∧ U.length ≤ m.length ∧ uc o i (gp l m c) l.length m.length U = log_tb l m o i c l.length m.length) : Tl (fun k => diaphonelaw06_LogDistances.j0 k (v l m o i c) (kc l m o i c) (if kc l m o i c = 0 then U.map mk else []) false l m o i c) true := by
  refine Tl.succ ?_
  simp only [diaphonelaw06_LogDistances.j0]
  refine Tl.neg (by simp) ?_
  by_cases h : kc l m o i c = 0
  · obtain ⟨u1, u2, u3, u4⟩ := hU h
    obtain ⟨h1, h2, h3⟩ := kc_zero.1 h
    have g3 := cc_zero.1 h3
    have hd := tb_isD (l := l) (m := m) (o := o) (i := i) (c := c) l.length m.length (Nat.le_refl _) (Nat.le_refl _)
    rw [List.take_length, List.take_length] at hd
    have hz := isD_zero (by omega) (by omega) (by omega) hd
    have hv : v l m o i c = log_tb l m o i c l.length m.length := by unfold v; rw [if_pos h]
    rw [if_pos h, hv]
    refine Tl.pos h (Tl.bind (ev_rPairs h u1 u2 u3) (Tl.pos rfl (Tl.pos u4 (Tl.bind (ev_Same hl) (Tl.pos ?_ ev_known')))))
    by_cases e : l = m
    · rw [decide_eq_true e, beq_iff_eq.mpr (hz.2 e)]; rfl
    · rw [decide_eq_false e, beq_eq_false_iff_ne.mpr (fun q => e (hz.1 q))]; rfl
  · rw [if_neg h]
    exact Tl.neg h (Tl.pos rfl ev_known')
end Dis
theorem LogDistances : ∀ (x0 : S26), (((∀ y ∈ x0.f0, (Lit.int .i64 y).wf = true) ∧ x0.f0.length ≤ maxLen) ∧ ((∀ y ∈ x0.f1, (Lit.int .i64 y).wf = true) ∧ x0.f1.length ≤ maxLen) ∧ (((Lit.int .i64 x0.f2.f0).wf = true) ∧ ((Lit.int .i64 x0.f2.f1).wf = true) ∧ ((Lit.int .i64 x0.f2.f2).wf = true))) → ∃ k, diaphonelaw06_LogDistances.f k x0.f0 x0.f1 x0.f2.f0 x0.f2.f1 x0.f2.f2 = some true := by
  intro x _
  refine Tl.ex (g := fun k => diaphonelaw06_LogDistances.f k x.f0 x.f1 x.f2.f0 x.f2.f1 x.f2.f2) ?_
  unfold diaphonelaw06_LogDistances.f
  refine Tl.bind' (long_eq _ _ _ _ _) ?_
  cases h : lg x.f0 x.f1 with
  | true => exact Tl.pos rfl ev_known'
  | false =>
    obtain ⟨h1, h2⟩ := lg_false h
    have hl : x.f0.length ≤ 1000 := by omega
    have hm : x.f1.length ≤ 1000 := by omega
    obtain ⟨U, hU, e⟩ := ev_Best (l := x.f0) (m := x.f1) (o := x.f2.f0) (i := x.f2.f1) (c := x.f2.f2) hl hm
    refine Tl.neg (by simp) (Tl.bind (Dis.ev_lDist hl hm) (Tl.bind (Dis.ev_rDist hl hm) (Tl.bind e (Tl.pos rfl (Tl.pos rfl ?_)))))
    rw [show (kc x.f0 x.f1 x.f2.f0 x.f2.f1 x.f2.f2 != kc x.f0 x.f1 x.f2.f0 x.f2.f1 x.f2.f2) = false by simp]
    exact Dis.core hl hm U hU
end Go.Proofs.Ytcbepmdnhjojdaa.Pure
