/- Proved here: for all logs and costs, the way over a third log is never shorter; it holds under no condition. -/
import Derived.Test.YtcbepmdnhjojdaaLo
import Derived.Test.YtcbepmdnhjojdaaPx33
set_option linter.unusedVariables false
namespace Go.Proofs.Ytcbepmdnhjojdaa.Pure
open Go.RowKit Go.Proofs.Ytcbepmdnhjojdaa.P Go.Proofs.Ytcbepmdnhjojdaa.E Go.Proofs.Ytcbepmdnhjojdaa.Al Go.Proofs.Ytcbepmdnhjojdaa.Lo Go.Proofs.YtcbepmdnhjojdaaW.PrintMore
open Go.Proofs.YtcbepmdnhjojdaaW.PrintWords
namespace Tri
theorem core {l m t : List Int} {o i c : Int} (hl : l.length ≤ 1000) (hm : m.length ≤ 1000) (ht : t.length ≤ 1000) : Tl (fun k => diaphonelaw06_LogTriangles.j0 k t false l m o i c) true := by
  obtain ⟨d1, g1, e1⟩ := ev_Distance (l := l) (m := m) (o := o) (i := i) (c := c) hl hm
  obtain ⟨d2, g2, e2⟩ := ev_Distance (l := l) (m := t) (o := o) (i := i) (c := c) hl ht
  obtain ⟨d3, g3, e3⟩ := ev_Distance (l := t) (m := m) (o := o) (i := i) (c := c) ht hm
  obtain ⟨d4, g4, e4⟩ := ev_Distance (l := m) (m := l) (o := o) (i := i) (c := c) hm hl
  have j1t : ∀ x y z : Int, Tl (fun k => diaphonelaw06_LogTriangles.j1 k x y z true l m o i c) true := by
    intro x y z
    refine Tl.succ ?_
    simp only [diaphonelaw06_LogTriangles.j1]
    exact Tl.pos trivial ev_known'
  refine Tl.succ ?_
  simp only [diaphonelaw06_LogTriangles.j0]
  refine Tl.neg (by simp) (Tl.bind e1 (Tl.bind e2 (Tl.bind e3 ?_)))
  by_cases co : o = i
  case neg => exact Tl.neg co (j1t _ _ _)
  refine Tl.pos co ?_
  by_cases k1 : kc l m o i c = 0
  case neg => exact Tl.neg k1 (j1t _ _ _)
  refine Tl.pos k1 ?_
  by_cases k2 : kc l t o i c = 0
  case neg => exact Tl.neg k2 (j1t _ _ _)
  refine Tl.pos k2 ?_
  obtain ⟨a1, a2, a3⟩ := kc_zero.1 k1
  obtain ⟨b1, b2, b3⟩ := kc_zero.1 k2
  have k3 : kc t m o i c = 0 := kc_zero.2 ⟨b2, a2, a3⟩
  have k4 : kc m l o i c = 0 := kc_zero.2 ⟨a2, a1, a3⟩
  have hc := cc_zero.1 a3
  have h1 := g1 k1
  have h2 := g2 k2
  have h3 := g3 k3
  have h4 := g4 k4
  have tri := isD_triangle (by omega) (by omega) (by omega) h1 h2 h3
  have e : d4 = d1 := by
    have := isD_swap h1
    rw [← co] at this h4
    exact h4.unique this
  have bd : ∀ {u v : List Int} {d : Int}, u.length ≤ 10 → v.length ≤ 10 → IsD o i c u v d → 0 ≤ d ∧ d ≤ 1000 := by
    intro u v d hu hv hd
    have p1 := al_nonneg (by omega) (by omega) (by omega) hd.1
    have p2 := hd.2 _ (al_all u v)
    have p3 : o * (u.length : Int) ≤ 9 * (u.length : Int) := Int.mul_le_mul_of_nonneg_right hc.1.2 (by omega)
    have p4 : i * (v.length : Int) ≤ 9 * (v.length : Int) := Int.mul_le_mul_of_nonneg_right hc.2.1.2 (by omega)
    omega
  have w2 := bd (lc_zero.1 b1).1 (lc_zero.1 b2).1 h2
  have w3 := bd (lc_zero.1 b2).1 (lc_zero.1 a2).1 h3
  rw [if_pos k1, if_pos k2, if_pos k3, k3]
  refine Tl.succ ?_
  simp only [diaphonelaw06_LogTriangles.j1]
  refine Tl.neg (by simp) (Tl.bind e4 ?_)
  rw [if_pos k4, k4]
  refine Tl.pos ?_ (Tl.pos rfl (Tl.pos e ev_known'))
  rw [w64 (by omega) (by omega)]; exact tri
end Tri
theorem LogTriangles : ∀ (x0 : S26) (x1 : List Int), (((∀ y ∈ x0.f0, (Lit.int .i64 y).wf = true) ∧ x0.f0.length ≤ maxLen) ∧ ((∀ y ∈ x0.f1, (Lit.int .i64 y).wf = true) ∧ x0.f1.length ≤ maxLen) ∧ (((Lit.int .i64 x0.f2.f0).wf = true) ∧ ((Lit.int .i64 x0.f2.f1).wf = true) ∧ ((Lit.int .i64 x0.f2.f2).wf = true))) → ((∀ y ∈ x1, (Lit.int .i64 y).wf = true) ∧ x1.length ≤ maxLen) → ∃ k, diaphonelaw06_LogTriangles.f k x0.f0 x0.f1 x0.f2.f0 x0.f2.f1 x0.f2.f2 x1 = some true := by
  intro x t _ _
  refine Tl.ex (g := fun k => diaphonelaw06_LogTriangles.f k x.f0 x.f1 x.f2.f0 x.f2.f1 x.f2.f2 t) ?_
  unfold diaphonelaw06_LogTriangles.f diaphonelaw06_large.f
  have j0t : Tl (fun k => diaphonelaw06_LogTriangles.j0 k t true x.f0 x.f1 x.f2.f0 x.f2.f1 x.f2.f2) true := by
    refine Tl.succ ?_
    simp only [diaphonelaw06_LogTriangles.j0]
    exact Tl.pos trivial ev_known'
  refine Tl.bind' (long_eq _ _ _ _ _) ?_
  cases h : lg x.f0 x.f1 with
  | true => exact Tl.pos rfl j0t
  | false =>
    obtain ⟨h1, h2⟩ := lg_false h
    refine Tl.neg (by simp) ?_
    by_cases ct : (t.length : Int) > 100
    · exact Tl.bind' (congrArg some (decide_eq_true ct)) j0t
    · exact Tl.bind' (congrArg some (decide_eq_false ct)) (Tri.core (by omega) (by omega) (by omega))
end Go.Proofs.Ytcbepmdnhjojdaa.Pure
