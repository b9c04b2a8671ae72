/- Proved here: for all logs, costs and lists, a log with other signs is the document's, and two logs that are renamed are as far from each other; it holds under no condition. -/
import Derived.Test.YtcbepmdnhjojdaaRe
import Derived.Test.YtcbepmdnhjojdaaPx38
set_option linter.unusedVariables false
namespace Go.Proofs.Ytcbepmdnhjojdaa.Pure
open Go.RowKit Go.Proofs.Ytcbepmdnhjojdaa.P Go.Proofs.Ytcbepmdnhjojdaa.E Go.Proofs.Ytcbepmdnhjojdaa.Al Go.Proofs.Ytcbepmdnhjojdaa.Lo Go.Proofs.Ytcbepmdnhjojdaa.Lr Go.Proofs.Ytcbepmdnhjojdaa.Re Go.Proofs.YtcbepmdnhjojdaaW.PrintMore
open Go.Proofs.YtcbepmdnhjojdaaW.PrintWords
theorem LogRenames : ∀ (x0 : S26) (x1 : List Int), (((∀ y ∈ x0.f0, (Lit.int .i64 y).wf = true) ∧ x0.f0.length ≤ maxLen) ∧ ((∀ y ∈ x0.f1, (Lit.int .i64 y).wf = true) ∧ x0.f1.length ≤ maxLen) ∧ (((Lit.int .i64 x0.f2.f0).wf = true) ∧ ((Lit.int .i64 x0.f2.f1).wf = true) ∧ ((Lit.int .i64 x0.f2.f2).wf = true))) → ((∀ y ∈ x1, (Lit.int .i64 y).wf = true) ∧ x1.length ≤ maxLen) → ∃ k, diaphonelaw06_LogRenames.f k x0.f0 x0.f1 x0.f2.f0 x0.f2.f1 x0.f2.f2 x1 = some true := by
  intro x t _ _
  refine Tl.ex (g := fun k => diaphonelaw06_LogRenames.f k x.f0 x.f1 x.f2.f0 x.f2.f1 x.f2.f2 t) ?_
  unfold diaphonelaw06_LogRenames.f
  generalize x.f0 = l
  generalize x.f1 = m
  generalize x.f2.f0 = o
  generalize x.f2.f1 = i
  generalize x.f2.f2 = c
  have kn : Tl (fun k => diaphonelaw06_LogRenames.j0 k t true l m o i c) true := by
    refine Tl.succ ?_
    simp only [diaphonelaw06_LogRenames.j0]
    exact Tl.pos trivial ev_known'
  refine Tl.bind' (long_eq _ _ _ _ _) ?_
  cases h : lg l m with
  | true => exact Tl.pos rfl kn
  | false =>
    obtain ⟨h1, h2⟩ := lg_false h
    refine Tl.neg (by simp) (Tl.bind' (a := decide ((t.length : Int) > 100)) rfl ?_)
    by_cases ht : (t.length : Int) > 100
    · rw [decide_eq_true ht]; exact kn
    rw [decide_eq_false ht]
    refine Tl.succ ?_
    simp only [diaphonelaw06_LogRenames.j0]
    have hal : (rn l t).1.length ≤ 1000 := by unfold rn; split <;> (try split) <;> simp <;> omega
    have hbl : (rn m t).1.length ≤ 1000 := by unfold rn; split <;> (try split) <;> simp <;> omega
    refine Tl.neg (by simp) (Tl.bind (ev_Rename (by omega)) (Tl.bind (ev_rRename (by omega)) (Tl.bind (ev_SameInts _ hal) (Tl.pos rfl (Tl.succ ?_)))))
    simp only [diaphonelaw06_LogRenames.j1]
    obtain ⟨d1, g1, e1⟩ := ev_Distance (l := l) (m := m) (o := o) (i := i) (c := c) (by omega) (by omega)
    obtain ⟨d2, g2, e2⟩ := ev_Distance (l := (rn l t).1) (m := (rn m t).1) (o := o) (i := i) (c := c) hal hbl
    refine Tl.neg (by simp) (Tl.bind (ev_Rename (by omega)) (Tl.bind e1 (Tl.bind e2 ?_)))
    by_cases q1 : (rn l t).2 = 0
    case neg => exact Tl.neg q1 ev_known'
    refine Tl.pos q1 ?_
    by_cases q2 : (rn m t).2 = 0
    case neg => exact Tl.neg q2 ev_known'
    refine Tl.pos q2 ?_
    have r1 : lc l = 0 ∧ t.length = 6 ∧ All t ∧ (rn l t).1 = l.map (rd t) := by
      unfold rn at q1 ⊢
      by_cases a1 : lc l = 0
      · rw [if_pos a1] at q1 ⊢
        by_cases a2 : t.length = 6 ∧ All t
        · rw [if_pos a2]; exact ⟨a1, a2.1, a2.2, rfl⟩
        · rw [if_neg a2] at q1; exact absurd q1 (by decide)
      · rw [if_neg a1] at q1; exact absurd q1 a1
    obtain ⟨cl, ht6, hall, el⟩ := r1
    have r2 : lc m = 0 ∧ (rn m t).1 = m.map (rd t) := by
      unfold rn at q2 ⊢
      by_cases a1 : lc m = 0
      · rw [if_pos a1, if_pos ⟨ht6, hall⟩]; exact ⟨a1, rfl⟩
      · rw [if_neg a1] at q2; exact absurd q2 a1
    obtain ⟨cm, em⟩ := r2
    have gl := lc_zero.1 cl
    have gm := lc_zero.1 cm
    have bl : ∀ a ∈ l, fx (rd t a) t 0 = a := fun a ha => (back_sign ht6 hall (good_mem.1 gl.2 a ha)).1
    have bm : ∀ a ∈ m, fx (rd t a) t 0 = a := fun a ha => (back_sign ht6 hall (good_mem.1 gm.2 a ha)).1
    have cl' : lc (rn l t).1 = 0 := by
      rw [el]
      refine lc_zero.2 ⟨by simp; exact gl.1, good_mem.2 (fun x hx => ?_)⟩
      obtain ⟨a, ha, rfl⟩ := List.mem_map.1 hx
      exact (back_sign ht6 hall (good_mem.1 gl.2 a ha)).2
    have cm' : lc (rn m t).1 = 0 := by
      rw [em]
      refine lc_zero.2 ⟨by simp; exact gm.1, good_mem.2 (fun x hx => ?_)⟩
      obtain ⟨a, ha, rfl⟩ := List.mem_map.1 hx
      exact (back_sign ht6 hall (good_mem.1 gm.2 a ha)).2
    have ek : kc (rn l t).1 (rn m t).1 o i c = kc l m o i c := by unfold kc; rw [if_pos cl, if_pos cm, if_pos cl', if_pos cm']
    rw [ek]
    refine Tl.pos rfl ?_
    have ed : (if kc l m o i c = 0 then d1 else 0) = (if kc l m o i c = 0 then d2 else 0) := by
      by_cases hk : kc l m o i c = 0
      · rw [if_pos hk, if_pos hk]
        have q3 := isD_map (f := rd t) (g := fun y => fx y t 0) bl bm (g1 hk)
        rw [← el, ← em] at q3
        exact q3.unique (g2 (ek.trans hk))
      · rw [if_neg hk, if_neg hk]
    exact Tl.pos ed ev_known'
end Go.Proofs.Ytcbepmdnhjojdaa.Pure
