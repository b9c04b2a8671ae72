/- Proved here: for all logs and costs, a log from its last sign on is the document's, and two logs that are turned are as far from each other; it holds under no condition. -/
import Derived.Test.YtcbepmdnhjojdaaLb
import Derived.Test.YtcbepmdnhjojdaaPx37
set_option linter.unusedVariables false
namespace Go.Proofs.Ytcbepmdnhjojdaa.Pure
open Go.RowKit Go.Proofs.Ytcbepmdnhjojdaa.P Go.Proofs.Ytcbepmdnhjojdaa.E Go.Proofs.Ytcbepmdnhjojdaa.Al Go.Proofs.Ytcbepmdnhjojdaa.Lo Go.Proofs.Ytcbepmdnhjojdaa.Lr Go.Proofs.Ytcbepmdnhjojdaa.Lb Go.Proofs.YtcbepmdnhjojdaaW.PrintMore
open Go.Proofs.YtcbepmdnhjojdaaW.PrintWords
namespace Bks
theorem fin {l m : List Int} {o i c : Int} (hl : l.length ≤ 1000) (d : Nat) : ∀ (j : Nat) (a : List Int), a.length ≤ 1000 → j ≤ a.length → a.length - j = d → Tl (fun k => diaphonelaw06_LogBacks.l0 k l a true (j : Int) l m o i c) true := by
  induction d with
  | zero =>
    intro j a h0 h1 h2
    refine Tl.succ ?_
    simp only [diaphonelaw06_LogBacks.l0]
    exact Tl.neg (by omega) (Tl.pos trivial (Tl.bind (ev_SameInts l hl) (Tl.pos rfl ev_known')))
  | succ d ih =>
    intro j a h0 h1 h2
    have next := ih (j + 1) (a.set j (-1)) (by simp; omega) (by simp; omega) (by simp; omega)
    rw [show ((j + 1 : Nat) : Int) = (j : Int) + 1 by omega] at next
    refine Tl.succ ?_
    simp only [diaphonelaw06_LogBacks.l0]
    rw [w64 (x := (j : Int) + 1) (by omega) (by omega), Int.toNat_natCast]
    exact Tl.pos (by omega) (Tl.pos (by omega) next)
theorem j1t {l m a : List Int} {o i c : Int} (hl : l.length ≤ 1000) (ha : a.length ≤ 1000) : Tl (fun k => diaphonelaw06_LogBacks.j1 k l a true l m o i c) true := by
  refine Tl.succ ?_
  simp only [diaphonelaw06_LogBacks.j1]
  exact fin hl a.length 0 a ha (by omega) (by omega)
end Bks
theorem LogBacks : ∀ (x0 : S26), (((∀ y ∈ x0.f0, (Lit.int .i64 y).wf = true) ∧ x0.f0.length ≤ maxLen) ∧ ((∀ y ∈ x0.f1, (Lit.int .i64 y).wf = true) ∧ x0.f1.length ≤ maxLen) ∧ (((Lit.int .i64 x0.f2.f0).wf = true) ∧ ((Lit.int .i64 x0.f2.f1).wf = true) ∧ ((Lit.int .i64 x0.f2.f2).wf = true))) → ∃ k, diaphonelaw06_LogBacks.f k x0.f0 x0.f1 x0.f2.f0 x0.f2.f1 x0.f2.f2 = some true := by
  intro x _
  refine Tl.ex (g := fun k => diaphonelaw06_LogBacks.f k x.f0 x.f1 x.f2.f0 x.f2.f1 x.f2.f2) ?_
  unfold diaphonelaw06_LogBacks.f
  generalize x.f0 = l
  generalize x.f1 = m
  generalize x.f2.f0 = o
  generalize x.f2.f1 = i
  generalize x.f2.f2 = c
  refine Tl.bind' (long_eq _ _ _ _ _) ?_
  cases h : lg l m with
  | true => exact Tl.pos rfl ev_known'
  | false =>
    obtain ⟨h1, h2⟩ := lg_false h
    refine Tl.neg (by simp) (Tl.bind' rfl (Tl.pos (by simp; omega) (Tl.bind' (a := l) rfl ?_)))
    obtain ⟨a, ha⟩ : ∃ a, a = (if lc l = 0 then l.reverse else []) := ⟨_, rfl⟩
    have hal : a.length ≤ 1000 := by rw [ha]; split <;> simp <;> omega
    obtain ⟨b, hb⟩ : ∃ b, b = (if lc m = 0 then m.reverse else []) := ⟨_, rfl⟩
    have hbl : b.length ≤ 1000 := by rw [hb]; split <;> simp <;> omega
    have s1 := ev_Back (t := l) (by omega)
    have s2 := ev_rBack (t := l) (by omega)
    have s3 := ev_Back (t := m) (by omega)
    rw [← ha] at s1 s2
    rw [← hb] at s3
    obtain ⟨d1, g1, e1⟩ := ev_Distance (l := l) (m := m) (o := o) (i := i) (c := c) (by omega) (by omega)
    obtain ⟨d2, g2, e2⟩ := ev_Distance (l := a) (m := b) (o := o) (i := i) (c := c) hal hbl
    refine Tl.bind s1 (Tl.bind s2 (Tl.bind (ev_SameInts a hal) (Tl.pos rfl (Tl.succ ?_))))
    simp only [diaphonelaw06_LogBacks.j0]
    refine Tl.neg (by simp) (Tl.bind s3 (Tl.bind e1 (Tl.bind e2 ?_)))
    by_cases cl : lc l = 0
    case neg => exact Tl.neg cl (Bks.j1t (by omega) hal)
    refine Tl.pos cl ?_
    by_cases cm : lc m = 0
    case neg => exact Tl.neg cm (Bks.j1t (by omega) hal)
    refine Tl.pos cm ?_
    rw [if_pos cl] at ha
    rw [if_pos cm] at hb
    have ek : kc a b o i c = kc l m o i c := by unfold kc; rw [ha, hb, lc_rev, lc_rev]
    rw [ek]
    refine Tl.pos rfl ?_
    have ed : (if kc l m o i c = 0 then d1 else 0) = (if kc l m o i c = 0 then d2 else 0) := by
      by_cases hk : kc l m o i c = 0
      · rw [if_pos hk, if_pos hk]
        have q1 := isD_rev (g1 hk)
        rw [← ha, ← hb] at q1
        exact q1.unique (g2 (ek.trans hk))
      · rw [if_neg hk, if_neg hk]
    rw [ed, show ((if kc l m o i c = 0 then d2 else 0) == (if kc l m o i c = 0 then d2 else 0)) = true by simp]
    exact Bks.j1t (by omega) hal
end Go.Proofs.Ytcbepmdnhjojdaa.Pure
