/- Proved here: for all logs, costs and tables, the tables that grow slowly and their last number are those of the document, and it is at most the distance; it holds under no condition. -/
import Derived.Test.YtcbepmdnhjojdaaTh
import Derived.Test.YtcbepmdnhjojdaaPx57
set_option linter.unusedVariables false
namespace Go.Proofs.Ytcbepmdnhjojdaa.Pure
open Go.RowKit Go.Proofs.Ytcbepmdnhjojdaa.P Go.Proofs.Ytcbepmdnhjojdaa.E Go.Proofs.Ytcbepmdnhjojdaa.Al Go.Proofs.Ytcbepmdnhjojdaa.Lo Go.Proofs.Ytcbepmdnhjojdaa.Lr Go.Proofs.Ytcbepmdnhjojdaa.En Go.Proofs.Ytcbepmdnhjojdaa.Tg Go.Proofs.Ytcbepmdnhjojdaa.Th Go.Proofs.YtcbepmdnhjojdaaW.PrintMore
open Go.Proofs.YtcbepmdnhjojdaaW.PrintWords
namespace Tab
section
variable {l m : List Int} {o i c : Int} {t : List (List Int)}
theorem ev_lDist (hl : l.length ≤ 1000) (hm : m.length ≤ 1000) : Tl (fun k => log_Distance.f k l m o i c) (if kc l m o i c = 0 then log_tb l m o i c l.length m.length else 0, kc l m o i c) := by
  unfold log_Distance.f
  by_cases h : kc l m o i c = 0
  · obtain ⟨h1, h2, h3⟩ := kc_zero.1 h
    have g3 := cc_zero.1 h3
    rw [if_pos h, h]
    exact Tl.bind (ev_check hl hm) (Tl.pos h (Tl.bind' (ldistance_eq (lc_zero.1 h1).1 (lc_zero.1 h2).1 ⟨by omega, by omega⟩ ⟨by omega, by omega⟩ ⟨by omega, by omega⟩) Tl.now))
  · rw [if_neg h]; exact Tl.bind (ev_check hl hm) (Tl.neg h Tl.now)
theorem ct_zero (h : (ct l m o i c t).2 = 0) : kc l m o i c = 0 ∧ (ct l m o i c t).1 ≤ log_tb l m o i c l.length m.length := by
  unfold ct at h ⊢
  by_cases h1 : kc l m o i c = 0
  · rw [if_pos h1] at h ⊢
    refine ⟨h1, ?_⟩
    by_cases h2 : t.length = l.length + 1
    · rw [if_pos h2] at h ⊢
      by_cases h3 : ∀ a, a ≤ l.length → Rw m t a
      · rw [if_pos h3] at h ⊢
        unfold sv at h ⊢
        by_cases h4 : ∀ a, a ≤ l.length → ∀ b, b ≤ m.length → Sl l m o i c t a b
        · rw [if_pos h4]
          exact sl_le h4 l.length m.length (Nat.le_refl _) (Nat.le_refl _)
        · rw [if_neg h4] at h; exact absurd h (by decide)
      · rw [if_neg h3] at h; exact absurd h (by decide)
    · rw [if_neg h2] at h; exact absurd h (by decide)
  · rw [if_neg h1] at h; exact absurd h h1
theorem fin (hl : l.length ≤ 1000) (hm : m.length ≤ 1000) : Tl (fun k => diaphonelaw06_LogTables.j2 k (ct l m o i c t).1 (ct l m o i c t).2 false l m o i c) true := by
  refine Tl.succ ?_
  simp only [diaphonelaw06_LogTables.j2]
  refine Tl.neg (by simp) (Tl.bind (ev_lDist hl hm) ?_)
  by_cases h : (ct l m o i c t).2 = 0
  · obtain ⟨h1, h2⟩ := ct_zero h
    rw [if_pos h1]
    exact Tl.pos h (Tl.pos h1 (Tl.pos h2 ev_known'))
  · exact Tl.neg h ev_known'
theorem look (hl : l.length ≤ 1000) (hm : m.length ≤ 1000) (ht : t.length ≤ 100) : ∀ (d a : Nat), a ≤ t.length → t.length - a = d → (∀ a' : Nat, a' < a → (rd_L1 t (a' : Int)).length ≤ 100) → Tl (fun k => diaphonelaw06_LogTables.l0 k t (a : Int) l m o i c) true := by
  intro d
  induction d with
  | zero =>
    intro a h1 h2 h3
    refine Tl.succ ?_
    simp only [diaphonelaw06_LogTables.l0]
    refine Tl.neg (by omega) (Tl.bind (ev_CheckTable hl hm (fun a' ha' => by have := h3 a' (by omega); omega)) (Tl.bind (ev_rCheckTable hl hm) (Tl.pos rfl ?_)))
    rw [show ((ct l m o i c t).2 != (ct l m o i c t).2) = false by simp]
    exact fin hl hm
  | succ d ih =>
    intro a h1 h2 h3
    have E := Aside0.mk (nx' (a := a) (by omega))
    refine Tl.succ ?_
    simp only [diaphonelaw06_LogTables.l0, diaphonelaw06_large.f]
    rw [E.out]
    refine Tl.pos (by omega) (Tl.pos (by omega) ?_)
    by_cases k1 : ((rd_L1 t (a : Int)).length : Int) > 100
    · exact Tl.bind' (congrArg some (decide_eq_true k1)) (Tl.pos rfl ev_known')
    · refine Tl.bind' (congrArg some (decide_eq_false k1)) (Tl.neg (by simp) (ih (a + 1) (by omega) (by omega) (fun y hy => ?_)))
      by_cases e : y = a
      · subst e; omega
      · exact h3 y (by omega)
end
end Tab
theorem LogTables : ∀ (x0 : S26) (x1 : List (List Int)), (((∀ y ∈ x0.f0, (Lit.int .i64 y).wf = true) ∧ x0.f0.length ≤ maxLen) ∧ ((∀ y ∈ x0.f1, (Lit.int .i64 y).wf = true) ∧ x0.f1.length ≤ maxLen) ∧ (((Lit.int .i64 x0.f2.f0).wf = true) ∧ ((Lit.int .i64 x0.f2.f1).wf = true) ∧ ((Lit.int .i64 x0.f2.f2).wf = true))) → ((∀ y ∈ x1, (∀ yy ∈ y, (Lit.int .i64 yy).wf = true) ∧ y.length ≤ maxLen) ∧ x1.length ≤ maxLen) → ∃ k, diaphonelaw06_LogTables.f k x0.f0 x0.f1 x0.f2.f0 x0.f2.f1 x0.f2.f2 x1 = some true := by
  intro x t _ _
  refine Tl.ex (g := fun k => diaphonelaw06_LogTables.f k x.f0 x.f1 x.f2.f0 x.f2.f1 x.f2.f2 t) ?_
  unfold diaphonelaw06_LogTables.f
  have j0t : Tl (fun k => diaphonelaw06_LogTables.j0 k t true x.f0 x.f1 x.f2.f0 x.f2.f1 x.f2.f2) true := by
    refine Tl.succ ?_
    simp only [diaphonelaw06_LogTables.j0]
    exact Tl.pos trivial ev_known'
  refine Tl.bind' (long_eq _ _ _ _ _) ?_
  cases h : lg x.f0 x.f1 with
  | true => exact Tl.pos rfl j0t
  | false =>
    obtain ⟨h1, h2⟩ := lg_false h
    refine Tl.neg (by simp) ?_
    by_cases ht : (t.length : Int) > 100
    · rw [decide_eq_true ht]; exact j0t
    · rw [decide_eq_false ht]
      refine Tl.succ ?_
      simp only [diaphonelaw06_LogTables.j0]
      exact Tl.neg (by simp) (Tab.look (by omega) (by omega) (by omega) t.length 0 (by omega) (by omega) (fun y hy => by omega))
end Go.Proofs.Ytcbepmdnhjojdaa.Pure
