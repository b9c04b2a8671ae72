/- Proved here: for all lists and numbers, how many pieces a tone has is the document's answer, and they are never fewer when they are longer; it holds under no condition. -/
import Derived.Test.YtmpmfjnmfgnhcaaFz
import Derived.Test.YtmpmfjnmfgnhcaaPx52
set_option linter.unusedVariables false
namespace Go.Proofs.Ytmpmfjnmfgnhcaa.Pure
open Go.RowKit Go.Proofs.Ytmpmfjnmfgnhcaa.P Go.Proofs.Ytmpmfjnmfgnhcaa.E Go.Proofs.Ytmpmfjnmfgnhcaa.Va Go.Proofs.Ytmpmfjnmfgnhcaa.Pe Go.Proofs.Ytmpmfjnmfgnhcaa.Nm Go.Proofs.Ytmpmfjnmfgnhcaa.Tn Go.Proofs.Ytmpmfjnmfgnhcaa.Sm Go.Proofs.Ytmpmfjnmfgnhcaa.Sw Go.Proofs.Ytmpmfjnmfgnhcaa.Fw Go.Proofs.Ytmpmfjnmfgnhcaa.Fx Go.Proofs.Ytmpmfjnmfgnhcaa.Fy Go.Proofs.Ytmpmfjnmfgnhcaa.Fz Go.Proofs.YtmpmfjnmfgnhcaaW.PrintMore
open Go.Proofs.YtmpmfjnmfgnhcaaW.PrintWords
theorem TonePieces : ∀ (x0 : List Int) (x1 : Int), ((∀ y ∈ x0, (Lit.int .i64 y).wf = true) ∧ x0.length ≤ maxLen) → ((Lit.int .i64 x1).wf = true) → ∃ k, diaphonelaw01_TonePieces.f k x0 x1 = some true := by
  intro t n _ _
  refine Tl.ex (g := fun k => diaphonelaw01_TonePieces.f k t n) ?_
  unfold diaphonelaw01_TonePieces.f
  refine by_long (fun hl => ?_)
  by_cases hk : vc t = 0
  · have ok := vc_ok.1 hk
    have h0 := ok.1
    have e1 := ev_Pieces ok n
    have e2 := ev_rPieces ok n
    by_cases c : 0 ≤ n ∧ n ≤ 60
    · rw [if_pos c, if_pos c] at e1 e2
      obtain ⟨m, rfl⟩ := Int.eq_ofNat_of_zero_le c.1
      rw [Int.toNat_natCast] at e1 e2
      obtain ⟨p, hp, _⟩ := ev_period ok.1 (show t.length ≤ 1000 by omega)
      have p1 := hp.1
      have p2 := hp.2.1
      have l1 := ok.2.1
      refine Tl.bind e1 (Tl.bind e2 (Tl.pos rfl (Tl.succ ?_)))
      simp only [diaphonelaw01_TonePieces.j0]
      refine Tl.neg (by simp) (Tl.pos (by simp) (Tl.succ ?_))
      simp only [diaphonelaw01_TonePieces.j1]
      by_cases c6 : m = 60
      · exact Tl.pos (by subst c6; decide) ev_known'
      have e3 := ev_Pieces ok ((m + 1 : Nat) : Int)
      rw [if_pos (by omega), if_pos (by omega), Int.toNat_natCast] at e3
      have e4 := ev_Period ok hp
      have s1 := ps_step t m
      have s2 := ps_le h0 hp m
      have s3 : p ≤ m + 1 → p ≤ nd (ps t m) := fun h => ps_ge h0 hp h
      have s4 : m = 0 → nd (ps t m) = 1 := fun h => by rw [h]; exact ps_zero h0
      have ew : wrap64 ((p : Int) - 1) = (p : Int) - 1 := by unfold wrap64; omega
      refine Tl.neg (by simp only [beq_iff_eq]; omega) ?_
      rw [show wrap64 ((m : Int) + 1) = ((m + 1 : Nat) : Int) by unfold wrap64; omega]
      refine Tl.bind e3 (Tl.bind e4 (Tl.pos rfl (Tl.pos rfl (Tl.pos (by show ((nd (ps t (m + 1)) : Nat) : Int) ≥ ((nd (ps t m) : Nat) : Int); omega) (Tl.pos (by show ((nd (ps t m) : Nat) : Int) ≤ (p : Int); omega) ?_)))))
      rw [ew]
      by_cases c1 : (m : Int) < (p : Int) - 1
      · refine Tl.pos c1 ?_
        by_cases c2 : (m : Int) > 0
        · exact Tl.pos c2 ev_known'
        · exact Tl.neg c2 (Tl.pos (by have := s4 (by omega); omega) ev_known')
      · refine Tl.neg c1 (Tl.pos (by show ((nd (ps t m) : Nat) : Int) = (p : Int); have := s3 (by omega); omega) ?_)
        by_cases c2 : (m : Int) > 0
        · exact Tl.pos c2 ev_known'
        · exact Tl.neg c2 (Tl.pos (by have := s4 (by omega); omega) ev_known')
    · rw [if_neg c, if_neg c] at e1 e2
      refine Tl.bind e1 (Tl.bind e2 (Tl.pos rfl (Tl.succ ?_)))
      simp only [diaphonelaw01_TonePieces.j0]
      refine Tl.neg (by simp) (Tl.neg (by simp) (Tl.succ ?_))
      simp only [diaphonelaw01_TonePieces.j1]
      exact Tl.pos trivial ev_known'
  · refine Tl.bind (ev_Pieces_no (by omega) hk n) (Tl.bind (ev_rPieces_no (by omega) hk n) (Tl.pos rfl (Tl.succ ?_)))
    simp only [diaphonelaw01_TonePieces.j0]
    refine Tl.neg (by simp) (Tl.neg hk (Tl.succ ?_))
    simp only [diaphonelaw01_TonePieces.j1]
    exact Tl.pos trivial ev_known'
end Go.Proofs.Ytmpmfjnmfgnhcaa.Pure
