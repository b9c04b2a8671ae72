/- Proved here: for all lists and numbers, a tone that is repeated is the document's answer, and it is the same tone, with as many pieces; it holds under no condition. -/
import Derived.Test.YtmpmfjnmfgnhcaaFz
import Derived.Test.YtmpmfjnmfgnhcaaPx57
set_option linter.unusedVariables false
namespace Go.Proofs.Ytmpmfjnmfgnhcaa.Pure
open Go.RowKit Go.Proofs.Ytmpmfjnmfgnhcaa.P Go.Proofs.Ytmpmfjnmfgnhcaa.E Go.Proofs.Ytmpmfjnmfgnhcaa.Va Go.Proofs.Ytmpmfjnmfgnhcaa.Pe Go.Proofs.Ytmpmfjnmfgnhcaa.Nm Go.Proofs.Ytmpmfjnmfgnhcaa.Tn Go.Proofs.Ytmpmfjnmfgnhcaa.Sm Go.Proofs.Ytmpmfjnmfgnhcaa.Sw Go.Proofs.Ytmpmfjnmfgnhcaa.Fw Go.Proofs.Ytmpmfjnmfgnhcaa.Fx Go.Proofs.Ytmpmfjnmfgnhcaa.Fy Go.Proofs.Ytmpmfjnmfgnhcaa.Fz Go.Proofs.YtmpmfjnmfgnhcaaW.PrintMore
open Go.Proofs.YtmpmfjnmfgnhcaaW.PrintWords
namespace Rp
theorem no {t : List Int} {times n e : Int} (h1 : Tl (fun k => tone_Repeat.f k t times) ([], e)) (h2 : Tl (fun k => diaphoneref01_Repeat.f k t times) ([], e)) (he : ¬ e = 0) :
    Tl (fun k => (tone_Repeat.f k t times).bind fun bt103 => ((diaphoneref01_Repeat.f k t times).bind fun bt107 => ((diaphoneref01_SameInts.f k bt103.1 bt107.1).bind fun t111 => (if t111 = true then (diaphonelaw01_ToneRepeats.j0 k t n bt103.1 bt103.2 (bt103.2 != bt107.2)) else (diaphonelaw01_ToneRepeats.j0 k t n bt103.1 bt103.2 true))))) true := by
  refine Tl.bind h1 (Tl.bind h2 (Tl.bind (ev_SameInts [] (by simp)) (Tl.pos rfl (Tl.succ ?_))))
  simp only [diaphonelaw01_ToneRepeats.j0]
  exact Tl.neg (by simp) (Tl.neg he ev_known')
end Rp
theorem ToneRepeats : ∀ (x0 : List Int) (x1 : Int) (x2 : Int), ((∀ y ∈ x0, (Lit.int .i64 y).wf = true) ∧ x0.length ≤ maxLen) → ((Lit.int .i64 x1).wf = true) → ((Lit.int .i64 x2).wf = true) → ∃ k, diaphonelaw01_ToneRepeats.f k x0 x1 x2 = some true := by
  intro t times n _ hw _
  refine Tl.ex (g := fun k => diaphonelaw01_ToneRepeats.f k t times n) ?_
  unfold diaphonelaw01_ToneRepeats.f
  refine by_long (fun hl => ?_)
  have v1 := ev_Validate (t := t) (by omega)
  have v2 := ev_rValidate (t := t) (by omega)
  by_cases hk : vc t = 0
  · have ok := vc_ok.1 hk
    have l0 := ok.1
    have l1 := ok.2.1
    by_cases c : 1 ≤ times ∧ times ≤ 24
    · obtain ⟨m, rfl⟩ := Int.eq_ofNat_of_zero_le (show 0 ≤ times by omega)
      have hb : m * t.length ≤ 24 * 24 := Nat.mul_le_mul (by omega) l1
      have ew1 : wrap64 ((t.length : Int) * (m : Int)) = ((m * t.length : Nat) : Int) := by rw [Int.mul_comm, ← Int.natCast_mul]; unfold wrap64; omega
      have ew2 : wrap64 ((m : Int) * (t.length : Int)) = ((m * t.length : Nat) : Int) := by rw [← Int.natCast_mul]; unfold wrap64; omega
      by_cases c2 : m * t.length ≤ 24
      · have hpos : 0 < m * t.length := Nat.mul_pos (by omega) l0
        have e1 : Tl (fun k => tone_Repeat.f k t (m : Int)) (pc t 0 (m * t.length), 0) := by
          unfold tone_Repeat.f
          refine Tl.bind v1 (Tl.pos hk (Tl.bind' (within_eq _ _ _) (Tl.pos (decide_eq_true c) ?_)))
          rw [ew1]
          refine Tl.neg (by omega) (Tl.bind' (a := pc t 0 (m * t.length)) ?_ Tl.now)
          unfold slices_Repeat_int_int.f
          rw [if_pos (by omega), if_pos (by omega), if_pos (by omega), if_pos (by omega), Int.toNat_natCast, rep_pc]
        have e2 : Tl (fun k => diaphoneref01_Repeat.f k t (m : Int)) (pc t 0 (m * t.length), 0) := by
          unfold diaphoneref01_Repeat.f
          refine Tl.bind v2 (Tl.pos hk (Tl.bind' (rwithin_eq _ _ _) (Tl.pos (decide_eq_true c) ?_)))
          rw [ew2]
          exact Tl.neg (by omega) (Tl.bind (ev_piece l0 (by omega) (by omega) (by omega)) Tl.now)
        generalize ha : pc t 0 (m * t.length) = a at e1 e2
        have oa : Ok a := by rw [← ha]; exact ok_pc ok hpos c2
        have hsec : ∀ i, sec a i = sec t i := fun i => by rw [← ha]; exact sec_pc hpos i
        have la : a.length ≤ 24 := oa.2.1
        refine Tl.bind e1 (Tl.bind e2 (Tl.bind (ev_SameInts a (by omega)) (Tl.pos rfl (Tl.succ ?_))))
        simp only [diaphonelaw01_ToneRepeats.j0]
        obtain ⟨p, hp, _⟩ := ev_period oa.1 (show a.length ≤ 1000 by omega)
        obtain ⟨q, hq, _⟩ := ev_period ok.1 (show t.length ≤ 1000 by omega)
        have p2 := hp.2.1
        have hs : Tl (fun k => tone_Same.f k a t) (true, 0) := by
          unfold tone_Same.f
          exact Tl.bind (ev_both oa ok) (Tl.pos rfl (Tl.bind (ev_root oa.1 (by omega) hp) (Tl.bind (ev_root ok.1 (by omega) hq) (Tl.bind (ev_Equal (by simp; omega)) (Tl.to Tl.now (by
            rw [decide_eq_true ((same_root oa.1 ok.1 hp hq).2 (fun i => by rw [Int.add_zero]; exact hsec i))]))))))
        have f1 := ev_Pieces ok n
        have f2 := ev_Pieces oa n
        rw [ps_same oa.1 ok.1 hsec] at f2
        exact Tl.neg (by simp) (Tl.pos (by simp) (Tl.bind hs (Tl.bind f1 (Tl.bind f2 (Tl.pos rfl (Tl.pos rfl (Tl.pos rfl (Tl.pos rfl ev_known'))))))))
      · refine Rp.no (e := 3) ?_ ?_ (by omega)
        · unfold tone_Repeat.f
          refine Tl.bind v1 (Tl.pos hk (Tl.bind' (within_eq _ _ _) (Tl.pos (decide_eq_true c) ?_)))
          rw [ew1]
          exact Tl.pos (by omega) Tl.now
        · unfold diaphoneref01_Repeat.f
          refine Tl.bind v2 (Tl.pos hk (Tl.bind' (rwithin_eq _ _ _) (Tl.pos (decide_eq_true c) ?_)))
          rw [ew2]
          exact Tl.pos (by omega) Tl.now
    · refine Rp.no (e := 1) ?_ ?_ (by omega)
      · unfold tone_Repeat.f
        exact Tl.bind v1 (Tl.pos hk (Tl.bind' (within_eq _ _ _) (Tl.neg (by simpa using c) Tl.now)))
      · unfold diaphoneref01_Repeat.f
        exact Tl.bind v2 (Tl.pos hk (Tl.bind' (rwithin_eq _ _ _) (Tl.neg (by simpa using c) Tl.now)))
  · refine Rp.no (e := vc t) ?_ ?_ hk
    · unfold tone_Repeat.f
      exact Tl.bind v1 (Tl.neg hk Tl.now)
    · unfold diaphoneref01_Repeat.f
      exact Tl.bind v2 (Tl.neg hk Tl.now)
end Go.Proofs.Ytmpmfjnmfgnhcaa.Pure
