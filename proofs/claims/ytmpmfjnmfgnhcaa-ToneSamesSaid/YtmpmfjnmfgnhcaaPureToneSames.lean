/- Proved here: for all lists, which tones are the same and which are alike is the document's answer, and they are so exactly if their roots, and names, are equal; it holds under no condition. -/
import Derived.Test.YtmpmfjnmfgnhcaaSm
import Derived.Test.YtmpmfjnmfgnhcaaPx38
import Derived.Test.YtmpmfjnmfgnhcaaPx44
import Derived.Test.YtmpmfjnmfgnhcaaPx14
import Derived.Test.YtmpmfjnmfgnhcaaPx14
import Derived.Test.YtmpmfjnmfgnhcaaPx45
set_option linter.unusedVariables false
namespace Go.Proofs.Ytmpmfjnmfgnhcaa.Pure
open Go.RowKit Go.Proofs.Ytmpmfjnmfgnhcaa.P Go.Proofs.Ytmpmfjnmfgnhcaa.E Go.Proofs.Ytmpmfjnmfgnhcaa.Va Go.Proofs.Ytmpmfjnmfgnhcaa.Pe Go.Proofs.Ytmpmfjnmfgnhcaa.Nm Go.Proofs.Ytmpmfjnmfgnhcaa.Tn Go.Proofs.Ytmpmfjnmfgnhcaa.Sm Go.Proofs.YtmpmfjnmfgnhcaaW.PrintMore
open Go.Proofs.YtmpmfjnmfgnhcaaW.PrintWords
namespace Sms
theorem core {s t : List Int} (hs : s.length ≤ 1000) (ht : t.length ≤ 1000) {a c : Bool} {e : Int} (e1 : Tl (fun k => tone_Same.f k s t) (a, e)) (e2 : Tl (fun k => diaphoneref01_Same.f k s t) (a, e))
    (e3 : Tl (fun k => tone_Alike.f k s t) (c, e)) (e4 : Tl (fun k => diaphoneref01_Alike.f k s t) (c, e))
    (h : e = 0 → ∃ p q x y : List Int, p.length ≤ 1000 ∧ x.length ≤ 1000 ∧ Tl (fun k => tone_Root.f k s) (p, 0) ∧ Tl (fun k => tone_Root.f k t) (q, 0) ∧ Tl (fun k => tone_Name.f k s) (x, 0) ∧ Tl (fun k => tone_Name.f k t) (y, 0) ∧ a = decide (p = q) ∧ c = decide (x = y)) :
    Tl (fun k => diaphonelaw01_ToneSames.j0 k s t false) true := by
  refine Tl.succ ?_
  simp only [diaphonelaw01_ToneSames.j0]
  refine Tl.neg (by simp) (Tl.bind e1 (Tl.bind e2 (Tl.bind e3 (Tl.bind e4 (Tl.neg (by simp) (Tl.pos rfl (Tl.neg (by simp) (Tl.succ ?_))))))))
  simp only [diaphonelaw01_ToneSames.j1]
  refine Tl.neg (by simp) ?_
  by_cases z : e = 0
  · obtain ⟨p, q, x, y, hp, hx, r1, r2, n1, n2, ea, ec⟩ := h z
    exact Tl.bind r1 (Tl.bind r2 (Tl.bind n1 (Tl.bind n2 (Tl.pos z (Tl.pos rfl (Tl.pos rfl (Tl.pos rfl (Tl.pos rfl (Tl.bind (ev_SameInts' hp) (Tl.pos (by rw [ea]; simp) (Tl.bind (ev_SameInts' hx) (Tl.pos (by rw [ec]; simp) ev_known'))))))))))))
  · obtain ⟨_, r1⟩ := some_root s hs
    obtain ⟨_, r2⟩ := some_root t ht
    obtain ⟨_, r3⟩ := some_name s hs
    obtain ⟨_, r4⟩ := some_name t ht
    exact Tl.bind r1 (Tl.bind r2 (Tl.bind r3 (Tl.bind r4 (Tl.neg z ev_known'))))
end Sms
open Sms
theorem ToneSames : ∀ (x0 : List Int) (x1 : List Int), ((∀ y ∈ x0, (Lit.int .i64 y).wf = true) ∧ x0.length ≤ maxLen) → ((∀ y ∈ x1, (Lit.int .i64 y).wf = true) ∧ x1.length ≤ maxLen) → ∃ k, diaphonelaw01_ToneSames.f k x0 x1 = some true := by
  intro s t _ _
  refine Tl.ex (g := fun k => diaphonelaw01_ToneSames.f k s t) ?_
  unfold diaphonelaw01_ToneSames.f diaphonelaw01_Long.f
  have j0t : Tl (fun k => diaphonelaw01_ToneSames.j0 k s t true) true := by
    refine Tl.succ ?_
    simp only [diaphonelaw01_ToneSames.j0]
    exact Tl.pos trivial ev_known'
  by_cases ls : (s.length : Int) > 200
  · exact Tl.bind' rfl (Tl.pos (decide_eq_true ls) j0t)
  refine Tl.bind' rfl (Tl.neg (by simpa using ls) ?_)
  by_cases lt_ : (t.length : Int) > 200
  · exact Tl.bind' (congrArg some (decide_eq_true lt_)) j0t
  refine Tl.bind' (congrArg some (decide_eq_false lt_)) ?_
  have vs := ev_Validate (t := s) (by omega)
  have ws := ev_rValidate (t := s) (by omega)
  have vt := ev_Validate (t := t) (by omega)
  have wt := ev_rValidate (t := t) (by omega)
  by_cases ks : vc s = 0
  · by_cases kt : vc t = 0
    · have os := vc_ok.1 ks
      have ot := vc_ok.1 kt
      have b1 : Tl (fun k => tone_both.f k s t) 0 := by
        unfold tone_both.f
        exact Tl.to (Tl.bind vs (Tl.pos ks (Tl.bind vt Tl.now))) kt
      have b2 : Tl (fun k => diaphoneref01_two.f k s t) 0 := by
        unfold diaphoneref01_two.f
        exact Tl.to (Tl.bind ws (Tl.pos ks (Tl.bind wt Tl.now))) kt
      obtain ⟨p, hp, _⟩ := ev_period os.1 (show s.length ≤ 1000 by omega)
      obtain ⟨q, hq, _⟩ := ev_period ot.1 (show t.length ≤ 1000 by omega)
      obtain ⟨x, lx, hx, n1, _⟩ := ev_name os.1 (show s.length ≤ 1000 by omega) hp
      obtain ⟨y, ly, hy, n2, _⟩ := ev_name ot.1 (show t.length ≤ 1000 by omega) hq
      have r1 := ev_root os.1 (show s.length ≤ 1000 by omega) hp
      have r2 := ev_root ot.1 (show t.length ≤ 1000 by omega) hq
      have p2 := hp.2.1
      have hsr := same_root os.1 ot.1 hp hq
      have han := alike_name os.1 ot.1 hp hq hx hy
      have hpl : (s.take p).length ≤ 1000 := by simp; omega
      refine core (a := decide (s.take p = t.take q)) (c := decide (x = y)) (e := 0) (by omega) (by omega) ?_ ?_ ?_ ?_ (fun _ => ⟨s.take p, t.take q, x, y, hpl, by omega, ?_, ?_, ?_, ?_, rfl, rfl⟩)
      · unfold tone_Same.f
        exact Tl.bind b1 (Tl.pos rfl (Tl.bind r1 (Tl.bind r2 (Tl.bind (ev_Equal hpl) Tl.now))))
      · unfold diaphoneref01_Same.f
        exact Tl.bind b2 (Tl.pos rfl (Tl.bind (ev_same os ot (by omega) (by rw [decide_eq_true_eq]; exact hsr)) Tl.now))
      · unfold tone_Alike.f
        exact Tl.bind b1 (Tl.pos rfl (Tl.bind n1 (Tl.bind n2 (Tl.bind (ev_Equal (by omega)) Tl.now))))
      · unfold diaphoneref01_Alike.f
        exact Tl.bind b2 (Tl.pos rfl (Tl.bind (ev_alike os ot (by rw [decide_eq_true_eq]; exact han)) Tl.now))
      · unfold tone_Root.f
        exact Tl.bind vs (Tl.pos ks (Tl.bind r1 Tl.now))
      · unfold tone_Root.f
        exact Tl.bind vt (Tl.pos kt (Tl.bind r2 Tl.now))
      · unfold tone_Name.f
        exact Tl.bind vs (Tl.pos ks (Tl.bind n1 Tl.now))
      · unfold tone_Name.f
        exact Tl.bind vt (Tl.pos kt (Tl.bind n2 Tl.now))
    · have b1 : Tl (fun k => tone_both.f k s t) (vc t) := by
        unfold tone_both.f
        exact Tl.bind vs (Tl.pos ks (Tl.bind vt Tl.now))
      have b2 : Tl (fun k => diaphoneref01_two.f k s t) (vc t) := by
        unfold diaphoneref01_two.f
        exact Tl.bind ws (Tl.pos ks (Tl.bind wt Tl.now))
      refine core (a := false) (c := false) (e := vc t) (by omega) (by omega) ?_ ?_ ?_ ?_ (fun z => absurd z kt)
      · unfold tone_Same.f; exact Tl.bind b1 (Tl.neg kt Tl.now)
      · unfold diaphoneref01_Same.f; exact Tl.bind b2 (Tl.neg kt Tl.now)
      · unfold tone_Alike.f; exact Tl.bind b1 (Tl.neg kt Tl.now)
      · unfold diaphoneref01_Alike.f; exact Tl.bind b2 (Tl.neg kt Tl.now)
  · have b1 : Tl (fun k => tone_both.f k s t) (vc s) := by
      unfold tone_both.f
      exact Tl.bind vs (Tl.neg ks Tl.now)
    have b2 : Tl (fun k => diaphoneref01_two.f k s t) (vc s) := by
      unfold diaphoneref01_two.f
      exact Tl.bind ws (Tl.neg ks Tl.now)
    refine core (a := false) (c := false) (e := vc s) (by omega) (by omega) ?_ ?_ ?_ ?_ (fun z => absurd z ks)
    · unfold tone_Same.f; exact Tl.bind b1 (Tl.neg ks Tl.now)
    · unfold diaphoneref01_Same.f; exact Tl.bind b2 (Tl.neg ks Tl.now)
    · unfold tone_Alike.f; exact Tl.bind b1 (Tl.neg ks Tl.now)
    · unfold diaphoneref01_Alike.f; exact Tl.bind b2 (Tl.neg ks Tl.now)
end Go.Proofs.Ytmpmfjnmfgnhcaa.Pure
