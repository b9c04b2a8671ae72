/- Proved here: for all lists, how long two tones agree and how long one must listen is the document's answer, and both periods less their common divisor are enough; it holds under no condition. -/
import Derived.Test.YtmpmfjnmfgnhcaaFz
import Derived.Test.YtmpmfjnmfgnhcaaPx55
set_option linter.unusedVariables false
namespace Go.Proofs.Ytmpmfjnmfgnhcaa.Pure
open Go.RowKit Go.Proofs.Ytmpmfjnmfgnhcaa.P Go.Proofs.Ytmpmfjnmfgnhcaa.E Go.Proofs.Ytmpmfjnmfgnhcaa.Va Go.Proofs.Ytmpmfjnmfgnhcaa.Pe Go.Proofs.Ytmpmfjnmfgnhcaa.Nm Go.Proofs.Ytmpmfjnmfgnhcaa.Tn Go.Proofs.Ytmpmfjnmfgnhcaa.Sm Go.Proofs.Ytmpmfjnmfgnhcaa.Sw Go.Proofs.Ytmpmfjnmfgnhcaa.Fw Go.Proofs.Ytmpmfjnmfgnhcaa.Fx Go.Proofs.Ytmpmfjnmfgnhcaa.Fy Go.Proofs.Ytmpmfjnmfgnhcaa.Fz Go.Proofs.YtmpmfjnmfgnhcaaW.PrintMore
open Go.Proofs.YtmpmfjnmfgnhcaaW.PrintWords
namespace Ag
theorem core {s t : List Int} (hs : s.length ≤ 1000) (ht : t.length ≤ 1000) {a c : Int} {b d : Bool} {e : Int} (e1 : Tl (fun k => tone_Agree.f k s t) (a, b, e)) (e2 : Tl (fun k => diaphoneref01_Agree.f k s t) (a, b, e))
    (e3 : Tl (fun k => tone_Listen.f k s t) (c, d, e)) (e4 : Tl (fun k => diaphoneref01_Listen.f k s t) (c, d, e))
    (h : e = 0 → ∃ p q : Nat, 1 ≤ p ∧ p ≤ 24 ∧ 1 ≤ q ∧ q ≤ 24 ∧ Tl (fun k => tone_Period.f k s) ((p : Int), 0) ∧ Tl (fun k => tone_Period.f k t) ((q : Int), 0) ∧ (b = true → a < (p : Int) + q - Nat.gcd p q) ∧ (d = true → c ≤ (p : Int) + q - Nat.gcd p q)) :
    Tl (fun k => diaphonelaw01_ToneAgrees.j0 k s t false) true := by
  refine Tl.succ ?_
  simp only [diaphonelaw01_ToneAgrees.j0]
  refine Tl.neg (by simp) (Tl.bind e1 (Tl.bind e2 (Tl.bind e3 (Tl.bind e4 (Tl.pos rfl (Tl.neg (by simp) (Tl.pos rfl (Tl.pos rfl (Tl.neg (by simp) (Tl.succ ?_))))))))))
  simp only [diaphonelaw01_ToneAgrees.j1]
  refine Tl.neg (by simp) ?_
  by_cases z : e = 0
  · obtain ⟨p, q, p1, p2, q1, q2, r1, r2, hb, hd⟩ := h z
    have hg : Nat.gcd p q ≤ p := Nat.gcd_le_left _ p1
    refine Tl.bind r1 (Tl.bind r2 (Tl.pos z (Tl.pos rfl (Tl.pos rfl (Tl.neg (by show ¬ (p : Int) < 1; omega) (Tl.succ ?_))))))
    simp only [diaphonelaw01_ToneAgrees.j2]
    have ew : wrap64 (wrap64 ((p : Int) + (q : Int)) - ((Nat.gcd p q : Nat) : Int)) = (p : Int) + q - Nat.gcd p q := by rw [w64 (x := (p : Int) + q) (by omega) (by omega), w64 (by omega) (by omega)]
    refine Tl.neg (by simp only [decide_eq_true_eq]; omega) (Tl.bind (ev_Gcd p q) ?_)
    rw [ew]
    have fin : Tl (fun k => if d = true then (if c ≤ (p : Int) + q - Nat.gcd p q then ((diaphonelaw01_known.f k).bind fun t122 => (some t122)) else (some false)) else ((diaphonelaw01_known.f k).bind fun t123 => (some t123))) true := by
      cases d with
      | true => exact Tl.pos rfl (Tl.pos (hd rfl) ev_known')
      | false => exact Tl.neg (by simp) ev_known'
    cases b with
    | true => exact Tl.pos rfl (Tl.pos (hb rfl) fin)
    | false => exact Tl.neg (by simp) fin
  · obtain ⟨_, r1⟩ := some_period s hs
    obtain ⟨_, r2⟩ := some_period t ht
    exact Tl.bind r1 (Tl.bind r2 (Tl.neg z ev_known'))
end Ag
theorem ToneAgrees : ∀ (x0 : List Int) (x1 : List Int), ((∀ y ∈ x0, (Lit.int .i64 y).wf = true) ∧ x0.length ≤ maxLen) → ((∀ y ∈ x1, (Lit.int .i64 y).wf = true) ∧ x1.length ≤ maxLen) → ∃ k, diaphonelaw01_ToneAgrees.f k x0 x1 = some true := by
  intro s t _ _
  refine Tl.ex (g := fun k => diaphonelaw01_ToneAgrees.f k s t) ?_
  unfold diaphonelaw01_ToneAgrees.f diaphonelaw01_Long.f
  have j0t : Tl (fun k => diaphonelaw01_ToneAgrees.j0 k s t true) true := by
    refine Tl.succ ?_
    simp only [diaphonelaw01_ToneAgrees.j0]
    exact Tl.pos trivial ev_known'
  by_cases ls : (s.length : Int) > 200
  · exact Tl.bind' rfl (Tl.pos (decide_eq_true ls) j0t)
  refine Tl.bind' rfl (Tl.neg (by simpa using ls) ?_)
  by_cases lt_ : (t.length : Int) > 200
  · exact Tl.bind' (congrArg some (decide_eq_true lt_)) j0t
  refine Tl.bind' (congrArg some (decide_eq_false lt_)) ?_
  have vs := ev_Validate (t := s) (by omega)
  have ws := ev_rValidate (t := s) (by omega)
  have vt := ev_Validate (t := t) (by omega)
  have wt := ev_rValidate (t := t) (by omega)
  have bad : ∀ e : Int, ¬ e = 0 → Tl (fun k => tone_both.f k s t) e → Tl (fun k => diaphoneref01_two.f k s t) e → Tl (fun k => diaphonelaw01_ToneAgrees.j0 k s t false) true := by
    intro e he b1 b2
    refine Ag.core (a := 0) (b := false) (c := 0) (d := false) (e := e) (by omega) (by omega) ?_ ?_ ?_ ?_ (fun z => absurd z he)
    · unfold tone_Agree.f; exact Tl.bind b1 (Tl.neg he Tl.now)
    · unfold diaphoneref01_Agree.f; exact Tl.bind b2 (Tl.neg he Tl.now)
    · unfold tone_Listen.f; exact Tl.bind b1 (Tl.neg he Tl.now)
    · unfold diaphoneref01_Listen.f; exact Tl.bind b2 (Tl.neg he Tl.now)
  by_cases ks : vc s = 0
  · by_cases kt : vc t = 0
    · have os := vc_ok.1 ks
      have ot := vc_ok.1 kt
      obtain ⟨p, hp, _⟩ := ev_period os.1 (show s.length ≤ 1000 by omega)
      obtain ⟨q, hq, _⟩ := ev_period ot.1 (show t.length ≤ 1000 by omega)
      have l1 := os.2.1
      have l2 := ot.2.1
      have p1 := hp.1
      have p2 := hp.2.1
      have q1 := hq.1
      have q2 := hq.2.1
      have hg : Nat.gcd p q ≤ p := Nat.gcd_le_left _ p1
      obtain ⟨a, b, hab, e1, e2⟩ := ev_Agree os ot hp hq
      rcases ev_listen os ot hp hq with ⟨_, r1, r2⟩ | ⟨_, r2, M, m1, _, _, r1, r3⟩
      · refine Ag.core (c := 0) (d := false) (by omega) (by omega) e1 e2 ?_ ?_ (fun _ => ⟨p, q, by omega, by omega, by omega, by omega, ev_Period os hp, ev_Period ot hq, hab, fun z => by simp at z⟩)
        · unfold tone_Listen.f; exact Tl.bind (ev_both os ot) (Tl.pos rfl (Tl.bind r1 Tl.now))
        · unfold diaphoneref01_Listen.f; exact Tl.bind (ev_two os ot) (Tl.pos rfl (Tl.bind r2 (Tl.pos rfl Tl.now)))
      · refine Ag.core (c := (M : Int) + 1) (d := true) (by omega) (by omega) e1 e2 ?_ ?_ (fun _ => ⟨p, q, by omega, by omega, by omega, by omega, ev_Period os hp, ev_Period ot hq, hab, fun _ => by omega⟩)
        · unfold tone_Listen.f; exact Tl.bind (ev_both os ot) (Tl.pos rfl (Tl.bind r1 Tl.now))
        · unfold diaphoneref01_Listen.f; exact Tl.bind (ev_two os ot) (Tl.pos rfl (Tl.bind r2 (Tl.neg (by simp) (Tl.bind r3 Tl.now))))
    · refine bad (vc t) kt ?_ ?_
      · unfold tone_both.f; exact Tl.bind vs (Tl.pos ks (Tl.bind vt Tl.now))
      · unfold diaphoneref01_two.f; exact Tl.bind ws (Tl.pos ks (Tl.bind wt Tl.now))
  · refine bad (vc s) ks ?_ ?_
    · unfold tone_both.f; exact Tl.bind vs (Tl.neg ks Tl.now)
    · unfold diaphoneref01_two.f; exact Tl.bind ws (Tl.neg ks Tl.now)
end Go.Proofs.Ytmpmfjnmfgnhcaa.Pure
