/- Proved here: for all logs and costs, the first log is found best in the second one where the document finds it, and it is not farther there than from the whole; it holds under no condition. -/
import Derived.Test.YtcbepmdnhjojdaaEn
import Derived.Test.YtcbepmdnhjojdaaPx46
set_option linter.unusedVariables false
set_option linter.unusedSimpArgs false
namespace Go.Proofs.Ytcbepmdnhjojdaa.Pure
open Go.RowKit Go.Proofs.Ytcbepmdnhjojdaa.P Go.Proofs.Ytcbepmdnhjojdaa.E Go.Proofs.Ytcbepmdnhjojdaa.Al Go.Proofs.Ytcbepmdnhjojdaa.Lo Go.Proofs.Ytcbepmdnhjojdaa.Lr Go.Proofs.Ytcbepmdnhjojdaa.En Go.Proofs.YtcbepmdnhjojdaaW.PrintMore
open Go.Proofs.YtcbepmdnhjojdaaW.PrintWords
namespace Win
theorem ev_Dist {l m : List Int} {o i c : Int} (hl : l.length ≤ 1000) (hm : m.length ≤ 1000) (h : kc l m o i c = 0) : Tl (fun k => log_Distance.f k l m o i c) (log_tb l m o i c l.length m.length, 0) := by
  unfold log_Distance.f
  obtain ⟨h1, h2, h3⟩ := kc_zero.1 h
  have g3 := cc_zero.1 h3
  exact Tl.bind (ev_check hl hm) (Tl.pos h (Tl.bind' (ldistance_eq (lc_zero.1 h1).1 (lc_zero.1 h2).1 ⟨by omega, by omega⟩ ⟨by omega, by omega⟩ ⟨by omega, by omega⟩) Tl.now))
def sub (m : List Int) (a b : Nat) : List Int := (m.take b).drop a
theorem sub_len {m : List Int} {a b : Nat} (h : m.length ≤ 10) : (sub m a b).length ≤ 10 := by unfold sub; rw [List.length_drop, List.length_take]; omega
theorem sub_ok {m : List Int} (h : lc m = 0) (a b : Nat) : lc (sub m a b) = 0 := by
  obtain ⟨h1, h2⟩ := lc_zero.1 h
  refine lc_zero.2 ⟨sub_len h1, good_mem.2 fun x hx => good_mem.1 h2 x ?_⟩
  exact List.mem_of_mem_take (List.mem_of_mem_drop hx)
def D (l m : List Int) (o i c : Int) (a b : Nat) : Int := log_tb l (sub m a b) o i c l.length (sub m a b).length
section
variable {l m : List Int} {o i c : Int} (hL : l.length ≤ 10) (hM : m.length ≤ 10) (ho : 0 ≤ o ∧ o ≤ 9) (hi : 0 ≤ i ∧ i ≤ 9) (hc : 0 ≤ c ∧ c ≤ 9)
include hL hM ho hi hc
theorem ev_r (a b : Nat) : Tl (fun k => diaphoneref06_distance.f k l ((m.take b).drop a) o i c) (D l m o i c a b) := ev_rdistance hL (sub_len hM) ho hi hc
theorem ev_l (a b : Nat) : log_distance.f l ((m.take b).drop a) o i c = some (D l m o i c a b) := ldistance_eq hL (sub_len hM) ho hi hc
/-- Both loops end with the same part, and none that was looked at is nearer. -/
def Fin (l m : List Int) (o i c : Int) (e : Int) (g h : Nat → Option (Int × Int × Int)) : Prop := ∃ A B : Nat, A ≤ B ∧ B ≤ m.length ∧ D l m o i c A B ≤ e ∧ Tl g ((A : Int), (B : Int), 0) ∧ Tl h ((A : Int), (B : Int), 0)
omit hL hM ho hi hc in
theorem nx {b : Nat} (h : b ≤ 10) : wrap64 ((b : Int) + 1) = ((b + 1 : Nat) : Int) := by rw [w64 (by omega) (by omega)]; omega
theorem inner {a : Nat} (ha : a ≤ m.length) (out : ∀ fr tt : Nat, fr ≤ tt → tt ≤ m.length → Fin l m o i c (D l m o i c fr tt) (fun k => log_Window.l0 k l m (fr : Int) (tt : Int) ((m.length + 1 : Nat) : Int) ((a + 1 : Nat) : Int) o i c) (fun k => diaphoneref06_Window.l0 k l m (fr : Int) (tt : Int) (D l m o i c fr tt) ((a + 1 : Nat) : Int) o i c)) :
    ∀ (d b fr tt : Nat) (e : Int), a ≤ b → b ≤ m.length + 1 → m.length + 1 - b = d → fr ≤ tt → tt ≤ m.length → (D l m o i c fr tt ≤ e ∨ b ≤ m.length ∧ D l m o i c a m.length ≤ e) →
      Fin l m o i c e (fun k => log_Window.l1 k l m (fr : Int) (tt : Int) (a : Int) (b : Int) ((m.length + 1 : Nat) : Int) (a : Int) o i c) (fun k => diaphoneref06_Window.l1 k l m (fr : Int) (tt : Int) (D l m o i c fr tt) (a : Int) (b : Int) o i c) := by
  intro d
  induction d with
  | zero =>
    intro b fr tt e h1 h2 h3 h4 h5 h6
    obtain ⟨A, B, k1, k2, k3, k4, k5⟩ := out fr tt h4 h5
    refine ⟨A, B, k1, k2, by omega, Tl.succ ?_, Tl.succ ?_⟩
    · simp only [log_Window.l1]
      rw [nx (b := a) (by omega)]
      exact Tl.neg (by omega) k4
    · simp only [diaphoneref06_Window.l1]
      rw [nx (b := a) (by omega)]
      exact Tl.neg (by omega) k5
  | succ d ih =>
    intro b fr tt e h1 h2 h3 h4 h5 h6
    have key : Fin l m o i c e (fun k => log_Window.l1 k l m (if D l m o i c a b < D l m o i c fr tt then (a : Int) else (fr : Int)) (if D l m o i c a b < D l m o i c fr tt then (b : Int) else (tt : Int)) (a : Int) ((b + 1 : Nat) : Int) ((m.length + 1 : Nat) : Int) (a : Int) o i c) (fun k => diaphoneref06_Window.l1 k l m (if D l m o i c a b < D l m o i c fr tt then (a : Int) else (fr : Int)) (if D l m o i c a b < D l m o i c fr tt then (b : Int) else (tt : Int)) (if D l m o i c a b < D l m o i c fr tt then D l m o i c a b else D l m o i c fr tt) (a : Int) ((b + 1 : Nat) : Int) o i c) := by
      by_cases hd : D l m o i c a b < D l m o i c fr tt
      · simp only [if_pos hd]
        refine ih (b + 1) a b e (by omega) (by omega) (by omega) h1 (by omega) ?_
        rcases h6 with h6 | ⟨h6, h7⟩
        · exact .inl (by omega)
        · by_cases hb : b = m.length
          · subst hb; exact .inl h7
          · exact .inr ⟨by omega, h7⟩
      · simp only [if_neg hd]
        refine ih (b + 1) fr tt e (by omega) (by omega) (by omega) h4 h5 ?_
        rcases h6 with h6 | ⟨h6, h7⟩
        · exact .inl h6
        · by_cases hb : b = m.length
          · subst hb; exact .inl (by omega)
          · exact .inr ⟨by omega, h7⟩
    obtain ⟨A, B, k1, k2, k3, k4, k5⟩ := key
    refine ⟨A, B, k1, k2, k3, Tl.succ ?_, Tl.succ ?_⟩
    · simp only [log_Window.l1, Int.toNat_natCast]
      rw [nx (b := b) (by omega)]
      refine Tl.pos (by omega) (Tl.pos (by omega) (Tl.pos (by omega) (Tl.bind' (ev_l hL hM ho hi hc a b) (Tl.pos (by omega) (Tl.pos (by omega) (Tl.pos (by omega) (Tl.bind' (ev_l hL hM ho hi hc fr tt) ?_)))))))
      by_cases hd : D l m o i c a b < D l m o i c fr tt
      · simp only [if_pos hd] at k4 ⊢; exact k4
      · simp only [if_neg hd] at k4 ⊢; exact k4
    · simp only [diaphoneref06_Window.l1, Int.toNat_natCast]
      rw [nx (b := b) (by omega)]
      refine Tl.pos (by omega) (Tl.pos (by omega) (Tl.pos (by omega) (Tl.bind (ev_r hL hM ho hi hc a b) ?_)))
      by_cases hd : D l m o i c a b < D l m o i c fr tt
      · simp only [if_pos hd] at k5 ⊢; exact k5
      · simp only [if_neg hd] at k5 ⊢; exact k5
theorem outer : ∀ (d a fr tt : Nat) (e : Int), a ≤ m.length + 1 → m.length + 1 - a = d → fr ≤ tt → tt ≤ m.length → (D l m o i c fr tt ≤ e ∨ a ≤ m.length ∧ D l m o i c a m.length ≤ e) → Fin l m o i c e (fun k => log_Window.l0 k l m (fr : Int) (tt : Int) ((m.length + 1 : Nat) : Int) (a : Int) o i c) (fun k => diaphoneref06_Window.l0 k l m (fr : Int) (tt : Int) (D l m o i c fr tt) (a : Int) o i c) := by
  intro d
  induction d with
  | zero =>
    intro a fr tt e h1 h2 h3 h4 h5
    refine ⟨fr, tt, h3, h4, by omega, Tl.succ ?_, Tl.succ ?_⟩
    · simp only [log_Window.l0]; exact Tl.neg (by omega) Tl.now
    · simp only [diaphoneref06_Window.l0]; exact Tl.neg (by omega) Tl.now
  | succ d ih =>
    intro a fr tt e h1 h2 h3 h4 h5
    obtain ⟨A, B, k1, k2, k3, k4, k5⟩ := inner hL hM ho hi hc (a := a) (by omega) (fun fr' tt' p1 p2 => ih (a + 1) fr' tt' _ (by omega) (by omega) p1 p2 (.inl (Int.le_refl _))) (m.length + 1 - a) a fr tt e (Nat.le_refl _) (by omega) rfl h3 h4 h5
    refine ⟨A, B, k1, k2, k3, Tl.succ ?_, Tl.succ ?_⟩
    · simp only [log_Window.l0]; exact Tl.pos (by omega) k4
    · simp only [diaphoneref06_Window.l0]; exact Tl.pos (by omega) k5
end
theorem core {l m : List Int} {o i c : Int} (hl : l.length ≤ 1000) (hm : m.length ≤ 1000) : Tl (fun k => (log_Window.f k l m o i c).bind fun bt104 => ((diaphoneref06_Window.f k l m o i c).bind fun bt107 => (if bt104.1 = bt107.1 then (if bt104.2.1 = bt107.2.1 then (diaphonelaw06_LogWindows.j0 k bt104.1 bt104.2.1 bt104.2.2 (bt104.2.2 != bt107.2.2) l m o i c) else (diaphonelaw06_LogWindows.j0 k bt104.1 bt104.2.1 bt104.2.2 true l m o i c)) else (diaphonelaw06_LogWindows.j0 k bt104.1 bt104.2.1 bt104.2.2 true l m o i c)))) true := by
  by_cases h : kc l m o i c = 0
  · obtain ⟨h1, h2, h3⟩ := kc_zero.1 h
    have g3 := cc_zero.1 h3
    have hL := (lc_zero.1 h1).1
    have hM := (lc_zero.1 h2).1
    have ho : 0 ≤ o ∧ o ≤ 9 := ⟨by omega, by omega⟩
    have hi : 0 ≤ i ∧ i ≤ 9 := ⟨by omega, by omega⟩
    have hc : 0 ≤ c ∧ c ≤ 9 := ⟨by omega, by omega⟩
    obtain ⟨A, B, k1, k2, k3, k4, k5⟩ := outer hL hM ho hi hc (m.length + 1) 0 0 0 (D l m o i c 0 m.length) (by omega) (by omega) (by omega) (by omega) (.inr ⟨by omega, Int.le_refl _⟩)
    have w1 : Tl (fun k => log_Window.f k l m o i c) ((A : Int), (B : Int), 0) := by
      unfold log_Window.f
      rw [nx hM]
      exact Tl.bind (ev_check hl hm) (Tl.pos h k4)
    have w2 : Tl (fun k => diaphoneref06_Window.f k l m o i c) ((A : Int), (B : Int), 0) := by
      unfold diaphoneref06_Window.f
      exact Tl.bind (ev_costed hl hm) (Tl.pos h (Tl.bind (ev_r hL hM ho hi hc 0 0) k5))
    refine Tl.bind w1 (Tl.bind w2 (Tl.pos rfl (Tl.pos rfl (Tl.succ ?_))))
    simp only [diaphonelaw06_LogWindows.j0, Int.toNat_natCast]
    have hs := sub_len (m := m) (a := A) (b := B) hM
    have e0 : sub m 0 m.length = m := by unfold sub; rw [List.take_length, List.drop_zero]
    have ks : kc l (sub m A B) o i c = 0 := kc_zero.2 ⟨h1, sub_ok h2 A B, h3⟩
    have s1 := ev_Dist (l := l) (m := sub m A B) (o := o) (i := i) (c := c) hl (by omega) ks
    have s2 := ev_Dist (l := l) (m := m) (o := o) (i := i) (c := c) hl hm h
    refine Tl.neg (by simp) (Tl.pos trivial (Tl.bind' rfl (Tl.pos (by omega) (Tl.pos (by omega) (Tl.pos (by omega) (Tl.pos ?_ ?_))))))
    · show ([] : List Int).length + (sub m A B).length < 17592186044416
      simp; omega
    · refine Tl.bind (by rw [List.nil_append]; exact s1) (Tl.bind s2 (Tl.pos rfl (Tl.pos rfl (Tl.pos ?_ ev_known'))))
      unfold D at k3
      rw [e0] at k3
      exact k3
  · have w1 : Tl (fun k => log_Window.f k l m o i c) (0, 0, kc l m o i c) := by
      unfold log_Window.f
      exact Tl.bind (ev_check hl hm) (Tl.neg h Tl.now)
    have w2 : Tl (fun k => diaphoneref06_Window.f k l m o i c) (0, 0, kc l m o i c) := by
      unfold diaphoneref06_Window.f
      exact Tl.bind (ev_costed hl hm) (Tl.neg h Tl.now)
    refine Tl.bind w1 (Tl.bind w2 (Tl.pos rfl (Tl.pos rfl (Tl.succ ?_))))
    simp only [diaphonelaw06_LogWindows.j0]
    exact Tl.neg (by simp) (Tl.neg h ev_known')
end Win
theorem LogWindows : ∀ (x0 : S26), (((∀ y ∈ x0.f0, (Lit.int .i64 y).wf = true) ∧ x0.f0.length ≤ maxLen) ∧ ((∀ y ∈ x0.f1, (Lit.int .i64 y).wf = true) ∧ x0.f1.length ≤ maxLen) ∧ (((Lit.int .i64 x0.f2.f0).wf = true) ∧ ((Lit.int .i64 x0.f2.f1).wf = true) ∧ ((Lit.int .i64 x0.f2.f2).wf = true))) → ∃ k, diaphonelaw06_LogWindows.f k x0.f0 x0.f1 x0.f2.f0 x0.f2.f1 x0.f2.f2 = some true := by
  intro x _
  refine Tl.ex (g := fun k => diaphonelaw06_LogWindows.f k x.f0 x.f1 x.f2.f0 x.f2.f1 x.f2.f2) ?_
  unfold diaphonelaw06_LogWindows.f
  refine Tl.bind' (long_eq _ _ _ _ _) ?_
  cases h : lg x.f0 x.f1 with
  | true => exact Tl.pos rfl ev_known'
  | false =>
    obtain ⟨h1, h2⟩ := lg_false h
    exact Tl.neg (by simp) (Win.core (by omega) (by omega))
end Go.Proofs.Ytcbepmdnhjojdaa.Pure
