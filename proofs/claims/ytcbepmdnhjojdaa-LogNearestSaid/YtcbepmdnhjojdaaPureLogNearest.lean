/- Proved here: for all lists of logs, logs and costs, the nearest log is the one that the document says; it holds under no condition. -/
import Derived.Test.YtcbepmdnhjojdaaEn
import Derived.Test.YtcbepmdnhjojdaaPx48
set_option linter.unusedVariables false
namespace Go.Proofs.Ytcbepmdnhjojdaa.Pure
open Go.RowKit Go.Proofs.Ytcbepmdnhjojdaa.P Go.Proofs.Ytcbepmdnhjojdaa.E Go.Proofs.Ytcbepmdnhjojdaa.Al Go.Proofs.Ytcbepmdnhjojdaa.Lo Go.Proofs.Ytcbepmdnhjojdaa.Lr Go.Proofs.Ytcbepmdnhjojdaa.En Go.Proofs.YtcbepmdnhjojdaaW.PrintMore
open Go.Proofs.YtcbepmdnhjojdaaW.PrintWords
namespace Nea
theorem ev_or2 (a b : Int) : Tl (fun k => api_Errno.f k [a, b]) (if a = 0 then b else a) := by
  unfold api_Errno.f
  have e1 : wrap64 ((0 : Int) + 1) = 1 := by unfold wrap64; omega
  have e2 : wrap64 ((1 : Int) + 1) = 2 := by unfold wrap64; omega
  have l3 : (([a, b] : List Int).length : Int) = 2 := rfl
  have r0 : rd [a, b] 0 = a := rfl
  have r1 : rd [a, b] 1 = b := rfl
  rw [l3]
  refine Tl.succ ?_
  simp only [api_Errno.l0, r0, e1, l3]
  refine Tl.pos (by omega) (Tl.pos (by omega) (Tl.pos (by omega) ?_))
  by_cases ha : a = 0
  · rw [if_pos ha]
    refine Tl.pos ha (Tl.succ ?_)
    simp only [api_Errno.l0, r1, e2, l3]
    refine Tl.pos (by omega) (Tl.pos (by omega) (Tl.pos (by omega) ?_))
    by_cases hb : b = 0
    · refine Tl.pos hb (Tl.succ ?_)
      simp only [api_Errno.l0, l3]
      exact Tl.to (Tl.neg (by omega) Tl.now) hb.symm
    · exact Tl.neg hb Tl.now
  · rw [if_neg ha]; exact Tl.neg ha Tl.now
def Bth (g h : Nat → Option (Int × Int)) : Prop := ∃ r : Int × Int, Tl g r ∧ Tl h r
theorem nx {b : Nat} (h : b ≤ 100) : wrap64 ((b : Int) + 1) = ((b + 1 : Nat) : Int) := by rw [w64 (by omega) (by omega)]; omega
section
variable {L : List (List Int)} {l : List Int} {o i c : Int}
theorem main (hn : L.length ≤ 50) (hok : ∀ j : Nat, j < L.length → lc (rd_L1 L (j : Int)) = 0) (hl : lc l = 0) (hc : cc o i c = 0) : ∀ (d j b : Nat), j ≤ L.length → L.length - j = d → b < L.length →
    Bth (fun k => log_Nearest.l1 k L l (b : Int) L (L.length : Int) (j : Int) o i c) (fun k => diaphoneref06_Nearest.l1 k L l (b : Int) (j : Int) o i c) := by
  intro d
  induction d with
  | zero =>
    intro j b h1 h2 h3
    refine ⟨((b : Int), 0), Tl.succ ?_, Tl.succ ?_⟩
    · simp only [log_Nearest.l1]; exact Tl.neg (by omega) Tl.now
    · simp only [diaphoneref06_Nearest.l1]; exact Tl.neg (by omega) Tl.now
  | succ d ih =>
    intro j b h1 h2 h3
    have hj : j < L.length := by omega
    have g3 := cc_zero.1 hc
    have ho : 0 ≤ o ∧ o ≤ 9 := ⟨by omega, by omega⟩
    have hi : 0 ≤ i ∧ i ≤ 9 := ⟨by omega, by omega⟩
    have hc' : 0 ≤ c ∧ c ≤ 9 := ⟨by omega, by omega⟩
    have kl := (lc_zero.1 hl).1
    have kj := (lc_zero.1 (hok j hj)).1
    have kb := (lc_zero.1 (hok b h3)).1
    have a1 := ldistance_eq kj kl ho hi hc'
    have a2 := ldistance_eq kb kl ho hi hc'
    have a3 := ev_rdistance kj kl ho hi hc'
    have a4 := ev_rdistance kb kl ho hi hc'
    generalize log_tb (rd_L1 L (j : Int)) l o i c (rd_L1 L (j : Int)).length l.length = p at a1 a3
    generalize log_tb (rd_L1 L (b : Int)) l o i c (rd_L1 L (b : Int)).length l.length = q at a2 a4
    have E := Aside0.mk (nx (b := j) (by omega))
    obtain ⟨r, r1, r2⟩ := ih (j + 1) (if p < q then j else b) (by omega) (by omega) (by split <;> omega)
    refine ⟨r, Tl.succ ?_, Tl.succ ?_⟩
    · simp only [log_Nearest.l1]
      rw [E.out]
      refine Tl.pos (by omega) (Tl.pos (by omega) (Tl.pos (by omega) (Tl.bind' a1 (Tl.pos (by omega) (Tl.pos (by omega) (Tl.bind' a2 ?_))))))
      by_cases h : p < q
      · rw [if_pos h] at r1; exact Tl.pos h r1
      · rw [if_neg h] at r1; exact Tl.neg h r1
    · simp only [diaphoneref06_Nearest.l1]
      rw [E.out]
      refine Tl.pos (by omega) (Tl.pos (by omega) (Tl.bind a3 (Tl.pos (by omega) (Tl.pos (by omega) (Tl.bind a4 ?_)))))
      by_cases h : p < q
      · rw [if_pos h] at r2; exact Tl.pos h r2
      · rw [if_neg h] at r2; exact Tl.neg h r2
theorem first (hn : L.length ≤ 50) (hs : ∀ j : Nat, j < L.length → (rd_L1 L (j : Int)).length ≤ 100) (hl : l.length ≤ 100) (h0 : 0 < L.length) : ∀ (d j : Nat), j ≤ L.length → L.length - j = d → (∀ y : Nat, y < j → lc (rd_L1 L (y : Int)) = 0) →
    Bth (fun k => log_Nearest.l0 k L l L (L.length : Int) (j : Int) o i c) (fun k => diaphoneref06_Nearest.l0 k L l (j : Int) o i c) := by
  intro d
  induction d with
  | zero =>
    intro j h1 h2 h3
    obtain rfl : j = L.length := by omega
    have v1 := ev_Validate (t := l) (by omega)
    have v2 := ev_rValidate (t := l) (by omega)
    have key : Bth (fun k => if (if lc l = 0 then cc o i c else lc l) = 0 then log_Nearest.l1 k L l 0 L (L.length : Int) 0 o i c else some (0, (if lc l = 0 then cc o i c else lc l))) (fun k => if lc l = 0 then (if cc o i c = 0 then diaphoneref06_Nearest.l1 k L l 0 1 o i c else some (0, cc o i c)) else some (0, lc l)) := by
      by_cases k1 : lc l = 0
      · simp only [if_pos k1]
        by_cases k2 : cc o i c = 0
        · simp only [if_pos k2]
          have g3 := cc_zero.1 k2
          have ho : 0 ≤ o ∧ o ≤ 9 := ⟨by omega, by omega⟩
          have hi : 0 ≤ i ∧ i ≤ 9 := ⟨by omega, by omega⟩
          have hc' : 0 ≤ c ∧ c ≤ 9 := ⟨by omega, by omega⟩
          have kl := (lc_zero.1 k1).1
          have kj := (lc_zero.1 (h3 0 h0)).1
          have a1 := ldistance_eq kj kl ho hi hc'
          obtain ⟨r, r1, r2⟩ := main hn h3 k1 k2 (L.length - 1) 1 0 (by omega) (by omega) h0
          refine ⟨r, Tl.succ ?_, r2⟩
          simp only [log_Nearest.l1]
          rw [show wrap64 ((0 : Int) + 1) = ((1 : Nat) : Int) by rw [w64 (by omega) (by omega)]; omega]
          exact Tl.pos (by omega) (Tl.pos (by omega) (Tl.pos (by omega) (Tl.bind' a1 (Tl.pos (by omega) (Tl.pos (by omega) (Tl.bind' a1 (Tl.neg (by omega) r1)))))))
        · simp only [if_neg k2]
          exact ⟨_, Tl.now, Tl.now⟩
      · simp only [if_neg k1]
        exact ⟨_, Tl.now, Tl.now⟩
    obtain ⟨r, r1, r2⟩ := key
    refine ⟨r, Tl.succ ?_, Tl.succ ?_⟩
    · simp only [log_Nearest.l0]
      exact Tl.neg (by omega) (Tl.bind v1 (Tl.bind' (costs_eq o i c) (Tl.bind (ev_or2 _ _) r1)))
    · simp only [diaphoneref06_Nearest.l0]
      refine Tl.neg (by omega) (Tl.bind v2 ?_)
      by_cases k1 : lc l = 0
      · simp only [if_pos k1] at r2 ⊢
        exact Tl.bind' (rcosts_eq o i c) r2
      · simp only [if_neg k1] at r2 ⊢
        exact r2
  | succ d ih =>
    intro j h1 h2 h3
    have hj : j < L.length := by omega
    have kj := hs j hj
    have v1 := ev_Validate (t := rd_L1 L (j : Int)) (by omega)
    have v2 := ev_rValidate (t := rd_L1 L (j : Int)) (by omega)
    have E := Aside0.mk (nx (b := j) (by omega))
    have key : Bth (fun k => if lc (rd_L1 L (j : Int)) = 0 then log_Nearest.l0 k L l L (L.length : Int) ((j + 1 : Nat) : Int) o i c else some (0, lc (rd_L1 L (j : Int)))) (fun k => if lc (rd_L1 L (j : Int)) = 0 then diaphoneref06_Nearest.l0 k L l ((j + 1 : Nat) : Int) o i c else some (0, lc (rd_L1 L (j : Int)))) := by
      by_cases k1 : lc (rd_L1 L (j : Int)) = 0
      · simp only [if_pos k1]
        exact ih (j + 1) (by omega) (by omega) (fun y hy => by
          by_cases e : y = j
          · subst e; exact k1
          · exact h3 y (by omega))
      · simp only [if_neg k1]
        exact ⟨_, Tl.now, Tl.now⟩
    obtain ⟨r, r1, r2⟩ := key
    refine ⟨r, Tl.succ ?_, Tl.succ ?_⟩
    · simp only [log_Nearest.l0]
      rw [E.out]
      exact Tl.pos (by omega) (Tl.pos (by omega) (Tl.pos (by omega) (Tl.bind v1 r1)))
    · simp only [diaphoneref06_Nearest.l0]
      rw [E.out]
      exact Tl.pos (by omega) (Tl.pos (by omega) (Tl.bind v2 r2))
theorem both (hn : L.length ≤ 50) (hs : ∀ j : Nat, j < L.length → (rd_L1 L (j : Int)).length ≤ 100) (hl : l.length ≤ 100) : Bth (fun k => log_Nearest.f k L l o i c) (fun k => diaphoneref06_Nearest.f k L l o i c) := by
  unfold log_Nearest.f diaphoneref06_Nearest.f
  rw [within_eq, rwithin_eq]
  by_cases h : (1 : Int) ≤ (L.length : Int) ∧ (L.length : Int) ≤ 6
  · obtain ⟨r, r1, r2⟩ := first (o := o) (i := i) (c := c) hn hs hl (by omega) L.length 0 (by omega) (by omega) (fun y hy => by omega)
    exact ⟨r, Tl.bind' rfl (Tl.pos (decide_eq_true h) r1), Tl.bind' rfl (Tl.pos (decide_eq_true h) r2)⟩
  · exact ⟨_, Tl.bind' rfl (Tl.neg (by simpa using h) Tl.now), Tl.bind' rfl (Tl.neg (by simpa using h) Tl.now)⟩
theorem look (hn : L.length ≤ 50) (hl : l.length ≤ 100) : ∀ (d j : Nat), j ≤ L.length → L.length - j = d → (∀ y : Nat, y < j → (rd_L1 L (y : Int)).length ≤ 100) → Tl (fun k => diaphonelaw06_LogNearest.l0 k L l (j : Int) o i c) true := by
  intro d
  induction d with
  | zero =>
    intro j h1 h2 h3
    obtain rfl : j = L.length := by omega
    obtain ⟨r, r1, r2⟩ := both (l := l) (o := o) (i := i) (c := c) hn h3 hl
    refine Tl.succ ?_
    simp only [diaphonelaw06_LogNearest.l0]
    exact Tl.neg (by omega) (Tl.bind r1 (Tl.bind r2 (Tl.pos rfl (Tl.pos rfl ev_known'))))
  | succ d ih =>
    intro j h1 h2 h3
    have E := Aside0.mk (nx (b := j) (by omega))
    refine Tl.succ ?_
    simp only [diaphonelaw06_LogNearest.l0, diaphonelaw06_large.f]
    rw [E.out]
    refine Tl.pos (by omega) (Tl.pos (by omega) ?_)
    by_cases k1 : ((rd_L1 L (j : Int)).length : Int) > 100
    · exact Tl.bind' (congrArg some (decide_eq_true k1)) (Tl.pos rfl ev_known')
    · refine Tl.bind' (congrArg some (decide_eq_false k1)) (Tl.neg (by simp) (ih (j + 1) (by omega) (by omega) (fun y hy => ?_)))
      by_cases e : y = j
      · subst e; omega
      · exact h3 y (by omega)
end
end Nea
theorem LogNearest : ∀ (x0 : List (List Int)) (x1 : List Int) (x2 : S24), ((∀ y ∈ x0, (∀ yy ∈ y, (Lit.int .i64 yy).wf = true) ∧ y.length ≤ maxLen) ∧ x0.length ≤ maxLen) → ((∀ y ∈ x1, (Lit.int .i64 y).wf = true) ∧ x1.length ≤ maxLen) → (((Lit.int .i64 x2.f0).wf = true) ∧ ((Lit.int .i64 x2.f1).wf = true) ∧ ((Lit.int .i64 x2.f2).wf = true)) → ∃ k, diaphonelaw06_LogNearest.f k x0 x1 x2.f0 x2.f1 x2.f2 = some true := by
  intro L l x _ _ _
  refine Tl.ex (g := fun k => diaphonelaw06_LogNearest.f k L l x.f0 x.f1 x.f2) ?_
  unfold diaphonelaw06_LogNearest.f diaphonelaw06_large.f
  have j0t : Tl (fun k => diaphonelaw06_LogNearest.j0 k L l true x.f0 x.f1 x.f2) true := by
    refine Tl.succ ?_
    simp only [diaphonelaw06_LogNearest.j0]
    exact Tl.pos trivial ev_known'
  by_cases h1 : (L.length : Int) > 50
  · exact Tl.pos h1 j0t
  · refine Tl.neg h1 ?_
    by_cases h2 : (l.length : Int) > 100
    · exact Tl.bind' (congrArg some (decide_eq_true h2)) j0t
    · refine Tl.bind' (congrArg some (decide_eq_false h2)) (Tl.succ ?_)
      simp only [diaphonelaw06_LogNearest.j0]
      exact Tl.neg (by simp) (Nea.look (by omega) (by omega) L.length 0 (by omega) (by omega) (fun y hy => by omega))
end Go.Proofs.Ytcbepmdnhjojdaa.Pure
