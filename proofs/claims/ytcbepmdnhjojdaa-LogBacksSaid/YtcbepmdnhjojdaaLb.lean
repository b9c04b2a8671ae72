/- A log turned round. -/
import Derived.Test.YtcbepmdnhjojdaaLr
set_option linter.unusedVariables false
namespace Go.Proofs.Ytcbepmdnhjojdaa.Lb
open Go.RowKit Go.Proofs.Ytcbepmdnhjojdaa.P Go.Proofs.Ytcbepmdnhjojdaa.E Go.Proofs.Ytcbepmdnhjojdaa.Al Go.Proofs.Ytcbepmdnhjojdaa.Lo Go.Proofs.Ytcbepmdnhjojdaa.Lr Go.Proofs.YtcbepmdnhjojdaaW.PrintMore
open Go.Proofs.YtcbepmdnhjojdaaW.PrintWords
theorem ev_rev_loop (l0 : List Int) (hl : l0.length ≤ 1000) (d : Nat) : ∀ (m : Nat) (l : List Int), 2 * m ≤ l0.length → l0.length - 2 * m ≤ d → l.length = l0.length →
    (∀ j, j < l0.length → l[j]? = if j < m ∨ l0.length ≤ j + m then l0[l0.length - 1 - j]? else l0[j]?) → Tl (fun k => slices_Reverse_int_int.l0 k l (m : Int) ((l0.length : Int) - 1 - m)) l0.reverse := by
  have fin : ∀ (m : Nat) (l : List Int), 2 * m ≤ l0.length → ¬ 2 * m + 1 < l0.length → l.length = l0.length →
    (∀ j, j < l0.length → l[j]? = if j < m ∨ l0.length ≤ j + m then l0[l0.length - 1 - j]? else l0[j]?) → Tl (fun k => slices_Reverse_int_int.l0 k l (m : Int) ((l0.length : Int) - 1 - m)) l0.reverse := by
    intro m l h1 h2 h3 h4
    refine Tl.succ ?_
    simp only [slices_Reverse_int_int.l0]
    refine Tl.to (Tl.neg (by omega) Tl.now) ?_
    refine List.ext_getElem? (fun j => ?_)
    by_cases hj : j < l0.length
    · rw [List.getElem?_reverse hj, h4 j hj]
      by_cases c : j < m ∨ l0.length ≤ j + m
      · rw [if_pos c]
      · rw [if_neg c]; congr 1; omega
    · rw [List.getElem?_eq_none (by omega), List.getElem?_eq_none (by simp; omega)]
  induction d with
  | zero => exact fun m l h1 h2 h3 h4 => fin m l h1 (by omega) h3 h4
  | succ d ih =>
    intro m l h1 h2 h3 h4
    by_cases hlt : 2 * m + 1 < l0.length
    · have next := ih (m + 1) ((l.set m (rd l ((l0.length : Int) - 1 - m))).set (l0.length - 1 - m) (rd l (m : Int))) (by omega) (by omega) (by simp [h3]) (by
        intro j hj
        rw [show (l0.length : Int) - 1 - m = ((l0.length - 1 - m : Nat) : Int) by omega]
        rw [rd_lt (show l0.length - 1 - m < l.length by omega), rd_lt (show m < l.length by omega)]
        have e1 := h4 (l0.length - 1 - m) (by omega)
        have e2 := h4 m (by omega)
        rw [if_neg (by omega), List.getElem?_eq_getElem (by omega)] at e1 e2
        rw [List.getElem?_eq_getElem (by omega)] at e1 e2
        simp only [Option.some.injEq] at e1 e2
        rw [List.getElem?_set]
        by_cases c1 : l0.length - 1 - m = j
        · rw [if_pos c1, if_pos (by simp; omega), if_pos (by omega), e2, List.getElem?_eq_getElem (by omega)]
          congr 2; omega
        · rw [if_neg c1, List.getElem?_set]
          by_cases c2 : m = j
          · rw [if_pos c2, if_pos (by omega), if_pos (by omega), e1, List.getElem?_eq_getElem (by omega)]
            congr 2; omega
          · rw [if_neg c2, h4 j hj]
            by_cases c3 : j < m ∨ l0.length ≤ j + m
            · rw [if_pos c3, if_pos (by omega)]
            · rw [if_neg c3, if_neg (by omega)])
      refine Tl.succ ?_
      simp only [slices_Reverse_int_int.l0]
      refine Tl.pos (by omega) (Tl.pos (by omega) (Tl.pos (by omega) (Tl.pos (by omega) (Tl.pos (by omega) ?_))))
      rw [w64 (by omega) (by omega), w64 (by omega) (by omega), Int.toNat_natCast, show ((l0.length : Int) - 1 - m).toNat = l0.length - 1 - m by omega]
      rw [show ((m + 1 : Nat) : Int) = (m : Int) + 1 by omega, show (l0.length : Int) - 1 - ((m : Int) + 1) = (l0.length : Int) - 1 - m - 1 by omega] at next
      exact next
    · exact fin m l h1 hlt h3 h4
theorem ev_rev (l0 : List Int) (hl : l0.length ≤ 1000) : Tl (fun k => slices_Reverse_int_int.f k l0) l0.reverse := by
  unfold slices_Reverse_int_int.f
  have := ev_rev_loop l0 hl l0.length 0 l0 (by omega) (by omega) rfl (by intro j hj; rw [if_neg (by omega)])
  rw [w64 (by omega) (by omega)]
  rw [show ((0 : Nat) : Int) = 0 from rfl, show (l0.length : Int) - 1 - 0 = (l0.length : Int) - 1 by omega] at this
  exact this
theorem rback_loop {t : List Int} (hl : t.length ≤ 1000) (d : Nat) : ∀ i : Nat, i ≤ t.length → t.length - i = d → Tl (fun k => diaphoneref06_back.l0 k t (t.reverse.take i) ((t.length : Int) - 1 - i)) t.reverse := by
  induction d with
  | zero =>
    intro i h1 h2
    refine Tl.succ ?_
    simp only [diaphoneref06_back.l0]
    refine Tl.to (Tl.neg (by omega) Tl.now) ?_
    rw [List.take_of_length_le (by simp; omega)]
  | succ d ih =>
    intro i h1 h2
    have hi : i < t.length := by omega
    have next := ih (i + 1) (by omega) (by omega)
    rw [List.take_succ_eq_append_getElem (show i < t.reverse.length by simp; exact hi), List.getElem_reverse, show (t.length : Int) - 1 - ((i + 1 : Nat) : Int) = (t.length : Int) - 1 - (i : Int) - 1 by omega] at next
    refine Tl.succ ?_
    simp only [diaphoneref06_back.l0]
    rw [w64 (x := (t.length : Int) - 1 - (i : Int) - 1) (by omega) (by omega), show (t.length : Int) - 1 - (i : Int) = ((t.length - 1 - i : Nat) : Int) by omega, rd_lt (show t.length - 1 - i < t.length by omega)]
    rw [show (t.length : Int) - 1 - (i : Int) - 1 = ((t.length - 1 - i : Nat) : Int) - 1 by omega] at next
    exact Tl.pos (by omega) (Tl.pos (by omega) (Tl.pos (by omega) (Tl.pos (by simp; omega) next)))
theorem ev_Back {t : List Int} (hl : t.length ≤ 1000) : Tl (fun k => log_Back.f k t) (if lc t = 0 then t.reverse else [], lc t) := by
  unfold log_Back.f
  by_cases h : lc t = 0
  · rw [if_pos h]
    exact Tl.bind (ev_Validate hl) (Tl.pos h (Tl.bind' (clone_eq hl) (Tl.bind (ev_rev t hl) (Tl.to Tl.now (by rw [h])))))
  · rw [if_neg h]
    exact Tl.bind (ev_Validate hl) (Tl.neg h Tl.now)
theorem ev_rBack {t : List Int} (hl : t.length ≤ 1000) : Tl (fun k => diaphoneref06_Back.f k t) (if lc t = 0 then t.reverse else [], lc t) := by
  unfold diaphoneref06_Back.f diaphoneref06_back.f
  by_cases h : lc t = 0
  · rw [if_pos h]
    have hb := rback_loop hl t.length 0 (by omega) (by omega)
    rw [List.take_zero, show (t.length : Int) - 1 - ((0 : Nat) : Int) = (t.length : Int) - 1 by omega] at hb
    rw [w64 (x := (t.length : Int) - 1) (by omega) (by omega)]
    exact Tl.bind (ev_rValidate hl) (Tl.pos h (Tl.bind hb (Tl.to Tl.now (by rw [h]))))
  · rw [if_neg h]
    exact Tl.bind (ev_rValidate hl) (Tl.neg h Tl.now)
end Go.Proofs.Ytcbepmdnhjojdaa.Lb
