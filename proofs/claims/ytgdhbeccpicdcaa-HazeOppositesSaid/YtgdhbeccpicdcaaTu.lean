/- Lists that are turned round. -/
import Derived.Test.YtgdhbeccpicdcaaRa
import Derived.Test.YtgdhbeccpicdcaaPx41
import Derived.Test.YtgdhbeccpicdcaaPx42
import Derived.Test.YtgdhbeccpicdcaaPx41
import Derived.Test.YtgdhbeccpicdcaaPx42
import Derived.Test.YtgdhbeccpicdcaaPx41
set_option linter.unusedVariables false
namespace Go.Proofs.Ytgdhbeccpicdcaa.Tu
open Go.RowKit Go.Proofs.Ytgdhbeccpicdcaa.P Go.Proofs.Ytgdhbeccpicdcaa.E Go.Proofs.Ytgdhbeccpicdcaa.Fr Go.Proofs.Ytgdhbeccpicdcaa.Sd Go.Proofs.Ytgdhbeccpicdcaa.Bl Go.Proofs.Ytgdhbeccpicdcaa.Va Go.Proofs.Ytgdhbeccpicdcaa.Be Go.Proofs.Ytgdhbeccpicdcaa.Kn Go.Proofs.Ytgdhbeccpicdcaa.Ra Go.Proofs.YtgdhbeccpicdcaaW.PrintMore
open Go.Proofs.YtgdhbeccpicdcaaW.PrintWords

theorem ev_rev_loop (l0 : List S31) (hl : l0.length ≤ 1000) (d : Nat) : ∀ (m : Nat) (l : List S31), 2 * m ≤ l0.length → l0.length - 2 * m ≤ d → l.length = l0.length →
    (∀ j, j < l0.length → l[j]? = if j < m ∨ l0.length ≤ j + m then l0[l0.length - 1 - j]? else l0[j]?) → Tl (fun k => api_Reading.l0 k l (m : Int) ((l0.length : Int) - 1 - m)) l0.reverse := by
  induction d with
  | zero =>
    intro m l h1 h2 h3 h4
    refine Tl.succ ?_
    simp only [api_Reading.l0]
    refine Tl.to (Tl.neg (by omega) Tl.now) ?_
    refine List.ext_getElem? (fun j => ?_)
    by_cases hj : j < l0.length
    · rw [List.getElem?_reverse hj, h4 j hj]
      by_cases c : j < m ∨ l0.length ≤ j + m
      · rw [if_pos c]
      · omega
    · rw [List.getElem?_eq_none (by omega), List.getElem?_eq_none (by simp; omega)]
  | succ d ih =>
    intro m l h1 h2 h3 h4
    by_cases hlt : 2 * m + 1 < l0.length
    · have next := ih (m + 1) ((l.set m (rd_T31 l ((l0.length : Int) - 1 - m))).set (l0.length - 1 - m) (rd_T31 l (m : Int))) (by omega) (by omega) (by simp [h3]) (by
        intro j hj
        rw [show (l0.length : Int) - 1 - m = ((l0.length - 1 - m : Nat) : Int) by omega]
        rw [rd31 (show l0.length - 1 - m < l.length by omega), rd31 (show m < l.length by omega)]
        have e1 := h4 (l0.length - 1 - m) (by omega)
        have e2 := h4 m (by omega)
        rw [if_neg (by omega), List.getElem?_eq_getElem (by omega)] at e1 e2
        rw [List.getElem?_eq_getElem (by omega)] at e1 e2
        simp only [Option.some.injEq] at e1 e2
        rw [List.getElem?_set]
        by_cases c1 : l0.length - 1 - m = j
        · rw [if_pos c1, if_pos (by simp; omega), if_pos (by omega), e2, List.getElem?_eq_getElem (by omega)]
          congr 2; omega
        · rw [if_neg c1, List.getElem?_set]
          by_cases c2 : m = j
          · rw [if_pos c2, if_pos (by omega), if_pos (by omega), e1, List.getElem?_eq_getElem (by omega)]
            congr 2; omega
          · rw [if_neg c2, h4 j hj]
            by_cases c3 : j < m ∨ l0.length ≤ j + m
            · rw [if_pos c3, if_pos (by omega)]
            · rw [if_neg c3, if_neg (by omega)])
      refine Tl.succ ?_
      simp only [api_Reading.l0]
      refine Tl.pos (by omega) (Tl.pos (by omega) (Tl.pos (by omega) (Tl.pos (by omega) (Tl.pos (by omega) ?_))))
      rw [w64 (by omega) (by omega), w64 (by omega) (by omega), Int.toNat_natCast, show ((l0.length : Int) - 1 - m).toNat = l0.length - 1 - m by omega]
      rw [show ((m + 1 : Nat) : Int) = (m : Int) + 1 by omega, show (l0.length : Int) - 1 - ((m : Int) + 1) = (l0.length : Int) - 1 - m - 1 by omega] at next
      exact next
    · refine Tl.succ ?_
      simp only [api_Reading.l0]
      refine Tl.to (Tl.neg (by omega) Tl.now) ?_
      refine List.ext_getElem? (fun j => ?_)
      by_cases hj : j < l0.length
      · rw [List.getElem?_reverse hj, h4 j hj]
        by_cases c : j < m ∨ l0.length ≤ j + m
        · rw [if_pos c]
        · rw [if_neg c]; congr 1; omega
      · rw [List.getElem?_eq_none (by omega), List.getElem?_eq_none (by simp; omega)]
theorem ev_rev (l0 : List S31) (hl : l0.length ≤ 1000) : Tl (fun k => api_Reading.f k l0) l0.reverse := by
  unfold api_Reading.f
  have := ev_rev_loop l0 hl l0.length 0 l0 (by omega) (by omega) rfl (by intro j hj; rw [if_neg (by omega)])
  rw [w64 (by omega) (by omega)]
  rw [show ((0 : Nat) : Int) = 0 from rfl, show (l0.length : Int) - 1 - 0 = (l0.length : Int) - 1 by omega] at this
  exact this

theorem ev_revr_loop (l0 : List S33) (hl : l0.length ≤ 1000) (d : Nat) : ∀ (m : Nat) (l : List S33), 2 * m ≤ l0.length → l0.length - 2 * m ≤ d → l.length = l0.length →
    (∀ j, j < l0.length → l[j]? = if j < m ∨ l0.length ≤ j + m then l0[l0.length - 1 - j]? else l0[j]?) → Tl (fun k => api_Rat_77.l0 k l (m : Int) ((l0.length : Int) - 1 - m)) l0.reverse := by
  induction d with
  | zero =>
    intro m l h1 h2 h3 h4
    refine Tl.succ ?_
    simp only [api_Rat_77.l0]
    refine Tl.to (Tl.neg (by omega) Tl.now) ?_
    refine List.ext_getElem? (fun j => ?_)
    by_cases hj : j < l0.length
    · rw [List.getElem?_reverse hj, h4 j hj]
      by_cases c : j < m ∨ l0.length ≤ j + m
      · rw [if_pos c]
      · omega
    · rw [List.getElem?_eq_none (by omega), List.getElem?_eq_none (by simp; omega)]
  | succ d ih =>
    intro m l h1 h2 h3 h4
    by_cases hlt : 2 * m + 1 < l0.length
    · have next := ih (m + 1) ((l.set m (rd_T33 l ((l0.length : Int) - 1 - m))).set (l0.length - 1 - m) (rd_T33 l (m : Int))) (by omega) (by omega) (by simp [h3]) (by
        intro j hj
        rw [show (l0.length : Int) - 1 - m = ((l0.length - 1 - m : Nat) : Int) by omega]
        rw [rd33 (show l0.length - 1 - m < l.length by omega), rd33 (show m < l.length by omega)]
        have e1 := h4 (l0.length - 1 - m) (by omega)
        have e2 := h4 m (by omega)
        rw [if_neg (by omega), List.getElem?_eq_getElem (by omega)] at e1 e2
        rw [List.getElem?_eq_getElem (by omega)] at e1 e2
        simp only [Option.some.injEq] at e1 e2
        rw [List.getElem?_set]
        by_cases c1 : l0.length - 1 - m = j
        · rw [if_pos c1, if_pos (by simp; omega), if_pos (by omega), e2, List.getElem?_eq_getElem (by omega)]
          congr 2; omega
        · rw [if_neg c1, List.getElem?_set]
          by_cases c2 : m = j
          · rw [if_pos c2, if_pos (by omega), if_pos (by omega), e1, List.getElem?_eq_getElem (by omega)]
            congr 2; omega
          · rw [if_neg c2, h4 j hj]
            by_cases c3 : j < m ∨ l0.length ≤ j + m
            · rw [if_pos c3, if_pos (by omega)]
            · rw [if_neg c3, if_neg (by omega)])
      refine Tl.succ ?_
      simp only [api_Rat_77.l0]
      refine Tl.pos (by omega) (Tl.pos (by omega) (Tl.pos (by omega) (Tl.pos (by omega) (Tl.pos (by omega) ?_))))
      rw [w64 (by omega) (by omega), w64 (by omega) (by omega), Int.toNat_natCast, show ((l0.length : Int) - 1 - m).toNat = l0.length - 1 - m by omega]
      rw [show ((m + 1 : Nat) : Int) = (m : Int) + 1 by omega, show (l0.length : Int) - 1 - ((m : Int) + 1) = (l0.length : Int) - 1 - m - 1 by omega] at next
      exact next
    · refine Tl.succ ?_
      simp only [api_Rat_77.l0]
      refine Tl.to (Tl.neg (by omega) Tl.now) ?_
      refine List.ext_getElem? (fun j => ?_)
      by_cases hj : j < l0.length
      · rw [List.getElem?_reverse hj, h4 j hj]
        by_cases c : j < m ∨ l0.length ≤ j + m
        · rw [if_pos c]
        · rw [if_neg c]; congr 1; omega
      · rw [List.getElem?_eq_none (by omega), List.getElem?_eq_none (by simp; omega)]
theorem ev_revr (l0 : List S33) (hl : l0.length ≤ 1000) : Tl (fun k => api_Rat_77.f k l0) l0.reverse := by
  unfold api_Rat_77.f
  have := ev_revr_loop l0 hl l0.length 0 l0 (by omega) (by omega) rfl (by intro j hj; rw [if_neg (by omega)])
  rw [w64 (by omega) (by omega)]
  rw [show ((0 : Nat) : Int) = 0 from rfl, show (l0.length : Int) - 1 - 0 = (l0.length : Int) - 1 by omega] at this
  exact this

theorem rturned_loop (l0 : List S31) (hl : l0.length ≤ 1000) (d : Nat) : ∀ (m : Nat) , m ≤ l0.length → m = d → Tl (fun k => diaphoneref02_turned.l0 k l0 ((l0.drop m).reverse) ((m : Int) - 1)) l0.reverse := by
  induction d with
  | zero =>
    intro m h1 h2
    subst h2
    refine Tl.succ ?_
    simp only [diaphoneref02_turned.l0]
    exact Tl.to (Tl.neg (by omega) Tl.now) (by simp)
  | succ d ih =>
    intro m h1 h2
    subst h2
    have next := ih d (by omega) rfl
    rw [drop_cons (show d < l0.length by omega), List.reverse_cons, ← rd31 (show d < l0.length by omega)] at next
    refine Tl.succ ?_
    simp only [diaphoneref02_turned.l0]
    rw [show ((d + 1 : Nat) : Int) - 1 = (d : Int) by omega, w64 (x := (d : Int) - 1) (by omega) (by omega)]
    exact Tl.pos (by omega) (Tl.pos (by omega) (Tl.pos (by omega) (Tl.pos (by simp; omega) next)))
theorem ev_rturned (l0 : List S31) (hl : l0.length ≤ 1000) : Tl (fun k => diaphoneref02_turned.f k l0) l0.reverse := by
  unfold diaphoneref02_turned.f
  have := rturned_loop l0 hl l0.length l0.length (by omega) rfl
  rw [w64 (by omega) (by omega)]
  simpa using this
theorem ev_turned {l0 : List S31} (h0 : 0 < l0.length) (hl : l0.length ≤ 1000) : Tl (fun k => haze_turned.f k l0) l0.reverse := by
  unfold haze_turned.f
  exact Tl.bind' (copied_eq h0 hl) (Tl.bind (ev_rev l0 hl) Tl.now)
theorem rev_rd {h : List S31} {i : Nat} (hi : i < h.length) : rd_T31 h.reverse (i : Int) = rd_T31 h ((h.length - 1 - i : Nat) : Int) := by
  rw [rd31 (by simpa using hi), rd31 (show h.length - 1 - i < h.length by omega), List.getElem_reverse]
theorem rev_ok {h : List S31} (ok : Ok h) : Ok h.reverse := by
  refine ⟨by simpa using ok.1, by simpa using ok.2.1, fun i hi => ?_⟩
  rw [List.length_reverse] at hi
  rw [rev_rd hi]
  exact ok.2.2 _ (by omega)
theorem ev_Turn {h : List S31} (hl : h.length ≤ 1000) : Tl (fun k => haze_Turn.f k h) (if vc h = 0 then (h.reverse, 0) else ([], vc h)) := by
  unfold haze_Turn.f
  refine Tl.bind (ev_Validate hl) ?_
  by_cases hk : vc h = 0
  · exact Tl.to (Tl.pos hk (Tl.bind (ev_turned (vc_ok.1 hk).1 hl) Tl.now)) (by simp [hk])
  · exact Tl.to (Tl.neg hk Tl.now) (by simp [hk])
end Go.Proofs.Ytgdhbeccpicdcaa.Tu
