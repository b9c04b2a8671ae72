/- Tones with sound and silence exchanged, and tones turned round. -/
import Derived.Test.YtmpmfjnmfgnhcaaSm
import Derived.Test.YtmpmfjnmfgnhcaaPx17
import Derived.Test.YtmpmfjnmfgnhcaaPx17
import Derived.Test.YtmpmfjnmfgnhcaaPx18
import Derived.Test.YtmpmfjnmfgnhcaaPx18
import Derived.Test.YtmpmfjnmfgnhcaaPx36
set_option linter.unusedVariables false
namespace Go.Proofs.Ytmpmfjnmfgnhcaa.Sw
open Go.RowKit Go.Proofs.Ytmpmfjnmfgnhcaa.P Go.Proofs.Ytmpmfjnmfgnhcaa.E Go.Proofs.Ytmpmfjnmfgnhcaa.Va Go.Proofs.Ytmpmfjnmfgnhcaa.Pe Go.Proofs.Ytmpmfjnmfgnhcaa.Nm Go.Proofs.Ytmpmfjnmfgnhcaa.Tn Go.Proofs.Ytmpmfjnmfgnhcaa.Sm Go.Proofs.YtmpmfjnmfgnhcaaW.PrintMore
open Go.Proofs.YtmpmfjnmfgnhcaaW.PrintWords
theorem ev_rev_loop (l0 : List Int) (hl : l0.length ≤ 1000) (d : Nat) : ∀ (m : Nat) (l : List Int), 2 * m ≤ l0.length → l0.length - 2 * m ≤ d → l.length = l0.length →
    (∀ j, j < l0.length → l[j]? = if j < m ∨ l0.length ≤ j + m then l0[l0.length - 1 - j]? else l0[j]?) → Tl (fun k => slices_Reverse_int_int.l0 k l (m : Int) ((l0.length : Int) - 1 - m)) l0.reverse := by
  have fin : ∀ (m : Nat) (l : List Int), 2 * m ≤ l0.length → ¬ 2 * m + 1 < l0.length → l.length = l0.length →
    (∀ j, j < l0.length → l[j]? = if j < m ∨ l0.length ≤ j + m then l0[l0.length - 1 - j]? else l0[j]?) → Tl (fun k => slices_Reverse_int_int.l0 k l (m : Int) ((l0.length : Int) - 1 - m)) l0.reverse := by
    intro m l h1 h2 h3 h4
    refine Tl.succ ?_
    simp only [slices_Reverse_int_int.l0]
    refine Tl.to (Tl.neg (by omega) Tl.now) ?_
    refine List.ext_getElem? (fun j => ?_)
    by_cases hj : j < l0.length
    · rw [List.getElem?_reverse hj, h4 j hj]
      by_cases c : j < m ∨ l0.length ≤ j + m
      · rw [if_pos c]
      · rw [if_neg c]; congr 1; omega
    · rw [List.getElem?_eq_none (by omega), List.getElem?_eq_none (by simp; omega)]
  induction d with
  | zero => exact fun m l h1 h2 h3 h4 => fin m l h1 (by omega) h3 h4
  | succ d ih =>
    intro m l h1 h2 h3 h4
    by_cases hlt : 2 * m + 1 < l0.length
    · have next := ih (m + 1) ((l.set m (rd l ((l0.length : Int) - 1 - m))).set (l0.length - 1 - m) (rd l (m : Int))) (by omega) (by omega) (by simp [h3]) (by
        intro j hj
        rw [show (l0.length : Int) - 1 - m = ((l0.length - 1 - m : Nat) : Int) by omega]
        rw [rd_lt (show l0.length - 1 - m < l.length by omega), rd_lt (show m < l.length by omega)]
        have e1 := h4 (l0.length - 1 - m) (by omega)
        have e2 := h4 m (by omega)
        rw [if_neg (by omega), List.getElem?_eq_getElem (by omega)] at e1 e2
        rw [List.getElem?_eq_getElem (by omega)] at e1 e2
        simp only [Option.some.injEq] at e1 e2
        rw [List.getElem?_set]
        by_cases c1 : l0.length - 1 - m = j
        · rw [if_pos c1, if_pos (by simp; omega), if_pos (by omega), e2, List.getElem?_eq_getElem (by omega)]
          congr 2; omega
        · rw [if_neg c1, List.getElem?_set]
          by_cases c2 : m = j
          · rw [if_pos c2, if_pos (by omega), if_pos (by omega), e1, List.getElem?_eq_getElem (by omega)]
            congr 2; omega
          · rw [if_neg c2, h4 j hj]
            by_cases c3 : j < m ∨ l0.length ≤ j + m
            · rw [if_pos c3, if_pos (by omega)]
            · rw [if_neg c3, if_neg (by omega)])
      refine Tl.succ ?_
      simp only [slices_Reverse_int_int.l0]
      refine Tl.pos (by omega) (Tl.pos (by omega) (Tl.pos (by omega) (Tl.pos (by omega) (Tl.pos (by omega) ?_))))
      rw [w64 (by omega) (by omega), w64 (by omega) (by omega), Int.toNat_natCast, show ((l0.length : Int) - 1 - m).toNat = l0.length - 1 - m by omega]
      rw [show ((m + 1 : Nat) : Int) = (m : Int) + 1 by omega, show (l0.length : Int) - 1 - ((m : Int) + 1) = (l0.length : Int) - 1 - m - 1 by omega] at next
      exact next
    · exact fin m l h1 hlt h3 h4
theorem ev_rev (l0 : List Int) (hl : l0.length ≤ 1000) : Tl (fun k => slices_Reverse_int_int.f k l0) l0.reverse := by
  unfold slices_Reverse_int_int.f
  have := ev_rev_loop l0 hl l0.length 0 l0 (by omega) (by omega) rfl (by intro j hj; rw [if_neg (by omega)])
  rw [w64 (by omega) (by omega)]
  rw [show ((0 : Nat) : Int) = 0 from rfl, show (l0.length : Int) - 1 - 0 = (l0.length : Int) - 1 by omega] at this
  exact this
theorem clone_eq {t : List Int} (h : t.length ≤ 1000) : slices_Clone_int_int.f t = some t := by
  unfold slices_Clone_int_int.f
  rw [if_pos (by omega)]
def sw (t : List Int) : List Int := t.map (fun x => 1 - x)
theorem sw_length (t : List Int) : (sw t).length = t.length := by simp [sw]
theorem sw_get {t : List Int} {i : Nat} (h : i < t.length) : (sw t)[i]'(by rw [sw_length]; exact h) = 1 - t[i] := by simp [sw]
theorem take_set {a b : List Int} (h : a.length = b.length) {i : Nat} (hi : i < a.length) : (a.take i ++ b.drop i).set i a[i] = a.take (i + 1) ++ b.drop (i + 1) := by
  have hl : (a.take i).length = i := by simp; omega
  rw [List.set_append_right _ _ (by omega), hl, Nat.sub_self, drop_cons (show i < b.length by omega), List.set_cons_zero, List.take_succ_eq_append_getElem hi, List.append_assoc]
  rfl
theorem sw_loop {t : List Int} (ok : Ok t) (d : Nat) : ∀ i : Nat, i ≤ t.length → t.length - i = d → Tl (fun k => tone_Swap.l0 k ((sw t).take i ++ t.drop i) (t.length : Int) (i : Int)) (sw t, 0) := by
  have hl := ok.2.1
  induction d with
  | zero =>
    intro i h1 h2
    refine Tl.succ ?_
    simp only [tone_Swap.l0]
    refine Tl.to (Tl.neg (by omega) Tl.now) ?_
    rw [List.drop_eq_nil_of_le (by omega), List.append_nil, List.take_of_length_le (by rw [sw_length]; omega)]
  | succ d ih =>
    intro i h1 h2
    have hi : i < t.length := by omega
    have hlen : ((sw t).take i ++ t.drop i).length = t.length := by simp [sw_length]; omega
    have hr : rd ((sw t).take i ++ t.drop i) (i : Int) = t[i] := by
      rw [rd_lt (by omega), List.getElem_append_right (by simp [sw_length]; omega)]
      simp [sw_length]
      congr 1; omega
    have hb := ok.2.2 i hi
    rw [rd_lt hi] at hb
    refine Tl.succ ?_
    simp only [tone_Swap.l0]
    rw [hr, hlen, w64 (x := (i : Int) + 1) (by omega) (by omega), w64 (x := 1 - t[i]) (by omega) (by omega), Int.toNat_natCast, ← sw_get hi, take_set (sw_length t) (by rw [sw_length]; exact hi)]
    exact Tl.pos (by omega) (Tl.pos (by omega) (Tl.pos (by omega) (ih (i + 1) (by omega) (by omega))))
theorem rsw_loop {t : List Int} (ok : Ok t) (d : Nat) : ∀ i : Nat, i ≤ t.length → t.length - i = d → Tl (fun k => diaphoneref01_Swap.l0 k t ((sw t).take i) (i : Int)) (sw t, 0) := by
  have hl := ok.2.1
  induction d with
  | zero =>
    intro i h1 h2
    refine Tl.succ ?_
    simp only [diaphoneref01_Swap.l0]
    refine Tl.to (Tl.neg (by omega) Tl.now) ?_
    rw [List.take_of_length_le (by rw [sw_length]; omega)]
  | succ d ih =>
    intro i h1 h2
    have hi : i < t.length := by omega
    have hb := ok.2.2 i hi
    have next := ih (i + 1) (by omega) (by omega)
    rw [List.take_succ_eq_append_getElem (show i < (sw t).length by rw [sw_length]; exact hi), sw_get hi] at next
    refine Tl.succ ?_
    simp only [diaphoneref01_Swap.l0]
    rw [rd_lt hi] at hb ⊢
    rw [w64 (x := (i : Int) + 1) (by omega) (by omega), w64 (x := 1 - t[i]) (by omega) (by omega)]
    exact Tl.pos (by omega) (Tl.pos (by omega) (Tl.pos (by simp [sw_length]; omega) next))
theorem rback_loop {t : List Int} (ok : Ok t) (d : Nat) : ∀ i : Nat, i ≤ t.length → t.length - i = d → Tl (fun k => diaphoneref01_Back.l0 k t (t.reverse.take i) ((t.length : Int) - 1 - i)) (t.reverse, 0) := by
  have hl := ok.2.1
  induction d with
  | zero =>
    intro i h1 h2
    refine Tl.succ ?_
    simp only [diaphoneref01_Back.l0]
    refine Tl.to (Tl.neg (by omega) Tl.now) ?_
    rw [List.take_of_length_le (by simp; omega)]
  | succ d ih =>
    intro i h1 h2
    have hi : i < t.length := by omega
    have next := ih (i + 1) (by omega) (by omega)
    rw [List.take_succ_eq_append_getElem (show i < t.reverse.length by simp; exact hi), List.getElem_reverse, show (t.length : Int) - 1 - ((i + 1 : Nat) : Int) = (t.length : Int) - 1 - (i : Int) - 1 by omega] at next
    refine Tl.succ ?_
    simp only [diaphoneref01_Back.l0]
    rw [w64 (x := (t.length : Int) - 1 - (i : Int) - 1) (by omega) (by omega), show (t.length : Int) - 1 - (i : Int) = ((t.length - 1 - i : Nat) : Int) by omega, rd_lt (show t.length - 1 - i < t.length by omega)]
    rw [show (t.length : Int) - 1 - (i : Int) - 1 = ((t.length - 1 - i : Nat) : Int) - 1 by omega] at next
    exact Tl.pos (by omega) (Tl.pos (by omega) (Tl.pos (by omega) (Tl.pos (by simp; omega) next)))
theorem sec_sw {t : List Int} (h0 : 0 < t.length) (i : Int) : sec (sw t) i = 1 - sec t i := by
  have k1 := Int.emod_nonneg i (show (t.length : Int) ≠ 0 by omega)
  have k2 := Int.emod_lt_of_pos i (show (0 : Int) < t.length by omega)
  obtain ⟨c, hc⟩ : ∃ c : Nat, i % (t.length : Int) = c := ⟨(i % (t.length : Int)).toNat, by omega⟩
  rw [← sec_emod (sw t), ← sec_emod t i, sw_length, hc, sec_nat (show c < (sw t).length by rw [sw_length]; omega), sec_nat (show c < t.length by omega), sw_get]
theorem sec_rev {t : List Int} (h0 : 0 < t.length) (i : Int) : sec t.reverse i = sec t (-1 - i) := by
  have k1 := Int.emod_nonneg i (show (t.length : Int) ≠ 0 by omega)
  have k2 := Int.emod_lt_of_pos i (show (0 : Int) < t.length by omega)
  have e0 := Int.emod_add_mul_ediv i (t.length : Int)
  obtain ⟨c, hc⟩ : ∃ c : Nat, i % (t.length : Int) = c := ⟨(i % (t.length : Int)).toNat, by omega⟩
  rw [hc] at e0
  have e1 : -1 - i = ((t.length - 1 - c : Nat) : Int) + (t.length : Int) * (-1 - i / (t.length : Int)) := by
    rw [Int.mul_sub, Int.mul_neg, Int.mul_one]; omega
  rw [e1, sec_mul, sec_nat (by omega), ← sec_emod, List.length_reverse, hc, sec_nat (by simp; omega), List.getElem_reverse]
theorem per_sw {t : List Int} (h0 : 0 < t.length) (q : Nat) : Per (sw t) q ↔ Per t q := by
  constructor
  · intro h i
    have := h i
    rw [sec_sw h0, sec_sw h0] at this
    omega
  · intro h i
    rw [sec_sw h0, sec_sw h0, h]
theorem per_rev {t : List Int} (h0 : 0 < t.length) (q : Nat) : Per t.reverse q ↔ Per t q := by
  constructor
  · intro h i
    have := h (-1 - i - q)
    rw [sec_rev h0, sec_rev h0] at this
    rw [show -1 - (-1 - i - (q : Int) + q) = i by omega, show -1 - (-1 - i - (q : Int)) = i + q by omega] at this
    exact this.symm
  · intro h i
    rw [sec_rev h0, sec_rev h0, ← h (-1 - (i + q))]
    congr 1; omega
theorem isper_congr {s t : List Int} (hl : s.length = t.length) (h : ∀ q, Per s q ↔ Per t q) {p : Nat} (hp : IsPer t p) : IsPer s p :=
  ⟨hp.1, by rw [hl]; exact hp.2.1, (h p).2 hp.2.2.1, fun q h1 h2 h3 => hp.2.2.2 q h1 h2 ((h q).1 h3)⟩
theorem ok_sw {t : List Int} (ok : Ok t) : Ok (sw t) := by
  refine ⟨by rw [sw_length]; exact ok.1, by rw [sw_length]; exact ok.2.1, fun i hi => ?_⟩
  rw [sw_length] at hi
  have := ok.2.2 i hi
  rw [rd_lt hi] at this
  rw [rd_lt (by rw [sw_length]; exact hi), sw_get hi]
  omega
theorem ok_rev {t : List Int} (ok : Ok t) : Ok t.reverse := by
  refine ⟨by simpa using ok.1, by simpa using ok.2.1, fun i hi => ?_⟩
  simp only [List.length_reverse] at hi
  have := ok.2.2 (t.length - 1 - i) (by omega)
  rw [rd_lt (by omega)] at this
  rw [rd_lt (by simpa using hi), List.getElem_reverse]
  exact this
theorem ev_Period {t : List Int} (ok : Ok t) {p : Nat} (hp : IsPer t p) : Tl (fun k => tone_Period.f k t) ((p : Int), 0) := by
  have hl := ok.2.1
  obtain ⟨q, hq, hr⟩ := ev_period ok.1 (show t.length ≤ 1000 by omega)
  obtain rfl := hp.unique hq
  unfold tone_Period.f
  exact Tl.bind (ev_Validate (by omega)) (Tl.pos (vc_ok.2 ok) (Tl.bind hr Tl.now))
theorem ev_Period_no {t : List Int} (hl : t.length ≤ 1000) (h : ¬ vc t = 0) : Tl (fun k => tone_Period.f k t) (0, vc t) := by
  unfold tone_Period.f
  exact Tl.bind (ev_Validate hl) (Tl.neg h Tl.now)
end Go.Proofs.Ytmpmfjnmfgnhcaa.Sw
