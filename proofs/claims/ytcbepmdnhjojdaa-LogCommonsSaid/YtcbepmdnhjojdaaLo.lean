/- Which logs and costs are right; the distance that the program returns. -/
import Derived.Test.YtcbepmdnhjojdaaEv
import Derived.Test.YtcbepmdnhjojdaaAl
import Derived.Test.YtcbepmdnhjojdaaPx32
import Derived.Test.YtcbepmdnhjojdaaPx3
import Derived.Test.YtcbepmdnhjojdaaPx12
set_option linter.unusedVariables false
namespace Go.Proofs.Ytcbepmdnhjojdaa.Lo
open Go.RowKit Go.Proofs.Ytcbepmdnhjojdaa.P Go.Proofs.Ytcbepmdnhjojdaa.E Go.Proofs.Ytcbepmdnhjojdaa.Al Go.Proofs.YtcbepmdnhjojdaaW.PrintMore
open Go.Proofs.YtcbepmdnhjojdaaW.PrintWords
theorem drop_cons {α : Type} {h : List α} {i : Nat} (hi : i < h.length) : h.drop i = h[i] :: h.drop (i + 1) := List.drop_eq_getElem_cons hi
theorem within_eq (a b c : Int) : log_within.f a b c = some (decide (b ≤ a ∧ a ≤ c)) := by
  unfold log_within.f
  by_cases h : b ≤ a
  · rw [if_pos h]; congr 1; exact decide_eq_decide.2 ⟨fun q => ⟨h, q⟩, fun q => q.2⟩
  · rw [if_neg h]; congr 1; exact (decide_eq_false (fun q => h q.1)).symm
def good (l : List Int) : Bool := l.all (fun x => decide (0 ≤ x ∧ x ≤ 5))
def lc (l : List Int) : Int := if l.length ≤ 10 then (if good l = true then 0 else 1) else 3
def cc (o i c : Int) : Int := if (1 ≤ o ∧ o ≤ 9) ∧ (1 ≤ i ∧ i ≤ 9) ∧ (1 ≤ c ∧ c ≤ 9) then 0 else 1
def kc (l m : List Int) (o i c : Int) : Int := if lc l = 0 then (if lc m = 0 then cc o i c else lc m) else lc l
theorem kc_zero {l m : List Int} {o i c : Int} : kc l m o i c = 0 ↔ lc l = 0 ∧ lc m = 0 ∧ cc o i c = 0 := by
  unfold kc
  by_cases h : lc l = 0
  · rw [if_pos h]
    by_cases h2 : lc m = 0
    · rw [if_pos h2]; exact ⟨fun q => ⟨h, h2, q⟩, fun q => q.2.2⟩
    · rw [if_neg h2]; exact ⟨fun q => absurd q h2, fun q => absurd q.2.1 h2⟩
  · rw [if_neg h]; exact ⟨fun q => absurd q h, fun q => absurd q.1 h⟩
theorem lc_zero {l : List Int} : lc l = 0 ↔ l.length ≤ 10 ∧ good l = true := by
  unfold lc
  by_cases h : l.length ≤ 10
  · rw [if_pos h]
    by_cases h2 : good l = true
    · rw [if_pos h2]; exact ⟨fun _ => ⟨h, h2⟩, fun _ => rfl⟩
    · rw [if_neg h2]; exact ⟨fun q => by omega, fun q => absurd q.2 h2⟩
  · rw [if_neg h]; exact ⟨fun q => by omega, fun q => absurd q.1 h⟩
theorem cc_zero {o i c : Int} : cc o i c = 0 ↔ (1 ≤ o ∧ o ≤ 9) ∧ (1 ≤ i ∧ i ≤ 9) ∧ (1 ≤ c ∧ c ≤ 9) := by
  unfold cc
  split
  · exact ⟨fun _ => by assumption, fun _ => rfl⟩
  · exact ⟨fun q => by omega, fun q => absurd q (by assumption)⟩
theorem good_drop {t : List Int} {i : Nat} (hi : i < t.length) : good (t.drop i) = (decide (0 ≤ rd t (i : Int) ∧ rd t (i : Int) ≤ 5) && good (t.drop (i + 1))) := by
  rw [drop_cons hi, rd_lt hi]; rfl
theorem vloop (t : List Int) (hl : t.length ≤ 1000) (d : Nat) : ∀ i : Nat, i ≤ t.length → t.length - i = d → ∃ j : Int, (j < 0 ↔ good (t.drop i) = true) ∧ Tl (fun k => slices_IndexFunc_int_int_log_Validate_1.l0 k t (t.length : Int) (i : Int)) j := by
  induction d with
  | zero =>
    intro i h1 h2
    refine ⟨-1, ?_, ?_⟩
    · rw [List.drop_eq_nil_of_le (by omega)]; simp [good]
    · refine Tl.succ ?_
      simp only [slices_IndexFunc_int_int_log_Validate_1.l0]
      exact Tl.neg (by omega) Tl.now
  | succ d ih =>
    intro i h1 h2
    have hlt : i < t.length := by omega
    obtain ⟨j, hj, next⟩ := ih (i + 1) (by omega) (by omega)
    rw [show ((i + 1 : Nat) : Int) = (i : Int) + 1 by omega, ← w64 (x := (i : Int) + 1) (by omega) (by omega)] at next
    rw [good_drop hlt]
    have e : log_Validate_1.f (rd t (i : Int)) = some (!decide (0 ≤ rd t (i : Int) ∧ rd t (i : Int) ≤ 5)) := by
      unfold log_Validate_1.f
      rw [within_eq]; rfl
    by_cases c : 0 ≤ rd t (i : Int) ∧ rd t (i : Int) ≤ 5
    · refine ⟨j, by rw [hj]; simp [c], ?_⟩
      refine Tl.succ ?_
      simp only [slices_IndexFunc_int_int_log_Validate_1.l0]
      exact Tl.pos (by omega) (Tl.pos (by omega) (Tl.pos (by omega) (Tl.bind' e (Tl.neg (by simp [c]) next))))
    · refine ⟨(i : Int), ⟨fun q => by omega, fun q => by simp [c] at q⟩, ?_⟩
      refine Tl.succ ?_
      simp only [slices_IndexFunc_int_int_log_Validate_1.l0]
      exact Tl.pos (by omega) (Tl.pos (by omega) (Tl.pos (by omega) (Tl.bind' e (Tl.pos (by simp [c]) Tl.now))))
theorem ev_Validate {t : List Int} (hl : t.length ≤ 1000) : Tl (fun k => log_Validate.f k t) (lc t) := by
  unfold log_Validate.f
  obtain ⟨j, hj, hr⟩ := vloop t hl t.length 0 (by omega) (by omega)
  rw [List.drop_zero] at hj
  have b : Tl (fun k => slices_ContainsFunc_int_int_log_Validate_1.f k t) (!good t) := by
    unfold slices_ContainsFunc_int_int_log_Validate_1.f
    refine Tl.to (Tl.bind hr Tl.now) ?_
    cases hb : good t with
    | true => rw [hb] at hj; have := hj.2 rfl; simp; omega
    | false => rw [hb] at hj; have : ¬ j < 0 := fun q => by simpa using hj.1 q
               simp; omega
  by_cases h : t.length ≤ 10
  · refine Tl.neg (by omega) (Tl.bind b ?_)
    cases hg : good t with
    | true => exact Tl.to (Tl.neg (by simp) Tl.now) (by simp [lc, h, hg])
    | false => exact Tl.to (Tl.pos (by simp) Tl.now) (by simp [lc, h, hg])
  · exact Tl.to (Tl.pos (by omega) Tl.now) (by simp [lc, h])
theorem costs_eq (o i c : Int) : log_ValidateCosts.f o i c = some (cc o i c) := by
  unfold log_ValidateCosts.f cc
  rw [within_eq, Option.bind_some]
  by_cases h1 : 1 ≤ o ∧ o ≤ 9
  · rw [if_pos (decide_eq_true h1), within_eq, Option.bind_some]
    by_cases h2 : 1 ≤ i ∧ i ≤ 9
    · rw [if_pos (decide_eq_true h2), within_eq, Option.bind_some]
      by_cases h3 : 1 ≤ c ∧ c ≤ 9
      · rw [if_pos (decide_eq_true h3), if_pos ⟨h1, h2, h3⟩]
      · rw [if_neg (by simpa using h3), if_neg (fun q => h3 q.2.2)]
    · rw [if_neg (by simpa using h2), if_neg (fun q => h2 q.2.1)]
  · rw [if_neg (by simpa using h1), if_neg (fun q => h1 q.1)]
theorem ev_or3 (a b c : Int) : Tl (fun k => api_Errno.f k [a, b, c]) (if a = 0 then (if b = 0 then c else b) else a) := by
  unfold api_Errno.f
  have e1 : wrap64 ((0 : Int) + 1) = 1 := by unfold wrap64; omega
  have e2 : wrap64 ((1 : Int) + 1) = 2 := by unfold wrap64; omega
  have e3 : wrap64 ((2 : Int) + 1) = 3 := by unfold wrap64; omega
  have l3 : (([a, b, c] : List Int).length : Int) = 3 := rfl
  have r0 : rd [a, b, c] 0 = a := rfl
  have r1 : rd [a, b, c] 1 = b := rfl
  have r2 : rd [a, b, c] 2 = c := rfl
  rw [l3]
  refine Tl.succ ?_
  simp only [api_Errno.l0, r0, e1, l3]
  refine Tl.pos (by omega) (Tl.pos (by omega) (Tl.pos (by omega) ?_))
  by_cases ha : a = 0
  · rw [if_pos ha]
    refine Tl.pos ha (Tl.succ ?_)
    simp only [api_Errno.l0, r1, e2, l3]
    refine Tl.pos (by omega) (Tl.pos (by omega) (Tl.pos (by omega) ?_))
    by_cases hb : b = 0
    · rw [if_pos hb]
      refine Tl.pos hb (Tl.succ ?_)
      simp only [api_Errno.l0, r2, e3, l3]
      refine Tl.pos (by omega) (Tl.pos (by omega) (Tl.pos (by omega) ?_))
      by_cases hc : c = 0
      · refine Tl.pos hc (Tl.succ ?_)
        simp only [api_Errno.l0, l3]
        exact Tl.to (Tl.neg (by omega) Tl.now) hc.symm
      · exact Tl.neg hc Tl.now
    · rw [if_neg hb]; exact Tl.neg hb Tl.now
  · rw [if_neg ha]; exact Tl.neg ha Tl.now
theorem ev_check {l m : List Int} {o i c : Int} (hl : l.length ≤ 1000) (hm : m.length ≤ 1000) : Tl (fun k => log_check.f k l m o i c) (kc l m o i c) := by
  unfold log_check.f
  exact Tl.bind (ev_Validate hl) (Tl.bind (ev_Validate hm) (Tl.bind' (costs_eq o i c) (Tl.bind (ev_or3 _ _ _) Tl.now)))
/-- The table's numbers are the distances of the beginnings. -/
theorem ch_log (c a b : Int) : log_ch c a b = ch c a b := rfl
theorem tb_isD {l m : List Int} {o i c : Int} : ∀ a k : Nat, a ≤ l.length → k ≤ m.length → IsD o i c (l.take a) (m.take k) (log_tb l m o i c a k)
  | 0, k, _, hk => by
    rw [log_tb, List.take_zero]
    have := isD_nil_l (o := o) (i := i) (c := c) (m.take k)
    rwa [List.length_take, Nat.min_eq_left hk, Int.mul_comm] at this
  | a + 1, 0, ha, _ => by
    rw [log_tb, List.take_zero]
    have := isD_nil_r (o := o) (i := i) (c := c) (l.take (a + 1))
    rwa [List.length_take, Nat.min_eq_left ha, Int.mul_comm] at this
  | a + 1, k + 1, ha, hk => by
    have h1 := tb_isD (l := l) (m := m) (o := o) (i := i) (c := c) a (k + 1) (by omega) hk
    have h2 := tb_isD (l := l) (m := m) (o := o) (i := i) (c := c) (a + 1) k ha (by omega)
    have h3 := tb_isD (l := l) (m := m) (o := o) (i := i) (c := c) a k (by omega) (by omega)
    have el : l.take (a + 1) = l.take a ++ [l[a]] := by rw [List.take_succ_eq_append_getElem (by omega)]
    have em : m.take (k + 1) = m.take k ++ [m[k]] := by rw [List.take_succ_eq_append_getElem (by omega)]
    rw [em] at h1
    rw [el] at h2
    have := isD_snoc h1 h2 h3
    rw [el, em, log_tb, rd_lt (show a < l.length by omega), rd_lt (show k < m.length by omega), ch_log]
    rw [mn_eq, mn_eq, Int.min_assoc]
    exact this
  termination_by a k => (a, k)
/-- What Distance comes to. -/
theorem ev_Distance {l m : List Int} {o i c : Int} (hl : l.length ≤ 1000) (hm : m.length ≤ 1000) : ∃ d : Int, (kc l m o i c = 0 → IsD o i c l m d) ∧ Tl (fun k => log_Distance.f k l m o i c) (if kc l m o i c = 0 then d else 0, kc l m o i c) := by
  unfold log_Distance.f
  by_cases h : kc l m o i c = 0
  · obtain ⟨h1, h2, h3⟩ := kc_zero.1 h
    have g1 := (lc_zero.1 h1).1
    have g2 := (lc_zero.1 h2).1
    have g3 := cc_zero.1 h3
    have hd := tb_isD (l := l) (m := m) (o := o) (i := i) (c := c) l.length m.length (Nat.le_refl _) (Nat.le_refl _)
    rw [List.take_length, List.take_length] at hd
    refine ⟨log_tb l m o i c l.length m.length, fun _ => hd, ?_⟩
    rw [if_pos h]
    refine Tl.bind (ev_check hl hm) (Tl.pos h (Tl.bind' (a := log_tb l m o i c l.length m.length) ?_ (Tl.to Tl.now (by rw [h]))))
    unfold log_distance.f log_table.f
    rw [if_pos ⟨g1, g2, ⟨by omega, by omega⟩, ⟨by omega, by omega⟩, ⟨by omega, by omega⟩⟩]; rfl
  · exact ⟨0, fun q => absurd q h, by rw [if_neg h]; exact Tl.bind (ev_check hl hm) (Tl.neg h Tl.now)⟩
theorem known_dist : log_tb [1, 2, 3] [1, 3] 1 1 1 3 2 = 1 := by
  simp only [log_tb]
  decide
theorem known_count : log_Count.f 60 [1, 1] [1] 1 1 1 = some (2, 0) := by decide +kernel
theorem ev_known : Tl (fun k => diaphonelaw06_known.f k) true := by
  unfold diaphonelaw06_known.f
  obtain ⟨d, hd, ht⟩ := ev_Distance (l := [1, 2, 3]) (m := [1, 3]) (o := 1) (i := 1) (c := 1) (by simp) (by simp)
  have hk : kc [1, 2, 3] [1, 3] 1 1 1 = 0 := by decide
  have e := tb_isD (l := [1, 2, 3]) (m := [1, 3]) (o := 1) (i := 1) (c := 1) 3 2 (by simp) (by simp)
  rw [known_dist] at e
  have e2 : d = 1 := (hd hk).unique e
  rw [if_pos hk, hk, e2] at ht
  exact Tl.bind ht (Tl.bind (Tl.mono (log_Count.mono _ _ _ _ _) 60 known_count) (Tl.pos rfl (Tl.pos rfl (Tl.pos rfl (Tl.to Tl.now (by decide))))))
theorem ev_known' : Tl (fun k => (diaphonelaw06_known.f k).bind fun t => some t) true := Tl.bind ev_known Tl.now
def lg (l m : List Int) : Bool := decide ((l.length : Int) > 100) || decide ((m.length : Int) > 100)
theorem long_eq (l m : List Int) (a b c : Int) : diaphonelaw06_Long.f l m a b c = some (lg l m) := by
  unfold diaphonelaw06_Long.f diaphonelaw06_large.f lg
  by_cases h : (l.length : Int) > 100
  · simp [h]
  · simp [h]
theorem lg_false {l m : List Int} (h : lg l m = false) : l.length ≤ 100 ∧ m.length ≤ 100 := by
  unfold lg at h
  simp at h
  omega
end Go.Proofs.Ytcbepmdnhjojdaa.Lo
