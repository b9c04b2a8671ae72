/- The amount of counts: what both programs calculate. -/
import Derived.Test.YtgndhijhcliegaaMe
import Derived.Test.YtgndhijhcliegaaPx21
import Derived.Test.YtgndhijhcliegaaPx12
set_option linter.unusedVariables false
namespace Go.Proofs.Ytgndhijhcliegaa.Cc
open Go.RowKit Go.Proofs.Ytgndhijhcliegaa.P Go.Proofs.Ytgndhijhcliegaa.E Go.Proofs.Ytgndhijhcliegaa.Va Go.Proofs.Ytgndhijhcliegaa.Kn Go.Proofs.Ytgndhijhcliegaa.Me Go.Proofs.YtgndhijhcliegaaW.PrintMore
open Go.Proofs.YtgndhijhcliegaaW.PrintWords
theorem drop_cons {α : Type} {h : List α} {i : Nat} (hi : i < h.length) : h.drop i = h[i] :: h.drop (i + 1) := List.drop_eq_getElem_cons hi
def inb (l : List Int) : Bool := l.all (fun x => decide (0 ≤ x ∧ x ≤ 2000))
theorem inb_drop {t : List Int} {i : Nat} (hi : i < t.length) : inb (t.drop i) = (decide (0 ≤ rd t (i : Int) ∧ rd t (i : Int) ≤ 2000) && inb (t.drop (i + 1))) := by
  rw [drop_cons hi, rd_lt hi]; rfl
def am (w l : List Int) : Nat → Int
  | 0 => 0
  | i + 1 => am w l i + rd l (i : Int) * rd w (i : Int)
theorem idx_loop (t : List Int) (hl : t.length ≤ 1000) (d : Nat) : ∀ i : Nat, i ≤ t.length → t.length - i = d → ∃ j : Int, (j < 0 ↔ inb (t.drop i) = true) ∧ Tl (fun k => slices_IndexFunc_int_int_charge_CheckCounts_1.l0 k t (t.length : Int) (i : Int)) j := by
  induction d with
  | zero =>
    intro i h1 h2
    refine ⟨-1, ?_, ?_⟩
    · rw [List.drop_eq_nil_of_le (by omega)]; simp [inb]
    · refine Tl.succ ?_
      simp only [slices_IndexFunc_int_int_charge_CheckCounts_1.l0]
      exact Tl.neg (by omega) Tl.now
  | succ d ih =>
    intro i h1 h2
    have hlt : i < t.length := by omega
    obtain ⟨j, hj, next⟩ := ih (i + 1) (by omega) (by omega)
    rw [show ((i + 1 : Nat) : Int) = (i : Int) + 1 by omega, ← w64 (x := (i : Int) + 1) (by omega) (by omega)] at next
    rw [inb_drop hlt]
    have e : charge_CheckCounts_1.f (rd t (i : Int)) = some (!decide (0 ≤ rd t (i : Int) ∧ rd t (i : Int) ≤ 2000)) := by
      unfold charge_CheckCounts_1.f
      rw [within_eq]; rfl
    by_cases c : 0 ≤ rd t (i : Int) ∧ rd t (i : Int) ≤ 2000
    · refine ⟨j, by rw [hj]; simp [c], ?_⟩
      refine Tl.succ ?_
      simp only [slices_IndexFunc_int_int_charge_CheckCounts_1.l0]
      exact Tl.pos (by omega) (Tl.pos (by omega) (Tl.pos (by omega) (Tl.bind' e (Tl.neg (by simp [c]) next))))
    · refine ⟨(i : Int), by simp [c] <;> omega, ?_⟩
      refine Tl.succ ?_
      simp only [slices_IndexFunc_int_int_charge_CheckCounts_1.l0]
      exact Tl.pos (by omega) (Tl.pos (by omega) (Tl.pos (by omega) (Tl.bind' e (Tl.pos (by simp [c]) Tl.now))))
theorem inb_get {l : List Int} (h : inb l = true) {i : Nat} (hi : i < l.length) : 0 ≤ rd l (i : Int) ∧ rd l (i : Int) ≤ 2000 := by
  have := List.all_eq_true.1 h _ (List.getElem_mem hi)
  rw [rd_lt hi]
  simpa using this
theorem am_range {w l : List Int} (hw : Wt w) (hl : l.length = w.length) (hb : inb l = true) : ∀ i : Nat, i ≤ w.length → 0 ≤ am w l i ∧ am w l i ≤ 60000 * i := by
  intro i
  induction i with
  | zero => intro _; simp [am]
  | succ i ih =>
    intro hi
    have h1 := ih (by omega)
    have h2 := hw.2 i (by omega)
    have h3 := inb_get hb (show i < l.length by omega)
    have h4 : rd l (i : Int) * rd w (i : Int) ≤ 2000 * 30 := Int.mul_le_mul h3.2 h2.2 (by omega) (by omega)
    have h5 : 0 ≤ rd l (i : Int) * rd w (i : Int) := Int.mul_nonneg h3.1 (by omega)
    show 0 ≤ am w l i + _ ∧ am w l i + _ ≤ _
    omega
def kc (w l : List Int) : Int × Int := if vc w = 0 then (if l.length = w.length ∧ inb l = true then (am w l w.length, 0) else (0, 1)) else (0, vc w)
theorem step_w {w l : List Int} (hw : Wt w) (hl : l.length = w.length) (hb : inb l = true) {i : Nat} (hi : i < w.length) : wrap64 (am w l i + wrap64 (rd l (i : Int) * rd w (i : Int))) = am w l (i + 1) := by
  have h1 := am_range hw hl hb (i + 1) (by omega)
  have h0 := am_range hw hl hb i (by omega)
  have h2 := hw.2 i hi
  have h3 := inb_get hb (show i < l.length by omega)
  have h4 : rd l (i : Int) * rd w (i : Int) ≤ 2000 * 30 := Int.mul_le_mul h3.2 h2.2 (by omega) (by omega)
  have h5 : 0 ≤ rd l (i : Int) * rd w (i : Int) := Int.mul_nonneg h3.1 (by omega)
  have hl' := hw.1
  rw [w64 (x := rd l (i : Int) * rd w (i : Int)) (by omega) (by omega)]
  show wrap64 (am w l (i + 1)) = _
  rw [w64 (by omega) (by omega)]
theorem ev_Check {w l : List Int} (hll : l.length ≤ 1000) : Tl (fun k => charge_CheckCounts.f k w l) (kc w l) := by
  unfold charge_CheckCounts.f kc
  refine Tl.bind (ev_Validate w) ?_
  have jt : Tl (fun k => charge_CheckCounts.j0 k w l true) (0, 1) := by
    refine Tl.succ ?_
    simp only [charge_CheckCounts.j0]
    exact Tl.pos trivial Tl.now
  by_cases h : vc w = 0
  · rw [if_pos h]
    have hw := (vc_ok.1 h).wt
    refine Tl.pos h ?_
    by_cases c : l.length = w.length
    · obtain ⟨j, hj, hr⟩ := idx_loop l hll l.length 0 (by omega) (by omega)
      rw [List.drop_zero] at hj
      have b : Tl (fun k => slices_ContainsFunc_int_int_charge_CheckCounts_1.f k l) (!inb l) := by
        unfold slices_ContainsFunc_int_int_charge_CheckCounts_1.f
        refine Tl.to (Tl.bind hr Tl.now) ?_
        cases hb : inb l with
        | true => rw [hb] at hj; have := hj.2 rfl; simp; omega
        | false => rw [hb] at hj; have : ¬ j < 0 := fun q => by simpa using hj.1 q
                   simp; omega
      refine Tl.pos (by omega) (Tl.bind b ?_)
      by_cases hb : inb l = true
      · rw [if_pos ⟨c, hb⟩, hb]
        have w2 := hw.1
        have loop : ∀ d i : Nat, i + d = l.length → Tl (fun k => charge_CheckCounts.l0 k w (am w l i) l (l.length : Int) (i : Int)) (am w l w.length, 0) := by
          intro d
          induction d with
          | zero =>
            intro i h1
            obtain rfl : i = w.length := by omega
            refine Tl.succ ?_
            simp only [charge_CheckCounts.l0]
            exact Tl.neg (by omega) Tl.now
          | succ d ih =>
            intro i h1
            have next := ih (i + 1) (by omega)
            refine Tl.succ ?_
            simp only [charge_CheckCounts.l0]
            rw [step_w hw c hb (by omega), w64 (x := (i : Int) + 1) (by omega) (by omega)]
            exact Tl.pos (by omega) (Tl.pos (by omega) (Tl.pos (by omega) (Tl.pos (by omega) next)))
        refine Tl.succ ?_
        simp only [charge_CheckCounts.j0]
        exact Tl.neg (by simp) (loop l.length 0 (by omega))
      · rw [if_neg (fun q => hb q.2), show inb l = false by simpa using hb]
        exact jt
    · rw [if_neg (fun q => c q.1)]
      exact Tl.neg (by omega) jt
  · rw [if_neg h]; exact Tl.neg h Tl.now
theorem ev_rCheck {w l : List Int} (hll : l.length ≤ 1000) : Tl (fun k => diaphoneref07_CheckCounts.f k w l) (kc w l) := by
  unfold diaphoneref07_CheckCounts.f kc
  refine Tl.bind (ev_rValidate w) ?_
  by_cases h : vc w = 0
  · rw [if_pos h]
    have hw := (vc_ok.1 h).wt
    refine Tl.pos h ?_
    by_cases c : l.length = w.length
    · refine Tl.pos (by omega) ?_
      have w2 := hw.1
      by_cases hb : inb l = true
      · rw [if_pos ⟨c, hb⟩]
        have loop : ∀ d i : Nat, i + d = w.length → Tl (fun k => diaphoneref07_CheckCounts.l0 k w l (am w l i) (i : Int)) (am w l w.length, 0) := by
          intro d
          induction d with
          | zero =>
            intro i h1
            obtain rfl : i = w.length := by omega
            refine Tl.succ ?_
            simp only [diaphoneref07_CheckCounts.l0]
            exact Tl.neg (by omega) Tl.now
          | succ d ih =>
            intro i h1
            have next := ih (i + 1) (by omega)
            refine Tl.succ ?_
            simp only [diaphoneref07_CheckCounts.l0]
            rw [step_w hw c hb (by omega), w64 (x := (i : Int) + 1) (by omega) (by omega)]
            exact Tl.pos (by omega) (Tl.pos (by omega) (Tl.pos (by omega) (Tl.bind' (rwithin_eq _ _ _) (Tl.pos (decide_eq_true (inb_get hb (by omega))) next))))
        exact loop w.length 0 (by omega)
      · rw [if_neg (fun q => hb q.2)]
        have loop : ∀ (d i : Nat) (s : Int), i + d = w.length → inb (l.drop i) = false → Tl (fun k => diaphoneref07_CheckCounts.l0 k w l s (i : Int)) (0, 1) := by
          intro d
          induction d with
          | zero =>
            intro i s h1 h2
            rw [List.drop_eq_nil_of_le (by omega)] at h2
            simp [inb] at h2
          | succ d ih =>
            intro i s h1 h2
            rw [inb_drop (show i < l.length by omega)] at h2
            refine Tl.succ ?_
            simp only [diaphoneref07_CheckCounts.l0]
            rw [w64 (x := (i : Int) + 1) (by omega) (by omega)]
            refine Tl.pos (by omega) (Tl.pos (by omega) (Tl.pos (by omega) (Tl.bind' (rwithin_eq _ _ _) ?_)))
            by_cases z : 0 ≤ rd l (i : Int) ∧ rd l (i : Int) ≤ 2000
            · rw [decide_eq_true z, Bool.true_and] at h2
              exact Tl.pos (decide_eq_true z) (ih (i + 1) _ (by omega) h2)
            · exact Tl.neg (by rw [decide_eq_true_eq]; exact z) Tl.now
        exact loop w.length 0 0 (by omega) (by rw [List.drop_zero]; simpa using hb)
    · rw [if_neg (fun q => c q.1)]
      exact Tl.neg (by omega) Tl.now
  · rw [if_neg h]; exact Tl.neg h Tl.now
theorem rd_set {l : List Int} {i j : Nat} {v : Int} (hi : i < l.length) : rd (l.set i v) (j : Int) = if j = i then v else rd l (j : Int) := by
  by_cases hj : j < l.length
  · rw [rd_lt (by simpa using hj), List.getElem_set]
    by_cases e : i = j
    · rw [if_pos e, if_pos e.symm]
    · rw [if_neg e, if_neg (fun q => e q.symm), rd_lt hj]
  · rw [if_neg (by omega), rd_nat, rd_nat, List.getD_eq_getElem?_getD, List.getD_eq_getElem?_getD, List.getElem?_eq_none (by simp; omega), List.getElem?_eq_none (by omega)]
/-- The sum of the first numbers. -/
def sm (l : List Int) : Nat → Int
  | 0 => 0
  | i + 1 => sm l i + rd l (i : Int)
theorem sm_set {l : List Int} {i : Nat} (hi : i < l.length) : ∀ n : Nat, sm (l.set i (rd l (i : Int) + 1)) n = sm l n + (if i < n then 1 else 0) := by
  intro n
  induction n with
  | zero => rfl
  | succ n ih =>
    show sm _ n + rd _ (n : Int) = sm l n + rd l (n : Int) + _
    rw [ih, rd_set hi]
    by_cases e : n = i
    · subst e; rw [if_pos rfl, if_neg (by omega), if_pos (by omega)]; omega
    · rw [if_neg e]
      by_cases c : i < n
      · rw [if_pos c, if_pos (by omega)]; omega
      · rw [if_neg c, if_neg (by omega)]; omega
theorem am_set {w l : List Int} {i : Nat} (hi : i < l.length) : ∀ n : Nat, am w (l.set i (rd l (i : Int) + 1)) n = am w l n + (if i < n then rd w (i : Int) else 0) := by
  intro n
  induction n with
  | zero => rfl
  | succ n ih =>
    show am w _ n + rd _ (n : Int) * rd w (n : Int) = am w l n + rd l (n : Int) * rd w (n : Int) + _
    rw [ih, rd_set hi]
    by_cases e : n = i
    · subst e; rw [if_pos rfl, if_neg (by omega), if_pos (by omega), Int.add_mul]; omega
    · rw [if_neg e]
      by_cases c : i < n
      · rw [if_pos c, if_pos (by omega)]; omega
      · rw [if_neg c, if_neg (by omega)]; omega
theorem inb_of {l : List Int} (h : ∀ i : Nat, i < l.length → 0 ≤ rd l (i : Int) ∧ rd l (i : Int) ≤ 2000) : inb l = true := by
  refine List.all_eq_true.2 (fun x hx => ?_)
  obtain ⟨i, hi, rfl⟩ := List.getElem_of_mem hx
  have := h i hi
  rw [rd_lt hi] at this
  simpa using this
end Go.Proofs.Ytgndhijhcliegaa.Cc
