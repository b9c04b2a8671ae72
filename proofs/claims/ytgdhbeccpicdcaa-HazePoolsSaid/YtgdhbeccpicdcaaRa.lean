/- Lists that are the same; rows with which one can calculate; sums of readings that are changed. -/
import Derived.Test.YtgdhbeccpicdcaaBl
import Derived.Test.YtgdhbeccpicdcaaPb
import Derived.Test.YtgdhbeccpicdcaaPx7
import Derived.Test.YtgdhbeccpicdcaaPx22
import Derived.Test.YtgdhbeccpicdcaaPx9
import Derived.Test.YtgdhbeccpicdcaaPx21
import Derived.Test.YtgdhbeccpicdcaaPx19
set_option linter.unusedVariables false
namespace Go.Proofs.Ytgdhbeccpicdcaa.Ra
open Go.RowKit Go.Proofs.Ytgdhbeccpicdcaa.P Go.Proofs.Ytgdhbeccpicdcaa.E Go.Proofs.Ytgdhbeccpicdcaa.Fr Go.Proofs.Ytgdhbeccpicdcaa.Sd Go.Proofs.Ytgdhbeccpicdcaa.Bl Go.Proofs.Ytgdhbeccpicdcaa.Va Go.Proofs.Ytgdhbeccpicdcaa.Be Go.Proofs.Ytgdhbeccpicdcaa.Kn Go.Proofs.YtgdhbeccpicdcaaW.PrintMore
open Go.Proofs.YtgdhbeccpicdcaaW.PrintWords
theorem rats_loop (l : List S33) (hl : l.length ≤ 1000) (d : Nat) : ∀ i : Nat, i ≤ l.length → l.length - i = d → Tl (fun k => diaphoneref02_SameRats.l0 k l l (i : Int)) true := by
  induction d with
  | zero =>
    intro i h1 h2
    refine Tl.succ ?_
    simp only [diaphoneref02_SameRats.l0]
    exact Tl.neg (by omega) Tl.now
  | succ d ih =>
    intro i h1 h2
    refine Tl.succ ?_
    simp only [diaphoneref02_SameRats.l0]
    refine Tl.pos (by omega) (Tl.pos (by omega) (Tl.pos (by omega) (Tl.neg (by simp) ?_)))
    rw [w64 (by omega) (by omega)]
    exact ih (i + 1) (by omega) (by omega)
theorem ev_SameRats (l : List S33) (hl : l.length ≤ 1000) : Tl (fun k => diaphoneref02_SameRats.f k l l) true := by
  unfold diaphoneref02_SameRats.f
  exact Tl.pos rfl (rats_loop l hl l.length 0 (by omega) (by omega))
theorem readings_loop (l : List S31) (hl : l.length ≤ 1000) (d : Nat) : ∀ i : Nat, i ≤ l.length → l.length - i = d → Tl (fun k => diaphoneref02_SameReadings.l0 k l l (i : Int)) true := by
  induction d with
  | zero =>
    intro i h1 h2
    refine Tl.succ ?_
    simp only [diaphoneref02_SameReadings.l0]
    exact Tl.neg (by omega) Tl.now
  | succ d ih =>
    intro i h1 h2
    refine Tl.succ ?_
    simp only [diaphoneref02_SameReadings.l0]
    refine Tl.pos (by omega) (Tl.pos (by omega) (Tl.pos (by omega) (Tl.neg (by simp) ?_)))
    rw [w64 (by omega) (by omega)]
    exact ih (i + 1) (by omega) (by omega)
theorem ev_SameReadings (l : List S31) (hl : l.length ≤ 1000) : Tl (fun k => diaphoneref02_SameReadings.f k l l) true := by
  unfold diaphoneref02_SameReadings.f
  exact Tl.pos rfl (readings_loop l hl l.length 0 (by omega) (by omega))
/-- What is known of the numbers of a best row. -/
theorem IsBest.num {h : List S31} (ok : Ok h) {l : List S33} (hb : IsBest h l) {i : Nat} (hi : i < l.length) : ∃ v w, 0 ≤ v ∧ v ≤ 10800 ∧ 0 < w ∧ w ≤ 108 ∧ l[i] = rat (Rt v w) ∧ Sad (sv h) (sw h) h.length i v w := by
  obtain ⟨a, b, h1, h2, h3, h4, h5⟩ := hb.2 i hi
  have s := ok.small (show a < b by omega) h3
  exact ⟨_, _, s.2.2.1, s.2.2.2, s.1, s.2.1, h5, h4⟩
theorem fair_loop {h : List S31} (ok : Ok h) {l : List S33} (hb : IsBest h l) (d : Nat) : ∀ i : Nat, i ≤ l.length → l.length - i = d → Tl (fun k => diaphonelaw02_fair.l0 k l (i : Int)) true := by
  have hlen := ok.2.1
  have hll := hb.1
  induction d with
  | zero =>
    intro i h1 h2
    refine Tl.succ ?_
    simp only [diaphonelaw02_fair.l0]
    exact Tl.neg (by omega) Tl.now
  | succ d ih =>
    intro i h1 h2
    have hlt : i < l.length := by omega
    obtain ⟨v, w, q1, q2, q3, q4, q5, _⟩ := IsBest.num ok hb hlt
    have p1 := Rt_pos (n := v) q3
    have p2 := Rt_le (n := v) q3
    have p3 := Rt_nonneg q1 q3
    have p4 := Rt_num_le q1 q3
    refine Tl.succ ?_
    simp only [diaphonelaw02_fair.l0]
    rw [rd33 hlt, q5]
    simp only [rat]
    refine Tl.pos (by omega) (Tl.pos (by omega) (Tl.neg (by omega) (Tl.neg (by omega) (Tl.neg (by omega) (Tl.neg (by omega) ?_)))))
    rw [w64 (by omega) (by omega)]
    exact ih (i + 1) (by omega) (by omega)
theorem ev_fair {h : List S31} (ok : Ok h) {l : List S33} (hb : IsBest h l) : Tl (fun k => diaphonelaw02_fair.f k l) true := fair_loop ok hb l.length 0 (by omega) (by omega)
theorem copy_eq {l : List S31} (hl : l.length ≤ 1000) : diaphoneref02_Copy.f l = some l := by
  unfold diaphoneref02_Copy.f
  simp only [Option.bind_some, List.length_nil, List.nil_append]
  rw [if_pos (by omega)]
theorem copied_eq {l : List S31} (h0 : 0 < l.length) (hl : l.length ≤ 1000) : haze_copied.f l = some l := by
  unfold haze_copied.f
  rw [if_pos h0, if_pos (by omega)]
/-- Sums of readings with the same weights, of which no value is smaller. -/
theorem sums_le {h h' : List S31} {n : Nat} (hw : ∀ i : Nat, i < n → (rd_T31 h' (i : Int)).f1 = (rd_T31 h (i : Int)).f1 ∧ 0 ≤ (rd_T31 h (i : Int)).f1 ∧ (rd_T31 h (i : Int)).f0 ≤ (rd_T31 h' (i : Int)).f0) {a b : Nat} (hab : a ≤ b) (hb : b ≤ n) :
    sw h' b - sw h' a = sw h b - sw h a ∧ sv h b - sv h a ≤ sv h' b - sv h' a := by
  induction b with
  | zero => obtain rfl : a = 0 := by omega
            simp
  | succ b ih =>
    rcases Nat.lt_or_ge a (b + 1) with h1 | h1
    · have i := ih (by omega) (by omega)
      obtain ⟨e, p, q⟩ := hw b (by omega)
      have := Int.mul_le_mul_of_nonneg_left q p
      simp only [sw, sv, e]
      omega
    · obtain rfl : a = b + 1 := by omega
      simp
/-- A greater reading makes no number of the best row smaller. -/
theorem best_mono {h h' : List S31} (ok : Ok h) (ok' : Ok h') (hlen : h'.length = h.length) (hw : ∀ i : Nat, i < h.length → (rd_T31 h' (i : Int)).f1 = (rd_T31 h (i : Int)).f1 ∧ (rd_T31 h (i : Int)).f0 ≤ (rd_T31 h' (i : Int)).f0)
    {i : Nat} {v w v' w' : Int} (hq : 0 < w) (hq' : 0 < w') (hs : Sad (sv h) (sw h) h.length i v w) (hs' : Sad (sv h') (sw h') h'.length i v' w') : v * w' ≤ v' * w := by
  refine hs.le hs' hq hq' ok.up (fun f t hf ht htn => ⟨by omega, ?_⟩)
  exact sums_le (n := h.length) (fun i hi => ⟨(hw i hi).1, by have := (ok.2.2 i hi).2.2.1; omega, (hw i hi).2⟩) (by omega) htn
end Go.Proofs.Ytgdhbeccpicdcaa.Ra
