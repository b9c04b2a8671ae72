/- Proved here: for every list of readings, the program's opposite readings are the document's, and the best row of the turned and opposite readings is the turned and opposite best row; it holds under no condition. -/
import Derived.Test.YtgdhbeccpicdcaaTu
import Derived.Test.YtgdhbeccpicdcaaPx47
import Derived.Test.YtgdhbeccpicdcaaPx47
import Derived.Test.YtgdhbeccpicdcaaPx41
import Derived.Test.YtgdhbeccpicdcaaPx48
set_option linter.unusedVariables false
namespace Go.Proofs.Ytgdhbeccpicdcaa.Pure
open Go.RowKit Go.Proofs.Ytgdhbeccpicdcaa.P Go.Proofs.Ytgdhbeccpicdcaa.E Go.Proofs.Ytgdhbeccpicdcaa.Fr Go.Proofs.Ytgdhbeccpicdcaa.Sd Go.Proofs.Ytgdhbeccpicdcaa.Bl Go.Proofs.Ytgdhbeccpicdcaa.Va Go.Proofs.Ytgdhbeccpicdcaa.Be Go.Proofs.Ytgdhbeccpicdcaa.Kn Go.Proofs.Ytgdhbeccpicdcaa.Ra Go.Proofs.Ytgdhbeccpicdcaa.Tu Go.Proofs.YtgdhbeccpicdcaaW.PrintMore
open Go.Proofs.YtgdhbeccpicdcaaW.PrintWords
namespace Opp
/-- The readings of which the first m are the opposites. -/
def opn (h : List S31) : Nat → List S31
  | 0 => h
  | m + 1 => (opn h m).set m ⟨100 - (rd_T31 (opn h m) (m : Int)).f0, (rd_T31 (opn h m) (m : Int)).f1⟩
theorem opn_length (h : List S31) (m : Nat) : (opn h m).length = h.length := by
  induction m with
  | zero => rfl
  | succ m ih => simp [opn, ih]
theorem opn_rd {h : List S31} (m : Nat) : ∀ {j : Nat}, j < h.length → rd_T31 (opn h m) (j : Int) = if j < m then ⟨100 - (rd_T31 h (j : Int)).f0, (rd_T31 h (j : Int)).f1⟩ else rd_T31 h (j : Int) := by
  induction m with
  | zero => intro j hj; simp [opn]
  | succ m ih =>
    intro j hj
    have hl := opn_length h m
    rw [rd31 (h := opn h (m + 1)) (by rw [opn_length]; exact hj)]
    simp only [opn, List.getElem_set]
    by_cases e : m = j
    · subst e
      rw [if_pos rfl, ih hj, if_neg (by omega), if_pos (by omega)]
    · rw [if_neg e, ← rd31 (by rw [hl]; exact hj), ih hj]
      by_cases e2 : j < m
      · rw [if_pos e2, if_pos (by omega)]
      · rw [if_neg e2, if_neg (by omega)]
theorem opn_ok {h : List S31} (ok : Ok h) : Ok (opn h h.length) := by
  refine ⟨by rw [opn_length]; exact ok.1, by rw [opn_length]; exact ok.2.1, fun j hj => ?_⟩
  rw [opn_length] at hj
  rw [opn_rd _ hj, if_pos hj]
  have := ok.2.2 j hj
  simp only [rok] at *
  omega
def opp (h : List S31) : List S31 × Int := if vc h = 0 then (opn h h.length, 0) else ([], vc h)
theorem opp_loop {h : List S31} (ok : Ok h) (d : Nat) : ∀ i : Nat, i ≤ h.length → h.length - i = d → Tl (fun k => haze_Opposite.l0 k (opn h i) (h.length : Int) (i : Int)) (opn h h.length, 0) := by
  have hlen := ok.2.1
  induction d with
  | zero =>
    intro i hi hd
    obtain rfl : i = h.length := by omega
    refine Tl.succ ?_
    simp only [haze_Opposite.l0]
    exact Tl.neg (by omega) Tl.now
  | succ d ih =>
    intro i hi hd
    have hi' : i < h.length := by omega
    have r := ok.2.2 i hi'
    simp only [rok] at r
    have erd : rd_T31 (opn h i) (i : Int) = rd_T31 h (i : Int) := by rw [opn_rd _ hi', if_neg (by omega)]
    have el := opn_length h i
    have next := ih (i + 1) (by omega) (by omega)
    rw [show ((i + 1 : Nat) : Int) = (i : Int) + 1 by omega] at next
    refine Tl.succ ?_
    simp only [haze_Opposite.l0]
    refine Tl.pos (by omega) (Tl.pos (by omega) (Tl.pos (by omega) ?_))
    rw [erd, w64 (x := 100 - (rd_T31 h (i : Int)).f0) (by omega) (by omega), w64 (x := (i : Int) + 1) (by omega) (by omega), Int.toNat_natCast]
    have eu : (opn h i).set i ⟨100 - (rd_T31 h (i : Int)).f0, (rd_T31 h (i : Int)).f1⟩ = opn h (i + 1) := by simp only [opn, erd]
    rw [eu]
    exact next
theorem ropp_loop {h : List S31} (ok : Ok h) (d : Nat) : ∀ i : Nat, i ≤ h.length → h.length - i = d → Tl (fun k => diaphoneref02_Opposite.l0 k (opn h i) (i : Int)) (opn h h.length, 0) := by
  have hlen := ok.2.1
  induction d with
  | zero =>
    intro i hi hd
    obtain rfl : i = h.length := by omega
    have el := opn_length h h.length
    refine Tl.succ ?_
    simp only [diaphoneref02_Opposite.l0]
    exact Tl.neg (by omega) Tl.now
  | succ d ih =>
    intro i hi hd
    have hi' : i < h.length := by omega
    have r := ok.2.2 i hi'
    simp only [rok] at r
    have erd : rd_T31 (opn h i) (i : Int) = rd_T31 h (i : Int) := by rw [opn_rd _ hi', if_neg (by omega)]
    have el := opn_length h i
    have next := ih (i + 1) (by omega) (by omega)
    rw [show ((i + 1 : Nat) : Int) = (i : Int) + 1 by omega] at next
    refine Tl.succ ?_
    simp only [diaphoneref02_Opposite.l0]
    refine Tl.pos (by omega) (Tl.pos (by omega) ?_)
    rw [erd, w64 (x := 100 - (rd_T31 h (i : Int)).f0) (by omega) (by omega), w64 (x := (i : Int) + 1) (by omega) (by omega), Int.toNat_natCast]
    have eu : (opn h i).set i ⟨100 - (rd_T31 h (i : Int)).f0, (rd_T31 h (i : Int)).f1⟩ = opn h (i + 1) := by simp only [opn, erd]
    rw [eu]
    exact next
theorem ev_Opp {h : List S31} (hl : h.length ≤ 1000) : Tl (fun k => haze_Opposite.f k h) (opp h) := by
  unfold haze_Opposite.f
  refine Tl.bind (ev_Validate hl) ?_
  by_cases hk : vc h = 0
  · have ok := vc_ok.1 hk
    exact Tl.to (Tl.pos hk (Tl.bind' (copied_eq ok.1 hl) (opp_loop ok h.length 0 (by omega) (by omega)))) (by simp [opp, hk])
  · exact Tl.to (Tl.neg hk Tl.now) (by simp [opp, hk])
theorem ev_rOpp {h : List S31} (hl : h.length ≤ 1000) : Tl (fun k => diaphoneref02_Opposite.f k h) (opp h) := by
  unfold diaphoneref02_Opposite.f
  refine Tl.bind (ev_rValidate hl) ?_
  by_cases hk : vc h = 0
  · have ok := vc_ok.1 hk
    exact Tl.to (Tl.pos hk (Tl.bind' (copy_eq hl) (ropp_loop ok h.length 0 (by omega) (by omega)))) (by simp [opp, hk])
  · exact Tl.to (Tl.neg hk Tl.now) (by simp [opp, hk])
/-- The turned and opposite readings. -/
def ot (h : List S31) : List S31 := opn h.reverse h.reverse.length
theorem ot_length (h : List S31) : (ot h).length = h.length := by simp [ot, opn_length]
theorem ot_rd {h : List S31} {i : Nat} (hi : i < h.length) : rd_T31 (ot h) (i : Int) = ⟨100 - (rd_T31 h ((h.length - 1 - i : Nat) : Int)).f0, (rd_T31 h ((h.length - 1 - i : Nat) : Int)).f1⟩ := by
  have hr : i < h.reverse.length := by simpa using hi
  unfold ot
  rw [opn_rd _ hr, if_pos hr, rev_rd hi]
theorem ot_sums {h : List S31} {x : Nat} (hx : x ≤ h.length) : sw (ot h) x = sw h h.length - sw h (h.length - x) ∧ sv (ot h) x = 100 * (sw h h.length - sw h (h.length - x)) - (sv h h.length - sv h (h.length - x)) := by
  induction x with
  | zero => simp [sw, sv]
  | succ x ih =>
    obtain ⟨e1, e2⟩ := ih (by omega)
    have hx' : x < h.length := by omega
    simp only [sw, sv, ot_rd hx', e1, e2]
    have e3 : h.length - x = (h.length - 1 - x) + 1 := by omega
    have e4 : h.length - (x + 1) = h.length - 1 - x := by omega
    rw [e3, e4]
    simp only [sw, sv]
    constructor
    · omega
    · grind
theorem ot_sad {h : List S31} {i : Nat} (hi : i < h.length) {v w : Int} (s : Sad (sv h) (sw h) h.length (h.length - 1 - i) v w) : Sad (sv (ot h)) (sw (ot h)) h.length i (100 * w - v) w := by
  obtain ⟨f, t, h1, h2, h3, h4, h5⟩ := s
  refine ⟨h.length - t, h.length - f, by omega, by omega, by omega, ?_, fun x hx => ?_⟩
  · obtain ⟨e1, e2⟩ := ot_sums (h := h) (x := h.length - t) (by omega)
    obtain ⟨e3, e4⟩ := ot_sums (h := h) (x := h.length - f) (by omega)
    rw [e1, e2, e3, e4, show h.length - (h.length - t) = t by omega, show h.length - (h.length - f) = f by omega]
    grind
  · obtain ⟨e1, e2⟩ := ot_sums (h := h) (x := h.length - t) (by omega)
    obtain ⟨e3, e4⟩ := ot_sums (h := h) (x := x) hx
    have := h5 (h.length - x) (by omega)
    rw [e1, e2, e3, e4, show h.length - (h.length - t) = t by omega]
    grind
theorem loop {h : List S31} (ok : Ok h) (ok' : Ok (ot h)) {x y : List S33} (hx : IsBest h x) (hy : IsBest (ot h) y) (d : Nat) :
    ∀ i : Nat, i ≤ x.length → x.length - i = d → Tl (fun k => diaphonelaw02_HazeOpposites.l0 k x y (i : Int)) true := by
  have hlen := ok.2.1
  have hxl := hx.1
  have hyl := hy.1
  rw [ot_length] at hyl
  induction d with
  | zero =>
    intro i hi hd
    refine Tl.succ ?_
    simp only [diaphonelaw02_HazeOpposites.l0]
    exact Tl.neg (by omega) ev_known'
  | succ d ih =>
    intro i hi hd
    have hlt : x.length - 1 - i < x.length := by omega
    have hlt' : i < y.length := by omega
    obtain ⟨v, w, q1, q2, q3, q4, q5, q6⟩ := IsBest.num ok hx hlt
    obtain ⟨v', w', r1, r2, r3, r4, r5, r6⟩ := IsBest.num ok' hy hlt'
    have next := ih (i + 1) (by omega) (by omega)
    rw [show ((i + 1 : Nat) : Int) = (i : Int) + 1 by omega, ← w64 (x := (i : Int) + 1) (by omega) (by omega)] at next
    have p1 := Rt_pos (n := v) q3
    have p2 := Rt_le (n := v) q3
    have p3 := Rt_nonneg q1 q3
    have p4 := Rt_num_le q1 q3
    have p5 := Rt_cross (n := v) q3
    have s' : Sad (sv (ot h)) (sw (ot h)) (ot h).length i (100 * w - v) w := by rw [ot_length]; exact ot_sad (by omega) (by rw [← hxl]; rw [← hxl] at q6; exact q6)
    have hun := s'.unique r6 q3 r3 ok'.up
    have he : Rt (100 * (Rt v w).2 - (Rt v w).1) (Rt v w).2 = Rt v' w' := by
      refine Rt_eq p1 r3 ?_
      have e2 : ((100 * (Rt v w).2 - (Rt v w).1) * w') * w = (v' * (Rt v w).2) * w := by grind
      exact Int.eq_of_mul_eq_mul_right (by omega) e2
    have ei : (x.length : Int) - 1 - (i : Int) = ((x.length - 1 - i : Nat) : Int) := by omega
    refine Tl.succ ?_
    simp only [diaphonelaw02_HazeOpposites.l0]
    rw [w64 (x := (x.length : Int) - 1) (by omega) (by omega), w64 (x := (x.length : Int) - 1 - i) (by omega) (by omega), ei]
    rw [rd33 hlt, rd33 hlt', q5, r5]
    simp only [rat]
    rw [w64 (x := 100 * (Rt v w).2) (by omega) (by omega), w64 (x := 100 * (Rt v w).2 - (Rt v w).1) (by omega) (by omega)]
    refine Tl.pos (by omega) (Tl.pos (by omega) (Tl.pos (by omega) (Tl.pos (by omega) (Tl.pos (by omega) (Tl.bind (ev_Ratio (by omega) (by omega) (by omega) (by omega)) ?_)))))
    rw [he]
    exact Tl.neg (by simp) next
end Opp
open Opp
theorem HazeOpposites : ∀ (x0 : List (S31)), ((∀ y ∈ x0, ((Lit.int .i64 y.f0).wf = true) ∧ ((Lit.int .i64 y.f1).wf = true)) ∧ x0.length ≤ maxLen) → ∃ k, diaphonelaw02_HazeOpposites.f k x0 = some true := by
  intro h _
  refine Tl.ex (g := fun k => diaphonelaw02_HazeOpposites.f k h) ?_
  unfold diaphonelaw02_HazeOpposites.f
  refine by_long (fun hl => ?_)
  have hrl : (opp h).1.length ≤ 1000 := by
    unfold opp
    split
    · rw [opn_length]; omega
    · simp
  refine Tl.bind (ev_Opp (by omega)) (Tl.bind (ev_rOpp (by omega)) (Tl.bind (ev_SameReadings _ hrl) (Tl.pos rfl (Tl.succ ?_))))
  simp only [diaphonelaw02_HazeOpposites.j0]
  refine Tl.neg (by simp) (Tl.bind (ev_Turn (by omega)) ?_)
  by_cases hk : vc h = 0
  · have ok := vc_ok.1 hk
    have okr := rev_ok ok
    have ok' := opn_ok okr
    obtain ⟨x, hx, _⟩ := ev_best ok
    obtain ⟨y, hy, _⟩ := ev_best (h := ot h) ok'
    have hxl := hx.1
    have hyl := hy.1
    rw [ot_length] at hyl
    have eo := ev_Opp (h := h.reverse) (by simp; omega)
    have e : opp h.reverse = (ot h, 0) := by simp only [opp, vc_ok.2 okr, if_true, ot]
    have e2 : opp h = (opn h h.length, 0) := by simp [opp, hk]
    rw [e] at eo
    rw [if_pos hk, e2]
    refine Tl.bind eo (Tl.bind (ev_Best ok hx) (Tl.bind (ev_Best (h := ot h) ok' hy) (Tl.pos rfl (Tl.pos rfl (Tl.pos rfl (Tl.pos rfl (Tl.pos rfl (Tl.pos ?_ (Tl.bind (ev_fair ok hx) (Tl.succ ?_))))))))))
    · simp only [hxl, hyl]
    · simp only [diaphonelaw02_HazeOpposites.j1]
      exact Tl.neg (by simp) (loop ok ok' hx hy x.length 0 (by omega) (by omega))
  · have e2 : opp h = ([], vc h) := by simp [opp, hk]
    have e3 : opp [] = ([], 3) := by simp [opp, vc]
    have eo := ev_Opp (h := []) (by simp)
    rw [e3] at eo
    rw [if_neg hk, e2]
    exact Tl.bind eo (Tl.bind (ev_Best_bad (by omega) hk) (Tl.bind (ev_Best_bad (by simp) (by simp [vc])) (Tl.neg hk ev_known')))
end Go.Proofs.Ytgdhbeccpicdcaa.Pure
