/- Proved here: for every list of readings and every number, the program's first readings are the document's, and their best row is nowhere above that of the whole; it holds under no condition. -/
import Derived.Test.YtgdhbeccpicdcaaRa
import Derived.Test.YtgdhbeccpicdcaaPx20
import Derived.Test.YtgdhbeccpicdcaaPx20
import Derived.Test.YtgdhbeccpicdcaaPx23
set_option linter.unusedVariables false
namespace Go.Proofs.Ytgdhbeccpicdcaa.Pure
open Go.RowKit Go.Proofs.Ytgdhbeccpicdcaa.P Go.Proofs.Ytgdhbeccpicdcaa.E Go.Proofs.Ytgdhbeccpicdcaa.Fr Go.Proofs.Ytgdhbeccpicdcaa.Sd Go.Proofs.Ytgdhbeccpicdcaa.Bl Go.Proofs.Ytgdhbeccpicdcaa.Va Go.Proofs.Ytgdhbeccpicdcaa.Be Go.Proofs.Ytgdhbeccpicdcaa.Kn Go.Proofs.Ytgdhbeccpicdcaa.Ra Go.Proofs.YtgdhbeccpicdcaaW.PrintMore
open Go.Proofs.YtgdhbeccpicdcaaW.PrintWords
/-- The first readings, or the error. -/
def bg (h : List S31) (n : Int) : List S31 × Int := if vc h = 0 then (if 1 ≤ n ∧ n ≤ (h.length : Int) then (h.take n.toNat, 0) else ([], 1)) else ([], vc h)
theorem ev_Begin {h : List S31} (hl : h.length ≤ 100) (n : Int) : Tl (fun k => haze_Begin.f k h n) (bg h n) := by
  unfold haze_Begin.f
  refine Tl.bind (ev_Validate (by omega)) ?_
  by_cases hv : vc h = 0
  · by_cases hn : 1 ≤ n ∧ n ≤ (h.length : Int)
    · exact Tl.to (Tl.pos hv (Tl.bind' (within_eq _ _ _) (Tl.pos (decide_eq_true hn) (Tl.pos (by omega) (Tl.pos (by omega) (Tl.bind' (copied_eq (by simp; omega) (by simp; omega)) Tl.now)))))) (by simp [bg, hv, hn])
    · exact Tl.to (Tl.pos hv (Tl.bind' (within_eq _ _ _) (Tl.neg (by simpa using hn) Tl.now))) (by rw [bg, if_pos hv, if_neg hn])
  · exact Tl.to (Tl.neg hv Tl.now) (by simp [bg, hv])
theorem ev_rBegin {h : List S31} (hl : h.length ≤ 100) (n : Int) : Tl (fun k => diaphoneref02_Begin.f k h n) (bg h n) := by
  unfold diaphoneref02_Begin.f
  refine Tl.bind (ev_rValidate (by omega)) ?_
  by_cases hv : vc h = 0
  · by_cases hn : 1 ≤ n ∧ n ≤ (h.length : Int)
    · exact Tl.to (Tl.pos hv (Tl.bind' (rwithin_eq _ _ _) (Tl.pos (decide_eq_true hn) (Tl.pos (by omega) (Tl.pos (by omega) (Tl.bind' (copy_eq (by simp; omega)) Tl.now)))))) (by simp [bg, hv, hn])
    · exact Tl.to (Tl.pos hv (Tl.bind' (rwithin_eq _ _ _) (Tl.neg (by simpa using hn) Tl.now))) (by rw [bg, if_pos hv, if_neg hn])
  · exact Tl.to (Tl.neg hv Tl.now) (by simp [bg, hv])
theorem rd_take {h : List S31} {n i : Nat} (hi : i < n) (hn : n ≤ h.length) : rd_T31 (h.take n) (i : Int) = rd_T31 h (i : Int) := by
  rw [rd31 (by simp; omega), rd31 (by omega), List.getElem_take]
theorem take_ok {h : List S31} (ok : Ok h) {n : Nat} (h1 : 1 ≤ n) (hn : n ≤ h.length) : Ok (h.take n) := by
  refine ⟨by simp; omega, by have := ok.2.1; simp; omega, fun i hi => ?_⟩
  simp at hi
  rw [rd_take (by omega) hn]
  exact ok.2.2 i (by omega)
theorem take_sums {h : List S31} {n : Nat} (hn : n ≤ h.length) : ∀ b, b ≤ n → sw (h.take n) b = sw h b ∧ sv (h.take n) b = sv h b := by
  intro b
  induction b with
  | zero => intro _; exact ⟨rfl, rfl⟩
  | succ b ih =>
    intro hb
    have i := ih (by omega)
    simp only [sw, sv, rd_take (show b < n by omega) hn, i.1, i.2, and_self]
theorem begin_loop {h : List S31} (ok : Ok h) {n : Nat} (h1 : 1 ≤ n) (hn : n ≤ h.length) {x y : List S33} (hx : IsBest h x) (hy : IsBest (h.take n) y) (d : Nat) : ∀ i : Nat, i ≤ y.length → y.length - i = d → Tl (fun k => diaphonelaw02_HazeBegins.l0 k x y (i : Int)) true := by
  have okt := take_ok ok h1 hn
  have hlen := ok.2.1
  have hxl := hx.1
  have hyl := hy.1
  have htl : (h.take n).length = n := by simp; omega
  induction d with
  | zero =>
    intro i hi hd
    refine Tl.succ ?_
    simp only [diaphonelaw02_HazeBegins.l0]
    exact Tl.neg (by omega) ev_known'
  | succ d ih =>
    intro i hi hd
    have hlt : i < y.length := by omega
    obtain ⟨v, w, q1, q2, q3, q4, q5, q6⟩ := IsBest.num ok hx (show i < x.length by omega)
    obtain ⟨v', w', r1, r2, r3, r4, r5, r6⟩ := IsBest.num okt hy hlt
    refine Tl.succ ?_
    simp only [diaphonelaw02_HazeBegins.l0]
    rw [rd33 hlt, rd33 (show i < x.length by omega), q5, r5]
    simp only [rat]
    refine Tl.pos (by omega) (Tl.pos (by omega) (Tl.pos (by omega) (Tl.bind' (less_eq (by omega) (by omega) (by omega) (by omega) (by omega) (by omega) (by omega) (by omega)) (Tl.neg ?_ ?_))))
    · have := r6.le q6 r3 q3 okt.up (fun f t hf ht htn => by
        have s1 := take_sums hn f (by omega)
        have s2 := take_sums hn t (by omega)
        exact ⟨by omega, by omega, by omega⟩)
      simp
      omega
    · rw [w64 (by omega) (by omega)]
      exact ih (i + 1) (by omega) (by omega)
theorem HazeBegins : ∀ (x0 : List (S31)) (x1 : Int), ((∀ y ∈ x0, ((Lit.int .i64 y.f0).wf = true) ∧ ((Lit.int .i64 y.f1).wf = true)) ∧ x0.length ≤ maxLen) → ((Lit.int .i64 x1).wf = true) → ∃ k, diaphonelaw02_HazeBegins.f k x0 x1 = some true := by
  intro h n _ _
  refine Tl.ex (g := fun k => diaphonelaw02_HazeBegins.f k h n) ?_
  unfold diaphonelaw02_HazeBegins.f
  refine by_long (fun hl => ?_)
  have hbl : (bg h n).1.length ≤ 1000 := by
    unfold bg
    split
    · split <;> simp; omega
    · simp
  refine Tl.bind (ev_Begin hl n) (Tl.bind (ev_rBegin hl n) (Tl.bind (ev_SameReadings _ hbl) (Tl.pos rfl (Tl.succ ?_))))
  simp only [diaphonelaw02_HazeBegins.j0]
  refine Tl.neg (by simp) ?_
  by_cases hv : vc h = 0
  · have ok := vc_ok.1 hv
    by_cases hn : 1 ≤ n ∧ n ≤ (h.length : Int)
    · have e : bg h n = (h.take n.toNat, 0) := by simp [bg, hv, hn]
      have okt := take_ok ok (show 1 ≤ n.toNat by omega) (by omega)
      obtain ⟨x, hx, _⟩ := ev_best ok
      obtain ⟨y, hy, _⟩ := ev_best okt
      have hxl := hx.1
      have hyl := hy.1
      rw [e]
      refine Tl.bind (ev_Best ok hx) (Tl.bind (ev_Best okt hy) (Tl.pos rfl (Tl.pos rfl (Tl.pos rfl (Tl.neg ?_ (Tl.bind (ev_fair ok hx) (Tl.pos rfl (Tl.bind (ev_fair okt hy) (Tl.succ ?_)))))))))
      · simp at hyl ⊢; omega
      · simp only [diaphonelaw02_HazeBegins.j1]
        exact Tl.neg (by simp) (begin_loop ok (by omega) (by omega) hx hy y.length 0 (by omega) (by omega))
    · have e : bg h n = ([], 1) := by rw [bg, if_pos hv, if_neg hn]
      obtain ⟨x, hx, _⟩ := ev_best ok
      rw [e]
      exact Tl.bind (ev_Best ok hx) (Tl.bind (ev_Best_bad (by simp) (by simp [vc])) (Tl.neg (by simp) ev_known'))
  · have e : bg h n = ([], vc h) := by simp [bg, hv]
    rw [e]
    exact Tl.bind (ev_Best_bad (by omega) hv) (Tl.bind (ev_Best_bad (by simp) (by simp [vc])) (Tl.neg hv ev_known'))
end Go.Proofs.Ytgdhbeccpicdcaa.Pure
