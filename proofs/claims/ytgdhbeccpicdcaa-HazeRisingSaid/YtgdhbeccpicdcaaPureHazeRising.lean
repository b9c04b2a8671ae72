/- Proved here: for every list of readings, the program's rising row and its turned readings are the document's, and the rising row is the best row of the turned readings, turned; it holds under no condition. -/
import Derived.Test.YtgdhbeccpicdcaaRb
import Derived.Test.YtgdhbeccpicdcaaTu
import Derived.Test.YtgdhbeccpicdcaaPx42
import Derived.Test.YtgdhbeccpicdcaaPx42
import Derived.Test.YtgdhbeccpicdcaaPx41
import Derived.Test.YtgdhbeccpicdcaaPx42
import Derived.Test.YtgdhbeccpicdcaaPx43
set_option linter.unusedVariables false
namespace Go.Proofs.Ytgdhbeccpicdcaa.Pure
open Go.RowKit Go.Proofs.Ytgdhbeccpicdcaa.P Go.Proofs.Ytgdhbeccpicdcaa.E Go.Proofs.Ytgdhbeccpicdcaa.Fr Go.Proofs.Ytgdhbeccpicdcaa.Sd Go.Proofs.Ytgdhbeccpicdcaa.Bl Go.Proofs.Ytgdhbeccpicdcaa.Va Go.Proofs.Ytgdhbeccpicdcaa.Be Go.Proofs.Ytgdhbeccpicdcaa.Kn Go.Proofs.Ytgdhbeccpicdcaa.Ra Go.Proofs.Ytgdhbeccpicdcaa.Tu Go.Proofs.YtgdhbeccpicdcaaW.PrintMore
open Go.Proofs.YtgdhbeccpicdcaaW.PrintWords
namespace Rise
theorem rrising_loop (l0 : List S33) (hl : l0.length ≤ 1000) (d : Nat) : ∀ (m : Nat) , m ≤ l0.length → m = d → Tl (fun k => diaphoneref02_Rising.l0 k l0 ((l0.drop m).reverse) ((m : Int) - 1)) (l0.reverse, 0) := by
  induction d with
  | zero =>
    intro m h1 h2
    subst h2
    refine Tl.succ ?_
    simp only [diaphoneref02_Rising.l0]
    exact Tl.to (Tl.neg (by omega) Tl.now) (by simp)
  | succ d ih =>
    intro m h1 h2
    subst h2
    have next := ih d (by omega) rfl
    rw [drop_cons (show d < l0.length by omega), List.reverse_cons, ← rd33 (show d < l0.length by omega)] at next
    refine Tl.succ ?_
    simp only [diaphoneref02_Rising.l0]
    rw [show ((d + 1 : Nat) : Int) - 1 = (d : Int) by omega, w64 (x := (d : Int) - 1) (by omega) (by omega)]
    exact Tl.pos (by omega) (Tl.pos (by omega) (Tl.pos (by omega) (Tl.pos (by simp; omega) next)))
theorem loop {x : List S33} (hl : x.length ≤ 1000) (d : Nat) : ∀ i : Nat, i ≤ x.length → x.length - i = d → Tl (fun k => diaphonelaw02_HazeRising.l0 k x.reverse x (i : Int)) true := by
  induction d with
  | zero =>
    intro i hi hd
    refine Tl.succ ?_
    simp only [diaphonelaw02_HazeRising.l0]
    exact Tl.neg (by omega) ev_known'
  | succ d ih =>
    intro i hi hd
    have hlt : i < x.length := by omega
    have next := ih (i + 1) (by omega) (by omega)
    rw [show ((i + 1 : Nat) : Int) = (i : Int) + 1 by omega, ← w64 (x := (i : Int) + 1) (by omega) (by omega)] at next
    have e : rd_T33 x.reverse ((x.length : Int) - 1 - i) = rd_T33 x (i : Int) := by
      rw [show (x.length : Int) - 1 - i = ((x.length - 1 - i : Nat) : Int) by omega, rd33 (by simp; omega), rd33 hlt, List.getElem_reverse]
      congr 1; omega
    refine Tl.succ ?_
    simp only [diaphonelaw02_HazeRising.l0, List.length_reverse]
    rw [w64 (x := (x.length : Int) - 1) (by omega) (by omega), w64 (x := (x.length : Int) - 1 - i) (by omega) (by omega), e]
    exact Tl.pos (by omega) (Tl.pos (by omega) (Tl.pos (by omega) (Tl.pos (by omega) (Tl.neg (by simp) next))))
end Rise
open Rise
theorem HazeRising : ∀ (x0 : List (S31)), ((∀ y ∈ x0, ((Lit.int .i64 y.f0).wf = true) ∧ ((Lit.int .i64 y.f1).wf = true)) ∧ x0.length ≤ maxLen) → ∃ k, diaphonelaw02_HazeRising.f k x0 = some true := by
  intro h _
  refine Tl.ex (g := fun k => diaphonelaw02_HazeRising.f k h) ?_
  unfold diaphonelaw02_HazeRising.f
  refine by_long (fun hl => ?_)
  have evT := ev_Turn (h := h) (by omega)
  have evV := ev_Validate (h := h) (by omega)
  have evr := ev_rValidate (h := h) (by omega)
  by_cases hk : vc h = 0
  · have ok := vc_ok.1 hk
    have ok' := rev_ok ok
    have hlen := ok.2.1
    obtain ⟨x, hx, hb⟩ := ev_best ok'
    have hxl : x.length = h.length := by have := hx.1; simpa using this
    have e1 : Tl (fun k => haze_Rising.f k h) (x.reverse, 0) := by
      unfold haze_Rising.f
      exact Tl.bind evV (Tl.pos hk (Tl.bind (ev_turned ok.1 (by omega)) (Tl.bind hb (Tl.bind (ev_revr x (by omega)) Tl.now))))
    have e2 : Tl (fun k => diaphoneref02_Rising.f k h) (x.reverse, 0) := by
      unfold diaphoneref02_Rising.f
      refine Tl.bind evr (Tl.pos hk (Tl.bind (ev_rturned h (by omega)) (Tl.bind (ev_rbest ok' hx) ?_)))
      have := rrising_loop x (by omega) x.length x.length (by omega) rfl
      rw [w64 (by omega) (by omega)]
      simpa using this
    have e3 : Tl (fun k => diaphoneref02_Turn.f k h) (h.reverse, 0) := by
      unfold diaphoneref02_Turn.f
      exact Tl.bind evr (Tl.pos hk (Tl.bind (ev_rturned h (by omega)) Tl.now))
    rw [if_pos hk] at evT
    refine Tl.bind e1 (Tl.bind e2 (Tl.bind evT (Tl.bind e3 (Tl.bind (ev_SameRats _ (by simp; omega)) (Tl.pos rfl (Tl.pos rfl (Tl.bind (ev_SameReadings _ (by simp; omega)) (Tl.pos rfl (Tl.succ ?_)))))))))
    simp only [diaphonelaw02_HazeRising.j0]
    refine Tl.neg (by simp) (Tl.bind (ev_Best ok' hx) (Tl.pos trivial (Tl.pos rfl (Tl.succ ?_))))
    simp only [diaphonelaw02_HazeRising.j1, List.length_reverse]
    exact Tl.neg (by simp) (loop (by omega) x.length 0 (by omega) (by omega))
  · have e1 : Tl (fun k => haze_Rising.f k h) ([], vc h) := by
      unfold haze_Rising.f
      exact Tl.bind evV (Tl.neg hk Tl.now)
    have e2 : Tl (fun k => diaphoneref02_Rising.f k h) ([], vc h) := by
      unfold diaphoneref02_Rising.f
      exact Tl.bind evr (Tl.neg hk Tl.now)
    have e3 : Tl (fun k => diaphoneref02_Turn.f k h) ([], vc h) := by
      unfold diaphoneref02_Turn.f
      exact Tl.bind evr (Tl.neg hk Tl.now)
    rw [if_neg hk] at evT
    refine Tl.bind e1 (Tl.bind e2 (Tl.bind evT (Tl.bind e3 (Tl.bind (ev_SameRats _ (by simp)) (Tl.pos rfl (Tl.pos rfl (Tl.bind (ev_SameReadings _ (by simp)) (Tl.pos rfl (Tl.succ ?_)))))))))
    simp only [diaphonelaw02_HazeRising.j0]
    exact Tl.neg (by simp) (Tl.bind (ev_Best_bad (by simp) (by simp [vc])) (Tl.neg hk ev_known'))
end Go.Proofs.Ytgdhbeccpicdcaa.Pure
