/- Means of hours; hours that there are; falling values. -/
import Derived.Test.YtgdhbeccpicdcaaHo
import Derived.Test.YtgdhbeccpicdcaaPx38
import Derived.Test.YtgdhbeccpicdcaaPx39
set_option linter.unusedVariables false
namespace Go.Proofs.Ytgdhbeccpicdcaa.Me
open Go.RowKit Go.Proofs.Ytgdhbeccpicdcaa.P Go.Proofs.Ytgdhbeccpicdcaa.E Go.Proofs.Ytgdhbeccpicdcaa.Fr Go.Proofs.Ytgdhbeccpicdcaa.Sd Go.Proofs.Ytgdhbeccpicdcaa.Bl Go.Proofs.Ytgdhbeccpicdcaa.Va Go.Proofs.Ytgdhbeccpicdcaa.Be Go.Proofs.Ytgdhbeccpicdcaa.Kn Go.Proofs.YtgdhbeccpicdcaaW.PrintMore
open Go.Proofs.YtgdhbeccpicdcaaW.PrintWords
theorem span_loop {h : List S31} (ok : Ok h) {a b : Nat} (hb : b < h.length) (d : Nat) : ∀ j : Nat, a < j → j ≤ b + 1 → b + 1 - j = d →
    Tl (fun k => haze_span.l0 k h (b : Int) (j : Int) (a : Int) ((j : Int) - 1) (sw h j - sw h a) (sv h j - sv h a)) ((a : Int), (b : Int), sw h (b + 1) - sw h a, sv h (b + 1) - sv h a) := by
  induction d with
  | zero =>
    intro j h1 h2 h3
    obtain rfl : j = b + 1 := by omega
    refine Tl.succ ?_
    simp only [haze_span.l0]
    refine Tl.neg (by omega) (Tl.now.to ?_)
    congr 2
    omega
  | succ d ih =>
    intro j h1 h2 h3
    have hlen := ok.2.1
    have s := ok.bd (show a ≤ j + 1 by omega) (by omega)
    refine Tl.succ ?_
    simp only [haze_span.l0]
    refine Tl.pos (by omega) (Tl.bind' (of_eq ok (by omega)) ?_)
    have hw : haze_block_with.f (a : Int) ((j : Int) - 1) (sw h j - sw h a) (sv h j - sv h a) (j : Int) (j : Int) (sw h (j + 1) - sw h j) (sv h (j + 1) - sv h j) = some ((a : Int), (((j + 1 : Nat) : Int) - 1), sw h (j + 1) - sw h a, sv h (j + 1) - sv h a) := by
      unfold haze_block_with.f
      rw [w64 (by omega) (by omega), w64 (by omega) (by omega)]
      rw [show sw h j - sw h a + (sw h (j + 1) - sw h j) = sw h (j + 1) - sw h a by omega, show sv h j - sv h a + (sv h (j + 1) - sv h j) = sv h (j + 1) - sv h a by omega]
      congr 3
      omega
    refine Tl.bind' hw ?_
    rw [w64 (by omega) (by omega)]
    exact ih (j + 1) (by omega) (by omega) (by omega)
theorem ev_span {h : List S31} (ok : Ok h) {a b : Nat} (hab : a ≤ b) (hb : b < h.length) : Tl (fun k => haze_span.f k h (a : Int) (b : Int)) ((a : Int), (b : Int), sw h (b + 1) - sw h a, sv h (b + 1) - sv h a) := by
  unfold haze_span.f
  have hlen := ok.2.1
  refine Tl.bind' (of_eq ok (by omega)) ?_
  rw [w64 (by omega) (by omega)]
  have := span_loop ok (a := a) hb (b + 1 - (a + 1)) (a + 1) (by omega) (by omega) rfl
  refine this.congr (fun k => ?_)
  have e : (((a + 1 : Nat) : Int) - 1) = (a : Int) := by omega
  rw [e]
  rfl
theorem ev_span_mean {h : List S31} (ok : Ok h) {a b : Nat} (hab : a ≤ b) (hb : b < h.length) : Tl (fun k => haze_block_mean.f k (a : Int) (b : Int) (sw h (b + 1) - sw h a) (sv h (b + 1) - sv h a)) (M h a (b + 1)) := by
  have s := ok.small (show a < b + 1 by omega) (by omega)
  exact ev_block_mean (by omega) (by omega) (by omega) (by omega)
/-- The mean that is told, and the error. -/
def mc (h : List S31) (a b : Int) : Int × Int × Int := if hc h a b = 0 then (if a > b then (0, 0, 1) else ((M h a.toNat (b.toNat + 1)).1, (M h a.toNat (b.toNat + 1)).2, 0)) else (0, 0, hc h a b)
theorem ev_Mean {h : List S31} (hl : h.length ≤ 1000) (a b : Int) : Tl (fun k => haze_Mean.f k h a b) (mc h a b) := by
  unfold haze_Mean.f mc
  refine Tl.bind (ev_hours2 hl a b) ?_
  by_cases hk : hc h a b = 0
  · rw [if_pos hk]
    refine Tl.pos hk ?_
    obtain ⟨ok, ha, hb⟩ := hc_ok hk
    simp only [inn] at ha hb
    by_cases hab : a > b
    · rw [if_pos hab]; exact Tl.pos hab Tl.now
    · rw [if_neg hab]
      refine Tl.neg hab ?_
      have e1 := ev_span ok (a := a.toNat) (b := b.toNat) (by omega) (by omega)
      have e2 := ev_span_mean ok (a := a.toNat) (b := b.toNat) (by omega) (by omega)
      rw [show ((a.toNat : Nat) : Int) = a by omega, show ((b.toNat : Nat) : Int) = b by omega] at e1 e2
      exact Tl.bind e1 (Tl.bind e2 Tl.now)
  · rw [if_neg hk]; exact Tl.neg hk Tl.now
end Go.Proofs.Ytgdhbeccpicdcaa.Me
