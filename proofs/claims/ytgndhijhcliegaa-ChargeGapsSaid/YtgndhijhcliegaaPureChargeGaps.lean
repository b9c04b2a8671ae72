/- Proved here: for all weights, which amounts are not made up, and the greatest of them, are the document's answers, and for two weights their number and the greatest are as told; it holds under no condition. -/
import Derived.Test.YtgndhijhcliegaaTw
import Derived.Test.YtgndhijhcliegaaPx38
set_option linter.unusedVariables false
namespace Go.Proofs.Ytgndhijhcliegaa.Pure
open Go.RowKit Go.Proofs.Ytgndhijhcliegaa.P Go.Proofs.Ytgndhijhcliegaa.E Go.Proofs.Ytgndhijhcliegaa.Va Go.Proofs.Ytgndhijhcliegaa.Kn Go.Proofs.Ytgndhijhcliegaa.Me Go.Proofs.Ytgndhijhcliegaa.Rs Go.Proofs.Ytgndhijhcliegaa.Gp Go.Proofs.Ytgndhijhcliegaa.Tw Go.Proofs.YtgndhijhcliegaaW.PrintMore
open Go.Proofs.YtgndhijhcliegaaW.PrintWords
namespace Gps
theorem ev_SameInts {l : List Int} (hl : l.length ≤ 1000) : Tl (fun k => diaphoneref07_SameInts.f k l l) true := by
  unfold diaphoneref07_SameInts.f
  refine Tl.pos rfl ?_
  have loop : ∀ d i : Nat, i + d = l.length → Tl (fun k => diaphoneref07_SameInts.l0 k l l (i : Int)) true := by
    intro d
    induction d with
    | zero =>
      intro i h
      refine Tl.succ ?_
      simp only [diaphoneref07_SameInts.l0]
      exact Tl.neg (by omega) Tl.now
    | succ d ih =>
      intro i h
      refine Tl.succ ?_
      simp only [diaphoneref07_SameInts.l0]
      rw [w64 (x := (i : Int) + 1) (by omega) (by omega)]
      exact Tl.pos (by omega) (Tl.pos (by omega) (Tl.pos (by omega) (Tl.pos trivial (ih (i + 1) (by omega)))))
  exact loop l.length 0 (by omega)
/-- Cut where no number holds any more. -/
theorem fl_cut {p : Int → Bool} {n N : Nat} (h : n ≤ N) (hp : ∀ m : Nat, n ≤ m → m < N → p m = false) : charge_where.fl p N = charge_where.fl p n := by
  obtain ⟨d, rfl⟩ : ∃ d, N = n + d := ⟨N - n, by omega⟩
  clear h
  induction d with
  | zero => rfl
  | succ d ih =>
    rw [← Nat.add_assoc, charge_where.fl_succ, if_neg (by rw [hp (n + d) (by omega) (by omega)]; simp)]
    exact ih (fun m h1 h2 => hp m h1 (by omega))
end Gps
open Gps
theorem ChargeGaps : ∀ (x0 : List Int), ((∀ y ∈ x0, (Lit.int .i64 y).wf = true) ∧ x0.length ≤ maxLen) → ∃ k, diaphonelaw07_ChargeGaps.f k x0 = some true := by
  intro w _
  refine Tl.ex (g := fun k => diaphonelaw07_ChargeGaps.f k w) ?_
  unfold diaphonelaw07_ChargeGaps.f
  refine by_long (fun hl => ?_)
  have jt : ∀ (l : List Int) (v : Int), Tl (fun k => diaphonelaw07_ChargeGaps.j1 k w l v true) true := by
    intro l v
    refine Tl.succ ?_
    simp only [diaphonelaw07_ChargeGaps.j1]
    exact Tl.pos trivial ev_sane'
  have g1 := ev_Gaps w
  have g2 := ev_rGaps w
  by_cases hs : sc w = 0
  · obtain ⟨ok, h1⟩ := sc_ok.1 hs
    have hw := w0_range ok
    have hlen := ok.1
    obtain ⟨v, hv, v2, _, _⟩ := ev_greatest ok h1
    have e : gc w = (gl w, 0) := by unfold gc; rw [if_pos hs]
    rw [e] at g1 g2
    have hgl := gl_len w
    have hcount : w.length = 2 → 2 * ((gl w).length : Int) = ((w0 w : Int) - 1) * ((w1 w : Int) - 1) := by
      intro h2
      have hF := gt_two ok h2 h1
      obtain rfl := gt_unique hv hF
      have hid : (w0 w : Int) * w1 w - w0 w - w1 w + 1 = ((w0 w : Int) - 1) * ((w1 w : Int) - 1) := by
        rw [Int.sub_mul, Int.mul_sub, Int.mul_one, Int.one_mul]; omega
      rw [← hid]
      have hf : ∀ n : Nat, decide (fw w (n : Int).toNat < 0) = !decide (made w n) := by
        intro n
        rw [Int.toNat_natCast]
        by_cases c : made w n
        · rw [decide_eq_true c, decide_eq_false (by have := fw_nonneg.2 c; omega)]; rfl
        · rw [decide_eq_false c, decide_eq_true (by
            rcases Int.lt_or_le (fw w n) 0 with q | q
            · exact q
            · exact absurd (fw_nonneg.1 q) c)]; rfl
      generalize hFv : (w0 w : Int) * w1 w - w0 w - w1 w = F at hF hv v2 ⊢
      rcases Int.lt_or_le F 0 with c | c
      · have hnil : gl w = charge_where.fl (fun n => decide (fw w n.toNat < 0)) 0 := fl_cut (by omega) (fun m _ _ => by
          show decide (fw w (m : Int).toNat < 0) = false
          rw [hf, decide_eq_true (hF.2.1 m (by omega))]; rfl)
        rw [hnil]
        show 2 * (([] : List Int).length : Int) = _
        have := hF.1
        simp; omega
      · obtain ⟨f, rfl⟩ : ∃ f : Nat, F = (f : Int) := ⟨F.toNat, by omega⟩
        have hcut : gl w = charge_where.fl (fun n => decide (fw w n.toNat < 0)) (f + 1) := fl_cut (by omega) (fun m q1 _ => by
          show decide (fw w (m : Int).toNat < 0) = false
          rw [hf, decide_eq_true (hF.2.1 m (by omega))]; rfl)
        have hh := half (p := fun n => decide (fw w n.toNat < 0)) (F := f) (fun n hn => by
          show decide (fw w (n : Int).toNat < 0) = !decide (fw w ((f : Int) - (n : Int)).toNat < 0)
          rw [show (f : Int) - (n : Int) = ((f - n : Nat) : Int) by omega, hf, hf]
          have he := even ok h2 h1 (n : Int)
          rw [hFv, show (f : Int) - (n : Int) = ((f - n : Nat) : Int) by omega, Int.toNat_natCast, Int.toNat_natCast] at he
          by_cases c1 : made w n
          · have := he.1 ⟨by omega, c1⟩
            rw [decide_eq_true c1, decide_eq_false (fun q => this ⟨by omega, q⟩)]; rfl
          · by_cases c2 : made w (f - n)
            · rw [decide_eq_false c1, decide_eq_true c2]; rfl
            · exact absurd (he.2 (fun q => c2 q.2)).2 c1)
        rw [hcut]
        omega
    have hgv : w.length = 2 → v = (w0 w : Int) * w1 w - w0 w - w1 w := fun h2 => gt_unique hv (gt_two ok h2 h1)
    generalize gl w = G at g1 g2 hgl hcount
    refine Tl.bind g1 (Tl.bind g2 (Tl.bind (ev_Greatest hs hv) (Tl.bind (ev_rGreatest hs hv) (Tl.bind (ev_SameInts (show G.length ≤ 1000 by omega)) (Tl.pos rfl (Tl.pos rfl (Tl.pos rfl (Tl.succ ?_))))))))
    simp only [diaphonelaw07_ChargeGaps.j0]
    refine Tl.neg (by decide) (Tl.pos trivial ?_)
    by_cases h2 : w.length = 2
    · have e1 : rd w 1 = (w1 w : Int) ∧ 1 ≤ w1 w ∧ w1 w ≤ 30 := by
        have := (ok.2 1 (by omega)).1
        have e : rd w ((1 : Nat) : Int) = rd w 1 := rfl
        rw [e] at this
        unfold w1; omega
      have p1 : (w0 w : Int) * w1 w ≤ 30 * 30 := Int.mul_le_mul (by omega) (by omega) (by omega) (by omega)
      have p2 : 0 ≤ (w0 w : Int) * w1 w := Int.mul_nonneg (by omega) (by omega)
      have p3 : ((w0 w : Int) - 1) * ((w1 w : Int) - 1) ≤ 29 * 29 := Int.mul_le_mul (by omega) (by omega) (by omega) (by omega)
      have p4 : 0 ≤ ((w0 w : Int) - 1) * ((w1 w : Int) - 1) := Int.mul_nonneg (by omega) (by omega)
      rw [show ((w.length : Int) != 2) = false by simp; omega]
      refine Tl.succ ?_
      simp only [diaphonelaw07_ChargeGaps.j1]
      rw [hw.2.2, e1.1, w64 (x := (w0 w : Int) * w1 w) (by omega) (by omega), w64 (x := (w0 w : Int) * w1 w - w0 w) (by omega) (by omega), w64 (x := (w0 w : Int) * w1 w - w0 w - w1 w) (by omega) (by omega),
        w64 (x := (w0 w : Int) - 1) (by omega) (by omega), w64 (x := (w1 w : Int) - 1) (by omega) (by omega), w64 (x := ((w0 w : Int) - 1) * ((w1 w : Int) - 1)) (by omega) (by omega), w64 (x := 2 * (G.length : Int)) (by omega) (by omega)]
      exact Tl.neg (by simp) (Tl.pos (by omega) (Tl.pos (by omega) (Tl.pos (hgv h2) (Tl.pos (hcount h2) ev_sane'))))
    · rw [show ((w.length : Int) != 2) = true by simp; omega]
      exact jt _ _
  · have e : gc w = ([], sc w) := by unfold gc; rw [if_neg hs]
    rw [e] at g1 g2
    refine Tl.bind g1 (Tl.bind g2 (Tl.bind (ev_Greatest_no hs) (Tl.bind (ev_rGreatest_no hs) (Tl.bind (ev_SameInts (l := []) (by simp)) (Tl.pos rfl (Tl.pos rfl (Tl.pos rfl (Tl.succ ?_))))))))
    simp only [diaphonelaw07_ChargeGaps.j0]
    exact Tl.neg (by simp) (Tl.neg hs (jt _ _))
end Go.Proofs.Ytgndhijhcliegaa.Pure
