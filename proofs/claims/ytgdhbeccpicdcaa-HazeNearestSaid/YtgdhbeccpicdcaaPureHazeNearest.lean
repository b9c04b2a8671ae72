/- Proved here: for every list of readings and every falling row of numbers, the misfit of the best row is at most the row's; it holds under no condition. -/
import Derived.Test.YtgdhbeccpicdcaaMi
import Derived.Test.YtgdhbeccpicdcaaRa
import Derived.Test.YtgdhbeccpicdcaaPx28
set_option linter.unusedVariables false
namespace Go.Proofs.Ytgdhbeccpicdcaa.Pure
open Go.RowKit Go.Proofs.Ytgdhbeccpicdcaa.P Go.Proofs.Ytgdhbeccpicdcaa.E Go.Proofs.Ytgdhbeccpicdcaa.Fr Go.Proofs.Ytgdhbeccpicdcaa.Sd Go.Proofs.Ytgdhbeccpicdcaa.Bl Go.Proofs.Ytgdhbeccpicdcaa.Va Go.Proofs.Ytgdhbeccpicdcaa.Be Go.Proofs.Ytgdhbeccpicdcaa.Kn Go.Proofs.Ytgdhbeccpicdcaa.Ra Go.Proofs.Ytgdhbeccpicdcaa.Rl Go.Proofs.Ytgdhbeccpicdcaa.Mi Go.Proofs.YtgdhbeccpicdcaaW.PrintMore
open Go.Proofs.YtgdhbeccpicdcaaW.PrintWords
namespace Nea
/-- The misfit of a row. -/
def ss (h : List S31) (r : List Int) : Nat → Int
  | 0 => 0
  | n + 1 => ss h r n + (rd_T31 h (n : Int)).f1 * ((rd_T31 h (n : Int)).f0 - rd r (n : Int)) * ((rd_T31 h (n : Int)).f0 - rd r (n : Int))
def Fal (r : List Int) (n : Nat) : Prop := ∀ i, i + 1 < n → rd r ((i + 1 : Nat) : Int) ≤ rd r (i : Int)
/-- Within a block: hour by hour. -/
theorem abel {h : List S31} (ok : Ok h) {r : List Int} {a e : Nat} (hb : Blk (sv h) (sw h) a e) (he : e ≤ h.length) (hf : Fal r e) (x : Nat) : ∀ y : Nat, y = a + x + 1 → y ≤ e →
    2 * ((sw h e - sw h a) * (sv h y - sv h a) - (sv h e - sv h a) * (sw h y - sw h a)) * ((sv h e - sv h a) - (sw h e - sw h a) * rd r ((a + x : Nat) : Int)) ≤
    (sw h e - sw h a) * (sw h e - sw h a) * (ss h r y - ss h r a) - ((sw h e - sw h a) * (sw h e - sw h a) * (sq h y - sq h a) - 2 * (sw h e - sw h a) * (sv h e - sv h a) * (sv h y - sv h a) + (sv h e - sv h a) * (sv h e - sv h a) * (sw h y - sw h a)) := by
  generalize hW : sw h e - sw h a = W
  generalize hV : sv h e - sv h a = V
  have sqn : ∀ z : Int, 0 ≤ z * z := fun z => by
    rcases Int.le_total 0 z with q | q
    · exact Int.mul_nonneg q q
    · exact Int.mul_nonneg_of_nonpos_of_nonpos q q
  induction x with
  | zero =>
    intro y hy hye
    subst hy
    have q := ok.2.2 a (by have := hb.1; omega)
    simp only [rok] at q
    have m := Int.mul_nonneg (show 0 ≤ (rd_T31 h (a : Int)).f1 by omega) (sqn (V - W * rd r (a : Int)))
    simp only [Nat.add_zero, ss, sq, sv, sw]
    generalize (rd_T31 h (a : Int)).f0 = v at *
    generalize (rd_T31 h (a : Int)).f1 = w at *
    generalize rd r (a : Int) = p at *
    grind
  | succ x ih =>
    intro y hy hye
    subst hy
    have i := ih (a + x + 1) rfl (by omega)
    have q := ok.2.2 (a + x + 1) (by omega)
    simp only [rok] at q
    have m := Int.mul_nonneg (show 0 ≤ (rd_T31 h ((a + x + 1 : Nat) : Int)).f1 by omega) (sqn (V - W * rd r ((a + x + 1 : Nat) : Int)))
    have hA := hb.2 (a + x + 1) (by omega) (by omega)
    rw [hW, hV] at hA
    have hr := hf (a + x) (by omega)
    have hWp : 0 < W := by have := (ok.small hb.1 he).1; omega
    have m2 : 0 ≤ ((V * (sw h (a + x + 1) - sw h a) - W * (sv h (a + x + 1) - sv h a)) * W) * (rd r ((a + x : Nat) : Int) - rd r ((a + x + 1 : Nat) : Int)) := Int.mul_nonneg (Int.mul_nonneg (by omega) (by omega)) (by omega)
    rw [show a + (x + 1) = a + x + 1 by omega]
    generalize a + x + 1 = y0 at *
    simp only [ss, sq, sv, sw]
    generalize (rd_T31 h (y0 : Int)).f0 = v at *
    generalize (rd_T31 h (y0 : Int)).f1 = w at *
    generalize rd r (y0 : Int) = p at *
    generalize rd r ((a + x : Nat) : Int) = p0 at *
    generalize sv h y0 = S1 at *
    generalize sw h y0 = S2 at *
    generalize sq h y0 = S3 at *
    generalize ss h r y0 = S4 at *
    clear ih hA hr hb hf hye hV hW
    generalize sv h a = T1 at *
    generalize sw h a = T2 at *
    generalize sq h a = T3 at *
    generalize ss h r a = T4 at *
    grind
theorem block {h : List S31} (ok : Ok h) {r : List Int} {a e : Nat} (hb : Blk (sv h) (sw h) a e) (he : e ≤ h.length) (hf : Fal r e) :
    (sq h e - sq h a) * (sw h e - sw h a) - (sv h e - sv h a) * (sv h e - sv h a) ≤ (ss h r e - ss h r a) * (sw h e - sw h a) := by
  have hae := hb.1
  have k := abel ok hb he hf (e - a - 1) e (by omega) (Nat.le_refl _)
  have s := (ok.small hb.1 he).1
  generalize sw h e - sw h a = W at *
  generalize sv h e - sv h a = V at *
  generalize sq h e - sq h a = Q at *
  generalize ss h r e - ss h r a = S at *
  generalize rd r ((a + (e - a - 1) : Nat) : Int) = p at *
  have k2 : (Q * W - V * V) * W ≤ (S * W) * W := by grind
  exact Int.le_of_mul_le_mul_right k2 s
theorem near {h : List S31} (ok : Ok h) {r : List Int} {l : List (Nat × Nat)} {a : Nat} (hc : Ch (sv h) (sw h) l a) (ha : a ≤ h.length) (hf : Fal r a) : Mi.Inv h a (mis h l) ∧ (mis h l).1 ≤ ss h r a * (mis h l).2 := by
  induction hc with
  | nil => exact ⟨⟨(by decide : (0 : Int) < 1), (by decide : (1 : Int) ≤ 9 ^ 0), (by decide : (0 : Int) ≤ 0), (by simp [mis, sq] : (mis h []).1 ≤ sq h 0 * (mis h []).2)⟩, by simp [mis, ss]⟩
  | @snoc l a e hc hb hf' ih =>
    have hae := hb.1
    obtain ⟨inv, i⟩ := ih (by omega) (fun i hi => hf i (by omega))
    obtain ⟨s1, s2, s3, s4, s5, s6, s7⟩ := small ok hae ha inv
    rw [mis_snoc]
    refine ⟨s7, ?_⟩
    have s := ok.small hae ha
    have b := block ok hb ha hf
    have p1 := Rt_pos (n := (sq h e - sq h a) * (sw h e - sw h a) - (sv h e - sv h a) * (sv h e - sv h a)) s.1
    have p4 := Rt_cross (n := (sq h e - sq h a) * (sw h e - sw h a) - (sv h e - sv h a) * (sv h e - sv h a)) s.1
    have em : Rt ((sq h e - sq h a) * (sw h e - sw h a) - (sv h e - sv h a) * (sv h e - sv h a)) (sw h e - sw h a) = mb h (a, e) := rfl
    rw [em] at p1 p4
    have hnum : (mb h (a, e)).1 ≤ (ss h r e - ss h r a) * (mb h (a, e)).2 := by
      have z := Int.mul_le_mul_of_nonneg_right b (Int.le_of_lt p1)
      have : (mb h (a, e)).1 * (sw h e - sw h a) ≤ ((ss h r e - ss h r a) * (mb h (a, e)).2) * (sw h e - sw h a) := by
        rw [p4]
        refine Int.le_trans z (Int.le_of_eq ?_)
        grind
      exact Int.le_of_mul_le_mul_right this s.1
    have d0 := s6.1
    have n1 := Int.mul_le_mul_of_nonneg_right i (Int.le_of_lt p1)
    have n2 := Int.mul_le_mul_of_nonneg_right hnum (Int.le_of_lt inv.1)
    have hc := Rt_cross (n := (mis h l).1 * (mb h (a, e)).2 + (mb h (a, e)).1 * (mis h l).2) d0
    have hp := Rt_pos (n := (mis h l).1 * (mb h (a, e)).2 + (mb h (a, e)).1 * (mis h l).2) d0
    have hst : st h (mis h l) (a, e) = Rt ((mis h l).1 * (mb h (a, e)).2 + (mb h (a, e)).1 * (mis h l).2) ((mis h l).2 * (mb h (a, e)).2) := rfl
    rw [← hst] at hc hp
    have hN : (mis h l).1 * (mb h (a, e)).2 + (mb h (a, e)).1 * (mis h l).2 ≤ ss h r e * ((mis h l).2 * (mb h (a, e)).2) := by
      have : ss h r e * ((mis h l).2 * (mb h (a, e)).2) = ss h r a * (mis h l).2 * (mb h (a, e)).2 + (ss h r e - ss h r a) * (mb h (a, e)).2 * (mis h l).2 := by grind
      omega
    have hN2 := Int.mul_le_mul_of_nonneg_right hN (Int.le_of_lt hp)
    have : (st h (mis h l) (a, e)).1 * ((mis h l).2 * (mb h (a, e)).2) ≤ (ss h r e * (st h (mis h l) (a, e)).2) * ((mis h l).2 * (mb h (a, e)).2) := by
      rw [hc]
      refine Int.le_trans hN2 (Int.le_of_eq ?_)
      grind
    exact Int.le_of_mul_le_mul_right this d0
theorem loop {h : List S31} (ok : Ok h) {r : List Int} (hr : r.length = h.length) {n d : Int} (hd : 0 < d) (hn : 0 ≤ n) (hd2 : d ≤ 9000000000000000000) (hn2 : n ≤ 9000000000000000000) (hle : Fal r h.length → n ≤ ss h r h.length * d) (c : Nat) :
    ∀ i : Nat, i ≤ h.length → h.length - i = c → Fal r i → (0 ≤ ss h r i ∧ ss h r i ≤ 10000000 * i) → Tl (fun k => diaphonelaw02_HazeNearest.l0 k h r (ss h r i) (i : Int) n d) true := by
  have hlen := ok.2.1
  induction c with
  | zero =>
    intro i h1 h2 h3 h4
    obtain rfl : i = h.length := by omega
    have hle := hle h3
    have e1 : Int.tdiv n d = n / d := Int.tdiv_eq_ediv_of_nonneg hn
    have e2 : Int.tmod n d = n % d := Int.tmod_eq_emod_of_nonneg hn
    have f1 : d * (n / d) + n % d = n := Int.mul_ediv_add_emod n d
    have f2 := Int.emod_nonneg n (show d ≠ 0 by omega)
    have f3 := Int.ediv_nonneg hn (Int.le_of_lt hd)
    have f4 : n / d ≤ n := Int.ediv_le_self _ hn
    refine Tl.succ ?_
    simp only [diaphonelaw02_HazeNearest.l0]
    rw [e1, e2, w64 (x := n / d) (by omega) (by omega)]
    refine Tl.neg (by omega) (Tl.neg (by omega) ?_)
    by_cases c1 : n / d < ss h r h.length
    · exact Tl.pos c1 ev_known'
    · have c2 : n / d ≤ ss h r h.length := by
        have : n / d ≤ (ss h r h.length * d) / d := Int.ediv_le_ediv hd hle
        rwa [Int.mul_ediv_cancel _ (show d ≠ 0 by omega)] at this
      have c3 : n / d = ss h r h.length := by omega
      refine Tl.neg c1 (Tl.pos c3 (Tl.pos ?_ ev_known'))
      rw [c3, Int.mul_comm d] at f1
      omega
  | succ c ih =>
    intro i h1 h2 h3 h4
    have hlt : i < h.length := by omega
    have q := ok.2.2 i hlt
    simp only [rok] at q
    refine Tl.succ ?_
    simp only [diaphonelaw02_HazeNearest.l0]
    refine Tl.pos (by omega) (Tl.pos (by omega) ?_)
    by_cases c1 : rd r (i : Int) < 0
    · exact Tl.pos c1 ev_known'
    refine Tl.neg c1 ?_
    by_cases c2 : rd r (i : Int) > 1000
    · exact Tl.pos c2 ev_known'
    refine Tl.neg c2 ?_
    -- the numbers of this hour are small
    have g1 : 0 ≤ ((rd_T31 h (i : Int)).f0 - rd r (i : Int)) * ((rd_T31 h (i : Int)).f0 - rd r (i : Int)) ∧ ((rd_T31 h (i : Int)).f0 - rd r (i : Int)) * ((rd_T31 h (i : Int)).f0 - rd r (i : Int)) ≤ 1000 * 1000 := by
      rcases Int.le_total 0 ((rd_T31 h (i : Int)).f0 - rd r (i : Int)) with z | z
      · exact mulb z (by omega) z (by omega)
      · have := mulb (a := -((rd_T31 h (i : Int)).f0 - rd r (i : Int))) (A := 1000) (by omega) (by omega) (b := -((rd_T31 h (i : Int)).f0 - rd r (i : Int))) (B := 1000) (by omega) (by omega)
        rwa [Int.neg_mul_neg] at this
    have g2 := mulb (a := (rd_T31 h (i : Int)).f1) (A := 9) (by omega) (by omega) g1.1 g1.2
    have g3 : (rd_T31 h (i : Int)).f1 * ((rd_T31 h (i : Int)).f0 - rd r (i : Int)) * ((rd_T31 h (i : Int)).f0 - rd r (i : Int)) = (rd_T31 h (i : Int)).f1 * (((rd_T31 h (i : Int)).f0 - rd r (i : Int)) * ((rd_T31 h (i : Int)).f0 - rd r (i : Int))) := Int.mul_assoc _ _ _
    have g4 : -9000 ≤ (rd_T31 h (i : Int)).f1 * ((rd_T31 h (i : Int)).f0 - rd r (i : Int)) ∧ (rd_T31 h (i : Int)).f1 * ((rd_T31 h (i : Int)).f0 - rd r (i : Int)) ≤ 900 := by
      rw [Int.mul_sub]
      have a1 := mulb (a := (rd_T31 h (i : Int)).f1) (A := 9) (by omega) (by omega) (b := (rd_T31 h (i : Int)).f0) (B := 100) (by omega) (by omega)
      have a2 := mulb (a := (rd_T31 h (i : Int)).f1) (A := 9) (by omega) (by omega) (b := rd r (i : Int)) (B := 1000) (by omega) (by omega)
      omega
    have es : ss h r (i + 1) = ss h r i + (rd_T31 h (i : Int)).f1 * ((rd_T31 h (i : Int)).f0 - rd r (i : Int)) * ((rd_T31 h (i : Int)).f0 - rd r (i : Int)) := rfl
    have next : Fal r (i + 1) → Tl (fun k => diaphonelaw02_HazeNearest.l0 k h r (wrap64 (ss h r i + (wrap64 ((wrap64 (((rd_T31 h (i : Int)).f1) * (wrap64 (((rd_T31 h (i : Int)).f0) - (rd r (i : Int)))))) * (wrap64 (((rd_T31 h (i : Int)).f0) - (rd r (i : Int)))))))) (wrap64 ((i : Int) + 1)) n d) true := by
      intro hf
      rw [w64 (x := (rd_T31 h (i : Int)).f0 - rd r (i : Int)) (by omega) (by omega), w64 (x := (rd_T31 h (i : Int)).f1 * ((rd_T31 h (i : Int)).f0 - rd r (i : Int))) (by omega) (by omega),
        w64 (x := (rd_T31 h (i : Int)).f1 * ((rd_T31 h (i : Int)).f0 - rd r (i : Int)) * ((rd_T31 h (i : Int)).f0 - rd r (i : Int))) (by omega) (by omega), w64 (by omega) (by omega), w64 (x := (i : Int) + 1) (by omega) (by omega), ← es]
      rw [show (i : Int) + 1 = ((i + 1 : Nat) : Int) by omega]
      exact ih (i + 1) (by omega) (by omega) hf (by rw [es]; omega)
    by_cases c3 : (i : Int) > 0
    · refine Tl.pos c3 ?_
      rw [w64 (x := (i : Int) - 1) (by omega) (by omega)]
      refine Tl.pos (by omega) (Tl.pos (by omega) ?_)
      by_cases c4 : rd r (i : Int) > rd r ((i : Int) - 1)
      · exact Tl.pos c4 ev_known'
      · refine Tl.neg c4 (Tl.pos (by omega) (next ?_))
        intro j hj
        by_cases e : j + 1 = i
        · rw [e]
          rw [show (j : Int) = (i : Int) - 1 by omega]
          omega
        · exact h3 j (by omega)
    · refine Tl.neg c3 (Tl.pos (by omega) (next ?_))
      intro j hj
      omega
end Nea
open Nea
theorem HazeNearest : ∀ (x0 : List (S31)) (x1 : List Int), ((∀ y ∈ x0, ((Lit.int .i64 y.f0).wf = true) ∧ ((Lit.int .i64 y.f1).wf = true)) ∧ x0.length ≤ maxLen) → ((∀ y ∈ x1, (Lit.int .i64 y).wf = true) ∧ x1.length ≤ maxLen) → ∃ k, diaphonelaw02_HazeNearest.f k x0 x1 = some true := by
  intro h r _ _
  refine Tl.ex (g := fun k => diaphonelaw02_HazeNearest.f k h r) ?_
  unfold diaphonelaw02_HazeNearest.f
  by_cases hl : (h.length : Int) > 100
  · refine Tl.bind' (long_eq h) (Tl.pos (decide_eq_true hl) (Tl.succ ?_))
    simp only [diaphonelaw02_HazeNearest.j0]
    exact Tl.pos trivial ev_known'
  refine Tl.bind' (long_eq h) (Tl.neg (by simpa using hl) (Tl.succ ?_))
  simp only [diaphonelaw02_HazeNearest.j0]
  by_cases hr : r.length = h.length
  · refine Tl.neg (by simp [hr]) ?_
    by_cases hk : vc h = 0
    · have ok := vc_ok.1 hk
      have hlen := ok.2.1
      obtain ⟨l, hc, hb⟩ := ev_blocks ok
      obtain ⟨i1, i2, i3, i4⟩ := (p_ch ok hc (Nat.le_refl _)).1
      have e12 : (9 : Int) ^ 12 = 282429536481 := by decide
      have d2 := nine_mono (show h.length ≤ 12 by omega)
      have q0 := sq_bd ok (Nat.zero_le h.length) (Nat.le_refl _)
      rw [show sq h 0 = 0 from rfl] at q0
      have b := mulb (a := sq h h.length) (A := 1080000) (by omega) (by omega) (Int.le_of_lt i1) (show (mis h l).2 ≤ 282429536481 by omega)
      refine Tl.bind (ev_Misfit ok hc hb) (Tl.pos rfl (Tl.neg (by show ¬ (mis h l).2 < 1; omega) (Tl.succ ?_)))
      simp only [diaphonelaw02_HazeNearest.j1]
      refine Tl.neg (by simp; omega) ?_
      exact loop ok hr i1 i3 (by omega) (by omega) (fun hf => (near ok hc (Nat.le_refl _) hf).2) h.length 0 (by omega) (by omega) (fun j hj => by omega) (by simp [ss])
    · have e2 : Tl (fun k => haze_Misfit.f k h) (0, 0, vc h) := by
        unfold haze_Misfit.f
        exact Tl.bind (ev_Validate (by omega)) (Tl.neg hk Tl.now)
      exact Tl.bind e2 (Tl.neg hk ev_known')
  · exact Tl.pos (by simp; omega) ev_known'
end Go.Proofs.Ytgdhbeccpicdcaa.Pure
