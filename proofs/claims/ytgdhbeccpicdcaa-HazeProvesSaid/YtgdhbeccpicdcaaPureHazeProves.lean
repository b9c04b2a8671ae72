/- Proved here: for every list of readings, the best row proves itself: what is left of the hours is never above 0, it is 0 at the end of each block, and the row falls there; it holds under no condition. -/
import Derived.Test.YtgdhbeccpicdcaaRa
import Derived.Test.YtgdhbeccpicdcaaPx11
set_option linter.unusedVariables false
namespace Go.Proofs.Ytgdhbeccpicdcaa.Pure
open Go.RowKit Go.Proofs.Ytgdhbeccpicdcaa.P Go.Proofs.Ytgdhbeccpicdcaa.E Go.Proofs.Ytgdhbeccpicdcaa.Fr Go.Proofs.Ytgdhbeccpicdcaa.Sd Go.Proofs.Ytgdhbeccpicdcaa.Bl Go.Proofs.Ytgdhbeccpicdcaa.Va Go.Proofs.Ytgdhbeccpicdcaa.Be Go.Proofs.Ytgdhbeccpicdcaa.Kn Go.Proofs.Ytgdhbeccpicdcaa.Ra Go.Proofs.YtgdhbeccpicdcaaW.PrintMore
open Go.Proofs.YtgdhbeccpicdcaaW.PrintWords
namespace Prv
theorem mulb {a b A B : Int} (h1 : 0 ≤ a) (h2 : a ≤ A) (h3 : 0 ≤ b) (h4 : b ≤ B) : 0 ≤ a * b ∧ a * b ≤ A * B :=
  ⟨Int.mul_nonneg h1 h3, Int.mul_le_mul h2 h4 h3 (by omega)⟩
theorem Sad.red {sv sw : Nat → Int} {n i : Nat} {p q g : Int} (hg : 0 < g) (s : Sad sv sw n i (p * g) (q * g)) : Sad sv sw n i p q := by
  obtain ⟨f, t, h1, h2, h3, h4, h5⟩ := s
  refine ⟨f, t, h1, h2, h3, ?_, fun x hx => ?_⟩
  · have : (q * sv t - p * sw t) * g = (q * sv f - p * sw f) * g := by grind
    exact Int.eq_of_mul_eq_mul_right (by omega) this
  · have := h5 x hx
    have : (q * sv x - p * sw x) * g ≤ (q * sv f - p * sw f) * g := by grind
    exact Int.le_of_mul_le_mul_right this hg
/-- The number of an hour: reduced, and a line with its slope touches the diagram. -/
theorem num {h : List S31} (ok : Ok h) {l : List S33} (hb : IsBest h l) {i : Nat} (hi : i < l.length) : ∃ v w, 0 ≤ v ∧ v ≤ 10800 ∧ 0 < w ∧ w ≤ 108 ∧ l[i] = rat (Rt v w) ∧ Sad (sv h) (sw h) h.length i (Rt v w).1 (Rt v w).2 := by
  obtain ⟨v, w, q1, q2, q3, q4, q5, q6⟩ := IsBest.num ok hb hi
  obtain ⟨e1, e2⟩ := Rt_mul (n := v) q3
  refine ⟨v, w, q1, q2, q3, q4, q5, Sad.red (gcd_pos' (n := v) q3) ?_⟩
  rw [e1, e2]
  exact q6
/-- What is left at an hour. -/
def Inv (h : List S31) (l : List S33) (i : Nat) (L : Int) : Prop :=
  ∃ a, a ≤ i ∧ ∀ (hi : i < l.length), L = l[i].f1 * (sv h i - sv h a) - l[i].f0 * (sw h i - sw h a) ∧ ∀ x, x ≤ h.length → l[i].f1 * sv h x - l[i].f0 * sw h x ≤ l[i].f1 * sv h a - l[i].f0 * sw h a
theorem rt_cmp {a b c d : Int} (hb : 0 < b) (hd : 0 < d) (hne : Rt a b ≠ Rt c d) (hle : (Rt a b).1 * (Rt c d).2 ≤ (Rt c d).1 * (Rt a b).2) : (Rt a b).1 * (Rt c d).2 < (Rt c d).1 * (Rt a b).2 := by
  rcases Int.lt_or_eq_of_le hle with h1 | h1
  · exact h1
  · exfalso
    apply hne
    obtain ⟨e1, e2⟩ := Rt_mul (n := a) hb
    obtain ⟨e3, e4⟩ := Rt_mul (n := c) hd
    refine Rt_eq hb hd ?_
    generalize (Rt a b).1 = x1 at *
    generalize (Rt a b).2 = x2 at *
    generalize (Rt c d).1 = x3 at *
    generalize (Rt c d).2 = x4 at *
    generalize ((Int.gcd a b : Nat) : Int) = g1 at *
    generalize ((Int.gcd c d : Nat) : Int) = g2 at *
    subst e1 e2 e3 e4
    have : x1 * g1 * (x4 * g2) = (x1 * x4) * (g1 * g2) := by grind
    rw [this, h1]
    grind
theorem step {h : List S31} (ok : Ok h) {l : List S33} (hb : IsBest h l) {i : Nat} (hi : i < l.length) {L : Int} (hv : Inv h l i L) :
    ∃ L', L' = L + (rd_T31 h (i : Int)).f1 * ((rd_T31 h (i : Int)).f0 * l[i].f1 - l[i].f0) ∧ -10000000 ≤ L' ∧ L' ≤ 0 ∧ -10000000 ≤ L ∧ L ≤ 10000000 ∧ (i + 1 = l.length → L' = 0) ∧
      (∀ hi' : i + 1 < l.length, (l[i + 1] = l[i] → Inv h l (i + 1) L') ∧ (l[i + 1] ≠ l[i] → L' = 0 ∧ l[i + 1].f0 * l[i].f1 < l[i].f0 * l[i + 1].f1 ∧ Inv h l (i + 1) 0)) := by
  have hll := hb.1
  have hlen := ok.2.1
  obtain ⟨v, w, q1, q2, q3, q4, q5, q6⟩ := num ok hb hi
  have p1 := Rt_pos (n := v) q3
  have p2 := Rt_le (n := v) q3
  have p3 := Rt_nonneg q1 q3
  have p4 := Rt_num_le q1 q3
  have ef0 : l[i].f0 = (Rt v w).1 := by rw [q5]; rfl
  have ef1 : l[i].f1 = (Rt v w).2 := by rw [q5]; rfl
  obtain ⟨a, ha, hv⟩ := hv
  obtain ⟨hL, hmax⟩ := hv hi
  have r := ok.2.2 i (by omega)
  simp only [rok] at r
  have eL' : L + (rd_T31 h (i : Int)).f1 * ((rd_T31 h (i : Int)).f0 * l[i].f1 - l[i].f0) = l[i].f1 * (sv h (i + 1) - sv h a) - l[i].f0 * (sw h (i + 1) - sw h a) := by
    rw [hL]
    simp only [sv, sw]
    grind
  have b1 := ok.bd (show a ≤ i by omega) (show i ≤ h.length by omega)
  have b2 := ok.bd (show a ≤ i + 1 by omega) (show i + 1 ≤ h.length by omega)
  obtain ⟨f, t, t1, t2, t3, t4, t5⟩ := q6
  rw [← ef0, ← ef1] at t4 t5
  have c1 := mulb (a := l[i].f1) (A := 108) (by omega) (by omega) (b := sv h i - sv h a) (B := 10800) (by omega) (by omega)
  have c2 := mulb (a := l[i].f0) (A := 10800) (by omega) (by omega) (b := sw h i - sw h a) (B := 108) (by omega) (by omega)
  have c3 := mulb (a := l[i].f1) (A := 108) (by omega) (by omega) (b := sv h (i + 1) - sv h a) (B := 10800) (by omega) (by omega)
  have c4 := mulb (a := l[i].f0) (A := 10800) (by omega) (by omega) (b := sw h (i + 1) - sw h a) (B := 108) (by omega) (by omega)
  have m1 := hmax (i + 1) (by omega)
  have top : t = i + 1 → l[i].f1 * (sv h (i + 1) - sv h a) - l[i].f0 * (sw h (i + 1) - sw h a) = 0 := by
    intro e
    subst e
    have := t5 a (by omega)
    grind
  refine ⟨_, rfl, ?_, ?_, ?_, ?_, ?_, ?_⟩
  · rw [eL']; omega
  · rw [eL']; grind
  · rw [hL]; omega
  · rw [hL]; omega
  · intro e
    rw [eL']
    exact top (by omega)
  · intro hi'
    refine ⟨fun e => ⟨a, by omega, fun _ => ?_⟩, fun hne => ?_⟩
    · rw [e]
      exact ⟨eL', hmax⟩
    · obtain ⟨v', w', r1, r2, r3, r4, r5, r6⟩ := num ok hb hi'
      have p1' := Rt_pos (n := v') r3
      have ef0' : l[i + 1].f0 = (Rt v' w').1 := by rw [r5]; rfl
      have ef1' : l[i + 1].f1 = (Rt v' w').2 := by rw [r5]; rfl
      have hneR : Rt v' w' ≠ Rt v w := by
        intro e
        apply hne
        rw [q5, r5, e]
      have same : ∀ j, Sad (sv h) (sw h) h.length j (Rt v w).1 (Rt v w).2 → Sad (sv h) (sw h) h.length j (Rt v' w').1 (Rt v' w').2 → False := by
        intro j s s'
        have hu := s.unique s' p1 p1' ok.up
        apply hneR
        obtain ⟨e1, e2⟩ := Rt_mul (n := v) q3
        obtain ⟨e3, e4⟩ := Rt_mul (n := v') r3
        refine Rt_eq r3 q3 ?_
        generalize (Rt v w).1 = x1 at *
        generalize (Rt v w).2 = x2 at *
        generalize (Rt v' w').1 = x3 at *
        generalize (Rt v' w').2 = x4 at *
        generalize ((Int.gcd v w : Nat) : Int) = g1 at *
        generalize ((Int.gcd v' w' : Nat) : Int) = g2 at *
        rw [← e1, ← e2, ← e3, ← e4]
        have : x3 * g2 * (x2 * g1) = (x3 * x2) * (g1 * g2) := by grind
        rw [this, ← hu]
        grind
      have et : t = i + 1 := by
        rcases Nat.lt_or_ge (i + 1) t with h1 | h1
        · exact (same (i + 1) ⟨f, t, by omega, h1, t3, by rw [← ef0, ← ef1]; exact t4, by rw [← ef0, ← ef1]; exact t5⟩ r6).elim
        · omega
      obtain ⟨f', t', u1, u2, u3, u4, u5⟩ := r6
      have ef : f' = i + 1 := by
        rcases Nat.lt_or_ge f' (i + 1) with h1 | h1
        · exact (same i ⟨f, t, t1, t2, t3, by rw [← ef0, ← ef1]; exact t4, by rw [← ef0, ← ef1]; exact t5⟩ ⟨f', t', by omega, by omega, u3, u4, u5⟩).elim
        · omega
      refine ⟨by rw [eL']; exact top et, ?_, i + 1, by omega, fun _ => ⟨by simp, ?_⟩⟩
      · rw [ef0', ef1', ef0, ef1]
        refine rt_cmp r3 q3 hneR ?_
        rw [ef0, ef1, et] at t4
        rw [ef0, ef1] at t5
        rw [ef] at u4 u5
        have hw := ok.up.lt (show i + 1 < t' by omega) u3
        have k1 := t5 t' u3
        refine mul_le_of_cross (X := sv h t' - sv h (i + 1)) (Y := sw h t' - sw h (i + 1)) p1' p1 (by omega) ?_ ?_
        · grind
        · grind
      · intro x hx
        rw [ef0', ef1']
        rw [ef] at u5
        exact u5 x hx
theorem loop {h : List S31} (ok : Ok h) {l : List S33} (hb : IsBest h l) (d : Nat) :
    ∀ (i : Nat) (L : Int), i ≤ l.length → l.length - i = d → Inv h l i L → Tl (fun k => diaphonelaw02_HazeProves.l0 k h l L (i : Int)) true := by
  have hlen := ok.2.1
  have hll := hb.1
  induction d with
  | zero =>
    intro i L hi hd hv
    refine Tl.succ ?_
    simp only [diaphonelaw02_HazeProves.l0]
    exact Tl.neg (by omega) ev_known'
  | succ d ih =>
    intro i L hi hd hv
    have hlt : i < l.length := by omega
    obtain ⟨L', e, b1, b2, b3, b4, hend, hnext⟩ := step ok hb hlt hv
    obtain ⟨v, w, q1, q2, q3, q4, q5, q6⟩ := num ok hb hlt
    have p1 := Rt_pos (n := v) q3
    have p2 := Rt_le (n := v) q3
    have p3 := Rt_nonneg q1 q3
    have p4 := Rt_num_le q1 q3
    have ef0 : l[i].f0 = (Rt v w).1 := by rw [q5]; rfl
    have ef1 : l[i].f1 = (Rt v w).2 := by rw [q5]; rfl
    have r := ok.2.2 i (by omega)
    simp only [rok] at r
    have c1 := mulb (a := (rd_T31 h (i : Int)).f0) (A := 100) (by omega) (by omega) (b := l[i].f1) (B := 108) (by omega) (by omega)
    have c2 := mulb (a := (rd_T31 h (i : Int)).f1) (A := 9) (by omega) (by omega) (b := (rd_T31 h (i : Int)).f0 * l[i].f1) (B := 10800) (by omega) (by omega)
    have c3 := mulb (a := (rd_T31 h (i : Int)).f1) (A := 9) (by omega) (by omega) (b := l[i].f0) (B := 10800) (by omega) (by omega)
    have c4 : (rd_T31 h (i : Int)).f1 * ((rd_T31 h (i : Int)).f0 * l[i].f1 - l[i].f0) = (rd_T31 h (i : Int)).f1 * ((rd_T31 h (i : Int)).f0 * l[i].f1) - (rd_T31 h (i : Int)).f1 * l[i].f0 := by rw [Int.mul_sub]
    have ei : ((i + 1 : Nat) : Int) = (i : Int) + 1 := by omega
    refine Tl.succ ?_
    simp only [diaphonelaw02_HazeProves.l0]
    rw [rd33 hlt, w64 (x := (i : Int) + 1) (by omega) (by omega), w64 (x := (rd_T31 h (i : Int)).f0 * l[i].f1) (by omega) (by omega), w64 (x := (rd_T31 h (i : Int)).f0 * l[i].f1 - l[i].f0) (by omega) (by omega),
      w64 (x := (rd_T31 h (i : Int)).f1 * ((rd_T31 h (i : Int)).f0 * l[i].f1 - l[i].f0)) (by omega) (by omega), ← e, w64 (x := L') (by omega) (by omega)]
    refine Tl.pos (by omega) (Tl.pos (by omega) (Tl.pos (by omega) (Tl.neg (by omega) ?_)))
    by_cases hlast : i + 1 = l.length
    · have hz := hend hlast
      refine Tl.pos (by omega) (Tl.succ ?_)
      simp only [diaphonelaw02_HazeProves.j2]
      refine Tl.pos trivial (Tl.pos hz ?_)
      rw [w64 (x := (i : Int) + 1) (by omega) (by omega)]
      refine Tl.neg (by omega) ?_
      rw [← ei]
      exact ih (i + 1) L' (by omega) (by omega) ⟨0, by omega, fun h => by omega⟩
    · have hi' : i + 1 < l.length := by omega
      obtain ⟨n1, n2⟩ := hnext hi'
      have next : ∀ z, Inv h l (i + 1) z → Tl (fun k => diaphonelaw02_HazeProves.l0 k h l z ((i : Int) + 1)) true := by
        intro z hz
        rw [← ei]
        exact ih (i + 1) z (by omega) (by omega) hz
      refine Tl.neg (by omega) (Tl.pos (by omega) (Tl.pos (by omega) (Tl.succ ?_)))
      rw [← ei, rd33 hi']
      simp only [diaphonelaw02_HazeProves.j2]
      rw [w64 (x := (i : Int) + 1) (by omega) (by omega), ← ei, rd33 hi', rd33 hlt, ei]
      by_cases hsame : l[i + 1] = l[i]
      · rw [hsame]
        exact Tl.neg (by simp) (next L' (n1 hsame))
      · obtain ⟨z1, z2, z3⟩ := n2 hsame
        obtain ⟨v', w', r1, r2, r3, r4, r5, r6⟩ := num ok hb hi'
        have p1' := Rt_pos (n := v') r3
        have p2' := Rt_le (n := v') r3
        have p3' := Rt_nonneg r1 r3
        have p4' := Rt_num_le r1 r3
        have ef0' : l[i + 1].f0 = (Rt v' w').1 := by rw [r5]; rfl
        have ef1' : l[i + 1].f1 = (Rt v' w').2 := by rw [r5]; rfl
        have hless : diaphoneref02_Less.f l[i + 1].f0 l[i + 1].f1 l[i].f0 l[i].f1 = some (decide (v' * w < v * w')) := by
          rw [ef0', ef1', ef0, ef1]
          exact less_eq (by omega) (by omega) (by omega) (by omega) (by omega) (by omega) (by omega) (by omega)
        have hlt2 : v' * w < v * w' := by
          rw [ef0', ef1', ef0, ef1] at z2
          exact (Rt_lt q3 r3).1 z2
        refine Tl.pos ?_ (Tl.pos z1 (Tl.pos (by omega) (Tl.pos (by omega) (Tl.pos (by omega) (Tl.pos (by omega) (Tl.bind' hless (Tl.pos (decide_eq_true hlt2) ?_)))))))
        · by_cases h0 : l[i + 1].f0 = l[i].f0
          · by_cases h1 : l[i + 1].f1 = l[i].f1
            · exfalso
              rw [h0, h1] at z2
              omega
            · simp [h1]
          · simp [h0]
        · rw [z1]
          exact next 0 z3
end Prv
open Prv
theorem HazeProves : ∀ (x0 : List (S31)), ((∀ y ∈ x0, ((Lit.int .i64 y.f0).wf = true) ∧ ((Lit.int .i64 y.f1).wf = true)) ∧ x0.length ≤ maxLen) → ∃ k, diaphonelaw02_HazeProves.f k x0 = some true := by
  intro h _
  refine Tl.ex (g := fun k => diaphonelaw02_HazeProves.f k h) ?_
  unfold diaphonelaw02_HazeProves.f
  refine by_long (fun hl => ?_)
  by_cases hk : vc h = 0
  · have ok := vc_ok.1 hk
    obtain ⟨x, hx, _⟩ := ev_best ok
    have hxl := hx.1
    have hlen := ok.2.1
    refine Tl.bind (ev_Best ok hx) (Tl.pos rfl (Tl.pos (by simp only [hxl]) (Tl.neg (by omega) (Tl.bind (ev_fair ok hx) (Tl.succ ?_)))))
    simp only [diaphonelaw02_HazeProves.j0]
    refine Tl.neg (by simp) ?_
    have := loop ok hx x.length 0 0 (by omega) (by omega) ⟨0, by omega, fun hi => by
      obtain ⟨v, w, q1, q2, q3, q4, q5, f, t, t1, t2, t3, t4, t5⟩ := num ok hx hi
      have ef0 : x[0].f0 = (Rt v w).1 := by rw [q5]; rfl
      have ef1 : x[0].f1 = (Rt v w).2 := by rw [q5]; rfl
      obtain rfl : f = 0 := by omega
      refine ⟨by simp, fun y hy => ?_⟩
      rw [ef0, ef1]
      exact t5 y hy⟩
    exact this
  · exact Tl.bind (ev_Best_bad (by omega) hk) (Tl.neg hk ev_known')
end Go.Proofs.Ytgdhbeccpicdcaa.Pure
