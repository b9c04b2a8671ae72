/- Two weights with the measure 1: of an amount and what it lacks to the greatest gap just one is made up. -/
import Derived.Test.YtgndhijhcliegaaGp
set_option linter.unusedVariables false
namespace Go.Proofs.Ytgndhijhcliegaa.Tw
open Go.RowKit Go.Proofs.Ytgndhijhcliegaa.P Go.Proofs.Ytgndhijhcliegaa.E Go.Proofs.Ytgndhijhcliegaa.Va Go.Proofs.Ytgndhijhcliegaa.Kn Go.Proofs.Ytgndhijhcliegaa.Me Go.Proofs.Ytgndhijhcliegaa.Rs Go.Proofs.Ytgndhijhcliegaa.Gp Go.Proofs.YtgndhijhcliegaaW.PrintMore
open Go.Proofs.YtgndhijhcliegaaW.PrintWords
noncomputable instance madeDec (w : List Int) (n : Nat) : Decidable (made w n) := Classical.propDecidable _
def w1 (w : List Int) : Nat := (rd w 1).toNat
theorem two_made {w : List Int} (h2 : w.length = 2) (n : Nat) : made w n ↔ ∃ x y : Nat, n = x * w0 w + y * w1 w := by
  have e0 : (rd w ((0 : Nat) : Int)).toNat = w0 w := rfl
  have e1 : (rd w ((1 : Nat) : Int)).toNat = w1 w := rfl
  constructor
  · rintro ⟨c, hc⟩
    induction hc with
    | zero => exact ⟨0, 0, by omega⟩
    | @step n c i hi _ ih =>
      obtain ⟨x, y, e⟩ := ih
      rcases (by omega : i = 0 ∨ i = 1) with rfl | rfl
      · exact ⟨x + 1, y, by rw [e0, Nat.add_mul]; omega⟩
      · exact ⟨x, y + 1, by rw [e1, Nat.add_mul]; omega⟩
  · rintro ⟨x, y, rfl⟩
    have a0 := made_weight (w := w) (i := 0) (by omega)
    have a1 := made_weight (w := w) (i := 1) (by omega)
    rw [e0] at a0
    rw [e1] at a1
    have := made_add (made_mul a0 x) (made_mul a1 y)
    rw [Nat.mul_comm (w0 w), Nat.mul_comm (w1 w)] at this
    exact this
theorem two_gcd {w : List Int} (h2 : w.length = 2) : mg w w.length = Nat.gcd (w0 w) (w1 w) := by
  rw [h2]
  show Nat.gcd (Nat.gcd 0 (rd w ((0 : Nat) : Int)).toNat) (rd w ((1 : Nat) : Int)).toNat = _
  rw [Nat.gcd_zero_left]
  rfl
/-- Each number as one that is below the one weight, times the other one, and the rest. -/
theorem rep {a b : Nat} (hb : 1 ≤ b) (hg : Nat.gcd a b = 1) (n : Int) : ∃ x y : Int, 0 ≤ x ∧ x < b ∧ n = x * a + y * b := by
  obtain ⟨s, t, e⟩ := bezout b a
  rw [hg] at e
  have e' : s * a + t * b = 1 := by omega
  have k1 := Int.emod_nonneg (n * s) (show (b : Int) ≠ 0 by omega)
  have k2 := Int.emod_lt_of_pos (n * s) (show (0 : Int) < b by omega)
  have k3 := Int.emod_add_mul_ediv (n * s) (b : Int)
  refine ⟨(n * s) % b, n * t + ((n * s) / b) * a, k1, k2, ?_⟩
  have h1 : n = n * s * a + n * t * b := by
    rw [Int.mul_assoc, Int.mul_assoc, ← Int.mul_add, e', Int.mul_one]
  have h2 : n * s * a = (n * s) % b * a + (b : Int) * ((n * s) / b) * a := by rw [← Int.add_mul, k3]
  rw [Int.add_mul]
  have h3 : (b : Int) * ((n * s) / b) * a = ((n * s) / b) * a * b := by
    rw [Int.mul_comm (b : Int), Int.mul_assoc, Int.mul_assoc, Int.mul_comm (b : Int)]
  omega
theorem rep_unique {a b : Nat} (hb : 1 ≤ b) (hg : Nat.gcd a b = 1) {x y x' y' : Int} (h : x * a + y * b = x' * a + y' * b) (h1 : 0 ≤ x ∧ x < b) (h2 : 0 ≤ x' ∧ x' < b) : x = x' := by
  obtain ⟨s, t, e⟩ := bezout b a
  rw [hg] at e
  have e' : s * a + t * b = 1 := by omega
  have h3 : (x - x') * a = (y' - y) * b := by rw [Int.sub_mul, Int.sub_mul]; omega
  have h4 : x - x' = (b : Int) * (s * (y' - y) + t * (x - x')) := by
    have q1 : x - x' = (x - x') * (s * a + t * b) := by rw [e', Int.mul_one]
    have q2 : (x - x') * (s * a) = s * ((y' - y) * b) := by
      rw [← h3, ← Int.mul_assoc, ← Int.mul_assoc, Int.mul_comm (x - x') s]
    have q3 : (x - x') * (t * b) = (b : Int) * (t * (x - x')) := by
      rw [← Int.mul_assoc, Int.mul_comm _ (b : Int), Int.mul_comm (x - x') t]
    have q4 : s * ((y' - y) * b) = (b : Int) * (s * (y' - y)) := by
      rw [← Int.mul_assoc, Int.mul_comm _ (b : Int)]
    conv => lhs; rw [q1]
    rw [Int.mul_add, q2, q3, q4, ← Int.mul_add]
  generalize s * (y' - y) + t * (x - x') = z at h4
  have hz : z = 0 := by
    rcases Int.lt_trichotomy z 0 with c | c | c
    · have : (b : Int) * z ≤ (b : Int) * (-1) := Int.mul_le_mul_of_nonneg_left (by omega) (by omega)
      omega
    · exact c
    · have : (b : Int) * 1 ≤ (b : Int) * z := Int.mul_le_mul_of_nonneg_left (by omega) (by omega)
      omega
  rw [hz] at h4
  omega
/-- An amount is made up exactly if the rest is none too few. -/
theorem made_rep {w : List Int} (h2 : w.length = 2) (hb : 1 ≤ w1 w) (ha : 1 ≤ w0 w) (hg : Nat.gcd (w0 w) (w1 w) = 1) {n x y : Int} (hx : 0 ≤ x ∧ x < w1 w) (e : n = x * w0 w + y * w1 w) : (0 ≤ n ∧ made w n.toNat) ↔ 0 ≤ y := by
  constructor
  · rintro ⟨h0, hm⟩
    obtain ⟨p, q, hpq⟩ := (two_made h2 _).1 hm
    have hpq' : n = (p : Int) * w0 w + (q : Int) * w1 w := by
      rw [← Int.natCast_mul, ← Int.natCast_mul, ← Int.natCast_add, ← hpq]; omega
    have d := Nat.mod_add_div p (w1 w)
    have d2 : (p : Int) = ((p % w1 w : Nat) : Int) + (w1 w : Int) * ((p / w1 w : Nat) : Int) := by rw [← Int.natCast_mul, ← Int.natCast_add, d]
    have hml := Nat.mod_lt p (show w1 w > 0 by omega)
    have e3 : n = ((p % w1 w : Nat) : Int) * w0 w + ((q : Int) + ((p / w1 w : Nat) : Int) * w0 w) * w1 w := by
      rw [hpq', Int.add_mul]
      conv => lhs; rw [d2]
      rw [Int.add_mul]
      have : (w1 w : Int) * ((p / w1 w : Nat) : Int) * (w0 w : Int) = ((p / w1 w : Nat) : Int) * (w0 w : Int) * (w1 w : Int) := by
        rw [Int.mul_comm (w1 w : Int), Int.mul_assoc, Int.mul_assoc, Int.mul_comm (w1 w : Int)]
      omega
    have hxx := rep_unique (by omega) hg (e.symm.trans e3) hx ⟨by omega, by omega⟩
    rw [hxx] at e
    have h5 : y * (w1 w : Int) = ((q : Int) + ((p / w1 w : Nat) : Int) * w0 w) * w1 w := by omega
    have h6 := Int.eq_of_mul_eq_mul_right (by omega) h5
    have h7 : 0 ≤ ((p / w1 w : Nat) : Int) * (w0 w : Int) := Int.mul_nonneg (Int.natCast_nonneg _) (Int.natCast_nonneg _)
    omega
  · intro hy
    have p1 : 0 ≤ x * (w0 w : Int) := Int.mul_nonneg hx.1 (by omega)
    have p2 : 0 ≤ y * (w1 w : Int) := Int.mul_nonneg hy (by omega)
    refine ⟨by omega, (two_made h2 _).2 ⟨x.toNat, y.toNat, ?_⟩⟩
    have : ((x.toNat * w0 w + y.toNat * w1 w : Nat) : Int) = n := by
      rw [Int.natCast_add, Int.natCast_mul, Int.natCast_mul, Int.toNat_of_nonneg hx.1, Int.toNat_of_nonneg hy, e]
    omega
/-- Just one of two that make the greatest gap together. -/
theorem even {w : List Int} (ok : Ok w) (h2 : w.length = 2) (h1 : mg w w.length = 1) (n : Int) :
    (0 ≤ n ∧ made w n.toNat) ↔ ¬ (0 ≤ (w0 w : Int) * w1 w - w0 w - w1 w - n ∧ made w ((w0 w : Int) * w1 w - w0 w - w1 w - n).toNat) := by
  have ha := (w0_range ok).1
  have hb : 1 ≤ w1 w := by
    have := (ok.2 1 (by omega)).1
    have e : rd w ((1 : Nat) : Int) = rd w 1 := rfl
    rw [e] at this
    unfold w1; omega
  rw [two_gcd h2] at h1
  obtain ⟨x, y, x0, x1, e⟩ := rep hb h1 n
  rw [made_rep h2 hb ha h1 ⟨x0, x1⟩ e]
  have e2 : (w0 w : Int) * w1 w - w0 w - w1 w - n = ((w1 w : Int) - 1 - x) * w0 w + (-1 - y) * w1 w := by
    rw [e, Int.sub_mul, Int.sub_mul, Int.sub_mul, Int.mul_comm (w1 w : Int) (w0 w : Int)]
    omega
  rw [made_rep h2 hb ha h1 ⟨by omega, by omega⟩ e2]
  omega
theorem gt_two {w : List Int} (ok : Ok w) (h2 : w.length = 2) (h1 : mg w w.length = 1) : Gt w ((w0 w : Int) * w1 w - w0 w - w1 w) := by
  have ha := (w0_range ok).1
  have hb : 1 ≤ w1 w := by
    have := (ok.2 1 (by omega)).1
    have e : rd w ((1 : Nat) : Int) = rd w 1 := rfl
    rw [e] at this
    unfold w1; omega
  refine ⟨?_, fun n hn => ?_, fun h0 hm => ?_⟩
  · have : (w0 w : Int) * w1 w - w0 w - w1 w + 1 = ((w0 w : Int) - 1) * ((w1 w : Int) - 1) := by
      rw [Int.sub_mul, Int.mul_sub, Int.mul_one, Int.one_mul]; omega
    have : 0 ≤ ((w0 w : Int) - 1) * ((w1 w : Int) - 1) := Int.mul_nonneg (by omega) (by omega)
    omega
  · have := (even ok h2 h1 (n : Int)).2 (fun q => by omega)
    rw [Int.toNat_natCast] at this
    exact this.2
  · have := (even ok h2 h1 ((w0 w : Int) * w1 w - w0 w - w1 w)).1 ⟨h0, hm⟩
    apply this
    refine ⟨by omega, ?_⟩
    rw [Int.sub_self]
    exact made_zero w
/-- Half of the numbers, when each or its counterpart is one of them. -/
theorem half {p : Int → Bool} {F : Nat} (h : ∀ n : Nat, n ≤ F → p n = !p ((F : Int) - n)) : 2 * (charge_where.fl p (F + 1)).length = F + 1 := by
  have h1 : charge_where.fl p (F + 1) = ((List.range (F + 1)).map (fun (j : Nat) => (j : Int))).filter p := rfl
  have hc : ∀ l : List Int, (l.filter p).length + (l.filter (fun x => !p x)).length = l.length := by
    intro l
    induction l with
    | nil => rfl
    | cons x l ih =>
      rw [List.filter_cons, List.filter_cons]
      cases hx : p x <;> simp <;> omega
  have h2 := hc ((List.range (F + 1)).map (fun (j : Nat) => (j : Int)))
  have h3 : (((List.range (F + 1)).map (fun (j : Nat) => (j : Int))).filter (fun x => !p x)).length = (((List.range (F + 1)).map (fun (j : Nat) => (j : Int))).filter p).length := by
    have hrev : ((List.range (F + 1)).map (fun (j : Nat) => (j : Int))).reverse = ((List.range (F + 1)).map (fun (j : Nat) => (j : Int))).map (fun x => (F : Int) - x) := by
      refine List.ext_getElem (by simp) (fun i q1 q2 => ?_)
      simp at q1
      rw [List.getElem_reverse]
      simp
      omega
    rw [← List.length_reverse, ← List.filter_reverse, hrev, List.filter_map, List.length_map]
    congr 1
    refine List.filter_congr (fun x hx => ?_)
    obtain ⟨j, hj, rfl⟩ := List.mem_map.1 hx
    have := h j (by have := List.mem_range.1 hj; omega)
    show (!p ((F : Int) - (j : Int))) = p (j : Int)
    rw [this]
  rw [h1]
  simp only [List.length_map, List.length_range] at h2
  omega
end Go.Proofs.Ytgndhijhcliegaa.Tw
