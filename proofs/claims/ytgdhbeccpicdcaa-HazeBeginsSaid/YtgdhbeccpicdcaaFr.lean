/- Fractions: what the program's and the reference's shortening come to. -/
import Derived.Test.YtgdhbeccpicdcaaEv
import Derived.Test.YtgdhbeccpicdcaaPx5
import Derived.Test.YtgdhbeccpicdcaaPx14
set_option linter.unusedVariables false
namespace Go.Proofs.Ytgdhbeccpicdcaa.Fr
open Go.RowKit Go.Proofs.Ytgdhbeccpicdcaa.P Go.Proofs.Ytgdhbeccpicdcaa.E Go.Proofs.YtgdhbeccpicdcaaW.PrintMore
open Go.Proofs.YtgdhbeccpicdcaaW.PrintWords

theorem ratio_loop (x0 x1 : Int) (n : Nat) : ∀ m : Nat, m < 4611686018427387904 → n < 4611686018427387904 → 0 < m + n →
    Tl (fun k => haze_ratio.l0 k x0 x1 (m : Int) (n : Int)) (wrap64 (Int.tdiv x0 (Nat.gcd m n : Nat)), wrap64 (Int.tdiv x1 (Nat.gcd m n : Nat))) := by
  induction n using Nat.strongRecOn with
  | _ n ih =>
    intro m hm hn' h0
    refine Tl.succ ?_
    simp only [haze_ratio.l0]
    by_cases hn : n = 0
    · subst hn
      refine Tl.pos (by simp) ?_
      have e1 : wrap64 (-(m : Int)) = -(m : Int) := w64 (by omega) (by omega)
      have e2 : mx (m : Int) (-(m : Int)) = m := by rw [mx_eq]; omega
      rw [e1, e2, Nat.gcd_zero_right]
      exact Tl.neg (by omega) Tl.now
    · refine Tl.neg (by omega) ?_
      rw [← Int.ofNat_tmod, Nat.gcd_comm, Nat.gcd_rec, Nat.gcd_comm]
      have := Nat.mod_lt m (show 0 < n by omega)
      exact ih (m % n) this n hn' (by omega) (by omega)

theorem Ratio_loop (x0 x1 : Int) (n : Nat) : ∀ m : Nat, 0 < m + n →
    Tl (fun k => diaphoneref02_Ratio.l0 k x0 x1 (m : Int) (n : Int)) (wrap64 (Int.tdiv x0 (Nat.gcd m n : Nat)), wrap64 (Int.tdiv x1 (Nat.gcd m n : Nat))) := by
  induction n using Nat.strongRecOn with
  | _ n ih =>
    intro m h0
    refine Tl.succ ?_
    simp only [diaphoneref02_Ratio.l0]
    by_cases hn : n = 0
    · subst hn
      refine Tl.pos (by simp) ?_
      rw [Nat.gcd_zero_right]
      exact Tl.neg (by omega) Tl.now
    · refine Tl.neg (by omega) ?_
      rw [← Int.ofNat_tmod, Nat.gcd_comm, Nat.gcd_rec, Nat.gcd_comm]
      have := Nat.mod_lt m (show 0 < n by omega)
      exact ih (m % n) this n (by omega)

/-- A fraction in lowest terms. -/
def Rt (n d : Int) : Int × Int := (n / (Int.gcd n d : Nat), d / (Int.gcd n d : Nat))

theorem gcd_pos' {n d : Int} (hd : 0 < d) : 0 < (Int.gcd n d : Int) := by
  have : 0 < Int.gcd n d := Int.gcd_pos_of_ne_zero_right n (by omega)
  omega
theorem Rt_mul {n d : Int} (hd : 0 < d) : (Rt n d).1 * (Int.gcd n d : Nat) = n ∧ (Rt n d).2 * (Int.gcd n d : Nat) = d :=
  ⟨Int.ediv_mul_cancel (Int.gcd_dvd_left ..), Int.ediv_mul_cancel (Int.gcd_dvd_right ..)⟩
theorem Rt_pos {n d : Int} (hd : 0 < d) : 0 < (Rt n d).2 := by
  have h := (Rt_mul (n := n) hd).2
  have g := gcd_pos' (n := n) hd
  by_cases h1 : 0 < (Rt n d).2
  · exact h1
  · have := Int.mul_nonpos_of_nonpos_of_nonneg (show (Rt n d).2 ≤ 0 by omega) (Int.le_of_lt g)
    omega
theorem Rt_cross {n d : Int} (hd : 0 < d) : (Rt n d).1 * d = n * (Rt n d).2 := by
  obtain ⟨h1, h2⟩ := Rt_mul (n := n) hd
  conv => lhs; rw [← h2]
  conv => rhs; rw [← h1]
  grind
theorem Rt_le {n d : Int} (hd : 0 < d) : (Rt n d).2 ≤ d := by
  have h2 := (Rt_mul (n := n) hd).2
  have g := gcd_pos' (n := n) hd
  have := Rt_pos (n := n) hd
  have h3 := Int.mul_le_mul_of_nonneg_left (show (1 : Int) ≤ (Int.gcd n d : Nat) by omega) (show 0 ≤ (Rt n d).2 by omega)
  rw [h2] at h3
  omega
theorem Rt_nonneg {n d : Int} (hn : 0 ≤ n) (hd : 0 < d) : 0 ≤ (Rt n d).1 := Int.ediv_nonneg hn (Int.le_of_lt (gcd_pos' hd))
theorem Rt_num_le {n d : Int} (hn : 0 ≤ n) (hd : 0 < d) : (Rt n d).1 ≤ n := Int.ediv_le_self _ hn
/-- Equal fractions have equal lowest terms. -/
theorem Rt_eq {n d n' d' : Int} (hd : 0 < d) (hd' : 0 < d') (h : n * d' = n' * d) : Rt n d = Rt n' d' := by
  have key : ∀ {n d n' d' : Int}, 0 < d → 0 < d' → n * d' = n' * d → (Int.gcd n d : Int) * d' = (Int.gcd n' d' : Int) * d := by
    intro n d n' d' hd hd' h
    have a1 : Int.gcd (n * d') (d * d') = Int.gcd n d * d'.natAbs := Int.gcd_mul_right ..
    have a2 : Int.gcd (n' * d) (d' * d) = Int.gcd n' d' * d.natAbs := Int.gcd_mul_right ..
    rw [h, Int.mul_comm d d', a2] at a1
    have b1 : (d'.natAbs : Int) = d' := by omega
    have b2 : (d.natAbs : Int) = d := by omega
    rw [← b1, ← b2]
    have := congrArg (fun x : Nat => (x : Int)) a1
    simp only [Int.natCast_mul] at this
    rw [b1, b2] at this ⊢
    omega
  have hk := key hd hd' h
  obtain ⟨h1, h2⟩ := Rt_mul (n := n) hd
  obtain ⟨h3, h4⟩ := Rt_mul (n := n') hd'
  have g := gcd_pos' (n := n) hd
  have g' := gcd_pos' (n := n') hd'
  have e2 : (Rt n d).2 = (Rt n' d').2 := by
    -- d = D g, d' = D' g', g * d' = g' * d
    have : ((Rt n d).2 * ((Int.gcd n d : Nat) * (Int.gcd n' d' : Nat) : Int)) = ((Rt n' d').2 * ((Int.gcd n d : Nat) * (Int.gcd n' d' : Nat) : Int)) := by grind
    exact Int.eq_of_mul_eq_mul_right (Int.ne_of_gt (Int.mul_pos g g')) this
  have e1 : (Rt n d).1 = (Rt n' d').1 := by
    have c1 := Rt_cross (n := n) hd
    have c2 := Rt_cross (n := n') hd'
    have p := Rt_pos (n := n) hd
    have : (Rt n d).1 * (d * d') = (Rt n' d').1 * (d * d') := by
      have : (Rt n d).1 * (d * d') = (n * d') * (Rt n d).2 := by grind
      have : (Rt n' d').1 * (d * d') = (n' * d) * (Rt n' d').2 := by grind
      grind
    exact Int.eq_of_mul_eq_mul_right (Int.ne_of_gt (Int.mul_pos hd hd')) this
  exact Prod.ext e1 e2

theorem tdiv_gcd_left (n d : Int) (hd : 0 < d) : Int.tdiv n (Int.gcd n d : Nat) = (Rt n d).1 := by
  rw [Int.tdiv_eq_ediv_of_dvd (Int.gcd_dvd_left ..)]; rfl
theorem tdiv_gcd_right (n d : Int) (hd : 0 < d) : Int.tdiv d (Int.gcd n d : Nat) = (Rt n d).2 := by
  rw [Int.tdiv_eq_ediv_of_dvd (Int.gcd_dvd_right ..)]; rfl

theorem ev_ratio {n d : Int} (h0 : 0 ≤ n) (h1 : n < 4611686018427387904) (hd : 0 < d) (hd1 : d < 4611686018427387904) : Tl (fun k => haze_ratio.f k n d) (Rt n d) := by
  unfold haze_ratio.f
  have := ratio_loop n d d.toNat n.toNat (by omega) (by omega) (by omega)
  rw [show ((n.toNat : Nat) : Int) = n by omega, show ((d.toNat : Nat) : Int) = d by omega] at this
  refine this.to ?_
  have e : Nat.gcd n.toNat d.toNat = Int.gcd n d := by
    unfold Int.gcd
    congr 1 <;> omega
  rw [e, tdiv_gcd_left n d hd, tdiv_gcd_right n d hd]
  have b1 := Rt_pos (n := n) hd
  have b2 := Rt_le (n := n) hd
  have b3 := Rt_nonneg h0 hd
  have b4 := Rt_num_le h0 hd
  rw [w64 (by omega) (by omega), w64 (by omega) (by omega)]

theorem ev_Ratio {n d : Int} (h0 : -4611686018427387904 < n) (h1 : n < 4611686018427387904) (hd : 0 < d) (hd1 : d < 4611686018427387904) : Tl (fun k => diaphoneref02_Ratio.f k n d) (Rt n d) := by
  unfold diaphoneref02_Ratio.f
  have e1 : mx n (wrap64 (-n)) = (n.natAbs : Int) := by rw [w64 (by omega) (by omega), mx_eq]; omega
  rw [e1]
  have := Ratio_loop n d d.toNat n.natAbs (by omega)
  rw [show ((d.toNat : Nat) : Int) = d by omega] at this
  refine this.to ?_
  have e : Nat.gcd n.natAbs d.toNat = Int.gcd n d := by
    unfold Int.gcd
    congr 1; omega
  rw [e, tdiv_gcd_left n d hd, tdiv_gcd_right n d hd]
  have b1 := Rt_pos (n := n) hd
  have b2 := Rt_le (n := n) hd
  have b3 := (Rt_mul (n := n) hd).1
  have g := gcd_pos' (n := n) hd
  have b4 : -4611686018427387904 < (Rt n d).1 ∧ (Rt n d).1 < 4611686018427387904 := by
    by_cases hn : n < 0
    · have : (Rt n d).1 < 0 := Int.ediv_neg_of_neg_of_pos hn g
      have c := Int.mul_le_mul_of_nonpos_left (show (Rt n d).1 ≤ 0 by omega) (show (1 : Int) ≤ (Int.gcd n d : Nat) by omega)
      omega
    · have := Rt_nonneg (show 0 ≤ n by omega) hd
      have := Rt_num_le (show 0 ≤ n by omega) hd
      omega
  rw [w64 (by omega) (by omega), w64 (by omega) (by omega)]
end Go.Proofs.Ytgdhbeccpicdcaa.Fr
