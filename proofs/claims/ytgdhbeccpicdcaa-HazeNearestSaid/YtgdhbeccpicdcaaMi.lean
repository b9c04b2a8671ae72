/- The misfit of the best row: what the program and the document calculate is the same sum of the blocks. -/
import Derived.Test.YtgdhbeccpicdcaaRl
import Derived.Test.YtgdhbeccpicdcaaPx25
import Derived.Test.YtgdhbeccpicdcaaPx24
set_option linter.unusedVariables false
namespace Go.Proofs.Ytgdhbeccpicdcaa.Mi
open Go.RowKit Go.Proofs.Ytgdhbeccpicdcaa.P Go.Proofs.Ytgdhbeccpicdcaa.E Go.Proofs.Ytgdhbeccpicdcaa.Fr Go.Proofs.Ytgdhbeccpicdcaa.Sd Go.Proofs.Ytgdhbeccpicdcaa.Bl Go.Proofs.Ytgdhbeccpicdcaa.Va Go.Proofs.Ytgdhbeccpicdcaa.Be Go.Proofs.Ytgdhbeccpicdcaa.Rl Go.Proofs.YtgdhbeccpicdcaaW.PrintMore
open Go.Proofs.YtgdhbeccpicdcaaW.PrintWords
theorem mulb {a b A B : Int} (h1 : 0 ≤ a) (h2 : a ≤ A) (h3 : 0 ≤ b) (h4 : b ≤ B) : 0 ≤ a * b ∧ a * b ≤ A * B :=
  ⟨Int.mul_nonneg h1 h3, Int.mul_le_mul h2 h4 h3 (by omega)⟩
/-- The sums of weight times the square of the value. -/
def sq (h : List S31) : Nat → Int
  | 0 => 0
  | n + 1 => sq h n + (rd_T31 h (n : Int)).f1 * (rd_T31 h (n : Int)).f0 * (rd_T31 h (n : Int)).f0
theorem sq_bd {h : List S31} (ok : Ok h) {a b : Nat} (hab : a ≤ b) (hb : b ≤ h.length) : 0 ≤ sq h b - sq h a ∧ sq h b - sq h a ≤ 90000 * ((b : Int) - a) := by
  induction b with
  | zero => obtain rfl : a = 0 := by omega
            simp
  | succ b ih =>
    rcases Nat.lt_or_ge a (b + 1) with h1 | h1
    · have i := ih (by omega) (by omega)
      have r := ok.2.2 b (by omega)
      simp only [rok] at r
      have m1 := mulb (a := (rd_T31 h (b : Int)).f1) (A := 9) (by omega) (by omega) (b := (rd_T31 h (b : Int)).f0) (B := 100) (by omega) (by omega)
      have m2 := mulb m1.1 m1.2 (b := (rd_T31 h (b : Int)).f0) (B := 100) (by omega) (by omega)
      simp only [sq]
      omega
    · obtain rfl : a = b + 1 := by omega
      simp
theorem dev {h : List S31} (ok : Ok h) (r : Int) {a b : Nat} (hab : a ≤ b) (hb : b ≤ h.length) : 0 ≤ (sq h b - sq h a) - 2 * r * (sv h b - sv h a) + r * r * (sw h b - sw h a) := by
  induction b with
  | zero => obtain rfl : a = 0 := by omega
            simp
  | succ b ih =>
    rcases Nat.lt_or_ge a (b + 1) with h1 | h1
    · have i := ih (by omega) (by omega)
      have q := ok.2.2 b (by omega)
      simp only [rok] at q
      have m1 : 0 ≤ ((rd_T31 h (b : Int)).f0 - r) * ((rd_T31 h (b : Int)).f0 - r) := by
        rcases Int.le_total 0 ((rd_T31 h (b : Int)).f0 - r) with z | z
        · exact Int.mul_nonneg z z
        · exact Int.mul_nonneg_of_nonpos_of_nonpos z z
      have m2 := Int.mul_nonneg (show 0 ≤ (rd_T31 h (b : Int)).f1 by omega) m1
      simp only [sq, sv, sw]
      grind
    · obtain rfl : a = b + 1 := by omega
      simp
theorem cs {h : List S31} (ok : Ok h) {a b : Nat} (hab : a ≤ b) (hb : b ≤ h.length) : (sv h b - sv h a) * (sv h b - sv h a) ≤ (sq h b - sq h a) * (sw h b - sw h a) := by
  induction b with
  | zero => obtain rfl : a = 0 := by omega
            simp
  | succ b ih =>
    rcases Nat.lt_or_ge a (b + 1) with h1 | h1
    · have i := ih (by omega) (by omega)
      have q := ok.2.2 b (by omega)
      simp only [rok] at q
      have m1 := dev ok (rd_T31 h (b : Int)).f0 (show a ≤ b by omega) (show b ≤ h.length by omega)
      have m2 := Int.mul_nonneg (show 0 ≤ (rd_T31 h (b : Int)).f1 by omega) m1
      simp only [sq, sv, sw]
      grind
    · obtain rfl : a = b + 1 := by omega
      simp
theorem nine (k : Nat) (hk : 1 ≤ k) : 9 * (k : Int) ≤ (9 : Int) ^ k := by
  induction k with
  | zero => omega
  | succ k ih =>
    rcases Nat.lt_or_ge 0 k with h1 | h1
    · have := ih h1
      rw [Int.pow_succ]
      omega
    · obtain rfl : k = 0 := by omega
      decide
theorem nine_mono {a b : Nat} (h : a ≤ b) : (9 : Int) ^ a ≤ (9 : Int) ^ b := by
  induction b with
  | zero => obtain rfl : a = 0 := by omega
            exact Int.le_refl _
  | succ b ih =>
    rcases Nat.lt_or_ge a (b + 1) with h1 | h1
    · have := ih (by omega)
      have p : (0 : Int) < 9 ^ b := Int.pow_pos (by decide)
      rw [Int.pow_succ]
      omega
    · obtain rfl : a = b + 1 := by omega
      exact Int.le_refl _
/-- What a block adds. -/
def mb (h : List S31) (b : Nat × Nat) : Int × Int := Rt ((sq h b.2 - sq h b.1) * (sw h b.2 - sw h b.1) - (sv h b.2 - sv h b.1) * (sv h b.2 - sv h b.1)) (sw h b.2 - sw h b.1)
def st (h : List S31) (x : Int × Int) (b : Nat × Nat) : Int × Int := Rt (x.1 * (mb h b).2 + (mb h b).1 * x.2) (x.2 * (mb h b).2)
def mis (h : List S31) (l : List (Nat × Nat)) : Int × Int := l.foldl (st h) (0, 1)
theorem mis_snoc (h : List S31) (l : List (Nat × Nat)) (b : Nat × Nat) : mis h (l ++ [b]) = st h (mis h l) b := by simp [mis]
def Inv (h : List S31) (a : Nat) (x : Int × Int) : Prop := 0 < x.2 ∧ x.2 ≤ 9 ^ a ∧ 0 ≤ x.1 ∧ x.1 ≤ sq h a * x.2
/-- All that is calculated for a block is small. -/
theorem small {h : List S31} (ok : Ok h) {a e : Nat} (hae : a < e) (he : e ≤ h.length) {x : Int × Int} (k : Inv h a x) :
    (0 ≤ (sq h e - sq h a) * (sw h e - sw h a) ∧ (sq h e - sq h a) * (sw h e - sw h a) ≤ 116640000) ∧ (0 ≤ (sv h e - sv h a) * (sv h e - sv h a) ∧ (sv h e - sv h a) * (sv h e - sv h a) ≤ 116640000) ∧
    0 ≤ (sq h e - sq h a) * (sw h e - sw h a) - (sv h e - sv h a) * (sv h e - sv h a) ∧
    (0 ≤ x.1 * (mb h (a, e)).2 ∧ x.1 * (mb h (a, e)).2 ≤ 400000000000000000) ∧ (0 ≤ (mb h (a, e)).1 * x.2 ∧ (mb h (a, e)).1 * x.2 ≤ 400000000000000000) ∧
    (0 < x.2 * (mb h (a, e)).2 ∧ x.2 * (mb h (a, e)).2 ≤ 282429536481) ∧ Inv h e (st h x (a, e)) := by
  have s := ok.small hae he
  have sb := ok.bd (Nat.le_of_lt hae) he
  have hlen := ok.2.1
  have q := sq_bd ok (Nat.le_of_lt hae) he
  have q0 := sq_bd ok (Nat.zero_le a) (show a ≤ h.length by omega)
  have qe := sq_bd ok (Nat.zero_le e) he
  have es : sq h 0 = 0 := rfl
  rw [es] at q0 qe
  have c := cs ok (Nat.le_of_lt hae) he
  obtain ⟨k1, k2, k3, k4⟩ := k
  have m1 := mulb (a := sq h e - sq h a) (A := 1080000) (by omega) (by omega) (b := sw h e - sw h a) (B := 108) (by omega) (by omega)
  have m2 := mulb (a := sv h e - sv h a) (A := 10800) (by omega) (by omega) (b := sv h e - sv h a) (B := 10800) (by omega) (by omega)
  have p1 := Rt_pos (n := (sq h e - sq h a) * (sw h e - sw h a) - (sv h e - sv h a) * (sv h e - sv h a)) s.1
  have p2 := Rt_le (n := (sq h e - sq h a) * (sw h e - sw h a) - (sv h e - sv h a) * (sv h e - sv h a)) s.1
  have p3 := Rt_nonneg (n := (sq h e - sq h a) * (sw h e - sw h a) - (sv h e - sv h a) * (sv h e - sv h a)) (by omega) s.1
  have p4 := Rt_cross (n := (sq h e - sq h a) * (sw h e - sw h a) - (sv h e - sv h a) * (sv h e - sv h a)) s.1
  have em : Rt ((sq h e - sq h a) * (sw h e - sw h a) - (sv h e - sv h a) * (sv h e - sv h a)) (sw h e - sw h a) = mb h (a, e) := rfl
  rw [em] at p1 p2 p3 p4
  have hn : (mb h (a, e)).2 ≤ 9 ^ (e - a) := by
    have := nine (e - a) (by omega)
    omega
  -- the numerator is at most the sum of the squares times the denominator
  have hnum : (mb h (a, e)).1 ≤ (sq h e - sq h a) * (mb h (a, e)).2 := by
    have z := Int.mul_nonneg m2.1 (Int.le_of_lt p1)
    have : (mb h (a, e)).1 * (sw h e - sw h a) ≤ ((sq h e - sq h a) * (mb h (a, e)).2) * (sw h e - sw h a) := by
      rw [p4]
      grind
    exact Int.le_of_mul_le_mul_right this s.1
  have d0 : 0 < x.2 * (mb h (a, e)).2 := Int.mul_pos k1 p1
  have d1 : x.2 * (mb h (a, e)).2 ≤ 9 ^ e := by
    have := (mulb (Int.le_of_lt k1) k2 (Int.le_of_lt p1) hn).2
    rw [← Int.pow_add, show a + (e - a) = e by omega] at this
    exact this
  have d2 : x.2 * (mb h (a, e)).2 ≤ 282429536481 := by
    have := nine_mono (show e ≤ 12 by omega)
    have e12 : (9 : Int) ^ 12 = 282429536481 := by decide
    omega
  have n1 : x.1 * (mb h (a, e)).2 ≤ sq h a * (x.2 * (mb h (a, e)).2) := by
    have := Int.mul_le_mul_of_nonneg_right k4 (Int.le_of_lt p1)
    rw [Int.mul_assoc] at this
    exact this
  have n2 : (mb h (a, e)).1 * x.2 ≤ (sq h e - sq h a) * (x.2 * (mb h (a, e)).2) := by
    have := Int.mul_le_mul_of_nonneg_right hnum (Int.le_of_lt k1)
    grind
  have n3 := Int.mul_nonneg k3 (Int.le_of_lt p1)
  have n4 := Int.mul_nonneg p3 (Int.le_of_lt k1)
  have b1 := mulb (a := sq h a) (A := 1080000) (by omega) (by omega) (Int.le_of_lt d0) d2
  have b2 := mulb (a := sq h e - sq h a) (A := 1080000) (by omega) (by omega) (Int.le_of_lt d0) d2
  refine ⟨by omega, by omega, by omega, by omega, by omega, by omega, ?_⟩
  have N0 : 0 ≤ x.1 * (mb h (a, e)).2 + (mb h (a, e)).1 * x.2 := by omega
  refine ⟨Rt_pos d0, by have := Rt_le (n := x.1 * (mb h (a, e)).2 + (mb h (a, e)).1 * x.2) d0; exact Int.le_trans this d1, Rt_nonneg N0 d0, ?_⟩
  have hc := Rt_cross (n := x.1 * (mb h (a, e)).2 + (mb h (a, e)).1 * x.2) d0
  have hp := Rt_pos (n := x.1 * (mb h (a, e)).2 + (mb h (a, e)).1 * x.2) d0
  have hst : st h x (a, e) = Rt (x.1 * (mb h (a, e)).2 + (mb h (a, e)).1 * x.2) (x.2 * (mb h (a, e)).2) := rfl
  rw [← hst] at hc hp
  have hN : x.1 * (mb h (a, e)).2 + (mb h (a, e)).1 * x.2 ≤ sq h e * (x.2 * (mb h (a, e)).2) := by
    have : sq h e * (x.2 * (mb h (a, e)).2) = sq h a * (x.2 * (mb h (a, e)).2) + (sq h e - sq h a) * (x.2 * (mb h (a, e)).2) := by grind
    omega
  have hN2 := Int.mul_le_mul_of_nonneg_right hN (Int.le_of_lt hp)
  have : (st h x (a, e)).1 * (x.2 * (mb h (a, e)).2) ≤ (sq h e * (st h x (a, e)).2) * (x.2 * (mb h (a, e)).2) := by
    rw [hc]
    grind
  exact Int.le_of_mul_le_mul_right this d0
theorem p_in {h : List S31} (ok : Ok h) {a e : Nat} (hae : a < e) (he : e ≤ h.length) {B : List S75} {z : Int} {n i : Int} {x : Int × Int} {f0 f1 W V : Int} {r : Int × Int × Int} (d : Nat) : ∀ j : Nat, j ≤ e - a → e - a - j = d →
    Tl (fun k => haze_Misfit.l1 k h (sq h e - sq h a) B n i ((h.take e).drop a) ((e - a : Nat) : Int) ((e - a : Nat) : Int) x.1 x.2 f0 f1 W V) r →
    Tl (fun k => haze_Misfit.l1 k h (sq h (a + j) - sq h a) B n i ((h.take e).drop a) ((e - a : Nat) : Int) (j : Int) x.1 x.2 f0 f1 W V) r := by
  have hlen := ok.2.1
  induction d with
  | zero =>
    intro j h1 h2 H
    obtain rfl : j = e - a := by omega
    rw [show a + (e - a) = e by omega]
    exact H
  | succ d ih =>
    intro j h1 h2 H
    have next := ih (j + 1) (by omega) (by omega) H
    have r1 := ok.2.2 (a + j) (by omega)
    simp only [rok] at r1
    have m1 := mulb (a := (rd_T31 h ((a + j : Nat) : Int)).f1) (A := 9) (by omega) (by omega) (b := (rd_T31 h ((a + j : Nat) : Int)).f0) (B := 100) (by omega) (by omega)
    have m2 := mulb m1.1 m1.2 (b := (rd_T31 h ((a + j : Nat) : Int)).f0) (B := 100) (by omega) (by omega)
    have q := sq_bd ok (show a ≤ a + j by omega) (show a + j ≤ h.length by omega)
    have er : rd_T31 ((h.take e).drop a) (j : Int) = rd_T31 h ((a + j : Nat) : Int) := by
      rw [rd31 (by simp; omega), rd31 (by omega)]
      simp
    rw [show ((j + 1 : Nat) : Int) = (j : Int) + 1 by omega, show a + (j + 1) = (a + j) + 1 by omega] at next
    simp only [sq] at next
    refine Tl.succ ?_
    simp only [haze_Misfit.l1]
    rw [er, w64 (x := (rd_T31 h ((a + j : Nat) : Int)).f1 * (rd_T31 h ((a + j : Nat) : Int)).f0) (by omega) (by omega),
      w64 (x := (rd_T31 h ((a + j : Nat) : Int)).f1 * (rd_T31 h ((a + j : Nat) : Int)).f0 * (rd_T31 h ((a + j : Nat) : Int)).f0) (by omega) (by omega), w64 (by omega) (by omega), w64 (x := (j : Int) + 1) (by omega) (by omega)]
    refine Tl.pos (by omega) (Tl.pos (by omega) (Tl.pos (by simp; omega) ?_))
    rw [show sq h (a + j) - sq h a + (rd_T31 h ((a + j : Nat) : Int)).f1 * (rd_T31 h ((a + j : Nat) : Int)).f0 * (rd_T31 h ((a + j : Nat) : Int)).f0 = sq h (a + j) + (rd_T31 h ((a + j : Nat) : Int)).f1 * (rd_T31 h ((a + j : Nat) : Int)).f0 * (rd_T31 h ((a + j : Nat) : Int)).f0 - sq h a by omega]
    exact next
theorem p_ch {h : List S31} (ok : Ok h) {l : List (Nat × Nat)} {a : Nat} (hc : Ch (sv h) (sw h) l a) (ha : a ≤ h.length) : Inv h a (mis h l) ∧ ∀ (rest full : List (Nat × Nat)), full = l ++ rest → full.length ≤ 100 → ∀ r : Int × Int × Int,
    Tl (fun k => haze_Misfit.l0 k h (full.map (bk h)) (full.length : Int) (l.length : Int) (mis h l).1 (mis h l).2) r → Tl (fun k => haze_Misfit.l0 k h (full.map (bk h)) (full.length : Int) 0 0 1) r := by
  induction hc with
  | nil => exact ⟨⟨(by decide : (0 : Int) < 1), (by decide : (1 : Int) ≤ 9 ^ 0), (by decide : (0 : Int) ≤ 0), (by simp [mis, sq] : (mis h []).1 ≤ sq h 0 * (mis h []).2)⟩, fun rest full _ _ r H => H⟩
  | @snoc l a e hc hb hf ih =>
    have hae := hb.1
    have hlen := ok.2.1
    obtain ⟨inv, go⟩ := ih (by omega)
    obtain ⟨s1, s2, s3, s4, s5, s6, s7⟩ := small ok hae ha inv
    have s := ok.small hae ha
    rw [mis_snoc]
    refine ⟨s7, fun rest full hfull hlf r H => ?_⟩
    refine go ((a, e) :: rest) full (by rw [hfull]; simp) hlf r ?_
    have hll : l.length < full.length := by rw [hfull]; simp <;> omega
    have hget : rd_T75 (full.map (bk h)) (l.length : Int) = bk h (a, e) := by
      rw [rd75 (by simpa using hll), List.getElem_map]
      congr 1
      simp [hfull]
    refine Tl.succ ?_
    simp only [haze_Misfit.l0]
    rw [hget]
    have e1 : wrap64 ((bk h (a, e)).f1 + 1) = (e : Int) := by
      simp only [bk]
      rw [w64 (by omega) (by omega)]; omega
    rw [e1]
    refine Tl.pos (by omega) (Tl.pos (by omega) (Tl.pos (by simp; omega) (Tl.pos (by simp only [bk]; omega) (Tl.pos (by simp only [bk]; omega) (Tl.pos (by omega) ?_)))))
    simp only [Option.bind_some, Int.toNat_natCast]
    have eb : ((bk h (a, e)).f0).toNat = a := by simp [bk]
    rw [eb]
    have el : (((h.take e).drop a).length : Int) = ((e - a : Nat) : Int) := by simp; omega
    rw [el]
    have key := p_in ok hae ha (B := full.map (bk h)) (n := (full.length : Int)) (i := (l.length : Int)) (x := mis h l) (f0 := (bk h (a, e)).f0) (f1 := (bk h (a, e)).f1) (W := (bk h (a, e)).f2) (V := (bk h (a, e)).f3) (z := 0) (r := r) (e - a) 0 (by omega) (by omega)
    simp only [Nat.add_zero, Int.sub_self] at key
    refine key (Tl.succ ?_)
    simp only [haze_Misfit.l1]
    refine Tl.neg (by omega) ?_
    simp only [bk]
    rw [w64 (x := (sq h e - sq h a) * (sw h e - sw h a)) (by omega) (by omega), w64 (x := (sv h e - sv h a) * (sv h e - sv h a)) (by omega) (by omega), w64 (x := (sq h e - sq h a) * (sw h e - sw h a) - (sv h e - sv h a) * (sv h e - sv h a)) (by omega) (by omega)]
    refine Tl.bind (ev_ratio s3 (by omega) s.1 (by omega)) ?_
    have em : Rt ((sq h e - sq h a) * (sw h e - sw h a) - (sv h e - sv h a) * (sv h e - sv h a)) (sw h e - sw h a) = mb h (a, e) := rfl
    rw [em]
    have ea : Tl (fun k => haze_add.f k (mis h l).1 (mis h l).2 (mb h (a, e)).1 (mb h (a, e)).2) (st h (mis h l) (a, e)) := by
      unfold haze_add.f
      rw [w64 (x := (mis h l).1 * (mb h (a, e)).2) (by omega) (by omega), w64 (x := (mb h (a, e)).1 * (mis h l).2) (by omega) (by omega), w64 (x := (mis h l).1 * (mb h (a, e)).2 + (mb h (a, e)).1 * (mis h l).2) (by omega) (by omega), w64 (x := (mis h l).2 * (mb h (a, e)).2) (by omega) (by omega)]
      exact Tl.bind (ev_ratio (by omega) (by omega) (by omega) (by omega)) Tl.now
    refine Tl.bind ea ?_
    rw [w64 (x := (l.length : Int) + 1) (by omega) (by omega)]
    simpa using H
theorem ev_Misfit {h : List S31} (ok : Ok h) {l : List (Nat × Nat)} (hc : Ch (sv h) (sw h) l h.length) (hb : Tl (fun k => haze_blocks.f k h) (l.map (bk h))) : Tl (fun k => haze_Misfit.f k h) ((mis h l).1, (mis h l).2, 0) := by
  have hlen := ok.2.1
  have hll := Ch.len hc
  unfold haze_Misfit.f
  refine Tl.bind (ev_Validate (by omega)) (Tl.pos (vc_ok.2 ok) (Tl.bind (ev_ratio (n := 0) (d := 1) (by decide) (by decide) (by decide) (by decide)) (Tl.bind hb ?_)))
  have e0 : Rt 0 1 = (0, 1) := by decide
  rw [e0, List.length_map]
  refine (p_ch ok hc (by omega)).2 [] l (by simp) (by omega) _ (Tl.succ ?_)
  simp only [haze_Misfit.l0]
  exact Tl.neg (by omega) Tl.now
theorem r_in {h : List S31} (ok : Ok h) {a e : Nat} (hae : a < e) (he : e ≤ h.length) {B : List S59} {i : Int} (hi : 0 ≤ i) (hi2 : i < (B.length : Int)) (hB : (rd_T59 B i).f1 = (e : Int) - 1) {x : Int × Int} {r : Int × Int × Int} (d : Nat) : ∀ j : Nat, a ≤ j → j ≤ e → e - j = d →
    Tl (fun k => diaphoneref02_Misfit.l1 k h B i (sw h e - sw h a) (sv h e - sv h a) (sq h e - sq h a) (e : Int) x.1 x.2) r →
    Tl (fun k => diaphoneref02_Misfit.l1 k h B i (sw h j - sw h a) (sv h j - sv h a) (sq h j - sq h a) (j : Int) x.1 x.2) r := by
  have hlen := ok.2.1
  induction d with
  | zero =>
    intro j h1 h2 h3 H
    obtain rfl : j = e := by omega
    exact H
  | succ d ih =>
    intro j h1 h2 h3 H
    have next := ih (j + 1) (by omega) (by omega) (by omega) H
    have r1 := ok.2.2 j (by omega)
    simp only [rok] at r1
    have m1 := mulb (a := (rd_T31 h (j : Int)).f1) (A := 9) (by omega) (by omega) (b := (rd_T31 h (j : Int)).f0) (B := 100) (by omega) (by omega)
    have m2 := mulb m1.1 m1.2 (b := (rd_T31 h (j : Int)).f0) (B := 100) (by omega) (by omega)
    have q := sq_bd ok h1 (show j ≤ h.length by omega)
    have b := ok.bd h1 (show j ≤ h.length by omega)
    rw [show ((j + 1 : Nat) : Int) = (j : Int) + 1 by omega] at next
    simp only [sq, sv, sw] at next
    refine Tl.succ ?_
    simp only [diaphoneref02_Misfit.l1]
    rw [hB, w64 (x := (rd_T31 h (j : Int)).f1 * (rd_T31 h (j : Int)).f0) (by omega) (by omega), w64 (x := (rd_T31 h (j : Int)).f1 * (rd_T31 h (j : Int)).f0 * (rd_T31 h (j : Int)).f0) (by omega) (by omega),
      w64 (x := (j : Int) + 1) (by omega) (by omega), w64 (x := sw h j - sw h a + (rd_T31 h (j : Int)).f1) (by omega) (by omega), w64 (x := sv h j - sv h a + (rd_T31 h (j : Int)).f1 * (rd_T31 h (j : Int)).f0) (by omega) (by omega),
      w64 (x := sq h j - sq h a + (rd_T31 h (j : Int)).f1 * (rd_T31 h (j : Int)).f0 * (rd_T31 h (j : Int)).f0) (by omega) (by omega)]
    rw [show sw h j - sw h a + (rd_T31 h (j : Int)).f1 = sw h j + (rd_T31 h (j : Int)).f1 - sw h a by omega, show sv h j - sv h a + (rd_T31 h (j : Int)).f1 * (rd_T31 h (j : Int)).f0 = sv h j + (rd_T31 h (j : Int)).f1 * (rd_T31 h (j : Int)).f0 - sv h a by omega,
      show sq h j - sq h a + (rd_T31 h (j : Int)).f1 * (rd_T31 h (j : Int)).f0 * (rd_T31 h (j : Int)).f0 = sq h j + (rd_T31 h (j : Int)).f1 * (rd_T31 h (j : Int)).f0 * (rd_T31 h (j : Int)).f0 - sq h a by omega]
    exact Tl.pos hi (Tl.pos hi2 (Tl.pos (by omega) (Tl.pos (by omega) (Tl.pos (by omega) next))))
theorem r_ch {h : List S31} (ok : Ok h) {l : List (Nat × Nat)} {a : Nat} (hc : Ch (sv h) (sw h) l a) (ha : a ≤ h.length) : Inv h a (mis h l) ∧ ∀ (rest full : List (Nat × Nat)), full = l ++ rest → full.length ≤ 100 → ∀ r : Int × Int × Int,
    Tl (fun k => diaphoneref02_Misfit.l0 k h (full.map (b59 h)) (l.length : Int) (mis h l).1 (mis h l).2) r → Tl (fun k => diaphoneref02_Misfit.l0 k h (full.map (b59 h)) 0 0 1) r := by
  induction hc with
  | nil => exact ⟨⟨(by decide : (0 : Int) < 1), (by decide : (1 : Int) ≤ 9 ^ 0), (by decide : (0 : Int) ≤ 0), (by simp [mis, sq] : (mis h []).1 ≤ sq h 0 * (mis h []).2)⟩, fun rest full _ _ r H => H⟩
  | @snoc l a e hc hb hf ih =>
    have hae := hb.1
    have hlen := ok.2.1
    obtain ⟨inv, go⟩ := ih (by omega)
    obtain ⟨s1, s2, s3, s4, s5, s6, s7⟩ := small ok hae ha inv
    have s := ok.small hae ha
    rw [mis_snoc]
    refine ⟨s7, fun rest full hfull hlf r H => ?_⟩
    refine go ((a, e) :: rest) full (by rw [hfull]; simp) hlf r ?_
    have hll : l.length < full.length := by rw [hfull]; simp <;> omega
    have hget : rd_T59 (full.map (b59 h)) (l.length : Int) = b59 h (a, e) := by
      rw [rd59 (by simpa using hll), List.getElem_map]
      congr 1
      simp [hfull]
    refine Tl.succ ?_
    simp only [diaphoneref02_Misfit.l0]
    rw [hget]
    refine Tl.pos (by simp; omega) (Tl.pos (by omega) ?_)
    have key := r_in ok hae ha (B := full.map (b59 h)) (i := (l.length : Int)) (by omega) (by simp; omega) (by rw [hget]; rfl) (x := mis h l) (r := r) (e - a) a (by omega) (by omega) (by omega)
    simp only [Int.sub_self] at key
    refine key (Tl.succ ?_)
    simp only [diaphoneref02_Misfit.l1]
    rw [hget]
    refine Tl.pos (by omega) (Tl.pos (by simp; omega) (Tl.neg (by simp only [b59]; omega) ?_))
    rw [w64 (x := (sq h e - sq h a) * (sw h e - sw h a)) (by omega) (by omega), w64 (x := (sv h e - sv h a) * (sv h e - sv h a)) (by omega) (by omega), w64 (x := (sq h e - sq h a) * (sw h e - sw h a) - (sv h e - sv h a) * (sv h e - sv h a)) (by omega) (by omega)]
    refine Tl.bind (ev_Ratio (by omega) (by omega) s.1 (by omega)) ?_
    have em : Rt ((sq h e - sq h a) * (sw h e - sw h a) - (sv h e - sv h a) * (sv h e - sv h a)) (sw h e - sw h a) = mb h (a, e) := rfl
    rw [em]
    rw [w64 (x := (mis h l).1 * (mb h (a, e)).2) (by omega) (by omega), w64 (x := (mb h (a, e)).1 * (mis h l).2) (by omega) (by omega), w64 (x := (mis h l).1 * (mb h (a, e)).2 + (mb h (a, e)).1 * (mis h l).2) (by omega) (by omega), w64 (x := (mis h l).2 * (mb h (a, e)).2) (by omega) (by omega)]
    refine Tl.bind (ev_Ratio (by omega) (by omega) (by omega) (by omega)) ?_
    have es : Rt ((mis h l).1 * (mb h (a, e)).2 + (mb h (a, e)).1 * (mis h l).2) ((mis h l).2 * (mb h (a, e)).2) = st h (mis h l) (a, e) := rfl
    rw [es, w64 (x := (l.length : Int) + 1) (by omega) (by omega)]
    simpa using H
theorem ev_rMisfit {h : List S31} (ok : Ok h) {l : List (Nat × Nat)} (hc : Ch (sv h) (sw h) l h.length) : Tl (fun k => diaphoneref02_Misfit.f k h) ((mis h l).1, (mis h l).2, 0) := by
  have hlen := ok.2.1
  have hll := Ch.len hc
  unfold diaphoneref02_Misfit.f
  refine Tl.bind (ev_rBlocks ok hc) (Tl.pos rfl ?_)
  refine (r_ch ok hc (by omega)).2 [] l (by simp) (by omega) _ (Tl.succ ?_)
  simp only [diaphoneref02_Misfit.l0]
  exact Tl.neg (by simp) Tl.now
end Go.Proofs.Ytgdhbeccpicdcaa.Mi
