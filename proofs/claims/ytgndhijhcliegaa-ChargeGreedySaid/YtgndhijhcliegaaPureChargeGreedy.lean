/- Proved here: for all weights and amounts, the counts by the greatest weights first are the document's, and they are never fewer than the fewest; it holds under no condition. -/
import Derived.Test.YtgndhijhcliegaaCc
import Derived.Test.YtgndhijhcliegaaPx52
import Derived.Test.YtgndhijhcliegaaPx52
import Derived.Test.YtgndhijhcliegaaPx53
set_option linter.unusedVariables false
namespace Go.Proofs.Ytgndhijhcliegaa.Pure
open Go.RowKit Go.Proofs.Ytgndhijhcliegaa.P Go.Proofs.Ytgndhijhcliegaa.E Go.Proofs.Ytgndhijhcliegaa.Va Go.Proofs.Ytgndhijhcliegaa.Kn Go.Proofs.Ytgndhijhcliegaa.Me Go.Proofs.Ytgndhijhcliegaa.Cc Go.Proofs.YtgndhijhcliegaaW.PrintMore
open Go.Proofs.YtgndhijhcliegaaW.PrintWords
namespace Gre
theorem ev_Same {l : List Int} (hl : l.length ≤ 1000) : Tl (fun k => diaphoneref07_SameInts.f k l l) true := by
  have loop : ∀ d i : Nat, i + d = l.length → Tl (fun k => diaphoneref07_SameInts.l0 k l l (i : Int)) true := by
    intro d
    induction d with
    | zero =>
      intro i h
      refine Tl.succ ?_
      simp only [diaphoneref07_SameInts.l0]
      exact Tl.neg (by omega) Tl.now
    | succ d ih =>
      intro i h
      have next := ih (i + 1) (by omega)
      have E := Aside0.mk (show wrap64 ((i : Int) + 1) = ((i + 1 : Nat) : Int) by rw [w64 (by omega) (by omega)]; omega)
      refine Tl.succ ?_
      simp only [diaphoneref07_SameInts.l0]
      rw [E.out]
      exact Tl.pos (by omega) (Tl.pos (by omega) (Tl.pos (by omega) (Tl.pos trivial next)))
  unfold diaphoneref07_SameInts.f
  exact Tl.pos rfl (loop l.length 0 (by omega))
theorem ev_sum {l : List Int} (hl : l.length ≤ 1000) (hb : ∀ i : Nat, i < l.length → 0 ≤ rd l (i : Int) ∧ rd l (i : Int) ≤ 2000) : Tl (fun k => diaphonelaw07_sum.f k l) (sm l l.length) := by
  have rng : ∀ i : Nat, i ≤ l.length → 0 ≤ sm l i ∧ sm l i ≤ 2000 * i := by
    intro i
    induction i with
    | zero => intro _; simp [sm]
    | succ i ih =>
      intro hi
      have := ih (by omega)
      have := hb i (by omega)
      show 0 ≤ sm l i + rd l (i : Int) ∧ sm l i + rd l (i : Int) ≤ _
      omega
  have loop : ∀ d i : Nat, i + d = l.length → Tl (fun k => diaphonelaw07_sum.l0 k l (sm l i) (i : Int)) (sm l l.length) := by
    intro d
    induction d with
    | zero =>
      intro i h
      obtain rfl : i = l.length := by omega
      refine Tl.succ ?_
      simp only [diaphonelaw07_sum.l0]
      exact Tl.neg (by omega) Tl.now
    | succ d ih =>
      intro i h
      have next := ih (i + 1) (by omega)
      have r := rng (i + 1) (by omega)
      have e : sm l i + rd l (i : Int) = sm l (i + 1) := rfl
      refine Tl.succ ?_
      simp only [diaphonelaw07_sum.l0]
      rw [e, w64 (x := sm l (i + 1)) (by omega) (by omega), w64 (x := (i : Int) + 1) (by omega) (by omega)]
      exact Tl.pos (by omega) (Tl.pos (by omega) next)
  exact loop l.length 0 (by omega)
/-- What is left, and the counts, when the k greatest weights are over. -/
def gr (w : List Int) (a : Int) : Nat → Int × List Int
  | 0 => (a, List.replicate w.length 0)
  | k + 1 => ((gr w a k).1 % rd w ((w.length - 1 - k : Nat) : Int), (gr w a k).2.set (w.length - 1 - k) ((gr w a k).1 / rd w ((w.length - 1 - k : Nat) : Int)))
section
variable {w : List Int} {a : Int}
theorem gr_len : ∀ k, (gr w a k).2.length = w.length
  | 0 => by simp [gr]
  | k + 1 => by simp [gr, gr_len k]
theorem wpos (o : Ok w) {j : Nat} (hj : j < w.length) : 1 ≤ rd w (j : Int) ∧ rd w (j : Int) ≤ 30 := (o.2 j hj).1
theorem gr_rng (o : Ok w) (ha : 0 ≤ a ∧ a ≤ 2000) : ∀ k, k ≤ w.length → 0 ≤ (gr w a k).1 ∧ (gr w a k).1 ≤ 2000
  | 0, _ => ha
  | k + 1, h => by
    have ih := gr_rng o ha k (by omega)
    have hw := wpos o (j := w.length - 1 - k) (by omega)
    show 0 ≤ (gr w a k).1 % rd w _ ∧ (gr w a k).1 % rd w _ ≤ 2000
    have h1 := Int.emod_nonneg (gr w a k).1 (show rd w ((w.length - 1 - k : Nat) : Int) ≠ 0 by omega)
    have h2 := Int.emod_lt_of_pos (gr w a k).1 (show 0 < rd w ((w.length - 1 - k : Nat) : Int) by omega)
    omega
theorem quo_rng {r v : Int} (h : 0 ≤ r ∧ r ≤ 2000) (hv : 1 ≤ v) : 0 ≤ r / v ∧ r / v ≤ 2000 := by
  have h1 := Int.ediv_nonneg h.1 (show 0 ≤ v by omega)
  have h2 : r / v * 1 ≤ r / v * v := Int.mul_le_mul_of_nonneg_left hv h1
  have h3 := Int.emod_add_mul_ediv r v
  have h4 := Int.emod_nonneg r (show v ≠ 0 by omega)
  rw [Int.mul_comm v] at h3
  omega
/-- The program's counts. -/
theorem st_gr (o : Ok w) (ha : 0 ≤ a ∧ a ≤ 2000) (hz : 0 < w.length) : ∀ k, k ≤ w.length → charge_Greedy.st w a (charge_Greedy.up (charge_Greedy.pr w hz) k) = gr w a k
  | 0, _ => rfl
  | k + 1, h => by
    have ih := st_gr o ha hz k (by omega)
    have hr := gr_rng o ha k (by omega)
    have hw := wpos o (j := w.length - 1 - k) (by omega)
    have hq := quo_rng hr hw.1
    rw [charge_Greedy.up_succ, charge_Greedy.st_snoc, ih]
    show (Int.tmod (gr w a k).1 (rd w ((w.length - 1 - k : Nat) : Int)), (gr w a k).2.set (w.length - 1 - k) (wrap64 (Int.tdiv (gr w a k).1 (rd w ((w.length - 1 - k : Nat) : Int))))) = gr w a (k + 1)
    rw [Int.tmod_eq_emod_of_nonneg hr.1, Int.tdiv_eq_ediv_of_nonneg hr.1, w64 (by omega) (by omega)]
    rfl
def gv (w : List Int) (a : Int) : List Int × Bool × Int := if (gr w a w.length).1 > 0 then ([], false, 0) else ((gr w a w.length).2, true, 0)
theorem ev_Greedy (o : Ok w) (ha : 0 ≤ a ∧ a ≤ 2000) : Tl (fun k => charge_Greedy.f k w a) (gv w a) := by
  have hl := o.1
  have hz : 0 < w.length := by omega
  unfold charge_Greedy.f
  refine Tl.bind (ev_amounted w a) (Tl.pos (ac_ok.2 ⟨o, ha⟩) (Tl.of ?_))
  unfold charge_Greedy.go gv
  rw [dif_pos ⟨hz, by omega, fun j hj => by have := wpos o hj; omega⟩, st_gr o ha hz w.length (Nat.le_refl _)]
  split <;> rfl
theorem ev_rloop (o : Ok w) (ha : 0 ≤ a ∧ a ≤ 2000) : ∀ (d k : Nat), k + d = w.length → Tl (fun n => diaphoneref07_Greedy.l0 n w (gr w a k).1 (gr w a k).2 ((w.length : Int) - 1 - (k : Int))) (gv w a) := by
  have hl := o.1
  intro d
  induction d with
  | zero =>
    intro k h
    obtain rfl : k = w.length := by omega
    refine Tl.succ ?_
    simp only [diaphoneref07_Greedy.l0]
    refine Tl.neg (by omega) ?_
    unfold gv
    by_cases c : (gr w a w.length).1 > 0
    · exact Tl.to (Tl.pos c Tl.now) (if_pos c).symm
    · exact Tl.to (Tl.neg c Tl.now) (if_neg c).symm
  | succ d ih =>
    intro k h
    have next := ih (k + 1) (by omega)
    have hr := gr_rng o ha k (by omega)
    have hw := wpos o (j := w.length - 1 - k) (by omega)
    have hq := quo_rng hr hw.1
    have e0 : (w.length : Int) - 1 - (k : Int) = ((w.length - 1 - k : Nat) : Int) := by omega
    have e1 : (w.length : Int) - 1 - ((k + 1 : Nat) : Int) = ((w.length - 1 - k : Nat) : Int) - 1 := by omega
    have gl := gr_len (w := w) (a := a) k
    have hset : rd ((gr w a k).2.set (w.length - 1 - k) ((gr w a k).1 / rd w ((w.length - 1 - k : Nat) : Int))) ((w.length - 1 - k : Nat) : Int) = (gr w a k).1 / rd w ((w.length - 1 - k : Nat) : Int) := by
      rw [rd_set (by omega), if_pos rfl]
    have h3 := Int.emod_add_mul_ediv (gr w a k).1 (rd w ((w.length - 1 - k : Nat) : Int))
    have h4 := Int.emod_nonneg (gr w a k).1 (show rd w ((w.length - 1 - k : Nat) : Int) ≠ 0 by omega)
    have h5 := Int.emod_lt_of_pos (gr w a k).1 (show 0 < rd w ((w.length - 1 - k : Nat) : Int) by omega)
    rw [Int.mul_comm] at h3
    rw [e1] at next
    rw [e0]
    refine Tl.succ ?_
    simp only [diaphoneref07_Greedy.l0]
    rw [Int.toNat_natCast, Int.tdiv_eq_ediv_of_nonneg hr.1, w64 (x := (gr w a k).1 / rd w ((w.length - 1 - k : Nat) : Int)) (by omega) (by omega)]
    refine Tl.pos (by omega) (Tl.pos (by omega) (Tl.pos (by omega) (Tl.neg (by omega) (Tl.pos (by rw [gl]; omega) (Tl.bind' rfl ?_)))))
    rw [hset, w64 (x := (gr w a k).1 / rd w ((w.length - 1 - k : Nat) : Int) * rd w ((w.length - 1 - k : Nat) : Int)) (by omega) (by omega), w64 (x := ((w.length - 1 - k : Nat) : Int) - 1) (by omega) (by omega)]
    rw [show (gr w a k).1 - (gr w a k).1 / rd w ((w.length - 1 - k : Nat) : Int) * rd w ((w.length - 1 - k : Nat) : Int) = (gr w a k).1 % rd w ((w.length - 1 - k : Nat) : Int) by omega, w64 (x := (gr w a k).1 % rd w ((w.length - 1 - k : Nat) : Int)) (by omega) (by omega)]
    exact next
theorem ev_rGreedy (o : Ok w) (ha : 0 ≤ a ∧ a ≤ 2000) : Tl (fun k => diaphoneref07_Greedy.f k w a) (gv w a) := by
  have hl := o.1
  have := ev_rloop o ha w.length 0 (by omega)
  unfold diaphoneref07_Greedy.f
  refine Tl.bind (ev_asked w a) (Tl.pos (ac_ok.2 ⟨o, ha⟩) (Tl.pos (by omega) (Tl.pos (by omega) ?_)))
  rw [Int.toNat_natCast, w64 (x := (w.length : Int) - 1) (by omega) (by omega)]
  rw [show (w.length : Int) - 1 - ((0 : Nat) : Int) = (w.length : Int) - 1 by omega] at this
  exact this
/-! The counts make up the amount. -/
theorem am_put {l : List Int} {i : Nat} {v : Int} (hi : i < l.length) : ∀ n : Nat, am w (l.set i v) n = am w l n + (if i < n then (v - rd l (i : Int)) * rd w (i : Int) else 0)
  | 0 => by simp [am]
  | n + 1 => by
    show am w (l.set i v) n + rd (l.set i v) (n : Int) * rd w (n : Int) = am w l n + rd l (n : Int) * rd w (n : Int) + _
    rw [am_put hi n, rd_set hi]
    by_cases h : n = i
    · subst h
      rw [if_pos rfl, if_neg (by omega), if_pos (by omega), Int.sub_mul]; omega
    · rw [if_neg h]
      by_cases h2 : i < n
      · rw [if_pos h2, if_pos (by omega)]; omega
      · rw [if_neg h2, if_neg (by omega)]; omega
theorem zero_rd {n : Nat} (i : Nat) : rd (List.replicate n 0) (i : Int) = 0 := by
  rw [rd_nat, List.getD_eq_getElem?_getD]
  by_cases h : i < n
  · rw [List.getElem?_replicate, if_pos h]; rfl
  · rw [List.getElem?_replicate, if_neg h]; rfl
theorem am_zero (n : Nat) : ∀ k, am w (List.replicate n 0) k = 0
  | 0 => rfl
  | k + 1 => by
    show am w (List.replicate n 0) k + rd (List.replicate n 0) (k : Int) * _ = 0
    rw [am_zero n k, zero_rd]; omega
theorem gr_inv (o : Ok w) (ha : 0 ≤ a ∧ a ≤ 2000) : ∀ k, k ≤ w.length → am w (gr w a k).2 w.length + (gr w a k).1 = a ∧ (∀ j : Nat, j < w.length - k → rd (gr w a k).2 (j : Int) = 0) ∧ ∀ j : Nat, j < w.length → 0 ≤ rd (gr w a k).2 (j : Int) ∧ rd (gr w a k).2 (j : Int) ≤ 2000
  | 0, _ => by
    refine ⟨?_, fun j _ => zero_rd j, fun j _ => ?_⟩
    · show am w (List.replicate w.length 0) w.length + a = a
      rw [am_zero]; omega
    · show 0 ≤ rd (List.replicate w.length 0) (j : Int) ∧ _
      rw [show rd (gr w a 0).2 (j : Int) = 0 from zero_rd j, zero_rd]; omega
  | k + 1, h => by
    obtain ⟨h1, h2, h3⟩ := gr_inv o ha k (by omega)
    have hr := gr_rng o ha k (by omega)
    have hw := wpos o (j := w.length - 1 - k) (by omega)
    have hq := quo_rng hr hw.1
    have gl := gr_len (w := w) (a := a) k
    have h0 := h2 (w.length - 1 - k) (by omega)
    have e := Int.emod_add_mul_ediv (gr w a k).1 (rd w ((w.length - 1 - k : Nat) : Int))
    rw [Int.mul_comm] at e
    refine ⟨?_, fun j hj => ?_, fun j hj => ?_⟩
    · show am w ((gr w a k).2.set (w.length - 1 - k) ((gr w a k).1 / rd w ((w.length - 1 - k : Nat) : Int))) w.length + (gr w a k).1 % rd w ((w.length - 1 - k : Nat) : Int) = a
      rw [am_put (by omega), if_pos (by omega), h0, Int.sub_zero]; omega
    · show rd ((gr w a k).2.set (w.length - 1 - k) _) (j : Int) = 0
      rw [rd_set (by omega), if_neg (by omega)]
      exact h2 j (by omega)
    · show 0 ≤ rd ((gr w a k).2.set (w.length - 1 - k) ((gr w a k).1 / rd w ((w.length - 1 - k : Nat) : Int))) (j : Int) ∧ rd ((gr w a k).2.set (w.length - 1 - k) ((gr w a k).1 / rd w ((w.length - 1 - k : Nat) : Int))) (j : Int) ≤ 2000
      rw [rd_set (by omega)]
      by_cases c : j = w.length - 1 - k
      · rw [if_pos c]; exact hq
      · rw [if_neg c]; exact h3 j hj
theorem mk_times {i : Nat} (hi : i < w.length) {n c : Nat} (h : Mk w n c) : ∀ t : Nat, Mk w (n + t * (rd w (i : Int)).toNat) (c + t)
  | 0 => by simpa using h
  | t + 1 => by
    have := Mk.step hi (mk_times hi h t)
    rwa [show n + t * (rd w (i : Int)).toNat + (rd w (i : Int)).toNat = n + (t + 1) * (rd w (i : Int)).toNat by rw [Nat.add_mul, Nat.one_mul]; omega] at this
theorem mk_am (o : Ok w) {l : List Int} (hl : ∀ j : Nat, j < w.length → 0 ≤ rd l (j : Int)) : ∀ i, i ≤ w.length → (0 ≤ am w l i ∧ 0 ≤ sm l i) ∧ Mk w (am w l i).toNat (sm l i).toNat
  | 0, _ => ⟨⟨Int.le_refl _, Int.le_refl _⟩, .zero⟩
  | i + 1, h => by
    obtain ⟨⟨h1, h2⟩, h3⟩ := mk_am o hl i (by omega)
    have hw := wpos o (j := i) (by omega)
    have h0 := hl i (by omega)
    have hm := Int.mul_nonneg h0 (show 0 ≤ rd w (i : Int) by omega)
    have e1 : am w l (i + 1) = am w l i + rd l (i : Int) * rd w (i : Int) := rfl
    have e2 : sm l (i + 1) = sm l i + rd l (i : Int) := rfl
    have k := mk_times (i := i) (by omega) h3 (rd l (i : Int)).toNat
    refine ⟨⟨by omega, by omega⟩, ?_⟩
    have e3 : (am w l (i + 1)).toNat = (am w l i).toNat + (rd l (i : Int)).toNat * (rd w (i : Int)).toNat := by
      have := Int.toNat_mul h0 (show 0 ≤ rd w (i : Int) by omega)
      rw [e1, Int.toNat_add h1 hm, this]
    have e4 : (sm l (i + 1)).toNat = (sm l i).toNat + (rd l (i : Int)).toNat := by rw [e2, Int.toNat_add h2 h0]
    rw [e3, e4]; exact k
end
end Gre
open Gre
theorem ChargeGreedy : ∀ (x0 : List Int) (x1 : Int), ((∀ y ∈ x0, (Lit.int .i64 y).wf = true) ∧ x0.length ≤ maxLen) → ((Lit.int .i64 x1).wf = true) → ∃ k, diaphonelaw07_ChargeGreedy.f k x0 x1 = some true := by
  intro w a _ _
  refine Tl.ex (g := fun k => diaphonelaw07_ChargeGreedy.f k w a) ?_
  unfold diaphonelaw07_ChargeGreedy.f
  refine by_long (fun hl => ?_)
  have no : ∀ e : Int, Tl (fun k => diaphonelaw07_ChargeGreedy.j0 k w a [] false (e != e)) true := by
    intro e
    refine Tl.succ ?_
    simp only [diaphonelaw07_ChargeGreedy.j0]
    exact Tl.neg (by simp) (Tl.bind (ev_Fewest w a) (Tl.neg (by simp) ev_sane'))
  by_cases h : ac w a = 0
  · have hk := ac_ok.1 h
    obtain ⟨o, ha⟩ := hk
    have wl := o.1
    obtain ⟨m, rfl⟩ : ∃ m : Nat, a = (m : Int) := ⟨a.toNat, by omega⟩
    refine Tl.bind (ev_Greedy o ha) (Tl.bind (ev_rGreedy o ha) ?_)
    unfold gv
    by_cases c : (gr w (m : Int) w.length).1 > 0
    · rw [if_pos c]
      exact Tl.bind (ev_Same (by simp)) (Tl.pos rfl (Tl.neg (by simp) (no 0)))
    · rw [if_neg c]
      obtain ⟨i1, i2, i3⟩ := gr_inv o ha w.length (Nat.le_refl _)
      have rr := gr_rng o ha w.length (Nat.le_refl _)
      have gl := gr_len (w := w) (a := (m : Int)) w.length
      obtain ⟨⟨m1, m2⟩, m3⟩ := mk_am o (l := (gr w (m : Int) w.length).2) (fun j hj => (i3 j hj).1) w.length (Nat.le_refl _)
      have ea : am w (gr w (m : Int) w.length).2 w.length = (m : Int) := by omega
      rw [ea, Int.toNat_natCast] at m3
      refine Tl.bind (ev_Same (by rw [gl]; omega)) (Tl.pos rfl (Tl.neg (by simp) (Tl.succ ?_)))
      simp only [diaphonelaw07_ChargeGreedy.j0]
      have hf : 0 ≤ fw w m := fw_nonneg.2 ⟨_, m3⟩
      have e2 : fc w (m : Int) = (fw w m, true, 0) := by unfold fc; rw [if_pos h, Int.toNat_natCast, if_pos hf]
      have hs := ev_sum (l := (gr w (m : Int) w.length).2) (by rw [gl]; omega) (fun j hj => i3 j (by omega))
      rw [gl] at hs
      have ef := ev_Fewest w (m : Int)
      rw [e2] at ef
      have le : fw w m ≤ sm (gr w (m : Int) w.length).2 w.length := by
        rcases fw_few w m with ⟨f1, f2⟩ | ⟨c0, f1, f2, f3⟩
        · omega
        · have := f3 _ m3
          omega
      exact Tl.neg (by simp) (Tl.bind ef (Tl.pos trivial (Tl.pos rfl (Tl.pos rfl (Tl.bind hs (Tl.pos le ev_sane'))))))
  · have e1 : Tl (fun k => charge_Greedy.f k w a) ([], false, ac w a) := by
      unfold charge_Greedy.f
      exact Tl.bind (ev_amounted w a) (Tl.neg h Tl.now)
    have e2 : Tl (fun k => diaphoneref07_Greedy.f k w a) ([], false, ac w a) := by
      unfold diaphoneref07_Greedy.f
      exact Tl.bind (ev_asked w a) (Tl.neg h Tl.now)
    exact Tl.bind e1 (Tl.bind e2 (Tl.bind (ev_Same (by simp)) (Tl.pos rfl (Tl.neg (by simp) (no (ac w a))))))
end Go.Proofs.Ytgndhijhcliegaa.Pure
