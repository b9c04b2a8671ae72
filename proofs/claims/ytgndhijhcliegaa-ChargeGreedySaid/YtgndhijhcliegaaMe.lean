/- The measure; whether an amount is made up, and by how few cartridges: what both programs calculate. -/
import Derived.Test.YtgndhijhcliegaaKn
import Derived.Test.YtgndhijhcliegaaPx7
import Derived.Test.YtgndhijhcliegaaPx20
import Derived.Test.YtgndhijhcliegaaPx28
import Derived.Test.YtgndhijhcliegaaPx27
import Derived.Test.YtgndhijhcliegaaPx6
set_option linter.unusedVariables false
namespace Go.Proofs.Ytgndhijhcliegaa.Me
open Go.RowKit Go.Proofs.Ytgndhijhcliegaa.P Go.Proofs.Ytgndhijhcliegaa.E Go.Proofs.Ytgndhijhcliegaa.Va Go.Proofs.Ytgndhijhcliegaa.Kn Go.Proofs.YtgndhijhcliegaaW.PrintMore
open Go.Proofs.YtgndhijhcliegaaW.PrintWords
/-- The errors of weights and an amount. -/
def ac (w : List Int) (a : Int) : Int := if vc w = 0 then (if 0 ≤ a ∧ a ≤ 2000 then 0 else 1) else vc w
theorem ac_ok {w : List Int} {a : Int} : ac w a = 0 ↔ Ok w ∧ 0 ≤ a ∧ a ≤ 2000 := by
  unfold ac
  by_cases h : vc w = 0
  · rw [if_pos h]
    by_cases c : 0 ≤ a ∧ a ≤ 2000
    · rw [if_pos c]; exact ⟨fun _ => ⟨vc_ok.1 h, c⟩, fun _ => rfl⟩
    · rw [if_neg c]; exact ⟨fun q => by omega, fun q => absurd q.2 c⟩
  · rw [if_neg h]; exact ⟨fun q => absurd q h, fun q => absurd (vc_ok.2 q.1) h⟩
theorem ev_amounted (w : List Int) (a : Int) : Tl (fun k => charge_amounted.f k w a) (ac w a) := by
  unfold charge_amounted.f
  refine Tl.bind (ev_Validate w) ?_
  by_cases h : vc w = 0
  · have e : ac w a = if 0 ≤ a ∧ a ≤ 2000 then 0 else 1 := by unfold ac; rw [if_pos h]
    refine Tl.pos h (Tl.bind' (within_eq _ _ _) ?_)
    by_cases c : 0 ≤ a ∧ a ≤ 2000
    · rw [e, if_pos c]; exact Tl.pos (decide_eq_true c) Tl.now
    · rw [e, if_neg c]; exact Tl.neg (by rw [decide_eq_true_eq]; exact c) Tl.now
  · have e : ac w a = vc w := by unfold ac; rw [if_neg h]
    rw [e]; exact Tl.neg h Tl.now
theorem ev_asked (w : List Int) (a : Int) : Tl (fun k => diaphoneref07_asked.f k w a) (ac w a) := by
  unfold diaphoneref07_asked.f
  refine Tl.bind (ev_rValidate w) ?_
  by_cases h : vc w = 0
  · have e : ac w a = if 0 ≤ a ∧ a ≤ 2000 then 0 else 1 := by unfold ac; rw [if_pos h]
    refine Tl.pos h (Tl.bind' (rwithin_eq _ _ _) ?_)
    by_cases c : 0 ≤ a ∧ a ≤ 2000
    · rw [e, if_pos c]; exact Tl.pos (decide_eq_true c) Tl.now
    · rw [e, if_neg c]; exact Tl.neg (by rw [decide_eq_true_eq]; exact c) Tl.now
  · have e : ac w a = vc w := by unfold ac; rw [if_neg h]
    rw [e]; exact Tl.neg h Tl.now
noncomputable def cc (w : List Int) (a : Int) : Bool × Int := if ac w a = 0 then (decide (fw w a.toNat ≥ 0), 0) else (false, ac w a)
theorem can_tab {w L : List Int} {m : Nat} : charge_table_can.f (tab w (m + 1)) L (m : Int) = some (decide (fw w m ≥ 0)) := by
  unfold charge_table_can.f
  rw [if_pos (by omega), if_pos (by rw [tab_length]; omega), tab_rd (by omega)]
theorem ev_Can (w : List Int) (a : Int) : Tl (fun k => charge_Can.f k w a) (cc w a) := by
  unfold charge_Can.f cc
  refine Tl.bind (ev_amounted w a) ?_
  by_cases h : ac w a = 0
  · rw [if_pos h]
    have hk := ac_ok.1 h
    obtain ⟨m, rfl⟩ : ∃ m : Nat, a = (m : Int) := ⟨a.toNat, by omega⟩
    obtain ⟨L, _, _, hf⟩ := ev_fill hk.1.wt (show m ≤ 10000 by omega)
    rw [Int.toNat_natCast]
    exact Tl.pos h (Tl.bind hf (Tl.bind' can_tab Tl.now))
  · rw [if_neg h]; exact Tl.neg h Tl.now
noncomputable def fc (w : List Int) (a : Int) : Int × Bool × Int := if ac w a = 0 then (if fw w a.toNat ≥ 0 then (fw w a.toNat, true, 0) else (0, false, 0)) else (0, false, ac w a)
theorem ev_Fewest (w : List Int) (a : Int) : Tl (fun k => charge_Fewest.f k w a) (fc w a) := by
  unfold charge_Fewest.f fc
  refine Tl.bind (ev_amounted w a) ?_
  by_cases h : ac w a = 0
  · rw [if_pos h]
    have hk := ac_ok.1 h
    obtain ⟨m, rfl⟩ : ∃ m : Nat, a = (m : Int) := ⟨a.toNat, by omega⟩
    obtain ⟨L, _, _, hf⟩ := ev_fill hk.1.wt (show m ≤ 10000 by omega)
    rw [Int.toNat_natCast]
    refine Tl.pos h (Tl.bind hf (Tl.bind' can_tab ?_))
    by_cases c : fw w m ≥ 0
    · rw [if_pos c]
      have hl := tab_length w (m + 1)
      have hr := tab_rd (w := w) (n := m + 1) (j := m) (by omega)
      refine Tl.pos (decide_eq_true c) (Tl.pos (by omega) (Tl.pos ?_ (Tl.to Tl.now ?_)))
      · show (m : Int) < ((tab w (m + 1)).length : Int); omega
      · show (rd (tab w (m + 1)) (m : Int), true, (0 : Int)) = _; rw [hr]
    · rw [if_neg c]
      exact Tl.neg (by rw [decide_eq_true_eq]; exact c) Tl.now
  · rw [if_neg h]; exact Tl.neg h Tl.now
theorem ev_rFewest (w : List Int) (a : Int) : Tl (fun k => diaphoneref07_Fewest.f k w a) (fc w a) := by
  unfold diaphoneref07_Fewest.f fc
  refine Tl.bind (ev_asked w a) ?_
  by_cases h : ac w a = 0
  · rw [if_pos h]
    have hk := ac_ok.1 h
    obtain ⟨m, rfl⟩ : ∃ m : Nat, a = (m : Int) := ⟨a.toNat, by omega⟩
    have hf := ev_few hk.1.wt (show m ≤ 10000 by omega)
    rw [Int.toNat_natCast]
    have hl := tab_length w (m + 1)
    have hr := tab_rd (w := w) (n := m + 1) (j := m) (by omega)
    refine Tl.pos h (Tl.bind hf (Tl.pos (by omega) (Tl.pos (by omega) ?_)))
    rw [hr]
    by_cases c : fw w m ≥ 0
    · rw [if_pos c]; exact Tl.neg (by omega) Tl.now
    · rw [if_neg c]; exact Tl.pos (by omega) Tl.now
  · rw [if_neg h]; exact Tl.neg h Tl.now
/-- The greatest common divisor of the first weights. -/
def mg (w : List Int) : Nat → Nat
  | 0 => 0
  | i + 1 => Nat.gcd (mg w i) (rd w (i : Int)).toNat
theorem mg_dvd {w : List Int} : ∀ (i j : Nat), j < i → mg w i ∣ (rd w (j : Int)).toNat := by
  intro i
  induction i with
  | zero => intro j hj; omega
  | succ i ih =>
    intro j hj
    by_cases e : j = i
    · subst e; exact Nat.gcd_dvd_right _ _
    · exact Nat.dvd_trans (Nat.gcd_dvd_left _ _) (ih j (by omega))
theorem dvd_mg {w : List Int} {d : Nat} : ∀ i : Nat, (∀ j, j < i → d ∣ (rd w (j : Int)).toNat) → d ∣ mg w i := by
  intro i
  induction i with
  | zero => intro _; exact Nat.dvd_zero _
  | succ i ih =>
    intro h
    exact Nat.dvd_gcd (ih (fun j hj => h j (by omega))) (h i (by omega))
theorem mg_range {w : List Int} (ok : Ok w) : 1 ≤ mg w w.length ∧ mg w w.length ≤ 30 := by
  have h0 := (ok.2 0 (by have := ok.1; omega)).1
  have hd := mg_dvd (w := w) w.length 0 (by have := ok.1; omega)
  have hp : 0 < (rd w ((0 : Nat) : Int)).toNat := by omega
  exact ⟨Nat.pos_of_dvd_of_pos hd hp, by have := Nat.le_of_dvd hp hd; omega⟩
theorem mk_mg {w : List Int} {n c : Nat} (h : Mk w n c) : mg w w.length ∣ n := by
  induction h with
  | zero => exact Nat.dvd_zero _
  | step hi _ ih => exact Nat.dvd_add ih (mg_dvd _ _ hi)
theorem ev_measure {w : List Int} (hw : Wt w) : Tl (fun k => charge_measure.f k w) (mg w w.length : Int) := by
  have w2 := hw.1
  have inner : ∀ (i : Nat) (r : Int) (b a : Nat), Tl (fun k => charge_measure.l0 k (Nat.gcd a b : Int) w (w.length : Int) (wrap64 ((i : Int) + 1))) r → Tl (fun k => charge_measure.l1 k (a : Int) (b : Int) w (w.length : Int) (i : Int)) r := by
    intro i r b
    induction b using Nat.strongRecOn with
    | _ b ih =>
      intro a next
      refine Tl.succ ?_
      simp only [charge_measure.l1]
      by_cases z : b = 0
      · subst z
        rw [Nat.gcd_zero_right] at next
        exact Tl.pos rfl next
      · refine Tl.neg (by omega) ?_
        rw [Int.tmod_eq_emod_of_nonneg (by omega), ← Int.natCast_emod]
        refine ih (a % b) (Nat.mod_lt _ (by omega)) b ?_
        rw [show Nat.gcd b (a % b) = Nat.gcd a b by rw [Nat.gcd_comm b, ← Nat.gcd_rec, Nat.gcd_comm]]
        exact next
  have loop : ∀ d i : Nat, i + d = w.length → Tl (fun k => charge_measure.l0 k (mg w i : Int) w (w.length : Int) (i : Int)) (mg w w.length : Int) := by
    intro d
    induction d with
    | zero =>
      intro i h
      obtain rfl : i = w.length := by omega
      refine Tl.succ ?_
      simp only [charge_measure.l0]
      exact Tl.neg (by omega) Tl.now
    | succ d ih =>
      intro i h
      have hi := hw.2 i (by omega)
      have next := ih (i + 1) (by omega)
      rw [show ((i + 1 : Nat) : Int) = (i : Int) + 1 by omega, ← w64 (x := (i : Int) + 1) (by omega) (by omega)] at next
      refine Tl.succ ?_
      simp only [charge_measure.l0]
      refine Tl.pos (by omega) (Tl.pos (by omega) (Tl.pos (by omega) ?_))
      have := inner i _ (rd w (i : Int)).toNat (mg w i) next
      rw [Int.toNat_of_nonneg (by omega)] at this
      exact this
  exact loop w.length 0 (by omega)
theorem ev_rmeasure {w : List Int} (ok : Ok w) : Tl (fun k => diaphoneref07_measure.f k w) (mg w w.length : Int) := by
  have hw := ok.wt
  have w2 := hw.1
  have hr := mg_range ok
  have inner : ∀ (n : Nat) (r : Int), 1 < n → n ≤ 30 → ((∀ j : Nat, j < w.length → n ∣ (rd w (j : Int)).toNat) → r = n) → (¬ (∀ j : Nat, j < w.length → n ∣ (rd w (j : Int)).toNat) → Tl (fun k => diaphoneref07_measure.l0 k w ((n : Int) - 1)) r) →
      ∀ (d i : Nat) (fl : Bool), i + d = w.length → (fl = true ↔ ∀ j : Nat, j < i → n ∣ (rd w (j : Int)).toNat) → Tl (fun k => diaphoneref07_measure.l1 k w (n : Int) fl (i : Int)) r := by
    intro n r n1 n2 a1 a2 d
    induction d with
    | zero =>
      intro i fl h1 h2
      obtain rfl : i = w.length := by omega
      refine Tl.succ ?_
      simp only [diaphoneref07_measure.l1]
      rw [w64 (x := (n : Int) - 1) (by omega) (by omega)]
      refine Tl.neg (by omega) ?_
      by_cases c : fl = true
      · exact Tl.to (Tl.pos c Tl.now) (a1 (h2.1 c)).symm
      · exact Tl.neg c (a2 (fun q => c (h2.2 q)))
    | succ d ih =>
      intro i fl h1 h2
      have hi := hw.2 i (by omega)
      refine Tl.succ ?_
      simp only [diaphoneref07_measure.l1]
      rw [w64 (x := (i : Int) + 1) (by omega) (by omega), show (i : Int) + 1 = ((i + 1 : Nat) : Int) by omega]
      refine Tl.pos (by omega) ?_
      by_cases c : fl = true
      · refine Tl.pos c (Tl.pos (by omega) (Tl.neg (by omega) (ih (i + 1) _ (by omega) ?_)))
        rw [beq_iff_eq, Int.tmod_eq_emod_of_nonneg (by omega)]
        have e : rd w (i : Int) = ((rd w (i : Int)).toNat : Int) := by omega
        rw [e, ← Int.natCast_emod]
        constructor
        · intro q j hj
          by_cases e : j = i
          · subst e; exact Nat.dvd_of_mod_eq_zero (by omega)
          · exact h2.1 c j (by omega)
        · intro q
          have := Nat.mod_eq_zero_of_dvd (q i (by omega))
          omega
      · refine Tl.neg c (ih (i + 1) false (by omega) ?_)
        exact ⟨fun q => by simp at q, fun q => absurd (h2.2 (fun j hj => q j (by omega))) c⟩
  have loop : ∀ d n : Nat, n = mg w w.length + d → n ≤ 30 → Tl (fun k => diaphoneref07_measure.l0 k w (n : Int)) (mg w w.length : Int) := by
    intro d
    induction d with
    | zero =>
      intro n h1 h2
      refine Tl.succ ?_
      simp only [diaphoneref07_measure.l0]
      by_cases c : (n : Int) > 1
      · refine Tl.pos c (inner n _ (by omega) h2 (fun _ => by omega) (fun q => absurd (fun j hj => ?_) q) w.length 0 true (by omega) ⟨fun _ j hj => by omega, fun _ => rfl⟩)
        rw [h1]; exact mg_dvd _ _ hj
      · exact Tl.to (Tl.neg c Tl.now) (by omega)
    | succ d ih =>
      intro n h1 h2
      refine Tl.succ ?_
      simp only [diaphoneref07_measure.l0]
      refine Tl.pos (by omega) (inner n _ (by omega) h2 (fun q => ?_) (fun _ => ?_) w.length 0 true (by omega) ⟨fun _ j hj => by omega, fun _ => rfl⟩)
      · have := Nat.le_of_dvd (by omega) (dvd_mg w.length q)
        omega
      · have := ih (n - 1) (by omega) (by omega)
        rw [show ((n - 1 : Nat) : Int) = (n : Int) - 1 by omega] at this
        exact this
  exact loop (30 - mg w w.length) 30 (by omega) (by omega)
def mc (w : List Int) : Int × Int := if vc w = 0 then ((mg w w.length : Int), 0) else (0, vc w)
theorem ev_Measure (w : List Int) : Tl (fun k => charge_Measure.f k w) (mc w) := by
  unfold charge_Measure.f mc
  refine Tl.bind (ev_Validate w) ?_
  by_cases h : vc w = 0
  · rw [if_pos h]; exact Tl.pos h (Tl.bind (ev_measure (vc_ok.1 h).wt) Tl.now)
  · rw [if_neg h]; exact Tl.neg h Tl.now
theorem ev_rMeasure (w : List Int) : Tl (fun k => diaphoneref07_Measure.f k w) (mc w) := by
  unfold diaphoneref07_Measure.f mc
  refine Tl.bind (ev_rValidate w) ?_
  by_cases h : vc w = 0
  · rw [if_pos h]; exact Tl.pos h (Tl.bind (ev_rmeasure (vc_ok.1 h)) Tl.now)
  · rw [if_neg h]; exact Tl.neg h Tl.now
theorem mk_add {w : List Int} {a b c d : Nat} (h : Mk w a c) (k : Mk w b d) : Mk w (a + b) (c + d) := by
  induction k with
  | zero => exact h
  | step hi _ ih => rw [← Nat.add_assoc, ← Nat.add_assoc]; exact Mk.step hi ih
end Go.Proofs.Ytgndhijhcliegaa.Me
