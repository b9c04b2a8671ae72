/- Proved here: for all weights and numbers, weights so many times as great are the document's, and so many times an amount is made up exactly if it was, by as many cartridges; it holds under no condition. -/
import Derived.Test.YtgndhijhcliegaaMe
import Derived.Test.YtgndhijhcliegaaPx19
import Derived.Test.YtgndhijhcliegaaPx19
import Derived.Test.YtgndhijhcliegaaPx44
set_option linter.unusedVariables false
namespace Go.Proofs.Ytgndhijhcliegaa.Pure
open Go.RowKit Go.Proofs.Ytgndhijhcliegaa.P Go.Proofs.Ytgndhijhcliegaa.E Go.Proofs.Ytgndhijhcliegaa.Va Go.Proofs.Ytgndhijhcliegaa.Kn Go.Proofs.Ytgndhijhcliegaa.Me Go.Proofs.YtgndhijhcliegaaW.PrintMore
open Go.Proofs.YtgndhijhcliegaaW.PrintWords
namespace Tim
def tm (w : List Int) (b : Int) : List Int := w.map (fun x => b * x)
theorem tm_length (w : List Int) (b : Int) : (tm w b).length = w.length := by simp [tm]
theorem tm_get {w : List Int} {b : Int} {i : Nat} (h : i < w.length) : (tm w b)[i]'(by rw [tm_length]; exact h) = b * w[i] := by simp [tm]
theorem tm_rd {w : List Int} {b : Int} {i : Nat} (h : i < w.length) : rd (tm w b) (i : Int) = b * rd w (i : Int) := by
  rw [rd_lt (by rw [tm_length]; exact h), rd_lt h, tm_get h]
theorem ev_SameInts {l : List Int} (hl : l.length ≤ 1000) : Tl (fun k => diaphoneref07_SameInts.f k l l) true := by
  unfold diaphoneref07_SameInts.f
  refine Tl.pos rfl ?_
  have loop : ∀ d i : Nat, i + d = l.length → Tl (fun k => diaphoneref07_SameInts.l0 k l l (i : Int)) true := by
    intro d
    induction d with
    | zero =>
      intro i h
      refine Tl.succ ?_
      simp only [diaphoneref07_SameInts.l0]
      exact Tl.neg (by omega) Tl.now
    | succ d ih =>
      intro i h
      refine Tl.succ ?_
      simp only [diaphoneref07_SameInts.l0]
      rw [w64 (x := (i : Int) + 1) (by omega) (by omega)]
      exact Tl.pos (by omega) (Tl.pos (by omega) (Tl.pos (by omega) (Tl.pos trivial (ih (i + 1) (by omega)))))
  exact loop l.length 0 (by omega)
def tc (w : List Int) (b : Int) : List Int × Int := if vc w = 0 then (if 1 ≤ b ∧ b ≤ 30 then (if vc (tm w b) = 0 then (tm w b, 0) else ([], 1)) else ([], 1)) else ([], vc w)
theorem take_set {a b : List Int} (h : a.length = b.length) {i : Nat} (hi : i < a.length) : (a.take i ++ b.drop i).set i a[i] = a.take (i + 1) ++ b.drop (i + 1) := by
  have hl : (a.take i).length = i := by simp; omega
  rw [List.set_append_right _ _ (by omega), hl, Nat.sub_self, List.drop_eq_getElem_cons (show i < b.length by omega), List.set_cons_zero, List.take_succ_eq_append_getElem hi, List.append_assoc]
  rfl
theorem mul_range {w : List Int} (hw : Wt w) {b : Int} (hb : 1 ≤ b ∧ b ≤ 30) {i : Nat} (hi : i < w.length) : 1 ≤ b * w[i] ∧ b * w[i] ≤ 900 := by
  have := hw.2 i hi
  rw [rd_lt hi] at this
  have h1 : b * w[i] ≤ 30 * 30 := Int.mul_le_mul hb.2 this.2 (by omega) (by omega)
  have h2 : 1 * 1 ≤ b * w[i] := Int.mul_le_mul hb.1 this.1 (by omega) (by omega)
  omega
theorem ev_Times (w : List Int) (b : Int) : Tl (fun k => charge_Times.f k w b) (tc w b) := by
  unfold charge_Times.f
  refine Tl.bind (ev_Validate w) ?_
  by_cases h : vc w = 0
  · have ok := vc_ok.1 h
    have hw := ok.wt
    have w2 := hw.1
    refine Tl.pos h (Tl.bind' (within_eq _ _ _) ?_)
    by_cases c : 1 ≤ b ∧ b ≤ 30
    · have e : tc w b = if vc (tm w b) = 0 then (tm w b, 0) else ([], 1) := by unfold tc; rw [if_pos h, if_pos c]
      rw [e]
      have ec : slices_Clone_int_int.f w = some w := by unfold slices_Clone_int_int.f; rw [if_pos (by omega)]
      refine Tl.pos (decide_eq_true c) (Tl.bind' ec ?_)
      have loop : ∀ d i : Nat, i + d = w.length → Tl (fun k => charge_Times.l0 k b ((tm w b).take i ++ w.drop i) (w.length : Int) (i : Int)) (if vc (tm w b) = 0 then (tm w b, 0) else ([], 1)) := by
        intro d
        induction d with
        | zero =>
          intro i h1
          obtain rfl : i = w.length := by omega
          rw [List.drop_eq_nil_of_le (by omega), List.append_nil, List.take_of_length_le (by rw [tm_length]; omega)]
          refine Tl.succ ?_
          simp only [charge_Times.l0]
          refine Tl.neg (by omega) (Tl.bind (ev_Validate (tm w b)) ?_)
          exact Tl.ite (fun _ => Tl.now) (fun _ => Tl.now)
        | succ d ih =>
          intro i h1
          have hi : i < w.length := by omega
          have next := ih (i + 1) (by omega)
          have hlen : ((tm w b).take i ++ w.drop i).length = w.length := by simp [tm_length]; omega
          have hr : rd ((tm w b).take i ++ w.drop i) (i : Int) = w[i] := by
            rw [rd_lt (by omega), List.getElem_append_right (by simp [tm_length]; omega)]
            simp [tm_length]
            congr 1; omega
          have hm := mul_range hw c hi
          refine Tl.succ ?_
          simp only [charge_Times.l0]
          rw [hr, hlen, Int.mul_comm (w[i]) b, w64 (x := b * w[i]) (by omega) (by omega), w64 (x := (i : Int) + 1) (by omega) (by omega), Int.toNat_natCast, ← tm_get (b := b) hi, take_set (tm_length w b) (by rw [tm_length]; exact hi)]
          exact Tl.pos (by omega) (Tl.pos (by omega) (Tl.pos (by omega) next))
      have := loop w.length 0 (by omega)
      rw [List.take_zero, List.drop_zero, List.nil_append] at this
      exact this
    · have e : tc w b = ([], 1) := by unfold tc; rw [if_pos h, if_neg c]
      rw [e]; exact Tl.neg (by rw [decide_eq_true_eq]; exact c) Tl.now
  · have e : tc w b = ([], vc w) := by unfold tc; rw [if_neg h]
    rw [e]; exact Tl.neg h Tl.now
theorem ev_rTimes (w : List Int) (b : Int) : Tl (fun k => diaphoneref07_Times.f k w b) (tc w b) := by
  unfold diaphoneref07_Times.f
  refine Tl.bind (ev_rValidate w) ?_
  by_cases h : vc w = 0
  · have ok := vc_ok.1 h
    have hw := ok.wt
    have w2 := hw.1
    refine Tl.pos h (Tl.bind' (rwithin_eq _ _ _) ?_)
    by_cases c : 1 ≤ b ∧ b ≤ 30
    · have e : tc w b = if vc (tm w b) = 0 then (tm w b, 0) else ([], 1) := by unfold tc; rw [if_pos h, if_pos c]
      rw [e]
      refine Tl.pos (decide_eq_true c) ?_
      have loop : ∀ d i : Nat, i + d = w.length → Tl (fun k => diaphoneref07_Times.l0 k w b ((tm w b).take i) (i : Int)) (if vc (tm w b) = 0 then (tm w b, 0) else ([], 1)) := by
        intro d
        induction d with
        | zero =>
          intro i h1
          obtain rfl : i = w.length := by omega
          rw [List.take_of_length_le (by rw [tm_length]; omega)]
          refine Tl.succ ?_
          simp only [diaphoneref07_Times.l0]
          refine Tl.neg (by omega) (Tl.bind (ev_rValidate (tm w b)) ?_)
          exact Tl.ite (fun _ => Tl.now) (fun _ => Tl.now)
        | succ d ih =>
          intro i h1
          have hi : i < w.length := by omega
          have next := ih (i + 1) (by omega)
          rw [List.take_succ_eq_append_getElem (show i < (tm w b).length by rw [tm_length]; exact hi), tm_get hi] at next
          have hm := mul_range hw c hi
          refine Tl.succ ?_
          simp only [diaphoneref07_Times.l0]
          rw [rd_lt hi, w64 (x := b * w[i]) (by omega) (by omega), w64 (x := (i : Int) + 1) (by omega) (by omega)]
          exact Tl.pos (by omega) (Tl.pos (by omega) (Tl.pos (by simp [tm_length]; omega) next))
      exact loop w.length 0 (by omega)
    · have e : tc w b = ([], 1) := by unfold tc; rw [if_pos h, if_neg c]
      rw [e]; exact Tl.neg (by rw [decide_eq_true_eq]; exact c) Tl.now
  · have e : tc w b = ([], vc w) := by unfold tc; rw [if_neg h]
    rw [e]; exact Tl.neg h Tl.now
theorem mk_tm {w : List Int} {b : Nat} (hb : 1 ≤ b) {n c : Nat} : Mk (tm w b) (b * n) c ↔ Mk w n c := by
  have wt : ∀ i : Nat, i < w.length → (rd (tm w b) (i : Int)).toNat = b * (rd w (i : Int)).toNat := by
    intro i hi
    rw [tm_rd hi]
    rcases Int.lt_or_le (rd w (i : Int)) 0 with q | q
    · have : (b : Int) * rd w (i : Int) ≤ 0 := Int.mul_nonpos_of_nonneg_of_nonpos (by omega) (by omega)
      rw [Int.toNat_of_nonpos this, Int.toNat_of_nonpos (by omega), Nat.mul_zero]
    · rw [Int.toNat_mul (by omega) q, Int.toNat_natCast]
  constructor
  · intro h
    generalize hm : b * n = m at h
    induction h generalizing n with
    | zero =>
      have : n = 0 := by
        rcases Nat.eq_zero_or_pos n with q | q
        · exact q
        · have := Nat.mul_pos hb q; omega
      subst this; exact .zero
    | @step m c i hi _ ih =>
      rw [tm_length] at hi
      rw [wt i hi] at hm
      have hle : (rd w (i : Int)).toNat ≤ n := Nat.le_of_mul_le_mul_left (show b * (rd w (i : Int)).toNat ≤ b * n by omega) (by omega)
      have := ih (n := n - (rd w (i : Int)).toNat) (by rw [Nat.mul_sub]; omega)
      have := Mk.step hi this
      rw [Nat.sub_add_cancel hle] at this
      exact this
  · intro h
    induction h with
    | zero => rw [Nat.mul_zero]; exact .zero
    | @step m c i hi _ ih =>
      have := Mk.step (w := tm w b) (i := i) (by rw [tm_length]; exact hi) ih
      rw [wt i hi, ← Nat.mul_add] at this
      exact this
theorem fw_tm {w : List Int} {b : Nat} (hb : 1 ≤ b) (n : Nat) : fw (tm w b) (b * n) = fw w n := by
  refine few_unique (fw_few _ _) ?_
  rcases fw_few w n with ⟨h1, h2⟩ | ⟨c, h1, h2, h3⟩
  · exact .inl ⟨h1, fun c q => h2 c ((mk_tm hb).1 q)⟩
  · exact .inr ⟨c, h1, (mk_tm hb).2 h2, fun c' q => h3 c' ((mk_tm hb).1 q)⟩
end Tim
open Tim
theorem ChargeTimes : ∀ (x0 : List Int) (x1 : Int) (x2 : Int), ((∀ y ∈ x0, (Lit.int .i64 y).wf = true) ∧ x0.length ≤ maxLen) → ((Lit.int .i64 x1).wf = true) → ((Lit.int .i64 x2).wf = true) → ∃ k, diaphonelaw07_ChargeTimes.f k x0 x1 x2 = some true := by
  intro w b a _ _ _
  refine Tl.ex (g := fun k => diaphonelaw07_ChargeTimes.f k w b a) ?_
  unfold diaphonelaw07_ChargeTimes.f
  refine by_long (fun hl => ?_)
  have jt : ∀ l : List Int, Tl (fun k => diaphonelaw07_ChargeTimes.j1 k w b a l true) true := by
    intro l
    refine Tl.succ ?_
    simp only [diaphonelaw07_ChargeTimes.j1]
    exact Tl.pos trivial ev_sane'
  have htl : (tc w b).1.length ≤ 1000 := by
    unfold tc
    by_cases h : vc w = 0
    · rw [if_pos h]
      by_cases c : 1 ≤ b ∧ b ≤ 30
      · rw [if_pos c]
        by_cases z : vc (tm w b) = 0
        · rw [if_pos z]; show (tm w b).length ≤ 1000; rw [tm_length]; omega
        · rw [if_neg z]; simp
      · rw [if_neg c]; simp
    · rw [if_neg h]; simp
  refine Tl.bind (ev_Times w b) (Tl.bind (ev_rTimes w b) (Tl.bind (ev_SameInts htl) (Tl.pos rfl (Tl.succ ?_))))
  simp only [diaphonelaw07_ChargeTimes.j0]
  refine Tl.neg (by simp) ?_
  by_cases hz : (tc w b).2 = 0
  · refine Tl.pos hz ?_
    obtain ⟨ok, hb, hv, ht⟩ : Ok w ∧ (1 ≤ b ∧ b ≤ 30) ∧ vc (tm w b) = 0 ∧ tc w b = (tm w b, 0) := by
      unfold tc at hz ⊢
      by_cases h : vc w = 0
      · rw [if_pos h] at hz ⊢
        by_cases c : 1 ≤ b ∧ b ≤ 30
        · rw [if_pos c] at hz ⊢
          by_cases z : vc (tm w b) = 0
          · rw [if_pos z]; exact ⟨vc_ok.1 h, c, z, rfl⟩
          · rw [if_neg z] at hz; exact absurd hz (by decide)
        · rw [if_neg c] at hz; exact absurd hz (by decide)
      · rw [if_neg h] at hz; exact absurd hz h
    rw [ht]
    by_cases a0 : a < 0
    · exact Tl.pos a0 (jt _)
    · refine Tl.neg a0 (Tl.neg (by omega) ?_)
      have hq0 : 0 ≤ (2000 : Int) / b := Int.ediv_nonneg (by omega) (by omega)
      have hq1 : (2000 : Int) / b ≤ 2000 := Int.ediv_le_self _ (by omega)
      rw [w64 (x := (2000 : Int) / b) (by omega) (by omega)]
      by_cases ca : a > (2000 : Int) / b
      · rw [decide_eq_true ca]; exact jt _
      · rw [decide_eq_false ca]
        have hba : b * a ≤ 2000 := by
          have h1 : b * a ≤ b * ((2000 : Int) / b) := Int.mul_le_mul_of_nonneg_left (by omega) (by omega)
          have h2 := Int.mul_ediv_self_le (x := 2000) (k := b) (by omega)
          omega
        have hba0 : 0 ≤ b * a := Int.mul_nonneg (by omega) (by omega)
        have haa : a ≤ 2000 := by omega
        obtain ⟨p, rfl⟩ : ∃ p : Nat, b = (p : Int) := ⟨b.toNat, by omega⟩
        obtain ⟨n, rfl⟩ : ∃ n : Nat, a = (n : Int) := ⟨a.toNat, by omega⟩
        have e1 : ac w (n : Int) = 0 := ac_ok.2 ⟨ok, by omega, haa⟩
        have e2 : ac (tm w (p : Int)) ((p : Int) * (n : Int)) = 0 := ac_ok.2 ⟨vc_ok.1 hv, hba0, hba⟩
        have e3 : ((p : Int) * (n : Int)).toNat = p * n := by rw [← Int.natCast_mul, Int.toNat_natCast]
        have ef : fc (tm w (p : Int)) ((p : Int) * (n : Int)) = fc w (n : Int) := by
          unfold fc
          rw [if_pos e1, if_pos e2, e3, Int.toNat_natCast, fw_tm (by omega)]
        have e4 : (fc w (n : Int)).2.2 = 0 := by
          unfold fc
          rw [if_pos e1]
          by_cases c : fw w ((n : Int)).toNat ≥ 0
          · rw [if_pos c]
          · rw [if_neg c]
        refine Tl.succ ?_
        simp only [diaphonelaw07_ChargeTimes.j1]
        rw [w64 (x := (p : Int) * (n : Int)) (by omega) (by omega)]
        have f2 := ev_Fewest (tm w (p : Int)) ((p : Int) * (n : Int))
        rw [ef] at f2
        exact Tl.neg (by simp) (Tl.bind (ev_Fewest w (n : Int)) (Tl.bind f2 (Tl.pos e4 (Tl.pos e4 (Tl.pos rfl (Tl.pos (by simp) ev_sane'))))))
  · exact Tl.neg hz (jt _)
end Go.Proofs.Ytgndhijhcliegaa.Pure
