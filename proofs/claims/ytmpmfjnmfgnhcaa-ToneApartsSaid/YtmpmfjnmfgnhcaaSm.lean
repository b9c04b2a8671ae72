/- Words for the plain laws: a function with rounds comes to a value, from some number of rounds on. -/
import Derived.Test.YtmpmfjnmfgnhcaaWWords
import Derived.Test.YtmpmfjnmfgnhcaaWMore
import Derived.Test.YtmpmfjnmfgnhcaaPx2
import Derived.Test.YtmpmfjnmfgnhcaaPx4
import Derived.Test.YtmpmfjnmfgnhcaaPx34
import Derived.Test.YtmpmfjnmfgnhcaaPx5
import Derived.Test.YtmpmfjnmfgnhcaaPx39
import Derived.Test.YtmpmfjnmfgnhcaaPx1
import Derived.Test.YtmpmfjnmfgnhcaaPx2
import Derived.Test.YtmpmfjnmfgnhcaaPx2
import Derived.Test.YtmpmfjnmfgnhcaaPx2
import Derived.Test.YtmpmfjnmfgnhcaaPx34
import Derived.Test.YtmpmfjnmfgnhcaaPx10
import Derived.Test.YtmpmfjnmfgnhcaaPx6
import Derived.Test.YtmpmfjnmfgnhcaaPx10
import Derived.Test.YtmpmfjnmfgnhcaaPx37
import Derived.Test.YtmpmfjnmfgnhcaaPx39
import Derived.Test.YtmpmfjnmfgnhcaaPx13
import Derived.Test.YtmpmfjnmfgnhcaaPx13
set_option linter.unusedVariables false
namespace Go.Proofs.Ytmpmfjnmfgnhcaa.E
open Go.RowKit Go.Proofs.YtmpmfjnmfgnhcaaW.PrintWords Go.Proofs.YtmpmfjnmfgnhcaaW.PrintMore

/-- From some number of rounds on, g answers r. -/
def Tl {α : Type} (g : Nat → Option α) (r : α) : Prop := ∃ K, ∀ k, K ≤ k → g k = some r
theorem Tl.now {α : Type} {r : α} : Tl (fun _ => some r) r := ⟨0, fun _ _ => rfl⟩
theorem Tl.of {α : Type} {o : Option α} {r : α} (h : o = some r) : Tl (fun _ => o) r := ⟨0, fun _ _ => h⟩
theorem Tl.mono {α : Type} {g : Nat → Option α} {r : α} (hm : ∀ k, LeO (g k) (g (k + 1))) (k : Nat) (h : g k = some r) : Tl g r := ⟨k, fun _ hk => at_rounds hm hk h⟩
theorem Tl.succ {α : Type} {g : Nat → Option α} {r : α} (h : Tl (fun k => g (k + 1)) r) : Tl g r := by
  obtain ⟨K, hK⟩ := h
  refine ⟨K + 1, fun k hk => ?_⟩
  obtain ⟨m, rfl⟩ : ∃ m, k = m + 1 := ⟨k - 1, by omega⟩
  exact hK m (by omega)
theorem Tl.bind {α β : Type} {g : Nat → Option α} {f : Nat → α → Option β} {a : α} {r : β} (h : Tl g a) (hf : Tl (fun k => f k a) r) : Tl (fun k => (g k).bind (f k)) r := by
  obtain ⟨K, hK⟩ := h
  obtain ⟨L, hL⟩ := hf
  refine ⟨max K L, fun k hk => ?_⟩
  show (g k).bind (f k) = some r
  rw [hK k (by omega)]
  exact hL k (by omega)
theorem Tl.bind' {α β : Type} {o : Option α} {f : Nat → α → Option β} {a : α} {r : β} (h : o = some a) (hf : Tl (fun k => f k a) r) : Tl (fun k => o.bind (f k)) r := by
  rw [h]; exact hf
theorem Tl.congr {α : Type} {g g' : Nat → Option α} {r : α} (h : Tl g r) (e : ∀ k, g' k = g k) : Tl g' r := by
  obtain ⟨K, hK⟩ := h
  exact ⟨K, fun k hk => (e k).trans (hK k hk)⟩
theorem Tl.to {α : Type} {g : Nat → Option α} {r r' : α} (h : Tl g r) (e : r = r') : Tl g r' := e ▸ h
theorem Tl.ex {α : Type} {g : Nat → Option α} {r : α} (h : Tl g r) : ∃ k, g k = some r := by
  obtain ⟨K, hK⟩ := h
  exact ⟨K, hK K (Nat.le_refl _)⟩
theorem Tl.pos {α : Type} {c : Prop} [Decidable c] {g g' : Nat → Option α} {r : α} (hc : c) (h : Tl g r) : Tl (fun k => if c then g k else g' k) r := by
  simpa only [if_pos hc] using h
theorem Tl.neg {α : Type} {c : Prop} [Decidable c] {g g' : Nat → Option α} {r : α} (hc : ¬ c) (h : Tl g' r) : Tl (fun k => if c then g k else g' k) r := by
  simpa only [if_neg hc] using h
theorem Tl.ite {α : Type} {c : Prop} [Decidable c] {g g' : Nat → Option α} {r r' : α} (h : c → Tl g r) (h' : ¬ c → Tl g' r') : Tl (fun k => if c then g k else g' k) (if c then r else r') := by
  by_cases hc : c
  · simpa only [if_pos hc] using h hc
  · simpa only [if_neg hc] using h' hc

theorem w64 {x : Int} (h1 : -9223372036854775808 ≤ x) (h2 : x < 9223372036854775808) : wrap64 x = x := by
  unfold wrap64
  omega
theorem wf64 {x : Int} (h : (Lit.int .i64 x).wf = true) : -9223372036854775808 ≤ x ∧ x < 9223372036854775808 := by
  simp only [Lit.wf, IntKind.min, IntKind.max, IntKind.signed, IntKind.bits, Bool.and_eq_true, decide_eq_true_eq, if_true] at h
  omega
theorem mx_eq (a b : Int) : mx a b = max a b := by unfold mx; omega
theorem mn_eq (a b : Int) : mn a b = min a b := by unfold mn; omega
theorem rd_nat (xs : List Int) (i : Nat) : rd xs (i : Int) = xs.getD i 0 := by simp [rd]
theorem rd_lt {xs : List Int} {i : Nat} (h : i < xs.length) : rd xs (i : Int) = xs[i] := by rw [rd_nat, List.getD_eq_getElem?_getD, List.getElem?_eq_getElem h]; rfl
end Go.Proofs.Ytmpmfjnmfgnhcaa.E
/- Which lists are tones; seconds of a tone. -/
set_option linter.unusedVariables false
namespace Go.Proofs.Ytmpmfjnmfgnhcaa.Va
open Go.RowKit Go.Proofs.Ytmpmfjnmfgnhcaa.P Go.Proofs.Ytmpmfjnmfgnhcaa.E Go.Proofs.YtmpmfjnmfgnhcaaW.PrintMore
open Go.Proofs.YtmpmfjnmfgnhcaaW.PrintWords
def Ok (t : List Int) : Prop := 1 ≤ t.length ∧ t.length ≤ 24 ∧ ∀ i : Nat, i < t.length → rd t (i : Int) = 0 ∨ rd t (i : Int) = 1
def vc (t : List Int) : Int := if 1 ≤ t.length ∧ t.length ≤ 24 then (if t.all (fun x => decide (x = 0 ∨ x = 1)) then 0 else 1) else 3
theorem vc_ok {t : List Int} : vc t = 0 ↔ Ok t := by
  unfold vc Ok
  by_cases h : 1 ≤ t.length ∧ t.length ≤ 24
  · rw [if_pos h]
    by_cases h2 : t.all (fun x => decide (x = 0 ∨ x = 1)) = true
    · rw [if_pos h2]
      refine ⟨fun _ => ⟨h.1, h.2, fun i hi => ?_⟩, fun _ => rfl⟩
      rw [rd_lt hi]
      have := List.all_eq_true.1 h2 _ (List.getElem_mem hi)
      simpa using this
    · rw [if_neg h2]
      refine ⟨fun q => by omega, fun q => ?_⟩
      exfalso
      apply h2
      refine List.all_eq_true.2 (fun x hx => ?_)
      obtain ⟨i, hi, rfl⟩ := List.getElem_of_mem hx
      have := q.2.2 i hi
      rw [rd_lt hi] at this
      simpa using this
  · rw [if_neg h]
    exact ⟨fun q => by omega, fun q => absurd ⟨q.1, q.2.1⟩ h⟩
theorem within_eq (a b c : Int) : tone_within.f a b c = some (decide (b ≤ a ∧ a ≤ c)) := by
  unfold tone_within.f
  by_cases h : a ≥ b
  · rw [if_pos h]; congr 1; exact decide_eq_decide.2 ⟨fun q => ⟨h, q⟩, fun q => q.2⟩
  · rw [if_neg h]; congr 1; exact (decide_eq_false (by omega)).symm
theorem rwithin_eq (a b c : Int) : diaphoneref01_within.f a b c = some (decide (b ≤ a ∧ a ≤ c)) := by
  unfold diaphoneref01_within.f
  by_cases h : a ≥ b
  · rw [if_pos h]; congr 1; exact decide_eq_decide.2 ⟨fun q => ⟨h, q⟩, fun q => q.2⟩
  · rw [if_neg h]; congr 1; exact (decide_eq_false (by omega)).symm
theorem drop_cons {α : Type} {h : List α} {i : Nat} (hi : i < h.length) : h.drop i = h[i] :: h.drop (i + 1) := List.drop_eq_getElem_cons hi
/-- The bits from a place on: the number of the first other one, or -1. -/
def bits (l : List Int) : Bool := l.all (fun x => decide (x = 0 ∨ x = 1))
theorem bits_drop {t : List Int} {i : Nat} (hi : i < t.length) : bits (t.drop i) = (decide (rd t (i : Int) = 0 ∨ rd t (i : Int) = 1) && bits (t.drop (i + 1))) := by
  rw [drop_cons hi, rd_lt hi]; rfl
theorem rbits_loop (t : List Int) (hl : t.length ≤ 1000) (d : Nat) : ∀ i : Nat, i ≤ t.length → t.length - i = d → Tl (fun k => diaphoneref01_bits.l0 k t (i : Int)) (bits (t.drop i)) := by
  induction d with
  | zero =>
    intro i h1 h2
    refine Tl.succ ?_
    simp only [diaphoneref01_bits.l0]
    refine Tl.to (Tl.neg (by omega) Tl.now) ?_
    rw [List.drop_eq_nil_of_le (by omega)]; rfl
  | succ d ih =>
    intro i h1 h2
    have hlt : i < t.length := by omega
    have next := ih (i + 1) (by omega) (by omega)
    rw [show ((i + 1 : Nat) : Int) = (i : Int) + 1 by omega, ← w64 (x := (i : Int) + 1) (by omega) (by omega)] at next
    refine Tl.succ ?_
    simp only [diaphoneref01_bits.l0]
    refine Tl.pos (by omega) (Tl.pos (by omega) (Tl.bind' (rwithin_eq _ _ _) ?_))
    rw [bits_drop hlt]
    by_cases c : rd t (i : Int) = 0 ∨ rd t (i : Int) = 1
    · exact Tl.to (Tl.pos (decide_eq_true (by omega)) next) (by simp [c])
    · exact Tl.to (Tl.neg (by rw [decide_eq_true_eq]; omega) Tl.now) (by simp [c])
theorem ev_rValidate {t : List Int} (hl : t.length ≤ 1000) : Tl (fun k => diaphoneref01_Validate.f k t) (vc t) := by
  unfold diaphoneref01_Validate.f
  refine Tl.bind' (rwithin_eq _ _ _) ?_
  have b : Tl (fun k => diaphoneref01_bits.f k t) (bits t) := rbits_loop t hl t.length 0 (by omega) (by omega)
  by_cases h : 1 ≤ t.length ∧ t.length ≤ 24
  · refine Tl.pos (decide_eq_true (by omega)) (Tl.bind b ?_)
    by_cases h2 : bits t = true
    · refine Tl.to (Tl.pos h2 Tl.now) ?_
      unfold bits at h2
      simp only [vc, if_pos h, if_pos h2]
    · refine Tl.to (Tl.neg h2 Tl.now) ?_
      unfold bits at h2
      simp only [vc, if_pos h, if_neg h2]
  · exact Tl.to (Tl.neg (by rw [decide_eq_true_eq]; omega) Tl.now) (by simp only [vc, if_neg h])
theorem pbits_loop (t : List Int) (hl : t.length ≤ 1000) (d : Nat) : ∀ i : Nat, i ≤ t.length → t.length - i = d → ∃ j : Int, (j < 0 ↔ bits (t.drop i) = true) ∧ Tl (fun k => slices_IndexFunc_int_int_tone_isSeconds_1.l0 k t (t.length : Int) (i : Int)) j := by
  induction d with
  | zero =>
    intro i h1 h2
    refine ⟨-1, ?_, ?_⟩
    · rw [List.drop_eq_nil_of_le (by omega)]; simp [bits]
    · refine Tl.succ ?_
      simp only [slices_IndexFunc_int_int_tone_isSeconds_1.l0]
      exact Tl.neg (by omega) Tl.now
  | succ d ih =>
    intro i h1 h2
    have hlt : i < t.length := by omega
    obtain ⟨j, hj, next⟩ := ih (i + 1) (by omega) (by omega)
    rw [show ((i + 1 : Nat) : Int) = (i : Int) + 1 by omega, ← w64 (x := (i : Int) + 1) (by omega) (by omega)] at next
    rw [bits_drop hlt]
    have e : tone_isSeconds_1.f (rd t (i : Int)) = some (decide (¬ (rd t (i : Int) = 0 ∨ rd t (i : Int) = 1))) := by
      unfold tone_isSeconds_1.f
      by_cases h0 : rd t (i : Int) = 0
      · simp [h0]
      · by_cases h1 : rd t (i : Int) = 1
        · simp [h1]
        · simp [h0, h1]
    by_cases c : rd t (i : Int) = 0 ∨ rd t (i : Int) = 1
    · refine ⟨j, by rw [hj]; simp [c], ?_⟩
      refine Tl.succ ?_
      simp only [slices_IndexFunc_int_int_tone_isSeconds_1.l0]
      exact Tl.pos (by omega) (Tl.pos (by omega) (Tl.pos (by omega) (Tl.bind' e (Tl.neg (by simp [c]) next))))
    · refine ⟨(i : Int), by simp [c] <;> omega, ?_⟩
      refine Tl.succ ?_
      simp only [slices_IndexFunc_int_int_tone_isSeconds_1.l0]
      exact Tl.pos (by omega) (Tl.pos (by omega) (Tl.pos (by omega) (Tl.bind' e (Tl.pos (by simp [c]) Tl.now))))
theorem ev_Validate {t : List Int} (hl : t.length ≤ 1000) : Tl (fun k => tone_Validate.f k t) (vc t) := by
  unfold tone_Validate.f
  refine Tl.bind' (within_eq _ _ _) ?_
  obtain ⟨j, hj, hr⟩ := pbits_loop t hl t.length 0 (by omega) (by omega)
  have b : Tl (fun k => tone_isSeconds.f k t) (bits t) := by
    unfold tone_isSeconds.f slices_ContainsFunc_int_int_tone_isSeconds_1.f
    refine Tl.to (Tl.bind (Tl.bind hr Tl.now) Tl.now) ?_
    rw [List.drop_zero] at hj
    cases hb : bits t with
    | true => rw [hb] at hj; have := hj.2 rfl; simp; omega
    | false => rw [hb] at hj; have : ¬ j < 0 := fun q => by simpa using hj.1 q
               simp; omega
  by_cases h : 1 ≤ t.length ∧ t.length ≤ 24
  · refine Tl.pos (decide_eq_true (by omega)) (Tl.bind b ?_)
    by_cases h2 : bits t = true
    · refine Tl.to (Tl.pos h2 Tl.now) ?_
      unfold bits at h2
      simp only [vc, if_pos h, if_pos h2]
    · refine Tl.to (Tl.neg h2 Tl.now) ?_
      unfold bits at h2
      simp only [vc, if_pos h, if_neg h2]
  · exact Tl.to (Tl.neg (by rw [decide_eq_true_eq]; omega) Tl.now) (by simp only [vc, if_neg h])
/-- A second, at whatever number. -/
def sec (t : List Int) (i : Int) : Int := rd t (i % (t.length : Int))
theorem at_eq {t : List Int} (h0 : 0 < t.length) (hl : t.length ≤ 1000) (i : Int) : tone_at.f t i = some (sec t i) := by
  have hn : (0 : Int) < t.length := by omega
  have m1 := Int.emod_nonneg i (show (t.length : Int) ≠ 0 by omega)
  have m2 := Int.emod_lt_of_pos i hn
  have e : Int.tmod i (t.length : Int) = i % (t.length : Int) ∨ (Int.tmod i (t.length : Int) < 0 ∧ Int.tmod i (t.length : Int) + (t.length : Int) = i % (t.length : Int)) := by
    rcases Int.le_total 0 i with h | h
    · exact .inl (Int.tmod_eq_emod_of_nonneg h)
    · have := Int.tmod_eq_emod (a := i) (b := (t.length : Int))
      by_cases c : 0 ≤ i ∨ (t.length : Int) ∣ i
      · rw [if_pos c] at this; exact .inl (by omega)
      · rw [if_neg c] at this
        right
        have : ((t.length : Int).natAbs : Int) = t.length := by omega
        omega
  unfold tone_at.f sec
  rw [if_neg (by omega)]
  rcases e with e | ⟨e1, e2⟩
  · rw [e, if_neg (by omega), if_pos m1, if_pos m2]
  · rw [if_pos e1, w64 (by omega) (by omega), e2, if_pos m1, if_pos m2]
theorem rat_eq {t : List Int} (h0 : 0 < t.length) (hl : t.length ≤ 1000) (i : Int) : diaphoneref01_at.f t i = some (sec t i) := by
  have hn : (0 : Int) < t.length := by omega
  have m1 := Int.emod_nonneg i (show (t.length : Int) ≠ 0 by omega)
  have m2 := Int.emod_lt_of_pos i hn
  have e : Int.tmod i (t.length : Int) = i % (t.length : Int) ∨ (Int.tmod i (t.length : Int) < 0 ∧ Int.tmod i (t.length : Int) + (t.length : Int) = i % (t.length : Int)) := by
    rcases Int.le_total 0 i with h | h
    · exact .inl (Int.tmod_eq_emod_of_nonneg h)
    · have := Int.tmod_eq_emod (a := i) (b := (t.length : Int))
      by_cases c : 0 ≤ i ∨ (t.length : Int) ∣ i
      · rw [if_pos c] at this; exact .inl (by omega)
      · rw [if_neg c] at this
        right
        have : ((t.length : Int).natAbs : Int) = t.length := by omega
        omega
  unfold diaphoneref01_at.f sec
  rw [if_neg (by omega)]
  rcases e with e | ⟨e1, e2⟩
  · rw [e, w64 (by omega) (by omega)]
    have e3 : Int.tmod (i % (t.length : Int) + (t.length : Int)) (t.length : Int) = i % (t.length : Int) := by
      rw [Int.tmod_eq_emod_of_nonneg (by omega), Int.add_emod_right, Int.emod_emod]
    rw [e3, if_pos m1, if_pos m2]
  · rw [e2, w64 (by omega) (by omega)]
    have e3 : Int.tmod (i % (t.length : Int)) (t.length : Int) = i % (t.length : Int) := by
      rw [Int.tmod_eq_emod_of_nonneg (by omega), Int.emod_emod]
    rw [e3, if_pos m1, if_pos m2]
theorem same_loop (l : List Int) (hl : l.length ≤ 1000) (d : Nat) : ∀ i : Nat, i ≤ l.length → l.length - i = d → Tl (fun k => diaphoneref01_SameInts.l0 k l l (i : Int)) true := by
  induction d with
  | zero =>
    intro i h1 h2
    refine Tl.succ ?_
    simp only [diaphoneref01_SameInts.l0]
    exact Tl.neg (by omega) Tl.now
  | succ d ih =>
    intro i h1 h2
    refine Tl.succ ?_
    simp only [diaphoneref01_SameInts.l0]
    rw [w64 (by omega) (by omega)]
    exact Tl.pos (by omega) (Tl.pos (by omega) (Tl.pos (by omega) (Tl.pos trivial (ih (i + 1) (by omega) (by omega)))))
theorem ev_SameInts (l : List Int) (hl : l.length ≤ 1000) : Tl (fun k => diaphoneref01_SameInts.f k l l) true := by
  unfold diaphoneref01_SameInts.f
  exact Tl.pos rfl (same_loop l hl l.length 0 (by omega) (by omega))
theorem known_at : diaphonelaw01_known.f 60 = some true := by decide +kernel
theorem ev_known : Tl (fun k => diaphonelaw01_known.f k) true := Tl.mono diaphonelaw01_known.mono 60 known_at
theorem ev_known' : Tl (fun k => (diaphonelaw01_known.f k).bind fun t => some t) true := Tl.bind ev_known Tl.now
theorem by_long {h : List Int} {g : Nat → Option Bool} (hg : h.length ≤ 200 → Tl g true) : Tl (fun k => (diaphonelaw01_Long.f h).bind fun t => if t = true then ((diaphonelaw01_known.f k).bind fun t => some t) else g k) true := by
  unfold diaphonelaw01_Long.f
  by_cases hl : (h.length : Int) > 200
  · exact Tl.bind' rfl (Tl.pos (decide_eq_true hl) ev_known')
  · exact Tl.bind' rfl (Tl.neg (by simpa using hl) (hg (by omega)))
end Go.Proofs.Ytmpmfjnmfgnhcaa.Va
/- Tones that begin with another second; the period. -/
set_option linter.unusedVariables false
namespace Go.Proofs.Ytmpmfjnmfgnhcaa.Pe
open Go.RowKit Go.Proofs.Ytmpmfjnmfgnhcaa.P Go.Proofs.Ytmpmfjnmfgnhcaa.E Go.Proofs.Ytmpmfjnmfgnhcaa.Va Go.Proofs.YtmpmfjnmfgnhcaaW.PrintMore
open Go.Proofs.YtmpmfjnmfgnhcaaW.PrintWords
def rot (t : List Int) (b : Nat) : List Int := t.drop b ++ t.take b
theorem rot_length {t : List Int} {b : Nat} (hb : b ≤ t.length) : (rot t b).length = t.length := by
  simp [rot]; omega
theorem tmod_cases {n : Int} (hn : 0 < n) (i : Int) : (Int.tmod i n = i % n) ∨ (Int.tmod i n < 0 ∧ Int.tmod i n + n = i % n) := by
  rcases Int.le_total 0 i with h | h
  · exact .inl (Int.tmod_eq_emod_of_nonneg h)
  · have := Int.tmod_eq_emod (a := i) (b := n)
    by_cases c : 0 ≤ i ∨ n ∣ i
    · rw [if_pos c] at this; exact .inl (by omega)
    · rw [if_neg c] at this
      right
      have h1 := Int.emod_lt_of_pos i hn
      have h2 : (n.natAbs : Int) = n := by omega
      omega
theorem turn_eq {t : List Int} (h0 : 0 < t.length) (hl : t.length ≤ 1000) (b : Int) : tone_turn.f t b = some (rot t (b % (t.length : Int)).toNat) := by
  have hn : (0 : Int) < t.length := by omega
  have m1 := Int.emod_nonneg b (show (t.length : Int) ≠ 0 by omega)
  have m2 := Int.emod_lt_of_pos b hn
  have cc : ∀ j : Nat, j ≤ t.length → slices_Concat_int_int.f [t.drop j, t.take j] = some (rot t j) := by
    intro j hj
    unfold slices_Concat_int_int.f
    have e : ([t.drop j, t.take j] : List (List Int)).flatten = rot t j := by simp [rot]
    rw [e, rot_length hj, if_pos ⟨h0, by omega, by simp⟩]
  unfold tone_turn.f
  rw [if_neg (by omega)]
  rcases tmod_cases hn b with e | ⟨e1, e2⟩
  · rw [e, if_neg (by omega), if_pos m1, if_pos (by omega), cc _ (by omega)]
    rfl
  · rw [if_pos e1, w64 (by omega) (by omega), e2, if_pos m1, if_pos (by omega), cc _ (by omega)]
    rfl
theorem eq_loop {a b : List Int} (h : a.length = b.length) (hl : a.length ≤ 1000) (d : Nat) : ∀ i : Nat, i ≤ a.length → a.length - i = d → Tl (fun k => slices_Equal_int_int.l0 k a b (a.length : Int) (i : Int)) (decide (a.drop i = b.drop i)) := by
  induction d with
  | zero =>
    intro i h1 h2
    refine Tl.succ ?_
    simp only [slices_Equal_int_int.l0]
    refine Tl.to (Tl.neg (by omega) Tl.now) ?_
    rw [List.drop_eq_nil_of_le (by omega), List.drop_eq_nil_of_le (by omega)]; simp
  | succ d ih =>
    intro i h1 h2
    have h3 : i < a.length := by omega
    have h4 : i < b.length := by omega
    have next := ih (i + 1) (by omega) (by omega)
    rw [show ((i + 1 : Nat) : Int) = (i : Int) + 1 by omega, ← w64 (x := (i : Int) + 1) (by omega) (by omega)] at next
    refine Tl.succ ?_
    simp only [slices_Equal_int_int.l0]
    refine Tl.pos (by omega) (Tl.pos (by omega) (Tl.pos (by omega) (Tl.pos (by omega) ?_)))
    have e : (a.drop i = b.drop i) ↔ (a[i] = b[i] ∧ a.drop (i + 1) = b.drop (i + 1)) := by rw [drop_cons h3, drop_cons h4, List.cons.injEq]
    rw [rd_lt h3, rd_lt h4]
    by_cases c : a[i] = b[i]
    · exact Tl.to (Tl.pos c next) (decide_eq_decide.2 ⟨fun q => e.2 ⟨c, q⟩, fun q => (e.1 q).2⟩)
    · exact Tl.to (Tl.neg c Tl.now) (decide_eq_false (fun q => c (e.1 q).1)).symm
theorem ev_Equal {a b : List Int} (hl : a.length ≤ 1000) : Tl (fun k => slices_Equal_int_int.f k a b) (decide (a = b)) := by
  unfold slices_Equal_int_int.f
  by_cases h : a.length = b.length
  · refine Tl.pos (by omega) ?_
    have := eq_loop h hl a.length 0 (by omega) (by omega)
    simpa using this
  · exact Tl.to (Tl.neg (by omega) Tl.now) (decide_eq_false (fun q => h (by rw [q]))).symm
/-- A tone that begins with second p is the tone itself. -/
def Per (t : List Int) (p : Nat) : Prop := ∀ i : Int, sec t (i + p) = sec t i
theorem sec_emod (t : List Int) (i : Int) : sec t (i % (t.length : Int)) = sec t i := by
  unfold sec
  rw [Int.emod_emod]
theorem sec_nat {t : List Int} {i : Nat} (hi : i < t.length) : sec t (i : Int) = t[i] := by
  unfold sec
  rw [Int.emod_eq_of_lt (by omega) (by omega), rd_lt hi]
theorem rot_get {t : List Int} {b i : Nat} (hb : b ≤ t.length) (hi : i < t.length) : (rot t b)[i]? = some (sec t ((i + b : Nat) : Int)) := by
  unfold rot
  by_cases c : i < t.length - b
  · rw [List.getElem?_append_left (by simp; omega), List.getElem?_drop, List.getElem?_eq_getElem (by omega), sec_nat (by omega)]
    congr 2
    omega
  · rw [List.getElem?_append_right (by simp; omega), List.length_drop, List.getElem?_take_of_lt (by omega), List.getElem?_eq_getElem (by omega)]
    congr 1
    rw [← sec_emod]
    have e : (((i + b : Nat) : Int)) % (t.length : Int) = ((i - (t.length - b) : Nat) : Int) := by
      have e1 : ((i + b : Nat) : Int) = ((i - (t.length - b) : Nat) : Int) + (t.length : Int) := by omega
      rw [e1, Int.add_emod_right, Int.emod_eq_of_lt (by omega) (by omega)]
    rw [e, sec_nat (by omega)]
theorem rot_iff {t : List Int} (h0 : 0 < t.length) (p : Nat) : rot t (((p : Int) % (t.length : Int)).toNat) = t ↔ Per t p := by
  have hn : (0 : Int) < t.length := by omega
  have m1 := Int.emod_nonneg (p : Int) (show (t.length : Int) ≠ 0 by omega)
  have m2 := Int.emod_lt_of_pos (p : Int) hn
  obtain ⟨b, hb⟩ : ∃ b : Nat, (p : Int) % (t.length : Int) = b := ⟨((p : Int) % (t.length : Int)).toNat, by omega⟩
  rw [hb, Int.toNat_natCast]
  have key : ∀ j : Int, sec t (j + p) = sec t (j % (t.length : Int) + b) := by
    intro j
    rw [← sec_emod t (j + p), ← sec_emod t (j % (t.length : Int) + b), ← hb]
    congr 1
    rw [Int.add_emod j p, ← Int.emod_add_emod]
  constructor
  · intro h i
    rw [key]
    have k1 := Int.emod_nonneg i (show (t.length : Int) ≠ 0 by omega)
    have k2 := Int.emod_lt_of_pos i hn
    obtain ⟨c, hc⟩ : ∃ c : Nat, i % (t.length : Int) = c := ⟨(i % (t.length : Int)).toNat, by omega⟩
    have g := rot_get (t := t) (b := b) (i := c) (by omega) (by omega)
    rw [h, List.getElem?_eq_getElem (by omega)] at g
    rw [← sec_emod t i, hc, sec_nat (by omega)]
    have := Option.some.inj g
    rw [this]
    congr 1
  · intro h
    refine List.ext_getElem? (fun i => ?_)
    by_cases hi : i < t.length
    · rw [rot_get (by omega) hi, List.getElem?_eq_getElem hi]
      congr 1
      have := h (i : Int)
      rw [key, Int.emod_eq_of_lt (by omega) (by omega), sec_nat hi] at this
      rw [← this]
      congr 1
    · rw [List.getElem?_eq_none (by rw [rot_length (by omega)]; omega), List.getElem?_eq_none (by omega)]
theorem per_len (t : List Int) : Per t t.length := fun i => by
  rw [← sec_emod, Int.add_emod_right, sec_emod]
/-- The period: the first number of seconds behind which a tone begins anew. -/
def IsPer (t : List Int) (p : Nat) : Prop := 1 ≤ p ∧ p ≤ t.length ∧ Per t p ∧ ∀ q, 1 ≤ q → q < p → ¬ Per t q
theorem IsPer.unique {t : List Int} {p q : Nat} (h : IsPer t p) (k : IsPer t q) : p = q := by
  rcases Nat.lt_trichotomy p q with c | c | c
  · exact absurd h.2.2.1 (k.2.2.2 p h.1 c)
  · exact c
  · exact absurd k.2.2.1 (h.2.2.2 q k.1 c)
theorem per_loop {t : List Int} (h0 : 0 < t.length) (hl : t.length ≤ 1000) (d : Nat) : ∀ p : Nat, 1 ≤ p → p ≤ t.length → t.length - p = d → (∀ q, 1 ≤ q → q < p → ¬ Per t q) →
    ∃ r, IsPer t r ∧ Tl (fun k => tone_period.l0 k t (p : Int)) (r : Int) := by
  induction d with
  | zero =>
    intro p h1 h2 h3 h4
    obtain rfl : p = t.length := by omega
    refine ⟨t.length, ⟨h1, Nat.le_refl _, per_len t, h4⟩, Tl.succ ?_⟩
    simp only [tone_period.l0]
    refine Tl.bind' (turn_eq h0 hl _) (Tl.bind (ev_Equal (by rw [rot_length]; omega; simp)) (Tl.pos ?_ Tl.now))
    exact decide_eq_true ((rot_iff h0 t.length).2 (per_len t))
  | succ d ih =>
    intro p h1 h2 h3 h4
    have hn : (0 : Int) < t.length := by omega
    have m2 := Int.emod_lt_of_pos (p : Int) hn
    by_cases c : Per t p
    · refine ⟨p, ⟨h1, h2, c, h4⟩, Tl.succ ?_⟩
      simp only [tone_period.l0]
      exact Tl.bind' (turn_eq h0 hl _) (Tl.bind (ev_Equal (by rw [rot_length]; omega; omega)) (Tl.pos (decide_eq_true ((rot_iff h0 p).2 c)) Tl.now))
    · obtain ⟨r, hr, next⟩ := ih (p + 1) (by omega) (by omega) (by omega) (fun q q1 q2 => by
        by_cases e : q = p
        · rw [e]; exact c
        · exact h4 q q1 (by omega))
      rw [show ((p + 1 : Nat) : Int) = (p : Int) + 1 by omega, ← w64 (x := (p : Int) + 1) (by omega) (by omega)] at next
      refine ⟨r, hr, Tl.succ ?_⟩
      simp only [tone_period.l0]
      exact Tl.bind' (turn_eq h0 hl _) (Tl.bind (ev_Equal (by rw [rot_length]; omega; omega)) (Tl.neg (by rw [decide_eq_true_eq]; exact fun q => c ((rot_iff h0 p).1 q)) next))
theorem ev_period {t : List Int} (h0 : 0 < t.length) (hl : t.length ≤ 1000) : ∃ r, IsPer t r ∧ Tl (fun k => tone_period.f k t) (r : Int) :=
  per_loop h0 hl (t.length - 1) 1 (by omega) (by omega) rfl (fun q q1 q2 => by omega)
end Go.Proofs.Ytmpmfjnmfgnhcaa.Pe
/- Roots, pieces and names: what both programs calculate. -/
set_option linter.unusedVariables false
namespace Go.Proofs.Ytmpmfjnmfgnhcaa.Nm
open Go.RowKit Go.Proofs.Ytmpmfjnmfgnhcaa.P Go.Proofs.Ytmpmfjnmfgnhcaa.E Go.Proofs.Ytmpmfjnmfgnhcaa.Va Go.Proofs.Ytmpmfjnmfgnhcaa.Pe Go.Proofs.YtmpmfjnmfgnhcaaW.PrintMore
open Go.Proofs.YtmpmfjnmfgnhcaaW.PrintWords
theorem ev_root {t : List Int} (h0 : 0 < t.length) (hl : t.length ≤ 1000) {p : Nat} (hp : IsPer t p) : Tl (fun k => tone_root.f k t) (t.take p) := by
  obtain ⟨q, hq, hr⟩ := ev_period h0 hl
  obtain rfl := hp.unique hq
  have h2 := hp.2.1
  unfold tone_root.f
  refine Tl.bind hr (Tl.pos (by omega) (Tl.pos (by omega) (Tl.bind' ?_ Tl.now)))
  unfold slices_Clone_int_int.f
  rw [if_pos (by simp; omega), Int.toNat_natCast]
/-- n seconds from second f on. -/
def pc (t : List Int) (f : Int) (n : Nat) : List Int := (List.range n).map (fun (j : Nat) => sec t (f + (j : Int)))
theorem pc_length (t : List Int) (f : Int) (n : Nat) : (pc t f n).length = n := by simp [pc]
theorem pc_succ (t : List Int) (f : Int) (n : Nat) : pc t f (n + 1) = pc t f n ++ [sec t (f + n)] := by simp [pc, List.range_succ]
theorem piece_loop {t : List Int} (h0 : 0 < t.length) (hl : t.length ≤ 1000) {f : Int} (hf : -1000000 ≤ f ∧ f ≤ 1000000) {n : Nat} (hn : n ≤ 1000) (d : Nat) : ∀ i : Nat, i ≤ n → n - i = d → Tl (fun k => diaphoneref01_piece.l0 k t f (n : Int) (pc t f i) (i : Int)) (pc t f n) := by
  induction d with
  | zero =>
    intro i h1 h2
    obtain rfl : i = n := by omega
    refine Tl.succ ?_
    simp only [diaphoneref01_piece.l0]
    exact Tl.neg (by omega) Tl.now
  | succ d ih =>
    intro i h1 h2
    have next := ih (i + 1) (by omega) (by omega)
    rw [show ((i + 1 : Nat) : Int) = (i : Int) + 1 by omega, pc_succ] at next
    have := pc_length t f i
    refine Tl.succ ?_
    simp only [diaphoneref01_piece.l0]
    rw [w64 (x := f + (i : Int)) (by omega) (by omega), w64 (x := (i : Int) + 1) (by omega) (by omega)]
    exact Tl.pos (by omega) (Tl.bind' (rat_eq h0 hl _) (Tl.pos (by omega) next))
theorem ev_piece {t : List Int} (h0 : 0 < t.length) (hl : t.length ≤ 1000) {f : Int} (hf : -1000000 ≤ f ∧ f ≤ 1000000) {n : Nat} (hn : n ≤ 1000) : Tl (fun k => diaphoneref01_piece.f k t f (n : Int)) (pc t f n) :=
  piece_loop h0 hl hf hn n 0 (by omega) (by omega)
theorem pc_take {t : List Int} {p : Nat} (hp : p ≤ t.length) : pc t 0 p = t.take p := by
  refine List.ext_getElem? (fun i => ?_)
  by_cases h : i < p
  · rw [List.getElem?_take_of_lt h, List.getElem?_eq_getElem (show i < t.length by omega), List.getElem?_eq_getElem (show i < (pc t 0 p).length by rw [pc_length]; omega)]
    congr 1
    simp only [pc, List.getElem_map, List.getElem_range, Int.zero_add]
    exact sec_nat (by omega)
  · rw [List.getElem?_eq_none (by rw [pc_length]; omega), List.getElem?_eq_none (by simp; omega)]
theorem per_mul {t : List Int} {p : Nat} (h : Per t p) (k : Nat) : ∀ i : Int, sec t (i + (p : Int) * k) = sec t i := by
  induction k with
  | zero => intro i; simp
  | succ k ih =>
    intro i
    have : i + (p : Int) * ((k + 1 : Nat) : Int) = (i + (p : Int) * k) + p := by
      rw [show ((k + 1 : Nat) : Int) = (k : Int) + 1 by omega, Int.mul_add]; omega
    rw [this, h, ih]
/-- The period divides every number of seconds behind which a tone begins anew. -/
theorem per_dvd {t : List Int} {p n : Nat} (h : IsPer t p) (hn : Per t n) : n % p = 0 := by
  rcases Nat.eq_zero_or_pos (n % p) with c | c
  · exact c
  · exfalso
    refine h.2.2.2 (n % p) c (Nat.mod_lt _ h.1) (fun i => ?_)
    rw [← per_mul h.2.2.1 (n / p) (i + ((n % p : Nat) : Int)), ← hn i]
    congr 1
    have := Nat.mod_add_div n p
    have e : ((n % p : Nat) : Int) + (p : Int) * ((n / p : Nat) : Int) = (n : Int) := by rw [← Int.natCast_mul, ← Int.natCast_add, this]
    omega
/-- The seconds of the root are the seconds of the tone. -/
theorem sec_root {t : List Int} {p : Nat} (h1 : 1 ≤ p) (h2 : p ≤ t.length) (h : Per t p) (i : Nat) : sec (t.take p) (i : Int) = sec t (i : Int) := by
  have e : (i : Int) = ((i % p : Nat) : Int) + (p : Int) * ((i / p : Nat) : Int) := by
    rw [← Int.natCast_mul, ← Int.natCast_add, Nat.mod_add_div]
  have hm := Nat.mod_lt i h1
  have hlen : (t.take p).length = p := by simp; omega
  rw [← sec_emod, hlen, show (i : Int) % (p : Int) = ((i % p : Nat) : Int) by omega, sec_nat (by omega), List.getElem_take]
  conv => rhs; rw [e]
  rw [per_mul h, sec_nat (by omega)]
theorem rot_pc {t : List Int} {p i : Nat} (h1 : 1 ≤ p) (h2 : p ≤ t.length) (h : Per t p) (hi : i ≤ p) : rot (t.take p) i = pc t (i : Int) p := by
  have hlen : (t.take p).length = p := by simp; omega
  refine List.ext_getElem? (fun j => ?_)
  by_cases hj : j < p
  · rw [rot_get (by omega) (by omega), sec_root h1 h2 h, List.getElem?_eq_getElem (by rw [pc_length]; omega)]
    congr 1
    simp only [pc, List.getElem_map, List.getElem_range]
    congr 1
    omega
  · rw [List.getElem?_eq_none (by rw [rot_length (by omega)]; omega), List.getElem?_eq_none (by rw [pc_length]; omega)]
/-- The order of lists of one length. -/
def lt : List Int → List Int → Bool
  | a :: l, b :: m => if a = b then lt l m else decide (a < b)
  | _, _ => false
theorem before_loop {a b : List Int} (h : a.length = b.length) (hl : a.length ≤ 1000) (d : Nat) : ∀ i : Nat, i ≤ a.length → a.length - i = d → Tl (fun k => diaphoneref01_before.l0 k a b (i : Int)) (lt (a.drop i) (b.drop i)) := by
  induction d with
  | zero =>
    intro i h1 h2
    refine Tl.succ ?_
    simp only [diaphoneref01_before.l0]
    refine Tl.to (Tl.neg (by omega) Tl.now) ?_
    rw [List.drop_eq_nil_of_le (by omega), List.drop_eq_nil_of_le (by omega)]; rfl
  | succ d ih =>
    intro i h1 h2
    have h3 : i < a.length := by omega
    have h4 : i < b.length := by omega
    have next := ih (i + 1) (by omega) (by omega)
    rw [show ((i + 1 : Nat) : Int) = (i : Int) + 1 by omega, ← w64 (x := (i : Int) + 1) (by omega) (by omega)] at next
    have e : lt (a.drop i) (b.drop i) = if a[i] = b[i] then lt (a.drop (i + 1)) (b.drop (i + 1)) else decide (a[i] < b[i]) := by rw [drop_cons h3, drop_cons h4]; rfl
    rw [e]
    refine Tl.succ ?_
    simp only [diaphoneref01_before.l0]
    rw [rd_lt h3, rd_lt h4]
    exact Tl.pos (by omega) (Tl.pos (by omega) (Tl.pos (by omega) (Tl.ite (fun _ => next) (fun _ => Tl.now))))
theorem ev_before {a b : List Int} (h : a.length = b.length) (hl : a.length ≤ 1000) : Tl (fun k => diaphoneref01_before.f k a b) (lt a b) := by
  have := before_loop h hl a.length 0 (by omega) (by omega)
  unfold diaphoneref01_before.f
  simpa using this
theorem cmp_eq (a b : Int) : cmp_Compare_int.f a b = some (if a < b then -1 else if a > b then 1 else 0) := by
  unfold cmp_Compare_int.f cmp_isNaN_int.f
  by_cases h1 : a < b
  · simp [h1]
  · by_cases h2 : a > b
    · simp [h1, h2]
    · simp [h1, h2]
theorem compare_loop {a b : List Int} (h : a.length = b.length) (hl : a.length ≤ 1000) (d : Nat) : ∀ i : Nat, i ≤ a.length → a.length - i = d → ∃ c : Int, (c < 0 ↔ lt (a.drop i) (b.drop i) = true) ∧ Tl (fun k => slices_Compare_int_int.l0 k a b a (a.length : Int) (i : Int)) c := by
  induction d with
  | zero =>
    intro i h1 h2
    refine ⟨0, ?_, Tl.succ ?_⟩
    · rw [List.drop_eq_nil_of_le (by omega), List.drop_eq_nil_of_le (by omega)]; simp [lt]
    · simp only [slices_Compare_int_int.l0]
      exact Tl.neg (by omega) (Tl.neg (by omega) Tl.now)
  | succ d ih =>
    intro i h1 h2
    have h3 : i < a.length := by omega
    have h4 : i < b.length := by omega
    have e : lt (a.drop i) (b.drop i) = if a[i] = b[i] then lt (a.drop (i + 1)) (b.drop (i + 1)) else decide (a[i] < b[i]) := by rw [drop_cons h3, drop_cons h4]; rfl
    rw [e]
    by_cases c0 : a[i] = b[i]
    · obtain ⟨c, hc, next⟩ := ih (i + 1) (by omega) (by omega)
      rw [show ((i + 1 : Nat) : Int) = (i : Int) + 1 by omega, ← w64 (x := (i : Int) + 1) (by omega) (by omega)] at next
      refine ⟨c, by rw [if_pos c0]; exact hc, Tl.succ ?_⟩
      simp only [slices_Compare_int_int.l0]
      refine Tl.pos (by omega) (Tl.pos (by omega) (Tl.pos (by omega) (Tl.neg (by omega) (Tl.pos (by omega) (Tl.bind' (cmp_eq _ _) (Tl.pos ?_ next))))))
      rw [rd_lt h3, rd_lt h4, c0]; simp
    · refine ⟨if a[i] < b[i] then -1 else if a[i] > b[i] then 1 else 0, ?_, Tl.succ ?_⟩
      · rw [if_neg c0, decide_eq_true_eq]
        split
        · simp [*]
        · split <;> simp [*]
      · simp only [slices_Compare_int_int.l0]
        refine Tl.pos (by omega) (Tl.pos (by omega) (Tl.pos (by omega) (Tl.neg (by omega) (Tl.pos (by omega) (Tl.bind' (cmp_eq _ _) ?_)))))
        rw [rd_lt h3, rd_lt h4]
        refine Tl.neg ?_ Tl.now
        split
        · decide
        · split
          · decide
          · omega
theorem ev_Compare {a b : List Int} (h : a.length = b.length) (hl : a.length ≤ 1000) : ∃ c : Int, (c < 0 ↔ lt a b = true) ∧ Tl (fun k => slices_Compare_int_int.f k a b) c := by
  have := compare_loop h hl a.length 0 (by omega) (by omega)
  unfold slices_Compare_int_int.f
  simpa using this
theorem lt_trans : ∀ {a b c : List Int}, a.length = b.length → b.length = c.length → lt a b = true → lt b c = true → lt a c = true
  | [], [], _, _, _, h, _ => by simp [lt] at h
  | x :: a, y :: b, [], _, h2, _, _ => by simp at h2
  | [], y :: b, _, h1, _, _, _ => by simp at h1
  | x :: a, [], _, h1, _, _, _ => by simp at h1
  | x :: a, y :: b, z :: c, h1, h2, p, q => by
    simp only [lt] at p q ⊢
    by_cases e1 : x = y
    · rw [if_pos e1] at p
      by_cases e2 : y = z
      · rw [if_pos e2] at q
        rw [if_pos (by omega)]
        exact lt_trans (by simpa using h1) (by simpa using h2) p q
      · rw [if_neg e2, decide_eq_true_eq] at q
        rw [if_neg (by omega), decide_eq_true_eq]
        omega
    · rw [if_neg e1, decide_eq_true_eq] at p
      by_cases e2 : y = z
      · rw [if_neg (by omega), decide_eq_true_eq]
        omega
      · rw [if_neg e2, decide_eq_true_eq] at q
        rw [if_neg (by omega), decide_eq_true_eq]
        omega
theorem lt_total : ∀ {a b : List Int}, a.length = b.length → lt a b = false → lt b a = false → a = b
  | [], [], _, _, _ => rfl
  | x :: a, [], h, _, _ => by simp at h
  | [], y :: b, h, _, _ => by simp at h
  | x :: a, y :: b, h, p, q => by
    simp only [lt] at p q
    by_cases e : x = y
    · rw [if_pos e] at p
      rw [if_pos e.symm] at q
      rw [e, lt_total (by simpa using h) p q]
    · rw [if_neg e, decide_eq_false_iff_not] at p
      rw [if_neg (fun z => e z.symm), decide_eq_false_iff_not] at q
      omega
theorem lt_self (l : List Int) : lt l l = false := by
  induction l with
  | nil => rfl
  | cons a l ih => simp [lt, ih]
theorem name_loop {t : List Int} (h0 : 0 < t.length) (hl : t.length ≤ 1000) {p : Nat} (hp : IsPer t p) (d : Nat) : ∀ (i : Nat) (b : List Int), i ≤ p → p - i = d → b.length = p → (∃ j, j < p ∧ b = pc t ((j : Nat) : Int) p) → (∀ q : Nat, q < i → lt (pc t (q : Int) p) b = false) →
    ∃ r : List Int, r.length = p ∧ ((∃ j, j < p ∧ r = pc t ((j : Nat) : Int) p) ∧ ∀ q : Nat, q < p → lt (pc t (q : Int) p) r = false) ∧ Tl (fun k => tone_name.l0 k (t.take p) b (i : Int)) r ∧ Tl (fun k => diaphoneref01_name.l0 k t (p : Int) b (i : Int)) r := by
  have h1 := hp.1
  have h2 := hp.2.1
  have hlen : (t.take p).length = p := by simp; omega
  induction d with
  | zero =>
    intro i b i1 i2 hb hj hm
    refine ⟨b, hb, ⟨hj, fun q hq => hm q (by omega)⟩, Tl.succ ?_, Tl.succ ?_⟩
    · simp only [tone_name.l0]
      exact Tl.neg (by omega) Tl.now
    · simp only [diaphoneref01_name.l0]
      exact Tl.neg (by omega) Tl.now
  | succ d ih =>
    intro i b i1 i2 hb hj hm
    have e1 : tone_turn.f (t.take p) (i : Int) = some (pc t (i : Int) p) := by
      rw [turn_eq (by omega) (by omega), hlen, Int.emod_eq_of_lt (by omega) (by omega), Int.toNat_natCast, rot_pc h1 h2 hp.2.2.1 (by omega)]
    have hpl := pc_length t (i : Int) p
    obtain ⟨c, hc, ec⟩ := ev_Compare (a := pc t (i : Int) p) (b := b) (by omega) (by omega)
    have eb := ev_before (a := pc t (i : Int) p) (b := b) (by omega) (by omega)
    have ep := ev_piece h0 hl (f := (i : Int)) (by omega) (show p ≤ 1000 by omega)
    have ei : ((i + 1 : Nat) : Int) = (i : Int) + 1 := by omega
    by_cases q : lt (pc t (i : Int) p) b = true
    · obtain ⟨r, hr, hch, n1, n2⟩ := ih (i + 1) (pc t (i : Int) p) (by omega) (by omega) hpl ⟨i, by omega, rfl⟩ (fun z hz => by
        by_cases e : z = i
        · rw [e]; exact lt_self _
        · cases hq : lt (pc t (z : Int) p) (pc t (i : Int) p) with
          | false => rfl
          | true =>
            have := lt_trans (by rw [pc_length, pc_length]) (by rw [pc_length]; omega) hq q
            rw [hm z (by omega)] at this
            exact this.symm)
      rw [ei] at n1 n2
      refine ⟨r, hr, hch, Tl.succ ?_, Tl.succ ?_⟩
      · simp only [tone_name.l0]
        rw [w64 (x := (i : Int) + 1) (by omega) (by omega)]
        exact Tl.pos (by omega) (Tl.bind' e1 (Tl.bind ec (Tl.pos (hc.2 q) n1)))
      · simp only [diaphoneref01_name.l0]
        rw [w64 (x := (i : Int) + 1) (by omega) (by omega)]
        exact Tl.pos (by omega) (Tl.bind ep (Tl.bind eb (Tl.pos q n2)))
    · obtain ⟨r, hr, hch, n1, n2⟩ := ih (i + 1) b (by omega) (by omega) hb hj (fun z hz => by
        by_cases e : z = i
        · rw [e]; simpa using q
        · exact hm z (by omega))
      rw [ei] at n1 n2
      refine ⟨r, hr, hch, Tl.succ ?_, Tl.succ ?_⟩
      · simp only [tone_name.l0]
        rw [w64 (x := (i : Int) + 1) (by omega) (by omega)]
        exact Tl.pos (by omega) (Tl.bind' e1 (Tl.bind ec (Tl.neg (fun z => q (hc.1 z)) n1)))
      · simp only [diaphoneref01_name.l0]
        rw [w64 (x := (i : Int) + 1) (by omega) (by omega)]
        exact Tl.pos (by omega) (Tl.bind ep (Tl.bind eb (Tl.neg q n2)))
theorem per_of {t : List Int} (h0 : 0 < t.length) {p : Nat} (h : ∀ j : Nat, j < t.length → sec t (j : Int) = sec t ((j : Int) + p)) : Per t p := by
  intro i
  have hn : (0 : Int) < t.length := by omega
  have k1 := Int.emod_nonneg i (show (t.length : Int) ≠ 0 by omega)
  have k2 := Int.emod_lt_of_pos i hn
  obtain ⟨c, hc⟩ : ∃ c : Nat, i % (t.length : Int) = c := ⟨(i % (t.length : Int)).toNat, by omega⟩
  have := h c (by omega)
  rw [← hc, sec_emod] at this
  rw [this, ← sec_emod t (i + p), ← sec_emod t (i % (t.length : Int) + p)]
  congr 1
  rw [← Int.emod_add_emod]
theorem rper_in {t : List Int} (h0 : 0 < t.length) (hl : t.length ≤ 1000) {p : Nat} (hp : p ≤ 1000) {r : Int} (d : Nat) : ∀ (i : Nat) (fl : Bool), i ≤ t.length → t.length - i = d →
    ((fl = true ∧ ∀ j, i ≤ j → j < t.length → sec t (j : Int) = sec t ((j : Int) + p)) → r = p) → (¬ (fl = true ∧ ∀ j, i ≤ j → j < t.length → sec t (j : Int) = sec t ((j : Int) + p)) → Tl (fun k => diaphoneref01_period.l0 k t ((p : Int) + 1)) r) →
    Tl (fun k => diaphoneref01_period.l1 k t (p : Int) fl (i : Int)) r := by
  induction d with
  | zero =>
    intro i fl h1 h2 a1 a2
    refine Tl.succ ?_
    simp only [diaphoneref01_period.l1]
    refine Tl.neg (by omega) ?_
    by_cases c : fl = true
    · exact Tl.to (Tl.pos c Tl.now) (a1 ⟨c, fun j j1 j2 => by omega⟩).symm
    · refine Tl.neg c ?_
      rw [w64 (by omega) (by omega)]
      exact a2 (fun q => c q.1)
  | succ d ih =>
    intro i fl h1 h2 a1 a2
    have ei : ((i + 1 : Nat) : Int) = (i : Int) + 1 := by omega
    refine Tl.succ ?_
    simp only [diaphoneref01_period.l1]
    rw [w64 (x := (i : Int) + 1) (by omega) (by omega), w64 (x := (i : Int) + p) (by omega) (by omega), ← ei]
    refine Tl.pos (by omega) ?_
    by_cases c : fl = true
    · refine Tl.pos c (Tl.bind' (rat_eq h0 hl _) (Tl.bind' (rat_eq h0 hl _) (ih (i + 1) _ (by omega) (by omega) (fun q => a1 ⟨c, fun j j1 j2 => ?_⟩) (fun q => a2 (fun z => q ⟨?_, fun j j1 j2 => z.2 j (by omega) j2⟩)))))
      · by_cases e : j = i
        · rw [e]; exact beq_iff_eq.1 q.1
        · exact q.2 j (by omega) j2
      · exact beq_iff_eq.2 (z.2 i (Nat.le_refl _) (by omega))
    · exact Tl.neg c (ih (i + 1) false (by omega) (by omega) (fun q => absurd q.1 (by simp)) (fun q => a2 (fun z => c z.1)))
theorem rper_loop {t : List Int} (h0 : 0 < t.length) (hl : t.length ≤ 1000) {r : Nat} (hr : IsPer t r) (d : Nat) : ∀ p : Nat, 1 ≤ p → p ≤ r → r - p = d → Tl (fun k => diaphoneref01_period.l0 k t (p : Int)) (r : Int) := by
  have r1 := hr.2.1
  induction d with
  | zero =>
    intro p h1 h2 h3
    obtain rfl : p = r := by omega
    refine Tl.succ ?_
    simp only [diaphoneref01_period.l0]
    by_cases c : p < t.length
    · refine Tl.pos (by omega) (rper_in h0 hl (by omega) t.length 0 true (by omega) (by omega) (fun _ => rfl) (fun q => absurd ⟨rfl, fun j _ _ => (hr.2.2.1 (j : Int)).symm⟩ q))
    · exact Tl.to (Tl.neg (by omega) Tl.now) (by omega)
  | succ d ih =>
    intro p h1 h2 h3
    have next := ih (p + 1) (by omega) (by omega) (by omega)
    rw [show ((p + 1 : Nat) : Int) = (p : Int) + 1 by omega] at next
    refine Tl.succ ?_
    simp only [diaphoneref01_period.l0]
    refine Tl.pos (by omega) (rper_in h0 hl (by omega) t.length 0 true (by omega) (by omega) (fun q => ?_) (fun _ => next))
    exact absurd (per_of h0 (fun j hj => q.2 j (by omega) hj)) (hr.2.2.2 p h1 (by omega))
theorem ev_rperiod {t : List Int} (h0 : 0 < t.length) (hl : t.length ≤ 1000) {r : Nat} (hr : IsPer t r) : Tl (fun k => diaphoneref01_period.f k t) (r : Int) :=
  rper_loop h0 hl hr (r - 1) 1 (by omega) hr.1 rfl
theorem ev_name {t : List Int} (h0 : 0 < t.length) (hl : t.length ≤ 1000) {p : Nat} (hp : IsPer t p) : ∃ r : List Int, r.length = p ∧ ((∃ j, j < p ∧ r = pc t ((j : Nat) : Int) p) ∧ ∀ q : Nat, q < p → lt (pc t (q : Int) p) r = false) ∧ Tl (fun k => tone_name.f k t) r ∧ Tl (fun k => diaphoneref01_name.f k t) r := by
  have h1 := hp.1
  have h2 := hp.2.1
  have hlen : (t.take p).length = p := by simp; omega
  have hz : t.take p = pc t ((0 : Nat) : Int) p := (pc_take h2).symm
  obtain ⟨r, hr, hch, n1, n2⟩ := name_loop h0 hl hp (p - 1) 1 (t.take p) (by omega) rfl hlen ⟨0, by omega, hz⟩ (fun q hq => by
    obtain rfl : q = 0 := by omega
    rw [hz]; exact lt_self _)
  refine ⟨r, hr, hch, ?_, ?_⟩
  · unfold tone_name.f
    refine Tl.bind (ev_root h0 hl hp) (Tl.succ ?_)
    simp only [tone_name.l0]
    have e1 : tone_turn.f (t.take p) 0 = some (t.take p) := by
      rw [turn_eq (by omega) (by omega)]
      simp [rot]
    obtain ⟨c, hc, ec⟩ := ev_Compare (a := t.take p) (b := t.take p) rfl (by omega)
    rw [lt_self] at hc
    rw [show wrap64 ((0 : Int) + 1) = ((1 : Nat) : Int) by unfold wrap64; omega]
    exact Tl.pos (by omega) (Tl.bind' e1 (Tl.bind ec (Tl.neg (fun z => by simpa using hc.1 z) n1)))
  · unfold diaphoneref01_name.f
    refine Tl.bind (ev_rperiod h0 hl hp) (Tl.bind (ev_piece h0 hl (f := 0) (by omega) (show p ≤ 1000 by omega)) ?_)
    rw [pc_take h2]
    exact n2
end Go.Proofs.Ytmpmfjnmfgnhcaa.Nm
/- A tone that begins with another second has the same period and the same name. -/
set_option linter.unusedVariables false
namespace Go.Proofs.Ytmpmfjnmfgnhcaa.Tn
open Go.RowKit Go.Proofs.Ytmpmfjnmfgnhcaa.P Go.Proofs.Ytmpmfjnmfgnhcaa.E Go.Proofs.Ytmpmfjnmfgnhcaa.Va Go.Proofs.Ytmpmfjnmfgnhcaa.Pe Go.Proofs.Ytmpmfjnmfgnhcaa.Nm Go.Proofs.YtmpmfjnmfgnhcaaW.PrintMore
open Go.Proofs.YtmpmfjnmfgnhcaaW.PrintWords
theorem sec_add {t : List Int} (k i : Int) : sec t (i % (t.length : Int) + k) = sec t (i + k) := by
  rw [← sec_emod t (i + k), ← sec_emod t (i % (t.length : Int) + k), Int.emod_add_emod]
theorem sec_rot {t : List Int} (h0 : 0 < t.length) {b : Nat} (hb : b ≤ t.length) (i : Int) : sec (rot t b) i = sec t (i + b) := by
  have hn : (0 : Int) < t.length := by omega
  have hl := rot_length hb
  have k1 := Int.emod_nonneg i (show (t.length : Int) ≠ 0 by omega)
  have k2 := Int.emod_lt_of_pos i hn
  obtain ⟨c, hc⟩ : ∃ c : Nat, i % (t.length : Int) = c := ⟨(i % (t.length : Int)).toNat, by omega⟩
  rw [← sec_emod (rot t b) i, hl, ← sec_add (t := t) (b : Int) i, hc, sec_nat (by omega)]
  have := rot_get hb (show c < t.length by omega)
  rw [List.getElem?_eq_getElem (by omega)] at this
  rw [Option.some.inj this]
  congr 1
theorem per_rot {t : List Int} (h0 : 0 < t.length) {b : Nat} (hb : b ≤ t.length) (q : Nat) : Per (rot t b) q ↔ Per t q := by
  constructor
  · intro h i
    have := h (i - b)
    rw [sec_rot h0 hb, sec_rot h0 hb] at this
    rw [show i - (b : Int) + q + b = i + q by omega, show i - (b : Int) + b = i by omega] at this
    exact this
  · intro h i
    rw [sec_rot h0 hb, sec_rot h0 hb, show i + (q : Int) + b = (i + b) + q by omega]
    exact h _
theorem isper_rot {t : List Int} (h0 : 0 < t.length) {b : Nat} (hb : b ≤ t.length) {p : Nat} (h : IsPer t p) : IsPer (rot t b) p :=
  ⟨h.1, by rw [rot_length hb]; exact h.2.1, (per_rot h0 hb p).2 h.2.2.1, fun q h1 h2 h3 => h.2.2.2 q h1 h2 ((per_rot h0 hb q).1 h3)⟩
theorem ok_rot {t : List Int} (ok : Ok t) {b : Nat} (hb : b ≤ t.length) : Ok (rot t b) := by
  refine ⟨by rw [rot_length hb]; exact ok.1, by rw [rot_length hb]; exact ok.2.1, fun i hi => ?_⟩
  have hm : ∀ x ∈ t, x = 0 ∨ x = 1 := by
    intro x hx
    obtain ⟨j, hj, rfl⟩ := List.getElem_of_mem hx
    have := ok.2.2 j hj
    rwa [rd_lt hj] at this
  rw [rd_lt hi]
  have := List.getElem_mem hi
  unfold rot at this
  rcases List.mem_append.1 this with h | h
  · exact hm _ (List.mem_of_mem_drop h)
  · exact hm _ (List.mem_of_mem_take h)
theorem pc_congr {t s : List Int} {f g : Int} {n : Nat} (h : ∀ j : Nat, j < n → sec t (f + j) = sec s (g + j)) : pc t f n = pc s g n := by
  unfold pc
  refine List.map_congr_left (fun j hj => h j (by simpa using hj))
/-- The names are equal. -/
theorem name_rot {t : List Int} (h0 : 0 < t.length) {b : Nat} (hb : b ≤ t.length) {p : Nat} (hp : IsPer t p) {r s : List Int}
    (hr : (∃ j, j < p ∧ r = pc t ((j : Nat) : Int) p) ∧ ∀ q : Nat, q < p → lt (pc t (q : Int) p) r = false)
    (hs : (∃ j, j < p ∧ s = pc (rot t b) ((j : Nat) : Int) p) ∧ ∀ q : Nat, q < p → lt (pc (rot t b) (q : Int) p) s = false) : r = s := by
  have h1 := hp.1
  obtain ⟨⟨j, hj, rfl⟩, mr⟩ := hr
  obtain ⟨⟨i, hi, rfl⟩, ms⟩ := hs
  have red : ∀ (m : Nat) (x : Int), sec t (((m % p : Nat) : Int) + x) = sec t ((m : Int) + x) := by
    intro m x
    have e : (m : Int) + x = (((m % p : Nat) : Int) + x) + (p : Int) * ((m / p : Nat) : Int) := by
      have := Nat.mod_add_div m p
      have e2 : ((m % p : Nat) : Int) + (p : Int) * ((m / p : Nat) : Int) = (m : Int) := by rw [← Int.natCast_mul, ← Int.natCast_add, this]
      omega
    rw [e, per_mul hp.2.2.1]
  refine lt_total (by rw [pc_length, pc_length]) ?_ ?_
  · have e : pc t (j : Int) p = pc (rot t b) (((j + (p - b % p)) % p : Nat) : Int) p := by
      refine pc_congr (fun x _ => ?_)
      rw [sec_rot h0 hb, Int.add_assoc, red (j + (p - b % p))]
      have hbp := Nat.mod_lt b h1
      have e2 : ((j + (p - b % p) : Nat) : Int) + ((x : Int) + b) = ((j : Int) + x) + (p : Int) * ((b / p + 1 : Nat) : Int) := by
        have := Nat.mod_add_div b p
        have e3 : ((b % p : Nat) : Int) + (p : Int) * ((b / p : Nat) : Int) = (b : Int) := by rw [← Int.natCast_mul, ← Int.natCast_add, this]
        rw [show ((b / p + 1 : Nat) : Int) = ((b / p : Nat) : Int) + 1 by omega, Int.mul_add]
        omega
      rw [e2, per_mul hp.2.2.1]
    rw [e]
    exact ms _ (Nat.mod_lt _ h1)
  · have e : pc (rot t b) (i : Int) p = pc t (((i + b) % p : Nat) : Int) p := by
      refine pc_congr (fun x _ => ?_)
      rw [sec_rot h0 hb, red (i + b)]
      congr 1
      omega
    rw [e]
    exact mr _ (Nat.mod_lt _ h1)
end Go.Proofs.Ytmpmfjnmfgnhcaa.Tn
/- Tones that are the same, and tones that are alike. -/
set_option linter.unusedVariables false
namespace Go.Proofs.Ytmpmfjnmfgnhcaa.Sm
open Go.RowKit Go.Proofs.Ytmpmfjnmfgnhcaa.P Go.Proofs.Ytmpmfjnmfgnhcaa.E Go.Proofs.Ytmpmfjnmfgnhcaa.Va Go.Proofs.Ytmpmfjnmfgnhcaa.Pe Go.Proofs.Ytmpmfjnmfgnhcaa.Nm Go.Proofs.Ytmpmfjnmfgnhcaa.Tn Go.Proofs.YtmpmfjnmfgnhcaaW.PrintMore
open Go.Proofs.YtmpmfjnmfgnhcaaW.PrintWords
theorem ev_SameInts' {a b : List Int} (hl : a.length ≤ 1000) : Tl (fun k => diaphoneref01_SameInts.f k a b) (decide (a = b)) := by
  unfold diaphoneref01_SameInts.f
  by_cases h : a.length = b.length
  · refine Tl.pos (by omega) ?_
    have loop : ∀ d i : Nat, i ≤ a.length → a.length - i = d → Tl (fun k => diaphoneref01_SameInts.l0 k a b (i : Int)) (decide (a.drop i = b.drop i)) := by
      intro d
      induction d with
      | zero =>
        intro i h1 h2
        refine Tl.succ ?_
        simp only [diaphoneref01_SameInts.l0]
        refine Tl.to (Tl.neg (by omega) Tl.now) ?_
        rw [List.drop_eq_nil_of_le (by omega), List.drop_eq_nil_of_le (by omega)]; simp
      | succ d ih =>
        intro i h1 h2
        have h3 : i < a.length := by omega
        have h4 : i < b.length := by omega
        refine Tl.succ ?_
        simp only [diaphoneref01_SameInts.l0]
        rw [w64 (x := (i : Int) + 1) (by omega) (by omega)]
        refine Tl.pos (by omega) (Tl.pos (by omega) (Tl.pos (by omega) ?_))
        have e : (a.drop i = b.drop i) ↔ (a[i] = b[i] ∧ a.drop (i + 1) = b.drop (i + 1)) := by rw [drop_cons h3, drop_cons h4, List.cons.injEq]
        rw [rd_lt h3, rd_lt h4]
        by_cases c : a[i] = b[i]
        · exact Tl.to (Tl.pos c (ih (i + 1) (by omega) (by omega))) (decide_eq_decide.2 ⟨fun q => e.2 ⟨c, q⟩, fun q => (e.1 q).2⟩)
        · exact Tl.to (Tl.neg c Tl.now) (decide_eq_false (fun q => c (e.1 q).1)).symm
    have := loop a.length 0 (by omega) (by omega)
    simpa using this
  · exact Tl.to (Tl.neg (by omega) Tl.now) (decide_eq_false (fun q => h (by rw [q]))).symm
def Sh (s t : List Int) (b : Int) : Prop := ∀ i : Int, sec s (i + b) = sec t i
theorem sec_mul (t : List Int) (i k : Int) : sec t (i + (t.length : Int) * k) = sec t i := by
  rw [← sec_emod, Int.add_mul_emod_self_left, sec_emod]
theorem sh_nat {s t : List Int} (hs : 0 < s.length) (ht : 0 < t.length) {b : Int} (h : ∀ i : Nat, i < s.length * t.length → sec s ((i : Int) + b) = sec t (i : Int)) : Sh s t b := by
  intro i
  have hn : 0 < s.length * t.length := Nat.mul_pos hs ht
  obtain ⟨n, en⟩ : ∃ n : Nat, n = s.length * t.length := ⟨_, rfl⟩
  have k1 := Int.emod_nonneg i (show (n : Int) ≠ 0 by omega)
  have k2 := Int.emod_lt_of_pos i (show (0 : Int) < n by omega)
  obtain ⟨c, hc⟩ : ∃ c : Nat, i % (n : Int) = c := ⟨(i % (n : Int)).toNat, by omega⟩
  have := h c (by omega)
  have e0 := Int.emod_add_mul_ediv i (n : Int)
  rw [hc] at e0
  have e1 : i = (c : Int) + (t.length : Int) * ((s.length : Int) * (i / (n : Int))) := by
    conv => lhs; rw [← e0]
    rw [en, Int.natCast_mul, Int.mul_comm (s.length : Int) (t.length : Int), Int.mul_assoc]
  have e2 : i + b = ((c : Int) + b) + (s.length : Int) * ((t.length : Int) * (i / (n : Int))) := by
    conv => lhs; rw [← e0]
    rw [en, Int.natCast_mul, Int.mul_assoc]; omega
  rw [e2, sec_mul, this]
  conv => rhs; rw [e1]
  rw [sec_mul]
theorem ev_same {s t : List Int} (os : Ok s) (ot : Ok t) {b : Int} (hb : 0 ≤ b ∧ b ≤ 1000) {r : Bool} (hr : r = true ↔ Sh s t b) : Tl (fun k => diaphoneref01_same.f k s t b) r := by
  obtain ⟨s1, s2, _⟩ := os
  obtain ⟨t1, t2, _⟩ := ot
  obtain ⟨m, hm⟩ : ∃ m : Nat, s.length * t.length = m := ⟨_, rfl⟩
  have hm2 : m ≤ 24 * 24 := by rw [← hm]; exact Nat.mul_le_mul s2 t2
  have hw : wrap64 ((s.length : Int) * (t.length : Int)) = (m : Int) := by rw [← Int.natCast_mul, hm, w64 (by omega) (by omega)]
  have loop : ∀ d i : Nat, i ≤ m → m - i = d → (∀ j : Nat, j < i → sec s ((j : Int) + b) = sec t (j : Int)) → Tl (fun k => diaphoneref01_same.l0 k s t b (i : Int)) r := by
    intro d
    induction d with
    | zero =>
      intro i h1 h2 h3
      refine Tl.succ ?_
      simp only [diaphoneref01_same.l0]
      rw [hw]
      refine Tl.to (Tl.neg (by omega) Tl.now) (hr.2 (sh_nat s1 t1 (fun j hj => h3 j (by omega)))).symm
    | succ d ih =>
      intro i h1 h2 h3
      refine Tl.succ ?_
      simp only [diaphoneref01_same.l0]
      rw [hw, w64 (x := (i : Int) + b) (by omega) (by omega), w64 (x := (i : Int) + 1) (by omega) (by omega)]
      refine Tl.pos (by omega) (Tl.bind' (rat_eq s1 (by omega) _) (Tl.bind' (rat_eq t1 (by omega) _) ?_))
      by_cases c : sec s ((i : Int) + b) = sec t (i : Int)
      · exact Tl.pos c (ih (i + 1) (by omega) (by omega) (fun j hj => by
          by_cases e : j = i
          · rw [e]; exact c
          · exact h3 j (by omega)))
      · refine Tl.to (Tl.neg c Tl.now) ?_
        cases r with
        | false => rfl
        | true => exact absurd (hr.1 rfl (i : Int)) c
  exact loop m 0 (by omega) (by omega) (fun j hj => by omega)
theorem ev_alike {s t : List Int} (os : Ok s) (ot : Ok t) {r : Bool} (hr : r = true ↔ ∃ b : Nat, b < s.length ∧ Sh s t b) : Tl (fun k => diaphoneref01_alike.f k s t) r := by
  have s2 := os.2.1
  have loop : ∀ d i : Nat, i ≤ s.length → s.length - i = d → (∀ j : Nat, j < i → ¬ Sh s t j) → Tl (fun k => diaphoneref01_alike.l0 k s t (i : Int)) r := by
    intro d
    induction d with
    | zero =>
      intro i h1 h2 h3
      refine Tl.succ ?_
      simp only [diaphoneref01_alike.l0]
      refine Tl.to (Tl.neg (by omega) Tl.now) ?_
      cases r with
      | false => rfl
      | true =>
        obtain ⟨b, hb, hs⟩ := hr.1 rfl
        exact absurd hs (h3 b (by omega))
    | succ d ih =>
      intro i h1 h2 h3
      refine Tl.succ ?_
      simp only [diaphoneref01_alike.l0]
      rw [w64 (x := (i : Int) + 1) (by omega) (by omega)]
      refine Tl.pos (by omega) ?_
      by_cases c : Sh s t (i : Int)
      · exact Tl.to (Tl.bind (ev_same os ot (by omega) (r := true) ⟨fun _ => c, fun _ => rfl⟩) (Tl.pos rfl Tl.now)) (hr.2 ⟨i, by omega, c⟩).symm
      · exact Tl.bind (ev_same os ot (by omega) (r := false) ⟨fun q => by simp at q, fun q => absurd q c⟩) (Tl.neg (by simp) (ih (i + 1) (by omega) (by omega) (fun j hj => by
          by_cases e : j = i
          · rw [e]; exact c
          · exact h3 j (by omega))))
  exact loop s.length 0 (by omega) (by omega) (fun j hj => by omega)
theorem sh_per {s t : List Int} {b : Int} (h : Sh s t b) (q : Nat) : Per s q ↔ Per t q := by
  constructor
  · intro k i
    rw [← h, ← h, show i + (q : Int) + b = (i + b) + q by omega, k]
  · intro k i
    have := k (i - b)
    rw [← h, ← h, show i - b + (q : Int) + b = i + q by omega, show i - b + b = i by omega] at this
    exact this
theorem sh_isper {s t : List Int} {b : Int} (h : Sh s t b) {p q : Nat} (hp : IsPer s p) (hq : IsPer t q) : p = q := by
  have a1 := (sh_per h p).1 hp.2.2.1
  have a2 := (sh_per h q).2 hq.2.2.1
  rcases Nat.lt_trichotomy p q with c | c | c
  · exact absurd a1 (hq.2.2.2 p hp.1 c)
  · exact c
  · exact absurd a2 (hp.2.2.2 q hq.1 c)
/-- The same tone exactly if the roots are equal. -/
theorem same_root {s t : List Int} (hs : 0 < s.length) (ht : 0 < t.length) {p q : Nat} (hp : IsPer s p) (hq : IsPer t q) : s.take p = t.take q ↔ Sh s t 0 := by
  have p2 := hp.2.1
  have q2 := hq.2.1
  constructor
  · intro h
    refine sh_nat hs ht (fun i _ => ?_)
    rw [Int.add_zero, ← sec_root hp.1 p2 hp.2.2.1, ← sec_root hq.1 q2 hq.2.2.1, h]
  · intro h
    obtain rfl := sh_isper h hp hq
    rw [← pc_take p2, ← pc_take q2]
    exact pc_congr (fun j _ => by rw [← h, Int.add_zero])
/-- A list is the name of a tone. -/
def IsName (t : List Int) (p : Nat) (r : List Int) : Prop := (∃ j, j < p ∧ r = pc t ((j : Nat) : Int) p) ∧ ∀ q : Nat, q < p → lt (pc t (q : Int) p) r = false
/-- Alike exactly if the names are equal. -/
theorem alike_name {s t : List Int} (hs : 0 < s.length) (ht : 0 < t.length) {p q : Nat} (hp : IsPer s p) (hq : IsPer t q) {x y : List Int} (hx : IsName s p x) (hy : IsName t q y) :
    x = y ↔ ∃ b : Nat, b < s.length ∧ Sh s t b := by
  have p2 := hp.2.1
  have q2 := hq.2.1
  constructor
  · intro h
    obtain ⟨i, hi, ex⟩ := hx.1
    obtain ⟨j, hj, ey⟩ := hy.1
    have epq : p = q := by
      have := congrArg List.length (ex.symm.trans (h.trans ey))
      rwa [pc_length, pc_length] at this
    subst epq
    have key : ∀ z : Nat, z < p → sec s ((i : Int) + z) = sec t ((j : Int) + z) := by
      intro z hz
      have := congrArg (fun l : List Int => l[z]?) (ex.symm.trans (h.trans ey))
      simpa [pc, hz] using this
    have key2 : ∀ z : Nat, sec s ((i : Int) + z) = sec t ((j : Int) + z) := by
      intro z
      have e : (z : Int) = ((z % p : Nat) : Int) + (p : Int) * ((z / p : Nat) : Int) := by
        rw [← Int.natCast_mul, ← Int.natCast_add, Nat.mod_add_div]
      rw [e, ← Int.add_assoc, ← Int.add_assoc, per_mul hp.2.2.1, per_mul hq.2.2.1]
      exact key _ (Nat.mod_lt _ hp.1)
    have hn : (0 : Int) < s.length := by omega
    obtain ⟨c, hc⟩ : ∃ c : Nat, ((i : Int) - j) % (s.length : Int) = c := ⟨(((i : Int) - j) % (s.length : Int)).toNat, by
      have := Int.emod_nonneg ((i : Int) - j) (show (s.length : Int) ≠ 0 by omega); omega⟩
    have hc2 := Int.emod_lt_of_pos ((i : Int) - j) hn
    refine ⟨c, by omega, sh_nat hs ht (fun z _ => ?_)⟩
    have e1 : sec s ((z : Int) + c) = sec s ((z : Int) + ((i : Int) - j)) := by
      rw [← hc, Int.add_comm (z : Int), Int.add_comm (z : Int), sec_add]
    rw [e1]
    have := key2 (z + j * (t.length * s.length) - j)
    have hjl : j ≤ j * (t.length * s.length) := Nat.le_mul_of_pos_right _ (Nat.mul_pos ht hs)
    obtain ⟨m, hm⟩ : ∃ m : Nat, m = t.length * s.length := ⟨_, rfl⟩
    obtain ⟨jm, hjm⟩ : ∃ jm : Nat, jm = j * (t.length * s.length) := ⟨_, rfl⟩
    rw [← hjm] at this hjl
    rw [show (i : Int) + ((z + jm - j : Nat) : Int) = ((z : Int) + ((i : Int) - j)) + (jm : Int) by omega, show (j : Int) + ((z + jm - j : Nat) : Int) = (z : Int) + (jm : Int) by omega] at this
    have f1 : (jm : Int) = (s.length : Int) * ((j * t.length : Nat) : Int) := by rw [hjm, ← Int.natCast_mul]; congr 1; rw [Nat.mul_comm s.length, Nat.mul_assoc]
    have f2 : (jm : Int) = (t.length : Int) * ((j * s.length : Nat) : Int) := by rw [hjm, ← Int.natCast_mul]; congr 1; rw [Nat.mul_comm t.length (j * s.length), Nat.mul_assoc, Nat.mul_comm s.length]
    rw [f1, sec_mul, ← f1, f2, sec_mul] at this
    exact this
  · rintro ⟨b, hb, h⟩
    obtain rfl := sh_isper h hp hq
    have e : ∀ z : Int, pc t z p = pc (rot s b) z p := fun z => pc_congr (fun j _ => by rw [sec_rot hs (by omega), h])
    refine name_rot hs (b := b) (by omega) hp hx ?_
    obtain ⟨⟨j, hj, ey⟩, my⟩ := hy
    exact ⟨⟨j, hj, by rw [← e]; exact ey⟩, fun q hq2 => by rw [← e]; exact my q hq2⟩
/-- What the program's root and name come to, whatever the list. -/
theorem some_root (t : List Int) (hl : t.length ≤ 1000) : ∃ r, Tl (fun k => tone_Root.f k t) r := by
  unfold tone_Root.f
  by_cases hk : vc t = 0
  · have ok := vc_ok.1 hk
    obtain ⟨p, hp, _⟩ := ev_period ok.1 hl
    exact ⟨_, Tl.bind (ev_Validate hl) (Tl.pos hk (Tl.bind (ev_root ok.1 hl hp) Tl.now))⟩
  · exact ⟨_, Tl.bind (ev_Validate hl) (Tl.neg hk Tl.now)⟩
theorem some_name (t : List Int) (hl : t.length ≤ 1000) : ∃ r, Tl (fun k => tone_Name.f k t) r := by
  unfold tone_Name.f
  by_cases hk : vc t = 0
  · have ok := vc_ok.1 hk
    obtain ⟨p, hp, _⟩ := ev_period ok.1 hl
    obtain ⟨r, _, _, n1, _⟩ := ev_name ok.1 hl hp
    exact ⟨_, Tl.bind (ev_Validate hl) (Tl.pos hk (Tl.bind n1 Tl.now))⟩
  · exact ⟨_, Tl.bind (ev_Validate hl) (Tl.neg hk Tl.now)⟩
end Go.Proofs.Ytmpmfjnmfgnhcaa.Sm
