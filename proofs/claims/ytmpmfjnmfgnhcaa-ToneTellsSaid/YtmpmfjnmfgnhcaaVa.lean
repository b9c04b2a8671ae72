/- Words for the plain laws: a function with rounds comes to a value, from some number of rounds on. -/
import Derived.Test.YtmpmfjnmfgnhcaaWWords
import Derived.Test.YtmpmfjnmfgnhcaaWMore
import Derived.Test.YtmpmfjnmfgnhcaaPx2
import Derived.Test.YtmpmfjnmfgnhcaaPx4
import Derived.Test.YtmpmfjnmfgnhcaaPx34
import Derived.Test.YtmpmfjnmfgnhcaaPx5
import Derived.Test.YtmpmfjnmfgnhcaaPx39
import Derived.Test.YtmpmfjnmfgnhcaaPx1
import Derived.Test.YtmpmfjnmfgnhcaaPx2
import Derived.Test.YtmpmfjnmfgnhcaaPx2
set_option linter.unusedVariables false
namespace Go.Proofs.Ytmpmfjnmfgnhcaa.E
open Go.RowKit Go.Proofs.YtmpmfjnmfgnhcaaW.PrintWords Go.Proofs.YtmpmfjnmfgnhcaaW.PrintMore

/-- From some number of rounds on, g answers r. -/
def Tl {α : Type} (g : Nat → Option α) (r : α) : Prop := ∃ K, ∀ k, K ≤ k → g k = some r
theorem Tl.now {α : Type} {r : α} : Tl (fun _ => some r) r := ⟨0, fun _ _ => rfl⟩
theorem Tl.of {α : Type} {o : Option α} {r : α} (h : o = some r) : Tl (fun _ => o) r := ⟨0, fun _ _ => h⟩
theorem Tl.mono {α : Type} {g : Nat → Option α} {r : α} (hm : ∀ k, LeO (g k) (g (k + 1))) (k : Nat) (h : g k = some r) : Tl g r := ⟨k, fun _ hk => at_rounds hm hk h⟩
theorem Tl.succ {α : Type} {g : Nat → Option α} {r : α} (h : Tl (fun k => g (k + 1)) r) : Tl g r := by
  obtain ⟨K, hK⟩ := h
  refine ⟨K + 1, fun k hk => ?_⟩
  obtain ⟨m, rfl⟩ : ∃ m, k = m + 1 := ⟨k - 1, by omega⟩
  exact hK m (by omega)
theorem Tl.bind {α β : Type} {g : Nat → Option α} {f : Nat → α → Option β} {a : α} {r : β} (h : Tl g a) (hf : Tl (fun k => f k a) r) : Tl (fun k => (g k).bind (f k)) r := by
  obtain ⟨K, hK⟩ := h
  obtain ⟨L, hL⟩ := hf
  refine ⟨max K L, fun k hk => ?_⟩
  show (g k).bind (f k) = some r
  rw [hK k (by omega)]
  exact hL k (by omega)
theorem Tl.bind' {α β : Type} {o : Option α} {f : Nat → α → Option β} {a : α} {r : β} (h : o = some a) (hf : Tl (fun k => f k a) r) : Tl (fun k => o.bind (f k)) r := by
  rw [h]; exact hf
theorem Tl.congr {α : Type} {g g' : Nat → Option α} {r : α} (h : Tl g r) (e : ∀ k, g' k = g k) : Tl g' r := by
  obtain ⟨K, hK⟩ := h
  exact ⟨K, fun k hk => (e k).trans (hK k hk)⟩
theorem Tl.to {α : Type} {g : Nat → Option α} {r r' : α} (h : Tl g r) (e : r = r') : Tl g r' := e ▸ h
theorem Tl.ex {α : Type} {g : Nat → Option α} {r : α} (h : Tl g r) : ∃ k, g k = some r := by
  obtain ⟨K, hK⟩ := h
  exact ⟨K, hK K (Nat.le_refl _)⟩
theorem Tl.pos {α : Type} {c : Prop} [Decidable c] {g g' : Nat → Option α} {r : α} (hc : c) (h : Tl g r) : Tl (fun k => if c then g k else g' k) r := by
  simpa only [if_pos hc] using h
theorem Tl.neg {α : Type} {c : Prop} [Decidable c] {g g' : Nat → Option α} {r : α} (hc : ¬ c) (h : Tl g' r) : Tl (fun k => if c then g k else g' k) r := by
  simpa only [if_neg hc] using h
theorem Tl.ite {α : Type} {c : Prop} [Decidable c] {g g' : Nat → Option α} {r r' : α} (h : c → Tl g r) (h' : ¬ c → Tl g' r') : Tl (fun k => if c then g k else g' k) (if c then r else r') := by
  by_cases hc : c
  · simpa only [if_pos hc] using h hc
  · simpa only [if_neg hc] using h' hc

theorem w64 {x : Int} (h1 : -9223372036854775808 ≤ x) (h2 : x < 9223372036854775808) : wrap64 x = x := by
  unfold wrap64
  omega
theorem wf64 {x : Int} (h : (Lit.int .i64 x).wf = true) : -9223372036854775808 ≤ x ∧ x < 9223372036854775808 := by
  simp only [Lit.wf, IntKind.min, IntKind.max, IntKind.signed, IntKind.bits, Bool.and_eq_true, decide_eq_true_eq, if_true] at h
  omega
theorem mx_eq (a b : Int) : mx a b = max a b := by unfold mx; omega
theorem mn_eq (a b : Int) : mn a b = min a b := by unfold mn; omega
theorem rd_nat (xs : List Int) (i : Nat) : rd xs (i : Int) = xs.getD i 0 := by simp [rd]
theorem rd_lt {xs : List Int} {i : Nat} (h : i < xs.length) : rd xs (i : Int) = xs[i] := by rw [rd_nat, List.getD_eq_getElem?_getD, List.getElem?_eq_getElem h]; rfl
end Go.Proofs.Ytmpmfjnmfgnhcaa.E
/- Which lists are tones; seconds of a tone. -/
set_option linter.unusedVariables false
namespace Go.Proofs.Ytmpmfjnmfgnhcaa.Va
open Go.RowKit Go.Proofs.Ytmpmfjnmfgnhcaa.P Go.Proofs.Ytmpmfjnmfgnhcaa.E Go.Proofs.YtmpmfjnmfgnhcaaW.PrintMore
open Go.Proofs.YtmpmfjnmfgnhcaaW.PrintWords
def Ok (t : List Int) : Prop := 1 ≤ t.length ∧ t.length ≤ 24 ∧ ∀ i : Nat, i < t.length → rd t (i : Int) = 0 ∨ rd t (i : Int) = 1
def vc (t : List Int) : Int := if 1 ≤ t.length ∧ t.length ≤ 24 then (if t.all (fun x => decide (x = 0 ∨ x = 1)) then 0 else 1) else 3
theorem vc_ok {t : List Int} : vc t = 0 ↔ Ok t := by
  unfold vc Ok
  by_cases h : 1 ≤ t.length ∧ t.length ≤ 24
  · rw [if_pos h]
    by_cases h2 : t.all (fun x => decide (x = 0 ∨ x = 1)) = true
    · rw [if_pos h2]
      refine ⟨fun _ => ⟨h.1, h.2, fun i hi => ?_⟩, fun _ => rfl⟩
      rw [rd_lt hi]
      have := List.all_eq_true.1 h2 _ (List.getElem_mem hi)
      simpa using this
    · rw [if_neg h2]
      refine ⟨fun q => by omega, fun q => ?_⟩
      exfalso
      apply h2
      refine List.all_eq_true.2 (fun x hx => ?_)
      obtain ⟨i, hi, rfl⟩ := List.getElem_of_mem hx
      have := q.2.2 i hi
      rw [rd_lt hi] at this
      simpa using this
  · rw [if_neg h]
    exact ⟨fun q => by omega, fun q => absurd ⟨q.1, q.2.1⟩ h⟩
theorem within_eq (a b c : Int) : tone_within.f a b c = some (decide (b ≤ a ∧ a ≤ c)) := by
  unfold tone_within.f
  by_cases h : a ≥ b
  · rw [if_pos h]; congr 1; exact decide_eq_decide.2 ⟨fun q => ⟨h, q⟩, fun q => q.2⟩
  · rw [if_neg h]; congr 1; exact (decide_eq_false (by omega)).symm
theorem rwithin_eq (a b c : Int) : diaphoneref01_within.f a b c = some (decide (b ≤ a ∧ a ≤ c)) := by
  unfold diaphoneref01_within.f
  by_cases h : a ≥ b
  · rw [if_pos h]; congr 1; exact decide_eq_decide.2 ⟨fun q => ⟨h, q⟩, fun q => q.2⟩
  · rw [if_neg h]; congr 1; exact (decide_eq_false (by omega)).symm
theorem drop_cons {α : Type} {h : List α} {i : Nat} (hi : i < h.length) : h.drop i = h[i] :: h.drop (i + 1) := List.drop_eq_getElem_cons hi
/-- The bits from a place on: the number of the first other one, or -1. -/
def bits (l : List Int) : Bool := l.all (fun x => decide (x = 0 ∨ x = 1))
theorem bits_drop {t : List Int} {i : Nat} (hi : i < t.length) : bits (t.drop i) = (decide (rd t (i : Int) = 0 ∨ rd t (i : Int) = 1) && bits (t.drop (i + 1))) := by
  rw [drop_cons hi, rd_lt hi]; rfl
theorem rbits_loop (t : List Int) (hl : t.length ≤ 1000) (d : Nat) : ∀ i : Nat, i ≤ t.length → t.length - i = d → Tl (fun k => diaphoneref01_bits.l0 k t (i : Int)) (bits (t.drop i)) := by
  induction d with
  | zero =>
    intro i h1 h2
    refine Tl.succ ?_
    simp only [diaphoneref01_bits.l0]
    refine Tl.to (Tl.neg (by omega) Tl.now) ?_
    rw [List.drop_eq_nil_of_le (by omega)]; rfl
  | succ d ih =>
    intro i h1 h2
    have hlt : i < t.length := by omega
    have next := ih (i + 1) (by omega) (by omega)
    rw [show ((i + 1 : Nat) : Int) = (i : Int) + 1 by omega, ← w64 (x := (i : Int) + 1) (by omega) (by omega)] at next
    refine Tl.succ ?_
    simp only [diaphoneref01_bits.l0]
    refine Tl.pos (by omega) (Tl.pos (by omega) (Tl.bind' (rwithin_eq _ _ _) ?_))
    rw [bits_drop hlt]
    by_cases c : rd t (i : Int) = 0 ∨ rd t (i : Int) = 1
    · exact Tl.to (Tl.pos (decide_eq_true (by omega)) next) (by simp [c])
    · exact Tl.to (Tl.neg (by rw [decide_eq_true_eq]; omega) Tl.now) (by simp [c])
theorem ev_rValidate {t : List Int} (hl : t.length ≤ 1000) : Tl (fun k => diaphoneref01_Validate.f k t) (vc t) := by
  unfold diaphoneref01_Validate.f
  refine Tl.bind' (rwithin_eq _ _ _) ?_
  have b : Tl (fun k => diaphoneref01_bits.f k t) (bits t) := rbits_loop t hl t.length 0 (by omega) (by omega)
  by_cases h : 1 ≤ t.length ∧ t.length ≤ 24
  · refine Tl.pos (decide_eq_true (by omega)) (Tl.bind b ?_)
    by_cases h2 : bits t = true
    · refine Tl.to (Tl.pos h2 Tl.now) ?_
      unfold bits at h2
      simp only [vc, if_pos h, if_pos h2]
    · refine Tl.to (Tl.neg h2 Tl.now) ?_
      unfold bits at h2
      simp only [vc, if_pos h, if_neg h2]
  · exact Tl.to (Tl.neg (by rw [decide_eq_true_eq]; omega) Tl.now) (by simp only [vc, if_neg h])
theorem pbits_loop (t : List Int) (hl : t.length ≤ 1000) (d : Nat) : ∀ i : Nat, i ≤ t.length → t.length - i = d → ∃ j : Int, (j < 0 ↔ bits (t.drop i) = true) ∧ Tl (fun k => slices_IndexFunc_int_int_tone_isSeconds_1.l0 k t (t.length : Int) (i : Int)) j := by
  induction d with
  | zero =>
    intro i h1 h2
    refine ⟨-1, ?_, ?_⟩
    · rw [List.drop_eq_nil_of_le (by omega)]; simp [bits]
    · refine Tl.succ ?_
      simp only [slices_IndexFunc_int_int_tone_isSeconds_1.l0]
      exact Tl.neg (by omega) Tl.now
  | succ d ih =>
    intro i h1 h2
    have hlt : i < t.length := by omega
    obtain ⟨j, hj, next⟩ := ih (i + 1) (by omega) (by omega)
    rw [show ((i + 1 : Nat) : Int) = (i : Int) + 1 by omega, ← w64 (x := (i : Int) + 1) (by omega) (by omega)] at next
    rw [bits_drop hlt]
    have e : tone_isSeconds_1.f (rd t (i : Int)) = some (decide (¬ (rd t (i : Int) = 0 ∨ rd t (i : Int) = 1))) := by
      unfold tone_isSeconds_1.f
      by_cases h0 : rd t (i : Int) = 0
      · simp [h0]
      · by_cases h1 : rd t (i : Int) = 1
        · simp [h1]
        · simp [h0, h1]
    by_cases c : rd t (i : Int) = 0 ∨ rd t (i : Int) = 1
    · refine ⟨j, by rw [hj]; simp [c], ?_⟩
      refine Tl.succ ?_
      simp only [slices_IndexFunc_int_int_tone_isSeconds_1.l0]
      exact Tl.pos (by omega) (Tl.pos (by omega) (Tl.pos (by omega) (Tl.bind' e (Tl.neg (by simp [c]) next))))
    · refine ⟨(i : Int), by simp [c] <;> omega, ?_⟩
      refine Tl.succ ?_
      simp only [slices_IndexFunc_int_int_tone_isSeconds_1.l0]
      exact Tl.pos (by omega) (Tl.pos (by omega) (Tl.pos (by omega) (Tl.bind' e (Tl.pos (by simp [c]) Tl.now))))
theorem ev_Validate {t : List Int} (hl : t.length ≤ 1000) : Tl (fun k => tone_Validate.f k t) (vc t) := by
  unfold tone_Validate.f
  refine Tl.bind' (within_eq _ _ _) ?_
  obtain ⟨j, hj, hr⟩ := pbits_loop t hl t.length 0 (by omega) (by omega)
  have b : Tl (fun k => tone_isSeconds.f k t) (bits t) := by
    unfold tone_isSeconds.f slices_ContainsFunc_int_int_tone_isSeconds_1.f
    refine Tl.to (Tl.bind (Tl.bind hr Tl.now) Tl.now) ?_
    rw [List.drop_zero] at hj
    cases hb : bits t with
    | true => rw [hb] at hj; have := hj.2 rfl; simp; omega
    | false => rw [hb] at hj; have : ¬ j < 0 := fun q => by simpa using hj.1 q
               simp; omega
  by_cases h : 1 ≤ t.length ∧ t.length ≤ 24
  · refine Tl.pos (decide_eq_true (by omega)) (Tl.bind b ?_)
    by_cases h2 : bits t = true
    · refine Tl.to (Tl.pos h2 Tl.now) ?_
      unfold bits at h2
      simp only [vc, if_pos h, if_pos h2]
    · refine Tl.to (Tl.neg h2 Tl.now) ?_
      unfold bits at h2
      simp only [vc, if_pos h, if_neg h2]
  · exact Tl.to (Tl.neg (by rw [decide_eq_true_eq]; omega) Tl.now) (by simp only [vc, if_neg h])
/-- A second, at whatever number. -/
def sec (t : List Int) (i : Int) : Int := rd t (i % (t.length : Int))
theorem at_eq {t : List Int} (h0 : 0 < t.length) (hl : t.length ≤ 1000) (i : Int) : tone_at.f t i = some (sec t i) := by
  have hn : (0 : Int) < t.length := by omega
  have m1 := Int.emod_nonneg i (show (t.length : Int) ≠ 0 by omega)
  have m2 := Int.emod_lt_of_pos i hn
  have e : Int.tmod i (t.length : Int) = i % (t.length : Int) ∨ (Int.tmod i (t.length : Int) < 0 ∧ Int.tmod i (t.length : Int) + (t.length : Int) = i % (t.length : Int)) := by
    rcases Int.le_total 0 i with h | h
    · exact .inl (Int.tmod_eq_emod_of_nonneg h)
    · have := Int.tmod_eq_emod (a := i) (b := (t.length : Int))
      by_cases c : 0 ≤ i ∨ (t.length : Int) ∣ i
      · rw [if_pos c] at this; exact .inl (by omega)
      · rw [if_neg c] at this
        right
        have : ((t.length : Int).natAbs : Int) = t.length := by omega
        omega
  unfold tone_at.f sec
  rw [if_neg (by omega)]
  rcases e with e | ⟨e1, e2⟩
  · rw [e, if_neg (by omega), if_pos m1, if_pos m2]
  · rw [if_pos e1, w64 (by omega) (by omega), e2, if_pos m1, if_pos m2]
theorem rat_eq {t : List Int} (h0 : 0 < t.length) (hl : t.length ≤ 1000) (i : Int) : diaphoneref01_at.f t i = some (sec t i) := by
  have hn : (0 : Int) < t.length := by omega
  have m1 := Int.emod_nonneg i (show (t.length : Int) ≠ 0 by omega)
  have m2 := Int.emod_lt_of_pos i hn
  have e : Int.tmod i (t.length : Int) = i % (t.length : Int) ∨ (Int.tmod i (t.length : Int) < 0 ∧ Int.tmod i (t.length : Int) + (t.length : Int) = i % (t.length : Int)) := by
    rcases Int.le_total 0 i with h | h
    · exact .inl (Int.tmod_eq_emod_of_nonneg h)
    · have := Int.tmod_eq_emod (a := i) (b := (t.length : Int))
      by_cases c : 0 ≤ i ∨ (t.length : Int) ∣ i
      · rw [if_pos c] at this; exact .inl (by omega)
      · rw [if_neg c] at this
        right
        have : ((t.length : Int).natAbs : Int) = t.length := by omega
        omega
  unfold diaphoneref01_at.f sec
  rw [if_neg (by omega)]
  rcases e with e | ⟨e1, e2⟩
  · rw [e, w64 (by omega) (by omega)]
    have e3 : Int.tmod (i % (t.length : Int) + (t.length : Int)) (t.length : Int) = i % (t.length : Int) := by
      rw [Int.tmod_eq_emod_of_nonneg (by omega), Int.add_emod_right, Int.emod_emod]
    rw [e3, if_pos m1, if_pos m2]
  · rw [e2, w64 (by omega) (by omega)]
    have e3 : Int.tmod (i % (t.length : Int)) (t.length : Int) = i % (t.length : Int) := by
      rw [Int.tmod_eq_emod_of_nonneg (by omega), Int.emod_emod]
    rw [e3, if_pos m1, if_pos m2]
theorem same_loop (l : List Int) (hl : l.length ≤ 1000) (d : Nat) : ∀ i : Nat, i ≤ l.length → l.length - i = d → Tl (fun k => diaphoneref01_SameInts.l0 k l l (i : Int)) true := by
  induction d with
  | zero =>
    intro i h1 h2
    refine Tl.succ ?_
    simp only [diaphoneref01_SameInts.l0]
    exact Tl.neg (by omega) Tl.now
  | succ d ih =>
    intro i h1 h2
    refine Tl.succ ?_
    simp only [diaphoneref01_SameInts.l0]
    rw [w64 (by omega) (by omega)]
    exact Tl.pos (by omega) (Tl.pos (by omega) (Tl.pos (by omega) (Tl.pos trivial (ih (i + 1) (by omega) (by omega)))))
theorem ev_SameInts (l : List Int) (hl : l.length ≤ 1000) : Tl (fun k => diaphoneref01_SameInts.f k l l) true := by
  unfold diaphoneref01_SameInts.f
  exact Tl.pos rfl (same_loop l hl l.length 0 (by omega) (by omega))
theorem known_at : diaphonelaw01_known.f 60 = some true := by decide +kernel
theorem ev_known : Tl (fun k => diaphonelaw01_known.f k) true := Tl.mono diaphonelaw01_known.mono 60 known_at
theorem ev_known' : Tl (fun k => (diaphonelaw01_known.f k).bind fun t => some t) true := Tl.bind ev_known Tl.now
theorem by_long {h : List Int} {g : Nat → Option Bool} (hg : h.length ≤ 200 → Tl g true) : Tl (fun k => (diaphonelaw01_Long.f h).bind fun t => if t = true then ((diaphonelaw01_known.f k).bind fun t => some t) else g k) true := by
  unfold diaphonelaw01_Long.f
  by_cases hl : (h.length : Int) > 200
  · exact Tl.bind' rfl (Tl.pos (decide_eq_true hl) ev_known')
  · exact Tl.bind' rfl (Tl.neg (by simpa using hl) (hg (by omega)))
end Go.Proofs.Ytmpmfjnmfgnhcaa.Va
/- Tones that begin with another second; the period. -/
set_option linter.unusedVariables false
namespace Go.Proofs.Ytmpmfjnmfgnhcaa.Pe
open Go.RowKit Go.Proofs.Ytmpmfjnmfgnhcaa.P Go.Proofs.Ytmpmfjnmfgnhcaa.E Go.Proofs.Ytmpmfjnmfgnhcaa.Va Go.Proofs.YtmpmfjnmfgnhcaaW.PrintMore
open Go.Proofs.YtmpmfjnmfgnhcaaW.PrintWords
def rot (t : List Int) (b : Nat) : List Int := t.drop b ++ t.take b
theorem rot_length {t : List Int} {b : Nat} (hb : b ≤ t.length) : (rot t b).length = t.length := by
  simp [rot]; omega
theorem tmod_cases {n : Int} (hn : 0 < n) (i : Int) : (Int.tmod i n = i % n) ∨ (Int.tmod i n < 0 ∧ Int.tmod i n + n = i % n) := by
  rcases Int.le_total 0 i with h | h
  · exact .inl (Int.tmod_eq_emod_of_nonneg h)
  · have := Int.tmod_eq_emod (a := i) (b := n)
    by_cases c : 0 ≤ i ∨ n ∣ i
    · rw [if_pos c] at this; exact .inl (by omega)
    · rw [if_neg c] at this
      right
      have h1 := Int.emod_lt_of_pos i hn
      have h2 : (n.natAbs : Int) = n := by omega
      omega
theorem turn_eq {t : List Int} (h0 : 0 < t.length) (hl : t.length ≤ 1000) (b : Int) : tone_turn.f t b = some (rot t (b % (t.length : Int)).toNat) := by
  have hn : (0 : Int) < t.length := by omega
  have m1 := Int.emod_nonneg b (show (t.length : Int) ≠ 0 by omega)
  have m2 := Int.emod_lt_of_pos b hn
  have cc : ∀ j : Nat, j ≤ t.length → slices_Concat_int_int.f [t.drop j, t.take j] = some (rot t j) := by
    intro j hj
    unfold slices_Concat_int_int.f
    have e : ([t.drop j, t.take j] : List (List Int)).flatten = rot t j := by simp [rot]
    rw [e, rot_length hj, if_pos ⟨h0, by omega, by simp⟩]
  unfold tone_turn.f
  rw [if_neg (by omega)]
  rcases tmod_cases hn b with e | ⟨e1, e2⟩
  · rw [e, if_neg (by omega), if_pos m1, if_pos (by omega), cc _ (by omega)]
    rfl
  · rw [if_pos e1, w64 (by omega) (by omega), e2, if_pos m1, if_pos (by omega), cc _ (by omega)]
    rfl
theorem eq_loop {a b : List Int} (h : a.length = b.length) (hl : a.length ≤ 1000) (d : Nat) : ∀ i : Nat, i ≤ a.length → a.length - i = d → Tl (fun k => slices_Equal_int_int.l0 k a b (a.length : Int) (i : Int)) (decide (a.drop i = b.drop i)) := by
  induction d with
  | zero =>
    intro i h1 h2
    refine Tl.succ ?_
    simp only [slices_Equal_int_int.l0]
    refine Tl.to (Tl.neg (by omega) Tl.now) ?_
    rw [List.drop_eq_nil_of_le (by omega), List.drop_eq_nil_of_le (by omega)]; simp
  | succ d ih =>
    intro i h1 h2
    have h3 : i < a.length := by omega
    have h4 : i < b.length := by omega
    have next := ih (i + 1) (by omega) (by omega)
    rw [show ((i + 1 : Nat) : Int) = (i : Int) + 1 by omega, ← w64 (x := (i : Int) + 1) (by omega) (by omega)] at next
    refine Tl.succ ?_
    simp only [slices_Equal_int_int.l0]
    refine Tl.pos (by omega) (Tl.pos (by omega) (Tl.pos (by omega) (Tl.pos (by omega) ?_)))
    have e : (a.drop i = b.drop i) ↔ (a[i] = b[i] ∧ a.drop (i + 1) = b.drop (i + 1)) := by rw [drop_cons h3, drop_cons h4, List.cons.injEq]
    rw [rd_lt h3, rd_lt h4]
    by_cases c : a[i] = b[i]
    · exact Tl.to (Tl.pos c next) (decide_eq_decide.2 ⟨fun q => e.2 ⟨c, q⟩, fun q => (e.1 q).2⟩)
    · exact Tl.to (Tl.neg c Tl.now) (decide_eq_false (fun q => c (e.1 q).1)).symm
theorem ev_Equal {a b : List Int} (hl : a.length ≤ 1000) : Tl (fun k => slices_Equal_int_int.f k a b) (decide (a = b)) := by
  unfold slices_Equal_int_int.f
  by_cases h : a.length = b.length
  · refine Tl.pos (by omega) ?_
    have := eq_loop h hl a.length 0 (by omega) (by omega)
    simpa using this
  · exact Tl.to (Tl.neg (by omega) Tl.now) (decide_eq_false (fun q => h (by rw [q]))).symm
/-- A tone that begins with second p is the tone itself. -/
def Per (t : List Int) (p : Nat) : Prop := ∀ i : Int, sec t (i + p) = sec t i
theorem sec_emod (t : List Int) (i : Int) : sec t (i % (t.length : Int)) = sec t i := by
  unfold sec
  rw [Int.emod_emod]
theorem sec_nat {t : List Int} {i : Nat} (hi : i < t.length) : sec t (i : Int) = t[i] := by
  unfold sec
  rw [Int.emod_eq_of_lt (by omega) (by omega), rd_lt hi]
theorem rot_get {t : List Int} {b i : Nat} (hb : b ≤ t.length) (hi : i < t.length) : (rot t b)[i]? = some (sec t ((i + b : Nat) : Int)) := by
  unfold rot
  by_cases c : i < t.length - b
  · rw [List.getElem?_append_left (by simp; omega), List.getElem?_drop, List.getElem?_eq_getElem (by omega), sec_nat (by omega)]
    congr 2
    omega
  · rw [List.getElem?_append_right (by simp; omega), List.length_drop, List.getElem?_take_of_lt (by omega), List.getElem?_eq_getElem (by omega)]
    congr 1
    rw [← sec_emod]
    have e : (((i + b : Nat) : Int)) % (t.length : Int) = ((i - (t.length - b) : Nat) : Int) := by
      have e1 : ((i + b : Nat) : Int) = ((i - (t.length - b) : Nat) : Int) + (t.length : Int) := by omega
      rw [e1, Int.add_emod_right, Int.emod_eq_of_lt (by omega) (by omega)]
    rw [e, sec_nat (by omega)]
theorem rot_iff {t : List Int} (h0 : 0 < t.length) (p : Nat) : rot t (((p : Int) % (t.length : Int)).toNat) = t ↔ Per t p := by
  have hn : (0 : Int) < t.length := by omega
  have m1 := Int.emod_nonneg (p : Int) (show (t.length : Int) ≠ 0 by omega)
  have m2 := Int.emod_lt_of_pos (p : Int) hn
  obtain ⟨b, hb⟩ : ∃ b : Nat, (p : Int) % (t.length : Int) = b := ⟨((p : Int) % (t.length : Int)).toNat, by omega⟩
  rw [hb, Int.toNat_natCast]
  have key : ∀ j : Int, sec t (j + p) = sec t (j % (t.length : Int) + b) := by
    intro j
    rw [← sec_emod t (j + p), ← sec_emod t (j % (t.length : Int) + b), ← hb]
    congr 1
    rw [Int.add_emod j p, ← Int.emod_add_emod]
  constructor
  · intro h i
    rw [key]
    have k1 := Int.emod_nonneg i (show (t.length : Int) ≠ 0 by omega)
    have k2 := Int.emod_lt_of_pos i hn
    obtain ⟨c, hc⟩ : ∃ c : Nat, i % (t.length : Int) = c := ⟨(i % (t.length : Int)).toNat, by omega⟩
    have g := rot_get (t := t) (b := b) (i := c) (by omega) (by omega)
    rw [h, List.getElem?_eq_getElem (by omega)] at g
    rw [← sec_emod t i, hc, sec_nat (by omega)]
    have := Option.some.inj g
    rw [this]
    congr 1
  · intro h
    refine List.ext_getElem? (fun i => ?_)
    by_cases hi : i < t.length
    · rw [rot_get (by omega) hi, List.getElem?_eq_getElem hi]
      congr 1
      have := h (i : Int)
      rw [key, Int.emod_eq_of_lt (by omega) (by omega), sec_nat hi] at this
      rw [← this]
      congr 1
    · rw [List.getElem?_eq_none (by rw [rot_length (by omega)]; omega), List.getElem?_eq_none (by omega)]
theorem per_len (t : List Int) : Per t t.length := fun i => by
  rw [← sec_emod, Int.add_emod_right, sec_emod]
/-- The period: the first number of seconds behind which a tone begins anew. -/
def IsPer (t : List Int) (p : Nat) : Prop := 1 ≤ p ∧ p ≤ t.length ∧ Per t p ∧ ∀ q, 1 ≤ q → q < p → ¬ Per t q
theorem IsPer.unique {t : List Int} {p q : Nat} (h : IsPer t p) (k : IsPer t q) : p = q := by
  rcases Nat.lt_trichotomy p q with c | c | c
  · exact absurd h.2.2.1 (k.2.2.2 p h.1 c)
  · exact c
  · exact absurd k.2.2.1 (h.2.2.2 q k.1 c)
theorem per_loop {t : List Int} (h0 : 0 < t.length) (hl : t.length ≤ 1000) (d : Nat) : ∀ p : Nat, 1 ≤ p → p ≤ t.length → t.length - p = d → (∀ q, 1 ≤ q → q < p → ¬ Per t q) →
    ∃ r, IsPer t r ∧ Tl (fun k => tone_period.l0 k t (p : Int)) (r : Int) := by
  induction d with
  | zero =>
    intro p h1 h2 h3 h4
    obtain rfl : p = t.length := by omega
    refine ⟨t.length, ⟨h1, Nat.le_refl _, per_len t, h4⟩, Tl.succ ?_⟩
    simp only [tone_period.l0]
    refine Tl.bind' (turn_eq h0 hl _) (Tl.bind (ev_Equal (by rw [rot_length]; omega; simp)) (Tl.pos ?_ Tl.now))
    exact decide_eq_true ((rot_iff h0 t.length).2 (per_len t))
  | succ d ih =>
    intro p h1 h2 h3 h4
    have hn : (0 : Int) < t.length := by omega
    have m2 := Int.emod_lt_of_pos (p : Int) hn
    by_cases c : Per t p
    · refine ⟨p, ⟨h1, h2, c, h4⟩, Tl.succ ?_⟩
      simp only [tone_period.l0]
      exact Tl.bind' (turn_eq h0 hl _) (Tl.bind (ev_Equal (by rw [rot_length]; omega; omega)) (Tl.pos (decide_eq_true ((rot_iff h0 p).2 c)) Tl.now))
    · obtain ⟨r, hr, next⟩ := ih (p + 1) (by omega) (by omega) (by omega) (fun q q1 q2 => by
        by_cases e : q = p
        · rw [e]; exact c
        · exact h4 q q1 (by omega))
      rw [show ((p + 1 : Nat) : Int) = (p : Int) + 1 by omega, ← w64 (x := (p : Int) + 1) (by omega) (by omega)] at next
      refine ⟨r, hr, Tl.succ ?_⟩
      simp only [tone_period.l0]
      exact Tl.bind' (turn_eq h0 hl _) (Tl.bind (ev_Equal (by rw [rot_length]; omega; omega)) (Tl.neg (by rw [decide_eq_true_eq]; exact fun q => c ((rot_iff h0 p).1 q)) next))
theorem ev_period {t : List Int} (h0 : 0 < t.length) (hl : t.length ≤ 1000) : ∃ r, IsPer t r ∧ Tl (fun k => tone_period.f k t) (r : Int) :=
  per_loop h0 hl (t.length - 1) 1 (by omega) (by omega) rfl (fun q q1 q2 => by omega)
end Go.Proofs.Ytmpmfjnmfgnhcaa.Pe
