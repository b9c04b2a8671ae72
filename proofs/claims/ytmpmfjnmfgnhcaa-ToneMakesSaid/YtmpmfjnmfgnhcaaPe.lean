/- Tones that begin with another second; the period. -/
import Derived.Test.YtmpmfjnmfgnhcaaVa
import Derived.Test.YtmpmfjnmfgnhcaaPx2
set_option linter.unusedVariables false
namespace Go.Proofs.Ytmpmfjnmfgnhcaa.Pe
open Go.RowKit Go.Proofs.Ytmpmfjnmfgnhcaa.P Go.Proofs.Ytmpmfjnmfgnhcaa.E Go.Proofs.Ytmpmfjnmfgnhcaa.Va Go.Proofs.YtmpmfjnmfgnhcaaW.PrintMore
open Go.Proofs.YtmpmfjnmfgnhcaaW.PrintWords
def rot (t : List Int) (b : Nat) : List Int := t.drop b ++ t.take b
theorem rot_length {t : List Int} {b : Nat} (hb : b ≤ t.length) : (rot t b).length = t.length := by
  simp [rot]; omega
theorem tmod_cases {n : Int} (hn : 0 < n) (i : Int) : (Int.tmod i n = i % n) ∨ (Int.tmod i n < 0 ∧ Int.tmod i n + n = i % n) := by
  rcases Int.le_total 0 i with h | h
  · exact .inl (Int.tmod_eq_emod_of_nonneg h)
  · have := Int.tmod_eq_emod (a := i) (b := n)
    by_cases c : 0 ≤ i ∨ n ∣ i
    · rw [if_pos c] at this; exact .inl (by omega)
    · rw [if_neg c] at this
      right
      have h1 := Int.emod_lt_of_pos i hn
      have h2 : (n.natAbs : Int) = n := by omega
      omega
theorem turn_eq {t : List Int} (h0 : 0 < t.length) (hl : t.length ≤ 1000) (b : Int) : tone_turn.f t b = some (rot t (b % (t.length : Int)).toNat) := by
  have hn : (0 : Int) < t.length := by omega
  have m1 := Int.emod_nonneg b (show (t.length : Int) ≠ 0 by omega)
  have m2 := Int.emod_lt_of_pos b hn
  have cc : ∀ j : Nat, j ≤ t.length → slices_Concat_int_int.f [t.drop j, t.take j] = some (rot t j) := by
    intro j hj
    unfold slices_Concat_int_int.f
    have e : ([t.drop j, t.take j] : List (List Int)).flatten = rot t j := by simp [rot]
    rw [e, rot_length hj, if_pos ⟨h0, by omega, by simp⟩]
  unfold tone_turn.f
  rw [if_neg (by omega)]
  rcases tmod_cases hn b with e | ⟨e1, e2⟩
  · rw [e, if_neg (by omega), if_pos m1, if_pos (by omega), cc _ (by omega)]
    rfl
  · rw [if_pos e1, w64 (by omega) (by omega), e2, if_pos m1, if_pos (by omega), cc _ (by omega)]
    rfl
theorem eq_loop {a b : List Int} (h : a.length = b.length) (hl : a.length ≤ 1000) (d : Nat) : ∀ i : Nat, i ≤ a.length → a.length - i = d → Tl (fun k => slices_Equal_int_int.l0 k a b (a.length : Int) (i : Int)) (decide (a.drop i = b.drop i)) := by
  induction d with
  | zero =>
    intro i h1 h2
    refine Tl.succ ?_
    simp only [slices_Equal_int_int.l0]
    refine Tl.to (Tl.neg (by omega) Tl.now) ?_
    rw [List.drop_eq_nil_of_le (by omega), List.drop_eq_nil_of_le (by omega)]; simp
  | succ d ih =>
    intro i h1 h2
    have h3 : i < a.length := by omega
    have h4 : i < b.length := by omega
    have next := ih (i + 1) (by omega) (by omega)
    rw [show ((i + 1 : Nat) : Int) = (i : Int) + 1 by omega, ← w64 (x := (i : Int) + 1) (by omega) (by omega)] at next
    refine Tl.succ ?_
    simp only [slices_Equal_int_int.l0]
    refine Tl.pos (by omega) (Tl.pos (by omega) (Tl.pos (by omega) (Tl.pos (by omega) ?_)))
    have e : (a.drop i = b.drop i) ↔ (a[i] = b[i] ∧ a.drop (i + 1) = b.drop (i + 1)) := by rw [drop_cons h3, drop_cons h4, List.cons.injEq]
    rw [rd_lt h3, rd_lt h4]
    by_cases c : a[i] = b[i]
    · exact Tl.to (Tl.pos c next) (decide_eq_decide.2 ⟨fun q => e.2 ⟨c, q⟩, fun q => (e.1 q).2⟩)
    · exact Tl.to (Tl.neg c Tl.now) (decide_eq_false (fun q => c (e.1 q).1)).symm
theorem ev_Equal {a b : List Int} (hl : a.length ≤ 1000) : Tl (fun k => slices_Equal_int_int.f k a b) (decide (a = b)) := by
  unfold slices_Equal_int_int.f
  by_cases h : a.length = b.length
  · refine Tl.pos (by omega) ?_
    have := eq_loop h hl a.length 0 (by omega) (by omega)
    simpa using this
  · exact Tl.to (Tl.neg (by omega) Tl.now) (decide_eq_false (fun q => h (by rw [q]))).symm
/-- A tone that begins with second p is the tone itself. -/
def Per (t : List Int) (p : Nat) : Prop := ∀ i : Int, sec t (i + p) = sec t i
theorem sec_emod (t : List Int) (i : Int) : sec t (i % (t.length : Int)) = sec t i := by
  unfold sec
  rw [Int.emod_emod]
theorem sec_nat {t : List Int} {i : Nat} (hi : i < t.length) : sec t (i : Int) = t[i] := by
  unfold sec
  rw [Int.emod_eq_of_lt (by omega) (by omega), rd_lt hi]
theorem rot_get {t : List Int} {b i : Nat} (hb : b ≤ t.length) (hi : i < t.length) : (rot t b)[i]? = some (sec t ((i + b : Nat) : Int)) := by
  unfold rot
  by_cases c : i < t.length - b
  · rw [List.getElem?_append_left (by simp; omega), List.getElem?_drop, List.getElem?_eq_getElem (by omega), sec_nat (by omega)]
    congr 2
    omega
  · rw [List.getElem?_append_right (by simp; omega), List.length_drop, List.getElem?_take_of_lt (by omega), List.getElem?_eq_getElem (by omega)]
    congr 1
    rw [← sec_emod]
    have e : (((i + b : Nat) : Int)) % (t.length : Int) = ((i - (t.length - b) : Nat) : Int) := by
      have e1 : ((i + b : Nat) : Int) = ((i - (t.length - b) : Nat) : Int) + (t.length : Int) := by omega
      rw [e1, Int.add_emod_right, Int.emod_eq_of_lt (by omega) (by omega)]
    rw [e, sec_nat (by omega)]
theorem rot_iff {t : List Int} (h0 : 0 < t.length) (p : Nat) : rot t (((p : Int) % (t.length : Int)).toNat) = t ↔ Per t p := by
  have hn : (0 : Int) < t.length := by omega
  have m1 := Int.emod_nonneg (p : Int) (show (t.length : Int) ≠ 0 by omega)
  have m2 := Int.emod_lt_of_pos (p : Int) hn
  obtain ⟨b, hb⟩ : ∃ b : Nat, (p : Int) % (t.length : Int) = b := ⟨((p : Int) % (t.length : Int)).toNat, by omega⟩
  rw [hb, Int.toNat_natCast]
  have key : ∀ j : Int, sec t (j + p) = sec t (j % (t.length : Int) + b) := by
    intro j
    rw [← sec_emod t (j + p), ← sec_emod t (j % (t.length : Int) + b), ← hb]
    congr 1
    rw [Int.add_emod j p, ← Int.emod_add_emod]
  constructor
  · intro h i
    rw [key]
    have k1 := Int.emod_nonneg i (show (t.length : Int) ≠ 0 by omega)
    have k2 := Int.emod_lt_of_pos i hn
    obtain ⟨c, hc⟩ : ∃ c : Nat, i % (t.length : Int) = c := ⟨(i % (t.length : Int)).toNat, by omega⟩
    have g := rot_get (t := t) (b := b) (i := c) (by omega) (by omega)
    rw [h, List.getElem?_eq_getElem (by omega)] at g
    rw [← sec_emod t i, hc, sec_nat (by omega)]
    have := Option.some.inj g
    rw [this]
    congr 1
  · intro h
    refine List.ext_getElem? (fun i => ?_)
    by_cases hi : i < t.length
    · rw [rot_get (by omega) hi, List.getElem?_eq_getElem hi]
      congr 1
      have := h (i : Int)
      rw [key, Int.emod_eq_of_lt (by omega) (by omega), sec_nat hi] at this
      rw [← this]
      congr 1
    · rw [List.getElem?_eq_none (by rw [rot_length (by omega)]; omega), List.getElem?_eq_none (by omega)]
theorem per_len (t : List Int) : Per t t.length := fun i => by
  rw [← sec_emod, Int.add_emod_right, sec_emod]
/-- The period: the first number of seconds behind which a tone begins anew. -/
def IsPer (t : List Int) (p : Nat) : Prop := 1 ≤ p ∧ p ≤ t.length ∧ Per t p ∧ ∀ q, 1 ≤ q → q < p → ¬ Per t q
theorem IsPer.unique {t : List Int} {p q : Nat} (h : IsPer t p) (k : IsPer t q) : p = q := by
  rcases Nat.lt_trichotomy p q with c | c | c
  · exact absurd h.2.2.1 (k.2.2.2 p h.1 c)
  · exact c
  · exact absurd k.2.2.1 (h.2.2.2 q k.1 c)
theorem per_loop {t : List Int} (h0 : 0 < t.length) (hl : t.length ≤ 1000) (d : Nat) : ∀ p : Nat, 1 ≤ p → p ≤ t.length → t.length - p = d → (∀ q, 1 ≤ q → q < p → ¬ Per t q) →
    ∃ r, IsPer t r ∧ Tl (fun k => tone_period.l0 k t (p : Int)) (r : Int) := by
  induction d with
  | zero =>
    intro p h1 h2 h3 h4
    obtain rfl : p = t.length := by omega
    refine ⟨t.length, ⟨h1, Nat.le_refl _, per_len t, h4⟩, Tl.succ ?_⟩
    simp only [tone_period.l0]
    refine Tl.bind' (turn_eq h0 hl _) (Tl.bind (ev_Equal (by rw [rot_length]; omega; simp)) (Tl.pos ?_ Tl.now))
    exact decide_eq_true ((rot_iff h0 t.length).2 (per_len t))
  | succ d ih =>
    intro p h1 h2 h3 h4
    have hn : (0 : Int) < t.length := by omega
    have m2 := Int.emod_lt_of_pos (p : Int) hn
    by_cases c : Per t p
    · refine ⟨p, ⟨h1, h2, c, h4⟩, Tl.succ ?_⟩
      simp only [tone_period.l0]
      exact Tl.bind' (turn_eq h0 hl _) (Tl.bind (ev_Equal (by rw [rot_length]; omega; omega)) (Tl.pos (decide_eq_true ((rot_iff h0 p).2 c)) Tl.now))
    · obtain ⟨r, hr, next⟩ := ih (p + 1) (by omega) (by omega) (by omega) (fun q q1 q2 => by
        by_cases e : q = p
        · rw [e]; exact c
        · exact h4 q q1 (by omega))
      rw [show ((p + 1 : Nat) : Int) = (p : Int) + 1 by omega, ← w64 (x := (p : Int) + 1) (by omega) (by omega)] at next
      refine ⟨r, hr, Tl.succ ?_⟩
      simp only [tone_period.l0]
      exact Tl.bind' (turn_eq h0 hl _) (Tl.bind (ev_Equal (by rw [rot_length]; omega; omega)) (Tl.neg (by rw [decide_eq_true_eq]; exact fun q => c ((rot_iff h0 p).1 q)) next))
theorem ev_period {t : List Int} (h0 : 0 < t.length) (hl : t.length ≤ 1000) : ∃ r, IsPer t r ∧ Tl (fun k => tone_period.f k t) (r : Int) :=
  per_loop h0 hl (t.length - 1) 1 (by omega) (by omega) rfl (fun q q1 q2 => by omega)
end Go.Proofs.Ytmpmfjnmfgnhcaa.Pe
