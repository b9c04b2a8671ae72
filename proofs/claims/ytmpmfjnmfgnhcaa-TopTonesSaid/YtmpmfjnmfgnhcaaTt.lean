/- What the last law of the chapter needs of the plain laws: seconds, periods, names, pieces, and how long one must listen. -/
import Derived.Test.YtmpmfjnmfgnhcaaWWords
import Derived.Test.YtmpmfjnmfgnhcaaWMore
import Derived.Test.YtmpmfjnmfgnhcaaPx2
import Derived.Test.YtmpmfjnmfgnhcaaPx34
import Derived.Test.YtmpmfjnmfgnhcaaPx1
import Derived.Test.YtmpmfjnmfgnhcaaPx2
import Derived.Test.YtmpmfjnmfgnhcaaPx2
import Derived.Test.YtmpmfjnmfgnhcaaPx2
import Derived.Test.YtmpmfjnmfgnhcaaPx34
import Derived.Test.YtmpmfjnmfgnhcaaPx37
import Derived.Test.YtmpmfjnmfgnhcaaPx39
import Derived.Test.YtmpmfjnmfgnhcaaPx17
import Derived.Test.YtmpmfjnmfgnhcaaPx17
import Derived.Test.YtmpmfjnmfgnhcaaPx36
import Derived.Test.YtmpmfjnmfgnhcaaPx50
import Derived.Test.YtmpmfjnmfgnhcaaPx53
import Derived.Test.YtmpmfjnmfgnhcaaPx54
import Derived.Test.YtmpmfjnmfgnhcaaPx54
import Derived.Test.YtmpmfjnmfgnhcaaPx21
import Derived.Test.YtmpmfjnmfgnhcaaPx8
set_option linter.unusedVariables false
namespace Go.Proofs.Ytmpmfjnmfgnhcaa.E
open Go.RowKit Go.Proofs.YtmpmfjnmfgnhcaaW.PrintWords Go.Proofs.YtmpmfjnmfgnhcaaW.PrintMore
/-- From some number of rounds on, g answers r. -/
def Tl {α : Type} (g : Nat → Option α) (r : α) : Prop := ∃ K, ∀ k, K ≤ k → g k = some r
theorem Tl.now {α : Type} {r : α} : Tl (fun _ => some r) r := ⟨0, fun _ _ => rfl⟩
theorem Tl.of {α : Type} {o : Option α} {r : α} (h : o = some r) : Tl (fun _ => o) r := ⟨0, fun _ _ => h⟩
theorem Tl.mono {α : Type} {g : Nat → Option α} {r : α} (hm : ∀ k, LeO (g k) (g (k + 1))) (k : Nat) (h : g k = some r) : Tl g r := ⟨k, fun _ hk => at_rounds hm hk h⟩
theorem Tl.succ {α : Type} {g : Nat → Option α} {r : α} (h : Tl (fun k => g (k + 1)) r) : Tl g r := by
  obtain ⟨K, hK⟩ := h
  refine ⟨K + 1, fun k hk => ?_⟩
  obtain ⟨m, rfl⟩ : ∃ m, k = m + 1 := ⟨k - 1, by omega⟩
  exact hK m (by omega)
theorem Tl.bind {α β : Type} {g : Nat → Option α} {f : Nat → α → Option β} {a : α} {r : β} (h : Tl g a) (hf : Tl (fun k => f k a) r) : Tl (fun k => (g k).bind (f k)) r := by
  obtain ⟨K, hK⟩ := h
  obtain ⟨L, hL⟩ := hf
  refine ⟨max K L, fun k hk => ?_⟩
  show (g k).bind (f k) = some r
  rw [hK k (by omega)]
  exact hL k (by omega)
theorem Tl.bind' {α β : Type} {o : Option α} {f : Nat → α → Option β} {a : α} {r : β} (h : o = some a) (hf : Tl (fun k => f k a) r) : Tl (fun k => o.bind (f k)) r := by
  rw [h]; exact hf
theorem Tl.congr {α : Type} {g g' : Nat → Option α} {r : α} (h : Tl g r) (e : ∀ k, g' k = g k) : Tl g' r := by
  obtain ⟨K, hK⟩ := h
  exact ⟨K, fun k hk => (e k).trans (hK k hk)⟩
theorem Tl.to {α : Type} {g : Nat → Option α} {r r' : α} (h : Tl g r) (e : r = r') : Tl g r' := e ▸ h
theorem Tl.ex {α : Type} {g : Nat → Option α} {r : α} (h : Tl g r) : ∃ k, g k = some r := by
  obtain ⟨K, hK⟩ := h
  exact ⟨K, hK K (Nat.le_refl _)⟩
theorem Tl.pos {α : Type} {c : Prop} [Decidable c] {g g' : Nat → Option α} {r : α} (hc : c) (h : Tl g r) : Tl (fun k => if c then g k else g' k) r := by
  simpa only [if_pos hc] using h
theorem Tl.neg {α : Type} {c : Prop} [Decidable c] {g g' : Nat → Option α} {r : α} (hc : ¬ c) (h : Tl g' r) : Tl (fun k => if c then g k else g' k) r := by
  simpa only [if_neg hc] using h
theorem Tl.ite {α : Type} {c : Prop} [Decidable c] {g g' : Nat → Option α} {r r' : α} (h : c → Tl g r) (h' : ¬ c → Tl g' r') : Tl (fun k => if c then g k else g' k) (if c then r else r') := by
  by_cases hc : c
  · simpa only [if_pos hc] using h hc
  · simpa only [if_neg hc] using h' hc
theorem w64 {x : Int} (h1 : -9223372036854775808 ≤ x) (h2 : x < 9223372036854775808) : wrap64 x = x := by
  unfold wrap64
  omega
theorem wf64 {x : Int} (h : (Lit.int .i64 x).wf = true) : -9223372036854775808 ≤ x ∧ x < 9223372036854775808 := by
  simp only [Lit.wf, IntKind.min, IntKind.max, IntKind.signed, IntKind.bits, Bool.and_eq_true, decide_eq_true_eq, if_true] at h
  omega
theorem mx_eq (a b : Int) : mx a b = max a b := by unfold mx; omega
theorem mn_eq (a b : Int) : mn a b = min a b := by unfold mn; omega
theorem rd_nat (xs : List Int) (i : Nat) : rd xs (i : Int) = xs.getD i 0 := by simp [rd]
theorem rd_lt {xs : List Int} {i : Nat} (h : i < xs.length) : rd xs (i : Int) = xs[i] := by rw [rd_nat, List.getD_eq_getElem?_getD, List.getElem?_eq_getElem h]; rfl
end Go.Proofs.Ytmpmfjnmfgnhcaa.E
namespace Go.Proofs.Ytmpmfjnmfgnhcaa.Va
open Go.RowKit Go.Proofs.Ytmpmfjnmfgnhcaa.P Go.Proofs.Ytmpmfjnmfgnhcaa.E Go.Proofs.YtmpmfjnmfgnhcaaW.PrintMore
open Go.Proofs.YtmpmfjnmfgnhcaaW.PrintWords
def Ok (t : List Int) : Prop := 1 ≤ t.length ∧ t.length ≤ 24 ∧ ∀ i : Nat, i < t.length → rd t (i : Int) = 0 ∨ rd t (i : Int) = 1
def vc (t : List Int) : Int := if 1 ≤ t.length ∧ t.length ≤ 24 then (if t.all (fun x => decide (x = 0 ∨ x = 1)) then 0 else 1) else 3
theorem vc_ok {t : List Int} : vc t = 0 ↔ Ok t := by
  unfold vc Ok
  by_cases h : 1 ≤ t.length ∧ t.length ≤ 24
  · rw [if_pos h]
    by_cases h2 : t.all (fun x => decide (x = 0 ∨ x = 1)) = true
    · rw [if_pos h2]
      refine ⟨fun _ => ⟨h.1, h.2, fun i hi => ?_⟩, fun _ => rfl⟩
      rw [rd_lt hi]
      have := List.all_eq_true.1 h2 _ (List.getElem_mem hi)
      simpa using this
    · rw [if_neg h2]
      refine ⟨fun q => by omega, fun q => ?_⟩
      exfalso
      apply h2
      refine List.all_eq_true.2 (fun x hx => ?_)
      obtain ⟨i, hi, rfl⟩ := List.getElem_of_mem hx
      have := q.2.2 i hi
      rw [rd_lt hi] at this
      simpa using this
  · rw [if_neg h]
    exact ⟨fun q => by omega, fun q => absurd ⟨q.1, q.2.1⟩ h⟩
theorem within_eq (a b c : Int) : tone_within.f a b c = some (decide (b ≤ a ∧ a ≤ c)) := by
  unfold tone_within.f
  by_cases h : a ≥ b
  · rw [if_pos h]; congr 1; exact decide_eq_decide.2 ⟨fun q => ⟨h, q⟩, fun q => q.2⟩
  · rw [if_neg h]; congr 1; exact (decide_eq_false (by omega)).symm
theorem drop_cons {α : Type} {h : List α} {i : Nat} (hi : i < h.length) : h.drop i = h[i] :: h.drop (i + 1) := List.drop_eq_getElem_cons hi
/-- The bits from a place on: the number of the first other one, or -1. -/
def bits (l : List Int) : Bool := l.all (fun x => decide (x = 0 ∨ x = 1))
theorem bits_drop {t : List Int} {i : Nat} (hi : i < t.length) : bits (t.drop i) = (decide (rd t (i : Int) = 0 ∨ rd t (i : Int) = 1) && bits (t.drop (i + 1))) := by
  rw [drop_cons hi, rd_lt hi]; rfl
theorem pbits_loop (t : List Int) (hl : t.length ≤ 1000) (d : Nat) : ∀ i : Nat, i ≤ t.length → t.length - i = d → ∃ j : Int, (j < 0 ↔ bits (t.drop i) = true) ∧ Tl (fun k => slices_IndexFunc_int_int_tone_isSeconds_1.l0 k t (t.length : Int) (i : Int)) j := by
  induction d with
  | zero =>
    intro i h1 h2
    refine ⟨-1, ?_, ?_⟩
    · rw [List.drop_eq_nil_of_le (by omega)]; simp [bits]
    · refine Tl.succ ?_
      simp only [slices_IndexFunc_int_int_tone_isSeconds_1.l0]
      exact Tl.neg (by omega) Tl.now
  | succ d ih =>
    intro i h1 h2
    have hlt : i < t.length := by omega
    obtain ⟨j, hj, next⟩ := ih (i + 1) (by omega) (by omega)
    rw [show ((i + 1 : Nat) : Int) = (i : Int) + 1 by omega, ← w64 (x := (i : Int) + 1) (by omega) (by omega)] at next
    rw [bits_drop hlt]
    have e : tone_isSeconds_1.f (rd t (i : Int)) = some (decide (¬ (rd t (i : Int) = 0 ∨ rd t (i : Int) = 1))) := by
      unfold tone_isSeconds_1.f
      by_cases h0 : rd t (i : Int) = 0
      · simp [h0]
      · by_cases h1 : rd t (i : Int) = 1
        · simp [h1]
        · simp [h0, h1]
    by_cases c : rd t (i : Int) = 0 ∨ rd t (i : Int) = 1
    · refine ⟨j, by rw [hj]; simp [c], ?_⟩
      refine Tl.succ ?_
      simp only [slices_IndexFunc_int_int_tone_isSeconds_1.l0]
      exact Tl.pos (by omega) (Tl.pos (by omega) (Tl.pos (by omega) (Tl.bind' e (Tl.neg (by simp [c]) next))))
    · refine ⟨(i : Int), by simp [c] <;> omega, ?_⟩
      refine Tl.succ ?_
      simp only [slices_IndexFunc_int_int_tone_isSeconds_1.l0]
      exact Tl.pos (by omega) (Tl.pos (by omega) (Tl.pos (by omega) (Tl.bind' e (Tl.pos (by simp [c]) Tl.now))))
theorem ev_Validate {t : List Int} (hl : t.length ≤ 1000) : Tl (fun k => tone_Validate.f k t) (vc t) := by
  unfold tone_Validate.f
  refine Tl.bind' (within_eq _ _ _) ?_
  obtain ⟨j, hj, hr⟩ := pbits_loop t hl t.length 0 (by omega) (by omega)
  have b : Tl (fun k => tone_isSeconds.f k t) (bits t) := by
    unfold tone_isSeconds.f slices_ContainsFunc_int_int_tone_isSeconds_1.f
    refine Tl.to (Tl.bind (Tl.bind hr Tl.now) Tl.now) ?_
    rw [List.drop_zero] at hj
    cases hb : bits t with
    | true => rw [hb] at hj; have := hj.2 rfl; simp; omega
    | false => rw [hb] at hj; have : ¬ j < 0 := fun q => by simpa using hj.1 q
               simp; omega
  by_cases h : 1 ≤ t.length ∧ t.length ≤ 24
  · refine Tl.pos (decide_eq_true (by omega)) (Tl.bind b ?_)
    by_cases h2 : bits t = true
    · refine Tl.to (Tl.pos h2 Tl.now) ?_
      unfold bits at h2
      simp only [vc, if_pos h, if_pos h2]
    · refine Tl.to (Tl.neg h2 Tl.now) ?_
      unfold bits at h2
      simp only [vc, if_pos h, if_neg h2]
  · exact Tl.to (Tl.neg (by rw [decide_eq_true_eq]; omega) Tl.now) (by simp only [vc, if_neg h])
/-- A second, at whatever number. -/
def sec (t : List Int) (i : Int) : Int := rd t (i % (t.length : Int))
theorem at_eq {t : List Int} (h0 : 0 < t.length) (hl : t.length ≤ 1000) (i : Int) : tone_at.f t i = some (sec t i) := by
  have hn : (0 : Int) < t.length := by omega
  have m1 := Int.emod_nonneg i (show (t.length : Int) ≠ 0 by omega)
  have m2 := Int.emod_lt_of_pos i hn
  have e : Int.tmod i (t.length : Int) = i % (t.length : Int) ∨ (Int.tmod i (t.length : Int) < 0 ∧ Int.tmod i (t.length : Int) + (t.length : Int) = i % (t.length : Int)) := by
    rcases Int.le_total 0 i with h | h
    · exact .inl (Int.tmod_eq_emod_of_nonneg h)
    · have := Int.tmod_eq_emod (a := i) (b := (t.length : Int))
      by_cases c : 0 ≤ i ∨ (t.length : Int) ∣ i
      · rw [if_pos c] at this; exact .inl (by omega)
      · rw [if_neg c] at this
        right
        have : ((t.length : Int).natAbs : Int) = t.length := by omega
        omega
  unfold tone_at.f sec
  rw [if_neg (by omega)]
  rcases e with e | ⟨e1, e2⟩
  · rw [e, if_neg (by omega), if_pos m1, if_pos m2]
  · rw [if_pos e1, w64 (by omega) (by omega), e2, if_pos m1, if_pos m2]
theorem same_loop (l : List Int) (hl : l.length ≤ 1000) (d : Nat) : ∀ i : Nat, i ≤ l.length → l.length - i = d → Tl (fun k => diaphoneref01_SameInts.l0 k l l (i : Int)) true := by
  induction d with
  | zero =>
    intro i h1 h2
    refine Tl.succ ?_
    simp only [diaphoneref01_SameInts.l0]
    exact Tl.neg (by omega) Tl.now
  | succ d ih =>
    intro i h1 h2
    refine Tl.succ ?_
    simp only [diaphoneref01_SameInts.l0]
    rw [w64 (by omega) (by omega)]
    exact Tl.pos (by omega) (Tl.pos (by omega) (Tl.pos (by omega) (Tl.pos trivial (ih (i + 1) (by omega) (by omega)))))
theorem ev_SameInts (l : List Int) (hl : l.length ≤ 1000) : Tl (fun k => diaphoneref01_SameInts.f k l l) true := by
  unfold diaphoneref01_SameInts.f
  exact Tl.pos rfl (same_loop l hl l.length 0 (by omega) (by omega))
end Go.Proofs.Ytmpmfjnmfgnhcaa.Va
namespace Go.Proofs.Ytmpmfjnmfgnhcaa.Pe
open Go.RowKit Go.Proofs.Ytmpmfjnmfgnhcaa.P Go.Proofs.Ytmpmfjnmfgnhcaa.E Go.Proofs.Ytmpmfjnmfgnhcaa.Va Go.Proofs.YtmpmfjnmfgnhcaaW.PrintMore
open Go.Proofs.YtmpmfjnmfgnhcaaW.PrintWords
def rot (t : List Int) (b : Nat) : List Int := t.drop b ++ t.take b
theorem rot_length {t : List Int} {b : Nat} (hb : b ≤ t.length) : (rot t b).length = t.length := by
  simp [rot]; omega
theorem tmod_cases {n : Int} (hn : 0 < n) (i : Int) : (Int.tmod i n = i % n) ∨ (Int.tmod i n < 0 ∧ Int.tmod i n + n = i % n) := by
  rcases Int.le_total 0 i with h | h
  · exact .inl (Int.tmod_eq_emod_of_nonneg h)
  · have := Int.tmod_eq_emod (a := i) (b := n)
    by_cases c : 0 ≤ i ∨ n ∣ i
    · rw [if_pos c] at this; exact .inl (by omega)
    · rw [if_neg c] at this
      right
      have h1 := Int.emod_lt_of_pos i hn
      have h2 : (n.natAbs : Int) = n := by omega
      omega
theorem turn_eq {t : List Int} (h0 : 0 < t.length) (hl : t.length ≤ 1000) (b : Int) : tone_turn.f t b = some (rot t (b % (t.length : Int)).toNat) := by
  have hn : (0 : Int) < t.length := by omega
  have m1 := Int.emod_nonneg b (show (t.length : Int) ≠ 0 by omega)
  have m2 := Int.emod_lt_of_pos b hn
  have cc : ∀ j : Nat, j ≤ t.length → slices_Concat_int_int.f [t.drop j, t.take j] = some (rot t j) := by
    intro j hj
    unfold slices_Concat_int_int.f
    have e : ([t.drop j, t.take j] : List (List Int)).flatten = rot t j := by simp [rot]
    rw [e, rot_length hj, if_pos ⟨h0, by omega, by simp⟩]
  unfold tone_turn.f
  rw [if_neg (by omega)]
  rcases tmod_cases hn b with e | ⟨e1, e2⟩
  · rw [e, if_neg (by omega), if_pos m1, if_pos (by omega), cc _ (by omega)]
    rfl
  · rw [if_pos e1, w64 (by omega) (by omega), e2, if_pos m1, if_pos (by omega), cc _ (by omega)]
    rfl
theorem eq_loop {a b : List Int} (h : a.length = b.length) (hl : a.length ≤ 1000) (d : Nat) : ∀ i : Nat, i ≤ a.length → a.length - i = d → Tl (fun k => slices_Equal_int_int.l0 k a b (a.length : Int) (i : Int)) (decide (a.drop i = b.drop i)) := by
  induction d with
  | zero =>
    intro i h1 h2
    refine Tl.succ ?_
    simp only [slices_Equal_int_int.l0]
    refine Tl.to (Tl.neg (by omega) Tl.now) ?_
    rw [List.drop_eq_nil_of_le (by omega), List.drop_eq_nil_of_le (by omega)]; simp
  | succ d ih =>
    intro i h1 h2
    have h3 : i < a.length := by omega
    have h4 : i < b.length := by omega
    have next := ih (i + 1) (by omega) (by omega)
    rw [show ((i + 1 : Nat) : Int) = (i : Int) + 1 by omega, ← w64 (x := (i : Int) + 1) (by omega) (by omega)] at next
    refine Tl.succ ?_
    simp only [slices_Equal_int_int.l0]
    refine Tl.pos (by omega) (Tl.pos (by omega) (Tl.pos (by omega) (Tl.pos (by omega) ?_)))
    have e : (a.drop i = b.drop i) ↔ (a[i] = b[i] ∧ a.drop (i + 1) = b.drop (i + 1)) := by rw [drop_cons h3, drop_cons h4, List.cons.injEq]
    rw [rd_lt h3, rd_lt h4]
    by_cases c : a[i] = b[i]
    · exact Tl.to (Tl.pos c next) (decide_eq_decide.2 ⟨fun q => e.2 ⟨c, q⟩, fun q => (e.1 q).2⟩)
    · exact Tl.to (Tl.neg c Tl.now) (decide_eq_false (fun q => c (e.1 q).1)).symm
theorem ev_Equal {a b : List Int} (hl : a.length ≤ 1000) : Tl (fun k => slices_Equal_int_int.f k a b) (decide (a = b)) := by
  unfold slices_Equal_int_int.f
  by_cases h : a.length = b.length
  · refine Tl.pos (by omega) ?_
    have := eq_loop h hl a.length 0 (by omega) (by omega)
    simpa using this
  · exact Tl.to (Tl.neg (by omega) Tl.now) (decide_eq_false (fun q => h (by rw [q]))).symm
/-- A tone that begins with second p is the tone itself. -/
def Per (t : List Int) (p : Nat) : Prop := ∀ i : Int, sec t (i + p) = sec t i
theorem sec_emod (t : List Int) (i : Int) : sec t (i % (t.length : Int)) = sec t i := by
  unfold sec
  rw [Int.emod_emod]
theorem sec_nat {t : List Int} {i : Nat} (hi : i < t.length) : sec t (i : Int) = t[i] := by
  unfold sec
  rw [Int.emod_eq_of_lt (by omega) (by omega), rd_lt hi]
theorem rot_get {t : List Int} {b i : Nat} (hb : b ≤ t.length) (hi : i < t.length) : (rot t b)[i]? = some (sec t ((i + b : Nat) : Int)) := by
  unfold rot
  by_cases c : i < t.length - b
  · rw [List.getElem?_append_left (by simp; omega), List.getElem?_drop, List.getElem?_eq_getElem (by omega), sec_nat (by omega)]
    congr 2
    omega
  · rw [List.getElem?_append_right (by simp; omega), List.length_drop, List.getElem?_take_of_lt (by omega), List.getElem?_eq_getElem (by omega)]
    congr 1
    rw [← sec_emod]
    have e : (((i + b : Nat) : Int)) % (t.length : Int) = ((i - (t.length - b) : Nat) : Int) := by
      have e1 : ((i + b : Nat) : Int) = ((i - (t.length - b) : Nat) : Int) + (t.length : Int) := by omega
      rw [e1, Int.add_emod_right, Int.emod_eq_of_lt (by omega) (by omega)]
    rw [e, sec_nat (by omega)]
theorem rot_iff {t : List Int} (h0 : 0 < t.length) (p : Nat) : rot t (((p : Int) % (t.length : Int)).toNat) = t ↔ Per t p := by
  have hn : (0 : Int) < t.length := by omega
  have m1 := Int.emod_nonneg (p : Int) (show (t.length : Int) ≠ 0 by omega)
  have m2 := Int.emod_lt_of_pos (p : Int) hn
  obtain ⟨b, hb⟩ : ∃ b : Nat, (p : Int) % (t.length : Int) = b := ⟨((p : Int) % (t.length : Int)).toNat, by omega⟩
  rw [hb, Int.toNat_natCast]
  have key : ∀ j : Int, sec t (j + p) = sec t (j % (t.length : Int) + b) := by
    intro j
    rw [← sec_emod t (j + p), ← sec_emod t (j % (t.length : Int) + b), ← hb]
    congr 1
    rw [Int.add_emod j p, ← Int.emod_add_emod]
  constructor
  · intro h i
    rw [key]
    have k1 := Int.emod_nonneg i (show (t.length : Int) ≠ 0 by omega)
    have k2 := Int.emod_lt_of_pos i hn
    obtain ⟨c, hc⟩ : ∃ c : Nat, i % (t.length : Int) = c := ⟨(i % (t.length : Int)).toNat, by omega⟩
    have g := rot_get (t := t) (b := b) (i := c) (by omega) (by omega)
    rw [h, List.getElem?_eq_getElem (by omega)] at g
    rw [← sec_emod t i, hc, sec_nat (by omega)]
    have := Option.some.inj g
    rw [this]
    congr 1
  · intro h
    refine List.ext_getElem? (fun i => ?_)
    by_cases hi : i < t.length
    · rw [rot_get (by omega) hi, List.getElem?_eq_getElem hi]
      congr 1
      have := h (i : Int)
      rw [key, Int.emod_eq_of_lt (by omega) (by omega), sec_nat hi] at this
      rw [← this]
      congr 1
    · rw [List.getElem?_eq_none (by rw [rot_length (by omega)]; omega), List.getElem?_eq_none (by omega)]
theorem per_len (t : List Int) : Per t t.length := fun i => by
  rw [← sec_emod, Int.add_emod_right, sec_emod]
/-- The period: the first number of seconds behind which a tone begins anew. -/
def IsPer (t : List Int) (p : Nat) : Prop := 1 ≤ p ∧ p ≤ t.length ∧ Per t p ∧ ∀ q, 1 ≤ q → q < p → ¬ Per t q
theorem IsPer.unique {t : List Int} {p q : Nat} (h : IsPer t p) (k : IsPer t q) : p = q := by
  rcases Nat.lt_trichotomy p q with c | c | c
  · exact absurd h.2.2.1 (k.2.2.2 p h.1 c)
  · exact c
  · exact absurd k.2.2.1 (h.2.2.2 q k.1 c)
theorem per_loop {t : List Int} (h0 : 0 < t.length) (hl : t.length ≤ 1000) (d : Nat) : ∀ p : Nat, 1 ≤ p → p ≤ t.length → t.length - p = d → (∀ q, 1 ≤ q → q < p → ¬ Per t q) →
    ∃ r, IsPer t r ∧ Tl (fun k => tone_period.l0 k t (p : Int)) (r : Int) := by
  induction d with
  | zero =>
    intro p h1 h2 h3 h4
    obtain rfl : p = t.length := by omega
    refine ⟨t.length, ⟨h1, Nat.le_refl _, per_len t, h4⟩, Tl.succ ?_⟩
    simp only [tone_period.l0]
    refine Tl.bind' (turn_eq h0 hl _) (Tl.bind (ev_Equal (by rw [rot_length]; omega; simp)) (Tl.pos ?_ Tl.now))
    exact decide_eq_true ((rot_iff h0 t.length).2 (per_len t))
  | succ d ih =>
    intro p h1 h2 h3 h4
    have hn : (0 : Int) < t.length := by omega
    have m2 := Int.emod_lt_of_pos (p : Int) hn
    by_cases c : Per t p
    · refine ⟨p, ⟨h1, h2, c, h4⟩, Tl.succ ?_⟩
      simp only [tone_period.l0]
      exact Tl.bind' (turn_eq h0 hl _) (Tl.bind (ev_Equal (by rw [rot_length]; omega; omega)) (Tl.pos (decide_eq_true ((rot_iff h0 p).2 c)) Tl.now))
    · obtain ⟨r, hr, next⟩ := ih (p + 1) (by omega) (by omega) (by omega) (fun q q1 q2 => by
        by_cases e : q = p
        · rw [e]; exact c
        · exact h4 q q1 (by omega))
      rw [show ((p + 1 : Nat) : Int) = (p : Int) + 1 by omega, ← w64 (x := (p : Int) + 1) (by omega) (by omega)] at next
      refine ⟨r, hr, Tl.succ ?_⟩
      simp only [tone_period.l0]
      exact Tl.bind' (turn_eq h0 hl _) (Tl.bind (ev_Equal (by rw [rot_length]; omega; omega)) (Tl.neg (by rw [decide_eq_true_eq]; exact fun q => c ((rot_iff h0 p).1 q)) next))
theorem ev_period {t : List Int} (h0 : 0 < t.length) (hl : t.length ≤ 1000) : ∃ r, IsPer t r ∧ Tl (fun k => tone_period.f k t) (r : Int) :=
  per_loop h0 hl (t.length - 1) 1 (by omega) (by omega) rfl (fun q q1 q2 => by omega)
end Go.Proofs.Ytmpmfjnmfgnhcaa.Pe
namespace Go.Proofs.Ytmpmfjnmfgnhcaa.Nm
open Go.RowKit Go.Proofs.Ytmpmfjnmfgnhcaa.P Go.Proofs.Ytmpmfjnmfgnhcaa.E Go.Proofs.Ytmpmfjnmfgnhcaa.Va Go.Proofs.Ytmpmfjnmfgnhcaa.Pe Go.Proofs.YtmpmfjnmfgnhcaaW.PrintMore
open Go.Proofs.YtmpmfjnmfgnhcaaW.PrintWords
theorem ev_root {t : List Int} (h0 : 0 < t.length) (hl : t.length ≤ 1000) {p : Nat} (hp : IsPer t p) : Tl (fun k => tone_root.f k t) (t.take p) := by
  obtain ⟨q, hq, hr⟩ := ev_period h0 hl
  obtain rfl := hp.unique hq
  have h2 := hp.2.1
  unfold tone_root.f
  refine Tl.bind hr (Tl.pos (by omega) (Tl.pos (by omega) (Tl.bind' ?_ Tl.now)))
  unfold slices_Clone_int_int.f
  rw [if_pos (by simp; omega), Int.toNat_natCast]
/-- n seconds from second f on. -/
def pc (t : List Int) (f : Int) (n : Nat) : List Int := (List.range n).map (fun (j : Nat) => sec t (f + (j : Int)))
theorem pc_length (t : List Int) (f : Int) (n : Nat) : (pc t f n).length = n := by simp [pc]
theorem pc_succ (t : List Int) (f : Int) (n : Nat) : pc t f (n + 1) = pc t f n ++ [sec t (f + n)] := by simp [pc, List.range_succ]
theorem pc_take {t : List Int} {p : Nat} (hp : p ≤ t.length) : pc t 0 p = t.take p := by
  refine List.ext_getElem? (fun i => ?_)
  by_cases h : i < p
  · rw [List.getElem?_take_of_lt h, List.getElem?_eq_getElem (show i < t.length by omega), List.getElem?_eq_getElem (show i < (pc t 0 p).length by rw [pc_length]; omega)]
    congr 1
    simp only [pc, List.getElem_map, List.getElem_range, Int.zero_add]
    exact sec_nat (by omega)
  · rw [List.getElem?_eq_none (by rw [pc_length]; omega), List.getElem?_eq_none (by simp; omega)]
theorem per_mul {t : List Int} {p : Nat} (h : Per t p) (k : Nat) : ∀ i : Int, sec t (i + (p : Int) * k) = sec t i := by
  induction k with
  | zero => intro i; simp
  | succ k ih =>
    intro i
    have : i + (p : Int) * ((k + 1 : Nat) : Int) = (i + (p : Int) * k) + p := by
      rw [show ((k + 1 : Nat) : Int) = (k : Int) + 1 by omega, Int.mul_add]; omega
    rw [this, h, ih]
/-- The period divides every number of seconds behind which a tone begins anew. -/
theorem per_dvd {t : List Int} {p n : Nat} (h : IsPer t p) (hn : Per t n) : n % p = 0 := by
  rcases Nat.eq_zero_or_pos (n % p) with c | c
  · exact c
  · exfalso
    refine h.2.2.2 (n % p) c (Nat.mod_lt _ h.1) (fun i => ?_)
    rw [← per_mul h.2.2.1 (n / p) (i + ((n % p : Nat) : Int)), ← hn i]
    congr 1
    have := Nat.mod_add_div n p
    have e : ((n % p : Nat) : Int) + (p : Int) * ((n / p : Nat) : Int) = (n : Int) := by rw [← Int.natCast_mul, ← Int.natCast_add, this]
    omega
/-- The seconds of the root are the seconds of the tone. -/
theorem sec_root {t : List Int} {p : Nat} (h1 : 1 ≤ p) (h2 : p ≤ t.length) (h : Per t p) (i : Nat) : sec (t.take p) (i : Int) = sec t (i : Int) := by
  have e : (i : Int) = ((i % p : Nat) : Int) + (p : Int) * ((i / p : Nat) : Int) := by
    rw [← Int.natCast_mul, ← Int.natCast_add, Nat.mod_add_div]
  have hm := Nat.mod_lt i h1
  have hlen : (t.take p).length = p := by simp; omega
  rw [← sec_emod, hlen, show (i : Int) % (p : Int) = ((i % p : Nat) : Int) by omega, sec_nat (by omega), List.getElem_take]
  conv => rhs; rw [e]
  rw [per_mul h, sec_nat (by omega)]
theorem rot_pc {t : List Int} {p i : Nat} (h1 : 1 ≤ p) (h2 : p ≤ t.length) (h : Per t p) (hi : i ≤ p) : rot (t.take p) i = pc t (i : Int) p := by
  have hlen : (t.take p).length = p := by simp; omega
  refine List.ext_getElem? (fun j => ?_)
  by_cases hj : j < p
  · rw [rot_get (by omega) (by omega), sec_root h1 h2 h, List.getElem?_eq_getElem (by rw [pc_length]; omega)]
    congr 1
    simp only [pc, List.getElem_map, List.getElem_range]
    congr 1
    omega
  · rw [List.getElem?_eq_none (by rw [rot_length (by omega)]; omega), List.getElem?_eq_none (by rw [pc_length]; omega)]
/-- The order of lists of one length. -/
def lt : List Int → List Int → Bool
  | a :: l, b :: m => if a = b then lt l m else decide (a < b)
  | _, _ => false
theorem cmp_eq (a b : Int) : cmp_Compare_int.f a b = some (if a < b then -1 else if a > b then 1 else 0) := by
  unfold cmp_Compare_int.f cmp_isNaN_int.f
  by_cases h1 : a < b
  · simp [h1]
  · by_cases h2 : a > b
    · simp [h1, h2]
    · simp [h1, h2]
theorem compare_loop {a b : List Int} (h : a.length = b.length) (hl : a.length ≤ 1000) (d : Nat) : ∀ i : Nat, i ≤ a.length → a.length - i = d → ∃ c : Int, (c < 0 ↔ lt (a.drop i) (b.drop i) = true) ∧ Tl (fun k => slices_Compare_int_int.l0 k a b a (a.length : Int) (i : Int)) c := by
  induction d with
  | zero =>
    intro i h1 h2
    refine ⟨0, ?_, Tl.succ ?_⟩
    · rw [List.drop_eq_nil_of_le (by omega), List.drop_eq_nil_of_le (by omega)]; simp [lt]
    · simp only [slices_Compare_int_int.l0]
      exact Tl.neg (by omega) (Tl.neg (by omega) Tl.now)
  | succ d ih =>
    intro i h1 h2
    have h3 : i < a.length := by omega
    have h4 : i < b.length := by omega
    have e : lt (a.drop i) (b.drop i) = if a[i] = b[i] then lt (a.drop (i + 1)) (b.drop (i + 1)) else decide (a[i] < b[i]) := by rw [drop_cons h3, drop_cons h4]; rfl
    rw [e]
    by_cases c0 : a[i] = b[i]
    · obtain ⟨c, hc, next⟩ := ih (i + 1) (by omega) (by omega)
      rw [show ((i + 1 : Nat) : Int) = (i : Int) + 1 by omega, ← w64 (x := (i : Int) + 1) (by omega) (by omega)] at next
      refine ⟨c, by rw [if_pos c0]; exact hc, Tl.succ ?_⟩
      simp only [slices_Compare_int_int.l0]
      refine Tl.pos (by omega) (Tl.pos (by omega) (Tl.pos (by omega) (Tl.neg (by omega) (Tl.pos (by omega) (Tl.bind' (cmp_eq _ _) (Tl.pos ?_ next))))))
      rw [rd_lt h3, rd_lt h4, c0]; simp
    · refine ⟨if a[i] < b[i] then -1 else if a[i] > b[i] then 1 else 0, ?_, Tl.succ ?_⟩
      · rw [if_neg c0, decide_eq_true_eq]
        split
        · simp [*]
        · split <;> simp [*]
      · simp only [slices_Compare_int_int.l0]
        refine Tl.pos (by omega) (Tl.pos (by omega) (Tl.pos (by omega) (Tl.neg (by omega) (Tl.pos (by omega) (Tl.bind' (cmp_eq _ _) ?_)))))
        rw [rd_lt h3, rd_lt h4]
        refine Tl.neg ?_ Tl.now
        split
        · decide
        · split
          · decide
          · omega
theorem ev_Compare {a b : List Int} (h : a.length = b.length) (hl : a.length ≤ 1000) : ∃ c : Int, (c < 0 ↔ lt a b = true) ∧ Tl (fun k => slices_Compare_int_int.f k a b) c := by
  have := compare_loop h hl a.length 0 (by omega) (by omega)
  unfold slices_Compare_int_int.f
  simpa using this
theorem lt_trans : ∀ {a b c : List Int}, a.length = b.length → b.length = c.length → lt a b = true → lt b c = true → lt a c = true
  | [], [], _, _, _, h, _ => by simp [lt] at h
  | x :: a, y :: b, [], _, h2, _, _ => by simp at h2
  | [], y :: b, _, h1, _, _, _ => by simp at h1
  | x :: a, [], _, h1, _, _, _ => by simp at h1
  | x :: a, y :: b, z :: c, h1, h2, p, q => by
    simp only [lt] at p q ⊢
    by_cases e1 : x = y
    · rw [if_pos e1] at p
      by_cases e2 : y = z
      · rw [if_pos e2] at q
        rw [if_pos (by omega)]
        exact lt_trans (by simpa using h1) (by simpa using h2) p q
      · rw [if_neg e2, decide_eq_true_eq] at q
        rw [if_neg (by omega), decide_eq_true_eq]
        omega
    · rw [if_neg e1, decide_eq_true_eq] at p
      by_cases e2 : y = z
      · rw [if_neg (by omega), decide_eq_true_eq]
        omega
      · rw [if_neg e2, decide_eq_true_eq] at q
        rw [if_neg (by omega), decide_eq_true_eq]
        omega
theorem lt_total : ∀ {a b : List Int}, a.length = b.length → lt a b = false → lt b a = false → a = b
  | [], [], _, _, _ => rfl
  | x :: a, [], h, _, _ => by simp at h
  | [], y :: b, h, _, _ => by simp at h
  | x :: a, y :: b, h, p, q => by
    simp only [lt] at p q
    by_cases e : x = y
    · rw [if_pos e] at p
      rw [if_pos e.symm] at q
      rw [e, lt_total (by simpa using h) p q]
    · rw [if_neg e, decide_eq_false_iff_not] at p
      rw [if_neg (fun z => e z.symm), decide_eq_false_iff_not] at q
      omega
theorem lt_self (l : List Int) : lt l l = false := by
  induction l with
  | nil => rfl
  | cons a l ih => simp [lt, ih]
theorem name_loop {t : List Int} (h0 : 0 < t.length) (hl : t.length ≤ 1000) {p : Nat} (hp : IsPer t p) (d : Nat) : ∀ (i : Nat) (b : List Int), i ≤ p → p - i = d → b.length = p → (∃ j, j < p ∧ b = pc t ((j : Nat) : Int) p) → (∀ q : Nat, q < i → lt (pc t (q : Int) p) b = false) →
    ∃ r : List Int, r.length = p ∧ ((∃ j, j < p ∧ r = pc t ((j : Nat) : Int) p) ∧ ∀ q : Nat, q < p → lt (pc t (q : Int) p) r = false) ∧ Tl (fun k => tone_name.l0 k (t.take p) b (i : Int)) r := by
  have h1 := hp.1
  have h2 := hp.2.1
  have hlen : (t.take p).length = p := by simp; omega
  induction d with
  | zero =>
    intro i b i1 i2 hb hj hm
    refine ⟨b, hb, ⟨hj, fun q hq => hm q (by omega)⟩, Tl.succ ?_⟩
    · simp only [tone_name.l0]
      exact Tl.neg (by omega) Tl.now
  | succ d ih =>
    intro i b i1 i2 hb hj hm
    have e1 : tone_turn.f (t.take p) (i : Int) = some (pc t (i : Int) p) := by
      rw [turn_eq (by omega) (by omega), hlen, Int.emod_eq_of_lt (by omega) (by omega), Int.toNat_natCast, rot_pc h1 h2 hp.2.2.1 (by omega)]
    have hpl := pc_length t (i : Int) p
    obtain ⟨c, hc, ec⟩ := ev_Compare (a := pc t (i : Int) p) (b := b) (by omega) (by omega)
    have ei : ((i + 1 : Nat) : Int) = (i : Int) + 1 := by omega
    by_cases q : lt (pc t (i : Int) p) b = true
    · obtain ⟨r, hr, hch, n1⟩ := ih (i + 1) (pc t (i : Int) p) (by omega) (by omega) hpl ⟨i, by omega, rfl⟩ (fun z hz => by
        by_cases e : z = i
        · rw [e]; exact lt_self _
        · cases hq : lt (pc t (z : Int) p) (pc t (i : Int) p) with
          | false => rfl
          | true =>
            have := lt_trans (by rw [pc_length, pc_length]) (by rw [pc_length]; omega) hq q
            rw [hm z (by omega)] at this
            exact this.symm)
      rw [ei] at n1
      refine ⟨r, hr, hch, Tl.succ ?_⟩
      · simp only [tone_name.l0]
        rw [w64 (x := (i : Int) + 1) (by omega) (by omega)]
        exact Tl.pos (by omega) (Tl.bind' e1 (Tl.bind ec (Tl.pos (hc.2 q) n1)))
    · obtain ⟨r, hr, hch, n1⟩ := ih (i + 1) b (by omega) (by omega) hb hj (fun z hz => by
        by_cases e : z = i
        · rw [e]; simpa using q
        · exact hm z (by omega))
      rw [ei] at n1
      refine ⟨r, hr, hch, Tl.succ ?_⟩
      · simp only [tone_name.l0]
        rw [w64 (x := (i : Int) + 1) (by omega) (by omega)]
        exact Tl.pos (by omega) (Tl.bind' e1 (Tl.bind ec (Tl.neg (fun z => q (hc.1 z)) n1)))
theorem per_of {t : List Int} (h0 : 0 < t.length) {p : Nat} (h : ∀ j : Nat, j < t.length → sec t (j : Int) = sec t ((j : Int) + p)) : Per t p := by
  intro i
  have hn : (0 : Int) < t.length := by omega
  have k1 := Int.emod_nonneg i (show (t.length : Int) ≠ 0 by omega)
  have k2 := Int.emod_lt_of_pos i hn
  obtain ⟨c, hc⟩ : ∃ c : Nat, i % (t.length : Int) = c := ⟨(i % (t.length : Int)).toNat, by omega⟩
  have := h c (by omega)
  rw [← hc, sec_emod] at this
  rw [this, ← sec_emod t (i + p), ← sec_emod t (i % (t.length : Int) + p)]
  congr 1
  rw [← Int.emod_add_emod]
theorem ev_name {t : List Int} (h0 : 0 < t.length) (hl : t.length ≤ 1000) {p : Nat} (hp : IsPer t p) : ∃ r : List Int, r.length = p ∧ ((∃ j, j < p ∧ r = pc t ((j : Nat) : Int) p) ∧ ∀ q : Nat, q < p → lt (pc t (q : Int) p) r = false) ∧ Tl (fun k => tone_name.f k t) r := by
  have h1 := hp.1
  have h2 := hp.2.1
  have hlen : (t.take p).length = p := by simp; omega
  have hz : t.take p = pc t ((0 : Nat) : Int) p := (pc_take h2).symm
  obtain ⟨r, hr, hch, n1⟩ := name_loop h0 hl hp (p - 1) 1 (t.take p) (by omega) rfl hlen ⟨0, by omega, hz⟩ (fun q hq => by
    obtain rfl : q = 0 := by omega
    rw [hz]; exact lt_self _)
  refine ⟨r, hr, hch, ?_⟩
  · unfold tone_name.f
    refine Tl.bind (ev_root h0 hl hp) (Tl.succ ?_)
    simp only [tone_name.l0]
    have e1 : tone_turn.f (t.take p) 0 = some (t.take p) := by
      rw [turn_eq (by omega) (by omega)]
      simp [rot]
    obtain ⟨c, hc, ec⟩ := ev_Compare (a := t.take p) (b := t.take p) rfl (by omega)
    rw [lt_self] at hc
    rw [show wrap64 ((0 : Int) + 1) = ((1 : Nat) : Int) by unfold wrap64; omega]
    exact Tl.pos (by omega) (Tl.bind' e1 (Tl.bind ec (Tl.neg (fun z => by simpa using hc.1 z) n1)))
end Go.Proofs.Ytmpmfjnmfgnhcaa.Nm
namespace Go.Proofs.Ytmpmfjnmfgnhcaa.Tn
open Go.RowKit Go.Proofs.Ytmpmfjnmfgnhcaa.P Go.Proofs.Ytmpmfjnmfgnhcaa.E Go.Proofs.Ytmpmfjnmfgnhcaa.Va Go.Proofs.Ytmpmfjnmfgnhcaa.Pe Go.Proofs.Ytmpmfjnmfgnhcaa.Nm Go.Proofs.YtmpmfjnmfgnhcaaW.PrintMore
open Go.Proofs.YtmpmfjnmfgnhcaaW.PrintWords
theorem sec_add {t : List Int} (k i : Int) : sec t (i % (t.length : Int) + k) = sec t (i + k) := by
  rw [← sec_emod t (i + k), ← sec_emod t (i % (t.length : Int) + k), Int.emod_add_emod]
theorem sec_rot {t : List Int} (h0 : 0 < t.length) {b : Nat} (hb : b ≤ t.length) (i : Int) : sec (rot t b) i = sec t (i + b) := by
  have hn : (0 : Int) < t.length := by omega
  have hl := rot_length hb
  have k1 := Int.emod_nonneg i (show (t.length : Int) ≠ 0 by omega)
  have k2 := Int.emod_lt_of_pos i hn
  obtain ⟨c, hc⟩ : ∃ c : Nat, i % (t.length : Int) = c := ⟨(i % (t.length : Int)).toNat, by omega⟩
  rw [← sec_emod (rot t b) i, hl, ← sec_add (t := t) (b : Int) i, hc, sec_nat (by omega)]
  have := rot_get hb (show c < t.length by omega)
  rw [List.getElem?_eq_getElem (by omega)] at this
  rw [Option.some.inj this]
  congr 1
theorem per_rot {t : List Int} (h0 : 0 < t.length) {b : Nat} (hb : b ≤ t.length) (q : Nat) : Per (rot t b) q ↔ Per t q := by
  constructor
  · intro h i
    have := h (i - b)
    rw [sec_rot h0 hb, sec_rot h0 hb] at this
    rw [show i - (b : Int) + q + b = i + q by omega, show i - (b : Int) + b = i by omega] at this
    exact this
  · intro h i
    rw [sec_rot h0 hb, sec_rot h0 hb, show i + (q : Int) + b = (i + b) + q by omega]
    exact h _
theorem isper_rot {t : List Int} (h0 : 0 < t.length) {b : Nat} (hb : b ≤ t.length) {p : Nat} (h : IsPer t p) : IsPer (rot t b) p :=
  ⟨h.1, by rw [rot_length hb]; exact h.2.1, (per_rot h0 hb p).2 h.2.2.1, fun q h1 h2 h3 => h.2.2.2 q h1 h2 ((per_rot h0 hb q).1 h3)⟩
theorem ok_rot {t : List Int} (ok : Ok t) {b : Nat} (hb : b ≤ t.length) : Ok (rot t b) := by
  refine ⟨by rw [rot_length hb]; exact ok.1, by rw [rot_length hb]; exact ok.2.1, fun i hi => ?_⟩
  have hm : ∀ x ∈ t, x = 0 ∨ x = 1 := by
    intro x hx
    obtain ⟨j, hj, rfl⟩ := List.getElem_of_mem hx
    have := ok.2.2 j hj
    rwa [rd_lt hj] at this
  rw [rd_lt hi]
  have := List.getElem_mem hi
  unfold rot at this
  rcases List.mem_append.1 this with h | h
  · exact hm _ (List.mem_of_mem_drop h)
  · exact hm _ (List.mem_of_mem_take h)
theorem pc_congr {t s : List Int} {f g : Int} {n : Nat} (h : ∀ j : Nat, j < n → sec t (f + j) = sec s (g + j)) : pc t f n = pc s g n := by
  unfold pc
  refine List.map_congr_left (fun j hj => h j (by simpa using hj))
/-- The names are equal. -/
theorem name_rot {t : List Int} (h0 : 0 < t.length) {b : Nat} (hb : b ≤ t.length) {p : Nat} (hp : IsPer t p) {r s : List Int}
    (hr : (∃ j, j < p ∧ r = pc t ((j : Nat) : Int) p) ∧ ∀ q : Nat, q < p → lt (pc t (q : Int) p) r = false)
    (hs : (∃ j, j < p ∧ s = pc (rot t b) ((j : Nat) : Int) p) ∧ ∀ q : Nat, q < p → lt (pc (rot t b) (q : Int) p) s = false) : r = s := by
  have h1 := hp.1
  obtain ⟨⟨j, hj, rfl⟩, mr⟩ := hr
  obtain ⟨⟨i, hi, rfl⟩, ms⟩ := hs
  have red : ∀ (m : Nat) (x : Int), sec t (((m % p : Nat) : Int) + x) = sec t ((m : Int) + x) := by
    intro m x
    have e : (m : Int) + x = (((m % p : Nat) : Int) + x) + (p : Int) * ((m / p : Nat) : Int) := by
      have := Nat.mod_add_div m p
      have e2 : ((m % p : Nat) : Int) + (p : Int) * ((m / p : Nat) : Int) = (m : Int) := by rw [← Int.natCast_mul, ← Int.natCast_add, this]
      omega
    rw [e, per_mul hp.2.2.1]
  refine lt_total (by rw [pc_length, pc_length]) ?_ ?_
  · have e : pc t (j : Int) p = pc (rot t b) (((j + (p - b % p)) % p : Nat) : Int) p := by
      refine pc_congr (fun x _ => ?_)
      rw [sec_rot h0 hb, Int.add_assoc, red (j + (p - b % p))]
      have hbp := Nat.mod_lt b h1
      have e2 : ((j + (p - b % p) : Nat) : Int) + ((x : Int) + b) = ((j : Int) + x) + (p : Int) * ((b / p + 1 : Nat) : Int) := by
        have := Nat.mod_add_div b p
        have e3 : ((b % p : Nat) : Int) + (p : Int) * ((b / p : Nat) : Int) = (b : Int) := by rw [← Int.natCast_mul, ← Int.natCast_add, this]
        rw [show ((b / p + 1 : Nat) : Int) = ((b / p : Nat) : Int) + 1 by omega, Int.mul_add]
        omega
      rw [e2, per_mul hp.2.2.1]
    rw [e]
    exact ms _ (Nat.mod_lt _ h1)
  · have e : pc (rot t b) (i : Int) p = pc t (((i + b) % p : Nat) : Int) p := by
      refine pc_congr (fun x _ => ?_)
      rw [sec_rot h0 hb, red (i + b)]
      congr 1
      omega
    rw [e]
    exact mr _ (Nat.mod_lt _ h1)
end Go.Proofs.Ytmpmfjnmfgnhcaa.Tn
namespace Go.Proofs.Ytmpmfjnmfgnhcaa.Sm
open Go.RowKit Go.Proofs.Ytmpmfjnmfgnhcaa.P Go.Proofs.Ytmpmfjnmfgnhcaa.E Go.Proofs.Ytmpmfjnmfgnhcaa.Va Go.Proofs.Ytmpmfjnmfgnhcaa.Pe Go.Proofs.Ytmpmfjnmfgnhcaa.Nm Go.Proofs.Ytmpmfjnmfgnhcaa.Tn Go.Proofs.YtmpmfjnmfgnhcaaW.PrintMore
open Go.Proofs.YtmpmfjnmfgnhcaaW.PrintWords
theorem ev_SameInts' {a b : List Int} (hl : a.length ≤ 1000) : Tl (fun k => diaphoneref01_SameInts.f k a b) (decide (a = b)) := by
  unfold diaphoneref01_SameInts.f
  by_cases h : a.length = b.length
  · refine Tl.pos (by omega) ?_
    have loop : ∀ d i : Nat, i ≤ a.length → a.length - i = d → Tl (fun k => diaphoneref01_SameInts.l0 k a b (i : Int)) (decide (a.drop i = b.drop i)) := by
      intro d
      induction d with
      | zero =>
        intro i h1 h2
        refine Tl.succ ?_
        simp only [diaphoneref01_SameInts.l0]
        refine Tl.to (Tl.neg (by omega) Tl.now) ?_
        rw [List.drop_eq_nil_of_le (by omega), List.drop_eq_nil_of_le (by omega)]; simp
      | succ d ih =>
        intro i h1 h2
        have h3 : i < a.length := by omega
        have h4 : i < b.length := by omega
        refine Tl.succ ?_
        simp only [diaphoneref01_SameInts.l0]
        rw [w64 (x := (i : Int) + 1) (by omega) (by omega)]
        refine Tl.pos (by omega) (Tl.pos (by omega) (Tl.pos (by omega) ?_))
        have e : (a.drop i = b.drop i) ↔ (a[i] = b[i] ∧ a.drop (i + 1) = b.drop (i + 1)) := by rw [drop_cons h3, drop_cons h4, List.cons.injEq]
        rw [rd_lt h3, rd_lt h4]
        by_cases c : a[i] = b[i]
        · exact Tl.to (Tl.pos c (ih (i + 1) (by omega) (by omega))) (decide_eq_decide.2 ⟨fun q => e.2 ⟨c, q⟩, fun q => (e.1 q).2⟩)
        · exact Tl.to (Tl.neg c Tl.now) (decide_eq_false (fun q => c (e.1 q).1)).symm
    have := loop a.length 0 (by omega) (by omega)
    simpa using this
  · exact Tl.to (Tl.neg (by omega) Tl.now) (decide_eq_false (fun q => h (by rw [q]))).symm
def Sh (s t : List Int) (b : Int) : Prop := ∀ i : Int, sec s (i + b) = sec t i
theorem sec_mul (t : List Int) (i k : Int) : sec t (i + (t.length : Int) * k) = sec t i := by
  rw [← sec_emod, Int.add_mul_emod_self_left, sec_emod]
theorem sh_nat {s t : List Int} (hs : 0 < s.length) (ht : 0 < t.length) {b : Int} (h : ∀ i : Nat, i < s.length * t.length → sec s ((i : Int) + b) = sec t (i : Int)) : Sh s t b := by
  intro i
  have hn : 0 < s.length * t.length := Nat.mul_pos hs ht
  obtain ⟨n, en⟩ : ∃ n : Nat, n = s.length * t.length := ⟨_, rfl⟩
  have k1 := Int.emod_nonneg i (show (n : Int) ≠ 0 by omega)
  have k2 := Int.emod_lt_of_pos i (show (0 : Int) < n by omega)
  obtain ⟨c, hc⟩ : ∃ c : Nat, i % (n : Int) = c := ⟨(i % (n : Int)).toNat, by omega⟩
  have := h c (by omega)
  have e0 := Int.emod_add_mul_ediv i (n : Int)
  rw [hc] at e0
  have e1 : i = (c : Int) + (t.length : Int) * ((s.length : Int) * (i / (n : Int))) := by
    conv => lhs; rw [← e0]
    rw [en, Int.natCast_mul, Int.mul_comm (s.length : Int) (t.length : Int), Int.mul_assoc]
  have e2 : i + b = ((c : Int) + b) + (s.length : Int) * ((t.length : Int) * (i / (n : Int))) := by
    conv => lhs; rw [← e0]
    rw [en, Int.natCast_mul, Int.mul_assoc]; omega
  rw [e2, sec_mul, this]
  conv => rhs; rw [e1]
  rw [sec_mul]
theorem sh_per {s t : List Int} {b : Int} (h : Sh s t b) (q : Nat) : Per s q ↔ Per t q := by
  constructor
  · intro k i
    rw [← h, ← h, show i + (q : Int) + b = (i + b) + q by omega, k]
  · intro k i
    have := k (i - b)
    rw [← h, ← h, show i - b + (q : Int) + b = i + q by omega, show i - b + b = i by omega] at this
    exact this
theorem sh_isper {s t : List Int} {b : Int} (h : Sh s t b) {p q : Nat} (hp : IsPer s p) (hq : IsPer t q) : p = q := by
  have a1 := (sh_per h p).1 hp.2.2.1
  have a2 := (sh_per h q).2 hq.2.2.1
  rcases Nat.lt_trichotomy p q with c | c | c
  · exact absurd a1 (hq.2.2.2 p hp.1 c)
  · exact c
  · exact absurd a2 (hp.2.2.2 q hq.1 c)
/-- The same tone exactly if the roots are equal. -/
theorem same_root {s t : List Int} (hs : 0 < s.length) (ht : 0 < t.length) {p q : Nat} (hp : IsPer s p) (hq : IsPer t q) : s.take p = t.take q ↔ Sh s t 0 := by
  have p2 := hp.2.1
  have q2 := hq.2.1
  constructor
  · intro h
    refine sh_nat hs ht (fun i _ => ?_)
    rw [Int.add_zero, ← sec_root hp.1 p2 hp.2.2.1, ← sec_root hq.1 q2 hq.2.2.1, h]
  · intro h
    obtain rfl := sh_isper h hp hq
    rw [← pc_take p2, ← pc_take q2]
    exact pc_congr (fun j _ => by rw [← h, Int.add_zero])
/-- A list is the name of a tone. -/
def IsName (t : List Int) (p : Nat) (r : List Int) : Prop := (∃ j, j < p ∧ r = pc t ((j : Nat) : Int) p) ∧ ∀ q : Nat, q < p → lt (pc t (q : Int) p) r = false
/-- Alike exactly if the names are equal. -/
theorem alike_name {s t : List Int} (hs : 0 < s.length) (ht : 0 < t.length) {p q : Nat} (hp : IsPer s p) (hq : IsPer t q) {x y : List Int} (hx : IsName s p x) (hy : IsName t q y) :
    x = y ↔ ∃ b : Nat, b < s.length ∧ Sh s t b := by
  have p2 := hp.2.1
  have q2 := hq.2.1
  constructor
  · intro h
    obtain ⟨i, hi, ex⟩ := hx.1
    obtain ⟨j, hj, ey⟩ := hy.1
    have epq : p = q := by
      have := congrArg List.length (ex.symm.trans (h.trans ey))
      rwa [pc_length, pc_length] at this
    subst epq
    have key : ∀ z : Nat, z < p → sec s ((i : Int) + z) = sec t ((j : Int) + z) := by
      intro z hz
      have := congrArg (fun l : List Int => l[z]?) (ex.symm.trans (h.trans ey))
      simpa [pc, hz] using this
    have key2 : ∀ z : Nat, sec s ((i : Int) + z) = sec t ((j : Int) + z) := by
      intro z
      have e : (z : Int) = ((z % p : Nat) : Int) + (p : Int) * ((z / p : Nat) : Int) := by
        rw [← Int.natCast_mul, ← Int.natCast_add, Nat.mod_add_div]
      rw [e, ← Int.add_assoc, ← Int.add_assoc, per_mul hp.2.2.1, per_mul hq.2.2.1]
      exact key _ (Nat.mod_lt _ hp.1)
    have hn : (0 : Int) < s.length := by omega
    obtain ⟨c, hc⟩ : ∃ c : Nat, ((i : Int) - j) % (s.length : Int) = c := ⟨(((i : Int) - j) % (s.length : Int)).toNat, by
      have := Int.emod_nonneg ((i : Int) - j) (show (s.length : Int) ≠ 0 by omega); omega⟩
    have hc2 := Int.emod_lt_of_pos ((i : Int) - j) hn
    refine ⟨c, by omega, sh_nat hs ht (fun z _ => ?_)⟩
    have e1 : sec s ((z : Int) + c) = sec s ((z : Int) + ((i : Int) - j)) := by
      rw [← hc, Int.add_comm (z : Int), Int.add_comm (z : Int), sec_add]
    rw [e1]
    have := key2 (z + j * (t.length * s.length) - j)
    have hjl : j ≤ j * (t.length * s.length) := Nat.le_mul_of_pos_right _ (Nat.mul_pos ht hs)
    obtain ⟨m, hm⟩ : ∃ m : Nat, m = t.length * s.length := ⟨_, rfl⟩
    obtain ⟨jm, hjm⟩ : ∃ jm : Nat, jm = j * (t.length * s.length) := ⟨_, rfl⟩
    rw [← hjm] at this hjl
    rw [show (i : Int) + ((z + jm - j : Nat) : Int) = ((z : Int) + ((i : Int) - j)) + (jm : Int) by omega, show (j : Int) + ((z + jm - j : Nat) : Int) = (z : Int) + (jm : Int) by omega] at this
    have f1 : (jm : Int) = (s.length : Int) * ((j * t.length : Nat) : Int) := by rw [hjm, ← Int.natCast_mul]; congr 1; rw [Nat.mul_comm s.length, Nat.mul_assoc]
    have f2 : (jm : Int) = (t.length : Int) * ((j * s.length : Nat) : Int) := by rw [hjm, ← Int.natCast_mul]; congr 1; rw [Nat.mul_comm t.length (j * s.length), Nat.mul_assoc, Nat.mul_comm s.length]
    rw [f1, sec_mul, ← f1, f2, sec_mul] at this
    exact this
  · rintro ⟨b, hb, h⟩
    obtain rfl := sh_isper h hp hq
    have e : ∀ z : Int, pc t z p = pc (rot s b) z p := fun z => pc_congr (fun j _ => by rw [sec_rot hs (by omega), h])
    refine name_rot hs (b := b) (by omega) hp hx ?_
    obtain ⟨⟨j, hj, ey⟩, my⟩ := hy
    exact ⟨⟨j, hj, by rw [← e]; exact ey⟩, fun q hq2 => by rw [← e]; exact my q hq2⟩
end Go.Proofs.Ytmpmfjnmfgnhcaa.Sm
namespace Go.Proofs.Ytmpmfjnmfgnhcaa.Sw
open Go.RowKit Go.Proofs.Ytmpmfjnmfgnhcaa.P Go.Proofs.Ytmpmfjnmfgnhcaa.E Go.Proofs.Ytmpmfjnmfgnhcaa.Va Go.Proofs.Ytmpmfjnmfgnhcaa.Pe Go.Proofs.Ytmpmfjnmfgnhcaa.Nm Go.Proofs.Ytmpmfjnmfgnhcaa.Tn Go.Proofs.Ytmpmfjnmfgnhcaa.Sm Go.Proofs.YtmpmfjnmfgnhcaaW.PrintMore
open Go.Proofs.YtmpmfjnmfgnhcaaW.PrintWords
theorem ev_rev_loop (l0 : List Int) (hl : l0.length ≤ 1000) (d : Nat) : ∀ (m : Nat) (l : List Int), 2 * m ≤ l0.length → l0.length - 2 * m ≤ d → l.length = l0.length →
    (∀ j, j < l0.length → l[j]? = if j < m ∨ l0.length ≤ j + m then l0[l0.length - 1 - j]? else l0[j]?) → Tl (fun k => slices_Reverse_int_int.l0 k l (m : Int) ((l0.length : Int) - 1 - m)) l0.reverse := by
  have fin : ∀ (m : Nat) (l : List Int), 2 * m ≤ l0.length → ¬ 2 * m + 1 < l0.length → l.length = l0.length →
    (∀ j, j < l0.length → l[j]? = if j < m ∨ l0.length ≤ j + m then l0[l0.length - 1 - j]? else l0[j]?) → Tl (fun k => slices_Reverse_int_int.l0 k l (m : Int) ((l0.length : Int) - 1 - m)) l0.reverse := by
    intro m l h1 h2 h3 h4
    refine Tl.succ ?_
    simp only [slices_Reverse_int_int.l0]
    refine Tl.to (Tl.neg (by omega) Tl.now) ?_
    refine List.ext_getElem? (fun j => ?_)
    by_cases hj : j < l0.length
    · rw [List.getElem?_reverse hj, h4 j hj]
      by_cases c : j < m ∨ l0.length ≤ j + m
      · rw [if_pos c]
      · rw [if_neg c]; congr 1; omega
    · rw [List.getElem?_eq_none (by omega), List.getElem?_eq_none (by simp; omega)]
  induction d with
  | zero => exact fun m l h1 h2 h3 h4 => fin m l h1 (by omega) h3 h4
  | succ d ih =>
    intro m l h1 h2 h3 h4
    by_cases hlt : 2 * m + 1 < l0.length
    · have next := ih (m + 1) ((l.set m (rd l ((l0.length : Int) - 1 - m))).set (l0.length - 1 - m) (rd l (m : Int))) (by omega) (by omega) (by simp [h3]) (by
        intro j hj
        rw [show (l0.length : Int) - 1 - m = ((l0.length - 1 - m : Nat) : Int) by omega]
        rw [rd_lt (show l0.length - 1 - m < l.length by omega), rd_lt (show m < l.length by omega)]
        have e1 := h4 (l0.length - 1 - m) (by omega)
        have e2 := h4 m (by omega)
        rw [if_neg (by omega), List.getElem?_eq_getElem (by omega)] at e1 e2
        rw [List.getElem?_eq_getElem (by omega)] at e1 e2
        simp only [Option.some.injEq] at e1 e2
        rw [List.getElem?_set]
        by_cases c1 : l0.length - 1 - m = j
        · rw [if_pos c1, if_pos (by simp; omega), if_pos (by omega), e2, List.getElem?_eq_getElem (by omega)]
          congr 2; omega
        · rw [if_neg c1, List.getElem?_set]
          by_cases c2 : m = j
          · rw [if_pos c2, if_pos (by omega), if_pos (by omega), e1, List.getElem?_eq_getElem (by omega)]
            congr 2; omega
          · rw [if_neg c2, h4 j hj]
            by_cases c3 : j < m ∨ l0.length ≤ j + m
            · rw [if_pos c3, if_pos (by omega)]
            · rw [if_neg c3, if_neg (by omega)])
      refine Tl.succ ?_
      simp only [slices_Reverse_int_int.l0]
      refine Tl.pos (by omega) (Tl.pos (by omega) (Tl.pos (by omega) (Tl.pos (by omega) (Tl.pos (by omega) ?_))))
      rw [w64 (by omega) (by omega), w64 (by omega) (by omega), Int.toNat_natCast, show ((l0.length : Int) - 1 - m).toNat = l0.length - 1 - m by omega]
      rw [show ((m + 1 : Nat) : Int) = (m : Int) + 1 by omega, show (l0.length : Int) - 1 - ((m : Int) + 1) = (l0.length : Int) - 1 - m - 1 by omega] at next
      exact next
    · exact fin m l h1 hlt h3 h4
theorem ev_rev (l0 : List Int) (hl : l0.length ≤ 1000) : Tl (fun k => slices_Reverse_int_int.f k l0) l0.reverse := by
  unfold slices_Reverse_int_int.f
  have := ev_rev_loop l0 hl l0.length 0 l0 (by omega) (by omega) rfl (by intro j hj; rw [if_neg (by omega)])
  rw [w64 (by omega) (by omega)]
  rw [show ((0 : Nat) : Int) = 0 from rfl, show (l0.length : Int) - 1 - 0 = (l0.length : Int) - 1 by omega] at this
  exact this
theorem clone_eq {t : List Int} (h : t.length ≤ 1000) : slices_Clone_int_int.f t = some t := by
  unfold slices_Clone_int_int.f
  rw [if_pos (by omega)]
def sw (t : List Int) : List Int := t.map (fun x => 1 - x)
theorem sw_length (t : List Int) : (sw t).length = t.length := by simp [sw]
theorem sw_get {t : List Int} {i : Nat} (h : i < t.length) : (sw t)[i]'(by rw [sw_length]; exact h) = 1 - t[i] := by simp [sw]
theorem take_set {a b : List Int} (h : a.length = b.length) {i : Nat} (hi : i < a.length) : (a.take i ++ b.drop i).set i a[i] = a.take (i + 1) ++ b.drop (i + 1) := by
  have hl : (a.take i).length = i := by simp; omega
  rw [List.set_append_right _ _ (by omega), hl, Nat.sub_self, drop_cons (show i < b.length by omega), List.set_cons_zero, List.take_succ_eq_append_getElem hi, List.append_assoc]
  rfl
theorem sw_loop {t : List Int} (ok : Ok t) (d : Nat) : ∀ i : Nat, i ≤ t.length → t.length - i = d → Tl (fun k => tone_Swap.l0 k ((sw t).take i ++ t.drop i) (t.length : Int) (i : Int)) (sw t, 0) := by
  have hl := ok.2.1
  induction d with
  | zero =>
    intro i h1 h2
    refine Tl.succ ?_
    simp only [tone_Swap.l0]
    refine Tl.to (Tl.neg (by omega) Tl.now) ?_
    rw [List.drop_eq_nil_of_le (by omega), List.append_nil, List.take_of_length_le (by rw [sw_length]; omega)]
  | succ d ih =>
    intro i h1 h2
    have hi : i < t.length := by omega
    have hlen : ((sw t).take i ++ t.drop i).length = t.length := by simp [sw_length]; omega
    have hr : rd ((sw t).take i ++ t.drop i) (i : Int) = t[i] := by
      rw [rd_lt (by omega), List.getElem_append_right (by simp [sw_length]; omega)]
      simp [sw_length]
      congr 1; omega
    have hb := ok.2.2 i hi
    rw [rd_lt hi] at hb
    refine Tl.succ ?_
    simp only [tone_Swap.l0]
    rw [hr, hlen, w64 (x := (i : Int) + 1) (by omega) (by omega), w64 (x := 1 - t[i]) (by omega) (by omega), Int.toNat_natCast, ← sw_get hi, take_set (sw_length t) (by rw [sw_length]; exact hi)]
    exact Tl.pos (by omega) (Tl.pos (by omega) (Tl.pos (by omega) (ih (i + 1) (by omega) (by omega))))
theorem sec_sw {t : List Int} (h0 : 0 < t.length) (i : Int) : sec (sw t) i = 1 - sec t i := by
  have k1 := Int.emod_nonneg i (show (t.length : Int) ≠ 0 by omega)
  have k2 := Int.emod_lt_of_pos i (show (0 : Int) < t.length by omega)
  obtain ⟨c, hc⟩ : ∃ c : Nat, i % (t.length : Int) = c := ⟨(i % (t.length : Int)).toNat, by omega⟩
  rw [← sec_emod (sw t), ← sec_emod t i, sw_length, hc, sec_nat (show c < (sw t).length by rw [sw_length]; omega), sec_nat (show c < t.length by omega), sw_get]
theorem sec_rev {t : List Int} (h0 : 0 < t.length) (i : Int) : sec t.reverse i = sec t (-1 - i) := by
  have k1 := Int.emod_nonneg i (show (t.length : Int) ≠ 0 by omega)
  have k2 := Int.emod_lt_of_pos i (show (0 : Int) < t.length by omega)
  have e0 := Int.emod_add_mul_ediv i (t.length : Int)
  obtain ⟨c, hc⟩ : ∃ c : Nat, i % (t.length : Int) = c := ⟨(i % (t.length : Int)).toNat, by omega⟩
  rw [hc] at e0
  have e1 : -1 - i = ((t.length - 1 - c : Nat) : Int) + (t.length : Int) * (-1 - i / (t.length : Int)) := by
    rw [Int.mul_sub, Int.mul_neg, Int.mul_one]; omega
  rw [e1, sec_mul, sec_nat (by omega), ← sec_emod, List.length_reverse, hc, sec_nat (by simp; omega), List.getElem_reverse]
theorem per_sw {t : List Int} (h0 : 0 < t.length) (q : Nat) : Per (sw t) q ↔ Per t q := by
  constructor
  · intro h i
    have := h i
    rw [sec_sw h0, sec_sw h0] at this
    omega
  · intro h i
    rw [sec_sw h0, sec_sw h0, h]
theorem per_rev {t : List Int} (h0 : 0 < t.length) (q : Nat) : Per t.reverse q ↔ Per t q := by
  constructor
  · intro h i
    have := h (-1 - i - q)
    rw [sec_rev h0, sec_rev h0] at this
    rw [show -1 - (-1 - i - (q : Int) + q) = i by omega, show -1 - (-1 - i - (q : Int)) = i + q by omega] at this
    exact this.symm
  · intro h i
    rw [sec_rev h0, sec_rev h0, ← h (-1 - (i + q))]
    congr 1; omega
theorem isper_congr {s t : List Int} (hl : s.length = t.length) (h : ∀ q, Per s q ↔ Per t q) {p : Nat} (hp : IsPer t p) : IsPer s p :=
  ⟨hp.1, by rw [hl]; exact hp.2.1, (h p).2 hp.2.2.1, fun q h1 h2 h3 => hp.2.2.2 q h1 h2 ((h q).1 h3)⟩
theorem ok_sw {t : List Int} (ok : Ok t) : Ok (sw t) := by
  refine ⟨by rw [sw_length]; exact ok.1, by rw [sw_length]; exact ok.2.1, fun i hi => ?_⟩
  rw [sw_length] at hi
  have := ok.2.2 i hi
  rw [rd_lt hi] at this
  rw [rd_lt (by rw [sw_length]; exact hi), sw_get hi]
  omega
theorem ok_rev {t : List Int} (ok : Ok t) : Ok t.reverse := by
  refine ⟨by simpa using ok.1, by simpa using ok.2.1, fun i hi => ?_⟩
  simp only [List.length_reverse] at hi
  have := ok.2.2 (t.length - 1 - i) (by omega)
  rw [rd_lt (by omega)] at this
  rw [rd_lt (by simpa using hi), List.getElem_reverse]
  exact this
theorem ev_Period {t : List Int} (ok : Ok t) {p : Nat} (hp : IsPer t p) : Tl (fun k => tone_Period.f k t) ((p : Int), 0) := by
  have hl := ok.2.1
  obtain ⟨q, hq, hr⟩ := ev_period ok.1 (show t.length ≤ 1000 by omega)
  obtain rfl := hp.unique hq
  unfold tone_Period.f
  exact Tl.bind (ev_Validate (by omega)) (Tl.pos (vc_ok.2 ok) (Tl.bind hr Tl.now))
theorem ev_Period_no {t : List Int} (hl : t.length ≤ 1000) (h : ¬ vc t = 0) : Tl (fun k => tone_Period.f k t) (0, vc t) := by
  unfold tone_Period.f
  exact Tl.bind (ev_Validate hl) (Tl.neg h Tl.now)
end Go.Proofs.Ytmpmfjnmfgnhcaa.Sw
namespace Go.Proofs.Ytmpmfjnmfgnhcaa.Fw
open Go.RowKit Go.Proofs.Ytmpmfjnmfgnhcaa.P Go.Proofs.YtmpmfjnmfgnhcaaW.PrintMore
open Go.Proofs.YtmpmfjnmfgnhcaaW.PrintWords
/-- Sum of every g-th value, m of them. -/
def W (f : Int → Int) (g : Int) : Nat → Int → Int
  | 0, _ => 0
  | m + 1, i => W f g m i + f (i + g * m)
theorem W_step (f : Int → Int) (g : Int) : ∀ (m : Nat) (i : Int), W f g m (i + g) = W f g m i + f (i + g * m) - f i
  | 0, i => by simp [W]
  | m + 1, i => by
    simp only [W]
    rw [W_step f g m i, show i + g + g * (m : Int) = i + g * ((m + 1 : Nat) : Int) by rw [show ((m + 1 : Nat) : Int) = (m : Int) + 1 by omega, Int.mul_add, Int.mul_one]; omega]
    omega
theorem W_inv {f : Int → Int} {g : Int} {m : Nat} (h : ∀ i, f (i + g * m) = f i) (i : Int) : ∀ k : Nat, W f g m (i + g * k) = W f g m i
  | 0 => by simp
  | k + 1 => by
    rw [show i + g * ((k + 1 : Nat) : Int) = (i + g * (k : Int)) + g by rw [show ((k + 1 : Nat) : Int) = (k : Int) + 1 by omega, Int.mul_add, Int.mul_one]; omega, W_step, h, W_inv h i k]
    omega
theorem W_sub (s t : Int → Int) (g : Int) : ∀ (m : Nat) (i : Int), W (fun x => s x - t x) g m i = W s g m i - W t g m i
  | 0, i => by simp [W]
  | m + 1, i => by simp only [W]; rw [W_sub s t g m i]; omega
theorem W_congr {s t : Int → Int} {g : Int} {i j : Int} : ∀ {m : Nat}, (∀ k : Nat, k < m → s (i + g * k) = t (j + g * k)) → W s g m i = W t g m j
  | 0, _ => rfl
  | m + 1, h => by simp only [W]; rw [W_congr (fun k hk => h k (by omega)), h m (by omega)]
theorem W_zero {s : Int → Int} {g : Int} {i : Int} : ∀ {m : Nat}, (∀ k : Nat, k < m → s (i + g * k) = 0) → W s g m i = 0
  | 0, _ => rfl
  | m + 1, h => by simp only [W]; rw [W_zero (fun k hk => h k (by omega)), h m (by omega)]; rfl
/-- Two periodic rows that agree on so many places agree on all (Fine and Wilf). -/
theorem fine_wilf {s t : Int → Int} {p q : Nat} (hp : 0 < p) (hq : 0 < q) (hs : ∀ i : Int, s (i + p) = s i) (ht : ∀ i : Int, t (i + q) = t i)
    (h : ∀ j : Nat, j < p + q - Nat.gcd p q → s (j : Int) = t (j : Int)) : ∀ j : Nat, s (j : Int) = t (j : Int) := by
  obtain ⟨a, ha⟩ := Nat.gcd_dvd_left p q
  obtain ⟨m, hm⟩ := Nat.gcd_dvd_right p q
  have hg : 0 < Nat.gcd p q := Nat.gcd_pos_of_pos_left _ hp
  have hgp : Nat.gcd p q ≤ p := Nat.gcd_le_left _ hp
  have hgq : Nat.gcd p q ≤ q := Nat.gcd_le_right _ hq
  generalize Nat.gcd p q = g at *
  obtain ⟨m, rfl⟩ : ∃ m', m = m' + 1 := ⟨m - 1, by cases m with | zero => simp at hm; omega | succ m => rfl⟩
  have hgm : g * (m + 1) = g * m + g := by rw [Nat.mul_add, Nat.mul_one]
  intro j
  induction j using Nat.strongRecOn with
  | _ j ih =>
    by_cases c : j < p + q - g
    · exact h j c
    obtain ⟨i, rfl⟩ : ∃ i, j = i + (p + q - g) := ⟨j - (p + q - g), by omega⟩
    have e1 : W s g (m + 1) ((i : Int) + p) = W s g (m + 1) (i : Int) := W_congr (fun k hk => by rw [show (i : Int) + p + (g : Int) * k = (i : Int) + (g : Int) * k + p by omega, hs])
    have e2 : W t g (m + 1) ((i : Int) + p) = W t g (m + 1) (i : Int) := by
      have := W_inv (f := t) (g := (g : Int)) (m := m + 1) (fun x => by rw [show (g : Int) * ((m + 1 : Nat) : Int) = (q : Int) by rw [hm]; simp]; exact ht x) (i : Int) a
      rw [show (g : Int) * (a : Int) = (p : Int) by rw [ha]; simp] at this
      exact this
    have z : ∀ n : Nat, n < i + (p + q - g) → (fun x => s x - t x) (n : Int) = 0 := fun n hn => by have := ih n hn; simp only; omega
    have e3 : W (fun x => s x - t x) g (m + 1) (i : Int) = 0 := W_zero (fun k hk => by
      have hb : g * k ≤ g * m := Nat.mul_le_mul_left g (by omega)
      rw [show (i : Int) + (g : Int) * (k : Int) = ((i + g * k : Nat) : Int) by simp]
      exact z _ (by omega))
    have e4 : W (fun x => s x - t x) g m ((i : Int) + p) = 0 := W_zero (fun k hk => by
      have hb : g * (k + 1) ≤ g * m := Nat.mul_le_mul_left g (by omega)
      rw [Nat.mul_add, Nat.mul_one] at hb
      rw [show (i : Int) + (p : Int) + (g : Int) * (k : Int) = ((i + p + g * k : Nat) : Int) by simp]
      exact z _ (by omega))
    have e5 := W_sub s t g (m + 1) ((i : Int) + p)
    have e6 := W_sub s t g (m + 1) (i : Int)
    simp only [W] at e5 e4
    rw [e4] at e5
    rw [show (i : Int) + (p : Int) + (g : Int) * (m : Int) = ((i + (p + q - g) : Nat) : Int) by rw [show (g : Int) * (m : Int) = ((g * m : Nat) : Int) by simp]; omega] at e5
    simp only [W] at e1 e2
    rw [e3] at e6
    simp only [W] at e6
    rw [show (i : Int) + (p : Int) + (g : Int) * (m : Int) = ((i + (p + q - g) : Nat) : Int) by rw [show (g : Int) * (m : Int) = ((g * m : Nat) : Int) by simp]; omega] at e1 e2
    omega
/-- How many different ones. -/
def nd (L : List (List Int)) : Nat := (L.foldl tp_new []).length
theorem mem_new {a : List (List Int)} {x y : List Int} : y ∈ tp_new a x ↔ y ∈ a ∨ y = x := by
  unfold tp_new
  split
  · exact ⟨.inl, fun h => h.elim id (fun e => e ▸ by assumption)⟩
  · simp
theorem mem_fold {y : List Int} : ∀ {L a : List (List Int)}, y ∈ L.foldl tp_new a ↔ y ∈ a ∨ y ∈ L
  | [], a => by simp
  | x :: L, a => by
    rw [List.foldl_cons, mem_fold, mem_new, List.mem_cons]
    constructor
    · rintro ((h | h) | h)
      · exact .inl h
      · exact .inr (.inl h)
      · exact .inr (.inr h)
    · rintro (h | h | h)
      · exact .inl (.inl h)
      · exact .inl (.inr h)
      · exact .inr h
theorem nodup_fold : ∀ {L a : List (List Int)}, a.Nodup → (L.foldl tp_new a).Nodup
  | [], a, h => h
  | x :: L, a, h => by
    rw [List.foldl_cons]
    refine nodup_fold ?_
    unfold tp_new
    split
    · exact h
    · rename_i hx
      exact List.nodup_append.2 ⟨h, by simp, fun u hu v hv e => hx (by rw [← List.mem_singleton.1 hv, ← e]; exact hu)⟩
theorem nodup_le : ∀ {D M : List (List Int)}, D.Nodup → (∀ x ∈ D, x ∈ M) → D.length ≤ M.length
  | [], M, _, _ => by simp
  | x :: D, M, h, hs => by
    have hx := hs x (by simp)
    obtain ⟨h1, h2⟩ := List.nodup_cons.1 h
    have := nodup_le (D := D) (M := M.erase x) h2 (fun y hy => (List.mem_erase_of_ne (fun e => h1 (by rw [← e]; exact hy))).2 (hs y (by simp [hy])))
    rw [List.length_erase_of_mem hx] at this
    have : 0 < M.length := List.length_pos_of_mem hx
    simp only [List.length_cons]
    omega
theorem nd_le {L M : List (List Int)} (h : ∀ x ∈ L, x ∈ M) : nd L ≤ M.length :=
  nodup_le (nodup_fold (by simp)) (fun x hx => h x (by simpa using mem_fold.1 hx))
theorem nd_ge {D L : List (List Int)} (hD : D.Nodup) (h : ∀ x ∈ D, x ∈ L) : D.length ≤ nd L :=
  nodup_le hD (fun x hx => mem_fold.2 (.inr (h x hx)))
theorem nd_mono {L M : List (List Int)} (h : ∀ x ∈ L, x ∈ M) : nd L ≤ nd M :=
  nd_le (fun x hx => mem_fold.2 (.inr (h x hx)))
theorem nd_map {L : List (List Int)} (f : List Int → List Int) : nd (L.map f) ≤ nd L := by
  have := nd_le (L := L.map f) (M := (L.foldl tp_new []).map f) (fun x hx => by
    obtain ⟨y, hy, rfl⟩ := List.mem_map.1 hx
    exact List.mem_map.2 ⟨y, mem_fold.2 (.inr hy), rfl⟩)
  simpa [nd] using this
theorem nd_snoc (L : List (List Int)) (x : List Int) : nd (L ++ [x]) = nd L + (if x ∈ L then 0 else 1) := by
  unfold nd
  rw [List.foldl_append]
  show (tp_new (L.foldl tp_new []) x).length = _
  have e : x ∈ L.foldl tp_new [] ↔ x ∈ L := by rw [mem_fold]; simp
  generalize L.foldl tp_new [] = M at *
  unfold tp_new
  by_cases h : x ∈ L
  · rw [if_pos (e.2 h), if_pos h]; rfl
  · rw [if_neg (fun q => h (e.1 q)), if_neg h]; simp
end Go.Proofs.Ytmpmfjnmfgnhcaa.Fw
namespace Go.Proofs.Ytmpmfjnmfgnhcaa.Fx
open Go.RowKit Go.Proofs.Ytmpmfjnmfgnhcaa.P Go.Proofs.Ytmpmfjnmfgnhcaa.E Go.Proofs.Ytmpmfjnmfgnhcaa.Va Go.Proofs.Ytmpmfjnmfgnhcaa.Pe Go.Proofs.Ytmpmfjnmfgnhcaa.Nm Go.Proofs.Ytmpmfjnmfgnhcaa.Tn Go.Proofs.Ytmpmfjnmfgnhcaa.Sm Go.Proofs.Ytmpmfjnmfgnhcaa.Fw Go.Proofs.YtmpmfjnmfgnhcaaW.PrintMore
open Go.Proofs.YtmpmfjnmfgnhcaaW.PrintWords
theorem per_mulI {t : List Int} {p : Nat} (h : Per t p) (i : Int) (k : Nat) : sec t (i + (p : Int) * k) = sec t i := per_mul h k i
/-- Two tones that agree so long agree always. -/
theorem agree_all {s t : List Int} {p q : Nat} (hp : IsPer s p) (hq : IsPer t q) {a b : Int} (h : ∀ j : Nat, j < p + q - Nat.gcd p q → sec s (a + j) = sec t (b + j)) (i : Int) : sec s (a + i) = sec t (b + i) := by
  have key := fine_wilf (s := fun x => sec s (a + x)) (t := fun x => sec t (b + x)) (p := p) (q := q) (by have := hp.1; omega) (by have := hq.1; omega)
    (fun x => by show sec s (a + (x + p)) = _; rw [← Int.add_assoc]; exact hp.2.2.1 _) (fun x => by show sec t (b + (x + q)) = _; rw [← Int.add_assoc]; exact hq.2.2.1 _) h
  obtain ⟨j, hj⟩ : ∃ j : Nat, (j : Int) = i + ((p * q : Nat) : Int) * (i.natAbs : Int) := by
    have h1 : 1 ≤ p * q := Nat.mul_pos hp.1 hq.1
    have h2 : (i.natAbs : Int) ≤ ((p * q : Nat) : Int) * (i.natAbs : Int) := by
      have := Nat.mul_le_mul_right i.natAbs h1
      rw [Nat.one_mul] at this
      exact_mod_cast this
    exact ⟨(i + ((p * q : Nat) : Int) * (i.natAbs : Int)).toNat, by omega⟩
  have k := key j
  simp only [hj] at k
  have e1 : sec s (a + (i + ((p * q : Nat) : Int) * (i.natAbs : Int))) = sec s (a + i) := by
    have := per_mulI hp.2.2.1 (a + i) (q * i.natAbs)
    rw [← this]; congr 1; push_cast; rw [Int.mul_assoc]; omega
  have e2 : sec t (b + (i + ((p * q : Nat) : Int) * (i.natAbs : Int))) = sec t (b + i) := by
    have := per_mulI hq.2.2.1 (b + i) (p * i.natAbs)
    rw [← this]; congr 1; push_cast; rw [Int.mul_comm (p : Int) q, Int.mul_assoc]; omega
  rw [e1, e2] at k
  exact k
/-- All pieces of so many seconds. -/
def ps (t : List Int) (n : Nat) : List (List Int) := (List.range t.length).map (fun (i : Nat) => pc t (i : Int) n)
theorem pc_emod (t : List Int) (i : Int) (n : Nat) : pc t (i % (t.length : Int)) n = pc t i n := pc_congr (fun j _ => sec_add _ _)
theorem mem_ps {t : List Int} (h0 : 0 < t.length) {n : Nat} {x : List Int} : x ∈ ps t n ↔ ∃ i : Int, x = pc t i n := by
  unfold ps
  rw [List.mem_map]
  constructor
  · rintro ⟨i, _, rfl⟩; exact ⟨i, rfl⟩
  · rintro ⟨i, rfl⟩
    have h1 := Int.emod_nonneg i (b := (t.length : Int)) (by omega)
    have h2 := Int.emod_lt_of_pos i (b := (t.length : Int)) (by omega)
    refine ⟨(i % (t.length : Int)).toNat, List.mem_range.2 (by omega), ?_⟩
    rw [show (((i % (t.length : Int)).toNat : Nat) : Int) = i % (t.length : Int) by omega, pc_emod]
theorem pc_eq {s t : List Int} {i j : Int} {n : Nat} : pc s i n = pc t j n ↔ ∀ k : Nat, k < n → sec s (i + k) = sec t (j + k) := by
  constructor
  · intro h k hk
    have h1 : (pc s i n)[k]? = some (sec s (i + k)) := by simp [pc, hk]
    have h2 : (pc t j n)[k]? = some (sec t (j + k)) := by simp [pc, hk]
    rw [h, h2] at h1
    exact (Option.some.inj h1).symm
  · exact pc_congr
theorem row_eq {t : List Int} (h0 : 0 < t.length) (hl : t.length ≤ 1000) (i : Nat) (hi : i ≤ 1000) : ∀ k : Nat, k ≤ 1000 → tone_pieces.row t i k = some (pc t (i : Int) k)
  | 0, _ => rfl
  | k + 1, hk => by
    rw [tone_pieces.row, row_eq h0 hl i hi k (by omega), w64 (by omega) (by omega), Option.bind_some, at_eq h0 hl, Option.bind_some, pc_succ]
theorem rows_eq {t : List Int} (h0 : 0 < t.length) (hl : t.length ≤ 1000) {n : Nat} (hn : n ≤ 1000) : ∀ m : Nat, m ≤ 1000 → tone_pieces.rows t n m = some ((List.range m).map (fun (i : Nat) => pc t (i : Int) n))
  | 0, _ => rfl
  | m + 1, hm => by
    rw [tone_pieces.rows, rows_eq h0 hl hn m (by omega), Option.bind_some, row_eq h0 hl m (by omega) n hn, Option.bind_some, List.range_succ, List.map_append]; rfl
theorem pieces_eq {t : List Int} (ok : Ok t) {n : Nat} (hn : n ≤ 60) : tone_pieces.f t (n : Int) = some (ps t n) := by
  unfold tone_pieces.f
  have hb : t.all (fun x => x == 0 || x == 1) = true := by
    refine List.all_eq_true.2 (fun x hx => ?_)
    obtain ⟨i, hi, rfl⟩ := List.getElem_of_mem hx
    have := ok.2.2 i hi
    rw [rd_lt hi] at this
    simpa using this
  rw [if_pos hb, if_pos (by omega), if_pos (by have := ok.2.1; omega)]
  exact rows_eq ok.1 (by have := ok.2.1; omega) (by omega) _ (by have := ok.2.1; omega)
theorem meet_eq {s t : List Int} (os : Ok s) (ot : Ok t) {n : Nat} (hn : n ≤ 60) {b : Bool} (hb : b = true ↔ ∃ i j : Int, pc s i n = pc t j n) : tone_meet.f s t (n : Int) = some b := by
  unfold tone_meet.f
  rw [pieces_eq ot hn, Option.bind_some, pieces_eq os hn, Option.bind_some]
  congr 1
  refine Bool.eq_iff_iff.2 (Iff.trans ?_ hb.symm)
  rw [List.any_eq_true]
  constructor
  · rintro ⟨x, hx, h⟩
    obtain ⟨i, rfl⟩ := (mem_ps os.1).1 hx
    obtain ⟨j, e⟩ := (mem_ps ot.1).1 (of_decide_eq_true h)
    exact ⟨i, j, e⟩
  · rintro ⟨i, j, e⟩
    exact ⟨_, (mem_ps os.1).2 ⟨i, rfl⟩, decide_eq_true ((mem_ps ot.1).2 ⟨j, e⟩)⟩
end Go.Proofs.Ytmpmfjnmfgnhcaa.Fx
namespace Go.Proofs.Ytmpmfjnmfgnhcaa.Fy
open Go.RowKit Go.Proofs.Ytmpmfjnmfgnhcaa.P Go.Proofs.Ytmpmfjnmfgnhcaa.E Go.Proofs.Ytmpmfjnmfgnhcaa.Va Go.Proofs.Ytmpmfjnmfgnhcaa.Pe Go.Proofs.Ytmpmfjnmfgnhcaa.Nm Go.Proofs.Ytmpmfjnmfgnhcaa.Tn Go.Proofs.Ytmpmfjnmfgnhcaa.Sm Go.Proofs.Ytmpmfjnmfgnhcaa.Fw Go.Proofs.Ytmpmfjnmfgnhcaa.Fx Go.Proofs.YtmpmfjnmfgnhcaaW.PrintMore
open Go.Proofs.YtmpmfjnmfgnhcaaW.PrintWords
/-- A least number with a property. -/
theorem least {P : Nat → Prop} (h : ∃ n, P n) : ∃ n, P n ∧ ∀ m, m < n → ¬ P m := by
  obtain ⟨n, hn⟩ := h
  induction n using Nat.strongRecOn with
  | _ n ih =>
    by_cases c : ∃ m, m < n ∧ P m
    · obtain ⟨m, hm, h⟩ := c; exact ih m hm h
    · exact ⟨n, hn, fun m hm h => c ⟨m, hm, h⟩⟩
theorem ev_both {s t : List Int} (os : Ok s) (ot : Ok t) : Tl (fun k => tone_both.f k s t) 0 := by
  unfold tone_both.f
  exact Tl.to (Tl.bind (ev_Validate (by have := os.2.1; omega)) (Tl.pos (vc_ok.2 os) (Tl.bind (ev_Validate (by have := ot.2.1; omega)) Tl.now))) (vc_ok.2 ot)
/-- Two tones have a piece of so many seconds both. -/
def Mt (s t : List Int) (n : Nat) : Prop := ∃ i j : Int, pc s i n = pc t j n
theorem mt_down {s t : List Int} {n m : Nat} (h : Mt s t n) (hm : m ≤ n) : Mt s t m := by
  obtain ⟨i, j, e⟩ := h
  exact ⟨i, j, pc_eq.2 (fun k hk => pc_eq.1 e k (by omega))⟩
theorem mt_alike {s t : List Int} (hs : 0 < s.length) (ht : 0 < t.length) {p q : Nat} (hp : IsPer s p) (hq : IsPer t q) {n : Nat} (hn : p + q - Nat.gcd p q ≤ n) (h : Mt s t n) : ∃ b : Nat, b < s.length ∧ Sh s t b := by
  obtain ⟨i, j, e⟩ := h
  have k := agree_all hp hq (a := i) (b := j) (fun m hm => pc_eq.1 e m (by omega))
  have h1 := Int.emod_nonneg (i - j) (b := (s.length : Int)) (by omega)
  have h2 := Int.emod_lt_of_pos (i - j) (b := (s.length : Int)) (by omega)
  refine ⟨((i - j) % (s.length : Int)).toNat, by omega, fun x => ?_⟩
  rw [show ((((i - j) % (s.length : Int)).toNat : Nat) : Int) = (i - j) % (s.length : Int) by omega, Int.add_comm, sec_add]
  have := k (x - j)
  rw [show j + (x - j) = x by omega] at this
  rw [← this]; congr 1; omega
/-- The longest piece that both have. -/
theorem mt_most {s t : List Int} {n : Nat} (h : ¬ Mt s t n) : ∃ M : Nat, M < n ∧ Mt s t M ∧ ¬ Mt s t (M + 1) := by
  obtain ⟨d, d1, d2⟩ := least (P := fun n => ¬ Mt s t n) ⟨n, h⟩
  have h0 : Mt s t 0 := ⟨0, 0, by simp [pc]⟩
  obtain ⟨M, rfl⟩ : ∃ M, d = M + 1 := ⟨d - 1, by
    cases d with
    | zero => exact absurd h0 d1
    | succ d => rfl⟩
  refine ⟨M, ?_, Classical.byContradiction (d2 M (by omega)), d1⟩
  exact Classical.byContradiction (fun z => d2 n (by omega) h)
theorem listen_loop {s t : List Int} (os : Ok s) (ot : Ok t) {M : Nat} (hM : M < 60) (h1 : Mt s t M) (h2 : ¬ Mt s t (M + 1)) (d : Nat) : ∀ n : Nat, n ≤ M + 1 → M + 1 - n = d → Tl (fun k => tone_listen.l0 k s t (n : Int)) (((M : Int) + 1), true) := by
  induction d with
  | zero =>
    intro n k1 k2
    obtain rfl : n = M + 1 := by omega
    refine Tl.succ ?_
    simp only [tone_listen.l0]
    exact Tl.to (Tl.bind' (meet_eq os ot (by omega) (b := false) ⟨fun z => by simp at z, fun z => absurd z h2⟩) (Tl.neg (by simp) Tl.now)) (by rw [show ((M + 1 : Nat) : Int) = (M : Int) + 1 by omega])
  | succ d ih =>
    intro n k1 k2
    have := ih (n + 1) (by omega) (by omega)
    rw [show ((n + 1 : Nat) : Int) = (n : Int) + 1 by omega, ← w64 (x := (n : Int) + 1) (by omega) (by omega)] at this
    refine Tl.succ ?_
    simp only [tone_listen.l0]
    exact Tl.bind' (meet_eq os ot (by omega) (b := true) ⟨fun _ => mt_down h1 (by omega), fun _ => rfl⟩) (Tl.pos rfl this)
/-- What listening to two tones comes to. -/
theorem ev_listen {s t : List Int} (os : Ok s) (ot : Ok t) {p q : Nat} (hp : IsPer s p) (hq : IsPer t q) :
    ((∃ b : Nat, b < s.length ∧ Sh s t b) ∧ Tl (fun k => tone_listen.f k s t) (0, false)) ∨
    ((¬ ∃ b : Nat, b < s.length ∧ Sh s t b) ∧ ∃ M : Nat, M < p + q - Nat.gcd p q ∧ Mt s t M ∧ ¬ Mt s t (M + 1) ∧ Tl (fun k => tone_listen.f k s t) ((M : Int) + 1, true)) := by
  have l1 := os.2.1
  have l2 := ot.2.1
  have p1 := hp.1
  have p2 := hp.2.1
  have q1 := hq.1
  have q2 := hq.2.1
  obtain ⟨x, lx, hx, n1⟩ := ev_name os.1 (show s.length ≤ 1000 by omega) hp
  obtain ⟨y, ly, hy, n2⟩ := ev_name ot.1 (show t.length ≤ 1000 by omega) hq
  have han := alike_name os.1 ot.1 hp hq hx hy
  by_cases c : ∃ b : Nat, b < s.length ∧ Sh s t b
  · left
    refine ⟨c, ?_⟩
    unfold tone_listen.f
    exact Tl.bind n1 (Tl.bind n2 (Tl.bind (ev_Equal (by omega)) (Tl.pos (decide_eq_true (han.2 c)) Tl.now)))
  · right
    refine ⟨c, ?_⟩
    have hg : Nat.gcd p q ≤ p := Nat.gcd_le_left _ hp.1
    have hg0 : 0 < Nat.gcd p q := Nat.gcd_pos_of_pos_left _ hp.1
    obtain ⟨M, m1, m2, m3⟩ := mt_most (n := p + q - Nat.gcd p q) (fun z => c (mt_alike os.1 ot.1 hp hq (Nat.le_refl _) z))
    refine ⟨M, m1, m2, m3, ?_⟩
    · unfold tone_listen.f
      exact Tl.bind n1 (Tl.bind n2 (Tl.bind (ev_Equal (by omega)) (Tl.neg (fun z => c (han.1 (of_decide_eq_true z))) (listen_loop os ot (by omega) m2 m3 (M + 1) 0 (by omega) (by omega)))))
end Go.Proofs.Ytmpmfjnmfgnhcaa.Fy
namespace Go.Proofs.Ytmpmfjnmfgnhcaa.Fz
open Go.RowKit Go.Proofs.Ytmpmfjnmfgnhcaa.P Go.Proofs.Ytmpmfjnmfgnhcaa.E Go.Proofs.Ytmpmfjnmfgnhcaa.Va Go.Proofs.Ytmpmfjnmfgnhcaa.Pe Go.Proofs.Ytmpmfjnmfgnhcaa.Nm Go.Proofs.Ytmpmfjnmfgnhcaa.Tn Go.Proofs.Ytmpmfjnmfgnhcaa.Sm Go.Proofs.Ytmpmfjnmfgnhcaa.Sw Go.Proofs.Ytmpmfjnmfgnhcaa.Fw Go.Proofs.Ytmpmfjnmfgnhcaa.Fx Go.Proofs.Ytmpmfjnmfgnhcaa.Fy Go.Proofs.YtmpmfjnmfgnhcaaW.PrintMore
open Go.Proofs.YtmpmfjnmfgnhcaaW.PrintWords
theorem gcd_loop (b : Nat) : ∀ a : Nat, Tl (fun k => diaphoneref01_Gcd.l0 k (a : Int) (b : Int)) ((Nat.gcd a b : Nat) : Int) := by
  induction b using Nat.strongRecOn with
  | _ b ih =>
    intro a
    refine Tl.succ ?_
    simp only [diaphoneref01_Gcd.l0]
    by_cases c : b = 0
    · subst c
      exact Tl.to (Tl.pos rfl Tl.now) (by rw [Nat.gcd_zero_right])
    · have hlt : a % b < b := Nat.mod_lt _ (by omega)
      have := ih (a % b) hlt b
      rw [Nat.gcd_comm b, ← Nat.gcd_rec, Nat.gcd_comm b] at this
      refine Tl.neg (by omega) ?_
      rw [show Int.tmod (a : Int) (b : Int) = ((a % b : Nat) : Int) from (Int.ofNat_tmod a b).symm]
      exact this
theorem ev_Gcd (a b : Nat) : Tl (fun k => diaphoneref01_Gcd.f k (a : Int) (b : Int)) ((Nat.gcd a b : Nat) : Int) := gcd_loop b a
theorem pc_add (t : List Int) (f : Int) (n : Nat) : ∀ m : Nat, pc t f (n + m) = pc t f n ++ pc t (f + n) m
  | 0 => by simp [pc]
  | m + 1 => by rw [← Nat.add_assoc, pc_succ, pc_add t f n m, pc_succ, List.append_assoc, show f + ((n + m : Nat) : Int) = f + (n : Int) + (m : Int) by omega]
theorem rep_pc (t : List Int) : ∀ k : Nat, (List.replicate k t).flatten = pc t 0 (k * t.length)
  | 0 => by simp [pc]
  | k + 1 => by
    rw [List.replicate_succ', List.flatten_append, rep_pc t k, Nat.add_mul, Nat.one_mul, pc_add]
    congr 1
    rw [show pc t (0 + ((k * t.length : Nat) : Int)) t.length = pc t 0 t.length from pc_congr (fun j _ => by
      rw [show (0 : Int) + ((k * t.length : Nat) : Int) + (j : Int) = (0 + (j : Int)) + (t.length : Int) * (k : Int) by rw [Int.natCast_mul, Int.mul_comm]; omega, sec_mul])]
    rw [pc_take (Nat.le_refl _)]; simp
theorem sec_pc {t : List Int} {k : Nat} (hk : 0 < k * t.length) (i : Int) : sec (pc t 0 (k * t.length)) i = sec t i := by
  have hL : ((pc t 0 (k * t.length)).length : Int) = ((k * t.length : Nat) : Int) := by rw [pc_length]
  have h1 := Int.emod_nonneg i (b := ((k * t.length : Nat) : Int)) (by omega)
  have h2 := Int.emod_lt_of_pos i (b := ((k * t.length : Nat) : Int)) (by omega)
  have e0 := Int.emod_add_mul_ediv i ((k * t.length : Nat) : Int)
  have e1 : sec (pc t 0 (k * t.length)) i = sec t (i % ((k * t.length : Nat) : Int)) := by
    show rd (pc t 0 (k * t.length)) (i % ((pc t 0 (k * t.length)).length : Int)) = _
    rw [hL]
    generalize i % ((k * t.length : Nat) : Int) = j at h1 h2
    obtain ⟨j, rfl⟩ := Int.eq_ofNat_of_zero_le h1
    rw [rd_lt (by rw [pc_length]; omega)]
    simp [pc]
  rw [e1]
  conv => rhs; rw [← e0]
  rw [show ((k * t.length : Nat) : Int) * (i / ((k * t.length : Nat) : Int)) = (t.length : Int) * ((k : Int) * (i / ((k * t.length : Nat) : Int))) by rw [← Int.mul_assoc, Int.natCast_mul, Int.mul_comm (k : Int)], sec_mul]
theorem ok_pc {t : List Int} (ok : Ok t) {n : Nat} (h1 : 1 ≤ n) (h2 : n ≤ 24) : Ok (pc t 0 n) := by
  refine ⟨by rw [pc_length]; exact h1, by rw [pc_length]; exact h2, fun i hi => ?_⟩
  rw [rd_lt hi]
  have e : (pc t 0 n)[i] = sec t (0 + (i : Int)) := by simp [pc]
  rw [e]
  have h3 := Int.emod_nonneg (0 + (i : Int)) (b := (t.length : Int)) (by have := ok.1; omega)
  have h4 := Int.emod_lt_of_pos (0 + (i : Int)) (b := (t.length : Int)) (by have := ok.1; omega)
  have := ok.2.2 ((0 + (i : Int)) % (t.length : Int)).toNat (by omega)
  rw [show ((((0 + (i : Int)) % (t.length : Int)).toNat : Nat) : Int) = (0 + (i : Int)) % (t.length : Int) by omega] at this
  exact this
theorem some_period (t : List Int) (hl : t.length ≤ 1000) : ∃ r, Tl (fun k => tone_Period.f k t) r := by
  by_cases hk : vc t = 0
  · have ok := vc_ok.1 hk
    obtain ⟨p, hp, _⟩ := ev_period ok.1 hl
    exact ⟨_, ev_Period ok hp⟩
  · exact ⟨_, ev_Period_no hl hk⟩
end Go.Proofs.Ytmpmfjnmfgnhcaa.Fz
namespace Go.Proofs.Ytmpmfjnmfgnhcaa.Fl
open Go.RowKit Go.Proofs.Ytmpmfjnmfgnhcaa.P Go.Proofs.Ytmpmfjnmfgnhcaa.E Go.Proofs.Ytmpmfjnmfgnhcaa.Va Go.Proofs.Ytmpmfjnmfgnhcaa.Pe Go.Proofs.Ytmpmfjnmfgnhcaa.Nm Go.Proofs.Ytmpmfjnmfgnhcaa.Tn Go.Proofs.Ytmpmfjnmfgnhcaa.Sm Go.Proofs.Ytmpmfjnmfgnhcaa.Sw Go.Proofs.Ytmpmfjnmfgnhcaa.Fw Go.Proofs.Ytmpmfjnmfgnhcaa.Fx Go.Proofs.Ytmpmfjnmfgnhcaa.Fy Go.Proofs.Ytmpmfjnmfgnhcaa.Fz Go.Proofs.YtmpmfjnmfgnhcaaW.PrintMore
open Go.Proofs.YtmpmfjnmfgnhcaaW.PrintWords
abbrev el (l : List (List Int)) (i : Nat) : List Int := rd_L1 l (i : Int)
def Sml (l : List (List Int)) : Prop := l.length ≤ 50 ∧ ∀ i : Nat, i < l.length → (el l i).length ≤ 200
theorem tones_loop {l : List (List Int)} (hs : Sml l) (d : Nat) : ∀ i : Nat, i ≤ l.length → l.length - i = d → (∀ j : Nat, j < i → Ok (el l j)) → ∃ e : Int, (e = 0 → ∀ j : Nat, j < l.length → Ok (el l j)) ∧ Tl (fun k => tone_tones.l0 k l (l.length : Int) (i : Int)) e := by
  have hl := hs.1
  induction d with
  | zero =>
    intro i h1 h2 h3
    refine ⟨0, fun _ j hj => h3 j (by omega), Tl.succ ?_⟩
    · simp only [tone_tones.l0]; exact Tl.neg (by omega) Tl.now
  | succ d ih =>
    intro i h1 h2 h3
    have hlen := hs.2 i (by omega)
    have v1 := ev_Validate (t := el l i) (by omega)
    by_cases c : vc (el l i) = 0
    · obtain ⟨e, he, t1⟩ := ih (i + 1) (by omega) (by omega) (fun j hj => by
        by_cases e : j = i
        · subst e; exact vc_ok.1 c
        · exact h3 j (by omega))
      have ew : wrap64 ((i : Int) + 1) = ((i + 1 : Nat) : Int) := by unfold wrap64; omega
      refine ⟨e, he, Tl.succ ?_⟩
      · simp only [tone_tones.l0]; rw [ew]; exact Tl.pos (by omega) (Tl.pos (by omega) (Tl.pos (by omega) (Tl.bind v1 (Tl.pos c t1))))
    · refine ⟨vc (el l i), fun z => absurd z c, Tl.succ ?_⟩
      · simp only [tone_tones.l0]; exact Tl.pos (by omega) (Tl.pos (by omega) (Tl.pos (by omega) (Tl.bind v1 (Tl.neg c Tl.now))))
/-- A list of tones is right. -/
def Oks (l : List (List Int)) : Prop := l.length ≤ 6 ∧ ∀ j : Nat, j < l.length → Ok (el l j)
theorem ev_tones {l : List (List Int)} (hs : Sml l) : ∃ e : Int, (e = 0 → Oks l) ∧ Tl (fun k => tone_tones.f k l) e := by
  unfold tone_tones.f
  by_cases c : (l.length : Int) > 6
  · exact ⟨3, fun z => by omega, Tl.pos c Tl.now⟩
  · obtain ⟨e, he, t1⟩ := tones_loop hs l.length 0 (by omega) (by omega) (fun j hj => by omega)
    exact ⟨e, fun z => ⟨by omega, he z⟩, Tl.neg c t1⟩
theorem ev_isSeconds {t : List Int} (hl : t.length ≤ 1000) : Tl (fun k => tone_isSeconds.f k t) (Va.bits t) := by
  obtain ⟨j, hj, hr⟩ := pbits_loop t hl t.length 0 (by omega) (by omega)
  unfold tone_isSeconds.f slices_ContainsFunc_int_int_tone_isSeconds_1.f
  refine Tl.to (Tl.bind (Tl.bind hr Tl.now) Tl.now) ?_
  rw [List.drop_zero] at hj
  cases hb : Va.bits t with
  | true => rw [hb] at hj; have := hj.2 rfl; simp; omega
  | false => rw [hb] at hj; have : ¬ j < 0 := fun q => by simpa using hj.1 q
             simp; omega
/-- The numbers of the first tones that have a piece. -/
def tl (l : List (List Int)) (x : List Int) (m : Nat) : List Int := ((List.range m).filter (fun i => decide (x ∈ ps (el l i) x.length))).map (fun (i : Nat) => (i : Int))
theorem tl_succ (l : List (List Int)) (x : List Int) (m : Nat) : tl l x (m + 1) = tl l x m ++ (if x ∈ ps (el l m) x.length then [(m : Int)] else []) := by
  unfold tl
  rw [List.range_succ, List.filter_append, List.map_append]
  congr 1
  by_cases c : x ∈ ps (el l m) x.length <;> simp [c]
theorem tl_len (l : List (List Int)) (x : List Int) (m : Nat) : (tl l x m).length ≤ m := by
  unfold tl
  rw [List.length_map]
  have := List.length_filter_le (fun i => decide (x ∈ ps (el l i) x.length)) (List.range m)
  rwa [List.length_range] at this
theorem tell_loop {l : List (List Int)} (ok : Oks l) {x : List Int} (hx : x.length ≤ 60) (d : Nat) : ∀ i : Nat, i ≤ l.length → l.length - i = d → Tl (fun k => tone_Tell.l0 k l x (tl l x i) (i : Int)) (tl l x l.length, 0) := by
  have hl := ok.1
  induction d with
  | zero =>
    intro i h1 h2
    obtain rfl : i = l.length := by omega
    refine Tl.succ ?_
    simp only [tone_Tell.l0]
    exact Tl.neg (by omega) Tl.now
  | succ d ih =>
    intro i h1 h2
    have next := ih (i + 1) (by omega) (by omega)
    have o := ok.2 i (by omega)
    have hlen := tl_len l x i
    refine Tl.succ ?_
    simp only [tone_Tell.l0]
    rw [show wrap64 ((i : Int) + 1) = ((i + 1 : Nat) : Int) by unfold wrap64; omega]
    refine Tl.pos (by omega) (Tl.pos (by omega) (Tl.bind' (pieces_eq o hx) ?_))
    rw [tl_succ] at next
    by_cases c : x ∈ ps (el l i) x.length
    · rw [if_pos c] at next
      exact Tl.pos c (Tl.pos (by omega) next)
    · rw [if_neg c, List.append_nil] at next
      exact Tl.neg c next
/-- Which tones of a list have a piece. -/
theorem ev_Tell {l : List (List Int)} (hs : Sml l) {x : List Int} (hx : x.length ≤ 1000) : ∃ r : List Int × Int, r.1.length ≤ 1000 ∧ (Oks l → x.length ≤ 60 → Va.bits x = true → r = (tl l x l.length, 0)) ∧ Tl (fun k => tone_Tell.f k l x) r := by
  obtain ⟨e, he, t1⟩ := ev_tones hs
  unfold tone_Tell.f
  by_cases c : e = 0
  · have ok := he c
    by_cases c2 : (x.length : Int) > 60
    · exact ⟨([], 3), by simp, fun _ h => by omega, Tl.bind t1 (Tl.pos c (Tl.pos c2 Tl.now))⟩
    · by_cases c3 : Va.bits x = true
      · have hb : x.all (fun x => x == 0 || x == 1) = true := by
          unfold Va.bits at c3
          refine List.all_eq_true.2 (fun y hy => ?_)
          have := List.all_eq_true.1 c3 y hy
          simpa using this
        have r1 := tell_loop ok (x := x) (by omega) l.length 0 (by omega) (by omega)
        refine ⟨(tl l x l.length, 0), by have := tl_len l x l.length; have := ok.1; simp only; omega, fun _ _ _ => rfl, Tl.bind t1 (Tl.pos c (Tl.neg c2 (Tl.bind (ev_isSeconds hx) (Tl.pos c3 (Tl.pos hb r1)))))⟩
      · exact ⟨([], 1), by simp, fun _ _ h => absurd h c3, Tl.bind t1 (Tl.pos c (Tl.neg c2 (Tl.bind (ev_isSeconds hx) (Tl.neg c3 Tl.now))))⟩
  · refine ⟨([], e), by simp, fun ok => ?_, Tl.bind t1 (Tl.neg c Tl.now)⟩
    exfalso
    apply c
    have o1 := ok.1
    have key : ∀ d i : Nat, i ≤ l.length → l.length - i = d → Tl (fun k => tone_tones.l0 k l (l.length : Int) (i : Int)) 0 := by
      intro d
      induction d with
      | zero => intro i h1 h2; refine Tl.succ ?_; simp only [tone_tones.l0]; exact Tl.neg (by omega) Tl.now
      | succ d ih =>
        intro i h1 h2
        refine Tl.succ ?_
        simp only [tone_tones.l0]
        rw [show wrap64 ((i : Int) + 1) = ((i + 1 : Nat) : Int) by unfold wrap64; omega]
        exact Tl.pos (by omega) (Tl.pos (by omega) (Tl.pos (by omega) (Tl.bind (ev_Validate (t := el l i) (by have := hs.2 i (by omega); omega)) (Tl.pos (vc_ok.2 (ok.2 i (by omega))) (ih (i + 1) (by omega) (by omega))))))
    have t0 : Tl (fun k => tone_tones.f k l) 0 := by
      unfold tone_tones.f
      exact Tl.neg (by omega) (key l.length 0 (by omega) (by omega))
    obtain ⟨K, hK⟩ := t1
    obtain ⟨L, hL⟩ := t0
    have := (hK (max K L) (by omega)).symm.trans (hL (max K L) (by omega))
    exact Option.some.inj this
theorem tl_one {l : List (List Int)} {x : List Int} {w : Nat} (hw : ∀ i : Nat, i < l.length → (x ∈ ps (el l i) x.length ↔ i = w)) : ∀ m : Nat, m ≤ l.length → tl l x m = if w < m then [(w : Int)] else []
  | 0, _ => by simp [tl]
  | m + 1, hm => by
    rw [tl_succ, tl_one hw m (by omega)]
    by_cases c : m = w
    · subst c
      rw [if_pos ((hw m (by omega)).2 rfl), if_neg (by omega), if_pos (by omega)]; rfl
    · rw [if_neg (fun z => c ((hw m (by omega)).1 z)), List.append_nil]
      by_cases d : w < m
      · rw [if_pos d, if_pos (by omega)]
      · rw [if_neg d, if_neg (by omega)]
end Go.Proofs.Ytmpmfjnmfgnhcaa.Fl
namespace Go.Proofs.Ytmpmfjnmfgnhcaa.Fa
open Go.RowKit Go.Proofs.Ytmpmfjnmfgnhcaa.P Go.Proofs.Ytmpmfjnmfgnhcaa.E Go.Proofs.Ytmpmfjnmfgnhcaa.Va Go.Proofs.Ytmpmfjnmfgnhcaa.Pe Go.Proofs.Ytmpmfjnmfgnhcaa.Nm Go.Proofs.Ytmpmfjnmfgnhcaa.Tn Go.Proofs.Ytmpmfjnmfgnhcaa.Sm Go.Proofs.Ytmpmfjnmfgnhcaa.Sw Go.Proofs.Ytmpmfjnmfgnhcaa.Fw Go.Proofs.Ytmpmfjnmfgnhcaa.Fx Go.Proofs.Ytmpmfjnmfgnhcaa.Fy Go.Proofs.Ytmpmfjnmfgnhcaa.Fz Go.Proofs.Ytmpmfjnmfgnhcaa.Fl Go.Proofs.YtmpmfjnmfgnhcaaW.PrintMore
open Go.Proofs.YtmpmfjnmfgnhcaaW.PrintWords
theorem mt_symm {s t : List Int} {n : Nat} (h : Mt s t n) : Mt t s n := by
  obtain ⟨i, j, e⟩ := h
  exact ⟨j, i, e.symm⟩
theorem ev_At {t : List Int} (ok : Ok t) (i : Int) : Tl (fun k => tone_At.f k t i) (sec t i, 0) := by
  unfold tone_At.f
  exact Tl.bind (ev_Validate (by have := ok.2.1; omega)) (Tl.pos (vc_ok.2 ok) (Tl.bind' (at_eq ok.1 (by have := ok.2.1; omega) i) Tl.now))
theorem bits_pc {t : List Int} (ok : Ok t) (f : Int) (n : Nat) : Va.bits (pc t f n) = true := by
  unfold Va.bits
  refine List.all_eq_true.2 (fun x hx => ?_)
  unfold pc at hx
  obtain ⟨j, _, rfl⟩ := List.mem_map.1 hx
  have h3 := Int.emod_nonneg (f + (j : Int)) (b := (t.length : Int)) (by have := ok.1; omega)
  have h4 := Int.emod_lt_of_pos (f + (j : Int)) (b := (t.length : Int)) (by have := ok.1; omega)
  have := ok.2.2 ((f + (j : Int)) % (t.length : Int)).toNat (by omega)
  rw [show ((((f + (j : Int)) % (t.length : Int)).toNat : Nat) : Int) = (f + (j : Int)) % (t.length : Int) by omega] at this
  exact decide_eq_true this
end Go.Proofs.Ytmpmfjnmfgnhcaa.Fa
