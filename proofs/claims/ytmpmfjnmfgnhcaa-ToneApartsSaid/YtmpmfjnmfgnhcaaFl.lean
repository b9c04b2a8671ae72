/- Tones with sound and silence exchanged, and tones turned round. -/
import Derived.Test.YtmpmfjnmfgnhcaaSm
import Derived.Test.YtmpmfjnmfgnhcaaPx17
import Derived.Test.YtmpmfjnmfgnhcaaPx17
import Derived.Test.YtmpmfjnmfgnhcaaPx18
import Derived.Test.YtmpmfjnmfgnhcaaPx18
import Derived.Test.YtmpmfjnmfgnhcaaPx36
import Derived.Test.YtmpmfjnmfgnhcaaPx50
import Derived.Test.YtmpmfjnmfgnhcaaPx53
import Derived.Test.YtmpmfjnmfgnhcaaPx51
import Derived.Test.YtmpmfjnmfgnhcaaPx16
import Derived.Test.YtmpmfjnmfgnhcaaPx39
import Derived.Test.YtmpmfjnmfgnhcaaPx23
import Derived.Test.YtmpmfjnmfgnhcaaPx54
import Derived.Test.YtmpmfjnmfgnhcaaPx23
import Derived.Test.YtmpmfjnmfgnhcaaPx54
import Derived.Test.YtmpmfjnmfgnhcaaPx20
import Derived.Test.YtmpmfjnmfgnhcaaPx21
import Derived.Test.YtmpmfjnmfgnhcaaPx22
set_option linter.unusedVariables false
namespace Go.Proofs.Ytmpmfjnmfgnhcaa.Sw
open Go.RowKit Go.Proofs.Ytmpmfjnmfgnhcaa.P Go.Proofs.Ytmpmfjnmfgnhcaa.E Go.Proofs.Ytmpmfjnmfgnhcaa.Va Go.Proofs.Ytmpmfjnmfgnhcaa.Pe Go.Proofs.Ytmpmfjnmfgnhcaa.Nm Go.Proofs.Ytmpmfjnmfgnhcaa.Tn Go.Proofs.Ytmpmfjnmfgnhcaa.Sm Go.Proofs.YtmpmfjnmfgnhcaaW.PrintMore
open Go.Proofs.YtmpmfjnmfgnhcaaW.PrintWords
theorem ev_rev_loop (l0 : List Int) (hl : l0.length ≤ 1000) (d : Nat) : ∀ (m : Nat) (l : List Int), 2 * m ≤ l0.length → l0.length - 2 * m ≤ d → l.length = l0.length →
    (∀ j, j < l0.length → l[j]? = if j < m ∨ l0.length ≤ j + m then l0[l0.length - 1 - j]? else l0[j]?) → Tl (fun k => slices_Reverse_int_int.l0 k l (m : Int) ((l0.length : Int) - 1 - m)) l0.reverse := by
  have fin : ∀ (m : Nat) (l : List Int), 2 * m ≤ l0.length → ¬ 2 * m + 1 < l0.length → l.length = l0.length →
    (∀ j, j < l0.length → l[j]? = if j < m ∨ l0.length ≤ j + m then l0[l0.length - 1 - j]? else l0[j]?) → Tl (fun k => slices_Reverse_int_int.l0 k l (m : Int) ((l0.length : Int) - 1 - m)) l0.reverse := by
    intro m l h1 h2 h3 h4
    refine Tl.succ ?_
    simp only [slices_Reverse_int_int.l0]
    refine Tl.to (Tl.neg (by omega) Tl.now) ?_
    refine List.ext_getElem? (fun j => ?_)
    by_cases hj : j < l0.length
    · rw [List.getElem?_reverse hj, h4 j hj]
      by_cases c : j < m ∨ l0.length ≤ j + m
      · rw [if_pos c]
      · rw [if_neg c]; congr 1; omega
    · rw [List.getElem?_eq_none (by omega), List.getElem?_eq_none (by simp; omega)]
  induction d with
  | zero => exact fun m l h1 h2 h3 h4 => fin m l h1 (by omega) h3 h4
  | succ d ih =>
    intro m l h1 h2 h3 h4
    by_cases hlt : 2 * m + 1 < l0.length
    · have next := ih (m + 1) ((l.set m (rd l ((l0.length : Int) - 1 - m))).set (l0.length - 1 - m) (rd l (m : Int))) (by omega) (by omega) (by simp [h3]) (by
        intro j hj
        rw [show (l0.length : Int) - 1 - m = ((l0.length - 1 - m : Nat) : Int) by omega]
        rw [rd_lt (show l0.length - 1 - m < l.length by omega), rd_lt (show m < l.length by omega)]
        have e1 := h4 (l0.length - 1 - m) (by omega)
        have e2 := h4 m (by omega)
        rw [if_neg (by omega), List.getElem?_eq_getElem (by omega)] at e1 e2
        rw [List.getElem?_eq_getElem (by omega)] at e1 e2
        simp only [Option.some.injEq] at e1 e2
        rw [List.getElem?_set]
        by_cases c1 : l0.length - 1 - m = j
        · rw [if_pos c1, if_pos (by simp; omega), if_pos (by omega), e2, List.getElem?_eq_getElem (by omega)]
          congr 2; omega
        · rw [if_neg c1, List.getElem?_set]
          by_cases c2 : m = j
          · rw [if_pos c2, if_pos (by omega), if_pos (by omega), e1, List.getElem?_eq_getElem (by omega)]
            congr 2; omega
          · rw [if_neg c2, h4 j hj]
            by_cases c3 : j < m ∨ l0.length ≤ j + m
            · rw [if_pos c3, if_pos (by omega)]
            · rw [if_neg c3, if_neg (by omega)])
      refine Tl.succ ?_
      simp only [slices_Reverse_int_int.l0]
      refine Tl.pos (by omega) (Tl.pos (by omega) (Tl.pos (by omega) (Tl.pos (by omega) (Tl.pos (by omega) ?_))))
      rw [w64 (by omega) (by omega), w64 (by omega) (by omega), Int.toNat_natCast, show ((l0.length : Int) - 1 - m).toNat = l0.length - 1 - m by omega]
      rw [show ((m + 1 : Nat) : Int) = (m : Int) + 1 by omega, show (l0.length : Int) - 1 - ((m : Int) + 1) = (l0.length : Int) - 1 - m - 1 by omega] at next
      exact next
    · exact fin m l h1 hlt h3 h4
theorem ev_rev (l0 : List Int) (hl : l0.length ≤ 1000) : Tl (fun k => slices_Reverse_int_int.f k l0) l0.reverse := by
  unfold slices_Reverse_int_int.f
  have := ev_rev_loop l0 hl l0.length 0 l0 (by omega) (by omega) rfl (by intro j hj; rw [if_neg (by omega)])
  rw [w64 (by omega) (by omega)]
  rw [show ((0 : Nat) : Int) = 0 from rfl, show (l0.length : Int) - 1 - 0 = (l0.length : Int) - 1 by omega] at this
  exact this
theorem clone_eq {t : List Int} (h : t.length ≤ 1000) : slices_Clone_int_int.f t = some t := by
  unfold slices_Clone_int_int.f
  rw [if_pos (by omega)]
def sw (t : List Int) : List Int := t.map (fun x => 1 - x)
theorem sw_length (t : List Int) : (sw t).length = t.length := by simp [sw]
theorem sw_get {t : List Int} {i : Nat} (h : i < t.length) : (sw t)[i]'(by rw [sw_length]; exact h) = 1 - t[i] := by simp [sw]
theorem take_set {a b : List Int} (h : a.length = b.length) {i : Nat} (hi : i < a.length) : (a.take i ++ b.drop i).set i a[i] = a.take (i + 1) ++ b.drop (i + 1) := by
  have hl : (a.take i).length = i := by simp; omega
  rw [List.set_append_right _ _ (by omega), hl, Nat.sub_self, drop_cons (show i < b.length by omega), List.set_cons_zero, List.take_succ_eq_append_getElem hi, List.append_assoc]
  rfl
theorem sw_loop {t : List Int} (ok : Ok t) (d : Nat) : ∀ i : Nat, i ≤ t.length → t.length - i = d → Tl (fun k => tone_Swap.l0 k ((sw t).take i ++ t.drop i) (t.length : Int) (i : Int)) (sw t, 0) := by
  have hl := ok.2.1
  induction d with
  | zero =>
    intro i h1 h2
    refine Tl.succ ?_
    simp only [tone_Swap.l0]
    refine Tl.to (Tl.neg (by omega) Tl.now) ?_
    rw [List.drop_eq_nil_of_le (by omega), List.append_nil, List.take_of_length_le (by rw [sw_length]; omega)]
  | succ d ih =>
    intro i h1 h2
    have hi : i < t.length := by omega
    have hlen : ((sw t).take i ++ t.drop i).length = t.length := by simp [sw_length]; omega
    have hr : rd ((sw t).take i ++ t.drop i) (i : Int) = t[i] := by
      rw [rd_lt (by omega), List.getElem_append_right (by simp [sw_length]; omega)]
      simp [sw_length]
      congr 1; omega
    have hb := ok.2.2 i hi
    rw [rd_lt hi] at hb
    refine Tl.succ ?_
    simp only [tone_Swap.l0]
    rw [hr, hlen, w64 (x := (i : Int) + 1) (by omega) (by omega), w64 (x := 1 - t[i]) (by omega) (by omega), Int.toNat_natCast, ← sw_get hi, take_set (sw_length t) (by rw [sw_length]; exact hi)]
    exact Tl.pos (by omega) (Tl.pos (by omega) (Tl.pos (by omega) (ih (i + 1) (by omega) (by omega))))
theorem rsw_loop {t : List Int} (ok : Ok t) (d : Nat) : ∀ i : Nat, i ≤ t.length → t.length - i = d → Tl (fun k => diaphoneref01_Swap.l0 k t ((sw t).take i) (i : Int)) (sw t, 0) := by
  have hl := ok.2.1
  induction d with
  | zero =>
    intro i h1 h2
    refine Tl.succ ?_
    simp only [diaphoneref01_Swap.l0]
    refine Tl.to (Tl.neg (by omega) Tl.now) ?_
    rw [List.take_of_length_le (by rw [sw_length]; omega)]
  | succ d ih =>
    intro i h1 h2
    have hi : i < t.length := by omega
    have hb := ok.2.2 i hi
    have next := ih (i + 1) (by omega) (by omega)
    rw [List.take_succ_eq_append_getElem (show i < (sw t).length by rw [sw_length]; exact hi), sw_get hi] at next
    refine Tl.succ ?_
    simp only [diaphoneref01_Swap.l0]
    rw [rd_lt hi] at hb ⊢
    rw [w64 (x := (i : Int) + 1) (by omega) (by omega), w64 (x := 1 - t[i]) (by omega) (by omega)]
    exact Tl.pos (by omega) (Tl.pos (by omega) (Tl.pos (by simp [sw_length]; omega) next))
theorem rback_loop {t : List Int} (ok : Ok t) (d : Nat) : ∀ i : Nat, i ≤ t.length → t.length - i = d → Tl (fun k => diaphoneref01_Back.l0 k t (t.reverse.take i) ((t.length : Int) - 1 - i)) (t.reverse, 0) := by
  have hl := ok.2.1
  induction d with
  | zero =>
    intro i h1 h2
    refine Tl.succ ?_
    simp only [diaphoneref01_Back.l0]
    refine Tl.to (Tl.neg (by omega) Tl.now) ?_
    rw [List.take_of_length_le (by simp; omega)]
  | succ d ih =>
    intro i h1 h2
    have hi : i < t.length := by omega
    have next := ih (i + 1) (by omega) (by omega)
    rw [List.take_succ_eq_append_getElem (show i < t.reverse.length by simp; exact hi), List.getElem_reverse, show (t.length : Int) - 1 - ((i + 1 : Nat) : Int) = (t.length : Int) - 1 - (i : Int) - 1 by omega] at next
    refine Tl.succ ?_
    simp only [diaphoneref01_Back.l0]
    rw [w64 (x := (t.length : Int) - 1 - (i : Int) - 1) (by omega) (by omega), show (t.length : Int) - 1 - (i : Int) = ((t.length - 1 - i : Nat) : Int) by omega, rd_lt (show t.length - 1 - i < t.length by omega)]
    rw [show (t.length : Int) - 1 - (i : Int) - 1 = ((t.length - 1 - i : Nat) : Int) - 1 by omega] at next
    exact Tl.pos (by omega) (Tl.pos (by omega) (Tl.pos (by omega) (Tl.pos (by simp; omega) next)))
theorem sec_sw {t : List Int} (h0 : 0 < t.length) (i : Int) : sec (sw t) i = 1 - sec t i := by
  have k1 := Int.emod_nonneg i (show (t.length : Int) ≠ 0 by omega)
  have k2 := Int.emod_lt_of_pos i (show (0 : Int) < t.length by omega)
  obtain ⟨c, hc⟩ : ∃ c : Nat, i % (t.length : Int) = c := ⟨(i % (t.length : Int)).toNat, by omega⟩
  rw [← sec_emod (sw t), ← sec_emod t i, sw_length, hc, sec_nat (show c < (sw t).length by rw [sw_length]; omega), sec_nat (show c < t.length by omega), sw_get]
theorem sec_rev {t : List Int} (h0 : 0 < t.length) (i : Int) : sec t.reverse i = sec t (-1 - i) := by
  have k1 := Int.emod_nonneg i (show (t.length : Int) ≠ 0 by omega)
  have k2 := Int.emod_lt_of_pos i (show (0 : Int) < t.length by omega)
  have e0 := Int.emod_add_mul_ediv i (t.length : Int)
  obtain ⟨c, hc⟩ : ∃ c : Nat, i % (t.length : Int) = c := ⟨(i % (t.length : Int)).toNat, by omega⟩
  rw [hc] at e0
  have e1 : -1 - i = ((t.length - 1 - c : Nat) : Int) + (t.length : Int) * (-1 - i / (t.length : Int)) := by
    rw [Int.mul_sub, Int.mul_neg, Int.mul_one]; omega
  rw [e1, sec_mul, sec_nat (by omega), ← sec_emod, List.length_reverse, hc, sec_nat (by simp; omega), List.getElem_reverse]
theorem per_sw {t : List Int} (h0 : 0 < t.length) (q : Nat) : Per (sw t) q ↔ Per t q := by
  constructor
  · intro h i
    have := h i
    rw [sec_sw h0, sec_sw h0] at this
    omega
  · intro h i
    rw [sec_sw h0, sec_sw h0, h]
theorem per_rev {t : List Int} (h0 : 0 < t.length) (q : Nat) : Per t.reverse q ↔ Per t q := by
  constructor
  · intro h i
    have := h (-1 - i - q)
    rw [sec_rev h0, sec_rev h0] at this
    rw [show -1 - (-1 - i - (q : Int) + q) = i by omega, show -1 - (-1 - i - (q : Int)) = i + q by omega] at this
    exact this.symm
  · intro h i
    rw [sec_rev h0, sec_rev h0, ← h (-1 - (i + q))]
    congr 1; omega
theorem isper_congr {s t : List Int} (hl : s.length = t.length) (h : ∀ q, Per s q ↔ Per t q) {p : Nat} (hp : IsPer t p) : IsPer s p :=
  ⟨hp.1, by rw [hl]; exact hp.2.1, (h p).2 hp.2.2.1, fun q h1 h2 h3 => hp.2.2.2 q h1 h2 ((h q).1 h3)⟩
theorem ok_sw {t : List Int} (ok : Ok t) : Ok (sw t) := by
  refine ⟨by rw [sw_length]; exact ok.1, by rw [sw_length]; exact ok.2.1, fun i hi => ?_⟩
  rw [sw_length] at hi
  have := ok.2.2 i hi
  rw [rd_lt hi] at this
  rw [rd_lt (by rw [sw_length]; exact hi), sw_get hi]
  omega
theorem ok_rev {t : List Int} (ok : Ok t) : Ok t.reverse := by
  refine ⟨by simpa using ok.1, by simpa using ok.2.1, fun i hi => ?_⟩
  simp only [List.length_reverse] at hi
  have := ok.2.2 (t.length - 1 - i) (by omega)
  rw [rd_lt (by omega)] at this
  rw [rd_lt (by simpa using hi), List.getElem_reverse]
  exact this
theorem ev_Period {t : List Int} (ok : Ok t) {p : Nat} (hp : IsPer t p) : Tl (fun k => tone_Period.f k t) ((p : Int), 0) := by
  have hl := ok.2.1
  obtain ⟨q, hq, hr⟩ := ev_period ok.1 (show t.length ≤ 1000 by omega)
  obtain rfl := hp.unique hq
  unfold tone_Period.f
  exact Tl.bind (ev_Validate (by omega)) (Tl.pos (vc_ok.2 ok) (Tl.bind hr Tl.now))
theorem ev_Period_no {t : List Int} (hl : t.length ≤ 1000) (h : ¬ vc t = 0) : Tl (fun k => tone_Period.f k t) (0, vc t) := by
  unfold tone_Period.f
  exact Tl.bind (ev_Validate hl) (Tl.neg h Tl.now)
end Go.Proofs.Ytmpmfjnmfgnhcaa.Sw
/- Sums over periods, Fine and Wilf's law, and how many different pieces a list has. -/
set_option linter.unusedVariables false
namespace Go.Proofs.Ytmpmfjnmfgnhcaa.Fw
open Go.RowKit Go.Proofs.Ytmpmfjnmfgnhcaa.P Go.Proofs.YtmpmfjnmfgnhcaaW.PrintMore
open Go.Proofs.YtmpmfjnmfgnhcaaW.PrintWords
/-- Sum of every g-th value, m of them. -/
def W (f : Int → Int) (g : Int) : Nat → Int → Int
  | 0, _ => 0
  | m + 1, i => W f g m i + f (i + g * m)
theorem W_step (f : Int → Int) (g : Int) : ∀ (m : Nat) (i : Int), W f g m (i + g) = W f g m i + f (i + g * m) - f i
  | 0, i => by simp [W]
  | m + 1, i => by
    simp only [W]
    rw [W_step f g m i, show i + g + g * (m : Int) = i + g * ((m + 1 : Nat) : Int) by rw [show ((m + 1 : Nat) : Int) = (m : Int) + 1 by omega, Int.mul_add, Int.mul_one]; omega]
    omega
theorem W_inv {f : Int → Int} {g : Int} {m : Nat} (h : ∀ i, f (i + g * m) = f i) (i : Int) : ∀ k : Nat, W f g m (i + g * k) = W f g m i
  | 0 => by simp
  | k + 1 => by
    rw [show i + g * ((k + 1 : Nat) : Int) = (i + g * (k : Int)) + g by rw [show ((k + 1 : Nat) : Int) = (k : Int) + 1 by omega, Int.mul_add, Int.mul_one]; omega, W_step, h, W_inv h i k]
    omega
theorem W_sub (s t : Int → Int) (g : Int) : ∀ (m : Nat) (i : Int), W (fun x => s x - t x) g m i = W s g m i - W t g m i
  | 0, i => by simp [W]
  | m + 1, i => by simp only [W]; rw [W_sub s t g m i]; omega
theorem W_congr {s t : Int → Int} {g : Int} {i j : Int} : ∀ {m : Nat}, (∀ k : Nat, k < m → s (i + g * k) = t (j + g * k)) → W s g m i = W t g m j
  | 0, _ => rfl
  | m + 1, h => by simp only [W]; rw [W_congr (fun k hk => h k (by omega)), h m (by omega)]
theorem W_zero {s : Int → Int} {g : Int} {i : Int} : ∀ {m : Nat}, (∀ k : Nat, k < m → s (i + g * k) = 0) → W s g m i = 0
  | 0, _ => rfl
  | m + 1, h => by simp only [W]; rw [W_zero (fun k hk => h k (by omega)), h m (by omega)]; rfl
/-- Two periodic rows that agree on so many places agree on all (Fine and Wilf). -/
theorem fine_wilf {s t : Int → Int} {p q : Nat} (hp : 0 < p) (hq : 0 < q) (hs : ∀ i : Int, s (i + p) = s i) (ht : ∀ i : Int, t (i + q) = t i)
    (h : ∀ j : Nat, j < p + q - Nat.gcd p q → s (j : Int) = t (j : Int)) : ∀ j : Nat, s (j : Int) = t (j : Int) := by
  obtain ⟨a, ha⟩ := Nat.gcd_dvd_left p q
  obtain ⟨m, hm⟩ := Nat.gcd_dvd_right p q
  have hg : 0 < Nat.gcd p q := Nat.gcd_pos_of_pos_left _ hp
  have hgp : Nat.gcd p q ≤ p := Nat.gcd_le_left _ hp
  have hgq : Nat.gcd p q ≤ q := Nat.gcd_le_right _ hq
  generalize Nat.gcd p q = g at *
  obtain ⟨m, rfl⟩ : ∃ m', m = m' + 1 := ⟨m - 1, by cases m with | zero => simp at hm; omega | succ m => rfl⟩
  have hgm : g * (m + 1) = g * m + g := by rw [Nat.mul_add, Nat.mul_one]
  intro j
  induction j using Nat.strongRecOn with
  | _ j ih =>
    by_cases c : j < p + q - g
    · exact h j c
    obtain ⟨i, rfl⟩ : ∃ i, j = i + (p + q - g) := ⟨j - (p + q - g), by omega⟩
    have e1 : W s g (m + 1) ((i : Int) + p) = W s g (m + 1) (i : Int) := W_congr (fun k hk => by rw [show (i : Int) + p + (g : Int) * k = (i : Int) + (g : Int) * k + p by omega, hs])
    have e2 : W t g (m + 1) ((i : Int) + p) = W t g (m + 1) (i : Int) := by
      have := W_inv (f := t) (g := (g : Int)) (m := m + 1) (fun x => by rw [show (g : Int) * ((m + 1 : Nat) : Int) = (q : Int) by rw [hm]; simp]; exact ht x) (i : Int) a
      rw [show (g : Int) * (a : Int) = (p : Int) by rw [ha]; simp] at this
      exact this
    have z : ∀ n : Nat, n < i + (p + q - g) → (fun x => s x - t x) (n : Int) = 0 := fun n hn => by have := ih n hn; simp only; omega
    have e3 : W (fun x => s x - t x) g (m + 1) (i : Int) = 0 := W_zero (fun k hk => by
      have hb : g * k ≤ g * m := Nat.mul_le_mul_left g (by omega)
      rw [show (i : Int) + (g : Int) * (k : Int) = ((i + g * k : Nat) : Int) by simp]
      exact z _ (by omega))
    have e4 : W (fun x => s x - t x) g m ((i : Int) + p) = 0 := W_zero (fun k hk => by
      have hb : g * (k + 1) ≤ g * m := Nat.mul_le_mul_left g (by omega)
      rw [Nat.mul_add, Nat.mul_one] at hb
      rw [show (i : Int) + (p : Int) + (g : Int) * (k : Int) = ((i + p + g * k : Nat) : Int) by simp]
      exact z _ (by omega))
    have e5 := W_sub s t g (m + 1) ((i : Int) + p)
    have e6 := W_sub s t g (m + 1) (i : Int)
    simp only [W] at e5 e4
    rw [e4] at e5
    rw [show (i : Int) + (p : Int) + (g : Int) * (m : Int) = ((i + (p + q - g) : Nat) : Int) by rw [show (g : Int) * (m : Int) = ((g * m : Nat) : Int) by simp]; omega] at e5
    simp only [W] at e1 e2
    rw [e3] at e6
    simp only [W] at e6
    rw [show (i : Int) + (p : Int) + (g : Int) * (m : Int) = ((i + (p + q - g) : Nat) : Int) by rw [show (g : Int) * (m : Int) = ((g * m : Nat) : Int) by simp]; omega] at e1 e2
    omega
/-- How many different ones. -/
def nd (L : List (List Int)) : Nat := (L.foldl tp_new []).length
theorem mem_new {a : List (List Int)} {x y : List Int} : y ∈ tp_new a x ↔ y ∈ a ∨ y = x := by
  unfold tp_new
  split
  · exact ⟨.inl, fun h => h.elim id (fun e => e ▸ by assumption)⟩
  · simp
theorem mem_fold {y : List Int} : ∀ {L a : List (List Int)}, y ∈ L.foldl tp_new a ↔ y ∈ a ∨ y ∈ L
  | [], a => by simp
  | x :: L, a => by
    rw [List.foldl_cons, mem_fold, mem_new, List.mem_cons]
    constructor
    · rintro ((h | h) | h)
      · exact .inl h
      · exact .inr (.inl h)
      · exact .inr (.inr h)
    · rintro (h | h | h)
      · exact .inl (.inl h)
      · exact .inl (.inr h)
      · exact .inr h
theorem nodup_fold : ∀ {L a : List (List Int)}, a.Nodup → (L.foldl tp_new a).Nodup
  | [], a, h => h
  | x :: L, a, h => by
    rw [List.foldl_cons]
    refine nodup_fold ?_
    unfold tp_new
    split
    · exact h
    · rename_i hx
      exact List.nodup_append.2 ⟨h, by simp, fun u hu v hv e => hx (by rw [← List.mem_singleton.1 hv, ← e]; exact hu)⟩
theorem nodup_le : ∀ {D M : List (List Int)}, D.Nodup → (∀ x ∈ D, x ∈ M) → D.length ≤ M.length
  | [], M, _, _ => by simp
  | x :: D, M, h, hs => by
    have hx := hs x (by simp)
    obtain ⟨h1, h2⟩ := List.nodup_cons.1 h
    have := nodup_le (D := D) (M := M.erase x) h2 (fun y hy => (List.mem_erase_of_ne (fun e => h1 (by rw [← e]; exact hy))).2 (hs y (by simp [hy])))
    rw [List.length_erase_of_mem hx] at this
    have : 0 < M.length := List.length_pos_of_mem hx
    simp only [List.length_cons]
    omega
theorem nd_le {L M : List (List Int)} (h : ∀ x ∈ L, x ∈ M) : nd L ≤ M.length :=
  nodup_le (nodup_fold (by simp)) (fun x hx => h x (by simpa using mem_fold.1 hx))
theorem nd_ge {D L : List (List Int)} (hD : D.Nodup) (h : ∀ x ∈ D, x ∈ L) : D.length ≤ nd L :=
  nodup_le hD (fun x hx => mem_fold.2 (.inr (h x hx)))
theorem nd_mono {L M : List (List Int)} (h : ∀ x ∈ L, x ∈ M) : nd L ≤ nd M :=
  nd_le (fun x hx => mem_fold.2 (.inr (h x hx)))
theorem nd_map {L : List (List Int)} (f : List Int → List Int) : nd (L.map f) ≤ nd L := by
  have := nd_le (L := L.map f) (M := (L.foldl tp_new []).map f) (fun x hx => by
    obtain ⟨y, hy, rfl⟩ := List.mem_map.1 hx
    exact List.mem_map.2 ⟨y, mem_fold.2 (.inr hy), rfl⟩)
  simpa [nd] using this
theorem nd_snoc (L : List (List Int)) (x : List Int) : nd (L ++ [x]) = nd L + (if x ∈ L then 0 else 1) := by
  unfold nd
  rw [List.foldl_append]
  show (tp_new (L.foldl tp_new []) x).length = _
  have e : x ∈ L.foldl tp_new [] ↔ x ∈ L := by rw [mem_fold]; simp
  generalize L.foldl tp_new [] = M at *
  unfold tp_new
  by_cases h : x ∈ L
  · rw [if_pos (e.2 h), if_pos h]; rfl
  · rw [if_neg (fun q => h (e.1 q)), if_neg h]; simp
end Go.Proofs.Ytmpmfjnmfgnhcaa.Fw
/- Pieces of tones: how many are different, and how long two tones can agree. -/
set_option linter.unusedVariables false
namespace Go.Proofs.Ytmpmfjnmfgnhcaa.Fx
open Go.RowKit Go.Proofs.Ytmpmfjnmfgnhcaa.P Go.Proofs.Ytmpmfjnmfgnhcaa.E Go.Proofs.Ytmpmfjnmfgnhcaa.Va Go.Proofs.Ytmpmfjnmfgnhcaa.Pe Go.Proofs.Ytmpmfjnmfgnhcaa.Nm Go.Proofs.Ytmpmfjnmfgnhcaa.Tn Go.Proofs.Ytmpmfjnmfgnhcaa.Sm Go.Proofs.Ytmpmfjnmfgnhcaa.Fw Go.Proofs.YtmpmfjnmfgnhcaaW.PrintMore
open Go.Proofs.YtmpmfjnmfgnhcaaW.PrintWords
theorem per_mulI {t : List Int} {p : Nat} (h : Per t p) (i : Int) (k : Nat) : sec t (i + (p : Int) * k) = sec t i := per_mul h k i
/-- Two tones that agree so long agree always. -/
theorem agree_all {s t : List Int} {p q : Nat} (hp : IsPer s p) (hq : IsPer t q) {a b : Int} (h : ∀ j : Nat, j < p + q - Nat.gcd p q → sec s (a + j) = sec t (b + j)) (i : Int) : sec s (a + i) = sec t (b + i) := by
  have key := fine_wilf (s := fun x => sec s (a + x)) (t := fun x => sec t (b + x)) (p := p) (q := q) (by have := hp.1; omega) (by have := hq.1; omega)
    (fun x => by show sec s (a + (x + p)) = _; rw [← Int.add_assoc]; exact hp.2.2.1 _) (fun x => by show sec t (b + (x + q)) = _; rw [← Int.add_assoc]; exact hq.2.2.1 _) h
  obtain ⟨j, hj⟩ : ∃ j : Nat, (j : Int) = i + ((p * q : Nat) : Int) * (i.natAbs : Int) := by
    have h1 : 1 ≤ p * q := Nat.mul_pos hp.1 hq.1
    have h2 : (i.natAbs : Int) ≤ ((p * q : Nat) : Int) * (i.natAbs : Int) := by
      have := Nat.mul_le_mul_right i.natAbs h1
      rw [Nat.one_mul] at this
      exact_mod_cast this
    exact ⟨(i + ((p * q : Nat) : Int) * (i.natAbs : Int)).toNat, by omega⟩
  have k := key j
  simp only [hj] at k
  have e1 : sec s (a + (i + ((p * q : Nat) : Int) * (i.natAbs : Int))) = sec s (a + i) := by
    have := per_mulI hp.2.2.1 (a + i) (q * i.natAbs)
    rw [← this]; congr 1; push_cast; rw [Int.mul_assoc]; omega
  have e2 : sec t (b + (i + ((p * q : Nat) : Int) * (i.natAbs : Int))) = sec t (b + i) := by
    have := per_mulI hq.2.2.1 (b + i) (p * i.natAbs)
    rw [← this]; congr 1; push_cast; rw [Int.mul_comm (p : Int) q, Int.mul_assoc]; omega
  rw [e1, e2] at k
  exact k
/-- All pieces of so many seconds. -/
def ps (t : List Int) (n : Nat) : List (List Int) := (List.range t.length).map (fun (i : Nat) => pc t (i : Int) n)
theorem pc_emod (t : List Int) (i : Int) (n : Nat) : pc t (i % (t.length : Int)) n = pc t i n := pc_congr (fun j _ => sec_add _ _)
theorem mem_ps {t : List Int} (h0 : 0 < t.length) {n : Nat} {x : List Int} : x ∈ ps t n ↔ ∃ i : Int, x = pc t i n := by
  unfold ps
  rw [List.mem_map]
  constructor
  · rintro ⟨i, _, rfl⟩; exact ⟨i, rfl⟩
  · rintro ⟨i, rfl⟩
    have h1 := Int.emod_nonneg i (b := (t.length : Int)) (by omega)
    have h2 := Int.emod_lt_of_pos i (b := (t.length : Int)) (by omega)
    refine ⟨(i % (t.length : Int)).toNat, List.mem_range.2 (by omega), ?_⟩
    rw [show (((i % (t.length : Int)).toNat : Nat) : Int) = i % (t.length : Int) by omega, pc_emod]
theorem pc_eq {s t : List Int} {i j : Int} {n : Nat} : pc s i n = pc t j n ↔ ∀ k : Nat, k < n → sec s (i + k) = sec t (j + k) := by
  constructor
  · intro h k hk
    have h1 : (pc s i n)[k]? = some (sec s (i + k)) := by simp [pc, hk]
    have h2 : (pc t j n)[k]? = some (sec t (j + k)) := by simp [pc, hk]
    rw [h, h2] at h1
    exact (Option.some.inj h1).symm
  · exact pc_congr
theorem row_eq {t : List Int} (h0 : 0 < t.length) (hl : t.length ≤ 1000) (i : Nat) (hi : i ≤ 1000) : ∀ k : Nat, k ≤ 1000 → tone_pieces.row t i k = some (pc t (i : Int) k)
  | 0, _ => rfl
  | k + 1, hk => by
    rw [tone_pieces.row, row_eq h0 hl i hi k (by omega), w64 (by omega) (by omega), Option.bind_some, at_eq h0 hl, Option.bind_some, pc_succ]
theorem rows_eq {t : List Int} (h0 : 0 < t.length) (hl : t.length ≤ 1000) {n : Nat} (hn : n ≤ 1000) : ∀ m : Nat, m ≤ 1000 → tone_pieces.rows t n m = some ((List.range m).map (fun (i : Nat) => pc t (i : Int) n))
  | 0, _ => rfl
  | m + 1, hm => by
    rw [tone_pieces.rows, rows_eq h0 hl hn m (by omega), Option.bind_some, row_eq h0 hl m (by omega) n hn, Option.bind_some, List.range_succ, List.map_append]; rfl
theorem pieces_eq {t : List Int} (ok : Ok t) {n : Nat} (hn : n ≤ 60) : tone_pieces.f t (n : Int) = some (ps t n) := by
  unfold tone_pieces.f
  have hb : t.all (fun x => x == 0 || x == 1) = true := by
    refine List.all_eq_true.2 (fun x hx => ?_)
    obtain ⟨i, hi, rfl⟩ := List.getElem_of_mem hx
    have := ok.2.2 i hi
    rw [rd_lt hi] at this
    simpa using this
  rw [if_pos hb, if_pos (by omega), if_pos (by have := ok.2.1; omega)]
  exact rows_eq ok.1 (by have := ok.2.1; omega) (by omega) _ (by have := ok.2.1; omega)
theorem meet_eq {s t : List Int} (os : Ok s) (ot : Ok t) {n : Nat} (hn : n ≤ 60) {b : Bool} (hb : b = true ↔ ∃ i j : Int, pc s i n = pc t j n) : tone_meet.f s t (n : Int) = some b := by
  unfold tone_meet.f
  rw [pieces_eq ot hn, Option.bind_some, pieces_eq os hn, Option.bind_some]
  congr 1
  refine Bool.eq_iff_iff.2 (Iff.trans ?_ hb.symm)
  rw [List.any_eq_true]
  constructor
  · rintro ⟨x, hx, h⟩
    obtain ⟨i, rfl⟩ := (mem_ps os.1).1 hx
    obtain ⟨j, e⟩ := (mem_ps ot.1).1 (of_decide_eq_true h)
    exact ⟨i, j, e⟩
  · rintro ⟨i, j, e⟩
    exact ⟨_, (mem_ps os.1).2 ⟨i, rfl⟩, decide_eq_true ((mem_ps ot.1).2 ⟨j, e⟩)⟩
/-- How many pieces there are. -/
theorem ps_le {t : List Int} (h0 : 0 < t.length) {p : Nat} (hp : IsPer t p) (n : Nat) : nd (ps t n) ≤ p := by
  have h := nd_le (L := ps t n) (M := (List.range p).map (fun i => pc t ((i : Nat) : Int) n)) (fun x hx => by
    obtain ⟨i, rfl⟩ := (mem_ps h0).1 hx
    have p0 := hp.1
    have h1 := Int.emod_nonneg i (b := (p : Int)) (by omega)
    have h2 := Int.emod_lt_of_pos i (b := (p : Int)) (by omega)
    refine List.mem_map.2 ⟨(i % (p : Int)).toNat, List.mem_range.2 (by omega), ?_⟩
    rw [show (((i % (p : Int)).toNat : Nat) : Int) = i % (p : Int) by omega]
    refine pc_congr (fun j _ => ?_)
    obtain ⟨c, hc⟩ : ∃ c : Int, i = i % (p : Int) + (p : Int) * c := ⟨i / (p : Int), by rw [Int.emod_add_mul_ediv]⟩
    rcases Int.le_total 0 c with h | h
    · obtain ⟨d, rfl⟩ := Int.eq_ofNat_of_zero_le h
      have := per_mulI hp.2.2.1 (i % (p : Int) + j) d
      rw [← this]; congr 1; omega
    · obtain ⟨d, hd⟩ := Int.eq_ofNat_of_zero_le (show 0 ≤ -c by omega)
      have := per_mulI hp.2.2.1 (i + j) d
      rw [← this]; congr 1
      have e : (p : Int) * c = -((p : Int) * d) := by rw [← hd, Int.mul_neg]; omega
      omega)
  simpa using h
theorem ps_step (t : List Int) (n : Nat) : nd (ps t n) ≤ nd (ps t (n + 1)) := by
  have e : ps t n = (ps t (n + 1)).map (List.take n) := by
    unfold ps
    rw [List.map_map]
    refine List.map_congr_left (fun i _ => ?_)
    show _ = (pc t (i : Int) (n + 1)).take n
    rw [pc_succ, List.take_append_of_le_length (by rw [pc_length]; exact Nat.le_refl _), List.take_of_length_le (by rw [pc_length]; exact Nat.le_refl _)]
  rw [e]; exact nd_map _
theorem pc_long {t : List Int} {p : Nat} (hp : IsPer t p) {i j : Int} {n : Nat} (hn : p ≤ n + 1) (h : pc t i n = pc t j n) : ∀ k : Int, sec t (i + k) = sec t (j + k) := by
  have p0 := hp.1
  refine agree_all hp hp (fun k hk => ?_)
  rw [Nat.gcd_self] at hk
  have key := pc_eq.1 h
  by_cases c : k < n
  · exact key k c
  have e : k = p - 1 := by omega
  subst e
  have w : ∀ x : Int, W (sec t) 1 p x = W (sec t) 1 p 0 := by
    intro x
    have per : ∀ y : Int, sec t (y + 1 * (p : Int)) = sec t y := fun y => by rw [Int.one_mul]; exact hp.2.2.1 y
    rcases Int.le_total 0 x with h | h
    · obtain ⟨d, rfl⟩ := Int.eq_ofNat_of_zero_le h
      have := W_inv per 0 d
      rw [show (0 : Int) + 1 * (d : Int) = (d : Int) by omega] at this
      exact this
    · obtain ⟨d, hd⟩ := Int.eq_ofNat_of_zero_le (show 0 ≤ -x by omega)
      have := W_inv per x d
      rw [show x + 1 * (d : Int) = 0 by omega] at this
      exact this.symm
  have e2 : W (sec t) 1 p i = W (sec t) 1 p j := by rw [w i, w j]
  obtain ⟨m, rfl⟩ : ∃ m, p = m + 1 := ⟨p - 1, by omega⟩
  simp only [W] at e2
  rw [W_congr (s := sec t) (t := sec t) (g := 1) (i := i) (j := j) (m := m) (fun k hk => by rw [Int.one_mul]; exact key k (by omega)), Int.one_mul] at e2
  rw [show m + 1 - 1 = m by omega]
  omega
theorem ps_ge {t : List Int} (h0 : 0 < t.length) {p : Nat} (hp : IsPer t p) {n : Nat} (hn : p ≤ n + 1) : p ≤ nd (ps t n) := by
  have h := nd_ge (D := (List.range p).map (fun i => pc t ((i : Nat) : Int) n)) (L := ps t n) ?_ (fun x hx => by
    obtain ⟨i, _, rfl⟩ := List.mem_map.1 hx
    exact (mem_ps h0).2 ⟨i, rfl⟩)
  · simpa using h
  · have ne : ∀ a b : Nat, a < b → b < p → pc t (a : Int) n ≠ pc t (b : Int) n := by
      intro a b hab hb e
      have k := pc_long hp hn e
      refine hp.2.2.2 (b - a) (by omega) (by omega) (fun x => ?_)
      have := k (x - a)
      rw [show (a : Int) + (x - a) = x by omega] at this
      rw [this]; congr 1; omega
    refine List.pairwise_map.2 ?_
    refine List.Pairwise.imp_of_mem (R := fun a b => a < b) ?_ List.pairwise_lt_range
    intro a b _ hb hab
    exact ne a b hab (List.mem_range.1 hb)
theorem ps_zero {t : List Int} (h0 : 0 < t.length) : nd (ps t 0) = 1 := by
  have h1 := nd_le (L := ps t 0) (M := [[]]) (fun x hx => by obtain ⟨i, rfl⟩ := (mem_ps h0).1 hx; simp [pc])
  have h2 := nd_ge (D := [[]]) (L := ps t 0) (by simp) (fun x hx => by rw [List.mem_singleton.1 hx]; exact (mem_ps h0).2 ⟨0, by simp [pc]⟩)
  simp at h1 h2
  omega
theorem ps_same {s t : List Int} (hs : 0 < s.length) (ht : 0 < t.length) (h : ∀ i, sec s i = sec t i) (n : Nat) : nd (ps s n) = nd (ps t n) := by
  have e : ∀ i : Int, pc s i n = pc t i n := fun i => pc_congr (fun j _ => h _)
  refine Nat.le_antisymm (nd_mono (fun x hx => ?_)) (nd_mono (fun x hx => ?_))
  · obtain ⟨i, rfl⟩ := (mem_ps hs).1 hx; exact (mem_ps ht).2 ⟨i, e i⟩
  · obtain ⟨i, rfl⟩ := (mem_ps ht).1 hx; exact (mem_ps hs).2 ⟨i, (e i).symm⟩
theorem ev_Pieces {t : List Int} (ok : Ok t) (n : Int) : Tl (fun k => tone_Pieces.f k t n) (if 0 ≤ n ∧ n ≤ 60 then ((nd (ps t n.toNat) : Nat) : Int) else 0, if 0 ≤ n ∧ n ≤ 60 then 0 else 1) := by
  unfold tone_Pieces.f
  have hl : t.length ≤ 1000 := by have := ok.2.1; omega
  refine Tl.bind (ev_Validate hl) (Tl.pos (vc_ok.2 ok) (Tl.bind' (within_eq _ _ _) ?_))
  by_cases c : 0 ≤ n ∧ n ≤ 60
  · rw [if_pos c, if_pos c]
    refine Tl.pos (decide_eq_true c) ?_
    have := pieces_eq ok (n := n.toNat) (by omega)
    rw [show ((n.toNat : Nat) : Int) = n by omega] at this
    exact Tl.bind' this Tl.now
  · rw [if_neg c, if_neg c]
    exact Tl.neg (by simpa using c) Tl.now
theorem ev_Pieces_no {t : List Int} (hl : t.length ≤ 1000) (h : ¬ vc t = 0) (n : Int) : Tl (fun k => tone_Pieces.f k t n) (0, vc t) := by
  unfold tone_Pieces.f
  exact Tl.bind (ev_Validate hl) (Tl.neg h Tl.now)
end Go.Proofs.Ytmpmfjnmfgnhcaa.Fx
/- How long two tones agree; how long one must listen; the document's count of pieces. -/
set_option linter.unusedVariables false
namespace Go.Proofs.Ytmpmfjnmfgnhcaa.Fy
open Go.RowKit Go.Proofs.Ytmpmfjnmfgnhcaa.P Go.Proofs.Ytmpmfjnmfgnhcaa.E Go.Proofs.Ytmpmfjnmfgnhcaa.Va Go.Proofs.Ytmpmfjnmfgnhcaa.Pe Go.Proofs.Ytmpmfjnmfgnhcaa.Nm Go.Proofs.Ytmpmfjnmfgnhcaa.Tn Go.Proofs.Ytmpmfjnmfgnhcaa.Sm Go.Proofs.Ytmpmfjnmfgnhcaa.Fw Go.Proofs.Ytmpmfjnmfgnhcaa.Fx Go.Proofs.YtmpmfjnmfgnhcaaW.PrintMore
open Go.Proofs.YtmpmfjnmfgnhcaaW.PrintWords
theorem shared_loop {s t : List Int} (hs : 0 < s.length) (ht : 0 < t.length) (ls : s.length ≤ 1000) (lt_ : t.length ≤ 1000) {i j : Int} (hi : 0 ≤ i ∧ i ≤ 1000) (hj : 0 ≤ j ∧ j ≤ 1000) {n : Nat} (hn : n ≤ 1000) (d : Nat) :
    ∀ x : Nat, x ≤ n → n - x = d → (∀ k : Nat, k < x → sec s (i + k) = sec t (j + k)) → ∃ r : Nat, r ≤ n ∧ (∀ k : Nat, k < r → sec s (i + k) = sec t (j + k)) ∧ (r < n → sec s (i + r) ≠ sec t (j + r)) ∧ Tl (fun k => diaphoneref01_shared.l0 k s t i j (n : Int) (x : Int)) (r : Int) := by
  induction d with
  | zero =>
    intro x h1 h2 h3
    refine ⟨x, h1, h3, fun q => by omega, Tl.succ ?_⟩
    simp only [diaphoneref01_shared.l0]
    exact Tl.neg (by omega) Tl.now
  | succ d ih =>
    intro x h1 h2 h3
    by_cases c : sec s (i + x) = sec t (j + x)
    · obtain ⟨r, r1, r2, r3, r4⟩ := ih (x + 1) (by omega) (by omega) (fun k hk => by
        by_cases e : k = x
        · subst e; exact c
        · exact h3 k (by omega))
      refine ⟨r, r1, r2, r3, Tl.succ ?_⟩
      simp only [diaphoneref01_shared.l0]
      rw [show ((x + 1 : Nat) : Int) = (x : Int) + 1 by omega, ← w64 (x := (x : Int) + 1) (by omega) (by omega)] at r4
      rw [w64 (x := i + x) (by omega) (by omega), w64 (x := j + x) (by omega) (by omega)]
      exact Tl.pos (by omega) (Tl.bind' (rat_eq hs ls _) (Tl.bind' (rat_eq ht lt_ _) (Tl.pos c r4)))
    · refine ⟨x, h1, h3, fun _ => c, Tl.succ ?_⟩
      simp only [diaphoneref01_shared.l0]
      rw [w64 (x := i + x) (by omega) (by omega), w64 (x := j + x) (by omega) (by omega)]
      exact Tl.pos (by omega) (Tl.bind' (rat_eq hs ls _) (Tl.bind' (rat_eq ht lt_ _) (Tl.neg c Tl.now)))
theorem ev_shared {s t : List Int} (os : Ok s) (ot : Ok t) {i j : Int} (hi : 0 ≤ i ∧ i ≤ 1000) (hj : 0 ≤ j ∧ j ≤ 1000) {n : Nat} (hn : n ≤ 1000) :
    ∃ r : Nat, r ≤ n ∧ (∀ k : Nat, k < r → sec s (i + k) = sec t (j + k)) ∧ (r < n → sec s (i + r) ≠ sec t (j + r)) ∧ Tl (fun k => diaphoneref01_shared.f k s t i j (n : Int)) (r : Int) :=
  shared_loop os.1 ot.1 (by have := os.2.1; omega) (by have := ot.2.1; omega) hi hj hn n 0 (by omega) (by omega) (fun k hk => by omega)
/-- The first pieces. -/
def pl (t : List Int) (n m : Nat) : List (List Int) := (List.range m).map (fun (i : Nat) => pc t (i : Int) n)
theorem pl_succ (t : List Int) (n m : Nat) : pl t n (m + 1) = pl t n m ++ [pc t (m : Int) n] := by unfold pl; rw [List.range_succ, List.map_append]; rfl
theorem rpieces_in {t : List Int} (ok : Ok t) {n i : Nat} (hn : n ≤ 60) (hi : i ≤ 24) {c : Int} {R : Int × Int} (d : Nat) : ∀ (x : Nat) (fl : Bool), x ≤ i → i - x = d → (fl = true ↔ pc t (i : Int) n ∉ pl t n x) →
    Tl (fun k => diaphoneref01_Pieces.l0 k t (n : Int) (if pc t (i : Int) n ∈ pl t n i then c else wrap64 (c + 1)) (wrap64 ((i : Int) + 1))) R → Tl (fun k => diaphoneref01_Pieces.l1 k t (n : Int) c (i : Int) fl (x : Int)) R := by
  induction d with
  | zero =>
    intro x fl h1 h2 h3 hR
    obtain rfl : x = i := by omega
    refine Tl.succ ?_
    simp only [diaphoneref01_Pieces.l1]
    refine Tl.neg (by omega) ?_
    cases fl with
    | true => rw [if_neg (h3.1 rfl)] at hR; exact Tl.pos rfl hR
    | false => rw [if_pos (by by_cases q : pc t (x : Int) n ∈ pl t n x; exact q; exact absurd (h3.2 q) (by simp))] at hR; exact Tl.neg (by simp) hR
  | succ d ih =>
    intro x fl h1 h2 h3 hR
    refine Tl.succ ?_
    simp only [diaphoneref01_Pieces.l1]
    refine Tl.pos (by omega) ?_
    have e : wrap64 ((x : Int) + 1) = ((x + 1 : Nat) : Int) := by unfold wrap64; omega
    rw [e]
    cases fl with
    | false =>
      refine Tl.neg (by simp) (ih (x + 1) false (by omega) (by omega) ?_ hR)
      rw [pl_succ]
      constructor
      · intro q; simp at q
      · intro q; exact absurd (h3.2 (fun z => q (List.mem_append.2 (.inl z)))) (by simp)
    | true =>
      obtain ⟨r, r1, r2, r3, r4⟩ := ev_shared ok ok (i := (i : Int)) (j := (x : Int)) (by omega) (by omega) (n := n) (by omega)
      refine Tl.pos rfl (Tl.bind r4 (ih (x + 1) _ (by omega) (by omega) ?_ hR))
      rw [pl_succ, decide_eq_true_eq, List.mem_append, List.mem_singleton]
      constructor
      · intro q z
        rcases z with z | z
        · exact (h3.1 rfl) z
        · exact r3 (by omega) (pc_eq.1 z r (by omega))
      · intro q
        by_cases z : (r : Int) < n
        · exact z
        · obtain rfl : r = n := by omega
          exact absurd (.inr (pc_eq.2 r2)) q
theorem rpieces_out {t : List Int} (ok : Ok t) {n : Nat} (hn : n ≤ 60) (d : Nat) : ∀ i : Nat, i ≤ t.length → t.length - i = d → Tl (fun k => diaphoneref01_Pieces.l0 k t (n : Int) ((nd (pl t n i) : Nat) : Int) (i : Int)) (((nd (ps t n) : Nat) : Int), 0) := by
  have hl := ok.2.1
  induction d with
  | zero =>
    intro i h1 h2
    obtain rfl : i = t.length := by omega
    refine Tl.succ ?_
    simp only [diaphoneref01_Pieces.l0]
    exact Tl.neg (by omega) Tl.now
  | succ d ih =>
    intro i h1 h2
    refine Tl.succ ?_
    simp only [diaphoneref01_Pieces.l0]
    refine Tl.pos (by omega) (rpieces_in ok hn (by omega) i 0 true (by omega) (by omega) (by simp [pl]) ?_)
    have := ih (i + 1) (by omega) (by omega)
    have hb : nd (pl t n i) ≤ i := by have := nd_le (L := pl t n i) (M := pl t n i) (fun x hx => hx); simpa [pl] using this
    rw [pl_succ, nd_snoc] at this
    rw [show wrap64 ((i : Int) + 1) = ((i + 1 : Nat) : Int) by unfold wrap64; omega]
    by_cases c : pc t (i : Int) n ∈ pl t n i
    · rw [if_pos c] at this ⊢; exact this
    · rw [if_neg c] at this ⊢
      rw [show wrap64 (((nd (pl t n i) : Nat) : Int) + 1) = ((nd (pl t n i) + 1 : Nat) : Int) by unfold wrap64; omega]
      exact this
theorem ev_rPieces {t : List Int} (ok : Ok t) (n : Int) : Tl (fun k => diaphoneref01_Pieces.f k t n) (if 0 ≤ n ∧ n ≤ 60 then ((nd (ps t n.toNat) : Nat) : Int) else 0, if 0 ≤ n ∧ n ≤ 60 then 0 else 1) := by
  unfold diaphoneref01_Pieces.f
  have hl : t.length ≤ 1000 := by have := ok.2.1; omega
  refine Tl.bind (ev_rValidate hl) (Tl.pos (vc_ok.2 ok) (Tl.bind' (rwithin_eq _ _ _) ?_))
  by_cases c : 0 ≤ n ∧ n ≤ 60
  · rw [if_pos c, if_pos c]
    refine Tl.pos (decide_eq_true c) ?_
    have := rpieces_out ok (n := n.toNat) (by omega) t.length 0 (by omega) (by omega)
    rw [show ((n.toNat : Nat) : Int) = n by omega] at this
    exact this
  · rw [if_neg c, if_neg c]
    exact Tl.neg (by simpa using c) Tl.now
theorem ev_rPieces_no {t : List Int} (hl : t.length ≤ 1000) (h : ¬ vc t = 0) (n : Int) : Tl (fun k => diaphoneref01_Pieces.f k t n) (0, vc t) := by
  unfold diaphoneref01_Pieces.f
  exact Tl.bind (ev_rValidate hl) (Tl.neg h Tl.now)
/-- A least number with a property. -/
theorem least {P : Nat → Prop} (h : ∃ n, P n) : ∃ n, P n ∧ ∀ m, m < n → ¬ P m := by
  obtain ⟨n, hn⟩ := h
  induction n using Nat.strongRecOn with
  | _ n ih =>
    by_cases c : ∃ m, m < n ∧ P m
    · obtain ⟨m, hm, h⟩ := c; exact ih m hm h
    · exact ⟨n, hn, fun m hm h => c ⟨m, hm, h⟩⟩
theorem agree_loop {s t : List Int} (os : Ok s) (ot : Ok t) {N e : Nat} (hN : N ≤ 1000) (he : e ≤ N) (h1 : ∀ j : Nat, j < e → sec s (j : Int) = sec t (j : Int)) (h2 : e < N → sec s (e : Int) ≠ sec t (e : Int)) (d : Nat) :
    ∀ x : Nat, x ≤ e → e - x = d → Tl (fun k => tone_Agree.l0 k s t (N : Int) (x : Int)) (if e < N then ((e : Int), true, 0) else (0, false, 0)) := by
  have ls : s.length ≤ 1000 := by have := os.2.1; omega
  have lt_ : t.length ≤ 1000 := by have := ot.2.1; omega
  induction d with
  | zero =>
    intro x k1 k2
    obtain rfl : x = e := by omega
    refine Tl.succ ?_
    simp only [tone_Agree.l0]
    by_cases c : x < N
    · rw [if_pos c]
      exact Tl.pos (by omega) (Tl.bind' (at_eq os.1 ls _) (Tl.bind' (at_eq ot.1 lt_ _) (Tl.neg (h2 c) Tl.now)))
    · rw [if_neg c]; exact Tl.neg (by omega) Tl.now
  | succ d ih =>
    intro x k1 k2
    have := ih (x + 1) (by omega) (by omega)
    rw [show ((x + 1 : Nat) : Int) = (x : Int) + 1 by omega, ← w64 (x := (x : Int) + 1) (by omega) (by omega)] at this
    refine Tl.succ ?_
    simp only [tone_Agree.l0]
    exact Tl.pos (by omega) (Tl.bind' (at_eq os.1 ls _) (Tl.bind' (at_eq ot.1 lt_ _) (Tl.pos (h1 x (by omega)) this)))
theorem ragree_loop {s t : List Int} (os : Ok s) (ot : Ok t) {N e : Nat} (eN : N = s.length * t.length) (he : e ≤ N) (h1 : ∀ j : Nat, j < e → sec s (j : Int) = sec t (j : Int)) (h2 : e < N → sec s (e : Int) ≠ sec t (e : Int)) (d : Nat) :
    ∀ x : Nat, x ≤ e → e - x = d → Tl (fun k => diaphoneref01_Agree.l0 k s t (x : Int)) (if e < N then ((e : Int), true, 0) else (0, false, 0)) := by
  have ls : s.length ≤ 1000 := by have := os.2.1; omega
  have lt_ : t.length ≤ 1000 := by have := ot.2.1; omega
  have hN : N ≤ 576 := by rw [eN]; exact Nat.mul_le_mul os.2.1 ot.2.1
  have eW : wrap64 ((s.length : Int) * (t.length : Int)) = (N : Int) := by rw [← Int.natCast_mul, ← eN]; exact w64 (by omega) (by omega)
  induction d with
  | zero =>
    intro x k1 k2
    obtain rfl : x = e := by omega
    refine Tl.succ ?_
    simp only [diaphoneref01_Agree.l0]
    rw [eW]
    by_cases c : x < N
    · rw [if_pos c]
      exact Tl.pos (by omega) (Tl.bind' (rat_eq os.1 ls _) (Tl.bind' (rat_eq ot.1 lt_ _) (Tl.neg (h2 c) Tl.now)))
    · rw [if_neg c]; exact Tl.neg (by omega) Tl.now
  | succ d ih =>
    intro x k1 k2
    have := ih (x + 1) (by omega) (by omega)
    rw [show ((x + 1 : Nat) : Int) = (x : Int) + 1 by omega, ← w64 (x := (x : Int) + 1) (by omega) (by omega)] at this
    refine Tl.succ ?_
    simp only [diaphoneref01_Agree.l0]
    rw [eW]
    exact Tl.pos (by omega) (Tl.bind' (rat_eq os.1 ls _) (Tl.bind' (rat_eq ot.1 lt_ _) (Tl.pos (h1 x (by omega)) this)))
theorem ev_both {s t : List Int} (os : Ok s) (ot : Ok t) : Tl (fun k => tone_both.f k s t) 0 := by
  unfold tone_both.f
  exact Tl.to (Tl.bind (ev_Validate (by have := os.2.1; omega)) (Tl.pos (vc_ok.2 os) (Tl.bind (ev_Validate (by have := ot.2.1; omega)) Tl.now))) (vc_ok.2 ot)
theorem ev_two {s t : List Int} (os : Ok s) (ot : Ok t) : Tl (fun k => diaphoneref01_two.f k s t) 0 := by
  unfold diaphoneref01_two.f
  exact Tl.to (Tl.bind (ev_rValidate (by have := os.2.1; omega)) (Tl.pos (vc_ok.2 os) (Tl.bind (ev_rValidate (by have := ot.2.1; omega)) Tl.now))) (vc_ok.2 ot)
/-- How long two tones agree. -/
theorem ev_Agree {s t : List Int} (os : Ok s) (ot : Ok t) {p q : Nat} (hp : IsPer s p) (hq : IsPer t q) :
    ∃ (a : Int) (b : Bool), (b = true → a < (p : Int) + q - Nat.gcd p q) ∧ Tl (fun k => tone_Agree.f k s t) (a, b, 0) ∧ Tl (fun k => diaphoneref01_Agree.f k s t) (a, b, 0) := by
  have l1 := os.2.1
  have l2 := ot.2.1
  have p1 := hp.1
  have p2 := hp.2.1
  have q1 := hq.1
  have q2 := hq.2.1
  have hg : Nat.gcd p q ≤ p := Nat.gcd_le_left _ hp.1
  have eW : wrap64 ((s.length : Int) + (t.length : Int)) = ((s.length + t.length : Nat) : Int) := by rw [w64 (by omega) (by omega)]; omega
  by_cases c : ∃ j : Nat, sec s (j : Int) ≠ sec t (j : Int)
  · obtain ⟨d, d1, d2⟩ := least c
    have d3 : ∀ m : Nat, m < d → sec s (m : Int) = sec t (m : Int) := fun m hm => Classical.byContradiction (d2 m hm)
    have d4 : d < p + q - Nat.gcd p q := Classical.byContradiction (fun z => d1 (by
      have := agree_all hp hq (a := 0) (b := 0) (fun j hj => by rw [Int.zero_add]; exact d3 j (by omega)) (d : Int)
      rwa [Int.zero_add] at this))
    have d5 : d < s.length * t.length := Classical.byContradiction (fun z => d1 (by
      have := sh_nat os.1 ot.1 (b := 0) (fun i hi => by rw [Int.add_zero]; exact d3 i (by omega)) (d : Int)
      rwa [Int.add_zero] at this))
    have r1 := agree_loop os ot (N := s.length + t.length) (e := d) (by omega) (by omega) d3 (fun _ => d1) d 0 (by omega) (by omega)
    have r2 := ragree_loop os ot (N := s.length * t.length) (e := d) rfl (by omega) d3 (fun _ => d1) d 0 (by omega) (by omega)
    rw [if_pos (by omega)] at r1
    rw [if_pos d5] at r2
    refine ⟨d, true, fun _ => by omega, ?_, ?_⟩
    · unfold tone_Agree.f
      rw [eW]
      exact Tl.bind (ev_both os ot) (Tl.pos rfl r1)
    · unfold diaphoneref01_Agree.f
      exact Tl.bind (ev_two os ot) (Tl.pos rfl r2)
  · have d3 : ∀ m : Nat, sec s (m : Int) = sec t (m : Int) := fun m => Classical.byContradiction (fun z => c ⟨m, z⟩)
    have r1 := agree_loop os ot (N := s.length + t.length) (e := s.length + t.length) (by omega) (by omega) (fun j _ => d3 j) (fun z => absurd z (Nat.lt_irrefl _)) _ 0 (by omega) rfl
    have r2 := ragree_loop os ot (N := s.length * t.length) (e := s.length * t.length) rfl (Nat.le_refl _) (fun j _ => d3 j) (fun z => absurd z (Nat.lt_irrefl _)) _ 0 (by omega) rfl
    rw [if_neg (Nat.lt_irrefl _)] at r1 r2
    refine ⟨0, false, fun z => by simp at z, ?_, ?_⟩
    · unfold tone_Agree.f
      rw [eW]
      exact Tl.bind (ev_both os ot) (Tl.pos rfl r1)
    · unfold diaphoneref01_Agree.f
      exact Tl.bind (ev_two os ot) (Tl.pos rfl r2)
/-- Two tones have a piece of so many seconds both. -/
def Mt (s t : List Int) (n : Nat) : Prop := ∃ i j : Int, pc s i n = pc t j n
theorem mt_down {s t : List Int} {n m : Nat} (h : Mt s t n) (hm : m ≤ n) : Mt s t m := by
  obtain ⟨i, j, e⟩ := h
  exact ⟨i, j, pc_eq.2 (fun k hk => pc_eq.1 e k (by omega))⟩
theorem mt_alike {s t : List Int} (hs : 0 < s.length) (ht : 0 < t.length) {p q : Nat} (hp : IsPer s p) (hq : IsPer t q) {n : Nat} (hn : p + q - Nat.gcd p q ≤ n) (h : Mt s t n) : ∃ b : Nat, b < s.length ∧ Sh s t b := by
  obtain ⟨i, j, e⟩ := h
  have k := agree_all hp hq (a := i) (b := j) (fun m hm => pc_eq.1 e m (by omega))
  have h1 := Int.emod_nonneg (i - j) (b := (s.length : Int)) (by omega)
  have h2 := Int.emod_lt_of_pos (i - j) (b := (s.length : Int)) (by omega)
  refine ⟨((i - j) % (s.length : Int)).toNat, by omega, fun x => ?_⟩
  rw [show ((((i - j) % (s.length : Int)).toNat : Nat) : Int) = (i - j) % (s.length : Int) by omega, Int.add_comm, sec_add]
  have := k (x - j)
  rw [show j + (x - j) = x by omega] at this
  rw [← this]; congr 1; omega
/-- The longest piece that both have. -/
theorem mt_most {s t : List Int} {n : Nat} (h : ¬ Mt s t n) : ∃ M : Nat, M < n ∧ Mt s t M ∧ ¬ Mt s t (M + 1) := by
  obtain ⟨d, d1, d2⟩ := least (P := fun n => ¬ Mt s t n) ⟨n, h⟩
  have h0 : Mt s t 0 := ⟨0, 0, by simp [pc]⟩
  obtain ⟨M, rfl⟩ : ∃ M, d = M + 1 := ⟨d - 1, by
    cases d with
    | zero => exact absurd h0 d1
    | succ d => rfl⟩
  refine ⟨M, ?_, Classical.byContradiction (d2 M (by omega)), d1⟩
  exact Classical.byContradiction (fun z => d2 n (by omega) h)
theorem listen_loop {s t : List Int} (os : Ok s) (ot : Ok t) {M : Nat} (hM : M < 60) (h1 : Mt s t M) (h2 : ¬ Mt s t (M + 1)) (d : Nat) : ∀ n : Nat, n ≤ M + 1 → M + 1 - n = d → Tl (fun k => tone_listen.l0 k s t (n : Int)) (((M : Int) + 1), true) := by
  induction d with
  | zero =>
    intro n k1 k2
    obtain rfl : n = M + 1 := by omega
    refine Tl.succ ?_
    simp only [tone_listen.l0]
    exact Tl.to (Tl.bind' (meet_eq os ot (by omega) (b := false) ⟨fun z => by simp at z, fun z => absurd z h2⟩) (Tl.neg (by simp) Tl.now)) (by rw [show ((M + 1 : Nat) : Int) = (M : Int) + 1 by omega])
  | succ d ih =>
    intro n k1 k2
    have := ih (n + 1) (by omega) (by omega)
    rw [show ((n + 1 : Nat) : Int) = (n : Int) + 1 by omega, ← w64 (x := (n : Int) + 1) (by omega) (by omega)] at this
    refine Tl.succ ?_
    simp only [tone_listen.l0]
    exact Tl.bind' (meet_eq os ot (by omega) (b := true) ⟨fun _ => mt_down h1 (by omega), fun _ => rfl⟩) (Tl.pos rfl this)
theorem rlisten_in {s t : List Int} (os : Ok s) (ot : Ok t) {M : Nat} (hM : M ≤ s.length + t.length) (h2 : ¬ Mt s t (M + 1)) {a0 b0 i : Nat} (hi : i < s.length) (hb0 : b0 < t.length) (hab : pc s (a0 : Int) M = pc t (b0 : Int) M) {R : Int} (d : Nat) :
    ∀ (j : Nat) (b : Int), j ≤ t.length → t.length - j = d → b ≤ M → (b = M ∨ i < a0 ∨ (i = a0 ∧ j ≤ b0)) → (∀ b' : Int, b' ≤ M → (b' = M ∨ i < a0) → Tl (fun k => diaphoneref01_listen.l0 k s t b' (wrap64 ((i : Int) + 1))) R) → Tl (fun k => diaphoneref01_listen.l1 k s t b (i : Int) (j : Int)) R := by
  have l1 := os.2.1
  have l2 := ot.2.1
  induction d with
  | zero =>
    intro j b k1 k2 k3 k4 hR
    refine Tl.succ ?_
    simp only [diaphoneref01_listen.l1]
    exact Tl.neg (by omega) (hR b k3 (by omega))
  | succ d ih =>
    intro j b k1 k2 k3 k4 hR
    refine Tl.succ ?_
    simp only [diaphoneref01_listen.l1]
    obtain ⟨r, r1, r2, r3, r4⟩ := ev_shared os ot (i := (i : Int)) (j := (j : Int)) (by omega) (by omega) (n := s.length + t.length) (by omega)
    rw [show wrap64 ((s.length : Int) + (t.length : Int)) = ((s.length + t.length : Nat) : Int) by rw [w64 (by omega) (by omega)]; omega, show wrap64 ((j : Int) + 1) = ((j + 1 : Nat) : Int) by unfold wrap64; omega]
    have hr : r ≤ M := Classical.byContradiction (fun z => h2 (mt_down (n := r) ⟨i, j, pc_eq.2 r2⟩ (by omega)))
    refine Tl.pos (by omega) (Tl.bind r4 (ih (j + 1) _ (by omega) (by omega) (by rw [mx_eq]; omega) ?_ hR))
    rw [mx_eq]
    by_cases c : i = a0 ∧ j = b0
    · obtain ⟨rfl, rfl⟩ := c
      left
      have : ¬ r < M := fun z => r3 (by omega) (pc_eq.1 hab r z)
      omega
    · omega
theorem rlisten_out {s t : List Int} (os : Ok s) (ot : Ok t) {M : Nat} (hM : M ≤ s.length + t.length) (h2 : ¬ Mt s t (M + 1)) {a0 b0 : Nat} (ha0 : a0 < s.length) (hb0 : b0 < t.length) (hab : pc s (a0 : Int) M = pc t (b0 : Int) M) (d : Nat) :
    ∀ (i : Nat) (b : Int), i ≤ s.length → s.length - i = d → b ≤ M → (b = M ∨ i ≤ a0) → Tl (fun k => diaphoneref01_listen.l0 k s t b (i : Int)) ((M : Int) + 1) := by
  have l1 := os.2.1
  have l2 := ot.2.1
  induction d with
  | zero =>
    intro i b k1 k2 k3 k4
    refine Tl.succ ?_
    simp only [diaphoneref01_listen.l0]
    exact Tl.to (Tl.neg (by omega) Tl.now) (by rw [show b = (M : Int) by omega]; exact w64 (by omega) (by omega))
  | succ d ih =>
    intro i b k1 k2 k3 k4
    refine Tl.succ ?_
    simp only [diaphoneref01_listen.l0]
    refine Tl.pos (by omega) (rlisten_in os ot hM h2 (by omega) hb0 hab t.length 0 b (by omega) (by omega) k3 (by omega) (fun b' h1 h3 => ?_))
    rw [show wrap64 ((i : Int) + 1) = ((i + 1 : Nat) : Int) by unfold wrap64; omega]
    exact ih (i + 1) b' (by omega) (by omega) h1 (by omega)
/-- What listening to two tones comes to. -/
theorem ev_listen {s t : List Int} (os : Ok s) (ot : Ok t) {p q : Nat} (hp : IsPer s p) (hq : IsPer t q) :
    ((∃ b : Nat, b < s.length ∧ Sh s t b) ∧ Tl (fun k => tone_listen.f k s t) (0, false) ∧ Tl (fun k => diaphoneref01_alike.f k s t) true) ∨
    ((¬ ∃ b : Nat, b < s.length ∧ Sh s t b) ∧ Tl (fun k => diaphoneref01_alike.f k s t) false ∧ ∃ M : Nat, M < p + q - Nat.gcd p q ∧ Mt s t M ∧ ¬ Mt s t (M + 1) ∧ Tl (fun k => tone_listen.f k s t) ((M : Int) + 1, true) ∧ Tl (fun k => diaphoneref01_listen.f k s t) ((M : Int) + 1)) := by
  have l1 := os.2.1
  have l2 := ot.2.1
  have p1 := hp.1
  have p2 := hp.2.1
  have q1 := hq.1
  have q2 := hq.2.1
  obtain ⟨x, lx, hx, n1, _⟩ := ev_name os.1 (show s.length ≤ 1000 by omega) hp
  obtain ⟨y, ly, hy, n2, _⟩ := ev_name ot.1 (show t.length ≤ 1000 by omega) hq
  have han := alike_name os.1 ot.1 hp hq hx hy
  by_cases c : ∃ b : Nat, b < s.length ∧ Sh s t b
  · left
    refine ⟨c, ?_, ev_alike os ot ⟨fun _ => c, fun _ => rfl⟩⟩
    unfold tone_listen.f
    exact Tl.bind n1 (Tl.bind n2 (Tl.bind (ev_Equal (by omega)) (Tl.pos (decide_eq_true (han.2 c)) Tl.now)))
  · right
    refine ⟨c, ev_alike os ot ⟨fun z => by simp at z, fun z => absurd z c⟩, ?_⟩
    have hg : Nat.gcd p q ≤ p := Nat.gcd_le_left _ hp.1
    have hg0 : 0 < Nat.gcd p q := Nat.gcd_pos_of_pos_left _ hp.1
    obtain ⟨M, m1, m2, m3⟩ := mt_most (n := p + q - Nat.gcd p q) (fun z => c (mt_alike os.1 ot.1 hp hq (Nat.le_refl _) z))
    refine ⟨M, m1, m2, m3, ?_, ?_⟩
    · unfold tone_listen.f
      exact Tl.bind n1 (Tl.bind n2 (Tl.bind (ev_Equal (by omega)) (Tl.neg (fun z => c (han.1 (of_decide_eq_true z))) (listen_loop os ot (by omega) m2 m3 (M + 1) 0 (by omega) (by omega)))))
    · obtain ⟨i, j, e⟩ := m2
      have a1 := Int.emod_nonneg i (b := (s.length : Int)) (by omega)
      have a2 := Int.emod_lt_of_pos i (b := (s.length : Int)) (by omega)
      have b1 := Int.emod_nonneg j (b := (t.length : Int)) (by omega)
      have b2 := Int.emod_lt_of_pos j (b := (t.length : Int)) (by omega)
      exact rlisten_out os ot (by omega) m3 (a0 := (i % (s.length : Int)).toNat) (b0 := (j % (t.length : Int)).toNat) (by omega) (by omega) (by
        rw [show (((i % (s.length : Int)).toNat : Nat) : Int) = i % (s.length : Int) by omega, show (((j % (t.length : Int)).toNat : Nat) : Int) = j % (t.length : Int) by omega, pc_emod, pc_emod]; exact e) s.length 0 0 (by omega) (by omega) (by omega) (.inr (by omega))
end Go.Proofs.Ytmpmfjnmfgnhcaa.Fy
/- What the laws on pieces need besides: the greatest common divisor, a tone that is repeated. -/
set_option linter.unusedVariables false
namespace Go.Proofs.Ytmpmfjnmfgnhcaa.Fz
open Go.RowKit Go.Proofs.Ytmpmfjnmfgnhcaa.P Go.Proofs.Ytmpmfjnmfgnhcaa.E Go.Proofs.Ytmpmfjnmfgnhcaa.Va Go.Proofs.Ytmpmfjnmfgnhcaa.Pe Go.Proofs.Ytmpmfjnmfgnhcaa.Nm Go.Proofs.Ytmpmfjnmfgnhcaa.Tn Go.Proofs.Ytmpmfjnmfgnhcaa.Sm Go.Proofs.Ytmpmfjnmfgnhcaa.Sw Go.Proofs.Ytmpmfjnmfgnhcaa.Fw Go.Proofs.Ytmpmfjnmfgnhcaa.Fx Go.Proofs.Ytmpmfjnmfgnhcaa.Fy Go.Proofs.YtmpmfjnmfgnhcaaW.PrintMore
open Go.Proofs.YtmpmfjnmfgnhcaaW.PrintWords
theorem gcd_loop (b : Nat) : ∀ a : Nat, Tl (fun k => diaphoneref01_Gcd.l0 k (a : Int) (b : Int)) ((Nat.gcd a b : Nat) : Int) := by
  induction b using Nat.strongRecOn with
  | _ b ih =>
    intro a
    refine Tl.succ ?_
    simp only [diaphoneref01_Gcd.l0]
    by_cases c : b = 0
    · subst c
      exact Tl.to (Tl.pos rfl Tl.now) (by rw [Nat.gcd_zero_right])
    · have hlt : a % b < b := Nat.mod_lt _ (by omega)
      have := ih (a % b) hlt b
      rw [Nat.gcd_comm b, ← Nat.gcd_rec, Nat.gcd_comm b] at this
      refine Tl.neg (by omega) ?_
      rw [show Int.tmod (a : Int) (b : Int) = ((a % b : Nat) : Int) from (Int.ofNat_tmod a b).symm]
      exact this
theorem ev_Gcd (a b : Nat) : Tl (fun k => diaphoneref01_Gcd.f k (a : Int) (b : Int)) ((Nat.gcd a b : Nat) : Int) := gcd_loop b a
theorem pc_add (t : List Int) (f : Int) (n : Nat) : ∀ m : Nat, pc t f (n + m) = pc t f n ++ pc t (f + n) m
  | 0 => by simp [pc]
  | m + 1 => by rw [← Nat.add_assoc, pc_succ, pc_add t f n m, pc_succ, List.append_assoc, show f + ((n + m : Nat) : Int) = f + (n : Int) + (m : Int) by omega]
theorem rep_pc (t : List Int) : ∀ k : Nat, (List.replicate k t).flatten = pc t 0 (k * t.length)
  | 0 => by simp [pc]
  | k + 1 => by
    rw [List.replicate_succ', List.flatten_append, rep_pc t k, Nat.add_mul, Nat.one_mul, pc_add]
    congr 1
    rw [show pc t (0 + ((k * t.length : Nat) : Int)) t.length = pc t 0 t.length from pc_congr (fun j _ => by
      rw [show (0 : Int) + ((k * t.length : Nat) : Int) + (j : Int) = (0 + (j : Int)) + (t.length : Int) * (k : Int) by rw [Int.natCast_mul, Int.mul_comm]; omega, sec_mul])]
    rw [pc_take (Nat.le_refl _)]; simp
theorem sec_pc {t : List Int} {k : Nat} (hk : 0 < k * t.length) (i : Int) : sec (pc t 0 (k * t.length)) i = sec t i := by
  have hL : ((pc t 0 (k * t.length)).length : Int) = ((k * t.length : Nat) : Int) := by rw [pc_length]
  have h1 := Int.emod_nonneg i (b := ((k * t.length : Nat) : Int)) (by omega)
  have h2 := Int.emod_lt_of_pos i (b := ((k * t.length : Nat) : Int)) (by omega)
  have e0 := Int.emod_add_mul_ediv i ((k * t.length : Nat) : Int)
  have e1 : sec (pc t 0 (k * t.length)) i = sec t (i % ((k * t.length : Nat) : Int)) := by
    show rd (pc t 0 (k * t.length)) (i % ((pc t 0 (k * t.length)).length : Int)) = _
    rw [hL]
    generalize i % ((k * t.length : Nat) : Int) = j at h1 h2
    obtain ⟨j, rfl⟩ := Int.eq_ofNat_of_zero_le h1
    rw [rd_lt (by rw [pc_length]; omega)]
    simp [pc]
  rw [e1]
  conv => rhs; rw [← e0]
  rw [show ((k * t.length : Nat) : Int) * (i / ((k * t.length : Nat) : Int)) = (t.length : Int) * ((k : Int) * (i / ((k * t.length : Nat) : Int))) by rw [← Int.mul_assoc, Int.natCast_mul, Int.mul_comm (k : Int)], sec_mul]
theorem ok_pc {t : List Int} (ok : Ok t) {n : Nat} (h1 : 1 ≤ n) (h2 : n ≤ 24) : Ok (pc t 0 n) := by
  refine ⟨by rw [pc_length]; exact h1, by rw [pc_length]; exact h2, fun i hi => ?_⟩
  rw [rd_lt hi]
  have e : (pc t 0 n)[i] = sec t (0 + (i : Int)) := by simp [pc]
  rw [e]
  have h3 := Int.emod_nonneg (0 + (i : Int)) (b := (t.length : Int)) (by have := ok.1; omega)
  have h4 := Int.emod_lt_of_pos (0 + (i : Int)) (b := (t.length : Int)) (by have := ok.1; omega)
  have := ok.2.2 ((0 + (i : Int)) % (t.length : Int)).toNat (by omega)
  rw [show ((((0 + (i : Int)) % (t.length : Int)).toNat : Nat) : Int) = (0 + (i : Int)) % (t.length : Int) by omega] at this
  exact this
theorem some_period (t : List Int) (hl : t.length ≤ 1000) : ∃ r, Tl (fun k => tone_Period.f k t) r := by
  by_cases hk : vc t = 0
  · have ok := vc_ok.1 hk
    obtain ⟨p, hp, _⟩ := ev_period ok.1 hl
    exact ⟨_, ev_Period ok hp⟩
  · exact ⟨_, ev_Period_no hl hk⟩
end Go.Proofs.Ytmpmfjnmfgnhcaa.Fz
/- Lists of tones: which are right, which have a piece, how long one must listen to tell them apart. -/
set_option linter.unusedVariables false
namespace Go.Proofs.Ytmpmfjnmfgnhcaa.Fl
open Go.RowKit Go.Proofs.Ytmpmfjnmfgnhcaa.P Go.Proofs.Ytmpmfjnmfgnhcaa.E Go.Proofs.Ytmpmfjnmfgnhcaa.Va Go.Proofs.Ytmpmfjnmfgnhcaa.Pe Go.Proofs.Ytmpmfjnmfgnhcaa.Nm Go.Proofs.Ytmpmfjnmfgnhcaa.Tn Go.Proofs.Ytmpmfjnmfgnhcaa.Sm Go.Proofs.Ytmpmfjnmfgnhcaa.Sw Go.Proofs.Ytmpmfjnmfgnhcaa.Fw Go.Proofs.Ytmpmfjnmfgnhcaa.Fx Go.Proofs.Ytmpmfjnmfgnhcaa.Fy Go.Proofs.Ytmpmfjnmfgnhcaa.Fz Go.Proofs.YtmpmfjnmfgnhcaaW.PrintMore
open Go.Proofs.YtmpmfjnmfgnhcaaW.PrintWords
abbrev el (l : List (List Int)) (i : Nat) : List Int := rd_L1 l (i : Int)
def Sml (l : List (List Int)) : Prop := l.length ≤ 50 ∧ ∀ i : Nat, i < l.length → (el l i).length ≤ 200
theorem many_loop {l : List (List Int)} (hl : l.length ≤ 50) (d : Nat) : ∀ i : Nat, i ≤ l.length → l.length - i = d → (∀ j : Nat, j < i → (el l j).length ≤ 200) → ∃ b : Bool, (b = false → Sml l) ∧ Tl (fun k => diaphonelaw01_Many.l0 k l (i : Int)) b := by
  induction d with
  | zero =>
    intro i h1 h2 h3
    refine ⟨false, fun _ => ⟨hl, fun j hj => h3 j (by omega)⟩, Tl.succ ?_⟩
    simp only [diaphonelaw01_Many.l0]
    exact Tl.neg (by omega) Tl.now
  | succ d ih =>
    intro i h1 h2 h3
    by_cases c : ((el l i).length : Int) > 200
    · refine ⟨true, fun z => by simp at z, Tl.succ ?_⟩
      simp only [diaphonelaw01_Many.l0, diaphonelaw01_Long.f]
      exact Tl.pos (by omega) (Tl.pos (by omega) (Tl.bind' (congrArg some (decide_eq_true c)) (Tl.pos rfl Tl.now)))
    · obtain ⟨b, hb, ht⟩ := ih (i + 1) (by omega) (by omega) (fun j hj => by
        by_cases e : j = i
        · subst e; omega
        · exact h3 j (by omega))
      refine ⟨b, hb, Tl.succ ?_⟩
      simp only [diaphonelaw01_Many.l0, diaphonelaw01_Long.f]
      rw [show wrap64 ((i : Int) + 1) = ((i + 1 : Nat) : Int) by unfold wrap64; omega]
      exact Tl.pos (by omega) (Tl.pos (by omega) (Tl.bind' (congrArg some (decide_eq_false c)) (Tl.neg (by simp) ht)))
theorem ev_Many (l : List (List Int)) : ∃ b : Bool, (b = false → Sml l) ∧ Tl (fun k => diaphonelaw01_Many.f k l) b := by
  unfold diaphonelaw01_Many.f
  by_cases c : (l.length : Int) > 50
  · exact ⟨true, fun z => by simp at z, Tl.pos c Tl.now⟩
  · obtain ⟨b, hb, ht⟩ := many_loop (l := l) (by omega) l.length 0 (by omega) (by omega) (fun j hj => by omega)
    exact ⟨b, hb, Tl.neg c ht⟩
theorem tones_loop {l : List (List Int)} (hs : Sml l) (d : Nat) : ∀ i : Nat, i ≤ l.length → l.length - i = d → (∀ j : Nat, j < i → Ok (el l j)) → ∃ e : Int, (e = 0 → ∀ j : Nat, j < l.length → Ok (el l j)) ∧ Tl (fun k => tone_tones.l0 k l (l.length : Int) (i : Int)) e ∧ Tl (fun k => diaphoneref01_listed.l0 k l (i : Int)) e := by
  have hl := hs.1
  induction d with
  | zero =>
    intro i h1 h2 h3
    refine ⟨0, fun _ j hj => h3 j (by omega), Tl.succ ?_, Tl.succ ?_⟩
    · simp only [tone_tones.l0]; exact Tl.neg (by omega) Tl.now
    · simp only [diaphoneref01_listed.l0]; exact Tl.neg (by omega) Tl.now
  | succ d ih =>
    intro i h1 h2 h3
    have hlen := hs.2 i (by omega)
    have v1 := ev_Validate (t := el l i) (by omega)
    have v2 := ev_rValidate (t := el l i) (by omega)
    by_cases c : vc (el l i) = 0
    · obtain ⟨e, he, t1, t2⟩ := ih (i + 1) (by omega) (by omega) (fun j hj => by
        by_cases e : j = i
        · subst e; exact vc_ok.1 c
        · exact h3 j (by omega))
      have ew : wrap64 ((i : Int) + 1) = ((i + 1 : Nat) : Int) := by unfold wrap64; omega
      refine ⟨e, he, Tl.succ ?_, Tl.succ ?_⟩
      · simp only [tone_tones.l0]; rw [ew]; exact Tl.pos (by omega) (Tl.pos (by omega) (Tl.pos (by omega) (Tl.bind v1 (Tl.pos c t1))))
      · simp only [diaphoneref01_listed.l0]; rw [ew]; exact Tl.pos (by omega) (Tl.pos (by omega) (Tl.bind v2 (Tl.pos c t2)))
    · refine ⟨vc (el l i), fun z => absurd z c, Tl.succ ?_, Tl.succ ?_⟩
      · simp only [tone_tones.l0]; exact Tl.pos (by omega) (Tl.pos (by omega) (Tl.pos (by omega) (Tl.bind v1 (Tl.neg c Tl.now))))
      · simp only [diaphoneref01_listed.l0]; exact Tl.pos (by omega) (Tl.pos (by omega) (Tl.bind v2 (Tl.neg c Tl.now)))
/-- A list of tones is right. -/
def Oks (l : List (List Int)) : Prop := l.length ≤ 6 ∧ ∀ j : Nat, j < l.length → Ok (el l j)
theorem ev_tones {l : List (List Int)} (hs : Sml l) : ∃ e : Int, (e = 0 → Oks l) ∧ Tl (fun k => tone_tones.f k l) e ∧ Tl (fun k => diaphoneref01_listed.f k l) e := by
  unfold tone_tones.f diaphoneref01_listed.f
  by_cases c : (l.length : Int) > 6
  · exact ⟨3, fun z => by omega, Tl.pos c Tl.now, Tl.pos c Tl.now⟩
  · obtain ⟨e, he, t1, t2⟩ := tones_loop hs l.length 0 (by omega) (by omega) (fun j hj => by omega)
    exact ⟨e, fun z => ⟨by omega, he z⟩, Tl.neg c t1, Tl.neg c t2⟩
theorem ev_isSeconds {t : List Int} (hl : t.length ≤ 1000) : Tl (fun k => tone_isSeconds.f k t) (Va.bits t) := by
  obtain ⟨j, hj, hr⟩ := pbits_loop t hl t.length 0 (by omega) (by omega)
  unfold tone_isSeconds.f slices_ContainsFunc_int_int_tone_isSeconds_1.f
  refine Tl.to (Tl.bind (Tl.bind hr Tl.now) Tl.now) ?_
  rw [List.drop_zero] at hj
  cases hb : Va.bits t with
  | true => rw [hb] at hj; have := hj.2 rfl; simp; omega
  | false => rw [hb] at hj; have : ¬ j < 0 := fun q => by simpa using hj.1 q
             simp; omega
theorem ev_rbits {t : List Int} (hl : t.length ≤ 1000) : Tl (fun k => diaphoneref01_bits.f k t) (Va.bits t) := rbits_loop t hl t.length 0 (by omega) (by omega)
/-- The numbers of the first tones that have a piece. -/
def tl (l : List (List Int)) (x : List Int) (m : Nat) : List Int := ((List.range m).filter (fun i => decide (x ∈ ps (el l i) x.length))).map (fun (i : Nat) => (i : Int))
theorem tl_succ (l : List (List Int)) (x : List Int) (m : Nat) : tl l x (m + 1) = tl l x m ++ (if x ∈ ps (el l m) x.length then [(m : Int)] else []) := by
  unfold tl
  rw [List.range_succ, List.filter_append, List.map_append]
  congr 1
  by_cases c : x ∈ ps (el l m) x.length <;> simp [c]
theorem tl_len (l : List (List Int)) (x : List Int) (m : Nat) : (tl l x m).length ≤ m := by
  unfold tl
  rw [List.length_map]
  have := List.length_filter_le (fun i => decide (x ∈ ps (el l i) x.length)) (List.range m)
  rwa [List.length_range] at this
theorem tell_loop {l : List (List Int)} (ok : Oks l) {x : List Int} (hx : x.length ≤ 60) (d : Nat) : ∀ i : Nat, i ≤ l.length → l.length - i = d → Tl (fun k => tone_Tell.l0 k l x (tl l x i) (i : Int)) (tl l x l.length, 0) := by
  have hl := ok.1
  induction d with
  | zero =>
    intro i h1 h2
    obtain rfl : i = l.length := by omega
    refine Tl.succ ?_
    simp only [tone_Tell.l0]
    exact Tl.neg (by omega) Tl.now
  | succ d ih =>
    intro i h1 h2
    have next := ih (i + 1) (by omega) (by omega)
    have o := ok.2 i (by omega)
    have hlen := tl_len l x i
    refine Tl.succ ?_
    simp only [tone_Tell.l0]
    rw [show wrap64 ((i : Int) + 1) = ((i + 1 : Nat) : Int) by unfold wrap64; omega]
    refine Tl.pos (by omega) (Tl.pos (by omega) (Tl.bind' (pieces_eq o hx) ?_))
    rw [tl_succ] at next
    by_cases c : x ∈ ps (el l i) x.length
    · rw [if_pos c] at next
      exact Tl.pos c (Tl.pos (by omega) next)
    · rw [if_neg c, List.append_nil] at next
      exact Tl.neg c next
theorem rtell_in {l : List (List Int)} {x : List Int} (hx : x.length ≤ 60) {i : Nat} (hi : i < l.length) (o : Ok (el l i)) {c : List Int} {R : List Int × Int} {N : Nat} (hN : (el l i).length = N) (d : Nat) : ∀ (j : Nat) (b : Bool), j ≤ N → N - j = d → (b = true ↔ ∃ q : Nat, q < j ∧ pc (el l i) (q : Int) x.length = x) →
    (∀ b : Bool, (b = true ↔ x ∈ ps (el l i) x.length) → Tl (fun k => if b = true then (if c.length < 17592186044416 then (diaphoneref01_Tell.l0 k l x (c ++ [(i : Int)]) (wrap64 ((i : Int) + 1))) else (none)) else (diaphoneref01_Tell.l0 k l x c (wrap64 ((i : Int) + 1)))) R) → Tl (fun k => diaphoneref01_Tell.l1 k l x c (i : Int) b (j : Int)) R := by
  have h24 : N ≤ 24 := by rw [← hN]; exact o.2.1
  induction d with
  | zero =>
    intro j b h1 h2 hb hR
    refine Tl.succ ?_
    simp only [diaphoneref01_Tell.l1]
    refine Tl.pos (by omega) (Tl.pos (by omega) (Tl.neg (by show ¬ (j : Int) < ((el l i).length : Int); rw [hN]; omega) (hR b ?_)))
    rw [hb]
    unfold ps
    rw [List.mem_map, hN]
    constructor
    · rintro ⟨q, hq, e⟩; exact ⟨q, List.mem_range.2 (by omega), e⟩
    · rintro ⟨q, hq, e⟩; exact ⟨q, by have := List.mem_range.1 hq; omega, e⟩
  | succ d ih =>
    intro j b h1 h2 hb hR
    have a1 : j + 1 ≤ N := by clear hb hR ih; omega
    have a2 : N - (j + 1) = d := by clear hb hR ih; omega
    refine Tl.succ ?_
    simp only [diaphoneref01_Tell.l1]
    rw [show wrap64 ((j : Int) + 1) = ((j + 1 : Nat) : Int) by unfold wrap64; omega]
    refine Tl.pos (by omega) (Tl.pos (by omega) (Tl.pos (by show (j : Int) < ((el l i).length : Int); rw [hN]; omega) ?_))
    cases b with
    | true =>
      refine Tl.pos rfl (ih (j + 1) true a1 a2 ⟨fun _ => ?_, fun _ => rfl⟩ hR)
      obtain ⟨q, hq, e⟩ := hb.1 rfl
      exact ⟨q, by omega, e⟩
    | false =>
      refine Tl.neg (by simp) (Tl.bind (ev_piece o.1 (by rw [hN]; omega) (f := (j : Int)) (by omega) (n := x.length) (by omega)) (Tl.bind (ev_SameInts' (by rw [pc_length]; omega)) (ih (j + 1) _ a1 a2 ?_ hR)))
      rw [decide_eq_true_eq]
      constructor
      · intro e; exact ⟨j, by omega, e⟩
      · rintro ⟨q, hq, e⟩
        by_cases z : q = j
        · subst z; exact e
        · exact absurd (hb.2 ⟨q, by omega, e⟩) (by simp)
theorem rtell_loop {l : List (List Int)} (ok : Oks l) {x : List Int} (hx : x.length ≤ 60) (d : Nat) : ∀ i : Nat, i ≤ l.length → l.length - i = d → Tl (fun k => diaphoneref01_Tell.l0 k l x (tl l x i) (i : Int)) (tl l x l.length, 0) := by
  have hl := ok.1
  induction d with
  | zero =>
    intro i h1 h2
    obtain rfl : i = l.length := by omega
    refine Tl.succ ?_
    simp only [diaphoneref01_Tell.l0]
    exact Tl.neg (by omega) Tl.now
  | succ d ih =>
    intro i h1 h2
    have next := ih (i + 1) (by omega) (by omega)
    have o := ok.2 i (by omega)
    have hlen := tl_len l x i
    refine Tl.succ ?_
    simp only [diaphoneref01_Tell.l0]
    refine Tl.pos (by omega) (rtell_in hx (by omega) o rfl _ 0 false (by omega) rfl ⟨fun z => by simp at z, fun ⟨q, hq, _⟩ => by omega⟩ (fun b hb => ?_))
    rw [show wrap64 ((i : Int) + 1) = ((i + 1 : Nat) : Int) by unfold wrap64; omega]
    rw [tl_succ] at next
    by_cases c : x ∈ ps (el l i) x.length
    · rw [if_pos c] at next
      exact Tl.pos (hb.2 c) (Tl.pos (by omega) next)
    · rw [if_neg c, List.append_nil] at next
      exact Tl.neg (fun z => c (hb.1 z)) next
/-- Which tones of a list have a piece. -/
theorem ev_Tell {l : List (List Int)} (hs : Sml l) {x : List Int} (hx : x.length ≤ 1000) : ∃ r : List Int × Int, r.1.length ≤ 1000 ∧ (Oks l → x.length ≤ 60 → Va.bits x = true → r = (tl l x l.length, 0)) ∧ Tl (fun k => tone_Tell.f k l x) r ∧ Tl (fun k => diaphoneref01_Tell.f k l x) r := by
  obtain ⟨e, he, t1, t2⟩ := ev_tones hs
  unfold tone_Tell.f diaphoneref01_Tell.f
  by_cases c : e = 0
  · have ok := he c
    by_cases c2 : (x.length : Int) > 60
    · exact ⟨([], 3), by simp, fun _ h => by omega, Tl.bind t1 (Tl.pos c (Tl.pos c2 Tl.now)), Tl.bind t2 (Tl.pos c (Tl.pos c2 Tl.now))⟩
    · by_cases c3 : Va.bits x = true
      · have hb : x.all (fun x => x == 0 || x == 1) = true := by
          unfold Va.bits at c3
          refine List.all_eq_true.2 (fun y hy => ?_)
          have := List.all_eq_true.1 c3 y hy
          simpa using this
        have r1 := tell_loop ok (x := x) (by omega) l.length 0 (by omega) (by omega)
        have r2 := rtell_loop ok (x := x) (by omega) l.length 0 (by omega) (by omega)
        refine ⟨(tl l x l.length, 0), by have := tl_len l x l.length; have := ok.1; simp only; omega, fun _ _ _ => rfl, Tl.bind t1 (Tl.pos c (Tl.neg c2 (Tl.bind (ev_isSeconds hx) (Tl.pos c3 (Tl.pos hb r1))))), Tl.bind t2 (Tl.pos c (Tl.neg c2 (Tl.bind (ev_rbits hx) (Tl.pos c3 r2))))⟩
      · exact ⟨([], 1), by simp, fun _ _ h => absurd h c3, Tl.bind t1 (Tl.pos c (Tl.neg c2 (Tl.bind (ev_isSeconds hx) (Tl.neg c3 Tl.now)))), Tl.bind t2 (Tl.pos c (Tl.neg c2 (Tl.bind (ev_rbits hx) (Tl.neg c3 Tl.now))))⟩
  · refine ⟨([], e), by simp, fun ok => ?_, Tl.bind t1 (Tl.neg c Tl.now), Tl.bind t2 (Tl.neg c Tl.now)⟩
    exfalso
    apply c
    have o1 := ok.1
    have key : ∀ d i : Nat, i ≤ l.length → l.length - i = d → Tl (fun k => tone_tones.l0 k l (l.length : Int) (i : Int)) 0 := by
      intro d
      induction d with
      | zero => intro i h1 h2; refine Tl.succ ?_; simp only [tone_tones.l0]; exact Tl.neg (by omega) Tl.now
      | succ d ih =>
        intro i h1 h2
        refine Tl.succ ?_
        simp only [tone_tones.l0]
        rw [show wrap64 ((i : Int) + 1) = ((i + 1 : Nat) : Int) by unfold wrap64; omega]
        exact Tl.pos (by omega) (Tl.pos (by omega) (Tl.pos (by omega) (Tl.bind (ev_Validate (t := el l i) (by have := hs.2 i (by omega); omega)) (Tl.pos (vc_ok.2 (ok.2 i (by omega))) (ih (i + 1) (by omega) (by omega))))))
    have t0 : Tl (fun k => tone_tones.f k l) 0 := by
      unfold tone_tones.f
      exact Tl.neg (by omega) (key l.length 0 (by omega) (by omega))
    obtain ⟨K, hK⟩ := t1
    obtain ⟨L, hL⟩ := t0
    have := (hK (max K L) (by omega)).symm.trans (hL (max K L) (by omega))
    exact Option.some.inj this
theorem tl_one {l : List (List Int)} {x : List Int} {w : Nat} (hw : ∀ i : Nat, i < l.length → (x ∈ ps (el l i) x.length ↔ i = w)) : ∀ m : Nat, m ≤ l.length → tl l x m = if w < m then [(w : Int)] else []
  | 0, _ => by simp [tl]
  | m + 1, hm => by
    rw [tl_succ, tl_one hw m (by omega)]
    by_cases c : m = w
    · subst c
      rw [if_pos ((hw m (by omega)).2 rfl), if_neg (by omega), if_pos (by omega)]; rfl
    · rw [if_neg (fun z => c ((hw m (by omega)).1 z)), List.append_nil]
      by_cases d : w < m
      · rw [if_pos d, if_pos (by omega)]
      · rw [if_neg d, if_neg (by omega)]
end Go.Proofs.Ytmpmfjnmfgnhcaa.Fl
