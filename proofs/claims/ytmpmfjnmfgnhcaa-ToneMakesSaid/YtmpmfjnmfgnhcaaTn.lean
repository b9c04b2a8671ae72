/- A tone that begins with another second has the same period and the same name. -/
import Derived.Test.YtmpmfjnmfgnhcaaNm
set_option linter.unusedVariables false
namespace Go.Proofs.Ytmpmfjnmfgnhcaa.Tn
open Go.RowKit Go.Proofs.Ytmpmfjnmfgnhcaa.P Go.Proofs.Ytmpmfjnmfgnhcaa.E Go.Proofs.Ytmpmfjnmfgnhcaa.Va Go.Proofs.Ytmpmfjnmfgnhcaa.Pe Go.Proofs.Ytmpmfjnmfgnhcaa.Nm Go.Proofs.YtmpmfjnmfgnhcaaW.PrintMore
open Go.Proofs.YtmpmfjnmfgnhcaaW.PrintWords
theorem sec_add {t : List Int} (k i : Int) : sec t (i % (t.length : Int) + k) = sec t (i + k) := by
  rw [← sec_emod t (i + k), ← sec_emod t (i % (t.length : Int) + k), Int.emod_add_emod]
theorem sec_rot {t : List Int} (h0 : 0 < t.length) {b : Nat} (hb : b ≤ t.length) (i : Int) : sec (rot t b) i = sec t (i + b) := by
  have hn : (0 : Int) < t.length := by omega
  have hl := rot_length hb
  have k1 := Int.emod_nonneg i (show (t.length : Int) ≠ 0 by omega)
  have k2 := Int.emod_lt_of_pos i hn
  obtain ⟨c, hc⟩ : ∃ c : Nat, i % (t.length : Int) = c := ⟨(i % (t.length : Int)).toNat, by omega⟩
  rw [← sec_emod (rot t b) i, hl, ← sec_add (t := t) (b : Int) i, hc, sec_nat (by omega)]
  have := rot_get hb (show c < t.length by omega)
  rw [List.getElem?_eq_getElem (by omega)] at this
  rw [Option.some.inj this]
  congr 1
theorem per_rot {t : List Int} (h0 : 0 < t.length) {b : Nat} (hb : b ≤ t.length) (q : Nat) : Per (rot t b) q ↔ Per t q := by
  constructor
  · intro h i
    have := h (i - b)
    rw [sec_rot h0 hb, sec_rot h0 hb] at this
    rw [show i - (b : Int) + q + b = i + q by omega, show i - (b : Int) + b = i by omega] at this
    exact this
  · intro h i
    rw [sec_rot h0 hb, sec_rot h0 hb, show i + (q : Int) + b = (i + b) + q by omega]
    exact h _
theorem isper_rot {t : List Int} (h0 : 0 < t.length) {b : Nat} (hb : b ≤ t.length) {p : Nat} (h : IsPer t p) : IsPer (rot t b) p :=
  ⟨h.1, by rw [rot_length hb]; exact h.2.1, (per_rot h0 hb p).2 h.2.2.1, fun q h1 h2 h3 => h.2.2.2 q h1 h2 ((per_rot h0 hb q).1 h3)⟩
theorem ok_rot {t : List Int} (ok : Ok t) {b : Nat} (hb : b ≤ t.length) : Ok (rot t b) := by
  refine ⟨by rw [rot_length hb]; exact ok.1, by rw [rot_length hb]; exact ok.2.1, fun i hi => ?_⟩
  have hm : ∀ x ∈ t, x = 0 ∨ x = 1 := by
    intro x hx
    obtain ⟨j, hj, rfl⟩ := List.getElem_of_mem hx
    have := ok.2.2 j hj
    rwa [rd_lt hj] at this
  rw [rd_lt hi]
  have := List.getElem_mem hi
  unfold rot at this
  rcases List.mem_append.1 this with h | h
  · exact hm _ (List.mem_of_mem_drop h)
  · exact hm _ (List.mem_of_mem_take h)
theorem pc_congr {t s : List Int} {f g : Int} {n : Nat} (h : ∀ j : Nat, j < n → sec t (f + j) = sec s (g + j)) : pc t f n = pc s g n := by
  unfold pc
  refine List.map_congr_left (fun j hj => h j (by simpa using hj))
/-- The names are equal. -/
theorem name_rot {t : List Int} (h0 : 0 < t.length) {b : Nat} (hb : b ≤ t.length) {p : Nat} (hp : IsPer t p) {r s : List Int}
    (hr : (∃ j, j < p ∧ r = pc t ((j : Nat) : Int) p) ∧ ∀ q : Nat, q < p → lt (pc t (q : Int) p) r = false)
    (hs : (∃ j, j < p ∧ s = pc (rot t b) ((j : Nat) : Int) p) ∧ ∀ q : Nat, q < p → lt (pc (rot t b) (q : Int) p) s = false) : r = s := by
  have h1 := hp.1
  obtain ⟨⟨j, hj, rfl⟩, mr⟩ := hr
  obtain ⟨⟨i, hi, rfl⟩, ms⟩ := hs
  have red : ∀ (m : Nat) (x : Int), sec t (((m % p : Nat) : Int) + x) = sec t ((m : Int) + x) := by
    intro m x
    have e : (m : Int) + x = (((m % p : Nat) : Int) + x) + (p : Int) * ((m / p : Nat) : Int) := by
      have := Nat.mod_add_div m p
      have e2 : ((m % p : Nat) : Int) + (p : Int) * ((m / p : Nat) : Int) = (m : Int) := by rw [← Int.natCast_mul, ← Int.natCast_add, this]
      omega
    rw [e, per_mul hp.2.2.1]
  refine lt_total (by rw [pc_length, pc_length]) ?_ ?_
  · have e : pc t (j : Int) p = pc (rot t b) (((j + (p - b % p)) % p : Nat) : Int) p := by
      refine pc_congr (fun x _ => ?_)
      rw [sec_rot h0 hb, Int.add_assoc, red (j + (p - b % p))]
      have hbp := Nat.mod_lt b h1
      have e2 : ((j + (p - b % p) : Nat) : Int) + ((x : Int) + b) = ((j : Int) + x) + (p : Int) * ((b / p + 1 : Nat) : Int) := by
        have := Nat.mod_add_div b p
        have e3 : ((b % p : Nat) : Int) + (p : Int) * ((b / p : Nat) : Int) = (b : Int) := by rw [← Int.natCast_mul, ← Int.natCast_add, this]
        rw [show ((b / p + 1 : Nat) : Int) = ((b / p : Nat) : Int) + 1 by omega, Int.mul_add]
        omega
      rw [e2, per_mul hp.2.2.1]
    rw [e]
    exact ms _ (Nat.mod_lt _ h1)
  · have e : pc (rot t b) (i : Int) p = pc t (((i + b) % p : Nat) : Int) p := by
      refine pc_congr (fun x _ => ?_)
      rw [sec_rot h0 hb, red (i + b)]
      congr 1
      omega
    rw [e]
    exact mr _ (Nat.mod_lt _ h1)
end Go.Proofs.Ytmpmfjnmfgnhcaa.Tn
