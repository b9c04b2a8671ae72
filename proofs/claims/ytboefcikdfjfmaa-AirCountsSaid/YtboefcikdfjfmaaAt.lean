/- The plan that a set of hours leads to, as the document finds it. -/
import Derived.Test.YtboefcikdfjfmaaPb
import Derived.Test.YtboefcikdfjfmaaRw
import Derived.Test.YtboefcikdfjfmaaPx12
import Derived.Laws.BitsLemmas
set_option linter.unusedVariables false
namespace Go.Proofs.Ytboefcikdfjfmaa.At
open Go.RowKit Go.Proofs.Ytboefcikdfjfmaa.P Go.Proofs.Ytboefcikdfjfmaa.E Go.Proofs.Ytboefcikdfjfmaa.Am Go.Proofs.Ytboefcikdfjfmaa.Va Go.Proofs.Ytboefcikdfjfmaa.Fi Go.Proofs.Ytboefcikdfjfmaa.Pr Go.Proofs.Ytboefcikdfjfmaa.Pn Go.Proofs.YtboefcikdfjfmaaW.PrintMore Go.Proofs.YtboefcikdfjfmaaW.PrintWords
variable {a0 a1 : Int} {c d : List Int}
/-- The hours of a number's bits. -/
def bit (m : Int) (s : Nat) : Bool := decide ((Go.bits .and .i64 (shr .i64 m (s : Int)) 1) = 1)
/-- The best start before s. -/
def sgp (a1 : Int) (c : List Int) (a : Nat → Bool) : Nat → Option Nat
  | 0 => none
  | s + 1 => sg a1 (fl c) a s
theorem sgp_lt {a : Nat → Bool} {s b : Nat} (h : sgp a1 c a s = some b) : b < s := by
  cases s with
  | zero => cases h
  | succ s => have := (sg_some h).1; omega
theorem sg_step (a1 : Int) (c : List Int) (a : Nat → Bool) (s : Nat) : sg a1 (fl c) a s = if a s = true then (match sgp a1 c a s with | none => some s | some b => if way a1 (fl c) s s < way a1 (fl c) b s then some s else some b) else sgp a1 c a s := by
  cases s with
  | zero => simp only [sg, sgp]
  | succ s =>
    simp only [sg, sgp]
    cases e : sg a1 (fl c) a s with
    | none => simp
    | some b =>
      simp only [way_self]
      by_cases c1 : a (s + 1) = true
      · simp only [c1, true_and, if_true]
      · simp [c1]
theorem at_inner (ok : Ok a0 a1 c d) {m : Int} {u : Nat} (hu : u < d.length) (P : List Int) (r : List Int × Bool)
    (hno : sg a1 (fl c) (bit m) u = none → r = ([], false)) (hgo : ∀ s, sg a1 (fl c) (bit m) u = some s → Tl (fun k => diaphoneref03_at.l0 k m (P.set s (wrap64 (fl P s + fl d u))) ((u + 1 : Nat) : Int) a0 a1 c d) r) (hP : P.length = d.length) (e : Nat) : ∀ s : Nat, s ≤ u + 1 → u + 1 - s = e →
    Tl (fun k => diaphoneref03_at.l1 k m P (u : Int) (bv (sgp a1 c (bit m) s)) (s : Int) a0 a1 c d) r := by
  have hn2 := ok.n2
  induction e with
  | zero =>
    intro s h1 h2
    obtain rfl : s = u + 1 := by omega
    refine Tl.succ ?_
    simp only [diaphoneref03_at.l1]
    refine Tl.neg (by omega) ?_
    have e0 : sgp a1 c (bit m) (u + 1) = sg a1 (fl c) (bit m) u := rfl
    rw [e0]
    cases hs : sg a1 (fl c) (bit m) u with
    | none => exact (Tl.pos (by decide) Tl.now).to (hno hs).symm
    | some b =>
      have hb := (sg_some hs).1
      have hg := hgo b hs
      simp only [bv]
      refine Tl.neg (by omega) (Tl.pos (by omega) (Tl.pos (by omega) (Tl.pos (by omega) (Tl.pos (by omega) ?_))))
      rw [rd_fl, rd_fl, Int.toNat_natCast, w64 (x := (u : Int) + 1) (by omega) (by omega)]
      exact hg
  | succ e ih =>
    intro s h1 h2
    have hrec := ih (s + 1) (by omega) (by omega)
    have hst := sg_step a1 c (bit m) s
    have e0 : sgp a1 c (bit m) (s + 1) = sg a1 (fl c) (bit m) s := rfl
    rw [e0, hst] at hrec
    refine Tl.succ ?_
    simp only [diaphoneref03_at.l1]
    rw [u64_nat (show s ≤ 1000 by omega), w64 (x := (s : Int) + 1) (by omega) (by omega)]
    refine Tl.pos (by omega) (Tl.pos (by omega) ?_)
    by_cases hb : bit m s = true
    · refine Tl.pos (of_decide_eq_true hb) ?_
      rw [if_pos hb] at hrec
      cases hs : sgp a1 c (bit m) s with
      | none =>
        rw [hs] at hrec
        exact Tl.pos (by decide) hrec
      | some b =>
        rw [hs] at hrec
        have hbl := sgp_lt hs
        simp only [bv]
        refine Tl.neg (by omega) (Tl.bind' (ev_rway ok (show s ≤ u by omega) hu) (Tl.bind' (ev_rway ok (show b ≤ u by omega) hu) ?_))
        have hcmp : way a1 (fl c) s u < way a1 (fl c) b u ↔ way a1 (fl c) s s < way a1 (fl c) b s := by
          rw [way_move a1 (fl c) s s u, way_move a1 (fl c) b s u]; omega
        by_cases c1 : way a1 (fl c) s u < way a1 (fl c) b u
        · simp only [if_pos (hcmp.1 c1)] at hrec
          exact Tl.pos c1 hrec
        · simp only [if_neg (fun q => c1 (hcmp.2 q))] at hrec
          exact Tl.neg c1 hrec
    · refine Tl.neg (fun q => hb (decide_eq_true q)) ?_
      rw [if_neg hb] at hrec
      exact hrec
theorem at_loop (ok : Ok a0 a1 c d) (m : Int) (e : Nat) : ∀ u : Nat, u ≤ d.length → d.length - u = e → ∀ r : List Int × Bool,
    ((∀ v, u ≤ v → v < d.length → fl d v ≠ 0 → sg a1 (fl c) (bit m) v ≠ none) → r = (pxl a1 c d (bit m) d.length, true)) → (¬ (∀ v, u ≤ v → v < d.length → fl d v ≠ 0 → sg a1 (fl c) (bit m) v ≠ none) → r = ([], false)) →
    Tl (fun k => diaphoneref03_at.l0 k m (pxl a1 c d (bit m) u) (u : Int) a0 a1 c d) r := by
  have hn2 := ok.n2
  induction e with
  | zero =>
    intro u h1 h2 r hy hn
    obtain rfl : u = d.length := by omega
    refine Tl.succ ?_
    simp only [diaphoneref03_at.l0]
    exact (Tl.neg (by omega) Tl.now).to (hy (fun v g1 g2 => by omega)).symm
  | succ e ih =>
    intro u h1 h2 r hy hn
    have hu : u < d.length := by omega
    refine Tl.succ ?_
    simp only [diaphoneref03_at.l0]
    refine Tl.pos (by omega) (Tl.pos (by omega) ?_)
    rw [rd_fl]
    by_cases h0 : fl d u = 0
    · refine Tl.pos h0 ?_
      rw [w64 (by omega) (by omega)]
      have := ih (u + 1) (by omega) (by omega) r (fun q => hy ((okA_le hu).2 ⟨fun q2 => absurd h0 q2, q⟩)) (fun q => hn (fun q2 => q ((okA_le hu).1 q2).2))
      rw [pxl_skip (bit m) h0] at this
      exact this
    · refine Tl.neg h0 ?_
      refine at_inner ok hu (pxl a1 c d (bit m) u) r (fun hs => hn (fun q => q u (Nat.le_refl _) hu h0 hs)) (fun s hs => ?_) (pxl_len _ _) (u + 1) 0 (by omega) (by omega)
      have hb := (sg_some hs).1
      have b1 := px_bound ok (bit m) (show u ≤ d.length by omega) s
      have b2 := ok.d0 u
      have b3 := ok.d1 u
      have := ih (u + 1) (by omega) (by omega) r (fun q => hy ((okA_le hu).2 ⟨fun _ q3 => (by rw [hs] at q3; cases q3), q⟩)) (fun q => hn (fun q2 => q ((okA_le hu).1 q2).2))
      rw [pxl_set (bit m) hs hu] at this
      rw [w64 (by rw [pxl_fl _ _ (show s < d.length by omega)]; omega) (by rw [pxl_fl _ _ (show s < d.length by omega)]; omega)]
      exact this
theorem ev_at (ok : Ok a0 a1 c d) (m : Int) {r : List Int × Bool} (hr : Atv a1 c d (bit m) r) : Tl (fun k => diaphoneref03_at.f k a0 a1 c d m) r := by
  unfold diaphoneref03_at.f
  have := ok.n2
  refine Tl.pos (by omega) (Tl.pos (by omega) ?_)
  have h := at_loop ok m d.length 0 (by omega) (by omega) r (fun q => hr.1 (fun u hu hd => q u (Nat.zero_le _) hu hd)) (fun q => hr.2 (fun q2 => q (fun v _ hv hd => q2 v hv hd)))
  rw [pxl_zero] at h
  rw [Int.toNat_natCast]
  exact h

end Go.Proofs.Ytboefcikdfjfmaa.At
/- Sets of hours as the bits of a number. -/
set_option linter.unusedVariables false
namespace Go.Proofs.Ytboefcikdfjfmaa.Le
open Go.RowKit Go.Proofs.Ytboefcikdfjfmaa.P Go.Proofs.Ytboefcikdfjfmaa.E Go.Proofs.Ytboefcikdfjfmaa.Am Go.Proofs.Ytboefcikdfjfmaa.Va Go.Proofs.Ytboefcikdfjfmaa.Fi Go.Proofs.Ytboefcikdfjfmaa.Pr Go.Proofs.Ytboefcikdfjfmaa.Pn Go.Proofs.Ytboefcikdfjfmaa.At Go.Proofs.YtboefcikdfjfmaaW.PrintMore Go.Proofs.YtboefcikdfjfmaaW.PrintWords
variable {a0 a1 : Int} {c d : List Int}
theorem i64_small (n : Int) (h0 : 0 ≤ n) (h1 : n < 2 ^ 40) : IntKind.i64.wrap n = n := by
  rw [IntKind.wrap_i64]; omega
theorem bit_nat {m s : Nat} (hm : m < 2 ^ 40) (hs : s ≤ 40) : bit (m : Int) s = m.testBit s := by
  unfold bit shr
  have e1 : min ((s : Int).toNat) IntKind.i64.bits = s := by
    have : IntKind.i64.bits = 64 := rfl
    omega
  rw [e1]
  have e2 : (m : Int) / 2 ^ s = ((m / 2 ^ s : Nat) : Int) := by simp
  rw [e2]
  have h1 : m / 2 ^ s < 2 ^ 40 := Nat.lt_of_le_of_lt (Nat.div_le_self _ _) hm
  have e3 := (bits_nat .i64 40 (by decide) i64_small (m / 2 ^ s) 1 h1 (by decide)).1
  rw [show (1 : Int) = ((1 : Nat) : Int) from rfl, e3]
  rw [Nat.testBit, Nat.shiftRight_eq_div_pow, Nat.and_comm 1]
  generalize m / 2 ^ s = q
  have h2 : q &&& 1 = q % 2 := Nat.and_one_is_mod q
  rw [h2]
  rcases Nat.mod_two_eq_zero_or_one q with h | h
  · rw [h]; decide
  · rw [h]; decide
theorem shl_pow {n : Nat} (hn : n ≤ 12) : shl .i64 1 (n : Int) = ((2 ^ n : Nat) : Int) := by
  have key : ∀ k : Fin 13, shl .i64 1 ((k.val : Nat) : Int) = ((2 ^ k.val : Nat) : Int) := by decide +kernel
  exact key ⟨n, by omega⟩
theorem pow_le {n : Nat} (hn : n ≤ 12) : 2 ^ n ≤ 4096 := Nat.pow_le_pow_right (n := 2) (by decide) hn
/-- The number of a set. -/
def mk (a : Nat → Bool) : Nat → Nat
  | 0 => 0
  | n + 1 => if a n then mk a n ||| 2 ^ n else mk a n
theorem mk_lt (a : Nat → Bool) (n : Nat) : mk a n < 2 ^ n := by
  induction n with
  | zero => exact Nat.one_pos
  | succ n ih =>
    have h1 : 2 ^ n < 2 ^ (n + 1) := Nat.pow_lt_pow_right (by decide) (Nat.lt_succ_self n)
    unfold mk
    split
    · exact Nat.or_lt_two_pow (by omega) h1
    · omega
theorem mk_bit (a : Nat → Bool) (n s : Nat) : (mk a n).testBit s = (decide (s < n) && a s) := by
  induction n with
  | zero => simp [mk]
  | succ n ih =>
    unfold mk
    by_cases c1 : a n = true
    · rw [if_pos c1, Nat.testBit_or, ih, Nat.testBit_two_pow]
      by_cases c2 : n = s
      · subst c2; simp [c1]
      · have : decide (s < n + 1) = decide (s < n) := by rw [decide_eq_decide]; omega
        rw [this]; simp [c2]
    · rw [if_neg c1, ih]
      by_cases c2 : n = s
      · subst c2; simp at c1; simp [c1]
      · have : decide (s < n + 1) = decide (s < n) := by rw [decide_eq_decide]; omega
        rw [this]
/-- The cost of a set's plan. -/
def cm (a0 a1 : Int) (c d : List Int) (a : Nat → Bool) : Int := cs a0 a1 c d (pxl a1 c d a d.length) d.length
theorem cm_ge (ok : Ok a0 a1 c d) {F : Nat → Int} (hF : IsF a0 a1 (fl c) (fl d) d.length F) {a : Nat → Bool} (h : okA a1 (fl c) (fl d) a d.length) : F d.length ≤ cm a0 a1 c d a :=
  F_le_plan' ok.rt hF (at_pl ok h)
theorem cm_ex (ok : Ok a0 a1 c d) {F : Nat → Int} (hF : IsF a0 a1 (fl c) (fl d) d.length F) : ∃ m : Nat, m < 2 ^ d.length ∧ okA a1 (fl c) (fl d) (bit (m : Int)) d.length ∧ cm a0 a1 c d (bit (m : Int)) = F d.length := by
  obtain ⟨a, h1, h2, h3⟩ := reach ok.rt hF d.length (Nat.le_refl _)
  have hn := ok.n2
  have hlt := mk_lt a d.length
  have hp := pow_le hn
  have hbit : ∀ i, i < d.length → bit ((mk a d.length : Nat) : Int) i = a i := fun i hi => by
    rw [bit_nat (by omega) (by omega), mk_bit]; simp [hi]
  have hok : okA a1 (fl c) (fl d) (bit ((mk a d.length : Nat) : Int)) d.length := (okA_congr hbit).2 h2
  refine ⟨mk a d.length, hlt, hok, Int.le_antisymm ?_ (cm_ge ok hF hok)⟩
  unfold cm
  rw [at_cost, cost_congr (y := px a1 (fl c) (fl d) a d.length) (fun i _ => px_congr2 hbit i)]
  have := px_cost ok.rt h2
  omega
end Go.Proofs.Ytboefcikdfjfmaa.Le
/- A set of hours, as a list and as a number. -/
set_option linter.unusedVariables false
namespace Go.Proofs.Ytboefcikdfjfmaa.Ms
open Go.RowKit Go.Proofs.Ytboefcikdfjfmaa.P Go.Proofs.Ytboefcikdfjfmaa.E Go.Proofs.Ytboefcikdfjfmaa.Am Go.Proofs.Ytboefcikdfjfmaa.Va Go.Proofs.Ytboefcikdfjfmaa.Fi Go.Proofs.Ytboefcikdfjfmaa.Pn Go.Proofs.Ytboefcikdfjfmaa.At Go.Proofs.Ytboefcikdfjfmaa.Le Go.Proofs.YtboefcikdfjfmaaW.PrintMore Go.Proofs.YtboefcikdfjfmaaW.PrintWords
theorem or_bit {m x : Nat} (hm : m < 2 ^ 40) (hx : x ≤ 12) : Go.bits .or .i64 (m : Int) (shl .i64 1 (x : Int)) = ((m ||| 2 ^ x : Nat) : Int) := by
  rw [shl_pow hx]
  have h2 : 2 ^ x < 2 ^ 40 := Nat.pow_lt_pow_right (by decide) (by omega)
  exact (bits_nat .i64 40 (by decide) i64_small m (2 ^ x) hm h2).2
end Go.Proofs.Ytboefcikdfjfmaa.Ms
