/- The least cost among all sets of hours, as the document finds it. -/
import Derived.Test.YtboefcikdfjfmaaAt
import Derived.Test.YtboefcikdfjfmaaRc
import Derived.Test.YtboefcikdfjfmaaPx13
set_option linter.unusedVariables false
namespace Go.Proofs.Ytboefcikdfjfmaa.Le
open Go.RowKit Go.Proofs.Ytboefcikdfjfmaa.P Go.Proofs.Ytboefcikdfjfmaa.E Go.Proofs.Ytboefcikdfjfmaa.Am Go.Proofs.Ytboefcikdfjfmaa.Va Go.Proofs.Ytboefcikdfjfmaa.Fi Go.Proofs.Ytboefcikdfjfmaa.Pr Go.Proofs.Ytboefcikdfjfmaa.Pn Go.Proofs.Ytboefcikdfjfmaa.At Go.Proofs.YtboefcikdfjfmaaW.PrintMore Go.Proofs.YtboefcikdfjfmaaW.PrintWords
variable {a0 a1 : Int} {c d : List Int}
theorem least_loop (ok : Ok a0 a1 c d) {F : Nat → Int} (hF : IsF a0 a1 (fl c) (fl d) d.length F) (h0 : 0 ≤ F d.length) {M : Nat} (hM : M = 2 ^ d.length) (e : Nat) : ∀ (m : Nat) (b : Int), m ≤ M → M - m = e →
    (∀ q : Nat, q < m → okA a1 (fl c) (fl d) (bit (q : Int)) d.length → 0 ≤ b ∧ b ≤ cm a0 a1 c d (bit (q : Int))) → ((b = -1 ∧ ∀ q : Nat, q < m → ¬ okA a1 (fl c) (fl d) (bit (q : Int)) d.length) ∨ ∃ q : Nat, q < m ∧ okA a1 (fl c) (fl d) (bit (q : Int)) d.length ∧ b = cm a0 a1 c d (bit (q : Int))) →
    Tl (fun k => diaphoneref03_least.l0 k b (m : Int) a0 a1 c d) (F d.length) := by
  have hn := ok.n2
  have hp := pow_le hn
  have hsh := shl_pow hn
  rw [← hM] at hp hsh
  have hex := cm_ex ok hF
  rw [← hM] at hex
  clear hM
  induction e with
  | zero =>
    intro m b h1 h2 h3 h4
    obtain rfl : m = M := by omega
    refine Tl.succ ?_
    simp only [diaphoneref03_least.l0]
    rw [u64_nat (by omega), hsh]
    refine Tl.pos (by omega) (Tl.neg (by omega) ?_)
    refine Tl.now.to ?_
    obtain ⟨q, g1, g2, g3⟩ := hex
    have g4 := (h3 q g1 g2).2
    rcases h4 with ⟨_, h5⟩ | ⟨q2, h5, h6, h7⟩
    · exact absurd g2 (h5 q g1)
    · have := cm_ge ok hF h6; omega
  | succ e ih =>
    intro m b h1 h2 h3 h4
    clear hex
    have hm1 : m + 1 ≤ M := by clear h4; omega
    have hm2 : M - (m + 1) = e := by clear h4; omega
    have hlt : ∀ q : Nat, q < m + 1 → m ≤ q → q = m := by clear h4; intro q; omega
    refine Tl.succ ?_
    simp only [diaphoneref03_least.l0]
    rw [u64_nat (by omega), hsh, w64 (x := (m : Int) + 1) (by omega) (by omega)]
    refine Tl.pos (by omega) (Tl.pos (by omega) ?_)
    obtain ⟨r, hr⟩ := Atv_ex a1 c d (bit (m : Int))
    refine Tl.bind (ev_at ok (m : Int) hr) ?_
    by_cases hok : okA a1 (fl c) (fl d) (bit (m : Int)) d.length
    · rw [hr.1 hok]
      have hge := cm_ge ok hF hok
      refine Tl.pos rfl (Tl.bind (ev_rcost ok (pxl_small ok _ (Nat.le_refl _)) (pxl_len _ _)) ?_)
      by_cases c1 : b < 0
      · refine Tl.pos c1 (ih (m + 1) _ hm1 hm2 (fun q g1 g2 => ?_) (.inr ⟨m, Nat.lt_succ_self m, hok, rfl⟩))
        rcases Nat.lt_or_ge q m with c2 | c2
        · have := (h3 q c2 g2).1; omega
        · obtain rfl : q = m := hlt q g1 c2
          exact ⟨Int.le_trans h0 hge, Int.le_refl _⟩
      · refine Tl.neg c1 ?_
        have h5 : ∃ q : Nat, q < m ∧ okA a1 (fl c) (fl d) (bit (q : Int)) d.length ∧ b = cm a0 a1 c d (bit (q : Int)) := by
          rcases h4 with ⟨h5, _⟩ | h5
          · omega
          · exact h5
        by_cases c3 : cm a0 a1 c d (bit (m : Int)) < b
        · refine Tl.pos c3 (ih (m + 1) _ hm1 hm2 (fun q g1 g2 => ?_) (.inr ⟨m, Nat.lt_succ_self m, hok, rfl⟩))
          rcases Nat.lt_or_ge q m with c2 | c2
          · have := (h3 q c2 g2).2
            exact ⟨Int.le_trans h0 hge, by show cm a0 a1 c d (bit (m : Int)) ≤ _; omega⟩
          · obtain rfl : q = m := hlt q g1 c2
            exact ⟨Int.le_trans h0 hge, Int.le_refl _⟩
        · obtain ⟨q0, k1, k2, k3⟩ := h5
          refine Tl.neg c3 (ih (m + 1) b hm1 hm2 (fun q g1 g2 => ?_) (.inr ⟨q0, Nat.lt_succ_of_lt k1, k2, k3⟩))
          rcases Nat.lt_or_ge q m with c2 | c2
          · exact h3 q c2 g2
          · obtain rfl : q = m := hlt q g1 c2
            exact ⟨by omega, by omega⟩
    · rw [hr.2 hok]
      refine Tl.neg (by decide) (ih (m + 1) b hm1 hm2 (fun q g1 g2 => ?_) ?_)
      · rcases Nat.lt_or_ge q m with c2 | c2
        · exact h3 q c2 g2
        · obtain rfl : q = m := hlt q g1 c2
          exact absurd g2 hok
      · rcases h4 with ⟨h5, h6⟩ | ⟨q, h5, h6, h7⟩
        · refine .inl ⟨h5, fun q g1 => ?_⟩
          rcases Nat.lt_or_ge q m with c2 | c2
          · exact h6 q c2
          · obtain rfl : q = m := hlt q g1 c2
            exact hok
        · exact .inr ⟨q, Nat.lt_succ_of_lt h5, h6, h7⟩
theorem ev_rleast (ok : Ok a0 a1 c d) {F : Nat → Int} (hF : IsF a0 a1 (fl c) (fl d) d.length F) (h0 : 0 ≤ F d.length) : Tl (fun k => diaphoneref03_least.f k a0 a1 c d) (F d.length) := by
  unfold diaphoneref03_least.f
  exact least_loop ok hF h0 rfl (2 ^ d.length) 0 (-1) (Nat.zero_le _) rfl (fun q hq => by omega) (.inl ⟨rfl, fun q hq => by omega⟩)
end Go.Proofs.Ytboefcikdfjfmaa.Le
