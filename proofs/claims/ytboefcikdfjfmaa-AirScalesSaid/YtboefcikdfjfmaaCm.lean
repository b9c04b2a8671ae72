/- Least costs of tasks that differ: in the start, in the needs, by a factor; and of the first hours. -/
import Derived.Test.YtboefcikdfjfmaaKc
import Derived.Test.YtboefcikdfjfmaaFi
set_option linter.unusedVariables false
namespace Go.Proofs.Ytboefcikdfjfmaa.Cm
open Go.RowKit Go.Proofs.Ytboefcikdfjfmaa.P Go.Proofs.Ytboefcikdfjfmaa.E Go.Proofs.Ytboefcikdfjfmaa.Am Go.Proofs.Ytboefcikdfjfmaa.Va Go.Proofs.Ytboefcikdfjfmaa.Fi Go.Proofs.Ytboefcikdfjfmaa.Kn Go.Proofs.YtboefcikdfjfmaaW.PrintMore Go.Proofs.YtboefcikdfjfmaaW.PrintWords
theorem lot_mono {S S' h : Int} {c d d' : Nat → Int} {N : Nat} (r : Rt S h c d N) (hS : S ≤ S') (hd : ∀ i, i < N → d i ≤ d' i) {s n : Nat} (hn : n ≤ N) : lot S h c d s n ≤ lot S' h c d' s n := by
  have h1 : sm (fun i => d i * way h c s i) s n ≤ sm (fun i => d' i * way h c s i) s n :=
    sm_mono (fun i g1 g2 => Int.mul_le_mul_of_nonneg_right (hd i (by omega)) (way_nonneg r.h0 (r.c0 s (by omega)) g1))
  have h2 : sm d s n ≤ sm d' s n := sm_mono (fun i g1 g2 => hd i (by omega))
  have := r.S0
  unfold lot
  by_cases c1 : 0 < sm d s n
  · rw [if_pos c1, if_pos (by omega)]; omega
  · rw [if_neg c1]; split <;> omega
theorem lot_scale {S h : Int} {c d : Nat → Int} (b : Int) (hb : 0 ≤ b) (s n : Nat) : lot (b * S) h c (fun i => b * d i) s n = b * lot S h c d s n := by
  unfold lot
  have e1 : sm (fun i => b * d i * way h c s i) s n = b * sm (fun i => d i * way h c s i) s n := by
    rw [← sm_mul]; exact sm_congr (fun i _ _ => Int.mul_assoc _ _ _)
  rw [e1, sm_mul, Int.mul_add]
  by_cases c1 : 0 < sm d s n
  · rw [if_pos c1]
    by_cases c2 : b = 0
    · subst c2; simp
    · rw [if_pos (Int.mul_pos (by omega) c1)]
  · rw [if_neg c1, if_neg, Int.mul_zero]
    intro h2
    have h3 : b * sm d s n ≤ b * 0 := Int.mul_le_mul_of_nonneg_left (by omega) hb
    omega
theorem F_scale {S h : Int} {c d : Nat → Int} {N : Nat} {F : Nat → Int} (hF : IsF S h c d N F) (b : Int) (hb : 0 ≤ b) : IsF (b * S) h c (fun i => b * d i) N (fun n => b * F n) := by
  refine ⟨by simp only [hF.1, Int.mul_zero], fun n h1 h2 => ?_⟩
  obtain ⟨g1, s, g2, g3⟩ := hF.2 n h1 h2
  refine ⟨fun s hs => ?_, s, g2, ?_⟩
  · simp only [lot_scale b hb]
    rw [← Int.mul_add]
    exact Int.mul_le_mul_of_nonneg_left (g1 s hs) hb
  · simp only [lot_scale b hb]
    rw [← Int.mul_add, g3]
variable {a0 a1 : Int} {c d : List Int}
/-- What Least answers of any task. -/
theorem least_cases (a0 a1 : Int) {c d : List Int} (hc : c.length ≤ 1000) (hd : d.length ≤ 1000) :
    (Ok a0 a1 c d ∧ ∃ cs bs, Fst a0 a1 c d cs bs ∧ Tl (fun k => air_Least.f k a0 a1 c d) (fl cs d.length, 0)) ∨ (¬ Ok a0 a1 c d ∧ Tl (fun k => air_Least.f k a0 a1 c d) (0, 1)) := by
  rcases vc_cases a0 a1 c d with ⟨hv, ok⟩ | ⟨hv, no⟩
  · obtain ⟨cs, bs, hf⟩ := firsts_ex ok
    exact .inl ⟨ok, cs, bs, hf, ev_Least ok hf⟩
  · exact .inr ⟨no, (ev_Least_no hc hd (by omega)).to (by rw [hv])⟩
theorem no_nil (a0 a1 : Int) (c : List Int) : ¬ Ok a0 a1 c [] := fun ok => by have := ok.n1; simp at this
end Go.Proofs.Ytboefcikdfjfmaa.Cm
