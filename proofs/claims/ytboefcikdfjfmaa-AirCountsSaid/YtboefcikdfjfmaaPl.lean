/- The plan that a set of hours leads to, as the program finds it. -/
import Derived.Test.YtboefcikdfjfmaaPb
import Derived.Test.YtboefcikdfjfmaaPx44
set_option linter.unusedVariables false
namespace Go.Proofs.Ytboefcikdfjfmaa.At
open Go.RowKit Go.Proofs.Ytboefcikdfjfmaa.P Go.Proofs.Ytboefcikdfjfmaa.E Go.Proofs.Ytboefcikdfjfmaa.Am Go.Proofs.Ytboefcikdfjfmaa.Va Go.Proofs.Ytboefcikdfjfmaa.Fi Go.Proofs.Ytboefcikdfjfmaa.Pn Go.Proofs.YtboefcikdfjfmaaW.PrintMore Go.Proofs.YtboefcikdfjfmaaW.PrintWords
variable {a0 a1 : Int} {c d : List Int}
/-! The program's, by a list of hours -/
def mem (l : List Int) (s : Nat) : Bool := decide ((s : Int) ∈ l)
/-- A set of hours, as a list. -/
structure Set (l : List Int) (n : Nat) : Prop where
  lo : ∀ i, i < l.length → 0 ≤ fl l i
  hi : ∀ i, i < l.length → fl l i < n
  up : ∀ i, i + 1 < l.length → fl l i < fl l (i + 1)
theorem Set.mono {l : List Int} {n : Nat} (h : Set l n) {i j : Nat} (hij : i < j) (hj : j < l.length) : fl l i < fl l j := by
  induction j with
  | zero => omega
  | succ j ih =>
    have h1 := h.up j hj
    rcases Nat.lt_or_ge i j with c1 | c1
    · have := ih c1 (by omega); omega
    · obtain rfl : i = j := by omega
      exact h1
theorem mem_iff {l : List Int} {s : Nat} : mem l s = true ↔ ∃ i, i < l.length ∧ fl l i = s := by
  unfold mem
  rw [decide_eq_true_eq]
  constructor
  · intro h
    obtain ⟨i, hi, he⟩ := List.getElem_of_mem h
    exact ⟨i, hi, by rw [fl_lt hi, he]⟩
  · rintro ⟨i, hi, he⟩
    rw [fl_lt hi] at he
    rw [← he]
    exact List.getElem_mem hi
/-- The best start among the first j of a list. -/
def Bst (a1 : Int) (c l : List Int) (u j : Nat) : Option Nat → Prop
  | none => ∀ i, i < j → ¬ fl l i ≤ u
  | some s => (∃ i, i < j ∧ fl l i = s) ∧ s ≤ u ∧ (∀ i t : Nat, i < j → fl l i = (t : Int) → t ≤ u → way a1 (fl c) s u ≤ way a1 (fl c) t u) ∧ ∀ i t : Nat, i < j → fl l i = (t : Int) → t < s → way a1 (fl c) s u < way a1 (fl c) t u
theorem Bst_sg {l : List Int} {n u : Nat} (h : Set l n) {o : Option Nat} (ho : Bst a1 c l u l.length o) : sg a1 (fl c) (mem l) u = o := by
  cases o with
  | none =>
    cases hs : sg a1 (fl c) (mem l) u with
    | none => rfl
    | some s =>
      obtain ⟨g1, g2, g3⟩ := sg_some hs
      obtain ⟨i, hi, he⟩ := mem_iff.1 g2
      exact absurd (by omega) (ho i hi)
  | some s =>
    obtain ⟨⟨i, hi, he⟩, h1, h2, h3⟩ := ho
    have hm : mem l s = true := mem_iff.2 ⟨i, hi, he⟩
    cases hs : sg a1 (fl c) (mem l) u with
    | none => rw [sg_none hs s h1] at hm; cases hm
    | some s' =>
      obtain ⟨g1, g2, g3⟩ := sg_some hs
      obtain ⟨i', hi', he'⟩ := mem_iff.1 g2
      have k1 := g3 s h1 hm
      have k2 := h2 i' s' hi' he' g1
      rcases Nat.lt_trichotomy s s' with c1 | c1 | c1
      · have := sg_first hs s c1 hm; omega
      · rw [c1]
      · have := h3 i' s' hi' he' c1; omega
theorem plan_inner (ok : Ok a0 a1 c d) {l : List Int} (hl : Set l d.length) (hll : l.length ≤ 1000) {u : Nat} (hu : u < d.length) (P : List Int) (hP : P.length = d.length) (v : Int) (r : List Int × Bool)
    (hno : sg a1 (fl c) (mem l) u = none → r = ([], false)) (hgo : ∀ s, sg a1 (fl c) (mem l) u = some s → Tl (fun k => air_plan.l0 k l (P.set s (wrap64 (fl P s + v))) d (d.length : Int) ((u + 1 : Nat) : Int) a0 a1 c d) r) (e : Nat) : ∀ j : Nat, j ≤ l.length → l.length - j = e → ∀ o, Bst a1 c l u j o →
    Tl (fun k => air_plan.l1 k l P (u : Int) v (bv o) d (d.length : Int) (u : Int) l (l.length : Int) (j : Int) a0 a1 c d) r := by
  have hn2 := ok.n2
  induction e with
  | zero =>
    intro j h1 h2 o ho
    obtain rfl : j = l.length := by omega
    have hs := Bst_sg hl ho
    refine Tl.succ ?_
    simp only [air_plan.l1]
    refine Tl.neg (by omega) ?_
    cases o with
    | none => exact (Tl.pos (by decide) Tl.now).to (hno hs).symm
    | some s =>
      have hsu := ho.2.1
      simp only [bv]
      refine Tl.neg (by omega) (Tl.pos (by omega) (Tl.pos (by omega) ?_))
      rw [rd_fl, Int.toNat_natCast, w64 (x := (u : Int) + 1) (by omega) (by omega)]
      exact hgo s hs
  | succ e ih =>
    intro j h1 h2 o ho
    have hj : j < l.length := by omega
    have lo := hl.lo j hj
    have hi := hl.hi j hj
    obtain ⟨t, ht⟩ : ∃ t : Nat, fl l j = (t : Int) := ⟨(fl l j).toNat, by omega⟩
    have hrec := ih (j + 1) (by omega) (by omega)
    refine Tl.succ ?_
    simp only [air_plan.l1]
    rw [w64 (x := (j : Int) + 1) (by omega) (by omega)]
    refine Tl.pos (by omega) (Tl.pos (by omega) (Tl.pos (by omega) ?_))
    rw [rd_fl, ht]
    have older : ∀ i t2 : Nat, i < j → fl l i = (t2 : Int) → t2 < t := by
      intro i t2 g1 g2
      have := hl.mono g1 hj
      omega
    by_cases c1 : (t : Int) ≤ (u : Int)
    · refine Tl.pos c1 ?_
      cases o with
      | none =>
        refine Tl.pos (by decide) (hrec (some t) ⟨⟨j, by omega, ht⟩, by omega, fun i t2 g1 g2 g3 => ?_, fun i t2 g1 g2 g3 => ?_⟩)
        · rcases Nat.lt_or_ge i j with c2 | c2
          · exact absurd (by omega) (ho i c2)
          · obtain rfl : i = j := by omega
            obtain rfl : t2 = t := by omega
            exact Int.le_refl _
        · rcases Nat.lt_or_ge i j with c2 | c2
          · exact absurd (by omega) (ho i c2)
          · obtain rfl : i = j := by omega
            omega
      | some s =>
        obtain ⟨⟨i0, g1, g2⟩, g3, g4, g5⟩ := ho
        have hst := older i0 s g1 g2
        simp only [bv]
        refine Tl.neg (by omega) (Tl.bind' (ev_way ok (show t ≤ u by omega) hu) (Tl.bind' (ev_way ok g3 hu) ?_))
        by_cases c2 : way a1 (fl c) t u < way a1 (fl c) s u
        · refine Tl.pos c2 (hrec (some t) ⟨⟨j, by omega, ht⟩, by omega, fun i t2 k1 k2 k3 => ?_, fun i t2 k1 k2 k3 => ?_⟩)
          · rcases Nat.lt_or_ge i j with c3 | c3
            · have := g4 i t2 c3 k2 k3; omega
            · obtain rfl : i = j := by omega
              obtain rfl : t2 = t := by omega
              exact Int.le_refl _
          · rcases Nat.lt_or_ge i j with c3 | c3
            · have := g4 i t2 c3 k2 (by omega); omega
            · obtain rfl : i = j := by omega
              omega
        · refine Tl.neg c2 (hrec (some s) ⟨⟨i0, by omega, g2⟩, g3, fun i t2 k1 k2 k3 => ?_, fun i t2 k1 k2 k3 => ?_⟩)
          · rcases Nat.lt_or_ge i j with c3 | c3
            · exact g4 i t2 c3 k2 k3
            · obtain rfl : i = j := by omega
              obtain rfl : t2 = t := by omega
              omega
          · rcases Nat.lt_or_ge i j with c3 | c3
            · exact g5 i t2 c3 k2 k3
            · obtain rfl : i = j := by omega
              obtain rfl : t2 = t := by omega
              omega
    · refine Tl.neg c1 ?_
      cases o with
      | none =>
        refine hrec none (fun i g1 => ?_)
        rcases Nat.lt_or_ge i j with c3 | c3
        · exact ho i c3
        · obtain rfl : i = j := by omega
          omega
      | some s =>
        obtain ⟨⟨i0, g1, g2⟩, g3, g4, g5⟩ := ho
        refine hrec (some s) ⟨⟨i0, by omega, g2⟩, g3, fun i t2 k1 k2 k3 => ?_, fun i t2 k1 k2 k3 => ?_⟩
        · rcases Nat.lt_or_ge i j with c3 | c3
          · exact g4 i t2 c3 k2 k3
          · obtain rfl : i = j := by omega
            omega
        · rcases Nat.lt_or_ge i j with c3 | c3
          · exact g5 i t2 c3 k2 k3
          · obtain rfl : i = j := by omega
            omega
theorem plan_loop (ok : Ok a0 a1 c d) {l : List Int} (hl : Set l d.length) (hll : l.length ≤ 1000) (e : Nat) : ∀ u : Nat, u ≤ d.length → d.length - u = e → ∀ r : List Int × Bool,
    ((∀ v, u ≤ v → v < d.length → fl d v ≠ 0 → sg a1 (fl c) (mem l) v ≠ none) → r = (pxl a1 c d (mem l) d.length, true)) → (¬ (∀ v, u ≤ v → v < d.length → fl d v ≠ 0 → sg a1 (fl c) (mem l) v ≠ none) → r = ([], false)) →
    Tl (fun k => air_plan.l0 k l (pxl a1 c d (mem l) u) d (d.length : Int) (u : Int) a0 a1 c d) r := by
  have hn2 := ok.n2
  induction e with
  | zero =>
    intro u h1 h2 r hy hn
    obtain rfl : u = d.length := by omega
    refine Tl.succ ?_
    simp only [air_plan.l0]
    exact (Tl.neg (by omega) Tl.now).to (hy (fun v g1 g2 => by omega)).symm
  | succ e ih =>
    intro u h1 h2 r hy hn
    have hu : u < d.length := by omega
    refine Tl.succ ?_
    simp only [air_plan.l0]
    refine Tl.pos (by omega) (Tl.pos (by omega) (Tl.pos (by omega) ?_))
    rw [rd_fl]
    by_cases h0 : fl d u = 0
    · refine Tl.pos h0 ?_
      rw [w64 (by omega) (by omega)]
      have := ih (u + 1) (by omega) (by omega) r (fun q => hy ((okA_le hu).2 ⟨fun q2 => absurd h0 q2, q⟩)) (fun q => hn (fun q2 => q ((okA_le hu).1 q2).2))
      rw [pxl_skip (mem l) h0] at this
      exact this
    · refine Tl.neg h0 ?_
      refine plan_inner ok hl hll hu (pxl a1 c d (mem l) u) (pxl_len _ _) (fl d u) r (fun hs => hn (fun q => q u (Nat.le_refl _) hu h0 hs)) (fun s hs => ?_) l.length 0 (by omega) (by omega) none (fun i hi => by omega)
      have hb := (sg_some hs).1
      have b1 := px_bound ok (mem l) (show u ≤ d.length by omega) s
      have b2 := ok.d0 u
      have b3 := ok.d1 u
      have := ih (u + 1) (by omega) (by omega) r (fun q => hy ((okA_le hu).2 ⟨fun _ q3 => (by rw [hs] at q3; cases q3), q⟩)) (fun q => hn (fun q2 => q ((okA_le hu).1 q2).2))
      rw [pxl_set (mem l) hs hu] at this
      rw [w64 (by rw [pxl_fl _ _ (show s < d.length by omega)]; omega) (by rw [pxl_fl _ _ (show s < d.length by omega)]; omega)]
      exact this
theorem ev_plan (ok : Ok a0 a1 c d) {l : List Int} (hl : Set l d.length) (hll : l.length ≤ 1000) {r : List Int × Bool} (hr : Atv a1 c d (mem l) r) : Tl (fun k => air_plan.f k a0 a1 c d l) r := by
  unfold air_plan.f
  have := ok.n2
  refine Tl.pos (by omega) (Tl.pos (by omega) ?_)
  have h := plan_loop ok hl hll d.length 0 (by omega) (by omega) r (fun q => hr.1 (fun u hu hd => q u (Nat.zero_le _) hu hd)) (fun q => hr.2 (fun q2 => q (fun v _ hv hd => q2 v hv hd)))
  rw [pxl_zero] at h
  rw [Int.toNat_natCast]
  exact h
end Go.Proofs.Ytboefcikdfjfmaa.At
