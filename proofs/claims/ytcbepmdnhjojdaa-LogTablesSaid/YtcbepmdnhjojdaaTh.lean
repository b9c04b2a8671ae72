/- The document's words for tables, and the laws' common ground. -/
import Derived.Test.YtcbepmdnhjojdaaTg
import Derived.Test.YtcbepmdnhjojdaaPx29
set_option linter.unusedVariables false
namespace Go.Proofs.Ytcbepmdnhjojdaa.Th
open Go.RowKit Go.Proofs.Ytcbepmdnhjojdaa.P Go.Proofs.Ytcbepmdnhjojdaa.E Go.Proofs.Ytcbepmdnhjojdaa.Al Go.Proofs.Ytcbepmdnhjojdaa.Lo Go.Proofs.Ytcbepmdnhjojdaa.Lr Go.Proofs.Ytcbepmdnhjojdaa.En Go.Proofs.Ytcbepmdnhjojdaa.Tg Go.Proofs.YtcbepmdnhjojdaaW.PrintMore
open Go.Proofs.YtcbepmdnhjojdaaW.PrintWords
/-! The document's words for tables. -/
section
variable {l m : List Int} {o i c : Int} {t : List (List Int)} (hL : l.length ≤ 10) (hM : m.length ≤ 10) (ho : 0 ≤ o ∧ o ≤ 9) (hi : 0 ≤ i ∧ i ≤ 9) (hc : 0 ≤ c ∧ c ≤ 9) (ht : t.length = l.length + 1)
include hL hM ho hi hc ht
theorem ref_step (hR : ∀ a, a ≤ l.length → Rw m t a) (h00 : get t 0 0 = 0) {a b : Nat} (ha : a ≤ l.length) (hb : b ≤ m.length) {r : Int × Int}
    (hT : Sl l m o i c t a b → Tl (fun k => diaphoneref06_CheckTable.l3 k l m t (a : Int) ((b + 1 : Nat) : Int) o i c) r)
    (hF : ¬ Sl l m o i c t a b → r = (0, 7)) :
    Tl (fun k => diaphoneref06_CheckTable.l3 k l m t (a : Int) (b : Int) o i c) r := by
  obtain ⟨n1, hg⟩ := hR a ha
  have g0 := hg b hb
  have e0 : rd (rd_L1 t (a : Int)) (b : Int) = get t a b := rfl
  have c1 : a = 0 ∧ b = 0 → get t a b = 0 := by rintro ⟨rfl, rfl⟩; exact h00
  have EB := Aside0.mk (nx' (a := b) (by omega))
  have J4t : Tl (fun k => diaphoneref06_CheckTable.j4 k l m t (a : Int) (b : Int) true o i c) (0, 7) := by
    refine Tl.succ ?_
    simp only [diaphoneref06_CheckTable.j4]
    exact Tl.pos trivial Tl.now
  have J4 : (0 < a → get t a b ≤ get t (a - 1) b + o) → (0 < b → get t a b ≤ get t a (b - 1) + i) → Tl (fun k => diaphoneref06_CheckTable.j4 k l m t (a : Int) (b : Int) false o i c) r := by
    intro c2 c3
    refine Tl.succ ?_
    simp only [diaphoneref06_CheckTable.j4]
    rw [EB.out, e0]
    refine Tl.neg (by simp) ?_
    by_cases ha0 : 0 < a
    · refine Tl.pos (by omega) ?_
      by_cases hb0 : 0 < b
      · obtain ⟨n2, hg2⟩ := hR (a - 1) (by omega)
        have g4 := hg2 (b - 1) (by omega)
        have rc := ch_range hc.1 (rd l ((a - 1 : Nat) : Int)) (rd m ((b - 1 : Nat) : Int))
        have E1 := Aside0.mk (show wrap64 ((a : Int) - 1) = ((a - 1 : Nat) : Int) by rw [w64 (by omega) (by omega)]; omega)
        have E2 := Aside0.mk (show wrap64 ((b : Int) - 1) = ((b - 1 : Nat) : Int) by rw [w64 (by omega) (by omega)]; omega)
        have E3 := Aside0.mk (show wrap64 (get t (a - 1) (b - 1) + ch c (rd l ((a - 1 : Nat) : Int)) (rd m ((b - 1 : Nat) : Int))) = get t (a - 1) (b - 1) + ch c (rd l ((a - 1 : Nat) : Int)) (rd m ((b - 1 : Nat) : Int)) from w64 (by omega) (by omega))
        rw [E1.out, E2.out]
        refine Tl.pos (by omega) (Tl.pos (by omega) (Tl.pos (by omega) (Tl.pos (by omega) (Tl.pos (by omega) (Tl.pos (by omega) (Tl.pos (by omega) (Tl.pos (by omega) (Tl.pos (by omega) (Tl.pos (by omega) (Tl.pos (by omega) (Tl.bind' (change_eq _ _ _ _ _) ?_)))))))))))
        rw [show rd (rd_L1 t ((a - 1 : Nat) : Int)) ((b - 1 : Nat) : Int) = get t (a - 1) (b - 1) from rfl, E3.out]
        by_cases c4 : get t a b ≤ get t (a - 1) (b - 1) + ch c (rd l ((a - 1 : Nat) : Int)) (rd m ((b - 1 : Nat) : Int))
        · exact Tl.neg (by omega) (hT ⟨c1, c2, c3, fun _ _ => c4⟩)
        · exact Tl.to (Tl.pos (by omega) Tl.now) (hF (fun q => c4 (q.2.2.2 ha0 hb0))).symm
      · exact Tl.neg (by omega) (hT ⟨c1, c2, c3, fun _ q => absurd q hb0⟩)
    · exact Tl.neg (by omega) (hT ⟨c1, c2, c3, fun q => absurd q ha0⟩)
  refine Tl.succ ?_
  simp only [diaphoneref06_CheckTable.l3]
  rw [e0]
  refine Tl.pos (by omega) (Tl.pos (by omega) (Tl.pos (by omega) ?_))
  have second : (0 < a → get t a b ≤ get t (a - 1) b + o) → 0 < b → Tl (fun k => diaphoneref06_CheckTable.j4 k l m t (a : Int) (b : Int) (decide (get t a b > wrap64 (rd (rd_L1 t (a : Int)) (wrap64 ((b : Int) - 1)) + i))) o i c) r ∧ 0 ≤ wrap64 ((b : Int) - 1) ∧ wrap64 ((b : Int) - 1) < ((rd_L1 t (a : Int)).length : Int) := by
    intro c2 hb0
    have g3 := hg (b - 1) (by omega)
    have E2 := Aside0.mk (show wrap64 ((b : Int) - 1) = ((b - 1 : Nat) : Int) by rw [w64 (by omega) (by omega)]; omega)
    have E3 := Aside0.mk (show wrap64 (get t a (b - 1) + i) = get t a (b - 1) + i from w64 (by omega) (by omega))
    rw [E2.out, show rd (rd_L1 t (a : Int)) ((b - 1 : Nat) : Int) = get t a (b - 1) from rfl, E3.out]
    refine ⟨?_, by omega, by omega⟩
    by_cases c3 : get t a b ≤ get t a (b - 1) + i
    · rw [decide_eq_false (show ¬ get t a b > get t a (b - 1) + i by omega)]
      exact J4 c2 (fun _ => c3)
    · rw [decide_eq_true (show get t a b > get t a (b - 1) + i by omega)]
      exact Tl.to J4t (hF (fun q => c3 (q.2.2.1 hb0))).symm
  by_cases ha0 : 0 < a
  · obtain ⟨n2, hg2⟩ := hR (a - 1) (by omega)
    have g2 := hg2 b hb
    have E1 := Aside0.mk (show wrap64 ((a : Int) - 1) = ((a - 1 : Nat) : Int) by rw [w64 (by omega) (by omega)]; omega)
    have E3 := Aside0.mk (show wrap64 (get t (a - 1) b + o) = get t (a - 1) b + o from w64 (by omega) (by omega))
    rw [E1.out, show rd (rd_L1 t ((a - 1 : Nat) : Int)) (b : Int) = get t (a - 1) b from rfl, E3.out]
    refine Tl.pos (by omega) (Tl.pos (by omega) (Tl.pos (by omega) (Tl.pos (by omega) (Tl.pos (by omega) ?_))))
    by_cases c2 : get t a b ≤ get t (a - 1) b + o
    · refine Tl.neg (by omega) ?_
      by_cases hb0 : 0 < b
      · obtain ⟨s1, s2, s3⟩ := second (fun _ => c2) hb0
        exact Tl.pos (by omega) (Tl.pos s2 (Tl.pos s3 s1))
      · exact Tl.neg (by omega) (J4 (fun _ => c2) (fun q => absurd q hb0))
    · exact Tl.pos (by omega) (Tl.to J4t (hF (fun q => c2 (q.2.1 ha0))).symm)
  · refine Tl.neg (by omega) ?_
    by_cases hb0 : 0 < b
    · obtain ⟨s1, s2, s3⟩ := second (fun q => absurd q ha0) hb0
      exact Tl.pos (by omega) (Tl.pos (by omega) (Tl.pos s2 (Tl.pos s3 s1)))
    · exact Tl.neg (by omega) (J4 (fun q => absurd q ha0) (fun q => absurd q hb0))
theorem ref_row (hR : ∀ a, a ≤ l.length → Rw m t a) (h00 : get t 0 0 = 0) {a : Nat} (ha : a ≤ l.length) {r : Int × Int}
    (out : (∀ b, b ≤ m.length → Sl l m o i c t a b) → Tl (fun k => diaphoneref06_CheckTable.l2 k l m t ((a + 1 : Nat) : Int) o i c) r)
    (hF : (∃ b, b ≤ m.length ∧ ¬ Sl l m o i c t a b) → r = (0, 7)) : ∀ (d b : Nat), b ≤ m.length + 1 → m.length + 1 - b = d → (∀ b', b' < b → Sl l m o i c t a b') →
    Tl (fun k => diaphoneref06_CheckTable.l3 k l m t (a : Int) (b : Int) o i c) r := by
  intro d
  have n1 := (hR a ha).1
  induction d with
  | zero =>
    intro b h1 h2 h3
    have E1 := Aside0.mk (nx' (a := a) (by omega))
    refine Tl.succ ?_
    simp only [diaphoneref06_CheckTable.l3]
    rw [E1.out]
    exact Tl.pos (by omega) (Tl.pos (by omega) (Tl.neg (by omega) (out (fun b' hb' => h3 b' (by omega)))))
  | succ d ih =>
    intro b h1 h2 h3
    refine ref_step hL hM ho hi hc ht hR h00 ha (by omega) (fun hs => ih (b + 1) (by omega) (by omega) (fun b' hb' => ?_)) (fun hn => hF ⟨b, by omega, hn⟩)
    by_cases e : b' = b
    · rw [e]; exact hs
    · exact h3 b' (by omega)
theorem ref_all (hR : ∀ a, a ≤ l.length → Rw m t a) (h00 : get t 0 0 = 0) : ∀ (d a : Nat), a ≤ l.length + 1 → l.length + 1 - a = d → (∀ a', a' < a → ∀ b, b ≤ m.length → Sl l m o i c t a' b) →
    Tl (fun k => diaphoneref06_CheckTable.l2 k l m t (a : Int) o i c) (sv l m o i c t) := by
  intro d
  induction d with
  | zero =>
    intro a h1 h2 h3
    have n1 := (hR l.length (Nat.le_refl _)).1
    refine Tl.succ ?_
    simp only [diaphoneref06_CheckTable.l2]
    refine Tl.neg (by omega) (Tl.pos (by omega) (Tl.pos (by omega) (Tl.pos (by omega) (Tl.pos (by omega) (Tl.to Tl.now ?_)))))
    unfold sv
    rw [if_pos (fun a' ha' b hb => h3 a' (by omega) b hb)]; rfl
  | succ d ih =>
    intro a h1 h2 h3
    refine Tl.succ ?_
    simp only [diaphoneref06_CheckTable.l2]
    refine Tl.pos (by omega) (ref_row hL hM ho hi hc ht hR h00 (show a ≤ l.length by omega) (fun hs => ih (a + 1) (by omega) (by omega) (fun a' ha' b hb => ?_)) ?_ (m.length + 1) 0 (by omega) (by omega) (fun b hb => by omega))
    · by_cases e : a' = a
      · rw [e]; exact hs b hb
      · exact h3 a' (by omega) b hb
    · rintro ⟨b, hb, hn⟩
      unfold sv
      rw [if_neg (fun q => hn (q a (by omega) b hb))]
omit ho hi hc in
theorem ref_in {r : Int × Int} {a : Nat} (ha : a ≤ l.length) (hl : (rd_L1 t (a : Int)).length = m.length + 1)
    (out : Rw m t a → Tl (fun k => diaphoneref06_CheckTable.l0 k l m t ((a + 1 : Nat) : Int) o i c) r) (hF : ¬ Rw m t a → r = (0, 1)) : ∀ (d b : Nat), b ≤ m.length + 1 → m.length + 1 - b = d → (∀ b', b' < b → -1000 ≤ get t a b' ∧ get t a b' ≤ 1000) →
    Tl (fun k => diaphoneref06_CheckTable.l1 k l m t (a : Int) (b : Int) o i c) r := by
  intro d
  induction d with
  | zero =>
    intro b h1 h2 h3
    have E1 := Aside0.mk (nx' (a := a) (by omega))
    refine Tl.succ ?_
    simp only [diaphoneref06_CheckTable.l1]
    rw [E1.out]
    exact Tl.pos (by omega) (Tl.pos (by omega) (Tl.neg (by omega) (out ⟨hl, fun b' hb' => h3 b' (by omega)⟩)))
  | succ d ih =>
    intro b h1 h2 h3
    have E1 := Aside0.mk (nx' (a := b) (by omega))
    refine Tl.succ ?_
    simp only [diaphoneref06_CheckTable.l1]
    rw [E1.out, show rd (rd_L1 t (a : Int)) (b : Int) = get t a b from rfl]
    refine Tl.pos (by omega) (Tl.pos (by omega) (Tl.pos (by omega) (Tl.pos (by omega) (Tl.bind' (rwithin_eq _ _ _) ?_))))
    by_cases hg : -1000 ≤ get t a b ∧ get t a b ≤ 1000
    · refine Tl.pos (decide_eq_true hg) (ih (b + 1) (by omega) (by omega) (fun b' hb' => ?_))
      by_cases e : b' = b
      · rw [e]; exact hg
      · exact h3 b' (by omega)
    · exact Tl.to (Tl.neg (by rw [decide_eq_true_eq]; exact hg) Tl.now) (hF (fun q => hg (q.2 b (by omega)))).symm
omit ho hi hc in
theorem ref_rows {r : Int × Int} (out : (∀ a, a ≤ l.length → Rw m t a) → get t 0 0 = 0 → Tl (fun k => diaphoneref06_CheckTable.l2 k l m t 0 o i c) r) (h0 : (∀ a, a ≤ l.length → Rw m t a) → get t 0 0 ≠ 0 → r = (0, 7)) (hF : (∃ a, a ≤ l.length ∧ ¬ Rw m t a) → r = (0, 1)) : ∀ (d a : Nat), a ≤ l.length + 1 → l.length + 1 - a = d → (∀ a', a' < a → Rw m t a') →
    Tl (fun k => diaphoneref06_CheckTable.l0 k l m t (a : Int) o i c) r := by
  intro d
  induction d with
  | zero =>
    intro a h1 h2 h3
    have hR : ∀ a, a ≤ l.length → Rw m t a := fun a' ha' => h3 a' (by omega)
    have n0 := (hR 0 (by omega)).1
    rw [show (((0 : Nat) : Int)) = 0 from rfl] at n0
    refine Tl.succ ?_
    simp only [diaphoneref06_CheckTable.l0]
    refine Tl.neg (by omega) (Tl.pos (by omega) (Tl.pos (by omega) ?_))
    by_cases h00 : get t 0 0 = 0
    · exact Tl.pos h00 (out hR h00)
    · exact Tl.to (Tl.neg h00 Tl.now) (h0 hR h00).symm
  | succ d ih =>
    intro a h1 h2 h3
    have E2 := Aside0.mk (nx' (a := m.length) (by omega))
    refine Tl.succ ?_
    simp only [diaphoneref06_CheckTable.l0]
    rw [E2.out]
    refine Tl.pos (by omega) (Tl.pos (by omega) ?_)
    by_cases hl : (rd_L1 t (a : Int)).length = m.length + 1
    · refine Tl.pos (by omega) (ref_in hL hM ht (show a ≤ l.length by omega) hl (fun hg => ih (a + 1) (by omega) (by omega) (fun a' ha' => ?_)) (fun hn => hF ⟨a, by omega, hn⟩) (m.length + 1) 0 (by omega) (by omega) (fun b hb => by omega))
      by_cases e : a' = a
      · rw [e]; exact hg
      · exact h3 a' (by omega)
    · exact Tl.to (Tl.neg (by omega) Tl.now) (hF ⟨a, by omega, fun q => hl q.1⟩).symm
end
theorem ev_rCheckTable {l m : List Int} {o i c : Int} {t : List (List Int)} (hl : l.length ≤ 1000) (hm : m.length ≤ 1000) : Tl (fun k => diaphoneref06_CheckTable.f k l m o i c t) (ct l m o i c t) := by
  unfold diaphoneref06_CheckTable.f ct
  have E := Aside0.mk (nx' (a := l.length) (by omega))
  rw [E.out]
  refine Tl.bind (ev_costed hl hm) ?_
  by_cases h : kc l m o i c = 0
  · obtain ⟨h1, h2, h3⟩ := kc_zero.1 h
    have g3 := cc_zero.1 h3
    have hL := (lc_zero.1 h1).1
    have hM := (lc_zero.1 h2).1
    rw [if_pos h]
    refine Tl.pos h ?_
    by_cases ht : t.length = l.length + 1
    · rw [if_pos ht]
      refine Tl.pos (by omega) ?_
      refine ref_rows hL hM ht (fun hR h00 => ?_) (fun hR h00 => ?_) ?_ (l.length + 1) 0 (by omega) (by omega) (fun a ha => by omega)
      · rw [if_pos hR]
        exact ref_all hL hM ⟨by omega, by omega⟩ ⟨by omega, by omega⟩ ⟨by omega, by omega⟩ ht hR h00 (l.length + 1) 0 (by omega) (by omega) (fun a ha => by omega)
      · rw [if_pos hR]
        unfold sv
        rw [if_neg (fun q => h00 ((q 0 (by omega) 0 (by omega)).1 ⟨rfl, rfl⟩))]
      · rintro ⟨a, ha, hn⟩
        rw [if_neg (fun q => hn (q a ha))]
    · rw [if_neg ht]; exact Tl.neg (by omega) Tl.now
  · rw [if_neg h]; exact Tl.neg h Tl.now
end Go.Proofs.Ytcbepmdnhjojdaa.Th
