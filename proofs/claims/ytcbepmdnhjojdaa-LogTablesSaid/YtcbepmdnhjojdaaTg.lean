/- Which tables grow slowly. -/
import Derived.Test.YtcbepmdnhjojdaaEn
import Derived.Test.YtcbepmdnhjojdaaPx56
set_option linter.unusedVariables false
namespace Go.Proofs.Ytcbepmdnhjojdaa.Tg
open Go.RowKit Go.Proofs.Ytcbepmdnhjojdaa.P Go.Proofs.Ytcbepmdnhjojdaa.E Go.Proofs.Ytcbepmdnhjojdaa.Al Go.Proofs.Ytcbepmdnhjojdaa.Lo Go.Proofs.Ytcbepmdnhjojdaa.Lr Go.Proofs.Ytcbepmdnhjojdaa.En Go.Proofs.YtcbepmdnhjojdaaW.PrintMore
open Go.Proofs.YtcbepmdnhjojdaaW.PrintWords
/-- A row is as long as it ought to be, with no great number. -/
def Rw (m : List Int) (t : List (List Int)) (a : Nat) : Prop := (rd_L1 t (a : Int)).length = m.length + 1 ∧ ∀ b : Nat, b ≤ m.length → -1000 ≤ get t a b ∧ get t a b ≤ 1000
/-- A number is not more than by one edit above those before it. -/
def Sl (l m : List Int) (o i c : Int) (t : List (List Int)) (a b : Nat) : Prop := (a = 0 ∧ b = 0 → get t a b = 0) ∧ (0 < a → get t a b ≤ get t (a - 1) b + o) ∧ (0 < b → get t a b ≤ get t a (b - 1) + i) ∧ (0 < a → 0 < b → get t a b ≤ get t (a - 1) (b - 1) + ch c (rd l ((a - 1 : Nat) : Int)) (rd m ((b - 1 : Nat) : Int)))
open Classical in
noncomputable def sv (l m : List Int) (o i c : Int) (t : List (List Int)) : Int × Int := if ∀ a, a ≤ l.length → ∀ b, b ≤ m.length → Sl l m o i c t a b then (get t l.length m.length, 0) else (0, 7)
open Classical in
noncomputable def ct (l m : List Int) (o i c : Int) (t : List (List Int)) : Int × Int := if kc l m o i c = 0 then (if t.length = l.length + 1 then (if ∀ a, a ≤ l.length → Rw m t a then sv l m o i c t else (0, 1)) else (0, 1)) else (0, kc l m o i c)
/-! A row is looked through. -/
def inr (r : List Int) : Bool := r.all (fun x => decide (-1000 ≤ x ∧ x ≤ 1000))
theorem inr_drop {t : List Int} {i : Nat} (hi : i < t.length) : inr (t.drop i) = (decide (-1000 ≤ rd t (i : Int) ∧ rd t (i : Int) ≤ 1000) && inr (t.drop (i + 1))) := by
  rw [drop_cons hi, rd_lt hi]; rfl
theorem vloop (t : List Int) (hl : t.length ≤ 1000) (d : Nat) : ∀ i : Nat, i ≤ t.length → t.length - i = d → ∃ j : Int, (j < 0 ↔ inr (t.drop i) = true) ∧ Tl (fun k => slices_IndexFunc_int_int_log_CheckTable_1.l0 k t (t.length : Int) (i : Int)) j := by
  induction d with
  | zero =>
    intro i h1 h2
    refine ⟨-1, ?_, ?_⟩
    · rw [List.drop_eq_nil_of_le (by omega)]; simp [inr]
    · refine Tl.succ ?_
      simp only [slices_IndexFunc_int_int_log_CheckTable_1.l0]
      exact Tl.neg (by omega) Tl.now
  | succ d ih =>
    intro i h1 h2
    have hlt : i < t.length := by omega
    obtain ⟨j, hj, next⟩ := ih (i + 1) (by omega) (by omega)
    have E := Aside0.mk (nx' (a := i) (by omega))
    rw [inr_drop hlt]
    have e : log_CheckTable_1.f (rd t (i : Int)) = some (!decide (-1000 ≤ rd t (i : Int) ∧ rd t (i : Int) ≤ 1000)) := by
      unfold log_CheckTable_1.f
      rw [within_eq]; rfl
    by_cases c : -1000 ≤ rd t (i : Int) ∧ rd t (i : Int) ≤ 1000
    · refine ⟨j, by rw [hj]; simp [c], ?_⟩
      refine Tl.succ ?_
      simp only [slices_IndexFunc_int_int_log_CheckTable_1.l0]
      rw [E.out]
      exact Tl.pos (by omega) (Tl.pos (by omega) (Tl.pos (by omega) (Tl.bind' e (Tl.neg (by simp [c]) next))))
    · refine ⟨(i : Int), ⟨fun q => by omega, fun q => by simp [c] at q⟩, ?_⟩
      refine Tl.succ ?_
      simp only [slices_IndexFunc_int_int_log_CheckTable_1.l0]
      exact Tl.pos (by omega) (Tl.pos (by omega) (Tl.pos (by omega) (Tl.bind' e (Tl.pos (by simp [c]) Tl.now))))
theorem ev_inr {t : List Int} (hl : t.length ≤ 1000) : Tl (fun k => slices_ContainsFunc_int_int_log_CheckTable_1.f k t) (!inr t) := by
  unfold slices_ContainsFunc_int_int_log_CheckTable_1.f
  obtain ⟨j, hj, hr⟩ := vloop t hl t.length 0 (by omega) (by omega)
  rw [List.drop_zero] at hj
  refine Tl.to (Tl.bind hr Tl.now) ?_
  cases hb : inr t with
  | true => rw [hb] at hj; have := hj.2 rfl; simp; omega
  | false => rw [hb] at hj; have : ¬ j < 0 := fun q => by simpa using hj.1 q
             simp; omega
theorem inr_get {t : List (List Int)} {m : List Int} {a : Nat} (hl : (rd_L1 t (a : Int)).length = m.length + 1) : inr (rd_L1 t (a : Int)) = true ↔ ∀ b : Nat, b ≤ m.length → -1000 ≤ get t a b ∧ get t a b ≤ 1000 := by
  unfold inr En.get
  rw [List.all_eq_true]
  constructor
  · intro h b hb
    have := h ((rd_L1 t (a : Int))[b]'(by omega)) (List.getElem_mem _)
    rw [rd_lt (by omega)]
    simpa using this
  · intro h x hx
    obtain ⟨b, hb, e⟩ := List.getElem_of_mem hx
    have := h b (by omega)
    rw [rd_lt hb, e] at this
    simpa using this
section
variable {l m : List Int} {o i c : Int} {t : List (List Int)} (hL : l.length ≤ 10) (hM : m.length ≤ 10) (ho : 0 ≤ o ∧ o ≤ 9) (hi : 0 ≤ i ∧ i ≤ 9) (hc : 0 ≤ c ∧ c ≤ 9) (ht : t.length = l.length + 1)
include hL hM ho hi hc ht
theorem log_step (hR : ∀ a, a ≤ l.length → Rw m t a) {a b : Nat} (ha : a ≤ l.length) (hb : b ≤ m.length) {r : Int × Int}
    (hT : Sl l m o i c t a b → Tl (fun k => log_CheckTable.l2 k l m t (a : Int) (rd_L1 t (a : Int)) t (t.length : Int) (a : Int) (rd_L1 t (a : Int)) ((rd_L1 t (a : Int)).length : Int) ((b + 1 : Nat) : Int) o i c) r)
    (hF : ¬ Sl l m o i c t a b → r = (0, 7)) :
    Tl (fun k => log_CheckTable.l2 k l m t (a : Int) (rd_L1 t (a : Int)) t (t.length : Int) (a : Int) (rd_L1 t (a : Int)) ((rd_L1 t (a : Int)).length : Int) (b : Int) o i c) r := by
  obtain ⟨n1, hg⟩ := hR a ha
  have g0 := hg b hb
  have e0 : rd (rd_L1 t (a : Int)) (b : Int) = get t a b := rfl
  have EB := Aside0.mk (nx' (a := b) (by omega))
  have J5t : Tl (fun k => log_CheckTable.j5 k l m t (a : Int) (rd_L1 t (a : Int)) (b : Int) (get t a b) t (t.length : Int) (a : Int) (rd_L1 t (a : Int)) ((rd_L1 t (a : Int)).length : Int) (b : Int) true o i c) (0, 7) := by
    refine Tl.succ ?_
    simp only [log_CheckTable.j5]
    exact Tl.pos trivial Tl.now
  have J4t : Tl (fun k => log_CheckTable.j4 k l m t (a : Int) (rd_L1 t (a : Int)) (b : Int) (get t a b) t (t.length : Int) (a : Int) (rd_L1 t (a : Int)) ((rd_L1 t (a : Int)).length : Int) (b : Int) true o i c) (0, 7) := by
    refine Tl.succ ?_
    simp only [log_CheckTable.j4]
    exact Tl.pos trivial Tl.now
  have J3t : Tl (fun k => log_CheckTable.j3 k l m t (a : Int) (rd_L1 t (a : Int)) (b : Int) (get t a b) t (t.length : Int) (a : Int) (rd_L1 t (a : Int)) ((rd_L1 t (a : Int)).length : Int) (b : Int) true o i c) (0, 7) := by
    refine Tl.succ ?_
    simp only [log_CheckTable.j3]
    exact Tl.pos trivial Tl.now
  have J5 : (a = 0 ∧ b = 0 → get t a b = 0) → (0 < a → get t a b ≤ get t (a - 1) b + o) → (0 < b → get t a b ≤ get t a (b - 1) + i) → Tl (fun k => log_CheckTable.j5 k l m t (a : Int) (rd_L1 t (a : Int)) (b : Int) (get t a b) t (t.length : Int) (a : Int) (rd_L1 t (a : Int)) ((rd_L1 t (a : Int)).length : Int) (b : Int) false o i c) r := by
    intro c1 c2 c3
    refine Tl.succ ?_
    simp only [log_CheckTable.j5]
    rw [EB.out]
    refine Tl.neg (by simp) ?_
    by_cases ha0 : 0 < a
    · refine Tl.pos (by omega) ?_
      by_cases hb0 : 0 < b
      · obtain ⟨n2, hg2⟩ := hR (a - 1) (by omega)
        have g4 := hg2 (b - 1) (by omega)
        have rc := ch_range hc.1 (rd l ((a - 1 : Nat) : Int)) (rd m ((b - 1 : Nat) : Int))
        have E1 := Aside0.mk (show wrap64 ((a : Int) - 1) = ((a - 1 : Nat) : Int) by rw [w64 (by omega) (by omega)]; omega)
        have E2 := Aside0.mk (show wrap64 ((b : Int) - 1) = ((b - 1 : Nat) : Int) by rw [w64 (by omega) (by omega)]; omega)
        have E3 := Aside0.mk (show wrap64 (get t (a - 1) (b - 1) + ch c (rd l ((a - 1 : Nat) : Int)) (rd m ((b - 1 : Nat) : Int))) = get t (a - 1) (b - 1) + ch c (rd l ((a - 1 : Nat) : Int)) (rd m ((b - 1 : Nat) : Int)) from w64 (by omega) (by omega))
        rw [E1.out, E2.out]
        refine Tl.pos (by omega) (Tl.pos (by omega) (Tl.pos (by omega) (Tl.pos (by omega) (Tl.pos (by omega) (Tl.pos (by omega) (Tl.pos (by omega) (Tl.bind' (a := ch c (rd l ((a - 1 : Nat) : Int)) (rd m ((b - 1 : Nat) : Int))) rfl ?_)))))))
        rw [show rd (rd_L1 t ((a - 1 : Nat) : Int)) ((b - 1 : Nat) : Int) = get t (a - 1) (b - 1) from rfl, E3.out]
        by_cases c4 : get t a b ≤ get t (a - 1) (b - 1) + ch c (rd l ((a - 1 : Nat) : Int)) (rd m ((b - 1 : Nat) : Int))
        · exact Tl.neg (by omega) (hT ⟨c1, c2, c3, fun _ _ => c4⟩)
        · exact Tl.to (Tl.pos (by omega) Tl.now) (hF (fun q => c4 (q.2.2.2 ha0 hb0))).symm
      · exact Tl.neg (by omega) (hT ⟨c1, c2, c3, fun _ q => absurd q hb0⟩)
    · exact Tl.neg (by omega) (hT ⟨c1, c2, c3, fun q => absurd q ha0⟩)
  have J4 : (a = 0 ∧ b = 0 → get t a b = 0) → (0 < a → get t a b ≤ get t (a - 1) b + o) → Tl (fun k => log_CheckTable.j4 k l m t (a : Int) (rd_L1 t (a : Int)) (b : Int) (get t a b) t (t.length : Int) (a : Int) (rd_L1 t (a : Int)) ((rd_L1 t (a : Int)).length : Int) (b : Int) false o i c) r := by
    intro c1 c2
    refine Tl.succ ?_
    simp only [log_CheckTable.j4]
    refine Tl.neg (by simp) ?_
    by_cases hb0 : 0 < b
    · have g3 := hg (b - 1) (by omega)
      have E2 := Aside0.mk (show wrap64 ((b : Int) - 1) = ((b - 1 : Nat) : Int) by rw [w64 (by omega) (by omega)]; omega)
      have E3 := Aside0.mk (show wrap64 (get t a (b - 1) + i) = get t a (b - 1) + i from w64 (by omega) (by omega))
      rw [E2.out, show rd (rd_L1 t (a : Int)) ((b - 1 : Nat) : Int) = get t a (b - 1) from rfl, E3.out]
      refine Tl.pos (by omega) (Tl.pos (by omega) (Tl.pos (by omega) ?_))
      by_cases c3 : get t a b ≤ get t a (b - 1) + i
      · rw [decide_eq_false (show ¬ get t a b > get t a (b - 1) + i by omega)]
        exact J5 c1 c2 (fun _ => c3)
      · rw [decide_eq_true (show get t a b > get t a (b - 1) + i by omega)]
        exact Tl.to J5t (hF (fun q => c3 (q.2.2.1 hb0))).symm
    · exact Tl.neg (by omega) (J5 c1 c2 (fun q => absurd q hb0))
  have J3 : (a = 0 ∧ b = 0 → get t a b = 0) → Tl (fun k => log_CheckTable.j3 k l m t (a : Int) (rd_L1 t (a : Int)) (b : Int) (get t a b) t (t.length : Int) (a : Int) (rd_L1 t (a : Int)) ((rd_L1 t (a : Int)).length : Int) (b : Int) false o i c) r := by
    intro c1
    refine Tl.succ ?_
    simp only [log_CheckTable.j3]
    refine Tl.neg (by simp) ?_
    by_cases ha0 : 0 < a
    · obtain ⟨n2, hg2⟩ := hR (a - 1) (by omega)
      have g2 := hg2 b hb
      have E1 := Aside0.mk (show wrap64 ((a : Int) - 1) = ((a - 1 : Nat) : Int) by rw [w64 (by omega) (by omega)]; omega)
      have E3 := Aside0.mk (show wrap64 (get t (a - 1) b + o) = get t (a - 1) b + o from w64 (by omega) (by omega))
      rw [E1.out, show rd (rd_L1 t ((a - 1 : Nat) : Int)) (b : Int) = get t (a - 1) b from rfl, E3.out]
      refine Tl.pos (by omega) (Tl.pos (by omega) (Tl.pos (by omega) (Tl.pos (by omega) (Tl.pos (by omega) ?_))))
      by_cases c2 : get t a b ≤ get t (a - 1) b + o
      · rw [decide_eq_false (show ¬ get t a b > get t (a - 1) b + o by omega)]
        exact J4 c1 (fun _ => c2)
      · rw [decide_eq_true (show get t a b > get t (a - 1) b + o by omega)]
        exact Tl.to J4t (hF (fun q => c2 (q.2.1 ha0))).symm
    · exact Tl.neg (by omega) (J4 c1 (fun q => absurd q ha0))
  refine Tl.succ ?_
  simp only [log_CheckTable.l2]
  rw [e0]
  refine Tl.pos (by omega) (Tl.pos (by omega) (Tl.pos (by omega) ?_))
  by_cases ha0 : a = 0
  · refine Tl.pos (by omega) ?_
    by_cases hb0 : b = 0
    · refine Tl.pos (by omega) ?_
      by_cases c1 : get t a b = 0
      · rw [show (get t a b != 0) = false by simpa using c1]
        exact J3 (fun _ => c1)
      · rw [show (get t a b != 0) = true by simpa using c1]
        exact Tl.to J3t (hF (fun q => c1 (q.1 ⟨ha0, hb0⟩))).symm
    · exact Tl.neg (by omega) (J3 (fun q => absurd q.2 hb0))
  · exact Tl.neg (by omega) (J3 (fun q => absurd q.1 ha0))
theorem log_row (hR : ∀ a, a ≤ l.length → Rw m t a) {a : Nat} (ha : a ≤ l.length) {r : Int × Int}
    (out : (∀ b, b ≤ m.length → Sl l m o i c t a b) → Tl (fun k => log_CheckTable.l1 k l m t t (t.length : Int) ((a + 1 : Nat) : Int) o i c) r)
    (hF : (∃ b, b ≤ m.length ∧ ¬ Sl l m o i c t a b) → r = (0, 7)) : ∀ (d b : Nat), b ≤ m.length + 1 → m.length + 1 - b = d → (∀ b', b' < b → Sl l m o i c t a b') →
    Tl (fun k => log_CheckTable.l2 k l m t (a : Int) (rd_L1 t (a : Int)) t (t.length : Int) (a : Int) (rd_L1 t (a : Int)) ((rd_L1 t (a : Int)).length : Int) (b : Int) o i c) r := by
  intro d
  have n1 := (hR a ha).1
  induction d with
  | zero =>
    intro b h1 h2 h3
    have E1 := Aside0.mk (nx' (a := a) (by omega))
    refine Tl.succ ?_
    simp only [log_CheckTable.l2]
    rw [E1.out]
    exact Tl.neg (by omega) (out (fun b' hb' => h3 b' (by omega)))
  | succ d ih =>
    intro b h1 h2 h3
    refine log_step hL hM ho hi hc ht hR ha (by omega) (fun hs => ih (b + 1) (by omega) (by omega) (fun b' hb' => ?_)) (fun hn => hF ⟨b, by omega, hn⟩)
    by_cases e : b' = b
    · rw [e]; exact hs
    · exact h3 b' (by omega)
theorem log_all (hR : ∀ a, a ≤ l.length → Rw m t a) : ∀ (d a : Nat), a ≤ l.length + 1 → l.length + 1 - a = d → (∀ a', a' < a → ∀ b, b ≤ m.length → Sl l m o i c t a' b) →
    Tl (fun k => log_CheckTable.l1 k l m t t (t.length : Int) (a : Int) o i c) (sv l m o i c t) := by
  intro d
  induction d with
  | zero =>
    intro a h1 h2 h3
    have n1 := (hR l.length (Nat.le_refl _)).1
    refine Tl.succ ?_
    simp only [log_CheckTable.l1]
    refine Tl.neg (by omega) (Tl.pos (by omega) (Tl.pos (by omega) (Tl.pos (by omega) (Tl.pos (by omega) (Tl.to Tl.now ?_)))))
    unfold sv
    rw [if_pos (fun a' ha' b hb => h3 a' (by omega) b hb)]; rfl
  | succ d ih =>
    intro a h1 h2 h3
    refine Tl.succ ?_
    simp only [log_CheckTable.l1]
    refine Tl.pos (by omega) (Tl.pos (by omega) (Tl.pos (by omega) (log_row hL hM ho hi hc ht hR (show a ≤ l.length by omega) (fun hs => ih (a + 1) (by omega) (by omega) (fun a' ha' b hb => ?_)) ?_ (m.length + 1) 0 (by omega) (by omega) (fun b hb => by omega))))
    · by_cases e : a' = a
      · rw [e]; exact hs b hb
      · exact h3 a' (by omega) b hb
    · rintro ⟨b, hb, hn⟩
      unfold sv
      rw [if_neg (fun q => hn (q a (by omega) b hb))]
omit ho hi hc in
theorem log_rows {r : Int × Int} (out : (∀ a, a ≤ l.length → Rw m t a) → Tl (fun k => log_CheckTable.l1 k l m t t (t.length : Int) 0 o i c) r) (hF : (∃ a, a ≤ l.length ∧ ¬ Rw m t a) → r = (0, 1)) (hlen : ∀ a : Nat, a ≤ l.length → (rd_L1 t (a : Int)).length ≤ 1000) : ∀ (d a : Nat), a ≤ l.length + 1 → l.length + 1 - a = d → (∀ a', a' < a → Rw m t a') →
    Tl (fun k => log_CheckTable.l0 k l m t t (t.length : Int) (a : Int) o i c) r := by
  intro d
  induction d with
  | zero =>
    intro a h1 h2 h3
    refine Tl.succ ?_
    simp only [log_CheckTable.l0]
    exact Tl.neg (by omega) (out (fun a' ha' => h3 a' (by omega)))
  | succ d ih =>
    intro a h1 h2 h3
    have E1 := Aside0.mk (nx' (a := a) (by omega))
    have E2 := Aside0.mk (nx' (a := m.length) (by omega))
    refine Tl.succ ?_
    simp only [log_CheckTable.l0]
    rw [E1.out, E2.out]
    refine Tl.pos (by omega) (Tl.pos (by omega) (Tl.pos (by omega) ?_))
    by_cases hl : (rd_L1 t (a : Int)).length = m.length + 1
    · refine Tl.pos (by omega) (Tl.bind (ev_inr (hlen a (by omega))) ?_)
      by_cases hg : inr (rd_L1 t (a : Int)) = true
      · refine Tl.neg (by simp [hg]) (ih (a + 1) (by omega) (by omega) (fun a' ha' => ?_))
        by_cases e : a' = a
        · rw [e]; exact ⟨hl, (inr_get hl).1 hg⟩
        · exact h3 a' (by omega)
      · exact Tl.to (Tl.pos (by simp [hg]) Tl.now) (hF ⟨a, by omega, fun q => hg ((inr_get hl).2 q.2)⟩).symm
    · exact Tl.to (Tl.neg (by omega) Tl.now) (hF ⟨a, by omega, fun q => hl q.1⟩).symm
end
theorem ev_CheckTable {l m : List Int} {o i c : Int} {t : List (List Int)} (hl : l.length ≤ 1000) (hm : m.length ≤ 1000) (hlen : ∀ a : Nat, a < t.length → (rd_L1 t (a : Int)).length ≤ 1000) : Tl (fun k => log_CheckTable.f k l m o i c t) (ct l m o i c t) := by
  unfold log_CheckTable.f ct
  have E := Aside0.mk (nx' (a := l.length) (by omega))
  rw [E.out]
  refine Tl.bind (ev_check hl hm) ?_
  by_cases h : kc l m o i c = 0
  · obtain ⟨h1, h2, h3⟩ := kc_zero.1 h
    have g3 := cc_zero.1 h3
    have hL := (lc_zero.1 h1).1
    have hM := (lc_zero.1 h2).1
    rw [if_pos h]
    refine Tl.pos h ?_
    by_cases ht : t.length = l.length + 1
    · rw [if_pos ht]
      refine Tl.pos (by omega) ?_
      refine log_rows hL hM ht (fun hR => ?_) ?_ (fun a ha => hlen a (by omega)) (l.length + 1) 0 (by omega) (by omega) (fun a ha => by omega)
      · rw [if_pos hR]
        exact log_all hL hM ⟨by omega, by omega⟩ ⟨by omega, by omega⟩ ⟨by omega, by omega⟩ ht hR (l.length + 1) 0 (by omega) (by omega) (fun a ha => by omega)
      · rintro ⟨a, ha, hn⟩
        rw [if_neg (fun q => hn (q a ha))]
    · rw [if_neg ht]; exact Tl.neg (by omega) Tl.now
  · rw [if_neg h]; exact Tl.neg h Tl.now
/-- What grows slowly is nowhere above the distance. -/
theorem sl_le {l m : List Int} {o i c : Int} {t : List (List Int)} (h : ∀ a, a ≤ l.length → ∀ b, b ≤ m.length → Sl l m o i c t a b) : ∀ a b : Nat, a ≤ l.length → b ≤ m.length → get t a b ≤ log_tb l m o i c a b
  | 0, 0, ha, hb => by
    have := (h 0 ha 0 hb).1 ⟨rfl, rfl⟩
    rw [log_tb, this]; simp
  | 0, b + 1, ha, hb => by
    have h1 := (h 0 ha (b + 1) hb).2.2.1 (by omega)
    have h2 := sl_le h 0 b ha (by omega)
    rw [Nat.add_sub_cancel] at h1
    rw [log_tb] at h2 ⊢
    rw [show ((b + 1 : Nat) : Int) = (b : Int) + 1 by omega, Int.add_mul, Int.one_mul]; omega
  | a + 1, 0, ha, hb => by
    have h1 := (h (a + 1) ha 0 hb).2.1 (by omega)
    have h2 := sl_le h a 0 (by omega) hb
    rw [Nat.add_sub_cancel] at h1
    have e : log_tb l m o i c a 0 = (a : Int) * o := by
      cases a with
      | zero => rw [log_tb]; simp
      | succ a => rw [log_tb]
    rw [log_tb, show ((a + 1 : Nat) : Int) = (a : Int) + 1 by omega, Int.add_mul, Int.one_mul]; omega
  | a + 1, b + 1, ha, hb => by
    obtain ⟨_, s1, s2, s3⟩ := h (a + 1) ha (b + 1) hb
    have s1 := s1 (by omega)
    have s2 := s2 (by omega)
    have s3 := s3 (by omega) (by omega)
    rw [Nat.add_sub_cancel] at s1 s3
    rw [Nat.add_sub_cancel] at s2 s3
    have h1 := sl_le h a (b + 1) (by omega) hb
    have h2 := sl_le h (a + 1) b ha (by omega)
    have h3 := sl_le h a b (by omega) (by omega)
    conv => rhs; rw [log_tb]
    rw [mn_eq, mn_eq]
    rw [show log_ch c (rd l (a : Int)) (rd m (b : Int)) = ch c (rd l (a : Int)) (rd m (b : Int)) from rfl]; omega
  termination_by a b => (a, b)
end Go.Proofs.Ytcbepmdnhjojdaa.Tg
