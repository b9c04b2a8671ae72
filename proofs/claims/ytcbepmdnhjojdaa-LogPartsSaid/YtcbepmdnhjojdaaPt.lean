/- The first longest list that is part of two logs: the document's way, and the program's, to the same list. -/
import Derived.Test.YtcbepmdnhjojdaaCt
import Derived.Test.YtcbepmdnhjojdaaPx27
import Derived.Test.YtcbepmdnhjojdaaPx23
set_option linter.unusedVariables false
namespace Go.Proofs.Ytcbepmdnhjojdaa.Pt
open Go.RowKit Go.Proofs.Ytcbepmdnhjojdaa.P Go.Proofs.Ytcbepmdnhjojdaa.E Go.Proofs.Ytcbepmdnhjojdaa.Al Go.Proofs.Ytcbepmdnhjojdaa.Lo Go.Proofs.Ytcbepmdnhjojdaa.Lr Go.Proofs.Ytcbepmdnhjojdaa.Re Go.Proofs.Ytcbepmdnhjojdaa.Co Go.Proofs.Ytcbepmdnhjojdaa.Ct Go.Proofs.YtcbepmdnhjojdaaW.PrintMore
open Go.Proofs.YtcbepmdnhjojdaaW.PrintWords
theorem fx_drop {l : List Int} {i : Nat} (hi : i < l.length) (s : Int) : fx s (l.drop i) (i : Int) = if s = rd l (i : Int) then (i : Int) else fx s (l.drop (i + 1)) ((i + 1 : Nat) : Int) := by
  rw [drop_cons hi, fx, rd_lt hi]
  rw [show (i : Int) + 1 = ((i + 1 : Nat) : Int) by omega]
/-- The last loop of the document's: the place of the first s in the second log. -/
theorem find2 {l m best : List Int} {s a : Int} (hm : m.length ≤ 1000) {r : List Int} : ∀ i : Nat, i ≤ m.length →
    (out : Tl (fun k => if a < 0 then diaphoneref06_part.j3 k l m best s a (fx s m 0) true else diaphoneref06_part.j3 k l m best s a (fx s m 0) (decide (fx s m 0 < 0))) r) →
    Tl (fun k => diaphoneref06_part.l2 k l m best s a (fx s (m.drop i) (i : Int)) ((i : Int) - 1)) r
  | 0, _, out => by
    refine Tl.succ ?_
    simp only [diaphoneref06_part.l2]
    rw [List.drop_zero]
    exact Tl.neg (by omega) out
  | i + 1, hi, out => by
    have next := find2 (l := l) (best := best) (s := s) (a := a) hm i (by omega) out
    rw [fx_drop (by omega)] at next
    refine Tl.succ ?_
    simp only [diaphoneref06_part.l2]
    rw [show ((i + 1 : Nat) : Int) - 1 = (i : Int) by omega, w64 (x := (i : Int) - 1) (by omega) (by omega)]
    refine Tl.pos (by omega) (Tl.pos (by omega) (Tl.pos (by omega) ?_))
    by_cases e : s = rd m (i : Int)
    · rw [if_pos e] at next
      exact Tl.pos e.symm next
    · rw [if_neg e] at next
      exact Tl.neg (fun q => e q.symm) next
theorem find1 {l m best : List Int} {s : Int} (hl : l.length ≤ 1000) (hm : m.length ≤ 1000) {r : List Int}
    (out : Tl (fun k => if fx s l 0 < 0 then diaphoneref06_part.j3 k l m best s (fx s l 0) (fx s m 0) true else diaphoneref06_part.j3 k l m best s (fx s l 0) (fx s m 0) (decide (fx s m 0 < 0))) r) : ∀ i : Nat, i ≤ l.length →
    Tl (fun k => diaphoneref06_part.l1 k l m best s (fx s (l.drop i) (i : Int)) (-1) ((i : Int) - 1)) r
  | 0, _ => by
    have f2 := find2 (l := l) (m := m) (best := best) (s := s) (a := fx s l 0) hm (r := r) m.length (Nat.le_refl _) out
    rw [List.drop_length, show fx s [] ((m.length : Nat) : Int) = -1 from rfl] at f2
    refine Tl.succ ?_
    simp only [diaphoneref06_part.l1]
    rw [List.drop_zero, w64 (x := (m.length : Int) - 1) (by omega) (by omega)]
    exact Tl.neg (by omega) f2
  | i + 1, hi => by
    have next := find1 (l := l) (m := m) (best := best) (s := s) hl hm out i (by omega)
    rw [fx_drop (by omega)] at next
    refine Tl.succ ?_
    simp only [diaphoneref06_part.l1]
    rw [show ((i + 1 : Nat) : Int) - 1 = (i : Int) by omega, w64 (x := (i : Int) - 1) (by omega) (by omega)]
    refine Tl.pos (by omega) (Tl.pos (by omega) (Tl.pos (by omega) ?_))
    by_cases e : s = rd l (i : Int)
    · rw [if_pos e] at next
      exact Tl.pos e.symm next
    · rw [if_neg e] at next
      exact Tl.neg (fun q => e q.symm) next
/-- Where the best one stands before sign s. -/
def Bst (l m : List Int) (s : Nat) (b : List Int) : Prop :=
  (IsP l m b ∧ ∃ j : Nat, j < s ∧ hit l m (j : Int)) ∨ ((∀ j : Nat, j < s → ¬ hit l m (j : Int)) ∧ (b.length < cm l m ∨ cm l m = 0 ∧ b = []))
theorem good_hit {l m : List Int} (hl : good l = true) (h : 0 < cm l m) : ∃ j : Nat, j < 6 ∧ hit l m (j : Int) := by
  obtain ⟨s, hs, hh⟩ := hit_some h
  have hb := good_mem.1 hl s hs
  obtain ⟨n, rfl⟩ := Int.eq_ofNat_of_zero_le hb.1
  exact ⟨n, by omega, hh⟩
theorem bst_end {l m b : List Int} (hl : good l = true) (h : Bst l m 6 b) : IsP l m b := by
  rcases h with h | ⟨h1, h2⟩
  · exact h.1
  · by_cases c : cm l m = 0
    · rcases h2 with h2 | h2
      · omega
      · rw [h2.2]; exact .nil c
    · obtain ⟨j, hj, hh⟩ := good_hit hl (m := m) (by omega)
      exact absurd hh (h1 j hj)
theorem bst_skip {l m b : List Int} {s : Nat} (h : Bst l m s b) (hn : ¬ hit l m (s : Int)) : Bst l m (s + 1) b := by
  rcases h with ⟨h1, j, h2, h3⟩ | ⟨h1, h2⟩
  · exact .inl ⟨h1, j, by omega, h3⟩
  · refine .inr ⟨fun j hj => ?_, h2⟩
    by_cases e : j = s
    · rw [e]; exact hn
    · exact h1 j (by omega)
theorem ref_signs {l m : List Int} (hl : l.length ≤ 1000) (hm : m.length ≤ 1000) (gl : good l = true)
    (ih : ∀ l' m' : List Int, l'.length < l.length → l'.length ≤ 1000 → m'.length ≤ 1000 → good l' = true → ∃ p, IsP l' m' p ∧ Tl (fun k => diaphoneref06_part.f k l' m') p) (d : Nat) :
    ∀ (s : Nat) (b : List Int), s + d = 6 → Bst l m s b → b.length ≤ 1000 → ∃ p, IsP l m p ∧ Tl (fun k => diaphoneref06_part.l0 k l m b (s : Int)) p := by
  induction d with
  | zero =>
    intro s b h1 h2 h3
    have e : s = 6 := by omega
    refine ⟨b, bst_end gl (e ▸ h2), Tl.succ ?_⟩
    simp only [diaphoneref06_part.l0]
    exact Tl.neg (by omega) Tl.now
  | succ d ihd =>
    intro s b h1 h2 h3
    have start : ∀ {r : List Int}, Tl (fun k => if fx (s : Int) l 0 < 0 then diaphoneref06_part.j3 k l m b (s : Int) (fx (s : Int) l 0) (fx (s : Int) m 0) true else diaphoneref06_part.j3 k l m b (s : Int) (fx (s : Int) l 0) (fx (s : Int) m 0) (decide (fx (s : Int) m 0 < 0))) r → Tl (fun k => diaphoneref06_part.l0 k l m b (s : Int)) r := by
      intro r out
      have f1 := find1 (l := l) (m := m) (best := b) (s := (s : Int)) hl hm out l.length (Nat.le_refl _)
      rw [List.drop_length, show fx (s : Int) [] ((l.length : Nat) : Int) = -1 from rfl] at f1
      refine Tl.succ ?_
      simp only [diaphoneref06_part.l0]
      rw [w64 (x := (l.length : Int) - 1) (by omega) (by omega)]
      exact Tl.pos (by omega) f1
    have skip : ¬ (0 ≤ fx (s : Int) l 0 ∧ 0 ≤ fx (s : Int) m 0) → ∃ p, IsP l m p ∧ Tl (fun k => diaphoneref06_part.l0 k l m b (s : Int)) p := by
      intro hne
      obtain ⟨p, k1, k2⟩ := ihd (s + 1) b (by omega) (bst_skip h2 (fun q => hne q.1)) h3
      rw [show ((s + 1 : Nat) : Int) = (s : Int) + 1 by omega] at k2
      refine ⟨p, k1, start ?_⟩
      have jt : Tl (fun k => diaphoneref06_part.j3 k l m b (s : Int) (fx (s : Int) l 0) (fx (s : Int) m 0) true) p := by
        refine Tl.succ ?_
        simp only [diaphoneref06_part.j3]
        rw [w64 (x := (s : Int) + 1) (by omega) (by omega)]
        exact Tl.pos trivial k2
      by_cases c : fx (s : Int) l 0 < 0
      · exact Tl.pos c jt
      · refine Tl.neg c ?_
        rw [decide_eq_true (show fx (s : Int) m 0 < 0 by omega)]
        exact jt
    by_cases hne : 0 ≤ fx (s : Int) l 0 ∧ 0 ≤ fx (s : Int) m 0
    case neg => exact skip hne
    have bl := bh_len hne.1
    have bm := bh_len hne.2
    have ll : (bh (s : Int) l).length < l.length := by unfold bh; rw [List.length_drop]; omega
    have lm : (bh (s : Int) m).length ≤ 1000 := by unfold bh; rw [List.length_drop]; omega
    have ll2 : (bh (s : Int) l).length ≤ 1000 := by unfold bh; rw [List.length_drop]; omega
    obtain ⟨q, hq, eq⟩ := ih (bh (s : Int) l) (bh (s : Int) m) ll ll2 lm (good_bh gl)
    have ql := (isP_sub hq).2.2
    have le := hit_le hne.1 hne.2
    have qb := (cm_len (bh (s : Int) l) (bh (s : Int) m)).1
    -- the arm of a sign that both have
    have arm : ∀ {r : List Int}, Tl (fun k => if wrap64 ((q.length : Int) + 1) > (b.length : Int) then diaphoneref06_part.l0 k l m ((s : Int) :: q) ((s : Int) + 1) else diaphoneref06_part.l0 k l m b ((s : Int) + 1)) r → Tl (fun k => diaphoneref06_part.l0 k l m b (s : Int)) r := by
      intro r out
      refine start (Tl.neg (by omega) ?_)
      rw [decide_eq_false (show ¬ fx (s : Int) m 0 < 0 by omega)]
      refine Tl.succ ?_
      simp only [diaphoneref06_part.j3]
      rw [w64 (x := (s : Int) + 1) (by omega) (by omega), w64 (x := fx (s : Int) l 0 + 1) (by omega) (by omega), w64 (x := fx (s : Int) m 0 + 1) (by omega) (by omega)]
      rw [show (fx (s : Int) l 0 + 1).toNat = (fx (s : Int) l 0).toNat + 1 by omega, show (fx (s : Int) m 0 + 1).toNat = (fx (s : Int) m 0).toNat + 1 by omega]
      refine Tl.neg (by simp) (Tl.pos (by omega) (Tl.pos (by omega) (Tl.pos (by omega) (Tl.pos (by omega) (Tl.bind eq ?_)))))
      obtain ⟨K, hK⟩ := out
      refine ⟨K, fun k hk => ?_⟩
      have := hK k hk
      simp only [Option.bind_some, List.cons_append, List.nil_append, List.length_cons, List.length_nil] at this ⊢
      rw [if_pos (show 0 + 1 + q.length < 17592186044416 by omega)]
      exact this
    rw [w64 (x := (q.length : Int) + 1) (by omega) (by omega)] at arm
    have hs1 : ((s + 1 : Nat) : Int) = (s : Int) + 1 := by omega
    by_cases c : (q.length : Int) + 1 > (b.length : Int)
    · -- a longer one
      have hb : Bst l m (s + 1) ((s : Int) :: q) := by
        by_cases hh : hit l m (s : Int)
        · rcases h2 with ⟨k1, _⟩ | ⟨k1, k2⟩
          · have := (isP_sub k1).2.2
            have := hh.2
            omega
          · exact .inl ⟨.cons (by have := hh.2; omega) (by omega) hh k1 hq, s, by omega, hh⟩
        · rcases h2 with ⟨k1, _⟩ | ⟨k1, k2⟩
          · have := (isP_sub k1).2.2
            omega
          · refine .inr ⟨fun j hj => ?_, .inl ?_⟩
            · by_cases e : j = s
              · rw [e]; exact hh
              · exact k1 j (by omega)
            · have : cm (bh (s : Int) l) (bh (s : Int) m) + 1 ≠ cm l m := fun e => hh ⟨hne, e⟩
              simp only [List.length_cons]; omega
      obtain ⟨p, k1, k2⟩ := ihd (s + 1) ((s : Int) :: q) (by omega) hb (by simp only [List.length_cons]; omega)
      rw [hs1] at k2
      exact ⟨p, k1, arm (Tl.pos c k2)⟩
    · have hb : Bst l m (s + 1) b := by
        rcases h2 with ⟨k1, j, k2, k3⟩ | ⟨k1, k2⟩
        · exact .inl ⟨k1, j, by omega, k3⟩
        · refine .inr ⟨fun j hj => ?_, k2⟩
          by_cases e : j = s
          · rw [e]; intro hh
            have := hh.2
            rcases k2 with k2 | k2
            · omega
            · omega
          · exact k1 j (by omega)
      obtain ⟨p, k1, k2⟩ := ihd (s + 1) b (by omega) hb h3
      rw [hs1] at k2
      exact ⟨p, k1, arm (Tl.neg c k2)⟩
theorem ref_part (n : Nat) : ∀ (l m : List Int), l.length ≤ n → l.length ≤ 1000 → m.length ≤ 1000 → good l = true → ∃ p, IsP l m p ∧ Tl (fun k => diaphoneref06_part.f k l m) p := by
  have key : ∀ (l m : List Int), l.length ≤ 1000 → m.length ≤ 1000 → good l = true → (∀ l' m' : List Int, l'.length < l.length → l'.length ≤ 1000 → m'.length ≤ 1000 → good l' = true → ∃ p, IsP l' m' p ∧ Tl (fun k => diaphoneref06_part.f k l' m') p) → ∃ p, IsP l m p ∧ Tl (fun k => diaphoneref06_part.f k l m) p := by
    intro l m hl hm gl ih
    obtain ⟨p, h1, h2⟩ := ref_signs hl hm gl ih 6 0 [] (by omega) (.inr ⟨fun j hj => by omega, by
      by_cases c : cm l m = 0
      · exact .inr ⟨c, rfl⟩
      · exact .inl (by simp; omega)⟩) (by simp)
    refine ⟨p, h1, Tl.succ ?_⟩
    simp only [diaphoneref06_part.f]
    exact h2
  induction n with
  | zero => exact fun l m hn hl hm gl => key l m hl hm gl (fun l' m' h => by omega)
  | succ n ih => exact fun l m hn hl hm gl => key l m hl hm gl (fun l' m' h a b c => ih l' m' (by omega) a b c)
/-! The program's way. -/
theorem drop_bh {l : List Int} {i : Nat} {s : Int} : bh s (l.drop i) = l.drop (i + ((fx s (l.drop i) 0).toNat + 1)) := by
  unfold bh
  rw [List.drop_drop]
theorem p_step {l m : List Int} (hl : l.length ≤ 1000) (hm : m.length ≤ 1000) {i j : Nat} (hi : i ≤ l.length) (hj : j ≤ m.length) {acc : List Int} {s0 : Nat} (hs : s0 < 6)
    (hh : hit (l.drop i) (m.drop j) (s0 : Int)) (hn : ∀ t : Nat, t < s0 → ¬ hit (l.drop i) (m.drop j) (t : Int)) (hacc : acc.length ≤ 1000) {r : List Int × Int}
    (out : Tl (fun k => log_Part.l0 k l m (tab l m 0) (acc ++ [(s0 : Int)]) ((i + ((fx (s0 : Int) (l.drop i) 0).toNat + 1) : Nat) : Int) ((j + ((fx (s0 : Int) (m.drop j) 0).toNat + 1) : Nat) : Int)) r) (d : Nat) :
    ∀ s : Nat, s + d = s0 → Tl (fun k => log_Part.l1 k l m (tab l m 0) acc (i : Int) (j : Int) (s : Int)) r := by
  have cell : ∀ a b : Nat, a ≤ l.length → b ≤ m.length → rd (rd_L1 (tab l m 0) (a : Int)) (b : Int) = (cm (l.drop a) (m.drop b) : Int) := fun a b ha hb => by
    rw [tab_rd ha (Nat.zero_le _), row_rd hb, if_pos (Nat.zero_le _)]
  have wide : ∀ a : Nat, a ≤ l.length → ((rd_L1 (tab l m 0) (a : Int)).length : Int) = (m.length : Int) + 1 := fun a ha => by
    rw [tab_rd ha (Nat.zero_le _), row_len]; omega
  have high : ((tab l m 0).length : Int) = (l.length : Int) + 1 := by rw [tab_len]; omega
  have c0 := cell i j hi hj
  have cl := (cm_len (l.drop i) (m.drop j)).1
  rw [List.length_drop] at cl
  -- one sign: both places
  have look : ∀ (s : Nat) (a b : Nat), s < 6 → fx (s : Int) (l.drop i) 0 = (a : Int) → fx (s : Int) (m.drop j) 0 = (b : Int) → i + (a + 1) ≤ l.length → j + (b + 1) ≤ m.length →
      Tl (fun k => if (cm (l.drop (i + (a + 1))) (m.drop (j + (b + 1))) : Int) = (cm (l.drop i) (m.drop j) : Int) - 1 then log_Part.l0 k l m (tab l m 0) (acc ++ [(s : Int)]) ((i + (a + 1) : Nat) : Int) ((j + (b + 1) : Nat) : Int) else log_Part.l1 k l m (tab l m 0) acc (i : Int) (j : Int) ((s : Int) + 1)) r →
      Tl (fun k => log_Part.l1 k l m (tab l m 0) acc (i : Int) (j : Int) (s : Int)) r := by
    intro s a b hs6 ea eb ha hb h
    refine Tl.succ ?_
    simp only [log_Part.l1]
    refine Tl.pos (by omega) (Tl.pos (by omega) (Tl.pos (by omega) (Tl.bind (by rw [Int.toNat_natCast]; exact ev_Index _ _ (by simp; omega)) (Tl.pos (by omega) (Tl.pos (by omega) (Tl.bind (by rw [Int.toNat_natCast]; exact ev_Index _ _ (by simp; omega)) ?_))))))
    rw [ea, eb, w64 (x := (i : Int) + (a : Int)) (by omega) (by omega), w64 (x := (j : Int) + (b : Int)) (by omega) (by omega), w64 (x := (i : Int) + (a : Int) + 1) (by omega) (by omega), w64 (x := (j : Int) + (b : Int) + 1) (by omega) (by omega), w64 (x := (s : Int) + 1) (by omega) (by omega)]
    rw [show (i : Int) + (a : Int) + 1 = ((i + (a + 1) : Nat) : Int) by omega, show (j : Int) + (b : Int) + 1 = ((j + (b + 1) : Nat) : Int) by omega, cell _ _ ha hb, c0, wide _ ha, wide _ hi, high, w64 (x := (cm (l.drop i) (m.drop j) : Int) - 1) (by omega) (by omega)]
    refine Tl.pos (by omega) (Tl.pos (by omega) (Tl.pos (by omega) (Tl.pos (by omega) (Tl.pos (by omega) (Tl.pos (by omega) (Tl.pos (by omega) (Tl.pos (by omega) ?_)))))))
    obtain ⟨K, hK⟩ := h
    refine ⟨K, fun k hk => ?_⟩
    have := hK k hk
    simp only [if_pos (show acc.length < 17592186044416 by omega)]
    exact this
  have none_ : ∀ s : Nat, s < 6 → ¬ (0 ≤ fx (s : Int) (l.drop i) 0 ∧ 0 ≤ fx (s : Int) (m.drop j) 0) → Tl (fun k => log_Part.l1 k l m (tab l m 0) acc (i : Int) (j : Int) ((s : Int) + 1)) r → Tl (fun k => log_Part.l1 k l m (tab l m 0) acc (i : Int) (j : Int) (s : Int)) r := by
    intro s hs6 hne next
    refine Tl.succ ?_
    simp only [log_Part.l1]
    refine Tl.pos (by omega) (Tl.pos (by omega) (Tl.pos (by omega) (Tl.bind (by rw [Int.toNat_natCast]; exact ev_Index _ _ (by simp; omega)) (Tl.pos (by omega) (Tl.pos (by omega) (Tl.bind (by rw [Int.toNat_natCast]; exact ev_Index _ _ (by simp; omega)) ?_))))))
    rw [w64 (x := (s : Int) + 1) (by omega) (by omega)]
    by_cases c : fx (s : Int) (l.drop i) 0 ≥ 0
    · exact Tl.pos c (Tl.neg (fun q => hne ⟨c, q⟩) next)
    · exact Tl.neg c next
  have places : ∀ s : Nat, 0 ≤ fx (s : Int) (l.drop i) 0 ∧ 0 ≤ fx (s : Int) (m.drop j) 0 → i + ((fx (s : Int) (l.drop i) 0).toNat + 1) ≤ l.length ∧ j + ((fx (s : Int) (m.drop j) 0).toNat + 1) ≤ m.length := fun s h => by
    have h1 := bh_len h.1
    have h2 := bh_len h.2
    rw [List.length_drop] at h1 h2
    omega
  induction d with
  | zero =>
    intro s h1
    obtain rfl : s = s0 := by omega
    have pl := places s hh.1
    refine look s _ _ hs (Int.toNat_of_nonneg hh.1.1).symm (Int.toNat_of_nonneg hh.1.2).symm pl.1 pl.2 (Tl.pos ?_ out)
    have := hh.2
    rw [drop_bh, drop_bh] at this
    omega
  | succ d ih =>
    intro s h1
    have next := ih (s + 1) (by omega)
    rw [show ((s + 1 : Nat) : Int) = (s : Int) + 1 by omega] at next
    by_cases hne : 0 ≤ fx (s : Int) (l.drop i) 0 ∧ 0 ≤ fx (s : Int) (m.drop j) 0
    · have pl := places s hne
      refine look s _ _ (by omega) (Int.toNat_of_nonneg hne.1).symm (Int.toNat_of_nonneg hne.2).symm pl.1 pl.2 (Tl.neg (fun q => hn s (by omega) ⟨hne, ?_⟩) next)
      rw [drop_bh, drop_bh]
      omega
    · exact none_ s (by omega) hne next
theorem p_loop {l m : List Int} (hl : l.length ≤ 1000) (hm : m.length ≤ 1000) {u v p : List Int} (h : IsP u v p) : ∀ (i j : Nat) (acc : List Int), i ≤ l.length → j ≤ m.length → u = l.drop i → v = m.drop j → acc.length + p.length ≤ 1000 →
    Tl (fun k => log_Part.l0 k l m (tab l m 0) acc (i : Int) (j : Int)) (acc ++ p, 0) := by
  induction h with
  | @nil u v h0 =>
    intro i j acc hi hj eu ev hacc
    refine Tl.succ ?_
    simp only [log_Part.l0]
    rw [tab_rd hi (Nat.zero_le _), row_rd hj, if_pos (Nat.zero_le _), row_len, tab_len, ← eu, ← ev, h0, List.append_nil]
    exact Tl.pos (by omega) (Tl.pos (by omega) (Tl.pos (by omega) (Tl.pos (by omega) (Tl.neg (by omega) Tl.now))))
  | @cons u v q s h0 hs hh hn hq ih =>
    intro i j acc hi hj eu ev hacc
    subst eu ev
    simp only [List.length_cons] at hacc
    have h1 := bh_len hh.1.1
    have h2 := bh_len hh.1.2
    rw [List.length_drop] at h1 h2
    have next := ih (i + ((fx (s : Int) (l.drop i) 0).toNat + 1)) (j + ((fx (s : Int) (m.drop j) 0).toNat + 1)) (acc ++ [(s : Int)]) (by omega) (by omega) drop_bh drop_bh (by simp; omega)
    rw [List.append_assoc, List.singleton_append] at next
    have st := p_step hl hm hi hj hs hh hn (by omega) next s 0 (by omega)
    refine Tl.succ ?_
    simp only [log_Part.l0]
    rw [tab_rd hi (Nat.zero_le _), row_rd hj, if_pos (Nat.zero_le _), row_len, tab_len]
    exact Tl.pos (by omega) (Tl.pos (by omega) (Tl.pos (by omega) (Tl.pos (by omega) (Tl.pos (by omega) st))))
/-- Both ways to the same list. -/
theorem ev_parts {l m : List Int} (hl : l.length ≤ 1000) (hm : m.length ≤ 1000) (h : tc l m = 0) : ∃ p : List Int, IsP l m p ∧ Tl (fun k => log_Part.f k l m) (p, 0) ∧ Tl (fun k => diaphoneref06_Part.f k l m) (p, 0) ∧ Tl (fun k => diaphoneref06_Common.f k l m) ((cm l m : Int), 0) := by
  have gl := (lc_zero.1 (tc_zero.1 h).1)
  obtain ⟨p, h1, h2⟩ := ref_part l.length l m (Nat.le_refl _) hl hm gl.2
  have pl := (isP_sub h1).2.2
  have cl := (cm_len l m).1
  refine ⟨p, h1, ?_, ?_, ?_⟩
  · unfold log_Part.f
    have := p_loop hl hm h1 0 0 [] (by omega) (by omega) List.drop_zero.symm List.drop_zero.symm (by simp; omega)
    rw [List.nil_append] at this
    exact Tl.bind (ev_two hl hm) (Tl.pos h (Tl.bind (ev_common hl hm) this))
  · unfold diaphoneref06_Part.f
    exact Tl.bind (ev_rtwo hl hm) (Tl.pos h (Tl.bind h2 Tl.now))
  · unfold diaphoneref06_Common.f
    exact Tl.bind (ev_rtwo hl hm) (Tl.pos h (Tl.bind h2 (Tl.to Tl.now (by rw [pl]))))
end Go.Proofs.Ytcbepmdnhjojdaa.Pt
