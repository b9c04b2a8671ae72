/- Proved here: for all logs, costs and lists of pairs, which comparisons are right and what these cost is the document's; it holds under no condition. -/
import Derived.Test.YtcbepmdnhjojdaaLr
import Derived.Test.YtcbepmdnhjojdaaPx63
set_option linter.unusedVariables false
namespace Go.Proofs.Ytcbepmdnhjojdaa.Pure
open Go.RowKit Go.Proofs.Ytcbepmdnhjojdaa.P Go.Proofs.Ytcbepmdnhjojdaa.E Go.Proofs.Ytcbepmdnhjojdaa.Al Go.Proofs.Ytcbepmdnhjojdaa.Lo Go.Proofs.Ytcbepmdnhjojdaa.Lr Go.Proofs.YtcbepmdnhjojdaaW.PrintMore
open Go.Proofs.YtcbepmdnhjojdaaW.PrintWords
namespace Prs
theorem rt_lt {xs : List S65} {i : Nat} (h : i < xs.length) : rd_T65 xs (i : Int) = xs[i] := by
  unfold rd_T65
  rw [Int.toNat_natCast, List.getD_eq_getElem?_getD, List.getElem?_eq_getElem h]; rfl
theorem change_eq (a b o i c : Int) : diaphoneref06_change.f a b o i c = some (ch c a b) := by
  unfold diaphoneref06_change.f ch
  by_cases h : a = b
  · rw [if_pos h, if_pos h]
  · rw [if_neg h, if_neg h]
theorem nx {a : Nat} (h : a ≤ 1000) : wrap64 ((a : Int) + 1) = ((a + 1 : Nat) : Int) := by rw [w64 (by omega) (by omega)]; omega
theorem lft {o p : Int} (ho : 0 ≤ o ∧ o ≤ 9) (hp : -100 ≤ p ∧ p ≤ 100) : -900 ≤ o * p ∧ o * p ≤ 900 := by
  have h1 : o * p ≤ o * 100 := Int.mul_le_mul_of_nonneg_left hp.2 ho.1
  have h2 : o * (-100) ≤ o * p := Int.mul_le_mul_of_nonneg_left hp.1 ho.1
  omega
section
variable {l m : List Int} {o i c : Int} {ps : List S65}
def G (l m : List Int) (c : Int) (p : S65) : Int := ch c (rd l p.f0) (rd m p.f1)
def S (l m : List Int) (c : Int) (ps : List S65) : Nat → Int
  | 0 => 0
  | d + 1 => G l m c (rd_T65 ps ((ps.length - (d + 1) : Nat) : Int)) + S l m c ps d
def wi (l m : List Int) (p : S65) : Prop := (0 ≤ p.f0 ∧ p.f0 ≤ (l.length : Int) - 1) ∧ (0 ≤ p.f1 ∧ p.f1 ≤ (m.length : Int) - 1)
def okj (ps : List S65) (j : Nat) : Prop := (rd_T65 ps (j : Int)).f0 < (rd_T65 ps ((j + 1 : Nat) : Int)).f0 ∧ (rd_T65 ps (j : Int)).f1 < (rd_T65 ps ((j + 1 : Nat) : Int)).f1
def good (ps : List S65) (j : Nat) : Prop := ∀ t, j ≤ t + 1 → t + 1 < ps.length → okj ps t
def inn (l m : List Int) (ps : List S65) : Prop := ∀ t : Nat, t < ps.length → wi l m (rd_T65 ps (t : Int))
theorem S_step {d j : Nat} (hj : ps.length - j = d + 1) : S l m c ps (d + 1) = G l m c (rd_T65 ps (j : Int)) + S l m c ps d := by
  show G l m c (rd_T65 ps ((ps.length - (d + 1) : Nat) : Int)) + S l m c ps d = _
  rw [show ps.length - (d + 1) = j by omega]
theorem good_next {j : Nat} (h : good ps j) : good ps (j + 1) := fun t h1 h2 => h t (by omega) h2
theorem good_back {j : Nat} (h : good ps (j + 1 + 1)) (k : okj ps j) : good ps (j + 1) := fun t h1 h2 => by
  by_cases e : t = j
  · subst e; exact k
  · exact h t (by omega) h2
theorem good_zero (h : good ps 1) : good ps 0 := fun t h1 h2 => h t (by omega) h2
theorem sum_loop (hc : 0 ≤ c ∧ c ≤ 9) (hn : ps.length ≤ 100) (hi : inn l m ps) : ∀ (d j : Nat) (s : Int), j ≤ ps.length → ps.length - j = d → -2000 ≤ s ∧ s ≤ 2000 + 9 * j → Tl (fun k => diaphoneref06_CheckPairs.l2 k l m ps s (j : Int) o i c) (s + S l m c ps d, 0) := by
  intro d
  induction d with
  | zero =>
    intro j s h1 h2 h3
    refine Tl.succ ?_
    simp only [diaphoneref06_CheckPairs.l2]
    exact Tl.to (Tl.neg (by omega) Tl.now) (by simp [S])
  | succ d ih =>
    intro j s h1 h2 h3
    have hm := hi j (by omega)
    obtain ⟨a1, a2⟩ := hm
    have hr := ch_range hc.1 (rd l (rd_T65 ps (j : Int)).f0) (rd m (rd_T65 ps (j : Int)).f1)
    have next := ih (j + 1) (s + G l m c (rd_T65 ps (j : Int))) (by omega) (by omega) (by unfold G; omega)
    rw [S_step h2]
    have E1 := Aside0.mk (nx (a := j) (by omega))
    have E2 := Aside0.mk (show wrap64 (s + G l m c (rd_T65 ps (j : Int))) = s + G l m c (rd_T65 ps (j : Int)) from w64 (by unfold G; omega) (by unfold G; omega))
    unfold G at E2 next ⊢
    refine Tl.succ ?_
    simp only [diaphoneref06_CheckPairs.l2]
    rw [E1.out]
    refine Tl.pos (by omega) (Tl.pos (by omega) (Tl.pos a1.1 (Tl.pos (by omega) (Tl.pos a2.1 (Tl.pos (by omega) (Tl.bind' (change_eq _ _ _ _ _) ?_))))))
    rw [E2.out]
    exact Tl.to next (by rw [Int.add_assoc])
theorem up_loop (hn : ps.length ≤ 100) {r : Int × Int} : ∀ (d j : Nat), 1 ≤ j → ps.length - j = d →
    (good ps j → Tl (fun k => diaphoneref06_CheckPairs.l2 k l m ps (wrap64 ((wrap64 (o * (wrap64 ((l.length : Int) - (ps.length : Int))))) + (wrap64 (i * (wrap64 ((m.length : Int) - (ps.length : Int))))))) 0 o i c) r → Tl (fun k => diaphoneref06_CheckPairs.l1 k l m ps (j : Int) o i c) r) ∧
    (¬ good ps j → Tl (fun k => diaphoneref06_CheckPairs.l1 k l m ps (j : Int) o i c) (0, 6)) := by
  intro d
  induction d with
  | zero =>
    intro j h1 h2
    refine ⟨fun _ out => ?_, fun h => absurd (fun t q1 q2 => by omega) h⟩
    refine Tl.succ ?_
    simp only [diaphoneref06_CheckPairs.l1]
    exact Tl.neg (by omega) out
  | succ d ih =>
    intro j h1 h2
    obtain ⟨j', rfl⟩ : ∃ j', j = j' + 1 := ⟨j - 1, by omega⟩
    obtain ⟨n1, n2⟩ := ih (j' + 1 + 1) (by omega) (by omega)
    have E1 := Aside0.mk (nx (a := j' + 1) (by omega))
    have E2 := Aside0.mk (show wrap64 (((j' + 1 : Nat) : Int) - 1) = (j' : Int) by rw [w64 (by omega) (by omega)]; omega)
    by_cases k1 : (rd_T65 ps (j' : Int)).f0 < (rd_T65 ps ((j' + 1 : Nat) : Int)).f0
    · by_cases k2 : (rd_T65 ps (j' : Int)).f1 < (rd_T65 ps ((j' + 1 : Nat) : Int)).f1
      · refine ⟨fun h out => ?_, fun h => ?_⟩
        · refine Tl.succ ?_
          simp only [diaphoneref06_CheckPairs.l1]
          rw [E1.out, E2.out]
          exact Tl.pos (by omega) (Tl.pos (by omega) (Tl.pos (by omega) (Tl.pos (by omega) (Tl.neg (by omega) (Tl.neg (by omega) (n1 (good_next h) out))))))
        · refine Tl.succ ?_
          simp only [diaphoneref06_CheckPairs.l1]
          rw [E1.out, E2.out]
          exact Tl.pos (by omega) (Tl.pos (by omega) (Tl.pos (by omega) (Tl.pos (by omega) (Tl.neg (by omega) (Tl.neg (by omega) (n2 (fun q => h (good_back q ⟨k1, k2⟩))))))))
      · refine ⟨fun h => absurd (h j' (by omega) (by omega)).2 k2, fun h => ?_⟩
        refine Tl.succ ?_
        simp only [diaphoneref06_CheckPairs.l1]
        rw [E2.out]
        exact Tl.pos (by omega) (Tl.pos (by omega) (Tl.pos (by omega) (Tl.pos (by omega) (Tl.neg (by omega) (Tl.pos (by omega) Tl.now)))))
    · refine ⟨fun h => absurd (h j' (by omega) (by omega)).1 k1, fun h => ?_⟩
      refine Tl.succ ?_
      simp only [diaphoneref06_CheckPairs.l1]
      rw [E2.out]
      exact Tl.pos (by omega) (Tl.pos (by omega) (Tl.pos (by omega) (Tl.pos (by omega) (Tl.pos (by omega) Tl.now))))
theorem in_loop (hL : l.length ≤ 10) (hM : m.length ≤ 10) (hn : ps.length ≤ 100) {r : Int × Int} : ∀ (d j : Nat), ps.length - j = d →
    ((∀ t : Nat, j ≤ t → t < ps.length → wi l m (rd_T65 ps (t : Int))) → Tl (fun k => diaphoneref06_CheckPairs.l1 k l m ps 1 o i c) r → Tl (fun k => diaphoneref06_CheckPairs.l0 k l m ps (j : Int) o i c) r) ∧
    (¬ (∀ t : Nat, j ≤ t → t < ps.length → wi l m (rd_T65 ps (t : Int))) → Tl (fun k => diaphoneref06_CheckPairs.l0 k l m ps (j : Int) o i c) (0, 1)) := by
  intro d
  have E2 := Aside0.mk (show wrap64 ((l.length : Int) - 1) = (l.length : Int) - 1 from w64 (by omega) (by omega))
  have E3 := Aside0.mk (show wrap64 ((m.length : Int) - 1) = (m.length : Int) - 1 from w64 (by omega) (by omega))
  induction d with
  | zero =>
    intro j h2
    refine ⟨fun _ out => ?_, fun h => absurd (fun t q1 q2 => by omega) h⟩
    refine Tl.succ ?_
    simp only [diaphoneref06_CheckPairs.l0]
    exact Tl.neg (by omega) out
  | succ d ih =>
    intro j h2
    obtain ⟨n1, n2⟩ := ih (j + 1) (by omega)
    have E1 := Aside0.mk (nx (a := j) (by omega))
    by_cases k1 : 0 ≤ (rd_T65 ps (j : Int)).f0 ∧ (rd_T65 ps (j : Int)).f0 ≤ (l.length : Int) - 1
    · by_cases k2 : 0 ≤ (rd_T65 ps (j : Int)).f1 ∧ (rd_T65 ps (j : Int)).f1 ≤ (m.length : Int) - 1
      · refine ⟨fun h out => ?_, fun h => ?_⟩
        · refine Tl.succ ?_
          simp only [diaphoneref06_CheckPairs.l0]
          rw [E1.out, E2.out, E3.out]
          exact Tl.pos (by omega) (Tl.pos (by omega) (Tl.bind' (rwithin_eq _ _ _) (Tl.pos (decide_eq_true k1) (Tl.bind' (rwithin_eq _ _ _) (Tl.pos (decide_eq_true k2) (n1 (fun t q1 q2 => h t (by omega) q2) out))))))
        · refine Tl.succ ?_
          simp only [diaphoneref06_CheckPairs.l0]
          rw [E1.out, E2.out, E3.out]
          exact Tl.pos (by omega) (Tl.pos (by omega) (Tl.bind' (rwithin_eq _ _ _) (Tl.pos (decide_eq_true k1) (Tl.bind' (rwithin_eq _ _ _) (Tl.pos (decide_eq_true k2) (n2 (fun q => h (fun t q1 q2 => by
            by_cases e : t = j
            · subst e; exact ⟨k1, k2⟩
            · exact q t (by omega) q2))))))))
      · refine ⟨fun h => absurd (h j (Nat.le_refl _) (by omega)).2 k2, fun h => ?_⟩
        refine Tl.succ ?_
        simp only [diaphoneref06_CheckPairs.l0]
        rw [E2.out, E3.out]
        exact Tl.pos (by omega) (Tl.pos (by omega) (Tl.bind' (rwithin_eq _ _ _) (Tl.pos (decide_eq_true k1) (Tl.bind' (rwithin_eq _ _ _) (Tl.neg (by rw [decide_eq_false k2]; decide) Tl.now)))))
    · refine ⟨fun h => absurd (h j (Nat.le_refl _) (by omega)).1 k1, fun h => ?_⟩
      refine Tl.succ ?_
      simp only [diaphoneref06_CheckPairs.l0]
      rw [E2.out]
      exact Tl.pos (by omega) (Tl.pos (by omega) (Tl.bind' (rwithin_eq _ _ _) (Tl.neg (by rw [decide_eq_false k1]; decide) Tl.now)))
theorem lp_loop (hc : 0 ≤ c ∧ c ≤ 9) (hn : ps.length ≤ 100) (hi : inn l m ps) : ∀ (d j : Nat) (s : Int), j ≤ ps.length → ps.length - j = d → -2000 ≤ s ∧ s ≤ 2000 + 9 * j →
    (good ps j → Tl (fun k => log_CheckPairs.l0 k ps s ps (ps.length : Int) (j : Int) l m o i c) (s + S l m c ps d, 0)) ∧
    (¬ good ps j → Tl (fun k => log_CheckPairs.l0 k ps s ps (ps.length : Int) (j : Int) l m o i c) (0, 6)) := by
  intro d
  induction d with
  | zero =>
    intro j s h1 h2 h3
    refine ⟨fun _ => ?_, fun h => absurd (fun t q1 q2 => by omega) h⟩
    refine Tl.succ ?_
    simp only [log_CheckPairs.l0]
    exact Tl.to (Tl.neg (by omega) Tl.now) (by simp [S])
  | succ d ih =>
    intro j s h1 h2 h3
    have hm := hi j (by omega)
    obtain ⟨a1, a2⟩ := hm
    have hr := ch_range hc.1 (rd l (rd_T65 ps (j : Int)).f0) (rd m (rd_T65 ps (j : Int)).f1)
    obtain ⟨n1, n2⟩ := ih (j + 1) (s + G l m c (rd_T65 ps (j : Int))) (by omega) (by omega) (by unfold G; omega)
    rw [S_step h2]
    have E1 := Aside0.mk (nx (a := j) (by omega))
    have E2 := Aside0.mk (show wrap64 (s + G l m c (rd_T65 ps (j : Int))) = s + G l m c (rd_T65 ps (j : Int)) from w64 (by unfold G; omega) (by unfold G; omega))
    unfold G at E2 n1 n2 ⊢
    have E4 : log_costBoth.f o i c (rd l (rd_T65 ps (j : Int)).f0) (rd m (rd_T65 ps (j : Int)).f1) = some (ch c (rd l (rd_T65 ps (j : Int)).f0) (rd m (rd_T65 ps (j : Int)).f1)) := rfl
    have add : ∀ {r : Int × Int}, Tl (fun k => log_CheckPairs.l0 k ps (s + ch c (rd l (rd_T65 ps (j : Int)).f0) (rd m (rd_T65 ps (j : Int)).f1)) ps (ps.length : Int) ((j + 1 : Nat) : Int) l m o i c) r →
        (j = 0 ∨ ∃ j', j = j' + 1 ∧ okj ps j') → Tl (fun k => log_CheckPairs.l0 k ps s ps (ps.length : Int) (j : Int) l m o i c) r := by
      intro r next hj
      rcases hj with rfl | ⟨j', rfl, hk⟩
      · refine Tl.succ ?_
        simp only [log_CheckPairs.l0]
        rw [E1.out]
        refine Tl.pos (by omega) (Tl.pos (by omega) (Tl.pos (by omega) (Tl.neg (by omega) (Tl.pos a1.1 (Tl.pos (by omega) (Tl.pos a2.1 (Tl.pos (by omega) (Tl.bind' E4 ?_))))))))
        rw [E2.out]
        exact next
      · have E3 := Aside0.mk (show wrap64 (((j' + 1 : Nat) : Int) - 1) = (j' : Int) by rw [w64 (by omega) (by omega)]; omega)
        obtain ⟨k1, k2⟩ := hk
        refine Tl.succ ?_
        simp only [log_CheckPairs.l0]
        rw [E1.out, E3.out]
        refine Tl.pos (by omega) (Tl.pos (by omega) (Tl.pos (by omega) (Tl.pos (by omega) (Tl.pos (by omega) (Tl.pos (by omega) (Tl.neg (by omega) (Tl.neg (by omega) (Tl.pos a1.1 (Tl.pos (by omega) (Tl.pos a2.1 (Tl.pos (by omega) (Tl.bind' E4 ?_))))))))))))
        rw [E2.out]
        exact next
    refine ⟨fun h => ?_, fun h => ?_⟩
    · refine add (Tl.to (n1 (good_next h)) (by rw [Int.add_assoc])) ?_
      by_cases e : j = 0
      · exact Or.inl e
      · exact Or.inr ⟨j - 1, by omega, h (j - 1) (by omega) (by omega)⟩
    · by_cases e : j = 0
      · subst e
        exact add (n2 (fun q => h (good_zero q))) (Or.inl rfl)
      · obtain ⟨j', rfl⟩ : ∃ j', j = j' + 1 := ⟨j - 1, by omega⟩
        by_cases hk : okj ps j'
        · exact add (n2 (fun q => h (good_back q hk))) (Or.inr ⟨j', rfl, hk⟩)
        · have E3 := Aside0.mk (show wrap64 (((j' + 1 : Nat) : Int) - 1) = (j' : Int) by rw [w64 (by omega) (by omega)]; omega)
          refine Tl.succ ?_
          simp only [log_CheckPairs.l0]
          rw [E3.out]
          refine Tl.pos (by omega) (Tl.pos (by omega) (Tl.pos (by omega) (Tl.pos (by omega) (Tl.pos (by omega) (Tl.pos (by omega) ?_)))))
          by_cases k1 : (rd_T65 ps (j' : Int)).f0 < (rd_T65 ps ((j' + 1 : Nat) : Int)).f0
          · have k2 : ¬ (rd_T65 ps (j' : Int)).f1 < (rd_T65 ps ((j' + 1 : Nat) : Int)).f1 := fun q => hk ⟨k1, q⟩
            exact Tl.neg (by omega) (Tl.pos (by omega) Tl.now)
          · exact Tl.pos (by omega) Tl.now
theorem pout_iff : ps.any (fun p => log_pout l.length m.length p.f0 p.f1) = false ↔ inn l m ps := by
  rw [List.any_eq_false]
  have e : ∀ p : S65, ¬ (log_pout l.length m.length p.f0 p.f1 = true) ↔ wi l m p := by
    intro p
    unfold log_pout wi
    simp only [Bool.or_eq_true, Bool.not_eq_true', decide_eq_false_iff_not, not_or, Decidable.not_not]
  constructor
  · intro h t ht
    rw [rt_lt ht]
    exact (e _).1 (h _ (List.getElem_mem ht))
  · intro h p hp
    obtain ⟨t, ht, rfl⟩ := List.getElem_of_mem hp
    have := h t ht
    rw [rt_lt ht] at this
    exact (e _).2 this
theorem both (hl : l.length ≤ 1000) (hm : m.length ≤ 1000) (hn : ps.length ≤ 100) : ∃ r, Tl (fun k => log_CheckPairs.f k l m o i c ps) r ∧ Tl (fun k => diaphoneref06_CheckPairs.f k l m o i c ps) r := by
  unfold log_CheckPairs.f diaphoneref06_CheckPairs.f
  by_cases h : kc l m o i c = 0
  · obtain ⟨h1, h2, h3⟩ := kc_zero.1 h
    have g3 := cc_zero.1 h3
    have hL := (lc_zero.1 h1).1
    have hM := (lc_zero.1 h2).1
    have hc : 0 ≤ c ∧ c ≤ 9 := ⟨by omega, by omega⟩
    have po : log_pairsOut.f ps l m = some (ps.any (fun p => log_pout l.length m.length p.f0 p.f1)) := by
      unfold log_pairsOut.f; rw [if_pos ⟨hl, hm, by omega⟩]
    have H0 := fun r => in_loop (l := l) (m := m) (o := o) (i := i) (c := c) (ps := ps) (r := r) hL hM hn
    by_cases hi : inn l m ps
    · rw [pout_iff.2 hi] at po
      have k1 := lft (o := o) ⟨by omega, by omega⟩ (p := (l.length : Int) - ps.length) ⟨by omega, by omega⟩
      have k2 := lft (o := i) ⟨by omega, by omega⟩ (p := (m.length : Int) - ps.length) ⟨by omega, by omega⟩
      have e1 : wrap64 ((wrap64 (o * (wrap64 ((l.length : Int) - (ps.length : Int))))) + (wrap64 (i * (wrap64 ((m.length : Int) - (ps.length : Int)))))) = o * ((l.length : Int) - ps.length) + i * ((m.length : Int) - ps.length) := by
        rw [w64 (x := (l.length : Int) - ps.length) (by omega) (by omega), w64 (x := (m.length : Int) - ps.length) (by omega) (by omega), w64 (x := o * ((l.length : Int) - ps.length)) (by omega) (by omega), w64 (x := i * ((m.length : Int) - ps.length)) (by omega) (by omega), w64 (by omega) (by omega)]
      have e2 : wrap64 ((wrap64 ((wrap64 ((l.length : Int) - (ps.length : Int))) * o)) + (wrap64 ((wrap64 ((m.length : Int) - (ps.length : Int))) * i))) = o * ((l.length : Int) - ps.length) + i * ((m.length : Int) - ps.length) := by
        rw [← e1, Int.mul_comm o, Int.mul_comm i]
      have LP := lp_loop (l := l) (m := m) (o := o) (i := i) (c := c) (ps := ps) hc hn hi ps.length 0 (o * ((l.length : Int) - ps.length) + i * ((m.length : Int) - ps.length)) (by omega) (by omega) ⟨by omega, by omega⟩
      have SL := sum_loop (l := l) (m := m) (o := o) (i := i) (c := c) (ps := ps) hc hn hi ps.length 0 (o * ((l.length : Int) - ps.length) + i * ((m.length : Int) - ps.length)) (by omega) (by omega) ⟨by omega, by omega⟩
      by_cases hg : good ps 0
      · refine ⟨(o * ((l.length : Int) - ps.length) + i * ((m.length : Int) - ps.length) + S l m c ps ps.length, 0), ?_, ?_⟩
        · refine Tl.bind (ev_check hl hm) (Tl.pos h (Tl.bind' po (Tl.neg (by decide) ?_)))
          rw [e2]
          exact LP.1 hg
        · refine Tl.bind (ev_costed hl hm) (Tl.pos h ((H0 _ ps.length 0 (by omega)).1 (fun t _ h => hi t h) ((up_loop hn (ps.length - 1) 1 (Nat.le_refl _) rfl).1 (good_next hg) ?_)))
          rw [e1]
          exact SL
      · refine ⟨(0, 6), ?_, ?_⟩
        · refine Tl.bind (ev_check hl hm) (Tl.pos h (Tl.bind' po (Tl.neg (by decide) ?_)))
          rw [e2]
          exact LP.2 hg
        · exact Tl.bind (ev_costed hl hm) (Tl.pos h ((H0 _ ps.length 0 (by omega)).1 (fun t _ h => hi t h) ((up_loop (r := (0, 6)) hn (ps.length - 1) 1 (Nat.le_refl _) rfl).2 (fun q => hg (good_zero q)))))
    · have hb : ps.any (fun p => log_pout l.length m.length p.f0 p.f1) = true := by
        cases e : ps.any (fun p => log_pout l.length m.length p.f0 p.f1) with
        | true => rfl
        | false => exact absurd (pout_iff.1 e) hi
      rw [hb] at po
      refine ⟨(0, 1), ?_, ?_⟩
      · exact Tl.bind (ev_check hl hm) (Tl.pos h (Tl.bind' po (Tl.pos rfl Tl.now)))
      · exact Tl.bind (ev_costed hl hm) (Tl.pos h ((H0 (0, 1) ps.length 0 (by omega)).2 (fun q => hi (fun t ht => q t (by omega) ht))))
  · exact ⟨(0, kc l m o i c), Tl.bind (ev_check hl hm) (Tl.neg h Tl.now), Tl.bind (ev_costed hl hm) (Tl.neg h Tl.now)⟩
end
end Prs
theorem LogPairs : ∀ (x0 : S26) (x1 : List (S65)), (((∀ y ∈ x0.f0, (Lit.int .i64 y).wf = true) ∧ x0.f0.length ≤ maxLen) ∧ ((∀ y ∈ x0.f1, (Lit.int .i64 y).wf = true) ∧ x0.f1.length ≤ maxLen) ∧ (((Lit.int .i64 x0.f2.f0).wf = true) ∧ ((Lit.int .i64 x0.f2.f1).wf = true) ∧ ((Lit.int .i64 x0.f2.f2).wf = true))) → ((∀ y ∈ x1, ((Lit.int .i64 y.f0).wf = true) ∧ ((Lit.int .i64 y.f1).wf = true)) ∧ x1.length ≤ maxLen) → ∃ k, diaphonelaw06_LogPairs.f k x0.f0 x0.f1 x0.f2.f0 x0.f2.f1 x0.f2.f2 x1 = some true := by
  intro x ps _ _
  refine Tl.ex (g := fun k => diaphonelaw06_LogPairs.f k x.f0 x.f1 x.f2.f0 x.f2.f1 x.f2.f2 ps) ?_
  unfold diaphonelaw06_LogPairs.f
  have j0t : Tl (fun k => diaphonelaw06_LogPairs.j0 k ps true x.f0 x.f1 x.f2.f0 x.f2.f1 x.f2.f2) true := by
    refine Tl.succ ?_
    simp only [diaphonelaw06_LogPairs.j0]
    exact Tl.pos trivial ev_known'
  refine Tl.bind' (long_eq _ _ _ _ _) ?_
  cases h : lg x.f0 x.f1 with
  | true => exact Tl.pos rfl j0t
  | false =>
    obtain ⟨h1, h2⟩ := lg_false h
    refine Tl.neg (by simp) ?_
    by_cases ht : (ps.length : Int) > 100
    · rw [decide_eq_true ht]; exact j0t
    · rw [decide_eq_false ht]
      obtain ⟨r, r1, r2⟩ := Prs.both (l := x.f0) (m := x.f1) (o := x.f2.f0) (i := x.f2.f1) (c := x.f2.f2) (ps := ps) (by omega) (by omega) (by omega)
      refine Tl.succ ?_
      simp only [diaphonelaw06_LogPairs.j0]
      exact Tl.neg (by simp) (Tl.bind r1 (Tl.bind r2 (Tl.bind (ev_Validate (by omega)) (Tl.bind (ev_rValidate (by omega)) (Tl.pos rfl (Tl.bind' (costs_eq _ _ _) (Tl.bind' (rcosts_eq _ _ _) (Tl.pos rfl (Tl.pos rfl (Tl.pos rfl ev_known'))))))))))
end Go.Proofs.Ytcbepmdnhjojdaa.Pure
