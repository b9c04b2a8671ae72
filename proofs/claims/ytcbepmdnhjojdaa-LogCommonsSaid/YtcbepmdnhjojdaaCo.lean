/- The longest list that is part of two logs: its length, which one is first, and what the distance with the costs 1, 1, 2 has to do with it. -/
import Derived.Test.YtcbepmdnhjojdaaRe
set_option linter.unusedVariables false
namespace Go.Proofs.Ytcbepmdnhjojdaa.Co
open Go.RowKit Go.Proofs.Ytcbepmdnhjojdaa.P Go.Proofs.Ytcbepmdnhjojdaa.E Go.Proofs.Ytcbepmdnhjojdaa.Al Go.Proofs.Ytcbepmdnhjojdaa.Lo Go.Proofs.Ytcbepmdnhjojdaa.Lr Go.Proofs.Ytcbepmdnhjojdaa.Re Go.Proofs.YtcbepmdnhjojdaaW.PrintMore
open Go.Proofs.YtcbepmdnhjojdaaW.PrintWords
/-- The greatest length of a list that is part of both. -/
def cm : List Int → List Int → Nat
  | [], _ => 0
  | _ :: _, [] => 0
  | a :: l, b :: m => if a = b then cm l m + 1 else max (cm l (b :: m)) (cm (a :: l) m)
theorem cm_nil (l : List Int) : cm l [] = 0 := by cases l <;> rw [cm]
theorem cm_nil' (l : List Int) : cm [] l = 0 := by rw [cm]
theorem sub_cons {x a : Int} {q l : List Int} (h : (x :: q).Sublist (a :: l)) : (x :: q).Sublist l ∨ x = a ∧ q.Sublist l := by
  cases h with
  | cons _ h => exact .inl h
  | cons_cons _ h => exact .inr ⟨rfl, h⟩
theorem sub_tail {x : Int} {q l : List Int} (h : (x :: q).Sublist l) : q.Sublist l := (List.sublist_cons_self x q).trans h
theorem cm_most : ∀ (l m p : List Int), p.Sublist l → p.Sublist m → p.length ≤ cm l m
  | [], m, p, h1, h2 => by rw [List.sublist_nil.1 h1, cm]; exact Nat.zero_le _
  | a :: l, [], p, h1, h2 => by rw [List.sublist_nil.1 h2, cm]; exact Nat.zero_le _
  | a :: l, b :: m, [], h1, h2 => Nat.zero_le _
  | a :: l, b :: m, x :: q, h1, h2 => by
    rw [cm]
    by_cases e : a = b
    · rw [if_pos e]
      have g1 : q.Sublist l := by
        rcases sub_cons h1 with h | h
        · exact sub_tail h
        · exact h.2
      have g2 : q.Sublist m := by
        rcases sub_cons h2 with h | h
        · exact sub_tail h
        · exact h.2
      have := cm_most l m q g1 g2
      simp only [List.length_cons]; omega
    · rw [if_neg e]
      rcases sub_cons h1 with h | h
      · have := cm_most l (b :: m) (x :: q) h h2
        omega
      · rcases sub_cons h2 with h' | h'
        · have := cm_most (a :: l) m (x :: q) h1 h'
          omega
        · exact absurd (h.1.symm.trans h'.1) e
  termination_by l m => l.length + m.length
theorem cm_some : ∀ (l m : List Int), ∃ p : List Int, p.Sublist l ∧ p.Sublist m ∧ p.length = cm l m
  | [], m => ⟨[], List.nil_sublist _, List.nil_sublist _, by rw [cm]; rfl⟩
  | a :: l, [] => ⟨[], List.nil_sublist _, List.nil_sublist _, by rw [cm]; rfl⟩
  | a :: l, b :: m => by
    rw [cm]
    by_cases e : a = b
    · obtain ⟨p, h1, h2, h3⟩ := cm_some l m
      rw [if_pos e]
      subst e
      exact ⟨a :: p, h1.cons_cons a, h2.cons_cons a, by simp [h3]⟩
    · rw [if_neg e]
      obtain ⟨p, h1, h2, h3⟩ := cm_some l (b :: m)
      obtain ⟨q, k1, k2, k3⟩ := cm_some (a :: l) m
      by_cases c : cm l (b :: m) ≤ cm (a :: l) m
      · exact ⟨q, k1, k2.cons b, by rw [k3]; omega⟩
      · exact ⟨p, h1.cons a, h2, by rw [h3]; omega⟩
  termination_by l m => l.length + m.length
theorem cm_le {l m l' m' : List Int} (h : l.Sublist l') (k : m.Sublist m') : cm l m ≤ cm l' m' := by
  obtain ⟨p, h1, h2, h3⟩ := cm_some l m
  rw [← h3]
  exact cm_most l' m' p (h1.trans h) (h2.trans k)
theorem cm_up (a : Int) (l m : List Int) : cm (a :: l) m ≤ cm l m + 1 := by
  obtain ⟨p, h1, h2, h3⟩ := cm_some (a :: l) m
  rw [← h3]
  cases p with
  | nil => simp
  | cons x q =>
    have g : q.Sublist l := by
      rcases sub_cons h1 with h | h
      · exact sub_tail h
      · exact h.2
    have := cm_most l m q g (sub_tail h2)
    simp only [List.length_cons]; omega
theorem cm_up' (b : Int) (l m : List Int) : cm l (b :: m) ≤ cm l m + 1 := by
  obtain ⟨p, h1, h2, h3⟩ := cm_some l (b :: m)
  rw [← h3]
  cases p with
  | nil => simp
  | cons x q =>
    have g : q.Sublist m := by
      rcases sub_cons h2 with h | h
      · exact sub_tail h
      · exact h.2
    have := cm_most l m q (sub_tail h1) g
    simp only [List.length_cons]; omega
theorem cm_len (l m : List Int) : cm l m ≤ l.length ∧ cm l m ≤ m.length := by
  obtain ⟨p, h1, h2, h3⟩ := cm_some l m
  rw [← h3]
  exact ⟨h1.length_le, h2.length_le⟩
/-- With the costs 1, 1 and 2 the distance is told by it. -/
theorem dist_cm : ∀ (l m : List Int), IsD 1 1 2 l m ((l.length : Int) + (m.length : Int) - 2 * (cm l m : Int))
  | [], m => by
    have := isD_nil_l (o := 1) (i := 1) (c := 2) m
    rw [cm_nil']
    simpa using this
  | a :: l, [] => by
    have := isD_nil_r (o := 1) (i := 1) (c := 2) (a :: l)
    rw [cm_nil]
    simpa using this
  | a :: l, b :: m => by
    have hx := dist_cm l (b :: m)
    have hy := dist_cm (a :: l) m
    have hz := dist_cm l m
    have := isD_cons hx hy hz
    have u1 := cm_up a l m
    have u2 := cm_up' b l m
    have l1 := cm_le (List.Sublist.refl l) (List.sublist_cons_self b m)
    have l2 := cm_le (List.sublist_cons_self a l) (List.Sublist.refl m)
    have e : (((a :: l).length : Nat) : Int) + (((b :: m).length : Nat) : Int) - 2 * (cm (a :: l) (b :: m) : Int) = min ((l.length : Int) + (((b :: m).length : Nat) : Int) - 2 * (cm l (b :: m) : Int) + 1) (min ((((a :: l).length : Nat) : Int) + (m.length : Int) - 2 * (cm (a :: l) m : Int) + 1) ((l.length : Int) + (m.length : Int) - 2 * (cm l m : Int) + ch 2 a b)) := by
      simp only [List.length_cons, ch]
      rw [show cm (a :: l) (b :: m) = if a = b then cm l m + 1 else max (cm l (b :: m)) (cm (a :: l) m) from by rw [cm]]
      by_cases e : a = b
      · rw [if_pos e, if_pos e]; omega
      · rw [if_neg e, if_neg e]; omega
    rw [e]
    exact this
  termination_by l m => l.length + m.length
/-- What comes behind the first s. -/
def bh (s : Int) (l : List Int) : List Int := l.drop ((fx s l 0).toNat + 1)
theorem fx_greedy (s : Int) : ∀ (l q : List Int) (b : Int), (s :: q).Sublist l → ∃ n : Nat, fx s l b = b + n ∧ q.Sublist (l.drop (n + 1))
  | [], q, b, h => by have := List.sublist_nil.1 h; exact absurd this (by simp)
  | a :: t, q, b, h => by
    rw [fx]
    by_cases e : s = a
    · rw [if_pos e]
      subst e
      exact ⟨0, by simp, by simpa using List.cons_sublist_cons.1 h⟩
    · rw [if_neg e]
      rcases sub_cons h with h | h
      · obtain ⟨n, h1, h2⟩ := fx_greedy s t q (b + 1) h
        exact ⟨n + 1, by rw [h1]; omega, by simpa using h2⟩
      · exact absurd h.1 e
theorem bh_greedy {s : Int} {l q : List Int} (h : (s :: q).Sublist l) : 0 ≤ fx s l 0 ∧ q.Sublist (bh s l) := by
  obtain ⟨n, h1, h2⟩ := fx_greedy s l q 0 h
  unfold bh
  rw [h1]
  exact ⟨by omega, by simpa using h2⟩
theorem bh_back {s : Int} {l q : List Int} (h0 : 0 ≤ fx s l 0) (h : q.Sublist (bh s l)) : (s :: q).Sublist l := by
  rcases fx_spec s l 0 with ⟨h1, h2⟩ | ⟨n, h1, h2, h3, h4⟩
  · omega
  · unfold bh at h
    rw [h2, show (0 + (n : Int)).toNat = n by omega] at h
    have hd := drop_cons h1
    rw [List.getElem?_eq_getElem h1] at h3
    rw [Option.some.inj h3] at hd
    refine List.Sublist.trans ?_ (List.drop_sublist n l)
    rw [hd]
    exact h.cons_cons s
theorem bh_len {s : Int} {l : List Int} (h0 : 0 ≤ fx s l 0) : (fx s l 0).toNat < l.length := by
  rcases fx_spec s l 0 with ⟨h1, h2⟩ | ⟨n, h1, h2, h3, h4⟩
  · omega
  · omega
/-- With s first one goes on the longest way. -/
def hit (l m : List Int) (s : Int) : Prop := (0 ≤ fx s l 0 ∧ 0 ≤ fx s m 0) ∧ cm (bh s l) (bh s m) + 1 = cm l m
theorem hit_le {l m : List Int} {s : Int} (h1 : 0 ≤ fx s l 0) (h2 : 0 ≤ fx s m 0) : cm (bh s l) (bh s m) + 1 ≤ cm l m := by
  obtain ⟨p, k1, k2, k3⟩ := cm_some (bh s l) (bh s m)
  have := cm_most l m (s :: p) (bh_back h1 k1) (bh_back h2 k2)
  simp only [List.length_cons] at this
  omega
theorem hit_some {l m : List Int} (h : 0 < cm l m) : ∃ s ∈ l, hit l m s := by
  obtain ⟨p, k1, k2, k3⟩ := cm_some l m
  cases p with
  | nil => simp at k3; omega
  | cons s q =>
    have g1 := bh_greedy k1
    have g2 := bh_greedy k2
    refine ⟨s, k1.subset (by simp), ⟨g1.1, g2.1⟩, ?_⟩
    have a1 := hit_le g1.1 g2.1
    have a2 := cm_most _ _ q g1.2 g2.2
    simp only [List.length_cons] at k3
    omega
/-- The first longest list. -/
inductive IsP : List Int → List Int → List Int → Prop
  | nil {l m : List Int} : cm l m = 0 → IsP l m []
  | cons {l m q : List Int} {s : Nat} : 0 < cm l m → s < 6 → hit l m (s : Int) → (∀ j : Nat, j < s → ¬ hit l m (j : Int)) → IsP (bh (s : Int) l) (bh (s : Int) m) q → IsP l m ((s : Int) :: q)
theorem isP_sub {l m p : List Int} (h : IsP l m p) : p.Sublist l ∧ p.Sublist m ∧ p.length = cm l m := by
  induction h with
  | nil h => exact ⟨List.nil_sublist _, List.nil_sublist _, by rw [h]; rfl⟩
  | cons h0 hs hh hn hq ih =>
    refine ⟨bh_back hh.1.1 ih.1, bh_back hh.1.2 ih.2.1, ?_⟩
    rw [List.length_cons, ih.2.2]
    exact hh.2
theorem good_bh {l : List Int} {s : Int} (h : good l = true) : good (bh s l) = true := by
  rw [good_mem] at h ⊢
  exact fun x hx => h x (List.mem_of_mem_drop hx)
end Go.Proofs.Ytcbepmdnhjojdaa.Co
