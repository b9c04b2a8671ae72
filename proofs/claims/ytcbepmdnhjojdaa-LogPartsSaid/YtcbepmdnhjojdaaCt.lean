/- The longest list that is part of two logs: its length, which one is first, and what the distance with the costs 1, 1, 2 has to do with it. -/
import Derived.Test.YtcbepmdnhjojdaaRe
import Derived.Test.YtcbepmdnhjojdaaPx20
import Derived.Test.YtcbepmdnhjojdaaPx26
set_option linter.unusedVariables false
namespace Go.Proofs.Ytcbepmdnhjojdaa.Co
open Go.RowKit Go.Proofs.Ytcbepmdnhjojdaa.P Go.Proofs.Ytcbepmdnhjojdaa.E Go.Proofs.Ytcbepmdnhjojdaa.Al Go.Proofs.Ytcbepmdnhjojdaa.Lo Go.Proofs.Ytcbepmdnhjojdaa.Lr Go.Proofs.Ytcbepmdnhjojdaa.Re Go.Proofs.YtcbepmdnhjojdaaW.PrintMore
open Go.Proofs.YtcbepmdnhjojdaaW.PrintWords
/-- The greatest length of a list that is part of both. -/
def cm : List Int → List Int → Nat
  | [], _ => 0
  | _ :: _, [] => 0
  | a :: l, b :: m => if a = b then cm l m + 1 else max (cm l (b :: m)) (cm (a :: l) m)
theorem cm_nil (l : List Int) : cm l [] = 0 := by cases l <;> rw [cm]
theorem cm_nil' (l : List Int) : cm [] l = 0 := by rw [cm]
theorem sub_cons {x a : Int} {q l : List Int} (h : (x :: q).Sublist (a :: l)) : (x :: q).Sublist l ∨ x = a ∧ q.Sublist l := by
  cases h with
  | cons _ h => exact .inl h
  | cons_cons _ h => exact .inr ⟨rfl, h⟩
theorem sub_tail {x : Int} {q l : List Int} (h : (x :: q).Sublist l) : q.Sublist l := (List.sublist_cons_self x q).trans h
theorem cm_most : ∀ (l m p : List Int), p.Sublist l → p.Sublist m → p.length ≤ cm l m
  | [], m, p, h1, h2 => by rw [List.sublist_nil.1 h1, cm]; exact Nat.zero_le _
  | a :: l, [], p, h1, h2 => by rw [List.sublist_nil.1 h2, cm]; exact Nat.zero_le _
  | a :: l, b :: m, [], h1, h2 => Nat.zero_le _
  | a :: l, b :: m, x :: q, h1, h2 => by
    rw [cm]
    by_cases e : a = b
    · rw [if_pos e]
      have g1 : q.Sublist l := by
        rcases sub_cons h1 with h | h
        · exact sub_tail h
        · exact h.2
      have g2 : q.Sublist m := by
        rcases sub_cons h2 with h | h
        · exact sub_tail h
        · exact h.2
      have := cm_most l m q g1 g2
      simp only [List.length_cons]; omega
    · rw [if_neg e]
      rcases sub_cons h1 with h | h
      · have := cm_most l (b :: m) (x :: q) h h2
        omega
      · rcases sub_cons h2 with h' | h'
        · have := cm_most (a :: l) m (x :: q) h1 h'
          omega
        · exact absurd (h.1.symm.trans h'.1) e
  termination_by l m => l.length + m.length
theorem cm_some : ∀ (l m : List Int), ∃ p : List Int, p.Sublist l ∧ p.Sublist m ∧ p.length = cm l m
  | [], m => ⟨[], List.nil_sublist _, List.nil_sublist _, by rw [cm]; rfl⟩
  | a :: l, [] => ⟨[], List.nil_sublist _, List.nil_sublist _, by rw [cm]; rfl⟩
  | a :: l, b :: m => by
    rw [cm]
    by_cases e : a = b
    · obtain ⟨p, h1, h2, h3⟩ := cm_some l m
      rw [if_pos e]
      subst e
      exact ⟨a :: p, h1.cons_cons a, h2.cons_cons a, by simp [h3]⟩
    · rw [if_neg e]
      obtain ⟨p, h1, h2, h3⟩ := cm_some l (b :: m)
      obtain ⟨q, k1, k2, k3⟩ := cm_some (a :: l) m
      by_cases c : cm l (b :: m) ≤ cm (a :: l) m
      · exact ⟨q, k1, k2.cons b, by rw [k3]; omega⟩
      · exact ⟨p, h1.cons a, h2, by rw [h3]; omega⟩
  termination_by l m => l.length + m.length
theorem cm_le {l m l' m' : List Int} (h : l.Sublist l') (k : m.Sublist m') : cm l m ≤ cm l' m' := by
  obtain ⟨p, h1, h2, h3⟩ := cm_some l m
  rw [← h3]
  exact cm_most l' m' p (h1.trans h) (h2.trans k)
theorem cm_up (a : Int) (l m : List Int) : cm (a :: l) m ≤ cm l m + 1 := by
  obtain ⟨p, h1, h2, h3⟩ := cm_some (a :: l) m
  rw [← h3]
  cases p with
  | nil => simp
  | cons x q =>
    have g : q.Sublist l := by
      rcases sub_cons h1 with h | h
      · exact sub_tail h
      · exact h.2
    have := cm_most l m q g (sub_tail h2)
    simp only [List.length_cons]; omega
theorem cm_up' (b : Int) (l m : List Int) : cm l (b :: m) ≤ cm l m + 1 := by
  obtain ⟨p, h1, h2, h3⟩ := cm_some l (b :: m)
  rw [← h3]
  cases p with
  | nil => simp
  | cons x q =>
    have g : q.Sublist m := by
      rcases sub_cons h2 with h | h
      · exact sub_tail h
      · exact h.2
    have := cm_most l m q (sub_tail h1) g
    simp only [List.length_cons]; omega
theorem cm_len (l m : List Int) : cm l m ≤ l.length ∧ cm l m ≤ m.length := by
  obtain ⟨p, h1, h2, h3⟩ := cm_some l m
  rw [← h3]
  exact ⟨h1.length_le, h2.length_le⟩
/-- With the costs 1, 1 and 2 the distance is told by it. -/
theorem dist_cm : ∀ (l m : List Int), IsD 1 1 2 l m ((l.length : Int) + (m.length : Int) - 2 * (cm l m : Int))
  | [], m => by
    have := isD_nil_l (o := 1) (i := 1) (c := 2) m
    rw [cm_nil']
    simpa using this
  | a :: l, [] => by
    have := isD_nil_r (o := 1) (i := 1) (c := 2) (a :: l)
    rw [cm_nil]
    simpa using this
  | a :: l, b :: m => by
    have hx := dist_cm l (b :: m)
    have hy := dist_cm (a :: l) m
    have hz := dist_cm l m
    have := isD_cons hx hy hz
    have u1 := cm_up a l m
    have u2 := cm_up' b l m
    have l1 := cm_le (List.Sublist.refl l) (List.sublist_cons_self b m)
    have l2 := cm_le (List.sublist_cons_self a l) (List.Sublist.refl m)
    have e : (((a :: l).length : Nat) : Int) + (((b :: m).length : Nat) : Int) - 2 * (cm (a :: l) (b :: m) : Int) = min ((l.length : Int) + (((b :: m).length : Nat) : Int) - 2 * (cm l (b :: m) : Int) + 1) (min ((((a :: l).length : Nat) : Int) + (m.length : Int) - 2 * (cm (a :: l) m : Int) + 1) ((l.length : Int) + (m.length : Int) - 2 * (cm l m : Int) + ch 2 a b)) := by
      simp only [List.length_cons, ch]
      rw [show cm (a :: l) (b :: m) = if a = b then cm l m + 1 else max (cm l (b :: m)) (cm (a :: l) m) from by rw [cm]]
      by_cases e : a = b
      · rw [if_pos e, if_pos e]; omega
      · rw [if_neg e, if_neg e]; omega
    rw [e]
    exact this
  termination_by l m => l.length + m.length
/-- What comes behind the first s. -/
def bh (s : Int) (l : List Int) : List Int := l.drop ((fx s l 0).toNat + 1)
theorem fx_greedy (s : Int) : ∀ (l q : List Int) (b : Int), (s :: q).Sublist l → ∃ n : Nat, fx s l b = b + n ∧ q.Sublist (l.drop (n + 1))
  | [], q, b, h => by have := List.sublist_nil.1 h; exact absurd this (by simp)
  | a :: t, q, b, h => by
    rw [fx]
    by_cases e : s = a
    · rw [if_pos e]
      subst e
      exact ⟨0, by simp, by simpa using List.cons_sublist_cons.1 h⟩
    · rw [if_neg e]
      rcases sub_cons h with h | h
      · obtain ⟨n, h1, h2⟩ := fx_greedy s t q (b + 1) h
        exact ⟨n + 1, by rw [h1]; omega, by simpa using h2⟩
      · exact absurd h.1 e
theorem bh_greedy {s : Int} {l q : List Int} (h : (s :: q).Sublist l) : 0 ≤ fx s l 0 ∧ q.Sublist (bh s l) := by
  obtain ⟨n, h1, h2⟩ := fx_greedy s l q 0 h
  unfold bh
  rw [h1]
  exact ⟨by omega, by simpa using h2⟩
theorem bh_back {s : Int} {l q : List Int} (h0 : 0 ≤ fx s l 0) (h : q.Sublist (bh s l)) : (s :: q).Sublist l := by
  rcases fx_spec s l 0 with ⟨h1, h2⟩ | ⟨n, h1, h2, h3, h4⟩
  · omega
  · unfold bh at h
    rw [h2, show (0 + (n : Int)).toNat = n by omega] at h
    have hd := drop_cons h1
    rw [List.getElem?_eq_getElem h1] at h3
    rw [Option.some.inj h3] at hd
    refine List.Sublist.trans ?_ (List.drop_sublist n l)
    rw [hd]
    exact h.cons_cons s
theorem bh_len {s : Int} {l : List Int} (h0 : 0 ≤ fx s l 0) : (fx s l 0).toNat < l.length := by
  rcases fx_spec s l 0 with ⟨h1, h2⟩ | ⟨n, h1, h2, h3, h4⟩
  · omega
  · omega
/-- With s first one goes on the longest way. -/
def hit (l m : List Int) (s : Int) : Prop := (0 ≤ fx s l 0 ∧ 0 ≤ fx s m 0) ∧ cm (bh s l) (bh s m) + 1 = cm l m
theorem hit_le {l m : List Int} {s : Int} (h1 : 0 ≤ fx s l 0) (h2 : 0 ≤ fx s m 0) : cm (bh s l) (bh s m) + 1 ≤ cm l m := by
  obtain ⟨p, k1, k2, k3⟩ := cm_some (bh s l) (bh s m)
  have := cm_most l m (s :: p) (bh_back h1 k1) (bh_back h2 k2)
  simp only [List.length_cons] at this
  omega
theorem hit_some {l m : List Int} (h : 0 < cm l m) : ∃ s ∈ l, hit l m s := by
  obtain ⟨p, k1, k2, k3⟩ := cm_some l m
  cases p with
  | nil => simp at k3; omega
  | cons s q =>
    have g1 := bh_greedy k1
    have g2 := bh_greedy k2
    refine ⟨s, k1.subset (by simp), ⟨g1.1, g2.1⟩, ?_⟩
    have a1 := hit_le g1.1 g2.1
    have a2 := cm_most _ _ q g1.2 g2.2
    simp only [List.length_cons] at k3
    omega
/-- The first longest list. -/
inductive IsP : List Int → List Int → List Int → Prop
  | nil {l m : List Int} : cm l m = 0 → IsP l m []
  | cons {l m q : List Int} {s : Nat} : 0 < cm l m → s < 6 → hit l m (s : Int) → (∀ j : Nat, j < s → ¬ hit l m (j : Int)) → IsP (bh (s : Int) l) (bh (s : Int) m) q → IsP l m ((s : Int) :: q)
theorem isP_sub {l m p : List Int} (h : IsP l m p) : p.Sublist l ∧ p.Sublist m ∧ p.length = cm l m := by
  induction h with
  | nil h => exact ⟨List.nil_sublist _, List.nil_sublist _, by rw [h]; rfl⟩
  | cons h0 hs hh hn hq ih =>
    refine ⟨bh_back hh.1.1 ih.1, bh_back hh.1.2 ih.2.1, ?_⟩
    rw [List.length_cons, ih.2.2]
    exact hh.2
theorem good_bh {l : List Int} {s : Int} (h : good l = true) : good (bh s l) = true := by
  rw [good_mem] at h ⊢
  exact fun x hx => h x (List.mem_of_mem_drop hx)
end Go.Proofs.Ytcbepmdnhjojdaa.Co
/- What the program's table of common lists comes to; which lists it lets pass. -/
set_option linter.unusedVariables false
namespace Go.Proofs.Ytcbepmdnhjojdaa.Ct
open Go.RowKit Go.Proofs.Ytcbepmdnhjojdaa.P Go.Proofs.Ytcbepmdnhjojdaa.E Go.Proofs.Ytcbepmdnhjojdaa.Al Go.Proofs.Ytcbepmdnhjojdaa.Lo Go.Proofs.Ytcbepmdnhjojdaa.Lr Go.Proofs.Ytcbepmdnhjojdaa.Re Go.Proofs.Ytcbepmdnhjojdaa.Co Go.Proofs.YtcbepmdnhjojdaaW.PrintMore
open Go.Proofs.YtcbepmdnhjojdaaW.PrintWords
def tc (l m : List Int) : Int := if lc l = 0 then lc m else lc l
theorem tc_zero {l m : List Int} : tc l m = 0 ↔ lc l = 0 ∧ lc m = 0 := by
  unfold tc
  by_cases h : lc l = 0
  · rw [if_pos h]; exact ⟨fun q => ⟨h, q⟩, fun q => q.2⟩
  · rw [if_neg h]; exact ⟨fun q => absurd q h, fun q => absurd q.1 h⟩
theorem ev_or2 (a b : Int) : Tl (fun k => api_Errno.f k [a, b]) (if a = 0 then b else a) := by
  unfold api_Errno.f
  have e1 : wrap64 ((0 : Int) + 1) = 1 := by unfold wrap64; omega
  have e2 : wrap64 ((1 : Int) + 1) = 2 := by unfold wrap64; omega
  have l3 : (([a, b] : List Int).length : Int) = 2 := rfl
  have r0 : rd [a, b] 0 = a := rfl
  have r1 : rd [a, b] 1 = b := rfl
  rw [l3]
  refine Tl.succ ?_
  simp only [api_Errno.l0, r0, e1, l3]
  refine Tl.pos (by omega) (Tl.pos (by omega) (Tl.pos (by omega) ?_))
  by_cases ha : a = 0
  · rw [if_pos ha]
    refine Tl.pos ha (Tl.succ ?_)
    simp only [api_Errno.l0, r1, e2, l3]
    refine Tl.pos (by omega) (Tl.pos (by omega) (Tl.pos (by omega) ?_))
    by_cases hb : b = 0
    · refine Tl.pos hb (Tl.succ ?_)
      simp only [api_Errno.l0, l3]
      exact Tl.to (Tl.neg (by omega) Tl.now) hb.symm
    · exact Tl.neg hb Tl.now
  · rw [if_neg ha]; exact Tl.neg ha Tl.now
theorem ev_two {l m : List Int} (hl : l.length ≤ 1000) (hm : m.length ≤ 1000) : Tl (fun k => log_two.f k l m) (tc l m) := by
  unfold log_two.f
  exact Tl.bind (ev_Validate hl) (Tl.bind (ev_Validate hm) (Tl.bind (ev_or2 _ _) Tl.now))
theorem ev_rtwo {l m : List Int} (hl : l.length ≤ 1000) (hm : m.length ≤ 1000) : Tl (fun k => diaphoneref06_two.f k l m) (tc l m) := by
  unfold diaphoneref06_two.f tc
  by_cases h : lc l = 0
  · rw [if_pos h]; exact Tl.bind (ev_rValidate hl) (Tl.pos h (Tl.bind (ev_rValidate hm) Tl.now))
  · rw [if_neg h]; exact Tl.bind (ev_rValidate hl) (Tl.neg h Tl.now)
theorem part_loop (l : List Int) (hl : l.length ≤ 1000) (d : Nat) : ∀ (i : Nat) (p : List Int), i ≤ l.length → p.length ≤ 1000 → l.length - i = d → Tl (fun k => log_isPart.l0 k p l (l.length : Int) (i : Int)) (p.isSublist (l.drop i)) := by
  induction d with
  | zero =>
    intro i p h1 hp h2
    refine Tl.succ ?_
    simp only [log_isPart.l0]
    refine Tl.to (Tl.neg (by omega) Tl.now) ?_
    rw [List.drop_eq_nil_of_le (by omega)]
    cases p with
    | nil => simp [List.isSublist]
    | cons a p => simp [List.isSublist]; omega
  | succ d ih =>
    intro i p h1 hp h2
    have hi : i < l.length := by omega
    refine Tl.succ ?_
    simp only [log_isPart.l0]
    rw [w64 (x := (i : Int) + 1) (by omega) (by omega)]
    refine Tl.pos (by omega) (Tl.pos (by omega) (Tl.pos (by omega) ?_))
    cases p with
    | nil =>
      have next := ih (i + 1) [] (by omega) (by simp) (by omega)
      rw [show ((i + 1 : Nat) : Int) = (i : Int) + 1 by omega] at next
      exact Tl.to (Tl.neg (by simp) next) (by simp [List.isSublist])
    | cons a p =>
      simp only [List.length_cons] at hp
      refine Tl.pos (by simp only [List.length_cons]; omega) (Tl.pos (by simp only [List.length_cons]; omega) ?_)
      rw [show rd (a :: p) 0 = a from rfl, rd_lt hi, drop_cons hi, List.isSublist]
      by_cases e : a = l[i]
      · have next := ih (i + 1) p (by omega) (by omega) (by omega)
        rw [show ((i + 1 : Nat) : Int) = (i : Int) + 1 by omega] at next
        refine Tl.to (Tl.pos e (Tl.pos (by simp; omega) (Tl.congr next (fun k => by simp)))) (by simp [e])
      · have next := ih (i + 1) (a :: p) (by omega) (by simp; omega) (by omega)
        rw [show ((i + 1 : Nat) : Int) = (i : Int) + 1 by omega] at next
        exact Tl.to (Tl.neg e next) (by simp [e])
theorem ev_isPart (l p : List Int) (hl : l.length ≤ 1000) (hp : p.length ≤ 1000) : Tl (fun k => log_isPart.f k l p) (p.isSublist l) := by
  unfold log_isPart.f
  have := part_loop l hl l.length 0 p (by omega) hp (by omega)
  rwa [List.drop_zero] at this
def cv (l m p : List Int) : Int := if tc l m = 0 then (if p.isSublist l = true ∧ p.isSublist m = true then 0 else 7) else tc l m
theorem ev_CheckCommon {l m p : List Int} (hl : l.length ≤ 1000) (hm : m.length ≤ 1000) (hp : p.length ≤ 1000) : Tl (fun k => log_CheckCommon.f k l m p) (cv l m p) := by
  unfold log_CheckCommon.f cv
  by_cases h : tc l m = 0
  · rw [if_pos h]
    refine Tl.bind (ev_two hl hm) (Tl.pos h (Tl.bind (ev_isPart l p hl hp) ?_))
    by_cases h1 : p.isSublist l = true
    · refine Tl.pos h1 (Tl.bind (ev_isPart m p hm hp) ?_)
      by_cases h2 : p.isSublist m = true
      · exact Tl.to (Tl.pos h2 Tl.now) (if_pos ⟨h1, h2⟩).symm
      · exact Tl.to (Tl.neg h2 Tl.now) (if_neg (fun q => h2 q.2)).symm
    · exact Tl.to (Tl.neg h1 Tl.now) (if_neg (fun q => h1 q.1)).symm
  · rw [if_neg h]
    exact Tl.bind (ev_two hl hm) (Tl.neg h Tl.now)
theorem ev_rCheckCommon {l m p : List Int} (hl : l.length ≤ 1000) (hm : m.length ≤ 1000) (hp : p.length ≤ 1000) : Tl (fun k => diaphoneref06_CheckCommon.f k l m p) (cv l m p) := by
  unfold diaphoneref06_CheckCommon.f cv
  by_cases h : tc l m = 0
  · rw [if_pos h]
    refine Tl.bind (ev_rtwo hl hm) (Tl.pos h (Tl.bind (ev_in p l hp hl) ?_))
    by_cases h1 : p.isSublist l = true
    · refine Tl.pos h1 (Tl.bind (ev_in p m hp hm) ?_)
      by_cases h2 : p.isSublist m = true
      · exact Tl.to (Tl.pos h2 Tl.now) (if_pos ⟨h1, h2⟩).symm
      · exact Tl.to (Tl.neg h2 Tl.now) (if_neg (fun q => h2 q.2)).symm
    · exact Tl.to (Tl.neg h1 Tl.now) (if_neg (fun q => h1 q.1)).symm
  · rw [if_neg h]
    exact Tl.bind (ev_rtwo hl hm) (Tl.neg h Tl.now)
/-! The table: row a from place K on. -/
def row (l m : List Int) (a K : Nat) : List Int := (List.range (m.length + 1)).map fun k => if K ≤ k then (cm (l.drop a) (m.drop k) : Int) else 0
def tab (l m : List Int) (i : Nat) : List (List Int) := (List.range (l.length + 1)).map fun a => if a < i then [] else row l m a 0
theorem row_len (l m : List Int) (a K : Nat) : (row l m a K).length = m.length + 1 := by simp [row]
theorem tab_len (l m : List Int) (i : Nat) : (tab l m i).length = l.length + 1 := by simp [tab]
theorem row_rd {l m : List Int} {a K k : Nat} (hk : k ≤ m.length) : rd (row l m a K) (k : Int) = if K ≤ k then (cm (l.drop a) (m.drop k) : Int) else 0 := by
  rw [rd_lt (by rw [row_len]; omega)]
  simp [row]
theorem tab_rd {l m : List Int} {i a : Nat} (ha : a ≤ l.length) (hi : i ≤ a) : rd_L1 (tab l m i) (a : Int) = row l m a 0 := by
  unfold rd_L1
  rw [Int.toNat_natCast, List.getD_eq_getElem?_getD, List.getElem?_eq_getElem (by rw [tab_len]; omega)]
  simp only [tab, List.getElem_map, List.getElem_range, if_neg (show ¬ a < i by omega), Option.getD_some]
theorem row_set {l m : List Int} {a K : Nat} (hK : K < m.length + 1) : (row l m a (K + 1)).set K (cm (l.drop a) (m.drop K) : Int) = row l m a K := by
  refine List.ext_getElem (by simp [row]) (fun j h1 h2 => ?_)
  rw [List.getElem_set]
  simp only [row, List.getElem_map, List.getElem_range]
  by_cases e : K = j
  · rw [if_pos e, if_pos (by omega), e]
  · rw [if_neg e]
    by_cases c : K + 1 ≤ j
    · rw [if_pos c, if_pos (by omega)]
    · rw [if_neg c, if_neg (by omega)]
theorem tab_set {l m : List Int} {i : Nat} (hi : i ≤ l.length) : (tab l m (i + 1)).set i (row l m i 0) = tab l m i := by
  refine List.ext_getElem (by simp [tab]) (fun j h1 h2 => ?_)
  rw [List.getElem_set]
  simp only [tab, List.getElem_map, List.getElem_range]
  by_cases e : i = j
  · rw [if_pos e, if_neg (by omega), e]
  · rw [if_neg e]
    by_cases c : j < i + 1
    · rw [if_pos c, if_pos (by omega)]
    · rw [if_neg c, if_neg (by omega)]
theorem rd_set {T : List (List Int)} {r : List Int} {i : Nat} (hi : i < T.length) : rd_L1 (T.set i r) (i : Int) = r := by
  unfold rd_L1
  rw [Int.toNat_natCast, List.getD_eq_getElem?_getD, List.getElem?_set_self hi]; rfl
theorem rd_set_ne {T : List (List Int)} {r : List Int} {i j : Nat} (h : i ≠ j) : rd_L1 (T.set i r) (j : Int) = rd_L1 T (j : Int) := by
  unfold rd_L1
  rw [Int.toNat_natCast, List.getD_eq_getElem?_getD, List.getD_eq_getElem?_getD, List.getElem?_set_ne h]
theorem common_in (l m : List Int) (hl : l.length ≤ 1000) (hm : m.length ≤ 1000) {i : Nat} (hi : i < l.length) {r : List (List Int)}
    (out : Tl (fun k => log_common.l0 k l m (tab l m i) ((i : Int) - 1)) r) : ∀ K : Nat, K ≤ m.length → Tl (fun k => log_common.l1 k l m ((tab l m (i + 1)).set i (row l m i K)) (i : Int) ((K : Int) - 1)) r
  | 0, _ => by
    refine Tl.succ ?_
    simp only [log_common.l1]
    refine Tl.neg (by omega) (Tl.succ ?_)
    simp only [log_common.j2]
    rw [w64 (x := (i : Int) - 1) (by omega) (by omega), tab_set (by omega)]
    exact Tl.neg (by simp) out
  | K + 1, hK => by
    have next := common_in l m hl hm hi out K (by omega)
    have hn := tab_len l m (i + 1)
    have hr0 : rd_L1 ((tab l m (i + 1)).set i (row l m i (K + 1))) (i : Int) = row l m i (K + 1) := rd_set (by omega)
    have hr1 : rd_L1 ((tab l m (i + 1)).set i (row l m i (K + 1))) ((i : Int) + 1) = row l m (i + 1) 0 := by
      rw [show (i : Int) + 1 = ((i + 1 : Nat) : Int) by omega, rd_set_ne (by omega), tab_rd (by omega) (by omega)]
    have rl := row_len l m i (K + 1)
    have rl1 := row_len l m (i + 1) 0
    have v1 : rd (row l m (i + 1) 0) ((K : Int) + 1) = (cm (l.drop (i + 1)) (m.drop (K + 1)) : Int) := by
      rw [show (K : Int) + 1 = ((K + 1 : Nat) : Int) by omega, row_rd (by omega), if_pos (by omega)]
    have v2 : rd (row l m (i + 1) 0) (K : Int) = (cm (l.drop (i + 1)) (m.drop K) : Int) := by
      rw [row_rd (by omega), if_pos (by omega)]
    have v3 : rd (row l m i (K + 1)) ((K : Int) + 1) = (cm (l.drop i) (m.drop (K + 1)) : Int) := by
      rw [show (K : Int) + 1 = ((K + 1 : Nat) : Int) by omega, row_rd (by omega), if_pos (by omega)]
    have st := row_set (l := l) (m := m) (a := i) (K := K) (by omega)
    have b1 := (cm_len (l.drop (i + 1)) (m.drop (K + 1))).1
    simp only [List.length_drop] at b1
    have ec : cm (l.drop i) (m.drop K) = if l[i] = m[K] then cm (l.drop (i + 1)) (m.drop (K + 1)) + 1 else max (cm (l.drop (i + 1)) (m.drop K)) (cm (l.drop i) (m.drop (K + 1))) := by
      rw [drop_cons hi, drop_cons (show K < m.length by omega), cm]
    refine Tl.succ ?_
    simp only [log_common.l1]
    rw [show ((K + 1 : Nat) : Int) - 1 = (K : Int) by omega]
    refine Tl.pos (by omega) (Tl.succ ?_)
    simp only [log_common.j2]
    rw [w64 (x := (i : Int) + 1) (by omega) (by omega), w64 (x := (K : Int) + 1) (by omega) (by omega), w64 (x := (K : Int) - 1) (by omega) (by omega), hr0, hr1, v1, v2, v3, rl, rl1, List.length_set, hn, rd_lt hi, rd_lt (show K < m.length by omega), Int.toNat_natCast, Int.toNat_natCast]
    refine Tl.pos (by simp; omega) (Tl.pos (by omega) (Tl.pos (by omega) (Tl.pos (by omega) (Tl.pos (by omega) ?_))))
    by_cases e : l[i] = m[K]
    · rw [if_pos e] at ec
      rw [ec] at st
      rw [w64 (by omega) (by omega), List.set_set, show (cm (l.drop (i + 1)) (m.drop (K + 1)) : Int) + 1 = ((cm (l.drop (i + 1)) (m.drop (K + 1)) + 1 : Nat) : Int) by omega, st]
      exact Tl.pos e (Tl.pos (by omega) (Tl.pos (by omega) (Tl.pos (by omega) (Tl.pos (by omega) (Tl.pos (by omega) (Tl.pos (by omega) next))))))
    · rw [if_neg e] at ec
      rw [ec] at st
      rw [mx_eq, List.set_set, List.set_set, show max (cm (l.drop (i + 1)) (m.drop K) : Int) (cm (l.drop i) (m.drop (K + 1)) : Int) = ((max (cm (l.drop (i + 1)) (m.drop K)) (cm (l.drop i) (m.drop (K + 1))) : Nat) : Int) by omega, st]
      exact Tl.neg e (Tl.pos (by omega) (Tl.pos (by omega) (Tl.pos (by omega) (Tl.pos (by omega) (Tl.pos (by omega) (Tl.pos (by omega) (Tl.pos (by omega) next)))))))
theorem row_zero (l m : List Int) (a K : Nat) (h : l.length ≤ a ∨ m.length ≤ K) : row l m a K = List.replicate (m.length + 1) 0 := by
  refine List.ext_getElem (by simp [row]) (fun j h1 h2 => ?_)
  simp only [row, List.getElem_map, List.getElem_range, List.getElem_replicate]
  rw [row_len] at h1
  by_cases c : K ≤ j
  · rw [if_pos c]
    rcases h with h | h
    · rw [List.drop_eq_nil_of_le h, cm_nil']; rfl
    · rw [List.drop_eq_nil_of_le (show m.length ≤ j by omega), cm_nil]; rfl
  · rw [if_neg c]
theorem common_out (l m : List Int) (hl : l.length ≤ 1000) (hm : m.length ≤ 1000) : ∀ i : Nat, i ≤ l.length + 1 → Tl (fun k => log_common.l0 k l m (tab l m i) ((i : Int) - 1)) (tab l m 0)
  | 0, _ => by
    refine Tl.succ ?_
    simp only [log_common.l0]
    exact Tl.neg (by omega) Tl.now
  | i + 1, hi => by
    have next := common_out l m hl hm i (by omega)
    have hn := tab_len l m (i + 1)
    refine Tl.succ ?_
    simp only [log_common.l0]
    rw [show ((i + 1 : Nat) : Int) - 1 = (i : Int) by omega, w64 (x := (m.length : Int) + 1) (by omega) (by omega), w64 (x := (m.length : Int) - 1) (by omega) (by omega), Int.toNat_natCast, show ((m.length : Int) + 1).toNat = m.length + 1 by omega]
    refine Tl.pos (by omega) (Tl.pos (by omega) (Tl.pos (by omega) (Tl.pos (by omega) (Tl.pos (by omega) ?_))))
    by_cases h : i < l.length
    · rw [← row_zero l m i m.length (.inr (Nat.le_refl _))]
      exact common_in l m hl hm h next m.length (Nat.le_refl _)
    · rw [← row_zero l m i 0 (.inl (by omega)), tab_set (by omega)]
      have jf : Tl (fun k => log_common.j2 k l m (tab l m i) (i : Int) ((m.length : Int) - 1) false) (tab l m 0) := by
        refine Tl.succ ?_
        simp only [log_common.j2]
        rw [w64 (x := (i : Int) - 1) (by omega) (by omega)]
        exact Tl.neg (by simp) next
      refine Tl.succ ?_
      simp only [log_common.l1]
      rw [decide_eq_false (show ¬ (i : Int) < (l.length : Int) by omega)]
      by_cases c : (m.length : Int) - 1 ≥ 0
      · exact Tl.pos c jf
      · exact Tl.neg c jf
theorem tab_start (l m : List Int) : tab l m (l.length + 1) = List.replicate (l.length + 1) [] := by
  refine List.ext_getElem (by simp [tab]) (fun j h1 h2 => ?_)
  simp only [tab, List.getElem_map, List.getElem_range, List.getElem_replicate]
  rw [tab_len] at h1
  rw [if_pos h1]
theorem ev_common {l m : List Int} (hl : l.length ≤ 1000) (hm : m.length ≤ 1000) : Tl (fun k => log_common.f k l m) (tab l m 0) := by
  unfold log_common.f
  rw [w64 (x := (l.length : Int) + 1) (by omega) (by omega), show ((l.length : Int) + 1).toNat = l.length + 1 by omega, ← tab_start l m]
  have := common_out l m hl hm (l.length + 1) (Nat.le_refl _)
  rw [show ((l.length + 1 : Nat) : Int) - 1 = (l.length : Int) by omega] at this
  exact Tl.pos (by omega) (Tl.pos (by omega) this)
def cn (l m : List Int) : Int × Int := if tc l m = 0 then ((cm l m : Int), 0) else (0, tc l m)
theorem ev_Common {l m : List Int} (hl : l.length ≤ 1000) (hm : m.length ≤ 1000) : Tl (fun k => log_Common.f k l m) (cn l m) := by
  unfold log_Common.f cn
  by_cases h : tc l m = 0
  · rw [if_pos h]
    refine Tl.bind (ev_two hl hm) (Tl.pos h (Tl.bind (ev_common hl hm) ?_))
    have e : rd_L1 (tab l m 0) 0 = row l m 0 0 := tab_rd (a := 0) (by omega) (by omega)
    have e2 : rd (row l m 0 0) 0 = (cm l m : Int) := by
      have := row_rd (l := l) (m := m) (a := 0) (K := 0) (k := 0) (by omega)
      rw [if_pos (Nat.le_refl 0), List.drop_zero, List.drop_zero] at this
      exact this
    rw [e, tab_len, row_len, e2]
    exact Tl.pos (by omega) (Tl.pos (by omega) Tl.now)
  · rw [if_neg h]
    exact Tl.bind (ev_two hl hm) (Tl.neg h Tl.now)
end Go.Proofs.Ytcbepmdnhjojdaa.Ct
