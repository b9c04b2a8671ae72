/- Where a sign is first; which lists are part of a log; a log with other signs. -/
import Derived.Test.YtcbepmdnhjojdaaLr
import Derived.Test.YtcbepmdnhjojdaaPx24
import Derived.Test.YtcbepmdnhjojdaaPx25
set_option linter.unusedVariables false
namespace Go.Proofs.Ytcbepmdnhjojdaa.Re
open Go.RowKit Go.Proofs.Ytcbepmdnhjojdaa.P Go.Proofs.Ytcbepmdnhjojdaa.E Go.Proofs.Ytcbepmdnhjojdaa.Al Go.Proofs.Ytcbepmdnhjojdaa.Lo Go.Proofs.Ytcbepmdnhjojdaa.Lr Go.Proofs.YtcbepmdnhjojdaaW.PrintMore
open Go.Proofs.YtcbepmdnhjojdaaW.PrintWords
/-- The place of the first s, counted from b on; -1 if there is none. -/
def fx (s : Int) : List Int → Int → Int
  | [], _ => -1
  | a :: t, b => if s = a then b else fx s t (b + 1)
theorem fx_spec (s : Int) : ∀ (l : List Int) (b : Int), (fx s l b = -1 ∧ s ∉ l) ∨ ∃ n : Nat, n < l.length ∧ fx s l b = b + n ∧ l[n]? = some s ∧ ∀ j, j < n → l[j]? ≠ some s
  | [], b => .inl ⟨rfl, by simp⟩
  | a :: t, b => by
    rw [fx]
    by_cases h : s = a
    · rw [if_pos h]
      exact .inr ⟨0, by simp, by simp, by simp [h], fun j hj => by omega⟩
    · rw [if_neg h]
      rcases fx_spec s t (b + 1) with ⟨h1, h2⟩ | ⟨n, h1, h2, h3, h4⟩
      · exact .inl ⟨h1, by simp [h, h2]⟩
      · refine .inr ⟨n + 1, by simp; omega, by rw [h2]; omega, by simpa using h3, fun j hj => ?_⟩
        cases j with
        | zero => simp; exact fun e => h e.symm
        | succ j => simpa using h4 j (by omega)
theorem fx_nonneg {s : Int} {l : List Int} {b : Int} (hb : 0 ≤ b) : 0 ≤ fx s l b ↔ s ∈ l := by
  rcases fx_spec s l b with ⟨h1, h2⟩ | ⟨n, h1, h2, h3, h4⟩
  · exact ⟨fun q => by omega, fun q => absurd q h2⟩
  · exact ⟨fun _ => List.mem_of_getElem? h3, fun _ => by omega⟩
theorem ix_loop (l : List Int) (s : Int) (hl : l.length ≤ 1000) (d : Nat) : ∀ i : Nat, i ≤ l.length → l.length - i = d → Tl (fun k => slices_Index_int_int.l0 k l s (l.length : Int) (i : Int)) (fx s (l.drop i) (i : Int)) := by
  induction d with
  | zero =>
    intro i h1 h2
    refine Tl.succ ?_
    simp only [slices_Index_int_int.l0]
    rw [List.drop_eq_nil_of_le (by omega)]
    exact Tl.neg (by omega) Tl.now
  | succ d ih =>
    intro i h1 h2
    have next := ih (i + 1) (by omega) (by omega)
    rw [show ((i + 1 : Nat) : Int) = (i : Int) + 1 by omega] at next
    refine Tl.succ ?_
    simp only [slices_Index_int_int.l0]
    rw [w64 (x := (i : Int) + 1) (by omega) (by omega), drop_cons (show i < l.length by omega), fx, ← rd_lt (show i < l.length by omega)]
    refine Tl.pos (by omega) (Tl.pos (by omega) (Tl.pos (by omega) ?_))
    exact Tl.ite (fun _ => Tl.now) (fun _ => next)
theorem ev_Index (l : List Int) (s : Int) (hl : l.length ≤ 1000) : Tl (fun k => slices_Index_int_int.f k l s) (fx s l 0) := by
  unfold slices_Index_int_int.f
  have := ix_loop l s hl l.length 0 (by omega) (by omega)
  rwa [List.drop_zero] at this
theorem ev_Contains (l : List Int) (s : Int) (hl : l.length ≤ 1000) : Tl (fun k => slices_Contains_int_int.f k l s) (decide (s ∈ l)) := by
  unfold slices_Contains_int_int.f
  exact Tl.bind (ev_Index l s hl) (Tl.to Tl.now (decide_eq_decide.2 (fx_nonneg (by omega))))
/-- The document's test: a list is part of another one. -/
theorem in_loop (p l : List Int) (hp : p.length ≤ 1000) (hl : l.length ≤ 1000) (d : Nat) : ∀ i j : Nat, i ≤ l.length → j ≤ p.length → l.length - i = d → Tl (fun k => diaphoneref06_in.l0 k p l (j : Int) (i : Int)) ((p.drop j).isSublist (l.drop i)) := by
  induction d with
  | zero =>
    intro i j h1 h2 h3
    refine Tl.succ ?_
    simp only [diaphoneref06_in.l0]
    refine Tl.neg (by omega) (Tl.succ ?_)
    simp only [diaphoneref06_in.j1]
    refine Tl.to (Tl.neg (by simp) Tl.now) ?_
    rw [List.drop_eq_nil_of_le (show l.length ≤ i by omega)]
    by_cases hj : j < p.length
    · rw [drop_cons hj]
      simp [List.isSublist]; omega
    · rw [List.drop_eq_nil_of_le (show p.length ≤ j by omega)]
      simp [List.isSublist]; omega
  | succ d ih =>
    intro i j h1 h2 h3
    have hi : i < l.length := by omega
    refine Tl.succ ?_
    simp only [diaphoneref06_in.l0]
    refine Tl.pos (by omega) (Tl.succ ?_)
    simp only [diaphoneref06_in.j1]
    by_cases hj : j < p.length
    · refine Tl.pos (by simp; omega) (Tl.pos (by omega) (Tl.pos (by omega) (Tl.pos (by omega) (Tl.pos (by omega) ?_))))
      rw [w64 (x := (i : Int) + 1) (by omega) (by omega), w64 (x := (j : Int) + 1) (by omega) (by omega)]
      by_cases e : rd l (i : Int) = rd p (j : Int)
      · have next := ih (i + 1) (j + 1) (by omega) (by omega) (by omega)
        rw [show ((i + 1 : Nat) : Int) = (i : Int) + 1 by omega, show ((j + 1 : Nat) : Int) = (j : Int) + 1 by omega] at next
        refine Tl.to (Tl.pos e next) ?_
        rw [drop_cons hi, drop_cons hj, List.isSublist]
        rw [rd_lt hi, rd_lt hj] at e
        simp [e]
      · have next := ih (i + 1) j (by omega) (by omega) (by omega)
        rw [show ((i + 1 : Nat) : Int) = (i : Int) + 1 by omega] at next
        refine Tl.to (Tl.neg e next) ?_
        rw [drop_cons hi, drop_cons hj, List.isSublist]
        rw [rd_lt hi, rd_lt hj] at e
        have e' : ¬ p[j] = l[i] := fun q => e q.symm
        simp [e']
    · refine Tl.to (Tl.neg (by simp; omega) Tl.now) ?_
      rw [List.drop_eq_nil_of_le (show p.length ≤ j by omega)]
      simp [List.isSublist]; omega
theorem ev_in (p l : List Int) (hp : p.length ≤ 1000) (hl : l.length ≤ 1000) : Tl (fun k => diaphoneref06_in.f k p l) (p.isSublist l) := by
  unfold diaphoneref06_in.f
  have := in_loop p l hp hl l.length 0 0 (by omega) (by omega) (by omega)
  rwa [List.drop_zero, List.drop_zero] at this
theorem ev_in1 (s : Int) (l : List Int) (hl : l.length ≤ 1000) : Tl (fun k => diaphoneref06_in.f k [s] l) (decide (s ∈ l)) := by
  refine Tl.to (ev_in [s] l (by simp) hl) ?_
  rw [Bool.eq_iff_iff, List.isSublist_iff_sublist, decide_eq_true_iff, List.singleton_sublist]
/-- Each sign is named. -/
def All (t : List Int) : Prop := ∀ j, j < 6 → (j : Nat) < 6 → ((j : Nat) : Int) ∈ t
instance (t : List Int) : Decidable (All t) := by unfold All; infer_instance
theorem all_of {t : List Int} (h : All t) {j : Nat} (hj : j < 6) : (j : Int) ∈ t := h j hj hj
def rn (l t : List Int) : List Int × Int := if lc l = 0 then (if t.length = 6 ∧ All t then (l.map (rd t), 0) else ([], 1)) else ([], lc l)
theorem lmap (l t : List Int) (hl : l.length ≤ 1000) (ht : t.length = 6) (hg : good l = true) (d : Nat) : ∀ i : Nat, i ≤ l.length → l.length - i = d → Tl (fun k => log_Rename.l1 k t ((l.map (rd t)).take i) l (l.length : Int) (i : Int)) (l.map (rd t), 0) := by
  induction d with
  | zero =>
    intro i h1 h2
    refine Tl.succ ?_
    simp only [log_Rename.l1]
    refine Tl.to (Tl.neg (by omega) Tl.now) ?_
    rw [List.take_of_length_le (by simp; omega)]
  | succ d ih =>
    intro i h1 h2
    have hi : i < l.length := by omega
    have hr := good_mem.1 hg _ (List.getElem_mem hi)
    rw [← rd_lt hi] at hr
    have next := ih (i + 1) (by omega) (by omega)
    rw [List.take_succ_eq_append_getElem (by simp; omega), List.getElem_map, ← rd_lt hi, show ((i + 1 : Nat) : Int) = (i : Int) + 1 by omega] at next
    refine Tl.succ ?_
    simp only [log_Rename.l1]
    rw [w64 (x := (i : Int) + 1) (by omega) (by omega)]
    exact Tl.pos (by omega) (Tl.pos (by omega) (Tl.pos (by omega) (Tl.pos (by omega) (Tl.pos (by omega) (Tl.pos (by simp; omega) next)))))
theorem rmap (l t : List Int) (hl : l.length ≤ 1000) (ht : t.length = 6) (hg : good l = true) (d : Nat) : ∀ i : Nat, i ≤ l.length → l.length - i = d → Tl (fun k => diaphoneref06_Rename.l1 k l t ((l.map (rd t)).take i) (i : Int)) (l.map (rd t), 0) := by
  induction d with
  | zero =>
    intro i h1 h2
    refine Tl.succ ?_
    simp only [diaphoneref06_Rename.l1]
    refine Tl.to (Tl.neg (by omega) Tl.now) ?_
    rw [List.take_of_length_le (by simp; omega)]
  | succ d ih =>
    intro i h1 h2
    have hi : i < l.length := by omega
    have hr := good_mem.1 hg _ (List.getElem_mem hi)
    rw [← rd_lt hi] at hr
    have next := ih (i + 1) (by omega) (by omega)
    rw [List.take_succ_eq_append_getElem (by simp; omega), List.getElem_map, ← rd_lt hi, show ((i + 1 : Nat) : Int) = (i : Int) + 1 by omega] at next
    refine Tl.succ ?_
    simp only [diaphoneref06_Rename.l1]
    rw [w64 (x := (i : Int) + 1) (by omega) (by omega)]
    exact Tl.pos (by omega) (Tl.pos (by omega) (Tl.pos (by omega) (Tl.pos (by omega) (Tl.pos (by simp; omega) next))))
theorem lnames (l t : List Int) (hl : l.length ≤ 1000) (ht : t.length = 6) (hg : good l = true) (d : Nat) : ∀ s : Nat, s + d = 6 → (∀ j : Nat, j < s → (j : Int) ∈ t) → Tl (fun k => log_Rename.l0 k l t (t.length : Int) (s : Int)) (if All t then (l.map (rd t), 0) else ([], 1)) := by
  induction d with
  | zero =>
    intro s h1 h2
    refine Tl.succ ?_
    simp only [log_Rename.l0]
    rw [if_pos (show All t from fun j hj _ => h2 j (by omega))]
    have := lmap l t hl ht hg l.length 0 (by omega) (by omega)
    rw [List.take_zero] at this
    exact Tl.neg (by omega) this
  | succ d ih =>
    intro s h1 h2
    refine Tl.succ ?_
    simp only [log_Rename.l0]
    refine Tl.pos (by omega) (Tl.bind (ev_Contains t s (by omega)) ?_)
    by_cases h : (s : Int) ∈ t
    · have next := ih (s + 1) (by omega) (fun j hj => by
        by_cases e : j = s
        · rw [e]; exact h
        · exact h2 j (by omega))
      rw [show ((s + 1 : Nat) : Int) = (s : Int) + 1 by omega] at next
      rw [w64 (x := (s : Int) + 1) (by omega) (by omega)]
      exact Tl.pos (by simpa using h) next
    · rw [if_neg (fun q => h (all_of q (by omega)))]
      exact Tl.neg (by simpa using h) Tl.now
theorem rnames (l t : List Int) (hl : l.length ≤ 1000) (ht : t.length = 6) (hg : good l = true) (d : Nat) : ∀ s : Nat, s + d = 6 → (∀ j : Nat, j < s → (j : Int) ∈ t) → Tl (fun k => diaphoneref06_Rename.l0 k l t (s : Int)) (if All t then (l.map (rd t), 0) else ([], 1)) := by
  induction d with
  | zero =>
    intro s h1 h2
    refine Tl.succ ?_
    simp only [diaphoneref06_Rename.l0]
    rw [if_pos (show All t from fun j hj _ => h2 j (by omega))]
    have := rmap l t hl ht hg l.length 0 (by omega) (by omega)
    rw [List.take_zero] at this
    exact Tl.neg (by omega) this
  | succ d ih =>
    intro s h1 h2
    refine Tl.succ ?_
    simp only [diaphoneref06_Rename.l0]
    refine Tl.pos (by omega) (Tl.bind (ev_in1 s t (by omega)) ?_)
    by_cases h : (s : Int) ∈ t
    · have next := ih (s + 1) (by omega) (fun j hj => by
        by_cases e : j = s
        · rw [e]; exact h
        · exact h2 j (by omega))
      rw [show ((s + 1 : Nat) : Int) = (s : Int) + 1 by omega] at next
      rw [w64 (x := (s : Int) + 1) (by omega) (by omega)]
      exact Tl.pos (by simpa using h) next
    · rw [if_neg (fun q => h (all_of q (by omega)))]
      exact Tl.neg (by simpa using h) Tl.now
theorem ev_Rename {l t : List Int} (hl : l.length ≤ 1000) : Tl (fun k => log_Rename.f k l t) (rn l t) := by
  unfold log_Rename.f rn
  by_cases h : lc l = 0
  · rw [if_pos h]
    refine Tl.bind (ev_Validate hl) (Tl.pos h ?_)
    by_cases ht : t.length = 6
    · refine Tl.pos (by omega) (Tl.to (lnames l t hl ht (lc_zero.1 h).2 6 0 (by omega) (by omega)) ?_)
      simp only [ht, true_and]
    · rw [if_neg (fun q => ht q.1)]
      exact Tl.neg (by omega) Tl.now
  · rw [if_neg h]
    exact Tl.bind (ev_Validate hl) (Tl.neg h Tl.now)
theorem ev_rRename {l t : List Int} (hl : l.length ≤ 1000) : Tl (fun k => diaphoneref06_Rename.f k l t) (rn l t) := by
  unfold diaphoneref06_Rename.f rn
  by_cases h : lc l = 0
  · rw [if_pos h]
    refine Tl.bind (ev_rValidate hl) (Tl.pos h ?_)
    by_cases ht : t.length = 6
    · refine Tl.pos (by omega) (Tl.to (rnames l t hl ht (lc_zero.1 h).2 6 0 (by omega) (by omega)) ?_)
      simp only [ht, true_and]
    · rw [if_neg (fun q => ht q.1)]
      exact Tl.neg (by omega) Tl.now
  · rw [if_neg h]
    exact Tl.bind (ev_rValidate hl) (Tl.neg h Tl.now)
/-- So many places for as many signs: each one stands once, and no other one. -/
theorem pigeon : ∀ (n : Nat) (t : List Int), t.length = n → (∀ j : Nat, j < n → (j : Int) ∈ t) → (∀ x ∈ t, 0 ≤ x ∧ x < (n : Int)) ∧ t.Nodup
  | 0, t, h1, _ => by
    rw [List.eq_nil_of_length_eq_zero h1]; simp
  | n + 1, t, h1, h2 => by
    have hm := h2 n (by omega)
    have hp := List.perm_cons_erase hm
    obtain ⟨g1, g2⟩ := pigeon n (t.erase (n : Int)) (by rw [List.length_erase_of_mem hm]; omega) (fun j hj => (List.mem_erase_of_ne (by omega)).2 (h2 j (by omega)))
    constructor
    · intro x hx
      rcases List.mem_cons.1 (hp.mem_iff.1 hx) with e | e
      · omega
      · have := g1 x e; omega
    · rw [hp.nodup_iff, List.nodup_cons]
      exact ⟨fun e => by have := g1 _ e; omega, g2⟩
theorem back_sign {t : List Int} (ht : t.length = 6) (ha : All t) {a : Int} (h : 0 ≤ a ∧ a ≤ 5) : fx (rd t a) t 0 = a ∧ 0 ≤ rd t a ∧ rd t a ≤ 5 := by
  obtain ⟨g1, g2⟩ := pigeon 6 t ht (fun j hj => all_of ha hj)
  obtain ⟨n, rfl⟩ := Int.eq_ofNat_of_zero_le h.1
  have hn : n < t.length := by omega
  have hm : rd t (n : Int) ∈ t := by rw [rd_lt hn]; exact List.getElem_mem hn
  have hb := g1 _ hm
  refine ⟨?_, hb.1, by omega⟩
  rcases fx_spec (rd t (n : Int)) t 0 with ⟨h1, h2⟩ | ⟨k, h1, h2, h3, h4⟩
  · exact absurd hm h2
  · rw [rd_lt hn, List.getElem?_eq_getElem h1] at h3
    have h3' := Option.some.inj h3
    have e : k = n := (List.getElem_inj g2).1 h3'
    rw [h2, e]; omega
end Go.Proofs.Ytcbepmdnhjojdaa.Re
