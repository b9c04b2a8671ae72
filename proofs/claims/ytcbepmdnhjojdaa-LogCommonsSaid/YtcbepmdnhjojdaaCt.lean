/- What the program's table of common lists comes to; which lists it lets pass. -/
import Derived.Test.YtcbepmdnhjojdaaCo
import Derived.Test.YtcbepmdnhjojdaaPx20
import Derived.Test.YtcbepmdnhjojdaaPx26
set_option linter.unusedVariables false
namespace Go.Proofs.Ytcbepmdnhjojdaa.Ct
open Go.RowKit Go.Proofs.Ytcbepmdnhjojdaa.P Go.Proofs.Ytcbepmdnhjojdaa.E Go.Proofs.Ytcbepmdnhjojdaa.Al Go.Proofs.Ytcbepmdnhjojdaa.Lo Go.Proofs.Ytcbepmdnhjojdaa.Lr Go.Proofs.Ytcbepmdnhjojdaa.Re Go.Proofs.Ytcbepmdnhjojdaa.Co Go.Proofs.YtcbepmdnhjojdaaW.PrintMore
open Go.Proofs.YtcbepmdnhjojdaaW.PrintWords
def tc (l m : List Int) : Int := if lc l = 0 then lc m else lc l
theorem tc_zero {l m : List Int} : tc l m = 0 ↔ lc l = 0 ∧ lc m = 0 := by
  unfold tc
  by_cases h : lc l = 0
  · rw [if_pos h]; exact ⟨fun q => ⟨h, q⟩, fun q => q.2⟩
  · rw [if_neg h]; exact ⟨fun q => absurd q h, fun q => absurd q.1 h⟩
theorem ev_or2 (a b : Int) : Tl (fun k => api_Errno.f k [a, b]) (if a = 0 then b else a) := by
  unfold api_Errno.f
  have e1 : wrap64 ((0 : Int) + 1) = 1 := by unfold wrap64; omega
  have e2 : wrap64 ((1 : Int) + 1) = 2 := by unfold wrap64; omega
  have l3 : (([a, b] : List Int).length : Int) = 2 := rfl
  have r0 : rd [a, b] 0 = a := rfl
  have r1 : rd [a, b] 1 = b := rfl
  rw [l3]
  refine Tl.succ ?_
  simp only [api_Errno.l0, r0, e1, l3]
  refine Tl.pos (by omega) (Tl.pos (by omega) (Tl.pos (by omega) ?_))
  by_cases ha : a = 0
  · rw [if_pos ha]
    refine Tl.pos ha (Tl.succ ?_)
    simp only [api_Errno.l0, r1, e2, l3]
    refine Tl.pos (by omega) (Tl.pos (by omega) (Tl.pos (by omega) ?_))
    by_cases hb : b = 0
    · refine Tl.pos hb (Tl.succ ?_)
      simp only [api_Errno.l0, l3]
      exact Tl.to (Tl.neg (by omega) Tl.now) hb.symm
    · exact Tl.neg hb Tl.now
  · rw [if_neg ha]; exact Tl.neg ha Tl.now
theorem ev_two {l m : List Int} (hl : l.length ≤ 1000) (hm : m.length ≤ 1000) : Tl (fun k => log_two.f k l m) (tc l m) := by
  unfold log_two.f
  exact Tl.bind (ev_Validate hl) (Tl.bind (ev_Validate hm) (Tl.bind (ev_or2 _ _) Tl.now))
theorem ev_rtwo {l m : List Int} (hl : l.length ≤ 1000) (hm : m.length ≤ 1000) : Tl (fun k => diaphoneref06_two.f k l m) (tc l m) := by
  unfold diaphoneref06_two.f tc
  by_cases h : lc l = 0
  · rw [if_pos h]; exact Tl.bind (ev_rValidate hl) (Tl.pos h (Tl.bind (ev_rValidate hm) Tl.now))
  · rw [if_neg h]; exact Tl.bind (ev_rValidate hl) (Tl.neg h Tl.now)
theorem part_loop (l : List Int) (hl : l.length ≤ 1000) (d : Nat) : ∀ (i : Nat) (p : List Int), i ≤ l.length → p.length ≤ 1000 → l.length - i = d → Tl (fun k => log_isPart.l0 k p l (l.length : Int) (i : Int)) (p.isSublist (l.drop i)) := by
  induction d with
  | zero =>
    intro i p h1 hp h2
    refine Tl.succ ?_
    simp only [log_isPart.l0]
    refine Tl.to (Tl.neg (by omega) Tl.now) ?_
    rw [List.drop_eq_nil_of_le (by omega)]
    cases p with
    | nil => simp [List.isSublist]
    | cons a p => simp [List.isSublist]; omega
  | succ d ih =>
    intro i p h1 hp h2
    have hi : i < l.length := by omega
    refine Tl.succ ?_
    simp only [log_isPart.l0]
    rw [w64 (x := (i : Int) + 1) (by omega) (by omega)]
    refine Tl.pos (by omega) (Tl.pos (by omega) (Tl.pos (by omega) ?_))
    cases p with
    | nil =>
      have next := ih (i + 1) [] (by omega) (by simp) (by omega)
      rw [show ((i + 1 : Nat) : Int) = (i : Int) + 1 by omega] at next
      exact Tl.to (Tl.neg (by simp) next) (by simp [List.isSublist])
    | cons a p =>
      simp only [List.length_cons] at hp
      refine Tl.pos (by simp only [List.length_cons]; omega) (Tl.pos (by simp only [List.length_cons]; omega) ?_)
      rw [show rd (a :: p) 0 = a from rfl, rd_lt hi, drop_cons hi, List.isSublist]
      by_cases e : a = l[i]
      · have next := ih (i + 1) p (by omega) (by omega) (by omega)
        rw [show ((i + 1 : Nat) : Int) = (i : Int) + 1 by omega] at next
        refine Tl.to (Tl.pos e (Tl.pos (by simp; omega) (Tl.congr next (fun k => by simp)))) (by simp [e])
      · have next := ih (i + 1) (a :: p) (by omega) (by simp; omega) (by omega)
        rw [show ((i + 1 : Nat) : Int) = (i : Int) + 1 by omega] at next
        exact Tl.to (Tl.neg e next) (by simp [e])
theorem ev_isPart (l p : List Int) (hl : l.length ≤ 1000) (hp : p.length ≤ 1000) : Tl (fun k => log_isPart.f k l p) (p.isSublist l) := by
  unfold log_isPart.f
  have := part_loop l hl l.length 0 p (by omega) hp (by omega)
  rwa [List.drop_zero] at this
def cv (l m p : List Int) : Int := if tc l m = 0 then (if p.isSublist l = true ∧ p.isSublist m = true then 0 else 7) else tc l m
theorem ev_CheckCommon {l m p : List Int} (hl : l.length ≤ 1000) (hm : m.length ≤ 1000) (hp : p.length ≤ 1000) : Tl (fun k => log_CheckCommon.f k l m p) (cv l m p) := by
  unfold log_CheckCommon.f cv
  by_cases h : tc l m = 0
  · rw [if_pos h]
    refine Tl.bind (ev_two hl hm) (Tl.pos h (Tl.bind (ev_isPart l p hl hp) ?_))
    by_cases h1 : p.isSublist l = true
    · refine Tl.pos h1 (Tl.bind (ev_isPart m p hm hp) ?_)
      by_cases h2 : p.isSublist m = true
      · exact Tl.to (Tl.pos h2 Tl.now) (if_pos ⟨h1, h2⟩).symm
      · exact Tl.to (Tl.neg h2 Tl.now) (if_neg (fun q => h2 q.2)).symm
    · exact Tl.to (Tl.neg h1 Tl.now) (if_neg (fun q => h1 q.1)).symm
  · rw [if_neg h]
    exact Tl.bind (ev_two hl hm) (Tl.neg h Tl.now)
theorem ev_rCheckCommon {l m p : List Int} (hl : l.length ≤ 1000) (hm : m.length ≤ 1000) (hp : p.length ≤ 1000) : Tl (fun k => diaphoneref06_CheckCommon.f k l m p) (cv l m p) := by
  unfold diaphoneref06_CheckCommon.f cv
  by_cases h : tc l m = 0
  · rw [if_pos h]
    refine Tl.bind (ev_rtwo hl hm) (Tl.pos h (Tl.bind (ev_in p l hp hl) ?_))
    by_cases h1 : p.isSublist l = true
    · refine Tl.pos h1 (Tl.bind (ev_in p m hp hm) ?_)
      by_cases h2 : p.isSublist m = true
      · exact Tl.to (Tl.pos h2 Tl.now) (if_pos ⟨h1, h2⟩).symm
      · exact Tl.to (Tl.neg h2 Tl.now) (if_neg (fun q => h2 q.2)).symm
    · exact Tl.to (Tl.neg h1 Tl.now) (if_neg (fun q => h1 q.1)).symm
  · rw [if_neg h]
    exact Tl.bind (ev_rtwo hl hm) (Tl.neg h Tl.now)
/-! The table: row a from place K on. -/
def row (l m : List Int) (a K : Nat) : List Int := (List.range (m.length + 1)).map fun k => if K ≤ k then (cm (l.drop a) (m.drop k) : Int) else 0
def tab (l m : List Int) (i : Nat) : List (List Int) := (List.range (l.length + 1)).map fun a => if a < i then [] else row l m a 0
theorem row_len (l m : List Int) (a K : Nat) : (row l m a K).length = m.length + 1 := by simp [row]
theorem tab_len (l m : List Int) (i : Nat) : (tab l m i).length = l.length + 1 := by simp [tab]
theorem row_rd {l m : List Int} {a K k : Nat} (hk : k ≤ m.length) : rd (row l m a K) (k : Int) = if K ≤ k then (cm (l.drop a) (m.drop k) : Int) else 0 := by
  rw [rd_lt (by rw [row_len]; omega)]
  simp [row]
theorem tab_rd {l m : List Int} {i a : Nat} (ha : a ≤ l.length) (hi : i ≤ a) : rd_L1 (tab l m i) (a : Int) = row l m a 0 := by
  unfold rd_L1
  rw [Int.toNat_natCast, List.getD_eq_getElem?_getD, List.getElem?_eq_getElem (by rw [tab_len]; omega)]
  simp only [tab, List.getElem_map, List.getElem_range, if_neg (show ¬ a < i by omega), Option.getD_some]
theorem row_set {l m : List Int} {a K : Nat} (hK : K < m.length + 1) : (row l m a (K + 1)).set K (cm (l.drop a) (m.drop K) : Int) = row l m a K := by
  refine List.ext_getElem (by simp [row]) (fun j h1 h2 => ?_)
  rw [List.getElem_set]
  simp only [row, List.getElem_map, List.getElem_range]
  by_cases e : K = j
  · rw [if_pos e, if_pos (by omega), e]
  · rw [if_neg e]
    by_cases c : K + 1 ≤ j
    · rw [if_pos c, if_pos (by omega)]
    · rw [if_neg c, if_neg (by omega)]
theorem tab_set {l m : List Int} {i : Nat} (hi : i ≤ l.length) : (tab l m (i + 1)).set i (row l m i 0) = tab l m i := by
  refine List.ext_getElem (by simp [tab]) (fun j h1 h2 => ?_)
  rw [List.getElem_set]
  simp only [tab, List.getElem_map, List.getElem_range]
  by_cases e : i = j
  · rw [if_pos e, if_neg (by omega), e]
  · rw [if_neg e]
    by_cases c : j < i + 1
    · rw [if_pos c, if_pos (by omega)]
    · rw [if_neg c, if_neg (by omega)]
theorem rd_set {T : List (List Int)} {r : List Int} {i : Nat} (hi : i < T.length) : rd_L1 (T.set i r) (i : Int) = r := by
  unfold rd_L1
  rw [Int.toNat_natCast, List.getD_eq_getElem?_getD, List.getElem?_set_self hi]; rfl
theorem rd_set_ne {T : List (List Int)} {r : List Int} {i j : Nat} (h : i ≠ j) : rd_L1 (T.set i r) (j : Int) = rd_L1 T (j : Int) := by
  unfold rd_L1
  rw [Int.toNat_natCast, List.getD_eq_getElem?_getD, List.getD_eq_getElem?_getD, List.getElem?_set_ne h]
theorem common_in (l m : List Int) (hl : l.length ≤ 1000) (hm : m.length ≤ 1000) {i : Nat} (hi : i < l.length) {r : List (List Int)}
    (out : Tl (fun k => log_common.l0 k l m (tab l m i) ((i : Int) - 1)) r) : ∀ K : Nat, K ≤ m.length → Tl (fun k => log_common.l1 k l m ((tab l m (i + 1)).set i (row l m i K)) (i : Int) ((K : Int) - 1)) r
  | 0, _ => by
    refine Tl.succ ?_
    simp only [log_common.l1]
    refine Tl.neg (by omega) (Tl.succ ?_)
    simp only [log_common.j2]
    rw [w64 (x := (i : Int) - 1) (by omega) (by omega), tab_set (by omega)]
    exact Tl.neg (by simp) out
  | K + 1, hK => by
    have next := common_in l m hl hm hi out K (by omega)
    have hn := tab_len l m (i + 1)
    have hr0 : rd_L1 ((tab l m (i + 1)).set i (row l m i (K + 1))) (i : Int) = row l m i (K + 1) := rd_set (by omega)
    have hr1 : rd_L1 ((tab l m (i + 1)).set i (row l m i (K + 1))) ((i : Int) + 1) = row l m (i + 1) 0 := by
      rw [show (i : Int) + 1 = ((i + 1 : Nat) : Int) by omega, rd_set_ne (by omega), tab_rd (by omega) (by omega)]
    have rl := row_len l m i (K + 1)
    have rl1 := row_len l m (i + 1) 0
    have v1 : rd (row l m (i + 1) 0) ((K : Int) + 1) = (cm (l.drop (i + 1)) (m.drop (K + 1)) : Int) := by
      rw [show (K : Int) + 1 = ((K + 1 : Nat) : Int) by omega, row_rd (by omega), if_pos (by omega)]
    have v2 : rd (row l m (i + 1) 0) (K : Int) = (cm (l.drop (i + 1)) (m.drop K) : Int) := by
      rw [row_rd (by omega), if_pos (by omega)]
    have v3 : rd (row l m i (K + 1)) ((K : Int) + 1) = (cm (l.drop i) (m.drop (K + 1)) : Int) := by
      rw [show (K : Int) + 1 = ((K + 1 : Nat) : Int) by omega, row_rd (by omega), if_pos (by omega)]
    have st := row_set (l := l) (m := m) (a := i) (K := K) (by omega)
    have b1 := (cm_len (l.drop (i + 1)) (m.drop (K + 1))).1
    simp only [List.length_drop] at b1
    have ec : cm (l.drop i) (m.drop K) = if l[i] = m[K] then cm (l.drop (i + 1)) (m.drop (K + 1)) + 1 else max (cm (l.drop (i + 1)) (m.drop K)) (cm (l.drop i) (m.drop (K + 1))) := by
      rw [drop_cons hi, drop_cons (show K < m.length by omega), cm]
    refine Tl.succ ?_
    simp only [log_common.l1]
    rw [show ((K + 1 : Nat) : Int) - 1 = (K : Int) by omega]
    refine Tl.pos (by omega) (Tl.succ ?_)
    simp only [log_common.j2]
    rw [w64 (x := (i : Int) + 1) (by omega) (by omega), w64 (x := (K : Int) + 1) (by omega) (by omega), w64 (x := (K : Int) - 1) (by omega) (by omega), hr0, hr1, v1, v2, v3, rl, rl1, List.length_set, hn, rd_lt hi, rd_lt (show K < m.length by omega), Int.toNat_natCast, Int.toNat_natCast]
    refine Tl.pos (by simp; omega) (Tl.pos (by omega) (Tl.pos (by omega) (Tl.pos (by omega) (Tl.pos (by omega) ?_))))
    by_cases e : l[i] = m[K]
    · rw [if_pos e] at ec
      rw [ec] at st
      rw [w64 (by omega) (by omega), List.set_set, show (cm (l.drop (i + 1)) (m.drop (K + 1)) : Int) + 1 = ((cm (l.drop (i + 1)) (m.drop (K + 1)) + 1 : Nat) : Int) by omega, st]
      exact Tl.pos e (Tl.pos (by omega) (Tl.pos (by omega) (Tl.pos (by omega) (Tl.pos (by omega) (Tl.pos (by omega) (Tl.pos (by omega) next))))))
    · rw [if_neg e] at ec
      rw [ec] at st
      rw [mx_eq, List.set_set, List.set_set, show max (cm (l.drop (i + 1)) (m.drop K) : Int) (cm (l.drop i) (m.drop (K + 1)) : Int) = ((max (cm (l.drop (i + 1)) (m.drop K)) (cm (l.drop i) (m.drop (K + 1))) : Nat) : Int) by omega, st]
      exact Tl.neg e (Tl.pos (by omega) (Tl.pos (by omega) (Tl.pos (by omega) (Tl.pos (by omega) (Tl.pos (by omega) (Tl.pos (by omega) (Tl.pos (by omega) next)))))))
theorem row_zero (l m : List Int) (a K : Nat) (h : l.length ≤ a ∨ m.length ≤ K) : row l m a K = List.replicate (m.length + 1) 0 := by
  refine List.ext_getElem (by simp [row]) (fun j h1 h2 => ?_)
  simp only [row, List.getElem_map, List.getElem_range, List.getElem_replicate]
  rw [row_len] at h1
  by_cases c : K ≤ j
  · rw [if_pos c]
    rcases h with h | h
    · rw [List.drop_eq_nil_of_le h, cm_nil']; rfl
    · rw [List.drop_eq_nil_of_le (show m.length ≤ j by omega), cm_nil]; rfl
  · rw [if_neg c]
theorem common_out (l m : List Int) (hl : l.length ≤ 1000) (hm : m.length ≤ 1000) : ∀ i : Nat, i ≤ l.length + 1 → Tl (fun k => log_common.l0 k l m (tab l m i) ((i : Int) - 1)) (tab l m 0)
  | 0, _ => by
    refine Tl.succ ?_
    simp only [log_common.l0]
    exact Tl.neg (by omega) Tl.now
  | i + 1, hi => by
    have next := common_out l m hl hm i (by omega)
    have hn := tab_len l m (i + 1)
    refine Tl.succ ?_
    simp only [log_common.l0]
    rw [show ((i + 1 : Nat) : Int) - 1 = (i : Int) by omega, w64 (x := (m.length : Int) + 1) (by omega) (by omega), w64 (x := (m.length : Int) - 1) (by omega) (by omega), Int.toNat_natCast, show ((m.length : Int) + 1).toNat = m.length + 1 by omega]
    refine Tl.pos (by omega) (Tl.pos (by omega) (Tl.pos (by omega) (Tl.pos (by omega) (Tl.pos (by omega) ?_))))
    by_cases h : i < l.length
    · rw [← row_zero l m i m.length (.inr (Nat.le_refl _))]
      exact common_in l m hl hm h next m.length (Nat.le_refl _)
    · rw [← row_zero l m i 0 (.inl (by omega)), tab_set (by omega)]
      have jf : Tl (fun k => log_common.j2 k l m (tab l m i) (i : Int) ((m.length : Int) - 1) false) (tab l m 0) := by
        refine Tl.succ ?_
        simp only [log_common.j2]
        rw [w64 (x := (i : Int) - 1) (by omega) (by omega)]
        exact Tl.neg (by simp) next
      refine Tl.succ ?_
      simp only [log_common.l1]
      rw [decide_eq_false (show ¬ (i : Int) < (l.length : Int) by omega)]
      by_cases c : (m.length : Int) - 1 ≥ 0
      · exact Tl.pos c jf
      · exact Tl.neg c jf
theorem tab_start (l m : List Int) : tab l m (l.length + 1) = List.replicate (l.length + 1) [] := by
  refine List.ext_getElem (by simp [tab]) (fun j h1 h2 => ?_)
  simp only [tab, List.getElem_map, List.getElem_range, List.getElem_replicate]
  rw [tab_len] at h1
  rw [if_pos h1]
theorem ev_common {l m : List Int} (hl : l.length ≤ 1000) (hm : m.length ≤ 1000) : Tl (fun k => log_common.f k l m) (tab l m 0) := by
  unfold log_common.f
  rw [w64 (x := (l.length : Int) + 1) (by omega) (by omega), show ((l.length : Int) + 1).toNat = l.length + 1 by omega, ← tab_start l m]
  have := common_out l m hl hm (l.length + 1) (Nat.le_refl _)
  rw [show ((l.length + 1 : Nat) : Int) - 1 = (l.length : Int) by omega] at this
  exact Tl.pos (by omega) (Tl.pos (by omega) this)
def cn (l m : List Int) : Int × Int := if tc l m = 0 then ((cm l m : Int), 0) else (0, tc l m)
theorem ev_Common {l m : List Int} (hl : l.length ≤ 1000) (hm : m.length ≤ 1000) : Tl (fun k => log_Common.f k l m) (cn l m) := by
  unfold log_Common.f cn
  by_cases h : tc l m = 0
  · rw [if_pos h]
    refine Tl.bind (ev_two hl hm) (Tl.pos h (Tl.bind (ev_common hl hm) ?_))
    have e : rd_L1 (tab l m 0) 0 = row l m 0 0 := tab_rd (a := 0) (by omega) (by omega)
    have e2 : rd (row l m 0 0) 0 = (cm l m : Int) := by
      have := row_rd (l := l) (m := m) (a := 0) (K := 0) (k := 0) (by omega)
      rw [if_pos (Nat.le_refl 0), List.drop_zero, List.drop_zero] at this
      exact this
    rw [e, tab_len, row_len, e2]
    exact Tl.pos (by omega) (Tl.pos (by omega) Tl.now)
  · rw [if_neg h]
    exact Tl.bind (ev_two hl hm) (Tl.neg h Tl.now)
end Go.Proofs.Ytcbepmdnhjojdaa.Ct
