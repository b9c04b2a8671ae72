/- Proved here: for all weights, those that are made up by the smaller ones and those that are left are the document's, the same amounts are made up by what is left, and of that none is needless; it holds under no condition. -/
import Derived.Test.YtgndhijhcliegaaNd
import Derived.Test.YtgndhijhcliegaaKn
import Derived.Test.YtgndhijhcliegaaPx50
set_option linter.unusedVariables false
namespace Go.Proofs.Ytgndhijhcliegaa.Pure
open Go.RowKit Go.Proofs.Ytgndhijhcliegaa.P Go.Proofs.Ytgndhijhcliegaa.E Go.Proofs.Ytgndhijhcliegaa.Va Go.Proofs.Ytgndhijhcliegaa.Kn Go.Proofs.Ytgndhijhcliegaa.Nd Go.Proofs.YtgndhijhcliegaaW.PrintMore
open Go.Proofs.YtgndhijhcliegaaW.PrintWords
namespace Nee
theorem nl_loop' {w : List Int} (ok : Ok w) : ∀ (d i : Nat), i + d = w.length → Tl (fun k => diaphoneref07_Needless.l0 k w (nl w i) (i : Int)) (nl w w.length, 0) := by
  have h0 := ok.1
  intro d
  induction d with
  | zero =>
    intro i hi
    refine Tl.succ ?_
    simp only [diaphoneref07_Needless.l0]
    exact Tl.to (Tl.neg (by omega) Tl.now) (by rw [show i = w.length by omega])
  | succ d ih =>
    intro i hi
    have next := ih (i + 1) (by omega)
    have E := Aside0.mk (nx (a := i) (by omega))
    have hl := nl_len w i
    have hr := (ok.2 i (by omega)).1
    obtain ⟨m, hm⟩ : ∃ m : Nat, rd w (i : Int) = (m : Int) := ⟨(rd w (i : Int)).toNat, by omega⟩
    have ef := ev_few (take_wt ok (i := i)) (m := m) (by omega)
    have et : rd (tab (w.take i) (m + 1)) (m : Int) = fw (w.take i) m := tab_rd (by omega)
    have en : nl w (i + 1) = if nd w i = true then nl w i ++ [rd w (i : Int)] else nl w i := rfl
    have ed : nd w i = true ↔ fw (w.take i) m ≥ 0 := by unfold nd; rw [decide_eq_true_eq, hm, Int.toNat_natCast]
    refine Tl.succ ?_
    simp only [diaphoneref07_Needless.l0]
    rw [E.out, Int.toNat_natCast]
    rw [hm] at en ⊢
    refine Tl.pos (by omega) (Tl.pos (by omega) (Tl.pos (by omega) (Tl.bind ef (Tl.pos (by omega) (Tl.pos (by rw [tab_length]; omega) ?_)))))
    rw [et]
    by_cases e : nd w i = true
    · rw [en, if_pos e] at next
      exact Tl.pos (ed.1 e) (Tl.pos (by omega) next)
    · rw [en, if_neg e] at next
      exact Tl.neg (fun q => e (ed.2 q)) next
theorem ev_rNeedless (w : List Int) : Tl (fun k => diaphoneref07_Needless.f k w) (if vc w = 0 then (nl w w.length, 0) else ([], vc w)) := by
  unfold diaphoneref07_Needless.f
  refine Tl.bind (ev_rValidate w) ?_
  by_cases h : vc w = 0
  · rw [if_pos h]
    have ok := vc_ok.1 h
    have h0 := ok.1
    have e : nl w 1 = [] := by
      show (if nd w 0 = true then _ else _) = _
      rw [if_neg (by rw [nd_zero ok]; decide)]; rfl
    have := nl_loop' ok (w.length - 1) 1 (by omega)
    rw [e] at this
    exact Tl.pos h this
  · rw [if_neg h]; exact Tl.neg h Tl.now
theorem has_loop {l : List Int} (hl : l.length ≤ 1000) (x : Int) : ∀ (d i : Nat), i + d = l.length → Tl (fun k => diaphoneref07_Has.l0 k l x (i : Int)) (decide (x ∈ l.drop i)) := by
  intro d
  induction d with
  | zero =>
    intro i hi
    refine Tl.succ ?_
    simp only [diaphoneref07_Has.l0]
    exact Tl.to (Tl.neg (by omega) Tl.now) (by rw [List.drop_eq_nil_of_le (by omega)]; simp)
  | succ d ih =>
    intro i hi
    have hi' : i < l.length := by omega
    have next := ih (i + 1) (by omega)
    have E := Aside0.mk (nx (a := i) (by omega))
    refine Tl.succ ?_
    simp only [diaphoneref07_Has.l0]
    rw [E.out, rd_lt hi', List.drop_eq_getElem_cons hi']
    refine Tl.pos (by omega) (Tl.pos (by omega) ?_)
    by_cases c : l[i] = x
    · exact Tl.to (Tl.pos c Tl.now) (decide_eq_true (List.mem_cons.2 (Or.inl c.symm))).symm
    · exact Tl.neg c (Tl.to next (decide_eq_decide.2 ⟨fun q => List.mem_cons.2 (Or.inr q), fun q => (List.mem_cons.1 q).resolve_left (fun e => c e.symm)⟩))
theorem ev_Has {l : List Int} (hl : l.length ≤ 1000) (x : Int) : Tl (fun k => diaphoneref07_Has.f k l x) (decide (x ∈ l)) := has_loop hl x l.length 0 (by omega)
theorem red_loop {w : List Int} (ok : Ok w) : ∀ (d i : Nat), i + d = w.length → Tl (fun k => diaphoneref07_Reduce.l0 k w (nl w w.length) (rl w i) (i : Int)) (rl w w.length, 0) := by
  have h0 := ok.1
  have hn := nl_len w w.length
  intro d
  induction d with
  | zero =>
    intro i hi
    refine Tl.succ ?_
    simp only [diaphoneref07_Reduce.l0]
    exact Tl.to (Tl.neg (by omega) Tl.now) (by rw [show i = w.length by omega])
  | succ d ih =>
    intro i hi
    have next := ih (i + 1) (by omega)
    have E := Aside0.mk (nx (a := i) (by omega))
    have hl := rl_len w i
    have en : rl w (i + 1) = if nd w i = true then rl w i else rl w i ++ [rd w (i : Int)] := rfl
    have hh := nl_has ok w.length (Nat.le_refl _) i (by omega)
    refine Tl.succ ?_
    simp only [diaphoneref07_Reduce.l0]
    rw [E.out]
    refine Tl.pos (by omega) (Tl.pos (by omega) (Tl.bind (ev_Has (by omega) _) ?_))
    by_cases e : nd w i = true
    · rw [en, if_pos e] at next
      exact Tl.pos (decide_eq_true (hh.2 ⟨by omega, e⟩)) next
    · rw [en, if_neg e] at next
      exact Tl.neg (by rw [decide_eq_true_eq]; exact fun q => e (hh.1 q).2) (Tl.pos (by omega) next)
theorem ev_rReduce (w : List Int) : Tl (fun k => diaphoneref07_Reduce.f k w) (if vc w = 0 then (rl w w.length, 0) else ([], vc w)) := by
  unfold diaphoneref07_Reduce.f
  refine Tl.bind (ev_rNeedless w) ?_
  by_cases h : vc w = 0
  · rw [if_pos h, if_pos h]; exact Tl.pos rfl (red_loop (vc_ok.1 h) w.length 0 (by omega))
  · rw [if_neg h, if_neg h]; exact Tl.neg h Tl.now
end Nee
open Nee
theorem ChargeNeedless : ∀ (x0 : List Int), ((∀ y ∈ x0, (Lit.int .i64 y).wf = true) ∧ x0.length ≤ maxLen) → ∃ k, diaphonelaw07_ChargeNeedless.f k x0 = some true := by
  intro w _
  refine Tl.ex (g := fun k => diaphonelaw07_ChargeNeedless.f k w) ?_
  unfold diaphonelaw07_ChargeNeedless.f
  refine by_long (fun hl => ?_)
  have hn := nl_len w w.length
  have hr := rl_len w w.length
  by_cases h : vc w = 0
  · have ok := vc_ok.1 h
    have ox := rl_ok ok
    have hx : vc (rl w w.length) = 0 := vc_ok.2 ox
    have e1 := ev_Needless w
    have e2 := ev_rNeedless w
    have e3 := ev_Reduce w
    have e4 := ev_rReduce w
    have e5 := ev_Same w (rl w w.length)
    have e6 := ev_Needless (rl w w.length)
    rw [if_pos h] at e1 e2 e3 e4
    rw [if_pos hx, nl_irr (fun p hp => rl_irr hp) _ (Nat.le_refl _)] at e6
    have es : sc w (rl w w.length) = (true, 0) := by
      unfold sc
      rw [if_pos h, if_pos hx, rl_idem]; simp
    rw [es] at e5
    refine Tl.bind e1 (Tl.bind e2 (Tl.bind e3 (Tl.bind e4 (Tl.bind (ev_SameInts (show (nl w w.length).length ≤ 1000 by omega)) (Tl.pos (by simp) (Tl.pos rfl (Tl.bind (ev_SameInts (show (rl w w.length).length ≤ 1000 by omega)) (Tl.pos (by simp) ?_))))))))
    rw [show ((0 : Int) != 0) = false from rfl]
    refine Tl.succ ?_
    simp only [diaphonelaw07_ChargeNeedless.j0]
    exact Tl.neg (by simp) (Tl.pos trivial (Tl.bind e5 (Tl.bind e6 (Tl.pos rfl (Tl.pos rfl (Tl.pos rfl (Tl.pos rfl ev_sane')))))))
  · have e1 := ev_Needless w
    have e2 := ev_rNeedless w
    have e3 := ev_Reduce w
    have e4 := ev_rReduce w
    rw [if_neg h] at e1 e2 e3 e4
    refine Tl.bind e1 (Tl.bind e2 (Tl.bind e3 (Tl.bind e4 (Tl.bind (ev_SameInts (by simp)) (Tl.pos (by simp) (Tl.pos rfl (Tl.bind (ev_SameInts (by simp)) (Tl.pos (by simp) ?_))))))))
    rw [show (vc w != vc w) = false by simp]
    refine Tl.succ ?_
    simp only [diaphonelaw07_ChargeNeedless.j0]
    exact Tl.neg (by simp) (Tl.neg h ev_sane')
end Go.Proofs.Ytgndhijhcliegaa.Pure
