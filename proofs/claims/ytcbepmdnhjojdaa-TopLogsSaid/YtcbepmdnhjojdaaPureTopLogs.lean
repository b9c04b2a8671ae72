/- Proved here: for all logs and costs, the distance is the cost of a comparison and the end of a table that grows slowly, the same turned round and exchanged, no third log makes it shorter, and what two logs have in common bounds it; it holds under no condition. -/
import Derived.Test.YtcbepmdnhjojdaaTq
import Derived.Test.YtcbepmdnhjojdaaPx64
set_option linter.unusedVariables false
namespace Go.Proofs.Ytcbepmdnhjojdaa.Pure
open Go.RowKit Go.Proofs.Ytcbepmdnhjojdaa.P Go.Proofs.Ytcbepmdnhjojdaa.E Go.Proofs.Ytcbepmdnhjojdaa.Al Go.Proofs.Ytcbepmdnhjojdaa.Lo Go.Proofs.Ytcbepmdnhjojdaa.Lr Go.Proofs.Ytcbepmdnhjojdaa.Lb Go.Proofs.Ytcbepmdnhjojdaa.Cn Go.Proofs.Ytcbepmdnhjojdaa.Cq Go.Proofs.Ytcbepmdnhjojdaa.En Go.Proofs.Ytcbepmdnhjojdaa.Bs Go.Proofs.Ytcbepmdnhjojdaa.Tg Go.Proofs.Ytcbepmdnhjojdaa.Re Go.Proofs.Ytcbepmdnhjojdaa.Co Go.Proofs.Ytcbepmdnhjojdaa.Ct Go.Proofs.Ytcbepmdnhjojdaa.Pt Go.Proofs.Ytcbepmdnhjojdaa.Tq Go.Proofs.YtcbepmdnhjojdaaW.PrintMore
open Go.Proofs.YtcbepmdnhjojdaaW.PrintWords
namespace Top
section
variable {l m t : List Int} {o i c : Int}
theorem fin7 (h : kc l m o i c = 0) (hl : l.length ≤ 100) (hm : m.length ≤ 100) (ht : t.length ≤ 100) : Tl (fun k => diaphonetop_TopLogs.j7 k t (D l m o i c) false l m o i c) true := by
  obtain ⟨h1, h2, h3⟩ := kc_zero.1 h
  have g3 := cc_zero.1 h3
  refine Tl.succ ?_
  simp only [diaphonetop_TopLogs.j7]
  refine Tl.neg (by simp) ?_
  by_cases k1 : kc l t o i c = 0
  · have k2 : kc t m o i c = 0 := kc_zero.2 ⟨(kc_zero.1 k1).2.1, h2, h3⟩
    have r1 := D_range k1
    have r2 := D_range k2
    refine Tl.bind (ev_D (by omega) (by omega) k1) (Tl.bind (ev_D (by omega) (by omega) k2) (Tl.pos rfl (Tl.pos rfl ?_)))
    by_cases e : o = i
    · refine Tl.pos e (Tl.to Tl.now ?_)
      have tr := isD_triangle (by omega) (by omega) (by omega) (D_isD (l := l) (m := m) (o := o) (i := i) (c := c)) (D_isD (l := l) (m := t)) (D_isD (l := t) (m := m))
      rw [w64 (by omega) (by omega)]
      exact decide_eq_true tr
    · exact Tl.neg e Tl.now
  · have r1 := ev_D' (l := l) (m := t) (o := o) (i := i) (c := c) (by omega) (by omega) k1
    by_cases k2 : kc t m o i c = 0
    · exact Tl.bind r1 (Tl.bind (ev_D (by omega) (by omega) k2) (Tl.neg k1 Tl.now))
    · exact Tl.bind r1 (Tl.bind (ev_D' (by omega) (by omega) k2) (Tl.neg k1 Tl.now))
theorem fin5 (h : kc l m o i c = 0) (ht : t.length ≤ 100) : Tl (fun k => diaphonetop_TopLogs.j5 k t (D l m o i c) (cm l m : Int) false l m o i c) true := by
  obtain ⟨h1, h2, h3⟩ := kc_zero.1 h
  have g3 := cc_zero.1 h3
  have hL := (lc_zero.1 h1).1
  have hM := (lc_zero.1 h2).1
  have cl := cm_len l m
  have dr := D_range h
  obtain ⟨p, p1, p2, p3⟩ := cm_some l m
  have bound := D_common h p1 p2
  rw [p3] at bound
  have e1 := small (o := o) ⟨by omega, by omega⟩ (p := (l.length : Int) - (cm l m : Int)) ⟨by omega, by omega⟩
  have e2 := small (o := i) ⟨by omega, by omega⟩ (p := (m.length : Int) - (cm l m : Int)) ⟨by omega, by omega⟩
  refine Tl.succ ?_
  simp only [diaphonetop_TopLogs.j5]
  refine Tl.neg (by simp) ?_
  rw [w64 (x := (l.length : Int) - (cm l m : Int)) (by omega) (by omega), w64 (x := (m.length : Int) - (cm l m : Int)) (by omega) (by omega), w64 (x := o * ((l.length : Int) - (cm l m : Int))) (by omega) (by omega), w64 (x := i * ((m.length : Int) - (cm l m : Int))) (by omega) (by omega), w64 (x := o * ((l.length : Int) - (cm l m : Int)) + i * ((m.length : Int) - (cm l m : Int))) (by omega) (by omega)]
  obtain ⟨A, B, hA, hB, near, ew⟩ := ev_window h
  refine Tl.neg (by omega) (Tl.bind ew (Tl.pos rfl (Tl.neg (by show ¬ (A : Int) < 0; omega) (Tl.neg (by show ¬ (B : Int) < (A : Int); omega) (Tl.succ ?_)))))
  simp only [diaphonetop_TopLogs.j6, Int.toNat_natCast]
  have ks : kc l (sub m A B) o i c = 0 := kc_zero.2 ⟨h1, sub_ok h2 A B, h3⟩
  have ls := sub_len (m := m) (a := A) (b := B) hM
  have dn := D_range ks
  have up := D_sub (l := l) (m := m) (o := o) (i := i) (c := c) hA hB
  have e3 := small (o := i) ⟨by omega, by omega⟩ (p := (m.length : Int) - B + A) ⟨by omega, by omega⟩
  refine Tl.neg (by rw [decide_eq_true_eq]; omega) (Tl.bind' rfl (Tl.pos (by omega) (Tl.pos (by omega) (Tl.pos (by omega) (Tl.pos ?_ ?_)))))
  · show ([] : List Int).length + (sub m A B).length < 17592186044416
    simp; omega
  · refine Tl.bind (by rw [List.nil_append]; exact ev_D (by omega) (by show (sub m A B).length ≤ 1000; omega) ks) (Tl.pos rfl (Tl.neg (by show ¬ D l (sub m A B) o i c > D l m o i c; omega) ?_))
    rw [w64 (x := (m.length : Int) - (B : Int)) (by omega) (by omega), w64 (x := (m.length : Int) - (B : Int) + (A : Int)) (by omega) (by omega), w64 (x := i * ((m.length : Int) - (B : Int) + (A : Int))) (by omega) (by omega)]
    show Tl (fun k => diaphonetop_TopLogs.j7 k t (D l m o i c) (decide (D l m o i c > wrap64 (D l (sub m A B) o i c + i * ((m.length : Int) - (B : Int) + (A : Int))))) l m o i c) true
    rw [w64 (by omega) (by omega), decide_eq_false (by omega)]
    exact fin7 h (by omega) (by omega) ht
theorem fin4 (h : kc l m o i c = 0) (ht : t.length ≤ 100) : Tl (fun k => diaphonetop_TopLogs.j4 k t (D l m o i c) false l m o i c) true := by
  obtain ⟨h1, h2, h3⟩ := kc_zero.1 h
  have hL := (lc_zero.1 h1).1
  have hM := (lc_zero.1 h2).1
  have h0 : tc l m = 0 := tc_zero.2 ⟨h1, h2⟩
  obtain ⟨p, hp, ep⟩ := ev_Part' (l := l) (m := m) (by omega) (by omega) h0
  have ps := isP_sub hp
  have cl := cm_len l m
  have ec := ev_CheckCommon (l := l) (m := m) (p := p) (by omega) (by omega) (by omega)
  have hcv : cv l m p = 0 := by
    unfold cv
    rw [if_pos h0, if_pos ⟨List.isSublist_iff_sublist.2 ps.1, List.isSublist_iff_sublist.2 ps.2.1⟩]
  rw [hcv] at ec
  have hcn : cn l m = ((cm l m : Int), 0) := if_pos h0
  have eC := ev_Common (l := l) (m := m) (by omega) (by omega)
  rw [hcn] at eC
  refine Tl.succ ?_
  simp only [diaphonetop_TopLogs.j4]
  exact Tl.neg (by simp) (Tl.bind eC (Tl.bind ep (Tl.pos rfl (Tl.pos rfl (Tl.pos (by show (p.length : Int) = (cm l m : Int); rw [ps.2.2]) (Tl.bind ec (fin5 h ht)))))))
theorem fin3 (h : kc l m o i c = 0) (ht : t.length ≤ 100) : Tl (fun k => diaphonetop_TopLogs.j3 k t (D l m o i c) false l m o i c) true := by
  obtain ⟨h1, h2, h3⟩ := kc_zero.1 h
  have g3 := cc_zero.1 h3
  have hL := (lc_zero.1 h1).1
  have hM := (lc_zero.1 h2).1
  have ks : kc m l i o c = 0 := kc_zero.2 ⟨h2, h1, cc_zero.2 ⟨g3.2.1, g3.1, g3.2.2⟩⟩
  have es : Tl (fun k => log_Swap.f k l m o i c) (m, l, i, o, c, 0) := by
    unfold log_Swap.f
    exact Tl.bind (ev_check (by omega) (by omega)) (Tl.pos h (Tl.bind' (clone_s (by omega)) (Tl.bind' (clone_s (by omega)) Tl.now)))
  have ed := ev_D (l := m) (m := l) (o := i) (i := o) (c := c) (by omega) (by omega) ks
  rw [D_eq (isD_swap (D_isD (l := l) (m := m) (o := o) (i := i) (c := c)))] at ed
  refine Tl.succ ?_
  simp only [diaphonetop_TopLogs.j3]
  refine Tl.neg (by simp) (Tl.bind es (Tl.bind ed (Tl.pos rfl (Tl.pos rfl ?_))))
  rw [show (D l m o i c != D l m o i c) = false by simp]
  exact fin4 h ht
theorem fin2 (h : kc l m o i c = 0) (ht : t.length ≤ 100) : Tl (fun k => diaphonetop_TopLogs.j2 k t (D l m o i c) false l m o i c) true := by
  obtain ⟨h1, h2, h3⟩ := kc_zero.1 h
  have hL := (lc_zero.1 h1).1
  have hM := (lc_zero.1 h2).1
  have b1 := ev_Back (t := l) (by omega)
  have b2 := ev_Back (t := m) (by omega)
  rw [if_pos h1, h1] at b1
  rw [if_pos h2, h2] at b2
  have kb : kc l.reverse m.reverse o i c = 0 := kc_zero.2 ⟨(lc_rev l).trans h1, (lc_rev m).trans h2, h3⟩
  have ed := ev_D (l := l.reverse) (m := m.reverse) (o := o) (i := i) (c := c) (by simp; omega) (by simp; omega) kb
  rw [D_eq (isD_rev (D_isD (l := l) (m := m) (o := o) (i := i) (c := c)))] at ed
  refine Tl.succ ?_
  simp only [diaphonetop_TopLogs.j2]
  refine Tl.neg (by simp) (Tl.bind b1 (Tl.bind b2 (Tl.bind ed (Tl.pos rfl (Tl.pos rfl (Tl.pos rfl ?_))))))
  rw [show (D l m o i c != D l m o i c) = false by simp]
  exact fin3 h ht
theorem fin1 (hl : l.length ≤ 100) (hm : m.length ≤ 100) (ht : t.length ≤ 100) : Tl (fun k => diaphonetop_TopLogs.j1 k t false l m o i c) true := by
  refine Tl.succ ?_
  simp only [diaphonetop_TopLogs.j1]
  refine Tl.neg (by simp) ?_
  by_cases h : kc l m o i c = 0
  · obtain ⟨h1, h2, h3⟩ := kc_zero.1 h
    have hL := (lc_zero.1 h1).1
    have hM := (lc_zero.1 h2).1
    obtain ⟨U, hU, eb⟩ := Bs.ev_Best (l := l) (m := m) (o := o) (i := i) (c := c) (by omega) (by omega)
    obtain ⟨u1, u2, u3, u4⟩ := hU h
    rw [if_pos h, h] at eb
    have ep := ev_pairs h u1 u2 u3
    rw [u4] at ep
    have et := Prf.ev_lTable (l := l) (m := m) (o := o) (i := i) (c := c) (by omega) (by omega)
    have ev : Prf.tv l m o i c = Prf.T l m o i c := if_pos h
    rw [ev, h] at et
    have ec := ev_CheckTable (l := l) (m := m) (o := o) (i := i) (c := c) (t := Prf.T l m o i c) (by omega) (by omega) (fun a ha => by
      rw [Prf.T_len] at ha
      rw [Prf.T_row (by omega)]; simp; omega)
    rw [Prf.ct_T h] at ec
    refine Tl.bind (ev_D (by omega) (by omega) h) (Tl.pos rfl (Tl.bind eb (Tl.bind ep (Tl.bind et (Tl.bind ec (Tl.pos rfl (Tl.pos rfl (Tl.pos rfl (Tl.pos rfl (Tl.pos rfl ?_))))))))))
    rw [show (log_tb l m o i c l.length m.length != D l m o i c) = false by rw [show log_tb l m o i c l.length m.length = D l m o i c from rfl]; simp]
    exact fin2 h ht
  · exact Tl.bind (ev_D' (by omega) (by omega) h) (Tl.neg h Tl.now)
end
theorem known : Tl (fun k => log_Common.f k ([1, 2, 3] : List Int) ([3, 1, 3] : List Int)) (2, 0) := by
  have e := ev_Common (l := [1, 2, 3]) (m := [3, 1, 3]) (by simp) (by simp)
  rwa [show cn [1, 2, 3] [3, 1, 3] = (2, 0) by
    have h0 : tc [1, 2, 3] [3, 1, 3] = 0 := by decide
    have hc : cm [1, 2, 3] [3, 1, 3] = 2 := by simp [cm]
    rw [cn, if_pos h0, hc]; rfl] at e
end Top
theorem TopLogs : ∀ (x0 : S26) (x1 : List Int), (((∀ y ∈ x0.f0, (Lit.int .i64 y).wf = true) ∧ x0.f0.length ≤ maxLen) ∧ ((∀ y ∈ x0.f1, (Lit.int .i64 y).wf = true) ∧ x0.f1.length ≤ maxLen) ∧ (((Lit.int .i64 x0.f2.f0).wf = true) ∧ ((Lit.int .i64 x0.f2.f1).wf = true) ∧ ((Lit.int .i64 x0.f2.f2).wf = true))) → ((∀ y ∈ x1, (Lit.int .i64 y).wf = true) ∧ x1.length ≤ maxLen) → ∃ k, diaphonetop_TopLogs.f k x0.f0 x0.f1 x0.f2.f0 x0.f2.f1 x0.f2.f2 x1 = some true := by
  intro x t _ _
  refine Tl.ex (g := fun k => diaphonetop_TopLogs.f k x.f0 x.f1 x.f2.f0 x.f2.f1 x.f2.f2 t) ?_
  unfold diaphonetop_TopLogs.f
  generalize x.f0 = l
  generalize x.f1 = m
  generalize x.f2.f0 = o
  generalize x.f2.f1 = i
  generalize x.f2.f2 = c
  refine Tl.bind Top.known (Tl.pos rfl ?_)
  rw [show ((2 : Int) != 2) = false by simp]
  refine Tl.succ ?_
  simp only [diaphonetop_TopLogs.j0]
  refine Tl.neg (by simp) (Tl.bind' (long_eq _ _ _ _ _) ?_)
  have j1t : Tl (fun k => diaphonetop_TopLogs.j1 k t true l m o i c) true := by
    refine Tl.succ ?_
    simp only [diaphonetop_TopLogs.j1]
    exact Tl.pos trivial Tl.now
  cases h : lg l m with
  | true => exact Tl.pos rfl j1t
  | false =>
    obtain ⟨h1, h2⟩ := lg_false h
    refine Tl.neg (by simp) ?_
    by_cases ht : (t.length : Int) > 100
    · rw [decide_eq_true ht]; exact j1t
    · rw [decide_eq_false ht]
      exact Top.fin1 h1 h2 (by omega)
end Go.Proofs.Ytcbepmdnhjojdaa.Pure
