/- Proved here: for all logs and costs, the table of the distances of the first signs is the document's, and it grows slowly, to the distance; it holds under no condition. -/
import Derived.Test.YtcbepmdnhjojdaaTg
import Derived.Test.YtcbepmdnhjojdaaPx59
set_option linter.unusedVariables false
namespace Go.Proofs.Ytcbepmdnhjojdaa.Pure
open Go.RowKit Go.Proofs.Ytcbepmdnhjojdaa.P Go.Proofs.Ytcbepmdnhjojdaa.E Go.Proofs.Ytcbepmdnhjojdaa.Al Go.Proofs.Ytcbepmdnhjojdaa.Lo Go.Proofs.Ytcbepmdnhjojdaa.Lr Go.Proofs.Ytcbepmdnhjojdaa.En Go.Proofs.Ytcbepmdnhjojdaa.Tg Go.Proofs.YtcbepmdnhjojdaaW.PrintMore
open Go.Proofs.YtcbepmdnhjojdaaW.PrintWords
namespace Prf
section
variable {l m : List Int} {o i c : Int}
def T (l m : List Int) (o i c : Int) : List (List Int) := (List.range (l.length + 1)).map fun a => (List.range (m.length + 1)).map (log_tb l m o i c a)
theorem T_len : (T l m o i c).length = l.length + 1 := by simp [T]
theorem T_row {a : Nat} (ha : a ≤ l.length) : rd_L1 (T l m o i c) (a : Int) = (List.range (m.length + 1)).map (log_tb l m o i c a) := by
  unfold rd_L1 T
  rw [Int.toNat_natCast, List.getD_eq_getElem?_getD, List.getElem?_eq_getElem (by simp; omega)]
  simp
theorem T_get {a b : Nat} (ha : a ≤ l.length) (hb : b ≤ m.length) : get (T l m o i c) a b = log_tb l m o i c a b := by
  unfold En.get
  rw [T_row ha, rd_lt (by simp; omega)]
  simp
theorem tb_cut {a b : Nat} (ha : a ≤ l.length) (hb : b ≤ m.length) : log_tb (l.take a) (m.take b) o i c (l.take a).length (m.take b).length = log_tb l m o i c a b := by
  have h1 := tb_isD (l := l) (m := m) (o := o) (i := i) (c := c) a b ha hb
  have h2 := tb_isD (l := l.take a) (m := m.take b) (o := o) (i := i) (c := c) (l.take a).length (m.take b).length (Nat.le_refl _) (Nat.le_refl _)
  rw [List.take_length, List.take_length] at h2
  exact h2.unique h1
theorem row_loop (hL : l.length ≤ 10) (hM : m.length ≤ 10) (ho : 0 ≤ o ∧ o ≤ 9) (hi : 0 ≤ i ∧ i ≤ 9) (hc : 0 ≤ c ∧ c ≤ 9) {a : Nat} (ha : a ≤ l.length) {acc : List (List Int)} (hacc : acc.length ≤ 100) {r : List (List Int) × Int}
    (out : Tl (fun k => diaphoneref06_Table.l0 k l m (acc ++ [(List.range (m.length + 1)).map (log_tb l m o i c a)]) ((a + 1 : Nat) : Int) o i c) r) : ∀ (d b : Nat), b ≤ m.length + 1 → m.length + 1 - b = d → Tl (fun k => diaphoneref06_Table.l1 k l m acc (a : Int) ((List.range b).map (log_tb l m o i c a)) (b : Int) o i c) r := by
  intro d
  induction d with
  | zero =>
    intro b h1 h2
    obtain rfl : b = m.length + 1 := by omega
    have E := Aside0.mk (nx' (a := a) (by omega))
    refine Tl.succ ?_
    simp only [diaphoneref06_Table.l1]
    rw [E.out]
    exact Tl.neg (by omega) (Tl.pos (by omega) out)
  | succ d ih =>
    intro b h1 h2
    have hb : b ≤ m.length := by omega
    have next := ih (b + 1) (by omega) (by omega)
    have ev := ev_rdistance (l := l.take a) (m := m.take b) (o := o) (i := i) (c := c) (by rw [List.length_take]; omega) (by rw [List.length_take]; omega) ho hi hc
    rw [tb_cut ha hb] at ev
    rw [List.range_succ (n := b), List.map_append] at next
    have E := Aside0.mk (nx' (a := b) (by omega))
    refine Tl.succ ?_
    simp only [diaphoneref06_Table.l1, Int.toNat_natCast]
    rw [E.out]
    exact Tl.pos (by omega) (Tl.pos (by omega) (Tl.pos (by omega) (Tl.pos (by omega) (Tl.bind ev (Tl.pos (by simp; omega) next)))))
theorem rows_loop (hL : l.length ≤ 10) (hM : m.length ≤ 10) (ho : 0 ≤ o ∧ o ≤ 9) (hi : 0 ≤ i ∧ i ≤ 9) (hc : 0 ≤ c ∧ c ≤ 9) : ∀ (d a : Nat), a ≤ l.length + 1 → l.length + 1 - a = d → Tl (fun k => diaphoneref06_Table.l0 k l m ((List.range a).map fun a => (List.range (m.length + 1)).map (log_tb l m o i c a)) (a : Int) o i c) (T l m o i c, 0) := by
  intro d
  induction d with
  | zero =>
    intro a h1 h2
    obtain rfl : a = l.length + 1 := by omega
    refine Tl.succ ?_
    simp only [diaphoneref06_Table.l0]
    exact Tl.neg (by omega) Tl.now
  | succ d ih =>
    intro a h1 h2
    have next := ih (a + 1) (by omega) (by omega)
    rw [List.range_succ (n := a), List.map_append] at next
    refine Tl.succ ?_
    simp only [diaphoneref06_Table.l0]
    exact Tl.pos (by omega) (row_loop hL hM ho hi hc (show a ≤ l.length by omega) (by simp; omega) next (m.length + 1) 0 (by omega) (by omega))
def tv (l m : List Int) (o i c : Int) : List (List Int) := if kc l m o i c = 0 then T l m o i c else []
theorem ev_rTable (hl : l.length ≤ 1000) (hm : m.length ≤ 1000) : Tl (fun k => diaphoneref06_Table.f k l m o i c) (tv l m o i c, kc l m o i c) := by
  unfold diaphoneref06_Table.f tv
  by_cases h : kc l m o i c = 0
  · obtain ⟨h1, h2, h3⟩ := kc_zero.1 h
    have g3 := cc_zero.1 h3
    rw [if_pos h, h]
    exact Tl.bind (ev_costed hl hm) (Tl.pos h (rows_loop (lc_zero.1 h1).1 (lc_zero.1 h2).1 ⟨by omega, by omega⟩ ⟨by omega, by omega⟩ ⟨by omega, by omega⟩ (l.length + 1) 0 (by omega) (by omega)))
  · rw [if_neg h]; exact Tl.bind (ev_costed hl hm) (Tl.neg h Tl.now)
theorem ev_lTable (hl : l.length ≤ 1000) (hm : m.length ≤ 1000) : Tl (fun k => log_Table.f k l m o i c) (tv l m o i c, kc l m o i c) := by
  unfold log_Table.f tv
  by_cases h : kc l m o i c = 0
  · obtain ⟨h1, h2, h3⟩ := kc_zero.1 h
    have g3 := cc_zero.1 h3
    rw [if_pos h]
    refine Tl.bind (ev_check hl hm) (Tl.pos h (Tl.bind' (a := T l m o i c) ?_ (Tl.to Tl.now (by rw [h]))))
    unfold log_table.f
    rw [if_pos ⟨(lc_zero.1 h1).1, (lc_zero.1 h2).1, ⟨by omega, by omega⟩, ⟨by omega, by omega⟩, ⟨by omega, by omega⟩⟩]; rfl
  · rw [if_neg h]; exact Tl.bind (ev_check hl hm) (Tl.neg h Tl.now)
theorem ct_T (h : kc l m o i c = 0) : ct l m o i c (T l m o i c) = (log_tb l m o i c l.length m.length, 0) := by
  obtain ⟨h1, h2, h3⟩ := kc_zero.1 h
  have g3 := cc_zero.1 h3
  have hL := (lc_zero.1 h1).1
  have hM := (lc_zero.1 h2).1
  unfold ct
  rw [if_pos h, if_pos T_len, if_pos (fun a ha => ?_)]
  · unfold sv
    rw [if_pos (fun a ha b hb => ?_), T_get (Nat.le_refl _) (Nat.le_refl _)]
    unfold Sl
    rw [T_get ha hb]
    refine ⟨?_, fun h0 => ?_, fun h0 => ?_, fun h0 h1 => ?_⟩
    · rintro ⟨rfl, rfl⟩; rw [log_tb]; simp
    · obtain ⟨a, rfl⟩ : ∃ a', a = a' + 1 := ⟨a - 1, by omega⟩
      rw [Nat.add_sub_cancel, T_get (by omega) hb]
      cases b with
      | zero =>
        have e : log_tb l m o i c a 0 = (a : Int) * o := by
          cases a with
          | zero => rw [log_tb]; simp
          | succ a => rw [log_tb]
        rw [log_tb, e, show ((a + 1 : Nat) : Int) = (a : Int) + 1 by omega, Int.add_mul, Int.one_mul]; omega
      | succ b =>
        conv => lhs; rw [log_tb]
        rw [mn_eq, mn_eq]; omega
    · obtain ⟨b, rfl⟩ : ∃ b', b = b' + 1 := ⟨b - 1, by omega⟩
      rw [Nat.add_sub_cancel, T_get ha (by omega)]
      cases a with
      | zero => rw [log_tb, log_tb, show ((b + 1 : Nat) : Int) = (b : Int) + 1 by omega, Int.add_mul, Int.one_mul]; omega
      | succ a =>
        conv => lhs; rw [log_tb]
        rw [mn_eq, mn_eq]; omega
    · obtain ⟨a, rfl⟩ : ∃ a', a = a' + 1 := ⟨a - 1, by omega⟩
      obtain ⟨b, rfl⟩ : ∃ b', b = b' + 1 := ⟨b - 1, by omega⟩
      rw [Nat.add_sub_cancel, Nat.add_sub_cancel, T_get (by omega) (by omega)]
      conv => lhs; rw [log_tb]
      rw [mn_eq, mn_eq, show log_ch c (rd l (a : Int)) (rd m (b : Int)) = ch c (rd l (a : Int)) (rd m (b : Int)) from rfl]; omega
  · refine ⟨by rw [T_row ha]; simp, fun b hb => ?_⟩
    rw [T_get ha hb]
    have := log_tb_range (l := l) (m := m) (o := o) (i := i) (c := c) ⟨by omega, by omega⟩ ⟨by omega, by omega⟩ ⟨by omega, by omega⟩ a b
    omega
theorem ct_tv : ct l m o i c (tv l m o i c) = (if kc l m o i c = 0 then log_tb l m o i c l.length m.length else 0, kc l m o i c) := by
  unfold tv
  by_cases h : kc l m o i c = 0
  · rw [if_pos h, if_pos h, ct_T h, h]
  · rw [if_neg h, if_neg h]; unfold ct; rw [if_neg h]
theorem tv_len : (tv l m o i c).length ≤ 11 ∧ ∀ a : Nat, a < (tv l m o i c).length → (rd_L1 (tv l m o i c) (a : Int)).length ≤ 1000 := by
  unfold tv
  by_cases h : kc l m o i c = 0
  · obtain ⟨h1, h2, h3⟩ := kc_zero.1 h
    have hL := (lc_zero.1 h1).1
    have hM := (lc_zero.1 h2).1
    rw [if_pos h, T_len]
    refine ⟨by omega, fun a ha => ?_⟩
    rw [T_row (by omega)]; simp; omega
  · rw [if_neg h]; exact ⟨by simp, fun a ha => absurd ha (by simp)⟩
theorem ev_lDist (hl : l.length ≤ 1000) (hm : m.length ≤ 1000) : Tl (fun k => log_Distance.f k l m o i c) (if kc l m o i c = 0 then log_tb l m o i c l.length m.length else 0, kc l m o i c) := by
  unfold log_Distance.f
  by_cases h : kc l m o i c = 0
  · obtain ⟨h1, h2, h3⟩ := kc_zero.1 h
    have g3 := cc_zero.1 h3
    rw [if_pos h, h]
    exact Tl.bind (ev_check hl hm) (Tl.pos h (Tl.bind' (ldistance_eq (lc_zero.1 h1).1 (lc_zero.1 h2).1 ⟨by omega, by omega⟩ ⟨by omega, by omega⟩ ⟨by omega, by omega⟩) Tl.now))
  · rw [if_neg h]; exact Tl.bind (ev_check hl hm) (Tl.neg h Tl.now)
theorem look (hl : l.length ≤ 1000) (hm : m.length ≤ 1000) : ∀ (d a : Nat), a ≤ (tv l m o i c).length → (tv l m o i c).length - a = d → Tl (fun k => diaphonelaw06_LogProofs.l0 k (tv l m o i c) (kc l m o i c) (tv l m o i c) (a : Int) l m o i c) true := by
  obtain ⟨n1, n2⟩ := tv_len (l := l) (m := m) (o := o) (i := i) (c := c)
  intro d
  induction d with
  | zero =>
    intro a h1 h2
    have e := ev_CheckTable (t := tv l m o i c) (o := o) (i := i) (c := c) hl hm n2
    rw [ct_tv] at e
    refine Tl.succ ?_
    simp only [diaphonelaw06_LogProofs.l0]
    refine Tl.neg (by omega) (Tl.bind e (Tl.bind (ev_lDist hl hm) ?_))
    by_cases h : kc l m o i c = 0
    · exact Tl.pos h (Tl.pos h (Tl.pos h (Tl.pos rfl ev_known')))
    · exact Tl.neg h ev_known'
  | succ d ih =>
    intro a h1 h2
    have ha : a < (tv l m o i c).length := by omega
    have E := Aside0.mk (nx' (a := a) (by omega))
    refine Tl.succ ?_
    simp only [diaphonelaw06_LogProofs.l0]
    rw [E.out]
    exact Tl.pos (by omega) (Tl.pos (by omega) (Tl.pos (by omega) (Tl.bind (ev_SameInts _ (n2 a ha)) (Tl.pos rfl (ih (a + 1) (by omega) (by omega))))))
end
end Prf
theorem LogProofs : ∀ (x0 : S26), (((∀ y ∈ x0.f0, (Lit.int .i64 y).wf = true) ∧ x0.f0.length ≤ maxLen) ∧ ((∀ y ∈ x0.f1, (Lit.int .i64 y).wf = true) ∧ x0.f1.length ≤ maxLen) ∧ (((Lit.int .i64 x0.f2.f0).wf = true) ∧ ((Lit.int .i64 x0.f2.f1).wf = true) ∧ ((Lit.int .i64 x0.f2.f2).wf = true))) → ∃ k, diaphonelaw06_LogProofs.f k x0.f0 x0.f1 x0.f2.f0 x0.f2.f1 x0.f2.f2 = some true := by
  intro x _
  refine Tl.ex (g := fun k => diaphonelaw06_LogProofs.f k x.f0 x.f1 x.f2.f0 x.f2.f1 x.f2.f2) ?_
  unfold diaphonelaw06_LogProofs.f
  refine Tl.bind' (long_eq _ _ _ _ _) ?_
  cases h : lg x.f0 x.f1 with
  | true => exact Tl.pos rfl ev_known'
  | false =>
    obtain ⟨h1, h2⟩ := lg_false h
    have hl : x.f0.length ≤ 1000 := by omega
    have hm : x.f1.length ≤ 1000 := by omega
    refine Tl.neg (by simp) (Tl.bind (Prf.ev_lTable hl hm) (Tl.bind (Prf.ev_rTable hl hm) (Tl.pos rfl ?_)))
    rw [show (kc x.f0 x.f1 x.f2.f0 x.f2.f1 x.f2.f2 != kc x.f0 x.f1 x.f2.f0 x.f2.f1 x.f2.f2) = false by simp]
    refine Tl.succ ?_
    simp only [diaphonelaw06_LogProofs.j0]
    exact Tl.neg (by simp) (Prf.look hl hm _ 0 (by omega) rfl)
end Go.Proofs.Ytcbepmdnhjojdaa.Pure
