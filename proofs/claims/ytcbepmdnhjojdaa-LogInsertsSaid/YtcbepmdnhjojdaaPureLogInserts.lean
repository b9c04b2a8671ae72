/- Proved here: for all logs, places and signs, a log with one more sign is the document's, and the distance changes by at most an edit; it holds under no condition. -/
import Derived.Test.YtcbepmdnhjojdaaLr
import Derived.Test.YtcbepmdnhjojdaaPx52
set_option linter.unusedVariables false
namespace Go.Proofs.Ytcbepmdnhjojdaa.Pure
open Go.RowKit Go.Proofs.Ytcbepmdnhjojdaa.P Go.Proofs.Ytcbepmdnhjojdaa.E Go.Proofs.Ytcbepmdnhjojdaa.Al Go.Proofs.Ytcbepmdnhjojdaa.Lo Go.Proofs.Ytcbepmdnhjojdaa.Lr Go.Proofs.YtcbepmdnhjojdaaW.PrintMore
open Go.Proofs.YtcbepmdnhjojdaaW.PrintWords
namespace Ins
def ins (m : List Int) (p s : Int) : List Int := m.take p.toNat ++ s :: m.drop p.toNat
def ic (m : List Int) (p s : Int) : Int := if lc m = 0 then (if (0 ≤ p ∧ p ≤ (m.length : Int)) ∧ (0 ≤ s ∧ s ≤ 5) then (if (m.length : Int) = 10 then 3 else 0) else 1) else lc m
def ia (m : List Int) (p s : Int) : List Int := if ic m p s = 0 then ins m p s else []
theorem ins_len {m : List Int} {p s : Int} (h : p ≤ (m.length : Int)) : (ins m p s).length = m.length + 1 := by
  unfold ins
  rw [List.length_append, List.length_cons, List.length_take, List.length_drop]; omega
theorem ic_zero {m : List Int} {p s : Int} : ic m p s = 0 ↔ lc m = 0 ∧ (0 ≤ p ∧ p ≤ (m.length : Int)) ∧ (0 ≤ s ∧ s ≤ 5) ∧ m.length ≤ 9 := by
  unfold ic
  by_cases h : lc m = 0
  · have hl := (lc_zero.1 h).1
    rw [if_pos h]
    by_cases h2 : (0 ≤ p ∧ p ≤ (m.length : Int)) ∧ (0 ≤ s ∧ s ≤ 5)
    · rw [if_pos h2]
      by_cases h3 : (m.length : Int) = 10
      · rw [if_pos h3]; exact ⟨fun q => by omega, fun q => by omega⟩
      · rw [if_neg h3]; exact ⟨fun _ => ⟨h, h2.1, h2.2, by omega⟩, fun _ => rfl⟩
    · rw [if_neg h2]; exact ⟨fun q => by omega, fun q => absurd ⟨q.2.1, q.2.2.1⟩ h2⟩
  · rw [if_neg h]; exact ⟨fun q => absurd q h, fun q => absurd q.1 h⟩
theorem ev_Insert {m : List Int} {p s : Int} (hm : m.length ≤ 1000) : Tl (fun k => log_Insert.f k m p s) (ia m p s, ic m p s) := by
  unfold log_Insert.f
  by_cases h : lc m = 0
  case neg =>
    have e : ic m p s = lc m := by unfold ic; rw [if_neg h]
    unfold ia
    rw [e, if_neg h]
    exact Tl.bind (ev_Validate hm) (Tl.neg h Tl.now)
  have j1 : ((0 ≤ p ∧ p ≤ (m.length : Int)) ∧ (0 ≤ s ∧ s ≤ 5) → False) → Tl (fun k => log_Insert.j0 k m p s true) (ia m p s, ic m p s) := by
    intro q
    have e : ic m p s = 1 := by unfold ic; rw [if_pos h, if_neg q]
    refine Tl.succ ?_
    simp only [log_Insert.j0]
    refine Tl.pos trivial (Tl.to Tl.now ?_)
    unfold ia; rw [e]; rfl
  refine Tl.bind (ev_Validate hm) (Tl.pos h (Tl.bind' (within_eq _ _ _) ?_))
  by_cases c1 : 0 ≤ p ∧ p ≤ (m.length : Int)
  case neg => exact Tl.neg (by simpa using c1) (j1 (fun q => c1 q.1))
  refine Tl.pos (decide_eq_true c1) (Tl.bind' (within_eq _ _ _) ?_)
  by_cases c2 : 0 ≤ s ∧ s ≤ 5
  case neg => rw [decide_eq_false c2]; exact j1 (fun q => c2 q.2)
  rw [decide_eq_true c2]
  refine Tl.succ ?_
  simp only [log_Insert.j0]
  refine Tl.neg (by simp) ?_
  by_cases c3 : (m.length : Int) = 10
  · have e : ic m p s = 3 := by unfold ic; rw [if_pos h, if_pos ⟨c1, c2⟩, if_pos c3]
    refine Tl.pos c3 (Tl.to Tl.now ?_)
    unfold ia; rw [e]; rfl
  · have e : ic m p s = 0 := by unfold ic; rw [if_pos h, if_pos ⟨c1, c2⟩, if_neg c3]
    refine Tl.neg c3 (Tl.bind' (clone_eq hm) (Tl.pos ⟨c1.1, c1.2, hm⟩ (Tl.to Tl.now ?_)))
    unfold ia ins; rw [e]; rfl
theorem ev_rInsert {m : List Int} {p s : Int} (hm : m.length ≤ 1000) : Tl (fun k => diaphoneref06_Insert.f k m p s) (ia m p s, ic m p s) := by
  unfold diaphoneref06_Insert.f
  by_cases h : lc m = 0
  case neg =>
    have e : ic m p s = lc m := by unfold ic; rw [if_neg h]
    unfold ia
    rw [e, if_neg h]
    exact Tl.bind (ev_rValidate hm) (Tl.neg h Tl.now)
  have j1 : ((0 ≤ p ∧ p ≤ (m.length : Int)) ∧ (0 ≤ s ∧ s ≤ 5) → False) → Tl (fun k => diaphoneref06_Insert.j0 k m p s true) (ia m p s, ic m p s) := by
    intro q
    have e : ic m p s = 1 := by unfold ic; rw [if_pos h, if_neg q]
    refine Tl.succ ?_
    simp only [diaphoneref06_Insert.j0]
    refine Tl.pos trivial (Tl.to Tl.now ?_)
    unfold ia; rw [e]; rfl
  refine Tl.bind (ev_rValidate hm) (Tl.pos h (Tl.bind' (rwithin_eq _ _ _) ?_))
  by_cases c1 : 0 ≤ p ∧ p ≤ (m.length : Int)
  case neg => exact Tl.neg (by simpa using c1) (j1 (fun q => c1 q.1))
  refine Tl.pos (decide_eq_true c1) (Tl.bind' (rwithin_eq _ _ _) ?_)
  by_cases c2 : 0 ≤ s ∧ s ≤ 5
  case neg => rw [decide_eq_false c2]; exact j1 (fun q => c2 q.2)
  rw [decide_eq_true c2]
  refine Tl.succ ?_
  simp only [diaphoneref06_Insert.j0]
  refine Tl.neg (by simp) ?_
  by_cases c3 : (m.length : Int) = 10
  · have e : ic m p s = 3 := by unfold ic; rw [if_pos h, if_pos ⟨c1, c2⟩, if_pos c3]
    refine Tl.pos c3 (Tl.to Tl.now ?_)
    unfold ia; rw [e]; rfl
  · have e : ic m p s = 0 := by unfold ic; rw [if_pos h, if_pos ⟨c1, c2⟩, if_neg c3]
    have t1 : (m.take p.toNat).length ≤ 1000 := by rw [List.length_take]; omega
    have t2 : (m.drop p.toNat).length ≤ 1000 := by rw [List.length_drop]; omega
    refine Tl.neg c3 (Tl.bind' rfl (Tl.pos c1.1 (Tl.pos c1.2 (Tl.pos (by simp only [List.length_nil]; omega) (Tl.bind' rfl (Tl.pos (by simp only [List.nil_append]; omega) (Tl.bind' rfl (Tl.pos (by simp only [List.nil_append, List.length_append, List.length_cons, List.length_nil]; omega) (Tl.to Tl.now ?_)))))))))
    unfold ia ins; rw [e]; simp
theorem ia_ok {m : List Int} {p s : Int} (h : ic m p s = 0) : lc (ia m p s) = 0 := by
  obtain ⟨h1, h2, h3, h4⟩ := ic_zero.1 h
  have hl : (ins m p s).length = m.length + 1 := ins_len h2.2
  unfold ia
  rw [if_pos h]
  refine lc_zero.2 ⟨by omega, good_mem.2 fun x hx => ?_⟩
  have g := good_mem.1 (lc_zero.1 h1).2
  unfold ins at hx
  rcases List.mem_append.1 hx with e | e
  · exact g x (List.mem_of_mem_take e)
  · rcases List.mem_cons.1 e with e | e
    · subst e; exact h3
    · exact g x (List.mem_of_mem_drop e)
theorem fin {l m : List Int} {o i c p s : Int} (hl : l.length ≤ 1000) (hm : m.length ≤ 1000) : Tl (fun k => diaphonelaw06_LogInserts.j0 k (ia m p s) (ic m p s) false l m o i c) true := by
  have hal : (ia m p s).length ≤ 1001 := by
    unfold ia
    split
    · rename_i h; rw [ins_len (ic_zero.1 h).2.1.2]; omega
    · simp
  have ha : (ia m p s).length ≤ 1000 := by
    by_cases h : ic m p s = 0
    · have := (lc_zero.1 (ia_ok h)).1; omega
    · unfold ia; rw [if_neg h]; simp
  obtain ⟨d1, g1, e1⟩ := ev_Distance (l := l) (m := m) (o := o) (i := i) (c := c) hl hm
  obtain ⟨d2, g2, e2⟩ := ev_Distance (l := l) (m := ia m p s) (o := o) (i := i) (c := c) hl ha
  have j1t : ∀ x y z : Int, Tl (fun k => diaphonelaw06_LogInserts.j1 k x y z true l m o i c) true := by
    intro x y z
    refine Tl.succ ?_
    simp only [diaphonelaw06_LogInserts.j1]
    exact Tl.pos trivial ev_known'
  refine Tl.succ ?_
  simp only [diaphonelaw06_LogInserts.j0]
  refine Tl.neg (by simp) (Tl.bind e1 (Tl.bind e2 ?_))
  by_cases k1 : ic m p s = 0
  case neg => exact Tl.neg k1 (j1t _ _ _)
  refine Tl.pos k1 ?_
  by_cases k2 : kc l m o i c = 0
  case neg =>
    rw [show (kc l m o i c != 0) = true by simpa using k2]
    exact j1t _ _ _
  obtain ⟨a1, a2, a3⟩ := kc_zero.1 k2
  have k3 : kc l (ia m p s) o i c = 0 := kc_zero.2 ⟨a1, ia_ok k1, a3⟩
  have hc := cc_zero.1 a3
  have h1 := g1 k2
  have h2 := g2 k3
  have em : m.take p.toNat ++ m.drop p.toNat = m := List.take_append_drop _ _
  have t1 := al_mid_ins (o := o) (i := i) (c := c) (m.take p.toNat) (m.drop p.toNat) s
  have t2 := al_mid_out (o := o) (i := i) (c := c) (m.take p.toNat) (m.drop p.toNat) s
  have ea : m.take p.toNat ++ s :: m.drop p.toNat = ia m p s := by unfold ia ins; rw [if_pos k1]
  rw [em, ea] at t1 t2
  obtain ⟨x1, x2, x3⟩ := al_trans (by omega) (by omega) (by omega) h1.1 t1
  obtain ⟨y1, y2, y3⟩ := al_trans (by omega) (by omega) (by omega) h2.1 t2
  have q1 := h2.2 _ x3
  have q2 := h1.2 _ y3
  have bd : ∀ {u v : List Int} {d : Int}, u.length ≤ 10 → v.length ≤ 10 → IsD o i c u v d → 0 ≤ d ∧ d ≤ 1000 := by
    intro u v d hu hv hd
    have p1 := al_nonneg (by omega) (by omega) (by omega) hd.1
    have p2 := hd.2 _ (al_all u v)
    have p3 : o * (u.length : Int) ≤ 9 * (u.length : Int) := Int.mul_le_mul_of_nonneg_right hc.1.2 (by omega)
    have p4 : i * (v.length : Int) ≤ 9 * (v.length : Int) := Int.mul_le_mul_of_nonneg_right hc.2.1.2 (by omega)
    omega
  have w1 := bd (lc_zero.1 a1).1 (lc_zero.1 a2).1 h1
  have w2 := bd (lc_zero.1 a1).1 (lc_zero.1 (ia_ok k1)).1 h2
  rw [if_pos k2, if_pos k3, k2, k3, show ((0 : Int) != 0) = false from rfl]
  refine Tl.succ ?_
  simp only [diaphonelaw06_LogInserts.j1]
  have hmx : mx i o = max i o := mx_eq i o
  have r1 : wrap64 (d1 + mx i o) = d1 + max i o := by rw [hmx]; exact w64 (by omega) (by omega)
  have r2 : wrap64 (d2 + mx i o) = d2 + max i o := by rw [hmx]; exact w64 (by omega) (by omega)
  have s1 : d2 ≤ d1 + max i o := by clear r1 r2; omega
  have s2 : d1 ≤ d2 + max i o := by clear r1 r2; omega
  rw [r1, r2]
  exact Tl.neg (by simp) (Tl.pos trivial (Tl.pos s1 (Tl.pos s2 ev_known')))
end Ins
theorem LogInserts : ∀ (x0 : S26) (x1 : Int) (x2 : Int), (((∀ y ∈ x0.f0, (Lit.int .i64 y).wf = true) ∧ x0.f0.length ≤ maxLen) ∧ ((∀ y ∈ x0.f1, (Lit.int .i64 y).wf = true) ∧ x0.f1.length ≤ maxLen) ∧ (((Lit.int .i64 x0.f2.f0).wf = true) ∧ ((Lit.int .i64 x0.f2.f1).wf = true) ∧ ((Lit.int .i64 x0.f2.f2).wf = true))) → ((Lit.int .i64 x1).wf = true) → ((Lit.int .i64 x2).wf = true) → ∃ k, diaphonelaw06_LogInserts.f k x0.f0 x0.f1 x0.f2.f0 x0.f2.f1 x0.f2.f2 x1 x2 = some true := by
  intro x p s _ _ _
  refine Tl.ex (g := fun k => diaphonelaw06_LogInserts.f k x.f0 x.f1 x.f2.f0 x.f2.f1 x.f2.f2 p s) ?_
  unfold diaphonelaw06_LogInserts.f
  refine Tl.bind' (long_eq _ _ _ _ _) ?_
  cases h : lg x.f0 x.f1 with
  | true => exact Tl.pos rfl ev_known'
  | false =>
    obtain ⟨h1, h2⟩ := lg_false h
    have ha : (Ins.ia x.f1 p s).length ≤ 1000 := by
      by_cases h : Ins.ic x.f1 p s = 0
      · have := (lc_zero.1 (Ins.ia_ok h)).1; omega
      · unfold Ins.ia; rw [if_neg h]; simp
    refine Tl.neg (by simp) (Tl.bind (Ins.ev_Insert (by omega)) (Tl.bind (Ins.ev_rInsert (by omega)) (Tl.bind (ev_SameInts _ ha) (Tl.pos rfl ?_))))
    rw [show (Ins.ic x.f1 p s != Ins.ic x.f1 p s) = false by simp]
    exact Ins.fin (by omega) (by omega)
end Go.Proofs.Ytcbepmdnhjojdaa.Pure
