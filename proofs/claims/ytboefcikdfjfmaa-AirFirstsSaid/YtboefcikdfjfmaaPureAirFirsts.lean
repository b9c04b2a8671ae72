/- Proved here: for every task, the program's least costs of the first hours are the document's, and they never fall; it holds under no condition. -/
import Derived.Test.YtboefcikdfjfmaaKn
import Derived.Test.YtboefcikdfjfmaaLe
import Derived.Test.YtboefcikdfjfmaaSa
import Derived.Test.YtboefcikdfjfmaaPx7
import Derived.Test.YtboefcikdfjfmaaPx58
import Derived.Test.YtboefcikdfjfmaaPx59
set_option linter.unusedVariables false
namespace Go.Proofs.Ytboefcikdfjfmaa.Pure
open Go.RowKit Go.Proofs.Ytboefcikdfjfmaa.P Go.Proofs.Ytboefcikdfjfmaa.E Go.Proofs.Ytboefcikdfjfmaa.Am Go.Proofs.Ytboefcikdfjfmaa.Va Go.Proofs.Ytboefcikdfjfmaa.Fi Go.Proofs.Ytboefcikdfjfmaa.Pn Go.Proofs.Ytboefcikdfjfmaa.Le Go.Proofs.Ytboefcikdfjfmaa.Kn Go.Proofs.YtboefcikdfjfmaaW.PrintMore Go.Proofs.YtboefcikdfjfmaaW.PrintWords
theorem rfirsts_loop {a0 a1 : Int} {c d fs bs : List Int} (ok : Ok a0 a1 c d) (hf : Fst a0 a1 c d fs bs) (e : Nat) : ∀ n : Nat, 1 ≤ n → n ≤ d.length + 1 → d.length + 1 - n = e →
    Tl (fun k => diaphoneref03_Firsts.l0 k ((List.range n).map fun i => fl fs i) (n : Int) a0 a1 c d) (fs, 0) := by
  have hn2 := ok.n2
  have hl := hf.l1
  induction e with
  | zero =>
    intro n h0 h1 h2
    obtain rfl : n = d.length + 1 := by omega
    refine Tl.succ ?_
    simp only [diaphoneref03_Firsts.l0]
    refine (Tl.neg (by omega) Tl.now).to ?_
    congr 1
    exact list_ext (by simp; omega) (fun i hi => by rw [fl_range, if_pos (by simpa using hi)])
  | succ e ih =>
    intro n h0 h1 h2
    have hcl := ok.cl
    have ok2 := ok.take h0 (show n ≤ d.length by omega)
    have l2 : (d.take n).length = n := by rw [List.length_take]; omega
    have hF2 : IsF a0 a1 (fl (c.take n)) (fl (d.take n)) (d.take n).length (fl fs) := by
      rw [l2]
      exact F_congr (hf.F.le (by omega)) (fun i hi => by rw [fl_take, if_pos hi]) (fun i hi => by rw [fl_take, if_pos hi])
    have e1 := ev_rleast ok2 hF2 (by rw [l2]; exact (hf.le n (by omega)).1)
    rw [l2] at e1
    have e2 : Tl (fun k => diaphoneref03_leastOf.f k a0 a1 c d (n : Int)) (fl fs n) := by
      unfold diaphoneref03_leastOf.f
      refine Tl.pos (by omega) ?_
      rw [Int.toNat_natCast]
      exact e1
    refine Tl.succ ?_
    simp only [diaphoneref03_Firsts.l0]
    refine Tl.pos (by omega) (Tl.bind e2 (Tl.pos (by simp; omega) ?_))
    rw [w64 (by omega) (by omega)]
    have := ih (n + 1) (by omega) (by omega) (by omega)
    rw [List.range_succ, List.map_append] at this
    exact this
theorem falls_loop {fs : List Int} (hl : fs.length ≤ 1000) (hm : ∀ i, i + 1 < fs.length → fl fs i ≤ fl fs (i + 1)) (e : Nat) : ∀ i : Nat, 1 ≤ i → i ≤ fs.length → fs.length - i = e → Tl (fun k => diaphonelaw03_AirFirsts.l0 k fs (i : Int)) true := by
  induction e with
  | zero =>
    intro i h0 h1 h2
    refine Tl.succ ?_
    simp only [diaphonelaw03_AirFirsts.l0]
    exact Tl.neg (by omega) ev_known'
  | succ e ih =>
    intro i h0 h1 h2
    have e1 : wrap64 ((i : Int) - 1) = ((i - 1 : Nat) : Int) := by rw [w64 (by omega) (by omega)]; omega
    have h3 := hm (i - 1) (by omega)
    rw [show i - 1 + 1 = i by omega] at h3
    refine Tl.succ ?_
    simp only [diaphonelaw03_AirFirsts.l0]
    rw [e1, rd_fl, rd_fl]
    refine Tl.pos (by omega) (Tl.pos (by omega) (Tl.pos (by omega) (Tl.pos (by omega) (Tl.neg (by omega) ?_))))
    rw [w64 (by omega) (by omega)]
    exact ih (i + 1) (by omega) (by omega) (by omega)
theorem AirFirsts : ∀ (x0 : S24), (((Lit.int .i64 x0.f0).wf = true) ∧ ((Lit.int .i64 x0.f1).wf = true) ∧ ((∀ y ∈ x0.f2, (Lit.int .i64 y).wf = true) ∧ x0.f2.length ≤ maxLen) ∧ ((∀ y ∈ x0.f3, (Lit.int .i64 y).wf = true) ∧ x0.f3.length ≤ maxLen)) → ∃ k, diaphonelaw03_AirFirsts.f k x0.f0 x0.f1 x0.f2 x0.f3 = some true := by
  rintro ⟨a0, a1, c, d⟩ _
  refine Tl.ex (g := fun k => diaphonelaw03_AirFirsts.f k a0 a1 c d) ?_
  unfold diaphonelaw03_AirFirsts.f
  refine by_long (fun h1 h2 => ?_)
  rcases vc_cases a0 a1 c d with ⟨hv, ok⟩ | ⟨hv, no⟩
  · obtain ⟨fs, bs, hf⟩ := firsts_ex ok
    have hl := hf.l1
    have e1 : Tl (fun k => diaphoneref03_Firsts.f k a0 a1 c d) (fs, 0) := by
      unfold diaphoneref03_Firsts.f
      refine Tl.bind (ev_rValidate (by omega) (by omega)) (Tl.pos hv ?_)
      have h := rfirsts_loop ok hf d.length 1 (by omega) (by omega) (by omega)
      have e0 : ((List.range 1).map fun i => fl fs i) = [0] := by simp [List.range_succ, hf.F.1]
      rw [e0] at h
      exact h
    refine Tl.bind (ev_Firsts ok hf) (Tl.bind e1 (Tl.bind (ev_Same (by show fs.length ≤ 1000; omega)) (Tl.pos (by simp) ?_)))
    refine Tl.succ ?_
    simp only [diaphonelaw03_AirFirsts.j0]
    refine Tl.neg (by simp) ?_
    exact falls_loop (by omega) (fun i hi => F_mono' ok.rt hf.F (by omega)) (fs.length - 1) 1 (by omega) (by omega) rfl
  · have e1 : Tl (fun k => diaphoneref03_Firsts.f k a0 a1 c d) ([], vc a0 a1 c d) := by
      unfold diaphoneref03_Firsts.f
      exact Tl.bind (ev_rValidate (by omega) (by omega)) (Tl.neg (by omega) Tl.now)
    refine Tl.bind (ev_Firsts_no (by omega) (by omega) (by omega)) (Tl.bind e1 (Tl.bind (ev_Same (by simp)) (Tl.pos (by simp) ?_)))
    refine Tl.succ ?_
    simp only [diaphonelaw03_AirFirsts.j0]
    refine Tl.neg (by simp) ?_
    refine Tl.succ ?_
    simp only [diaphonelaw03_AirFirsts.l0]
    exact Tl.neg (by simp) ev_known'
end Go.Proofs.Ytboefcikdfjfmaa.Pure
