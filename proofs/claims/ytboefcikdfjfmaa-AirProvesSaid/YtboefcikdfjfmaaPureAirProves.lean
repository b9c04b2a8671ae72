/- Proved here: for every task, plan and prices, CheckBest answers as the document says, and the program's prices prove its plan; it holds under no condition. -/
import Derived.Test.YtboefcikdfjfmaaKn
import Derived.Test.YtboefcikdfjfmaaBe
import Derived.Test.YtboefcikdfjfmaaPs
import Derived.Test.YtboefcikdfjfmaaRk
import Derived.Test.YtboefcikdfjfmaaPc
import Derived.Test.YtboefcikdfjfmaaPx41
import Derived.Test.YtboefcikdfjfmaaPx53
import Derived.Test.YtboefcikdfjfmaaPx56
set_option linter.unusedVariables false
namespace Go.Proofs.Ytboefcikdfjfmaa.Pure
open Go.RowKit Go.Proofs.Ytboefcikdfjfmaa.P Go.Proofs.Ytboefcikdfjfmaa.E Go.Proofs.Ytboefcikdfjfmaa.Am Go.Proofs.Ytboefcikdfjfmaa.Va Go.Proofs.Ytboefcikdfjfmaa.Fi Go.Proofs.Ytboefcikdfjfmaa.Pr Go.Proofs.Ytboefcikdfjfmaa.Pn Go.Proofs.Ytboefcikdfjfmaa.Be Go.Proofs.Ytboefcikdfjfmaa.Kn Go.Proofs.YtboefcikdfjfmaaW.PrintMore Go.Proofs.YtboefcikdfjfmaaW.PrintWords
theorem cb {a0 a1 : Int} {c d : List Int} (ok : Ok a0 a1 c d) {x p : List Int} (hx : x.length ≤ 1000) (hp : p.length ≤ 1000) : ∃ r : Int, Tl (fun k => air_CheckBest.f k a0 a1 c d x p) r ∧ Tl (fun k => diaphoneref03_CheckBest.f k a0 a1 c d x p) r ∧
    (allb x d.length 600 = true → Right d x → allb p d.length 100000 = true → HoL a0 a1 c d p 0 → cs a0 a1 c d x d.length = sm (fl p) 0 d.length → r = 0) := by
  obtain ⟨e, he⟩ := Pe_ex d x
  obtain ⟨q, hq⟩ := Cp_ex a0 a1 c d p
  have hc := ev_rCheckPlan ok hx he
  unfold cpv at hc
  have hcp := ev_rCheckPrices ok hp hq
  by_cases h0 : e = 0
  · obtain ⟨g1, g2⟩ := he.zero h0
    obtain ⟨s1, s2⟩ := small_of g1
    rw [if_pos h0] at hc
    obtain ⟨k1, k2, k3⟩ := hq
    have bad : ∀ v : Int, v ≠ 0 → q = (0, v) → Tl (fun k => air_priced.f k a0 a1 c d p) v → ∃ r : Int, Tl (fun k => air_CheckBest.f k a0 a1 c d x p) r ∧ Tl (fun k => diaphoneref03_CheckBest.f k a0 a1 c d x p) r ∧ r = v := by
      intro v hv hqv hev
      refine ⟨v, ?_, ?_, rfl⟩
      · unfold air_CheckBest.f
        exact Tl.bind (ev_planned ok hx he) (Tl.pos h0 (Tl.bind hev (Tl.neg hv Tl.now)))
      · unfold diaphoneref03_CheckBest.f
        rw [hqv] at hcp
        exact Tl.bind hc (Tl.pos rfl (Tl.bind hcp (Tl.neg hv Tl.now)))
    by_cases c1 : allb p d.length 100000 = true
    · by_cases c2 : HoL a0 a1 c d p 0
      · have hpp := (allb_iff (by decide)).1 c1
        have hev := ev_priced ok hp 0 (fun h => by rw [c1] at h; cases h) (fun _ _ => rfl) (fun _ h => absurd c2 h)
        rw [k2 c1 c2] at hcp
        have hw := ev_worth hp hpp.2
        rw [hpp.1] at hw
        by_cases c3 : cs a0 a1 c d x d.length = sm (fl p) 0 d.length
        · refine ⟨0, ?_, ?_, fun _ _ _ _ _ => rfl⟩
          · unfold air_CheckBest.f
            exact Tl.bind (ev_planned ok hx he) (Tl.pos h0 (Tl.bind hev (Tl.pos rfl (Tl.bind (ev_cost ok s1 s2) (Tl.bind hw (Tl.pos c3 Tl.now))))))
          · unfold diaphoneref03_CheckBest.f
            exact Tl.bind hc (Tl.pos rfl (Tl.bind hcp (Tl.pos rfl (Tl.pos c3 Tl.now))))
        · refine ⟨7, ?_, ?_, fun _ _ _ _ h => absurd h c3⟩
          · unfold air_CheckBest.f
            exact Tl.bind (ev_planned ok hx he) (Tl.pos h0 (Tl.bind hev (Tl.pos rfl (Tl.bind (ev_cost ok s1 s2) (Tl.bind hw (Tl.neg c3 Tl.now))))))
          · unfold diaphoneref03_CheckBest.f
            exact Tl.bind hc (Tl.pos rfl (Tl.bind hcp (Tl.pos rfl (Tl.neg c3 Tl.now))))
      · obtain ⟨r, r1, r2, _⟩ := bad 7 (by decide) (k3 c1 c2) (ev_priced ok hp 7 (fun h => by rw [c1] at h; cases h) (fun _ h => absurd h c2) (fun _ _ => rfl))
        exact ⟨r, r1, r2, fun _ _ _ h _ => absurd h c2⟩
    · obtain ⟨r, r1, r2, _⟩ := bad 1 (by decide) (k1 (by simpa using c1)) (ev_priced ok hp 1 (fun _ => rfl) (fun h => absurd h c1) (fun h => absurd h c1))
      exact ⟨r, r1, r2, fun _ _ h _ _ => absurd h c1⟩
  · rw [if_neg h0] at hc
    refine ⟨e, ?_, ?_, fun h1 h2 _ _ _ => he.2.1 h1 h2⟩
    · unfold air_CheckBest.f
      exact Tl.bind (ev_planned ok hx he) (Tl.neg h0 Tl.now)
    · unfold diaphoneref03_CheckBest.f
      exact Tl.bind hc (Tl.neg h0 Tl.now)
theorem AirProves : ∀ (x0 : S24) (x1 : S47), (((Lit.int .i64 x0.f0).wf = true) ∧ ((Lit.int .i64 x0.f1).wf = true) ∧ ((∀ y ∈ x0.f2, (Lit.int .i64 y).wf = true) ∧ x0.f2.length ≤ maxLen) ∧ ((∀ y ∈ x0.f3, (Lit.int .i64 y).wf = true) ∧ x0.f3.length ≤ maxLen)) → (((∀ y ∈ x1.f0, (Lit.int .i64 y).wf = true) ∧ x1.f0.length ≤ maxLen) ∧ ((∀ y ∈ x1.f1, (Lit.int .i64 y).wf = true) ∧ x1.f1.length ≤ maxLen)) → ∃ k, diaphonelaw03_AirProves.f k x0.f0 x0.f1 x0.f2 x0.f3 x1.f0 x1.f1 = some true := by
  rintro ⟨a0, a1, c, d⟩ ⟨x, p⟩ _ _
  refine Tl.ex (g := fun k => diaphonelaw03_AirProves.f k a0 a1 c d x p) ?_
  have j0t : Tl (fun k => diaphonelaw03_AirProves.j0 k true a0 a1 c d x p) true := by
    refine Tl.succ ?_
    simp only [diaphonelaw03_AirProves.j0]
    exact Tl.pos trivial ev_known'
  unfold diaphonelaw03_AirProves.f
  refine Tl.bind' (ev_Long _ _ _ _) ?_
  by_cases h1 : 100 < c.length
  · exact Tl.pos (by simp [h1]) j0t
  by_cases h2 : 100 < d.length
  · exact Tl.pos (by simp [h2]) j0t
  refine Tl.neg (by simp [h1, h2]) (Tl.bind' (ev_large _) ?_)
  by_cases h3 : 100 < x.length
  · exact Tl.pos (by simp [h3]) j0t
  refine Tl.neg (by simp [h3]) (Tl.bind' (ev_large _) ?_)
  by_cases h4 : 100 < p.length
  · rw [decide_eq_true h4]; exact j0t
  rw [decide_eq_false h4]
  refine Tl.succ ?_
  simp only [diaphonelaw03_AirProves.j0]
  refine Tl.neg (by decide) ?_
  rcases vc_cases a0 a1 c d with ⟨hv, ok⟩ | ⟨hv, no⟩
  · have hn2 := ok.n2
    obtain ⟨r, r1, r2, _⟩ := cb ok (x := x) (p := p) (by omega) (by omega)
    obtain ⟨fs, bs, hf⟩ := firsts_ex ok
    obtain ⟨y, hy, hyev⟩ := best_ex ok hf
    obtain ⟨q, hq, hqev⟩ := ev_Prices ok
    have hh := hq.hol ok
    have hyl := (small_of hy.l).2
    have hql := hq.l
    obtain ⟨r', g1, _, g3⟩ := cb ok (x := y) (p := q) (by omega) (by omega)
    have hr' := g3 hy.l hy.r hh.1 hh.2 (by rw [hy.cost]; exact F_eq_p ok.rt hq.P hf.F (Nat.le_refl _))
    exact Tl.bind r1 (Tl.bind r2 (Tl.pos rfl (Tl.bind hyev (Tl.bind hqev (Tl.pos rfl (Tl.pos rfl (Tl.bind g1 (Tl.pos hr' ev_known'))))))))
  · have e1 : Tl (fun k => air_CheckBest.f k a0 a1 c d x p) (vc a0 a1 c d) := by
      unfold air_CheckBest.f
      exact Tl.bind (ev_planned_no (by omega) (by omega) (by omega) x) (Tl.neg (by omega) Tl.now)
    have e2 : Tl (fun k => diaphoneref03_CheckBest.f k a0 a1 c d x p) (vc a0 a1 c d) := by
      unfold diaphoneref03_CheckBest.f
      exact Tl.bind (ev_rCheckPlan_no (by omega) (by omega) (by omega) x) (Tl.neg (by show vc a0 a1 c d ≠ 0; omega) Tl.now)
    exact Tl.bind e1 (Tl.bind e2 (Tl.pos rfl (Tl.bind (ev_Best_no (by omega) (by omega) (by omega)) (Tl.bind (ev_Prices_no (by omega) (by omega) (by omega)) (Tl.neg (by show vc a0 a1 c d ≠ 0; omega) ev_known')))))
end Go.Proofs.Ytboefcikdfjfmaa.Pure
