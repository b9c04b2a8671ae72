/- Proved here: for every task, hour and number, the task with that need is as the document says, and a greater need never makes the least cost smaller; it holds under no condition. -/
import Derived.Test.YtboefcikdfjfmaaCm
import Derived.Test.YtboefcikdfjfmaaKt
import Derived.Test.YtboefcikdfjfmaaPx29
import Derived.Test.YtboefcikdfjfmaaPx30
import Derived.Test.YtboefcikdfjfmaaPx31
set_option linter.unusedVariables false
namespace Go.Proofs.Ytboefcikdfjfmaa.Pure
open Go.RowKit Go.Proofs.Ytboefcikdfjfmaa.P Go.Proofs.Ytboefcikdfjfmaa.E Go.Proofs.Ytboefcikdfjfmaa.Am Go.Proofs.Ytboefcikdfjfmaa.Va Go.Proofs.Ytboefcikdfjfmaa.Fi Go.Proofs.Ytboefcikdfjfmaa.Kn Go.Proofs.Ytboefcikdfjfmaa.Cm Go.Proofs.YtboefcikdfjfmaaW.PrintMore Go.Proofs.YtboefcikdfjfmaaW.PrintWords
theorem AirNeeds : ∀ (x0 : S24) (x1 : Int) (x2 : Int), (((Lit.int .i64 x0.f0).wf = true) ∧ ((Lit.int .i64 x0.f1).wf = true) ∧ ((∀ y ∈ x0.f2, (Lit.int .i64 y).wf = true) ∧ x0.f2.length ≤ maxLen) ∧ ((∀ y ∈ x0.f3, (Lit.int .i64 y).wf = true) ∧ x0.f3.length ≤ maxLen)) → ((Lit.int .i64 x1).wf = true) → ((Lit.int .i64 x2).wf = true) → ∃ k, diaphonelaw03_AirNeeds.f k x0.f0 x0.f1 x0.f2 x0.f3 x1 x2 = some true := by
  rintro ⟨a0, a1, c, d⟩ u b _ _ _
  refine Tl.ex (g := fun k => diaphonelaw03_AirNeeds.f k a0 a1 c d u b) ?_
  unfold diaphonelaw03_AirNeeds.f
  refine by_long (fun h1 h2 => ?_)
  have bad : ∀ e : Int, e ≠ 0 → air_Need.f a0 a1 c d u b = some (0, 0, [], [], e) → Tl (fun k => diaphoneref03_Need.f k a0 a1 c d u b) (0, 0, [], [], e) → Tl (fun k => (air_Need.f a0 a1 c d u b).bind fun bt104 => ((diaphoneref03_Need.f k a0 a1 c d u b).bind fun bt114 => ((diaphoneref03_Same.f k bt104.1 bt104.2.1 bt104.2.2.1 bt104.2.2.2.1 bt114.1 bt114.2.1 bt114.2.2.1 bt114.2.2.2.1).bind fun t124 => (if t124 = true then (diaphonelaw03_AirNeeds.j0 k b bt104.2.2.2.2 (bt104.2.2.2.2 != bt114.2.2.2.2) a0 a1 c d bt104.1 bt104.2.1 bt104.2.2.1 bt104.2.2.2.1) else (diaphonelaw03_AirNeeds.j0 k b bt104.2.2.2.2 true a0 a1 c d bt104.1 bt104.2.1 bt104.2.2.1 bt104.2.2.2.1))))) true := by
    intro e he e1 e2
    refine Tl.bind' e1 (Tl.bind e2 (Tl.bind (ev_same _ _ (by simp) (by simp)) (Tl.pos rfl ?_)))
    refine Tl.succ ?_
    simp only [diaphonelaw03_AirNeeds.j0]
    refine Tl.neg (by simp) ?_
    rcases least_cases 0 0 (c := []) (d := []) (by simp) (by simp) with ⟨q, _⟩ | ⟨_, q⟩
    · exact absurd q (no_nil _ _ _)
    · rcases least_cases a0 a1 (c := c) (d := d) (by omega) (by omega) with ⟨_, cs, bs, _, q2⟩ | ⟨_, q2⟩
      · exact Tl.bind q2 (Tl.bind q (Tl.neg he ev_known'))
      · exact Tl.bind q2 (Tl.bind q (Tl.neg he ev_known'))
  rcases vc_cases a0 a1 c d with ⟨hv, ok⟩ | ⟨hv, no⟩
  · have hn1 := ok.n1
    have hn2 := ok.n2
    have hw : wrap64 ((d.length : Int) - 1) = (d.length : Int) - 1 := w64 (by omega) (by omega)
    by_cases g1 : 0 ≤ u ∧ u ≤ (d.length : Int) - 1
    · by_cases g2 : -50 ≤ b ∧ b ≤ 50
      · obtain ⟨i, rfl⟩ : ∃ i : Nat, u = (i : Int) := ⟨u.toNat, by omega⟩
        have hi : i < d.length := by omega
        have hd0 := ok.d0 i
        have hd1 := ok.d1 i
        have e1 : air_Need.f a0 a1 c d (i : Int) b = some (told a0 a1 c (d.set i (fl d i + b))) := by
          unfold air_Need.f
          rw [ev_Validate (by omega) (by omega), Option.bind_some, if_pos hv, ev_within, Option.bind_some, hw, if_pos (decide_eq_true g1), ev_within, Option.bind_some, if_pos (decide_eq_true g2), ev_copied a0 a1 (by omega) (by omega), Option.bind_some]
          simp only
          rw [if_pos (by omega), if_pos (by omega), rd_fl, Int.toNat_natCast, w64 (by omega) (by omega), ev_checked (by first | omega | (dsimp only; omega)) (by first | (simp; omega) | (dsimp only; simp; omega)), Option.bind_some]
        have e2 : Tl (fun k => diaphoneref03_Need.f k a0 a1 c d (i : Int) b) (told a0 a1 c (d.set i (fl d i + b))) := by
          unfold diaphoneref03_Need.f
          refine Tl.bind (ev_rValidate (by omega) (by omega)) (Tl.pos hv (Tl.bind' (ev_rwithin _ _ _) (Tl.pos (by rw [hw]; exact decide_eq_true g1) (Tl.bind' (ev_rwithin _ _ _) (Tl.pos (decide_eq_true g2) (Tl.bind' (ev_Copy a0 a1 (by omega) (by omega)) ?_))))))
          simp only
          refine Tl.pos (by omega) (Tl.pos (by omega) ?_)
          rw [rd_fl, Int.toNat_natCast, w64 (by omega) (by omega)]
          exact Tl.bind (ev_told (by first | omega | (dsimp only; omega)) (by first | (simp; omega) | (dsimp only; simp; omega))) Tl.now
        by_cases ok2 : Ok a0 a1 c (d.set i (fl d i + b))
        · rw [told_ok ok2] at e1 e2
          refine Tl.bind' e1 (Tl.bind e2 (Tl.bind (ev_same _ _ (by first | omega | (dsimp only; omega)) (by first | (simp; omega) | (dsimp only; simp; omega))) (Tl.pos rfl ?_)))
          refine Tl.succ ?_
          simp only [diaphonelaw03_AirNeeds.j0]
          refine Tl.neg (by simp) ?_
          obtain ⟨cs, bs, hf⟩ := firsts_ex ok
          obtain ⟨cs2, bs2, hf2⟩ := firsts_ex ok2
          have hF2 := hf2.F
          have hL2 := ev_Least ok2 hf2
          rw [List.length_set] at hF2 hL2
          have hset : ∀ j, fl (d.set i (fl d i + b)) j = if j = i then fl d i + b else fl d j := fun j => fl_set j _ hi
          have rt2 := ok2.rt
          rw [List.length_set] at rt2
          have up : 0 ≤ b → fl cs d.length ≤ fl cs2 d.length := fun hb => F_comp hf.F hF2 (fun s n _ hn => lot_mono ok.rt (Int.le_refl _) (fun j _ => by rw [hset]; split; rename_i e; subst e; omega; exact Int.le_refl _) hn) _ (Nat.le_refl _)
          have dn : b ≤ 0 → fl cs2 d.length ≤ fl cs d.length := fun hb => F_comp hF2 hf.F (fun s n _ hn => lot_mono rt2 (Int.le_refl _) (fun j _ => by rw [hset]; split; rename_i e; subst e; omega; exact Int.le_refl _) hn) _ (Nat.le_refl _)
          refine Tl.bind (ev_Least ok hf) (Tl.bind hL2 (Tl.pos trivial (Tl.pos rfl (Tl.pos rfl ?_))))
          by_cases c1 : b < 0
          · refine Tl.pos c1 (Tl.neg (by omega) (Tl.pos (dn (by omega)) ev_known'))
          · refine Tl.neg c1 (Tl.pos (up (by omega)) ?_)
            by_cases c2 : b > 0
            · exact Tl.pos c2 ev_known'
            · exact Tl.neg c2 (Tl.pos (dn (by omega)) ev_known')
        · rw [told_no ok2] at e1 e2
          exact bad 1 (by decide) e1 e2
      · refine bad 1 (by decide) ?_ ?_
        · unfold air_Need.f
          rw [ev_Validate (by omega) (by omega), Option.bind_some, if_pos hv, ev_within, Option.bind_some, hw, if_pos (decide_eq_true g1), ev_within, Option.bind_some, if_neg (by simpa using g2)]
        · unfold diaphoneref03_Need.f
          exact Tl.bind (ev_rValidate (by omega) (by omega)) (Tl.pos hv (Tl.bind' (ev_rwithin _ _ _) (Tl.pos (by rw [hw]; exact decide_eq_true g1) (Tl.bind' (ev_rwithin _ _ _) (Tl.neg (by simpa using g2) Tl.now)))))
    · refine bad 4 (by decide) ?_ ?_
      · unfold air_Need.f
        rw [ev_Validate (by omega) (by omega), Option.bind_some, if_pos hv, ev_within, Option.bind_some, hw, if_neg (by simpa using g1)]
      · unfold diaphoneref03_Need.f
        exact Tl.bind (ev_rValidate (by omega) (by omega)) (Tl.pos hv (Tl.bind' (ev_rwithin _ _ _) (Tl.neg (by rw [hw]; simpa using g1) Tl.now)))
  · refine bad 1 (by decide) ?_ ?_
    · unfold air_Need.f
      rw [ev_Validate (by omega) (by omega), Option.bind_some, if_neg (by omega), hv]
    · unfold diaphoneref03_Need.f
      exact (Tl.bind (ev_rValidate (by omega) (by omega)) (Tl.neg (by omega) Tl.now)).to (by rw [hv])
end Go.Proofs.Ytboefcikdfjfmaa.Pure
