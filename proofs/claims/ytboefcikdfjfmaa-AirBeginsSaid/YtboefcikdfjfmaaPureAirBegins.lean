/- Proved here: for every task and number, the task of the first hours is as the document says, in new memory, and its least cost is among the first ones; it holds under no condition. -/
import Derived.Test.YtboefcikdfjfmaaCm
import Derived.Test.YtboefcikdfjfmaaPx28
import Derived.Test.YtboefcikdfjfmaaPx60
import Derived.Test.YtboefcikdfjfmaaPx61
set_option linter.unusedVariables false
namespace Go.Proofs.Ytboefcikdfjfmaa.Pure
open Go.RowKit Go.Proofs.Ytboefcikdfjfmaa.P Go.Proofs.Ytboefcikdfjfmaa.E Go.Proofs.Ytboefcikdfjfmaa.Am Go.Proofs.Ytboefcikdfjfmaa.Va Go.Proofs.Ytboefcikdfjfmaa.Fi Go.Proofs.Ytboefcikdfjfmaa.Kn Go.Proofs.Ytboefcikdfjfmaa.Cm Go.Proofs.YtboefcikdfjfmaaW.PrintMore Go.Proofs.YtboefcikdfjfmaaW.PrintWords
theorem begins_loop (a0 a1 b0 b1 e0 e1 : Int) (c d m q : List Int) (hc : c.length ≤ 1000) (hd : d.length ≤ 1000) (hq : q.length ≤ 1000) (e : Nat) : ∀ (i : Nat) (l : List Int), l.length = q.length → i ≤ q.length → q.length - i = e →
    Tl (fun k => diaphonelaw03_AirBegins.l0 k true (i : Int) a0 a1 c d a0 a1 c d e0 e1 m l) true := by
  induction e with
  | zero =>
    intro i l hl h1 h2
    refine Tl.succ ?_
    simp only [diaphonelaw03_AirBegins.l0]
    exact Tl.neg (by omega) (Tl.pos trivial (Tl.bind (ev_same a0 a1 hc hd) (Tl.pos rfl ev_known')))
  | succ e ih =>
    intro i l hl h1 h2
    refine Tl.succ ?_
    simp only [diaphonelaw03_AirBegins.l0]
    refine Tl.pos (by omega) (Tl.pos (by omega) ?_)
    rw [w64 (by omega) (by omega)]
    exact ih (i + 1) _ (by simpa using hl) (by omega) (by omega)
theorem begins_end (a0 a1 e0 e1 : Int) (c d m q : List Int) (hc : c.length ≤ 1000) (hd : d.length ≤ 1000) (hq : q.length ≤ 1000) : Tl (fun k => diaphonelaw03_AirBegins.j1 k true a0 a1 c d a0 a1 c d e0 e1 m q) true := by
  refine Tl.succ ?_
  simp only [diaphonelaw03_AirBegins.j1]
  exact begins_loop a0 a1 a0 a1 e0 e1 c d m q hc hd hq q.length 0 q rfl (by omega) (by omega)
theorem AirBegins : ∀ (x0 : S24) (x1 : Int), (((Lit.int .i64 x0.f0).wf = true) ∧ ((Lit.int .i64 x0.f1).wf = true) ∧ ((∀ y ∈ x0.f2, (Lit.int .i64 y).wf = true) ∧ x0.f2.length ≤ maxLen) ∧ ((∀ y ∈ x0.f3, (Lit.int .i64 y).wf = true) ∧ x0.f3.length ≤ maxLen)) → ((Lit.int .i64 x1).wf = true) → ∃ k, diaphonelaw03_AirBegins.f k x0.f0 x0.f1 x0.f2 x0.f3 x1 = some true := by
  rintro ⟨a0, a1, c, d⟩ u _ _
  refine Tl.ex (g := fun k => diaphonelaw03_AirBegins.f k a0 a1 c d u) ?_
  unfold diaphonelaw03_AirBegins.f
  refine by_long (fun h1 h2 => ?_)
  refine Tl.bind' (ev_Copy a0 a1 (by omega) (by omega)) ?_
  simp only
  have firsts_any : ∃ r, Tl (fun k => air_Firsts.f k a0 a1 c d) r := by
    rcases vc_cases a0 a1 c d with ⟨hv, ok⟩ | ⟨hv, no⟩
    · obtain ⟨cs, bs, hf⟩ := firsts_ex ok
      exact ⟨_, ev_Firsts ok hf⟩
    · exact ⟨_, ev_Firsts_no (by omega) (by omega) (by omega)⟩
  have bad : ∀ e : Int, e ≠ 0 → Tl (fun k => diaphonelaw03_AirBegins.j0 k u e (e != e) a0 a1 c d a0 a1 c d 0 0 [] []) true := by
    intro e he
    refine Tl.succ ?_
    simp only [diaphonelaw03_AirBegins.j0]
    refine Tl.neg (by simp) ?_
    obtain ⟨r, hr⟩ := firsts_any
    rcases least_cases 0 0 (c := []) (d := []) (by simp) (by simp) with ⟨q, _⟩ | ⟨_, q⟩
    · exact absurd q (no_nil _ _ _)
    · exact Tl.bind q (Tl.bind hr (Tl.neg he (begins_end a0 a1 0 0 c d [] [] (by omega) (by omega) (by simp))))
  rcases vc_cases a0 a1 c d with ⟨hv, ok⟩ | ⟨hv, no⟩
  · have hn1 := ok.n1
    have hn2 := ok.n2
    have hcl := ok.cl
    by_cases g1 : 1 ≤ u ∧ u ≤ (d.length : Int)
    · obtain ⟨i, rfl⟩ : ∃ i : Nat, u = (i : Int) := ⟨u.toNat, by omega⟩
      have l1 : (c.take i).length = i := by rw [List.length_take]; omega
      have l2 : (d.take i).length = i := by rw [List.length_take]; omega
      have e1 : air_Begin.f a0 a1 c d (i : Int) = some (a0, a1, c.take i, d.take i, 0) := by
        unfold air_Begin.f
        rw [ev_Validate (by omega) (by omega), Option.bind_some, if_pos hv, ev_within, Option.bind_some, if_pos (decide_eq_true g1), ev_copied a0 a1 (by omega) (by omega), Option.bind_some]
        simp only
        rw [if_pos (by omega), if_pos (by omega), Int.toNat_natCast]
        unfold slices_Clone_int_int.f
        rw [if_pos (by omega), Option.bind_some, if_pos (by omega), if_pos (by omega), Option.bind_some]
      have e2 : Tl (fun k => diaphoneref03_Begin.f k a0 a1 c d (i : Int)) (a0, a1, c.take i, d.take i, 0) := by
        unfold diaphoneref03_Begin.f
        refine Tl.bind (ev_rValidate (by omega) (by omega)) (Tl.pos hv (Tl.bind' (ev_rwithin _ _ _) (Tl.pos (decide_eq_true g1) (Tl.bind' (a := (a0, a1, c.take i, d.take i)) ?_ Tl.now))))
        unfold diaphoneref03_CopyOf.f
        rw [if_pos (by omega), Int.toNat_natCast]
        exact ev_Copy a0 a1 (by omega) (by omega)
      have ok2 : Ok a0 a1 (c.take i) (d.take i) := ⟨ok.s0, ok.s1, ok.k0, ok.k1, by omega, by omega, by omega,
        fun j => by rw [fl_take]; split; exact ok.c0 j; decide, fun j => by rw [fl_take]; split; exact ok.c1 j; decide, fun j => by rw [fl_take]; split; exact ok.d0 j; decide, fun j => by rw [fl_take]; split; exact ok.d1 j; decide⟩
      refine Tl.bind' e1 (Tl.bind e2 (Tl.bind (ev_same _ _ (by show (c.take i).length ≤ 1000; omega) (by show (d.take i).length ≤ 1000; omega)) (Tl.pos rfl ?_)))
      refine Tl.succ ?_
      simp only [diaphonelaw03_AirBegins.j0]
      refine Tl.neg (by simp) ?_
      obtain ⟨cs, bs, hf⟩ := firsts_ex ok
      obtain ⟨cs2, bs2, hf2⟩ := firsts_ex ok2
      have hL2 := ev_Least ok2 hf2
      have hF2 := hf2.F
      rw [l2] at hL2 hF2
      have hlen := hf.l1
      refine Tl.bind hL2 (Tl.bind (ev_Firsts ok hf) (Tl.pos trivial (Tl.pos rfl (Tl.pos rfl (Tl.pos (by omega) (Tl.pos (by show (i : Int) < (cs.length : Int); omega) (Tl.pos (by omega) ?_)))))))
      have e3 : (fl cs2 i == rd cs (i : Int)) = true := by
        rw [rd_fl, beq_iff_eq]
        refine F_uniq (F_congr hF2 (fun j hj => ?_) (fun j hj => ?_)) (hf.F.le (by omega)) (Nat.le_refl i)
        · rw [fl_take, if_pos hj]
        · rw [fl_take, if_pos hj]
      rw [show (((fl cs2 i : Int), (0 : Int)).1 == rd ((cs, (0 : Int)).1) (i : Int)) = true from e3]
      exact begins_end a0 a1 a0 a1 c d _ _ (by omega) (by omega) (by omega)
    · have e1 : air_Begin.f a0 a1 c d u = some (0, 0, [], [], 1) := by
        unfold air_Begin.f
        rw [ev_Validate (by omega) (by omega), Option.bind_some, if_pos hv, ev_within, Option.bind_some, if_neg (by simpa using g1)]
      have e2 : Tl (fun k => diaphoneref03_Begin.f k a0 a1 c d u) (0, 0, [], [], 1) := by
        unfold diaphoneref03_Begin.f
        exact Tl.bind (ev_rValidate (by omega) (by omega)) (Tl.pos hv (Tl.bind' (ev_rwithin _ _ _) (Tl.neg (by simpa using g1) Tl.now)))
      exact Tl.bind' e1 (Tl.bind e2 (Tl.bind (ev_same _ _ (by simp) (by simp)) (Tl.pos rfl (bad 1 (by decide)))))
  · have e1 : air_Begin.f a0 a1 c d u = some (0, 0, [], [], 1) := by
      unfold air_Begin.f
      rw [ev_Validate (by omega) (by omega), Option.bind_some, if_neg (by omega), hv]
    have e2 : Tl (fun k => diaphoneref03_Begin.f k a0 a1 c d u) (0, 0, [], [], 1) := by
      unfold diaphoneref03_Begin.f
      exact (Tl.bind (ev_rValidate (by omega) (by omega)) (Tl.neg (by omega) Tl.now)).to (by rw [hv])
    exact Tl.bind' e1 (Tl.bind e2 (Tl.bind (ev_same _ _ (by simp) (by simp)) (Tl.pos rfl (bad 1 (by decide)))))
end Go.Proofs.Ytboefcikdfjfmaa.Pure
