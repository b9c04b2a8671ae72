/- Proved here: for every task and set of hours, the plan that pumps in them is as the document says, and it costs at least the least; it holds under no condition. -/
import Derived.Test.YtboefcikdfjfmaaKn
import Derived.Test.YtboefcikdfjfmaaAt
import Derived.Test.YtboefcikdfjfmaaPl
import Derived.Test.YtboefcikdfjfmaaPk
import Derived.Test.YtboefcikdfjfmaaSa
import Derived.Test.YtboefcikdfjfmaaPx45
import Derived.Test.YtboefcikdfjfmaaPx51
import Derived.Test.YtboefcikdfjfmaaPx51
import Derived.Test.YtboefcikdfjfmaaPx52
set_option linter.unusedVariables false
namespace Go.Proofs.Ytboefcikdfjfmaa.Pure
open Go.RowKit Go.Proofs.Ytboefcikdfjfmaa.P Go.Proofs.Ytboefcikdfjfmaa.E Go.Proofs.Ytboefcikdfjfmaa.Am Go.Proofs.Ytboefcikdfjfmaa.Va Go.Proofs.Ytboefcikdfjfmaa.Fi Go.Proofs.Ytboefcikdfjfmaa.Pn Go.Proofs.Ytboefcikdfjfmaa.At Go.Proofs.Ytboefcikdfjfmaa.Le Go.Proofs.Ytboefcikdfjfmaa.Ms Go.Proofs.Ytboefcikdfjfmaa.Kn Go.Proofs.YtboefcikdfjfmaaW.PrintMore Go.Proofs.YtboefcikdfjfmaaW.PrintWords
variable {a0 a1 : Int} {c d : List Int}
/-- An hour of a list is in its place. -/
def okl (l : List Int) (n j : Nat) : Prop := (0 ≤ fl l j ∧ fl l j ≤ (n : Int) - 1) ∧ (0 < j → fl l (j - 1) < fl l j)
def OkL (l : List Int) (n i : Nat) : Prop := ∀ j, i ≤ j → j < l.length → okl l n j
theorem OkL_succ {l : List Int} {n i : Nat} (hi : i < l.length) : OkL l n i ↔ okl l n i ∧ OkL l n (i + 1) := by
  constructor
  · exact fun h => ⟨h i (Nat.le_refl _) hi, fun j h1 h2 => h j (by omega) h2⟩
  · rintro ⟨h1, h2⟩ j h3 h4
    rcases Nat.lt_or_ge i j with c1 | c1
    · exact h2 j c1 h4
    · obtain rfl : j = i := by omega
      exact h1
theorem OkL.set {l : List Int} {n : Nat} (h : OkL l n 0) : Set l n := by
  refine ⟨fun i hi => (h i (Nat.zero_le _) hi).1.1, fun i hi => by have := (h i (Nat.zero_le _) hi).1.2; omega, fun i hi => ?_⟩
  have := (h (i + 1) (Nat.zero_le _) hi).2 (by omega)
  simpa using this
theorem at_list (ok : Ok a0 a1 c d) {l : List Int} (hll : l.length ≤ 1000) {r : List Int × Bool} (hr : OkL l d.length 0 → Atv a1 c d (mem l) r) (e : Nat) : ∀ i : Nat, i ≤ l.length → l.length - i = e → (∀ j, j < i → okl l d.length j) → ∀ v : List Int × Bool × Int,
    (OkL l d.length 0 → v = (r.1, r.2, 0)) → (¬ OkL l d.length 0 → v = ([], false, 1)) → Tl (fun k => air_At.l0 k l l (l.length : Int) (i : Int) a0 a1 c d) v := by
  have hn2 := ok.n2
  induction e with
  | zero =>
    intro i h1 h2 h3 v hy hn
    have hall : OkL l d.length 0 := fun j _ hj => h3 j (by omega)
    refine Tl.succ ?_
    simp only [air_At.l0]
    rw [hy hall]
    exact Tl.neg (by omega) (Tl.bind (ev_plan ok hall.set hll (hr hall)) Tl.now)
  | succ e ih =>
    intro i h1 h2 h3 v hy hn
    have hi : i < l.length := by omega
    have hw : wrap64 ((d.length : Int) - 1) = (d.length : Int) - 1 := w64 (by omega) (by omega)
    refine Tl.succ ?_
    simp only [air_At.l0]
    rw [hw, rd_fl]
    refine Tl.pos (by omega) (Tl.pos (by omega) (Tl.pos (by omega) (Tl.bind' (ev_within _ _ _) ?_)))
    have next : okl l d.length i → Tl (fun k => air_At.l0 k l l (l.length : Int) (wrap64 ((i : Int) + 1)) a0 a1 c d) v := by
      intro hk
      rw [w64 (by omega) (by omega)]
      refine ih (i + 1) (by omega) (by omega) (fun j hj => ?_) v hy hn
      rcases Nat.lt_or_ge j i with c1 | c1
      · exact h3 j c1
      · obtain rfl : j = i := by omega
        exact hk
    by_cases c1 : 0 ≤ fl l i ∧ fl l i ≤ (d.length : Int) - 1
    · refine Tl.pos (decide_eq_true c1) ?_
      by_cases c2 : (i : Int) > 0
      · have e1 : wrap64 ((i : Int) - 1) = ((i - 1 : Nat) : Int) := by rw [w64 (by omega) (by omega)]; omega
        rw [e1, rd_fl]
        refine Tl.pos c2 (Tl.pos (by omega) (Tl.pos (by omega) ?_))
        by_cases c3 : fl l i ≤ fl l (i - 1)
        · exact (Tl.pos c3 Tl.now).to (hn (fun q => by have := (q i (Nat.zero_le _) hi).2 (by omega); omega)).symm
        · exact Tl.neg c3 (next ⟨c1, fun _ => by omega⟩)
      · exact Tl.neg c2 (next ⟨c1, fun q => by omega⟩)
    · exact (Tl.neg (by simpa using c1) Tl.now).to (hn (fun q => c1 (q i (Nat.zero_le _) hi).1)).symm
theorem mask_list {l : List Int} {n : Nat} (hn0 : 1 ≤ n) (hn2 : n ≤ 12) (hll : l.length ≤ 1000) (e : Nat) : ∀ (i m : Nat), i ≤ l.length → l.length - i = e → (∀ j, j < i → okl l n j) → m < 2 ^ 12 → (∀ s, s < n → (m.testBit s = true ↔ ∃ j, j < i ∧ fl l j = s)) →
    (OkL l n 0 → ∃ q : Nat, q < 2 ^ 12 ∧ (∀ s, s < n → (q.testBit s = true ↔ ∃ j, j < l.length ∧ fl l j = s)) ∧ Tl (fun k => diaphoneref03_mask.l0 k l (n : Int) (m : Int) (i : Int)) ((q : Int), true)) ∧ (¬ OkL l n 0 → Tl (fun k => diaphoneref03_mask.l0 k l (n : Int) (m : Int) (i : Int)) (0, false)) := by
  induction e with
  | zero =>
    intro i m h1 h2 h3 h4 h5
    obtain rfl : i = l.length := by omega
    have hall : OkL l n 0 := fun j _ hj => h3 j hj
    refine ⟨fun _ => ⟨m, h4, h5, Tl.succ ?_⟩, fun q => absurd hall q⟩
    simp only [diaphoneref03_mask.l0]
    exact Tl.neg (by omega) Tl.now
  | succ e ih =>
    intro i m h1 h2 h3 h4 h5
    have hi : i < l.length := by omega
    have hw : wrap64 ((n : Int) - 1) = (n : Int) - 1 := w64 (by omega) (by omega)
    by_cases c1 : 0 ≤ fl l i ∧ fl l i ≤ (n : Int) - 1
    · obtain ⟨x, hx⟩ : ∃ x : Nat, fl l i = (x : Int) := ⟨(fl l i).toNat, by omega⟩
      have hx12 : x ≤ 12 := by omega
      have hm40 : m < 2 ^ 40 := by have : (2 : Nat) ^ 12 < 2 ^ 40 := by decide
                                   omega
      have hu : IntKind.u64.wrap (fl l i) = (x : Int) := by rw [hx]; exact u64_nat (by omega)
      have hpx : 2 ^ x < 2 ^ 12 := Nat.pow_lt_pow_right (by decide) (by omega)
      have hor := or_bit hm40 hx12
      have hlt : m ||| 2 ^ x < 2 ^ 12 := Nat.or_lt_two_pow h4 hpx
      have next : okl l n i → _ := fun hk => ih (i + 1) (m ||| 2 ^ x) (by omega) (by omega) (fun j hj => by
        rcases Nat.lt_or_ge j i with c1 | c1
        · exact h3 j c1
        · obtain rfl : j = i := by omega
          exact hk) hlt (fun s hs => by
        rw [Nat.testBit_or, Nat.testBit_two_pow, Bool.or_eq_true, h5 s hs, decide_eq_true_eq]
        constructor
        · rintro (⟨j, g1, g2⟩ | g)
          · exact ⟨j, by omega, g2⟩
          · exact ⟨i, by omega, by rw [hx, g]⟩
        · rintro ⟨j, g1, g2⟩
          rcases Nat.lt_or_ge j i with c1 | c1
          · exact .inl ⟨j, c1, g2⟩
          · obtain rfl : j = i := by omega
            exact .inr (by omega))
      have go : ∀ {r : Int × Bool}, okl l n i → Tl (fun k => diaphoneref03_mask.l0 k l (n : Int) (((m ||| 2 ^ x : Nat)) : Int) ((i + 1 : Nat) : Int)) r → Tl (fun k => diaphoneref03_mask.l0 k l (n : Int) (m : Int) (i : Int)) r := by
        intro r hk hr
        refine Tl.succ ?_
        simp only [diaphoneref03_mask.l0]
        rw [hw, rd_fl, hu, hor, w64 (x := (i : Int) + 1) (by omega) (by omega)]
        refine Tl.pos (by omega) (Tl.pos (by omega) (Tl.bind' (ev_rwithin _ _ _) (Tl.pos (decide_eq_true c1) ?_)))
        by_cases c2 : (i : Int) > 0
        · have e1 : wrap64 ((i : Int) - 1) = ((i - 1 : Nat) : Int) := by rw [w64 (by omega) (by omega)]; omega
          rw [e1, rd_fl]
          refine Tl.pos c2 (Tl.pos (by omega) (Tl.pos (by omega) (Tl.neg (by have := hk.2 (by omega); omega) (Tl.pos (by omega) hr))))
        · exact Tl.neg c2 (Tl.pos (by omega) hr)
      by_cases c2 : 0 < i → fl l (i - 1) < fl l i
      · obtain ⟨n1, n2⟩ := next ⟨c1, c2⟩
        refine ⟨fun q => ?_, fun q => go ⟨c1, c2⟩ (n2 q)⟩
        obtain ⟨z, z1, z2, z3⟩ := n1 q
        exact ⟨z, z1, z2, go ⟨c1, c2⟩ z3⟩
      · refine ⟨fun q => absurd (q i (Nat.zero_le _) hi).2 c2, fun _ => Tl.succ ?_⟩
        simp only [diaphoneref03_mask.l0]
        have c3 : 0 < i := Classical.byContradiction (fun q => c2 (fun q2 => absurd q2 q))
        have c4 : fl l i ≤ fl l (i - 1) := by
          rcases Int.lt_or_le (fl l (i - 1)) (fl l i) with q | q
          · exact absurd (fun _ => q) c2
          · exact q
        have e1 : wrap64 ((i : Int) - 1) = ((i - 1 : Nat) : Int) := by rw [w64 (by omega) (by omega)]; omega
        rw [hw, rd_fl, e1, rd_fl]
        exact Tl.pos (by omega) (Tl.pos (by omega) (Tl.bind' (ev_rwithin _ _ _) (Tl.pos (decide_eq_true c1) (Tl.pos (by omega) (Tl.pos (by omega) (Tl.pos (by omega) (Tl.pos c4 Tl.now)))))))
    · refine ⟨fun q => absurd (q i (Nat.zero_le _) hi).1 c1, fun _ => Tl.succ ?_⟩
      simp only [diaphoneref03_mask.l0]
      rw [hw, rd_fl]
      exact Tl.pos (by omega) (Tl.pos (by omega) (Tl.bind' (ev_rwithin _ _ _) (Tl.neg (by simpa using c1) Tl.now)))
theorem AirSets : ∀ (x0 : S24) (x1 : List Int), (((Lit.int .i64 x0.f0).wf = true) ∧ ((Lit.int .i64 x0.f1).wf = true) ∧ ((∀ y ∈ x0.f2, (Lit.int .i64 y).wf = true) ∧ x0.f2.length ≤ maxLen) ∧ ((∀ y ∈ x0.f3, (Lit.int .i64 y).wf = true) ∧ x0.f3.length ≤ maxLen)) → ((∀ y ∈ x1, (Lit.int .i64 y).wf = true) ∧ x1.length ≤ maxLen) → ∃ k, diaphonelaw03_AirSets.f k x0.f0 x0.f1 x0.f2 x0.f3 x1 = some true := by
  rintro ⟨a0, a1, c, d⟩ l _ _
  refine Tl.ex (g := fun k => diaphonelaw03_AirSets.f k a0 a1 c d l) ?_
  have j0t : Tl (fun k => diaphonelaw03_AirSets.j0 k l true a0 a1 c d) true := by
    refine Tl.succ ?_
    simp only [diaphonelaw03_AirSets.j0]
    exact Tl.pos trivial ev_known'
  unfold diaphonelaw03_AirSets.f
  refine Tl.bind' (ev_Long _ _ _ _) ?_
  by_cases h1 : 100 < c.length
  · exact Tl.pos (by simp [h1]) j0t
  by_cases h2 : 100 < d.length
  · exact Tl.pos (by simp [h2]) j0t
  refine Tl.neg (by simp [h1, h2]) (Tl.bind' (ev_large _) ?_)
  by_cases h3 : 100 < l.length
  · rw [decide_eq_true h3]; exact j0t
  rw [decide_eq_false h3]
  refine Tl.succ ?_
  simp only [diaphonelaw03_AirSets.j0]
  refine Tl.neg (by decide) ?_
  have bad : ∀ e : Int, Tl (fun k => air_At.f k a0 a1 c d l) ([], false, e) → Tl (fun k => diaphoneref03_At.f k a0 a1 c d l) ([], false, e) → Tl (fun k => (air_At.f k a0 a1 c d l).bind fun bt105 => ((diaphoneref03_At.f k a0 a1 c d l).bind fun bt110 => ((diaphoneref01_SameInts.f k bt105.1 bt110.1).bind fun t115 => (if t115 = true then (if (bt105.2.1 != bt110.2.1) = true then (diaphonelaw03_AirSets.j1 k bt105.1 bt105.2.1 true a0 a1 c d) else (diaphonelaw03_AirSets.j1 k bt105.1 bt105.2.1 (bt105.2.2 != bt110.2.2) a0 a1 c d)) else (diaphonelaw03_AirSets.j1 k bt105.1 bt105.2.1 true a0 a1 c d))))) true := by
    intro e e1 e2
    refine Tl.bind e1 (Tl.bind e2 (Tl.bind (ev_Same (by simp)) (Tl.pos (by simp) (Tl.neg (by simp) ?_))))
    refine Tl.succ ?_
    simp only [diaphonelaw03_AirSets.j1]
    exact Tl.neg (by simp) (Tl.neg (by decide) ev_known')
  rcases vc_cases a0 a1 c d with ⟨hv, ok⟩ | ⟨hv, no⟩
  · have hn1 := ok.n1
    have hn2 := ok.n2
    have hm0 := mask_list (l := l) hn1 hn2 (by omega) l.length 0 0 (by omega) (by omega) (fun j hj => by omega) (by decide) (fun s hs => ⟨fun q => by simp at q, fun ⟨j, q, _⟩ => by omega⟩)
    by_cases hs : OkL l d.length 0
    · obtain ⟨q, q1, q2, q3⟩ := hm0.1 hs
      obtain ⟨r, hr⟩ := Atv_ex a1 c d (mem l)
      have hp12 : (2 : Nat) ^ 12 < 2 ^ 40 := by decide
      have hbm : ∀ s, s < d.length → bit (q : Int) s = mem l s := by
        intro s hsn
        rw [bit_nat (by omega) (by omega)]
        have h5 := q2 s hsn
        cases hb : q.testBit s with
        | true => exact (mem_iff.2 (h5.1 hb)).symm
        | false =>
          cases hb2 : mem l s with
          | false => rfl
          | true => rw [h5.2 (mem_iff.1 hb2)] at hb; cases hb
      have e1 : Tl (fun k => air_At.f k a0 a1 c d l) (r.1, r.2, 0) := by
        unfold air_At.f
        exact Tl.bind' (ev_Validate (by omega) (by omega)) (Tl.pos hv (at_list ok (by omega) (fun _ => hr) l.length 0 (by omega) (by omega) (fun j hj => by omega) _ (fun _ => rfl) (fun q => absurd hs q)))
      have e2 : Tl (fun k => diaphoneref03_At.f k a0 a1 c d l) (r.1, r.2, 0) := by
        unfold diaphoneref03_At.f diaphoneref03_mask.f
        exact Tl.bind (ev_rValidate (by omega) (by omega)) (Tl.pos hv (Tl.bind q3 (Tl.pos rfl (Tl.bind (ev_at ok (q : Int) ((Atv_congr hbm).2 hr)) Tl.now))))
      by_cases hok : okA a1 (fl c) (fl d) (mem l) d.length
      · have hr1 := hr.1 hok
        have hlen := pxl_len (a1 := a1) (c := c) (d := d) (mem l) d.length
        rw [hr1] at e1 e2
        refine Tl.bind e1 (Tl.bind e2 (Tl.bind (ev_Same (by show (pxl a1 c d (mem l) d.length).length ≤ 1000; omega)) (Tl.pos (by simp) (Tl.neg (by simp) ?_))))
        refine Tl.succ ?_
        simp only [diaphonelaw03_AirSets.j1]
        refine Tl.neg (by simp) (Tl.pos trivial ?_)
        obtain ⟨fs, bs, hf⟩ := firsts_ex ok
        have hal := at_allb ok (mem l)
        have hri := right_of (at_pl ok hok)
        have hpe : Pe d (pxl a1 c d (mem l) d.length) 0 := And.intro (fun h => by rw [hal] at h; cases h) (And.intro (fun _ _ => rfl) (fun _ h => absurd hri h))
        have e3 := ev_CheckPlan ok (by omega) hpe
        unfold cpv at e3
        rw [if_pos rfl] at e3
        exact Tl.bind e3 (Tl.bind (ev_Least ok hf) (Tl.pos rfl (Tl.pos rfl (Tl.pos (cm_ge ok hf.F hok) ev_known'))))
      · rw [hr.2 hok] at e1 e2
        exact bad 0 e1 e2
    · refine bad 1 ?_ ?_
      · unfold air_At.f
        exact Tl.bind' (ev_Validate (by omega) (by omega)) (Tl.pos hv (at_list ok (by omega) (r := ([], false)) (fun q => absurd q hs) l.length 0 (by omega) (by omega) (fun j hj => by omega) _ (fun q => absurd q hs) (fun _ => rfl)))
      · unfold diaphoneref03_At.f diaphoneref03_mask.f
        exact Tl.bind (ev_rValidate (by omega) (by omega)) (Tl.pos hv (Tl.bind (hm0.2 hs) (Tl.neg (by decide) Tl.now)))
  · refine bad 1 ?_ ?_
    · unfold air_At.f
      exact (Tl.bind' (ev_Validate (by omega) (by omega)) (Tl.neg (by omega) Tl.now)).to (by rw [hv])
    · unfold diaphoneref03_At.f
      exact (Tl.bind (ev_rValidate (by omega) (by omega)) (Tl.neg (by omega) Tl.now)).to (by rw [hv])
end Go.Proofs.Ytboefcikdfjfmaa.Pure
