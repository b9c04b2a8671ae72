/- Proved here: for every task and number, the task with all needs and the start multiplied is as the document says, and its least cost is multiplied by as much; it holds under no condition. -/
import Derived.Test.YtboefcikdfjfmaaKn
import Derived.Test.YtboefcikdfjfmaaCm
import Derived.Test.YtboefcikdfjfmaaKt
import Derived.Test.YtboefcikdfjfmaaPx32
import Derived.Test.YtboefcikdfjfmaaPx33
import Derived.Test.YtboefcikdfjfmaaPx34
set_option linter.unusedVariables false
namespace Go.Proofs.Ytboefcikdfjfmaa.Pure
open Go.RowKit Go.Proofs.Ytboefcikdfjfmaa.P Go.Proofs.Ytboefcikdfjfmaa.E Go.Proofs.Ytboefcikdfjfmaa.Am Go.Proofs.Ytboefcikdfjfmaa.Va Go.Proofs.Ytboefcikdfjfmaa.Fi Go.Proofs.Ytboefcikdfjfmaa.Cm Go.Proofs.Ytboefcikdfjfmaa.Kn Go.Proofs.YtboefcikdfjfmaaW.PrintMore Go.Proofs.YtboefcikdfjfmaaW.PrintWords
/-- A number multiplied, as the program does it; -1 out of range. -/
def pv (n b m : Int) : Int := if n = 0 then 0 else if 0 ≤ b ∧ b ≤ m then n * b else -1
def cl (b : Int) : Int := max (-2000) (min b 2000)
theorem ev_product {n b m : Int} (h0 : 0 ≤ n) (h1 : n ≤ 999) (hm : m ≤ 999) : air_product.f n b m = some (pv n b m) := by
  unfold air_product.f pv
  rw [ev_within]
  by_cases c1 : n = 0
  · rw [if_pos c1, if_pos c1]
  · rw [if_neg c1, if_neg c1, Option.bind_some]
    by_cases c2 : 0 ≤ b ∧ b ≤ m
    · have := mul_bound (A := 999) (B := 999) h0 h1 c2.1 (show b ≤ 999 by omega)
      rw [if_pos c2, if_pos (decide_eq_true c2), w64 (by omega) (by omega)]
    · rw [if_neg c2, if_neg (by simpa using c2)]
theorem pv_cases {n b m : Int} (h0 : 0 ≤ n) (hm0 : 0 ≤ m) (hm : m ≤ 1999) : pv n b m = n * cl b ∨ (pv n b m = -1 ∧ (n * cl b < 0 ∨ n * cl b > m)) := by
  unfold pv cl
  by_cases c1 : n = 0
  · subst c1; simp
  · rw [if_neg c1]
    by_cases c2 : 0 ≤ b ∧ b ≤ m
    · rw [if_pos c2, show max (-2000) (min b 2000) = b by omega]; exact .inl rfl
    · rw [if_neg c2]
      refine .inr ⟨rfl, ?_⟩
      by_cases c3 : b < 0
      · have h2 : n * max (-2000) (min b 2000) ≤ n * (-1) := Int.mul_le_mul_of_nonneg_left (by omega) h0
        omega
      · have h2 : 1 * max (-2000) (min b 2000) ≤ n * max (-2000) (min b 2000) := Int.mul_le_mul_of_nonneg_right (by omega) (by omega)
        omega
theorem pv_nonneg {n b m : Int} (h : 0 ≤ pv n b m) (hn : n ≠ 0) : 0 ≤ b ∧ b ≤ m := by
  unfold pv at h
  rw [if_neg hn] at h
  split at h
  · assumption
  · omega
variable {a0 a1 : Int} {c d : List Int}
/-- The needs, each turned. -/
def tn (d : List Int) (g : Int → Int) : List Int := (List.range d.length).map fun i => g (fl d i)
theorem tn_len (d : List Int) (g : Int → Int) : (tn d g).length = d.length := by simp [tn]
theorem tn_fl (d : List Int) (g : Int → Int) (hg : g 0 = 0) (i : Nat) : fl (tn d g) i = g (fl d i) := by
  unfold tn
  rw [fl_range]
  by_cases c1 : i < d.length
  · rw [if_pos c1]
  · rw [if_neg c1, fl_ge (by omega), hg]
theorem scale_loop (ok : Ok a0 a1 c d) (S b : Int) (e : Nat) : ∀ (i : Nat) (l : List Int), l.length = d.length → i ≤ d.length → d.length - i = e → (∀ j, fl l j = if j < i then pv (fl d j) b 50 else fl d j) →
    Tl (fun k => air_Scale.l0 k b (d.length : Int) (i : Int) S a1 c l) (told S a1 c (tn d fun n => pv n b 50)) := by
  have hn2 := ok.n2
  have hcl := ok.cl
  induction e with
  | zero =>
    intro i l hl h1 h2 h3
    obtain rfl : i = d.length := by omega
    refine Tl.succ ?_
    simp only [air_Scale.l0]
    refine Tl.neg (by omega) ?_
    have e1 : l = tn d fun n => pv n b 50 := list_ext (by rw [tn_len, hl]) (fun j hj => by rw [h3, if_pos (by omega), tn_fl d _ rfl])
    rw [e1]
    exact Tl.bind' (ev_checked (by omega) (by rw [tn_len]; omega)) Tl.now
  | succ e ih =>
    intro i l hl h1 h2 h3
    have hi : i < d.length := by omega
    refine Tl.succ ?_
    simp only [air_Scale.l0]
    refine Tl.pos (by omega) (Tl.pos (by omega) (Tl.pos (by omega) ?_))
    have e1 : rd l (i : Int) = fl d i := by rw [rd_fl, h3, if_neg (by omega)]
    rw [e1]
    refine Tl.bind' (ev_product (ok.d0 i) (by have := ok.d1 i; omega) (by decide)) ?_
    rw [Int.toNat_natCast, w64 (by omega) (by omega)]
    refine ih (i + 1) _ (by simpa using hl) (by omega) (by omega) (fun j => ?_)
    rw [fl_set j _ (by omega)]
    by_cases c1 : j = i
    · subst c1; rw [if_pos rfl, if_pos (by omega)]
    · rw [if_neg c1, h3]
      by_cases c2 : j < i
      · rw [if_pos c2, if_pos (by omega)]
      · rw [if_neg c2, if_neg (by omega)]
theorem cl_bound (b : Int) : -2000 ≤ cl b ∧ cl b ≤ 2000 := by unfold cl; omega
theorem rmul (n b : Int) (h0 : 0 ≤ n) (h1 : n ≤ 999) : wrap64 (n * cl b) = n * cl b := by
  have h2 := cl_bound b
  have h3 : n * cl b ≤ n * 2000 := Int.mul_le_mul_of_nonneg_left h2.2 h0
  have h4 : n * (-2000) ≤ n * cl b := Int.mul_le_mul_of_nonneg_left h2.1 h0
  exact w64 (by omega) (by omega)
theorem rscale_loop (ok : Ok a0 a1 c d) (S b : Int) (e : Nat) : ∀ (i : Nat) (l : List Int), l.length = d.length → i ≤ d.length → d.length - i = e → (∀ j, fl l j = if j < i then fl d j * cl b else fl d j) →
    Tl (fun k => diaphoneref03_Scale.l0 k (cl b) (i : Int) S a1 c l) (told S a1 c (tn d fun n => n * cl b)) := by
  have hn2 := ok.n2
  have hcl := ok.cl
  induction e with
  | zero =>
    intro i l hl h1 h2 h3
    obtain rfl : i = d.length := by omega
    refine Tl.succ ?_
    simp only [diaphoneref03_Scale.l0]
    refine Tl.neg (by omega) ?_
    have e1 : l = tn d fun n => n * cl b := list_ext (by rw [tn_len, hl]) (fun j hj => by rw [h3, if_pos (by omega), tn_fl d (fun n => n * cl b) (Int.zero_mul _)])
    rw [e1]
    exact Tl.bind (ev_told (by omega) (by rw [tn_len]; omega)) Tl.now
  | succ e ih =>
    intro i l hl h1 h2 h3
    have hi : i < d.length := by omega
    refine Tl.succ ?_
    simp only [diaphoneref03_Scale.l0]
    refine Tl.pos (by omega) (Tl.pos (by omega) ?_)
    have e1 : rd l (i : Int) = fl d i := by rw [rd_fl, h3, if_neg (by omega)]
    rw [e1, rmul _ b (ok.d0 i) (by have := ok.d1 i; omega), Int.toNat_natCast, w64 (by omega) (by omega)]
    refine ih (i + 1) _ (by simpa using hl) (by omega) (by omega) (fun j => ?_)
    rw [fl_set j _ (by omega)]
    by_cases c1 : j = i
    · subst c1; rw [if_pos rfl, if_pos (by omega)]
    · rw [if_neg c1, h3]
      by_cases c2 : j < i
      · rw [if_pos c2, if_pos (by omega)]
      · rw [if_neg c2, if_neg (by omega)]
theorem scale_eq (ok : Ok a0 a1 c d) (b : Int) : (Ok (pv a0 b 999) a1 c (tn d fun n => pv n b 50) ∧ pv a0 b 999 = a0 * cl b ∧ tn d (fun n => pv n b 50) = tn d fun n => n * cl b) ∨ (¬ Ok (pv a0 b 999) a1 c (tn d fun n => pv n b 50) ∧ ¬ Ok (a0 * cl b) a1 c (tn d fun n => n * cl b)) := by
  have hS := pv_cases (b := b) ok.s0 (m := 999) (by decide) (by decide)
  have hD := fun i => pv_cases (b := b) (ok.d0 i) (m := 50) (by decide) (by decide)
  have f1 := tn_fl d (fun n => pv n b 50) rfl
  have f2 := tn_fl d (fun n => n * cl b) (Int.zero_mul _)
  by_cases h1 : Ok (pv a0 b 999) a1 c (tn d fun n => pv n b 50)
  · refine .inl ⟨h1, ?_, list_ext (by rw [tn_len, tn_len]) (fun i _ => ?_)⟩
    · have := h1.s0
      rcases hS with h | h
      · exact h
      · omega
    · have := h1.d0 i
      rw [f1] at this ⊢
      rw [f2]
      rcases hD i with h | h
      · exact h
      · omega
  · refine .inr ⟨h1, fun h2 => h1 ?_⟩
    have e1 : pv a0 b 999 = a0 * cl b := by
      have := h2.s0
      have := h2.s1
      rcases hS with h | h
      · exact h
      · omega
    have e2 : tn d (fun n => pv n b 50) = tn d fun n => n * cl b := list_ext (by rw [tn_len, tn_len]) (fun i _ => by
      have h3 := h2.d0 i
      have h4 := h2.d1 i
      rw [f2] at h3 h4
      rw [f1, f2]
      rcases hD i with h | h
      · exact h
      · omega)
    rw [e1, e2]
    exact h2
theorem AirScales : ∀ (x0 : S24) (x1 : Int), (((Lit.int .i64 x0.f0).wf = true) ∧ ((Lit.int .i64 x0.f1).wf = true) ∧ ((∀ y ∈ x0.f2, (Lit.int .i64 y).wf = true) ∧ x0.f2.length ≤ maxLen) ∧ ((∀ y ∈ x0.f3, (Lit.int .i64 y).wf = true) ∧ x0.f3.length ≤ maxLen)) → ((Lit.int .i64 x1).wf = true) → ∃ k, diaphonelaw03_AirScales.f k x0.f0 x0.f1 x0.f2 x0.f3 x1 = some true := by
  rintro ⟨a0, a1, c, d⟩ b _ _
  refine Tl.ex (g := fun k => diaphonelaw03_AirScales.f k a0 a1 c d b) ?_
  unfold diaphonelaw03_AirScales.f
  refine by_long (fun h1 h2 => ?_)
  have bad : ∀ e : Int, e ≠ 0 → Tl (fun k => air_Scale.f k a0 a1 c d b) (0, 0, [], [], e) → Tl (fun k => diaphoneref03_Scale.f k a0 a1 c d b) (0, 0, [], [], e) → Tl (fun k => (air_Scale.f k a0 a1 c d b).bind fun bt104 => ((diaphoneref03_Scale.f k a0 a1 c d b).bind fun bt114 => ((diaphoneref03_Same.f k bt104.1 bt104.2.1 bt104.2.2.1 bt104.2.2.2.1 bt114.1 bt114.2.1 bt114.2.2.1 bt114.2.2.2.1).bind fun t124 => (if t124 = true then (diaphonelaw03_AirScales.j0 k b bt104.2.2.2.2 (bt104.2.2.2.2 != bt114.2.2.2.2) a0 a1 c d bt104.1 bt104.2.1 bt104.2.2.1 bt104.2.2.2.1) else (diaphonelaw03_AirScales.j0 k b bt104.2.2.2.2 true a0 a1 c d bt104.1 bt104.2.1 bt104.2.2.1 bt104.2.2.2.1))))) true := by
    intro e he e1 e2
    refine Tl.bind e1 (Tl.bind e2 (Tl.bind (ev_same _ _ (by simp) (by simp)) (Tl.pos rfl ?_)))
    refine Tl.succ ?_
    simp only [diaphonelaw03_AirScales.j0]
    exact Tl.neg (by simp) (Tl.neg he ev_known')
  rcases vc_cases a0 a1 c d with ⟨hv, ok⟩ | ⟨hv, no⟩
  · have hn2 := ok.n2
    have hcl := ok.cl
    have e1 : Tl (fun k => air_Scale.f k a0 a1 c d b) (told (pv a0 b 999) a1 c (tn d fun n => pv n b 50)) := by
      unfold air_Scale.f
      refine Tl.bind' (ev_Validate (by omega) (by omega)) (Tl.pos hv (Tl.bind' (ev_copied a0 a1 (by omega) (by omega)) (Tl.bind' (ev_product ok.s0 ok.s1 (by decide)) ?_)))
      exact scale_loop ok _ b d.length 0 d rfl (by omega) (by omega) (fun j => by rw [if_neg (by omega)])
    have e2 : Tl (fun k => diaphoneref03_Scale.f k a0 a1 c d b) (told (a0 * cl b) a1 c (tn d fun n => n * cl b)) := by
      unfold diaphoneref03_Scale.f
      refine Tl.bind (ev_rValidate (by omega) (by omega)) (Tl.pos hv (Tl.bind' (ev_Copy a0 a1 (by omega) (by omega)) ?_))
      simp only
      rw [show mx (-2000) (mn b 2000) = cl b by rw [mx_eq, mn_eq]; rfl, rmul _ b ok.s0 ok.s1]
      exact rscale_loop ok _ b d.length 0 d rfl (by omega) (by omega) (fun j => by rw [if_neg (by omega)])
    rcases scale_eq ok b with ⟨ok2, s1, s2⟩ | ⟨n1, n2⟩
    · rw [← s1, ← s2] at e2
      rw [told_ok ok2] at e1 e2
      have hl2 := tn_len d (fun n => pv n b 50)
      refine Tl.bind e1 (Tl.bind e2 (Tl.bind (ev_same _ _ (by first | omega | (dsimp only; omega)) (by first | omega | (dsimp only; omega))) (Tl.pos rfl ?_)))
      refine Tl.succ ?_
      simp only [diaphonelaw03_AirScales.j0]
      refine Tl.neg (by simp) (Tl.pos trivial ?_)
      obtain ⟨fs, bs, hf⟩ := firsts_ex ok
      obtain ⟨fs2, bs2, hf2⟩ := firsts_ex ok2
      have hF2 := hf2.F
      have hL2 := ev_Least ok2 hf2
      rw [hl2] at hF2 hL2
      have hfl := tn_fl d (fun n => pv n b 50) rfl
      refine Tl.bind (ev_Least ok hf) (Tl.bind hL2 (Tl.pos rfl (Tl.pos rfl ?_)))
      simp only
      by_cases hz : a0 = 0 ∧ ∀ i, i < d.length → fl d i = 0
      · have z1 : fl fs d.length = 0 := by
          have h := F_scale hf.F 0 (Int.le_refl _)
          rw [show (0 : Int) * a0 = a0 by omega] at h
          have h3 := F_congr (d' := fl d) h (fun _ _ => rfl) (fun i hi => by rw [hz.2 i hi]; simp)
          have := F_uniq hf.F h3 (Nat.le_refl _)
          simpa using this
        have z2 : fl fs2 d.length = 0 := by
          have h := F_scale hf.F 0 (Int.le_refl _)
          rw [show (0 : Int) * a0 = pv a0 b 999 by rw [hz.1]; simp [pv]] at h
          have h3 := F_congr (d' := fl (tn d fun n => pv n b 50)) h (fun _ _ => rfl) (fun i hi => by rw [hfl, hz.2 i hi]; simp [pv])
          have := F_uniq hF2 h3 (Nat.le_refl _)
          simpa using this
        exact Tl.pos z1 (Tl.pos z2 ev_known')
      · have hb : 0 ≤ b ∧ b ≤ 999 := by
          by_cases c1 : a0 = 0
          · have : ∃ i, i < d.length ∧ fl d i ≠ 0 := by
              refine Classical.byContradiction (fun q => hz ⟨c1, fun i hi => Classical.byContradiction (fun q2 => q ⟨i, hi, q2⟩)⟩)
            obtain ⟨i, hi, hd⟩ := this
            have h3 := ok2.d0 i
            rw [hfl] at h3
            have := pv_nonneg h3 hd
            omega
          · exact pv_nonneg ok2.s0 c1
        have hcb : cl b = b := by unfold cl; omega
        have h := F_scale hf.F b hb.1
        rw [show b * a0 = pv a0 b 999 by rw [s1, hcb, Int.mul_comm]] at h
        have h3 := F_congr (d' := fl (tn d fun n => pv n b 50)) h (fun _ _ => rfl) (fun i hi => by
          rw [s2, tn_fl d (fun n => n * cl b) (Int.zero_mul _), hcb, Int.mul_comm])
        have hu : fl fs2 d.length = b * fl fs d.length := F_uniq hF2 h3 (Nat.le_refl _)
        have hle := hf.le d.length (Nat.le_refl _)
        have hm := mul_bound (A := 157000) (B := 999) hle.1 hle.2 hb.1 hb.2
        have fin : ∀ {g : Nat → Option Bool}, Tl (fun k => if b ≥ 0 then (if b ≤ 2000 then (if fl fs2 d.length = wrap64 (fl fs d.length * b) then ((diaphonelaw03_known.f k).bind fun t132 => (some t132)) else (none)) else (none)) else (none)) true := by
          intro g
          refine Tl.pos (by omega) (Tl.pos (by omega) (Tl.pos ?_ ev_known'))
          rw [w64 (by omega) (by omega), hu, Int.mul_comm]
        by_cases c1 : fl fs d.length = 0
        · refine Tl.pos c1 ?_
          by_cases c2 : fl fs2 d.length = 0
          · exact Tl.pos c2 ev_known'
          · exact Tl.neg c2 (fin (g := fun _ => none))
        · exact Tl.neg c1 (fin (g := fun _ => none))
    · rw [told_no n1] at e1
      rw [told_no n2] at e2
      exact bad 1 (by decide) e1 e2
  · refine bad 1 (by decide) ?_ ?_
    · unfold air_Scale.f
      exact (Tl.bind' (ev_Validate (by omega) (by omega)) (Tl.neg (by omega) Tl.now)).to (by rw [hv])
    · unfold diaphoneref03_Scale.f
      exact (Tl.bind (ev_rValidate (by omega) (by omega)) (Tl.neg (by omega) Tl.now)).to (by rw [hv])
end Go.Proofs.Ytboefcikdfjfmaa.Pure
