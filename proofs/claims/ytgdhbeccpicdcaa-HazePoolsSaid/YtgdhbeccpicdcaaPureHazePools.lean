/- Readings of which two are pooled: the best row stays. -/
import Derived.Test.YtgdhbeccpicdcaaRa
import Derived.Test.YtgdhbeccpicdcaaRb
import Derived.Test.YtgdhbeccpicdcaaMe
import Derived.Test.YtgdhbeccpicdcaaPx55
import Derived.Test.YtgdhbeccpicdcaaPx54
import Derived.Test.YtgdhbeccpicdcaaPx56
set_option linter.unusedVariables false
namespace Go.Proofs.Ytgdhbeccpicdcaa.Po
open Go.RowKit Go.Proofs.Ytgdhbeccpicdcaa.P Go.Proofs.Ytgdhbeccpicdcaa.E Go.Proofs.Ytgdhbeccpicdcaa.Fr Go.Proofs.Ytgdhbeccpicdcaa.Sd Go.Proofs.Ytgdhbeccpicdcaa.Bl Go.Proofs.Ytgdhbeccpicdcaa.Va Go.Proofs.Ytgdhbeccpicdcaa.Be Go.Proofs.Ytgdhbeccpicdcaa.Kn Go.Proofs.Ytgdhbeccpicdcaa.Ra Go.Proofs.YtgdhbeccpicdcaaW.PrintMore
open Go.Proofs.YtgdhbeccpicdcaaW.PrintWords
/-- Two readings get the same value. -/
def pl (h : List S31) (i : Nat) (m : Int) : List S31 := (h.set i ⟨m, (rd_T31 h (i : Int)).f1⟩).set (i + 1) ⟨m, (rd_T31 h ((i + 1 : Nat) : Int)).f1⟩
theorem pl_length (h : List S31) (i : Nat) (m : Int) : (pl h i m).length = h.length := by simp [pl]
theorem pl_rd {h : List S31} {i : Nat} (m : Int) {j : Nat} (hj : j < h.length) : rd_T31 (pl h i m) (j : Int) = if j = i ∨ j = i + 1 then ⟨m, (rd_T31 h (j : Int)).f1⟩ else rd_T31 h (j : Int) := by
  rw [rd31 (by rw [pl_length]; exact hj), rd31 hj]
  simp only [pl, List.getElem_set]
  by_cases e1 : i + 1 = j
  · subst e1
    rw [if_pos rfl, if_pos (.inr rfl), rd31 hj]
  · rw [if_neg e1]
    by_cases e2 : i = j
    · subst e2
      rw [if_pos rfl, if_pos (.inl rfl), rd31 hj]
    · rw [if_neg e2, if_neg (by omega)]
theorem pl_ok {h : List S31} (ok : Ok h) {i : Nat} {m : Int} (hm : 0 ≤ m ∧ m ≤ 100) : Ok (pl h i m) := by
  refine ⟨by rw [pl_length]; exact ok.1, by rw [pl_length]; exact ok.2.1, fun j hj => ?_⟩
  rw [pl_length] at hj
  rw [pl_rd m hj]
  have := ok.2.2 j hj
  by_cases c : j = i ∨ j = i + 1
  · rw [if_pos c]
    simp only [rok] at this ⊢
    omega
  · rw [if_neg c]; exact this
theorem pl_sw {h : List S31} {i : Nat} {m : Int} : ∀ x : Nat, x ≤ h.length → sw (pl h i m) x = sw h x := by
  intro x
  induction x with
  | zero => intro _; rfl
  | succ x ih =>
    intro hx
    show sw (pl h i m) x + (rd_T31 (pl h i m) (x : Int)).f1 = sw h x + (rd_T31 h (x : Int)).f1
    rw [ih (by omega), pl_rd m (by omega)]
    by_cases c : x = i ∨ x = i + 1
    · rw [if_pos c]
    · rw [if_neg c]
/-- The sums stay, but for the one between the two. -/
theorem pl_sv {h : List S31} {i : Nat} {m : Int} (hi : i + 1 < h.length) (hm : m * (sw h (i + 2) - sw h i) = sv h (i + 2) - sv h i) :
    ∀ x : Nat, x ≤ h.length → sv (pl h i m) x = if x = i + 1 then sv h i + (sw h (i + 1) - sw h i) * m else sv h x := by
  have s1 : sv h (i + 1) = sv h i + (rd_T31 h (i : Int)).f1 * (rd_T31 h (i : Int)).f0 := rfl
  have s2 : sv h (i + 2) = sv h (i + 1) + (rd_T31 h ((i + 1 : Nat) : Int)).f1 * (rd_T31 h ((i + 1 : Nat) : Int)).f0 := rfl
  have w1 : sw h (i + 1) = sw h i + (rd_T31 h (i : Int)).f1 := rfl
  have w2 : sw h (i + 2) = sw h (i + 1) + (rd_T31 h ((i + 1 : Nat) : Int)).f1 := rfl
  intro x
  induction x with
  | zero => intro _; rw [if_neg (by omega)]; rfl
  | succ x ih =>
    intro hx
    show sv (pl h i m) x + (rd_T31 (pl h i m) (x : Int)).f1 * (rd_T31 (pl h i m) (x : Int)).f0 = _
    rw [ih (by omega), pl_rd m (by omega)]
    by_cases c1 : x = i
    · subst c1
      rw [if_neg (by omega), if_pos (.inl rfl), if_pos rfl]
      show sv h x + (rd_T31 h (x : Int)).f1 * m = _
      rw [w1, show sw h x + (rd_T31 h (x : Int)).f1 - sw h x = (rd_T31 h (x : Int)).f1 by omega]
    · by_cases c2 : x = i + 1
      · subst c2
        rw [if_pos rfl, if_pos (.inr rfl), if_neg (by omega)]
        show sv h i + (sw h (i + 1) - sw h i) * m + (rd_T31 h ((i + 1 : Nat) : Int)).f1 * m = sv h (i + 2)
        have : (sw h (i + 1) - sw h i) * m + (rd_T31 h ((i + 1 : Nat) : Int)).f1 * m = m * (sw h (i + 2) - sw h i) := by
          rw [← Int.add_mul, Int.mul_comm]
          congr 1
          omega
        omega
      · rw [if_neg c2, if_neg (by omega), if_neg (by omega)]
        rfl
theorem Sad.scale {sv sw : Nat → Int} {n i : Nat} {p q p' q' : Int} (h : Sad sv sw n i p q) (hq : 0 < q) (hq' : 0 < q') (e : p * q' = p' * q) : Sad sv sw n i p' q' := by
  obtain ⟨f, t, hf, ht, htn, he, hm⟩ := h
  have key : ∀ x, q * (q' * sv x - p' * sw x) = q' * (q * sv x - p * sw x) := by
    intro x
    rw [Int.mul_sub, Int.mul_sub, ← Int.mul_assoc, ← Int.mul_assoc, ← Int.mul_assoc, ← Int.mul_assoc, Int.mul_comm q q', Int.mul_comm q p', ← e, Int.mul_comm p q']
  refine ⟨f, t, hf, ht, htn, ?_, fun x hx => ?_⟩
  · have h1 := key t
    have h2 := key f
    rw [he, ← h2] at h1
    exact Int.eq_of_mul_eq_mul_left (by omega) h1
  · have h1 := key x
    have h2 := key f
    have h3 := Int.mul_le_mul_of_nonneg_left (hm x hx) (show 0 ≤ q' by omega)
    rw [← h1, ← h2] at h3
    exact Int.le_of_mul_le_mul_left h3 hq
/-- The best row of pooled readings is the best row. -/
theorem pl_best {h : List S31} (ok : Ok h) {i : Nat} {m : Int} (hi : i + 1 < h.length) (hlt : (rd_T31 h (i : Int)).f0 < (rd_T31 h ((i + 1 : Nat) : Int)).f0) (hm : m * (sw h (i + 2) - sw h i) = sv h (i + 2) - sv h i)
    {l : List S33} (hb : IsBest h l) : IsBest (pl h i m) l := by
  have s1 : sv h (i + 1) = sv h i + (rd_T31 h (i : Int)).f1 * (rd_T31 h (i : Int)).f0 := rfl
  have s2 : sv h (i + 2) = sv h (i + 1) + (rd_T31 h ((i + 1 : Nat) : Int)).f1 * (rd_T31 h ((i + 1 : Nat) : Int)).f0 := rfl
  have w1 : sw h (i + 1) = sw h i + (rd_T31 h (i : Int)).f1 := rfl
  have w2 : sw h (i + 2) = sw h (i + 1) + (rd_T31 h ((i + 1 : Nat) : Int)).f1 := rfl
  have r0 := ok.2.2 i (by omega)
  have r1 := ok.2.2 (i + 1) hi
  simp only [rok] at r0 r1
  generalize (rd_T31 h (i : Int)).f1 = a at s1 w1 r0
  generalize (rd_T31 h (i : Int)).f0 = u at s1 hlt r0
  generalize (rd_T31 h ((i + 1 : Nat) : Int)).f1 = b at s2 w2 r1
  generalize (rd_T31 h ((i + 1 : Nat) : Int)).f0 = v at s2 hlt r1
  have hsv := pl_sv (m := m) hi hm
  have hsw := pl_sw (h := h) (i := i) (m := m)
  have hab : m * (a + b) = a * u + b * v := by
    have : sw h (i + 2) - sw h i = a + b := by omega
    rw [this] at hm
    omega
  refine ⟨by rw [pl_length]; exact hb.1, fun j hj => ?_⟩
  have hjn : j < h.length := by rw [← hb.1]; exact hj
  obtain ⟨A, B, hA, hB, hBn, hs, he⟩ := hb.2 j hj
  have sm := ok.small (show A < B by omega) hBn
  obtain ⟨f, t, hf, ht, htn, e1, hmx⟩ := id hs
  generalize hp : sv h B - sv h A = p at hs e1 hmx he sm
  generalize hq : sw h B - sw h A = q at hs e1 hmx he sm
  have hq0 : 0 < q := sm.1
  -- the diagram between the two
  have x1 : (a + b) * (q * (sv h i + a * m) - p * (sw h i + a)) = b * (q * sv h i - p * sw h i) + a * (q * sv h (i + 2) - p * sw h (i + 2)) := by
    have e2 : sv h (i + 2) = sv h i + (a * u + b * v) := by omega
    have e3 : sw h (i + 2) = sw h i + a + b := by omega
    rw [e2, ← hab, e3]
    grind
  have x2 : (a + b) * (q * sv h (i + 1) - p * sw h (i + 1)) + q * (a * b * (v - u)) = b * (q * sv h i - p * sw h i) + a * (q * sv h (i + 2) - p * sw h (i + 2)) := by
    have e2 : sv h (i + 2) = sv h i + a * u + b * v := by omega
    have e3 : sw h (i + 2) = sw h i + a + b := by omega
    rw [e2, e3, s1, w1]
    grind
  have top1 := hmx i (by omega)
  have top2 := hmx (i + 2) (by omega)
  have below : (a + b) * (q * sv h (i + 1) - p * sw h (i + 1)) < (a + b) * (q * sv h f - p * sw h f) := by
    have y1 : b * (q * sv h i - p * sw h i) ≤ b * (q * sv h f - p * sw h f) := Int.mul_le_mul_of_nonneg_left top1 (by omega)
    have y2 : a * (q * sv h (i + 2) - p * sw h (i + 2)) ≤ a * (q * sv h f - p * sw h f) := Int.mul_le_mul_of_nonneg_left top2 (by omega)
    have y3 : 0 < q * (a * b * (v - u)) := Int.mul_pos hq0 (Int.mul_pos (Int.mul_pos (by omega) (by omega)) (by omega))
    rw [Int.add_mul a b (q * sv h f - p * sw h f)]
    omega
  have hf1 : f ≠ i + 1 := by
    intro q1
    rw [q1] at below
    omega
  have ht1 : t ≠ i + 1 := by
    intro q1
    rw [q1] at e1
    rw [e1] at below
    omega
  have hsad : Sad (sv (pl h i m)) (sw (pl h i m)) (pl h i m).length j p q := by
    rw [pl_length]
    refine ⟨f, t, hf, ht, htn, ?_, fun x hx => ?_⟩
    · rw [hsv t htn, hsv f (by omega), if_neg ht1, if_neg hf1, hsw t htn, hsw f (by omega)]
      exact e1
    · rw [hsv x hx, hsv f (by omega), if_neg hf1, hsw x hx, hsw f (by omega)]
      by_cases c : x = i + 1
      · subst c
        rw [if_pos rfl, w1, show sw h i + a - sw h i = a by omega]
        have y1 : b * (q * sv h i - p * sw h i) ≤ b * (q * sv h f - p * sw h f) := Int.mul_le_mul_of_nonneg_left top1 (by omega)
        have y2 : a * (q * sv h (i + 2) - p * sw h (i + 2)) ≤ a * (q * sv h f - p * sw h f) := Int.mul_le_mul_of_nonneg_left top2 (by omega)
        have y4 : (a + b) * (q * (sv h i + a * m) - p * (sw h i + a)) ≤ (a + b) * (q * sv h f - p * sw h f) := by
          rw [x1, Int.add_mul a b (q * sv h f - p * sw h f)]
          omega
        exact Int.le_of_mul_le_mul_left y4 (by omega)
      · rw [if_neg c]
        exact hmx x hx
  have sm2 := ok.small (show f < t by omega) htn
  have hcross : p * (sw h t - sw h f) = (sv h t - sv h f) * q := by
    rw [Int.mul_sub, Int.sub_mul, Int.mul_comm (sv h t) q, Int.mul_comm (sv h f) q]
    omega
  refine ⟨f, t, hf, ht, by rw [pl_length]; exact htn, ?_, ?_⟩
  · rw [hsv t htn, hsv f (by omega), if_neg ht1, if_neg hf1, hsw t htn, hsw f (by omega)]
    exact Sad.scale hsad hq0 sm2.1 hcross
  · rw [he]
    unfold M
    rw [hsv t htn, hsv f (by omega), if_neg ht1, if_neg hf1, hsw t htn, hsw f (by omega), hp, hq]
    congr 1
    exact Rt_eq hq0 sm2.1 hcross
end Go.Proofs.Ytgdhbeccpicdcaa.Po
/- Proved here: for every list of readings and every hour, the program's pooled readings are the document's, in new memory, and the best row stays; it holds under no condition. -/
set_option linter.unusedVariables false
namespace Go.Proofs.Ytgdhbeccpicdcaa.Pure
open Go.RowKit Go.Proofs.Ytgdhbeccpicdcaa.P Go.Proofs.Ytgdhbeccpicdcaa.E Go.Proofs.Ytgdhbeccpicdcaa.Fr Go.Proofs.Ytgdhbeccpicdcaa.Sd Go.Proofs.Ytgdhbeccpicdcaa.Bl Go.Proofs.Ytgdhbeccpicdcaa.Va Go.Proofs.Ytgdhbeccpicdcaa.Be Go.Proofs.Ytgdhbeccpicdcaa.Kn Go.Proofs.Ytgdhbeccpicdcaa.Ra Go.Proofs.Ytgdhbeccpicdcaa.Be Go.Proofs.Ytgdhbeccpicdcaa.Me Go.Proofs.Ytgdhbeccpicdcaa.Po Go.Proofs.YtgdhbeccpicdcaaW.PrintMore
open Go.Proofs.YtgdhbeccpicdcaaW.PrintWords
namespace Pool
/-- The pooled readings, or the error. -/
def pa (h : List S31) (a : Int) : List S31 × Int :=
  if hc h a a = 0 then (if a = (h.length : Int) - 1 then ([], 4) else (if (rd_T31 h a).f0 ≥ (rd_T31 h (a + 1)).f0 then ([], 6) else (if (M h a.toNat (a.toNat + 2)).2 = 1 then (pl h a.toNat (M h a.toNat (a.toNat + 2)).1, 0) else ([], 1))))
  else ([], hc h a a)
theorem set_pl {h : List S31} {i : Nat} (hi : i + 1 < h.length) (m : Int) : (h.set i ⟨m, (rd_T31 h (i : Int)).f1⟩).set (i + 1) ⟨m, (rd_T31 (h.set i ⟨m, (rd_T31 h (i : Int)).f1⟩) ((i : Int) + 1)).f1⟩ = pl h i m := by
  unfold pl
  congr 2
  rw [show ((i : Int) + 1) = ((i + 1 : Nat) : Int) by omega, rd31 (h := h.set i _) (i := i + 1) (by rw [List.length_set]; exact hi), rd31 hi, List.getElem_set, if_neg (by omega)]
theorem ev_Pool {h : List S31} (hl : h.length ≤ 100) (a : Int) : Tl (fun k => haze_Pool.f k h a) (pa h a) := by
  unfold haze_Pool.f
  refine Tl.bind (ev_hours1 (by omega) a) ?_
  by_cases hk : hc h a a = 0
  · obtain ⟨ok, ha, _⟩ := hc_ok hk
    simp only [inn] at ha
    obtain ⟨i, rfl⟩ := Int.eq_ofNat_of_zero_le ha.1
    have hi : i < h.length := by omega
    refine Tl.pos hk ?_
    rw [w64 (x := (h.length : Int) - 1) (by omega) (by omega), w64 (x := (i : Int) + 1) (by omega) (by omega)]
    by_cases h1 : (i : Int) = (h.length : Int) - 1
    · exact Tl.to (Tl.pos h1 Tl.now) (by rw [pa, if_pos hk, if_pos h1])
    · refine Tl.neg h1 (Tl.pos (by omega) (Tl.pos (by omega) (Tl.pos (by omega) (Tl.pos (by omega) ?_))))
      by_cases h2 : (rd_T31 h (i : Int)).f0 ≥ (rd_T31 h ((i : Int) + 1)).f0
      · exact Tl.to (Tl.pos h2 Tl.now) (by simp only [pa, if_pos hk, if_neg h1, if_pos h2])
      · have q1 := ev_span ok (a := i) (b := i + 1) (by omega) (by omega)
        have q2 := ev_span_mean ok (a := i) (b := i + 1) (by omega) (by omega)
        rw [show ((i + 1 : Nat) : Int) = (i : Int) + 1 by omega] at q1 q2
        refine Tl.neg h2 (Tl.bind q1 (Tl.bind q2 ?_))
        by_cases h3 : (M h i (i + 2)).2 = 1
        · have e : pa h (i : Int) = (pl h i (M h i (i + 2)).1, 0) := by
            simp only [pa, if_pos hk, if_neg h1, if_neg h2, Int.toNat_natCast, if_pos h3]
          rw [e]
          refine Tl.pos h3 ?_
          simp only [copied_eq (show 0 < h.length by omega) (show h.length ≤ 1000 by omega), Option.bind_some]
          refine Tl.pos (by omega) (Tl.pos (by omega) ?_)
          rw [Int.toNat_natCast, show ((i : Int) + 1).toNat = i + 1 by omega, set_pl (by omega)]
          exact Tl.now
        · have e : pa h (i : Int) = ([], 1) := by
            simp only [pa, if_pos hk, if_neg h1, if_neg h2, Int.toNat_natCast, if_neg h3]
          rw [e]
          exact Tl.neg h3 Tl.now
  · exact Tl.to (Tl.neg hk Tl.now) (by simp [pa, hk])
theorem ev_rPool {h : List S31} (hl : h.length ≤ 100) (a : Int) : Tl (fun k => diaphoneref02_Pool.f k h a) (pa h a) := by
  unfold diaphoneref02_Pool.f
  refine Tl.bind (ev_rValidate (by omega)) ?_
  by_cases hv : vc h = 0
  · have ok := vc_ok.1 hv
    have hlen := ok.2.1
    have hpos := ok.1
    refine Tl.pos hv (Tl.bind' (rwithin_eq _ _ _) ?_)
    rw [w64 (x := (h.length : Int) - 2) (by omega) (by omega)]
    by_cases h1 : 0 ≤ a ∧ a ≤ (h.length : Int) - 2
    · refine Tl.pos (decide_eq_true h1) ?_
      obtain ⟨i, rfl⟩ := Int.eq_ofNat_of_zero_le h1.1
      have hk : hc h (i : Int) (i : Int) = 0 := by
        unfold hc
        rw [if_pos hv, if_pos (by constructor <;> (simp only [inn]; omega))]
      have h1' : ¬ (i : Int) = (h.length : Int) - 1 := by omega
      rw [w64 (x := (i : Int) + 1) (by omega) (by omega)]
      refine Tl.pos (by omega) (Tl.pos (by omega) (Tl.pos (by omega) (Tl.pos (by omega) ?_)))
      by_cases h2 : (rd_T31 h (i : Int)).f0 ≥ (rd_T31 h ((i : Int) + 1)).f0
      · exact Tl.to (Tl.pos h2 Tl.now) (by simp only [pa, if_pos hk, if_neg h1', if_pos h2])
      · have q1 := ev_mean ok (a := i) (b := i + 1) (by omega) (by omega)
        rw [show ((i + 1 : Nat) : Int) = (i : Int) + 1 by omega] at q1
        refine Tl.neg h2 (Tl.bind q1 ?_)
        by_cases h3 : (M h i (i + 2)).2 = 1
        · have e : pa h (i : Int) = (pl h i (M h i (i + 2)).1, 0) := by
            simp only [pa, if_pos hk, if_neg h1', if_neg h2, Int.toNat_natCast, if_pos h3]
          rw [e]
          refine Tl.pos h3 (Tl.bind' (copy_eq (by omega)) (Tl.pos (by omega) ?_))
          simp only [Option.bind_some]
          refine Tl.pos (by omega) ?_
          rw [Int.toNat_natCast, show ((i : Int) + 1).toNat = i + 1 by omega, set_pl (by omega)]
          exact Tl.now
        · have e : pa h (i : Int) = ([], 1) := by
            simp only [pa, if_pos hk, if_neg h1', if_neg h2, Int.toNat_natCast, if_neg h3]
          rw [e]
          exact Tl.neg h3 Tl.now
    · refine Tl.neg (by simpa using h1) (Tl.to Tl.now ?_)
      unfold pa
      by_cases ha : inn h a
      · have hk : hc h a a = 0 := by unfold hc; rw [if_pos hv, if_pos ⟨ha, ha⟩]
        simp only [inn] at ha
        rw [if_pos hk, if_pos (by omega)]
      · have hk : hc h a a = 4 := by unfold hc; rw [if_pos hv, if_neg (fun q => ha q.1)]
        rw [hk, if_neg (by decide)]
  · have hk : hc h a a = vc h := by unfold hc; rw [if_neg hv]
    exact Tl.to (Tl.neg hv Tl.now) (by simp [pa, hk, hv])
theorem same {h : List S31} {x : List S33} (hx : x.length ≤ 1000) : Tl (fun k => (diaphoneref02_SameRats.f k x x).bind fun t120 => if t120 = true then (diaphonelaw02_known.f k).bind fun t121 => some t121 else some false) true :=
  Tl.bind (ev_SameRats _ hx) (Tl.pos rfl ev_known')
end Pool
open Pool
theorem HazePools : ∀ (x0 : List (S31)) (x1 : Int), ((∀ y ∈ x0, ((Lit.int .i64 y.f0).wf = true) ∧ ((Lit.int .i64 y.f1).wf = true)) ∧ x0.length ≤ maxLen) → ((Lit.int .i64 x1).wf = true) → ∃ k, diaphonelaw02_HazePools.f k x0 x1 = some true := by
  intro h a _ _
  refine Tl.ex (g := fun k => diaphonelaw02_HazePools.f k h a) ?_
  unfold diaphonelaw02_HazePools.f
  refine by_long (fun hl => ?_)
  have hrl : (pa h a).1.length ≤ 1000 := by
    unfold pa
    repeat' split
    all_goals first | (rw [pl_length]; omega) | simp
  refine Tl.bind (ev_Pool hl a) (Tl.bind (ev_rPool hl a) (Tl.bind (ev_SameReadings _ hrl) (Tl.pos rfl (Tl.succ ?_))))
  simp only [diaphonelaw02_HazePools.j0]
  refine Tl.neg (by simp) ?_
  by_cases hk : hc h a a = 0
  · obtain ⟨ok, ha, _⟩ := hc_ok hk
    simp only [inn] at ha
    obtain ⟨i, rfl⟩ := Int.eq_ofNat_of_zero_le ha.1
    obtain ⟨x, hx, _⟩ := ev_best ok
    have hxl := hx.1
    have hlen := ok.2.1
    have bad : ∀ e : Int, e ≠ 0 → pa h (i : Int) = ([], e) → Tl (fun k => (haze_Best.f k h).bind fun bt112 => ((haze_Best.f k (pa h (i : Int)).1).bind fun bt116 => (if (pa h (i : Int)).2 = 0 then (if bt112.2 = 0 then (if bt116.2 = 0 then ((diaphoneref02_SameRats.f k bt112.1 bt116.1).bind fun t120 => (if t120 = true then ((diaphonelaw02_known.f k).bind fun t121 => (some t121)) else (some false))) else (some false)) else (some false)) else ((diaphonelaw02_known.f k).bind fun t122 => (some t122))))) true := by
      intro e he q
      rw [q]
      exact Tl.bind (ev_Best ok hx) (Tl.bind (ev_Best_bad (by simp) (by simp [vc])) (Tl.neg he ev_known'))
    by_cases h1 : (i : Int) = (h.length : Int) - 1
    · exact bad 4 (by decide) (by simp only [pa, if_pos hk, if_pos h1])
    · by_cases h2 : (rd_T31 h (i : Int)).f0 ≥ (rd_T31 h ((i : Int) + 1)).f0
      · exact bad 6 (by decide) (by simp only [pa, if_pos hk, if_neg h1, if_pos h2])
      · by_cases h3 : (M h i (i + 2)).2 = 1
        · have e : pa h (i : Int) = (pl h i (M h i (i + 2)).1, 0) := by
            simp only [pa, if_pos hk, if_neg h1, if_neg h2, Int.toNat_natCast, if_pos h3]
          rw [e]
          have sm := ok.small (show i < i + 2 by omega) (show i + 2 ≤ h.length by omega)
          have hm : (M h i (i + 2)).1 * (sw h (i + 2) - sw h i) = sv h (i + 2) - sv h i := by
            have := Rt_cross (n := sv h (i + 2) - sv h i) sm.1
            unfold M at h3 ⊢
            rw [this, h3, Int.mul_one]
          have r0 := ok.2.2 i (by omega)
          have r1 := ok.2.2 (i + 1) (by omega)
          simp only [rok] at r0 r1
          have hmr : 0 ≤ (M h i (i + 2)).1 ∧ (M h i (i + 2)).1 ≤ 100 := by
            have s1 : sv h (i + 2) = sv h i + (rd_T31 h (i : Int)).f1 * (rd_T31 h (i : Int)).f0 + (rd_T31 h ((i + 1 : Nat) : Int)).f1 * (rd_T31 h ((i + 1 : Nat) : Int)).f0 := rfl
            have w1 : sw h (i + 2) = sw h i + (rd_T31 h (i : Int)).f1 + (rd_T31 h ((i + 1 : Nat) : Int)).f1 := rfl
            generalize (rd_T31 h (i : Int)).f1 = a at s1 w1 r0
            generalize (rd_T31 h (i : Int)).f0 = u at s1 r0
            generalize (rd_T31 h ((i + 1 : Nat) : Int)).f1 = b at s1 w1 r1
            generalize (rd_T31 h ((i + 1 : Nat) : Int)).f0 = v at s1 r1
            have y1 : 0 ≤ a * u := Int.mul_nonneg (by omega) (by omega)
            have y2 : 0 ≤ b * v := Int.mul_nonneg (by omega) (by omega)
            have y3 : a * u ≤ a * 100 := Int.mul_le_mul_of_nonneg_left (by omega) (by omega)
            have y4 : b * v ≤ b * 100 := Int.mul_le_mul_of_nonneg_left (by omega) (by omega)
            have ew : sw h (i + 2) - sw h i = a + b := by omega
            rw [ew] at hm
            refine ⟨?_, ?_⟩
            · refine Int.le_of_mul_le_mul_right (a := a + b) ?_ (by omega)
              rw [Int.zero_mul]; omega
            · refine Int.le_of_mul_le_mul_right (a := a + b) ?_ (by omega)
              omega
          have ok' := pl_ok ok (i := i) hmr
          have hb := pl_best ok (i := i) (by omega) (by rw [show ((i + 1 : Nat) : Int) = (i : Int) + 1 by omega]; omega) hm hx
          exact Tl.bind (ev_Best ok hx) (Tl.bind (ev_Best ok' hb) (Tl.pos rfl (Tl.pos rfl (Tl.pos rfl (Tl.bind (ev_SameRats _ (show x.length ≤ 1000 by omega)) (Tl.pos rfl ev_known'))))))
        · exact bad 1 (by decide) (by simp only [pa, if_pos hk, if_neg h1, if_neg h2, Int.toNat_natCast, if_neg h3])
  · have e : pa h a = ([], hc h a a) := by simp [pa, hk]
    rw [e]
    by_cases hv : vc h = 0
    · have ok := vc_ok.1 hv
      obtain ⟨x, hx, _⟩ := ev_best ok
      exact Tl.bind (ev_Best ok hx) (Tl.bind (ev_Best_bad (by simp) (by simp [vc])) (Tl.neg hk ev_known'))
    · exact Tl.bind (ev_Best_bad (by omega) hv) (Tl.bind (ev_Best_bad (by simp) (by simp [vc])) (Tl.neg hk ev_known'))
end Go.Proofs.Ytgdhbeccpicdcaa.Pure
