/- Proved here: for every list of readings, hour and number, the program's raised readings are the document's, in new memory, and no number of the best row is smaller for a number above 0; it holds under no condition. -/
import Derived.Test.YtgdhbeccpicdcaaRa
import Derived.Test.YtgdhbeccpicdcaaHo
import Derived.Test.YtgdhbeccpicdcaaPx29
import Derived.Test.YtgdhbeccpicdcaaPx29
import Derived.Test.YtgdhbeccpicdcaaPx49
import Derived.Test.YtgdhbeccpicdcaaPx49
import Derived.Test.YtgdhbeccpicdcaaPx50
set_option linter.unusedVariables false
namespace Go.Proofs.Ytgdhbeccpicdcaa.Pure
open Go.RowKit Go.Proofs.Ytgdhbeccpicdcaa.P Go.Proofs.Ytgdhbeccpicdcaa.E Go.Proofs.Ytgdhbeccpicdcaa.Fr Go.Proofs.Ytgdhbeccpicdcaa.Sd Go.Proofs.Ytgdhbeccpicdcaa.Bl Go.Proofs.Ytgdhbeccpicdcaa.Va Go.Proofs.Ytgdhbeccpicdcaa.Be Go.Proofs.Ytgdhbeccpicdcaa.Kn Go.Proofs.Ytgdhbeccpicdcaa.Ra Go.Proofs.Ytgdhbeccpicdcaa.Me Go.Proofs.YtgdhbeccpicdcaaW.PrintMore
open Go.Proofs.YtgdhbeccpicdcaaW.PrintWords
/-- Readings of which the one at place i is raised. -/
def up1 (h : List S31) (i : Nat) (by_ : Int) : List S31 := h.set i ⟨(rd_T31 h (i : Int)).f0 + by_, (rd_T31 h (i : Int)).f1⟩
theorem up1_length (h : List S31) (i : Nat) (b : Int) : (up1 h i b).length = h.length := by simp [up1]
theorem up1_rd {h : List S31} {i : Nat} (b : Int) {j : Nat} (hj : j < h.length) : rd_T31 (up1 h i b) (j : Int) = if i = j then ⟨(rd_T31 h (i : Int)).f0 + b, (rd_T31 h (i : Int)).f1⟩ else rd_T31 h (j : Int) := by
  rw [rd31 (by rw [up1_length]; exact hj), rd31 hj]
  simp only [up1, List.getElem_set]
def fine (h : List S31) (i : Nat) (b : Int) : Prop := (-100 ≤ b ∧ b ≤ 100) ∧ (0 ≤ (rd_T31 h (i : Int)).f0 + b ∧ (rd_T31 h (i : Int)).f0 + b ≤ 100)
instance (h : List S31) (i : Nat) (b : Int) : Decidable (fine h i b) := by unfold fine; infer_instance
theorem up1_ok {h : List S31} (ok : Ok h) {i : Nat} (hi : i < h.length) {b : Int} (hf : 0 ≤ (rd_T31 h (i : Int)).f0 + b ∧ (rd_T31 h (i : Int)).f0 + b ≤ 100) : Ok (up1 h i b) := by
  refine ⟨by rw [up1_length]; exact ok.1, by rw [up1_length]; exact ok.2.1, fun j hj => ?_⟩
  rw [up1_length] at hj
  rw [up1_rd b hj]
  by_cases e : i = j
  · rw [if_pos e]
    have := ok.2.2 i hi
    simp only [rok] at this ⊢
    omega
  · rw [if_neg e]
    exact ok.2.2 j hj
theorem vc_one {h : List S31} (h1 : 1 ≤ h.length) (h2 : h.length ≤ 12) (h3 : ¬ Ok h) : vc h = 1 := by
  have : vc h ≠ 0 := fun e => h3 (vc_ok.1 e)
  unfold vc at this ⊢
  rw [if_pos ⟨h1, h2⟩] at this ⊢
  split at this
  · exact absurd rfl this
  · rename_i hh
    rw [if_neg hh]
/-- The raised readings, or the error. -/
def ra (h : List S31) (a b : Int) : List S31 × Int := if hc h a a = 0 then (if fine h a.toNat b then (up1 h a.toNat b, 0) else ([], 1)) else ([], hc h a a)
theorem ev_Raise {h : List S31} (hl : h.length ≤ 100) (a b : Int) (hb : -9223372036854775808 ≤ b ∧ b < 9223372036854775808) : Tl (fun k => haze_Raise.f k h a b) (ra h a b) := by
  unfold haze_Raise.f
  refine Tl.bind (ev_hours1 (by omega) a) ?_
  by_cases hk : hc h a a = 0
  · obtain ⟨ok, ha, _⟩ := hc_ok hk
    simp only [inn] at ha
    obtain ⟨i, rfl⟩ := Int.eq_ofNat_of_zero_le ha.1
    have hi : i < h.length := by omega
    have hlen := ok.2.1
    have r := ok.2.2 i hi
    simp only [rok] at r
    refine Tl.pos hk ?_
    unfold haze_raised.f
    simp only [copied_eq (show 0 < h.length by omega) (show h.length ≤ 1000 by omega), Option.bind_some]
    by_cases h1 : -100 ≤ b ∧ b ≤ 100
    · by_cases h2 : 0 ≤ (rd_T31 h (i : Int)).f0 + b ∧ (rd_T31 h (i : Int)).f0 + b ≤ 100
      · have hf : fine h i b := ⟨h1, h2⟩
        have : Tl (fun k => haze_raised.l0 k (i : Int) b h (i : Int)) (up1 h i b, 0) := by
          refine Tl.succ ?_
          simp only [haze_raised.l0]
          refine Tl.pos (by omega) (Tl.bind' (within_eq _ _ _) (Tl.pos (decide_eq_true h1) (Tl.pos (by omega) (Tl.pos (by omega) (Tl.bind' (within_eq _ _ _) ?_)))))
          rw [w64 (x := (rd_T31 h (i : Int)).f0 + b) (by omega) (by omega), w64 (x := (i : Int) + 1) (by omega) (by omega)]
          refine Tl.pos (decide_eq_true h2) (Tl.succ ?_)
          simp only [haze_raised.l0]
          exact Tl.neg (by omega) Tl.now
        exact Tl.to (Tl.bind this Tl.now) (by simp [ra, hk, hf])
      · have hf : ¬ fine h i b := fun q => h2 q.2
        have : Tl (fun k => haze_raised.l0 k (i : Int) b h (i : Int)) ([], 1) := by
          refine Tl.succ ?_
          simp only [haze_raised.l0]
          refine Tl.pos (by omega) (Tl.bind' (within_eq _ _ _) (Tl.pos (decide_eq_true h1) (Tl.pos (by omega) (Tl.pos (by omega) (Tl.bind' (within_eq _ _ _) ?_)))))
          rw [w64 (x := (rd_T31 h (i : Int)).f0 + b) (by omega) (by omega)]
          exact Tl.neg (by simpa using h2) Tl.now
        exact Tl.to (Tl.bind this Tl.now) (by simp [ra, hk, hf])
    · have hf : ¬ fine h i b := fun q => h1 q.1
      have : Tl (fun k => haze_raised.l0 k (i : Int) b h (i : Int)) ([], 1) := by
        refine Tl.succ ?_
        simp only [haze_raised.l0]
        exact Tl.pos (by omega) (Tl.bind' (within_eq _ _ _) (Tl.neg (by simpa using h1) Tl.now))
      exact Tl.to (Tl.bind this Tl.now) (by simp [ra, hk, hf])
  · exact Tl.to (Tl.neg hk Tl.now) (by simp [ra, hk])
theorem ev_rRaise {h : List S31} (hl : h.length ≤ 100) (a b : Int) : Tl (fun k => diaphoneref02_Raise.f k h a b) (ra h a b) := by
  unfold diaphoneref02_Raise.f
  refine Tl.bind (ev_houred (by omega) a a) ?_
  by_cases hk : hc h a a = 0
  · obtain ⟨ok, ha, _⟩ := hc_ok hk
    simp only [inn] at ha
    obtain ⟨i, rfl⟩ := Int.eq_ofNat_of_zero_le ha.1
    have hi : i < h.length := by omega
    have hlen := ok.2.1
    have r := ok.2.2 i hi
    simp only [rok] at r
    refine Tl.pos hk (Tl.bind' (rwithin_eq _ _ _) ?_)
    by_cases h1 : -100 ≤ b ∧ b ≤ 100
    · refine Tl.pos (decide_eq_true h1) (Tl.bind' (copy_eq (by omega)) (Tl.pos (by omega) (Tl.pos (by omega) ?_)))
      rw [w64 (x := (rd_T31 h (i : Int)).f0 + b) (by omega) (by omega)]
      rw [Int.toNat_natCast]
      have eu : h.set i ⟨(rd_T31 h (i : Int)).f0 + b, (rd_T31 h (i : Int)).f1⟩ = up1 h i b := rfl
      rw [eu]
      unfold diaphoneref02_told.f
      have ev := ev_rValidate (h := up1 h i b) (by rw [up1_length]; omega)
      by_cases h2 : 0 ≤ (rd_T31 h (i : Int)).f0 + b ∧ (rd_T31 h (i : Int)).f0 + b ≤ 100
      · have hf : fine h i b := ⟨h1, h2⟩
        rw [vc_ok.2 (up1_ok ok hi h2)] at ev
        exact Tl.to (Tl.bind (Tl.bind ev (Tl.pos rfl Tl.now)) Tl.now) (by simp [ra, hk, hf])
      · have hf : ¬ fine h i b := fun q => h2 q.2
        have hno : ¬ Ok (up1 h i b) := by
          intro q
          have := q.2.2 i (by rw [up1_length]; exact hi)
          rw [up1_rd b hi, if_pos rfl] at this
          exact h2 ⟨this.1, this.2.1⟩
        rw [vc_one (by rw [up1_length]; exact ok.1) (by rw [up1_length]; omega) hno] at ev
        exact Tl.to (Tl.bind (Tl.bind ev (Tl.neg (by decide) Tl.now)) Tl.now) (by simp [ra, hk, hf])
    · have hf : ¬ fine h i b := fun q => h1 q.1
      exact Tl.to (Tl.neg (by simpa using h1) Tl.now) (by simp [ra, hk, hf])
  · exact Tl.to (Tl.neg hk Tl.now) (by simp [ra, hk])
theorem raises_loop {h h' : List S31} (ok : Ok h) (ok' : Ok h') (hlen' : h'.length = h.length) {b : Int} (hup : 0 ≤ b → ∀ i : Nat, i < h.length → (rd_T31 h' (i : Int)).f1 = (rd_T31 h (i : Int)).f1 ∧ (rd_T31 h (i : Int)).f0 ≤ (rd_T31 h' (i : Int)).f0)
    (hdn : b ≤ 0 → ∀ i : Nat, i < h.length → (rd_T31 h (i : Int)).f1 = (rd_T31 h' (i : Int)).f1 ∧ (rd_T31 h' (i : Int)).f0 ≤ (rd_T31 h (i : Int)).f0) {x y : List S33} (hx : IsBest h x) (hy : IsBest h' y) (d : Nat) :
    ∀ i : Nat, i ≤ x.length → x.length - i = d → Tl (fun k => diaphonelaw02_HazeRaises.l0 k b x y (i : Int)) true := by
  have hlen := ok.2.1
  have hxl := hx.1
  have hyl := hy.1
  induction d with
  | zero =>
    intro i hi hd
    refine Tl.succ ?_
    simp only [diaphonelaw02_HazeRaises.l0]
    exact Tl.neg (by omega) ev_known'
  | succ d ih =>
    intro i hi hd
    have hlt : i < x.length := by omega
    have hlt' : i < y.length := by omega
    obtain ⟨v, w, q1, q2, q3, q4, q5, q6⟩ := IsBest.num ok hx hlt
    obtain ⟨v', w', r1, r2, r3, r4, r5, r6⟩ := IsBest.num ok' hy hlt'
    have next := ih (i + 1) (by omega) (by omega)
    rw [show ((i + 1 : Nat) : Int) = (i : Int) + 1 by omega, ← w64 (x := (i : Int) + 1) (by omega) (by omega)] at next
    have up : 0 ≤ b → diaphoneref02_Less.f (Rt v' w').1 (Rt v' w').2 (Rt v w).1 (Rt v w).2 = some false := by
      intro hb
      rw [less_eq (by omega) (by omega) (by omega) (by omega) (by omega) (by omega) (by omega) (by omega)]
      have := best_mono ok ok' hlen' (hup hb) q3 r3 q6 r6
      congr 1
      exact decide_eq_false (by omega)
    have dn : b ≤ 0 → diaphoneref02_Less.f (Rt v w).1 (Rt v w).2 (Rt v' w').1 (Rt v' w').2 = some false := by
      intro hb
      rw [less_eq (by omega) (by omega) (by omega) (by omega) (by omega) (by omega) (by omega) (by omega)]
      have := best_mono ok' ok hlen'.symm (fun i hi => hdn hb i (by omega)) r3 q3 r6 q6
      congr 1
      exact decide_eq_false (by omega)
    refine Tl.succ ?_
    simp only [diaphonelaw02_HazeRaises.l0]
    rw [rd33 hlt, rd33 hlt', q5, r5]
    simp only [rat]
    refine Tl.pos (by omega) ?_
    by_cases h0 : b ≥ 0
    · refine Tl.pos h0 (Tl.pos (by omega) (Tl.pos (by omega) (Tl.bind' (up h0) (Tl.neg (by decide) ?_))))
      by_cases h1 : b ≤ 0
      · exact Tl.pos h1 (Tl.bind' (dn h1) (Tl.neg (by decide) next))
      · exact Tl.neg h1 next
    · refine Tl.neg h0 (Tl.pos (by omega) (Tl.pos (by omega) (Tl.pos (by omega) (Tl.bind' (dn (by omega)) (Tl.neg (by decide) next)))))
theorem HazeRaises : ∀ (x0 : List (S31)) (x1 : Int) (x2 : Int), ((∀ y ∈ x0, ((Lit.int .i64 y.f0).wf = true) ∧ ((Lit.int .i64 y.f1).wf = true)) ∧ x0.length ≤ maxLen) → ((Lit.int .i64 x1).wf = true) → ((Lit.int .i64 x2).wf = true) → ∃ k, diaphonelaw02_HazeRaises.f k x0 x1 x2 = some true := by
  intro h a b _ _ hb
  refine Tl.ex (g := fun k => diaphonelaw02_HazeRaises.f k h a b) ?_
  unfold diaphonelaw02_HazeRaises.f
  refine by_long (fun hl => ?_)
  have hrl : (ra h a b).1.length ≤ 1000 := by
    unfold ra
    split
    · split
      · rw [up1_length]; omega
      · simp
    · simp
  refine Tl.bind' (copy_eq (by omega)) (Tl.bind (ev_Raise hl a b (wf64 hb)) (Tl.bind (ev_rRaise hl a b) (Tl.bind (ev_SameReadings _ hrl) (Tl.pos rfl (Tl.pos rfl (Tl.bind (ev_SameReadings _ (by omega)) (Tl.succ ?_)))))))
  simp only [diaphonelaw02_HazeRaises.j0]
  refine Tl.neg (by simp) ?_
  by_cases hk : hc h a a = 0
  · obtain ⟨ok, ha, _⟩ := hc_ok hk
    simp only [inn] at ha
    obtain ⟨i, rfl⟩ := Int.eq_ofNat_of_zero_le ha.1
    have hi : i < h.length := by omega
    obtain ⟨x, hx, _⟩ := ev_best ok
    by_cases hf : fine h i b
    · have e : ra h (i : Int) b = (up1 h i b, 0) := by simp [ra, hk, hf]
      have ok' := up1_ok ok hi hf.2
      obtain ⟨y, hy, _⟩ := ev_best ok'
      have hxl := hx.1
      have hyl := hy.1
      rw [up1_length] at hyl
      rw [e]
      refine Tl.bind (ev_Best ok hx) (Tl.bind (ev_Best ok' hy) (Tl.pos rfl (Tl.pos rfl (Tl.pos rfl (Tl.pos ?_ (Tl.bind (ev_fair ok hx) (Tl.pos rfl (Tl.bind (ev_fair ok' hy) (Tl.succ ?_)))))))))
      · simp only [hxl, hyl]
      · simp only [diaphonelaw02_HazeRaises.j1]
        refine Tl.neg (by simp) (raises_loop ok ok' (up1_length ..) ?_ ?_ hx hy x.length 0 (by omega) (by omega))
        · intro hb0 j hj
          rw [up1_rd b hj]
          by_cases e : i = j
          · subst e; rw [if_pos rfl]; exact ⟨rfl, by simp only; omega⟩
          · rw [if_neg e]; exact ⟨rfl, Int.le_refl _⟩
        · intro hb0 j hj
          rw [up1_rd b hj]
          by_cases e : i = j
          · subst e; rw [if_pos rfl]; exact ⟨rfl, by simp only; omega⟩
          · rw [if_neg e]; exact ⟨rfl, Int.le_refl _⟩
    · have e : ra h (i : Int) b = ([], 1) := by simp [ra, hk, hf]
      rw [e]
      exact Tl.bind (ev_Best ok hx) (Tl.bind (ev_Best_bad (by simp) (by simp [vc])) (Tl.neg (by simp) ev_known'))
  · have e : ra h a b = ([], hc h a a) := by simp [ra, hk]
    rw [e]
    by_cases hv : vc h = 0
    · have ok := vc_ok.1 hv
      obtain ⟨x, hx, _⟩ := ev_best ok
      exact Tl.bind (ev_Best ok hx) (Tl.bind (ev_Best_bad (by simp) (by simp [vc])) (Tl.neg hk ev_known'))
    · exact Tl.bind (ev_Best_bad (by omega) hv) (Tl.bind (ev_Best_bad (by simp) (by simp [vc])) (Tl.neg hk ev_known'))
end Go.Proofs.Ytgdhbeccpicdcaa.Pure
