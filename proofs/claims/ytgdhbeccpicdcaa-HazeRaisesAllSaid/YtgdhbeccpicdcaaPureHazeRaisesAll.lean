/- Proved here: for every list of readings and every number, the program's list of which all values are raised is the document's, and the best row is raised by as much; it holds under no condition. -/
import Derived.Test.YtgdhbeccpicdcaaRa
import Derived.Test.YtgdhbeccpicdcaaMe
import Derived.Test.YtgdhbeccpicdcaaPx29
import Derived.Test.YtgdhbeccpicdcaaPx29
import Derived.Test.YtgdhbeccpicdcaaPx30
import Derived.Test.YtgdhbeccpicdcaaPx30
import Derived.Test.YtgdhbeccpicdcaaPx31
set_option linter.unusedVariables false
namespace Go.Proofs.Ytgdhbeccpicdcaa.Pure
open Go.RowKit Go.Proofs.Ytgdhbeccpicdcaa.P Go.Proofs.Ytgdhbeccpicdcaa.E Go.Proofs.Ytgdhbeccpicdcaa.Fr Go.Proofs.Ytgdhbeccpicdcaa.Sd Go.Proofs.Ytgdhbeccpicdcaa.Bl Go.Proofs.Ytgdhbeccpicdcaa.Va Go.Proofs.Ytgdhbeccpicdcaa.Be Go.Proofs.Ytgdhbeccpicdcaa.Kn Go.Proofs.Ytgdhbeccpicdcaa.Ra Go.Proofs.Ytgdhbeccpicdcaa.Me Go.Proofs.YtgdhbeccpicdcaaW.PrintMore
open Go.Proofs.YtgdhbeccpicdcaaW.PrintWords
namespace All
/-- The readings of which the first m are raised. -/
def upn (h : List S31) (b : Int) : Nat → List S31
  | 0 => h
  | m + 1 => (upn h b m).set m ⟨(rd_T31 (upn h b m) (m : Int)).f0 + b, (rd_T31 (upn h b m) (m : Int)).f1⟩
theorem upn_length (h : List S31) (b : Int) (m : Nat) : (upn h b m).length = h.length := by
  induction m with
  | zero => rfl
  | succ m ih => simp [upn, ih]
theorem upn_rd {h : List S31} (b : Int) (m : Nat) : ∀ {j : Nat}, j < h.length → rd_T31 (upn h b m) (j : Int) = if j < m then ⟨(rd_T31 h (j : Int)).f0 + b, (rd_T31 h (j : Int)).f1⟩ else rd_T31 h (j : Int) := by
  induction m with
  | zero => intro j hj; simp [upn]
  | succ m ih =>
    intro j hj
    have hl := upn_length h b m
    rw [rd31 (h := upn h b (m + 1)) (by rw [upn_length]; exact hj)]
    simp only [upn, List.getElem_set]
    by_cases e : m = j
    · subst e
      rw [if_pos rfl, ih hj, if_neg (by omega), if_pos (by omega)]
    · rw [if_neg e, ← rd31 (by rw [hl]; exact hj), ih hj]
      by_cases e2 : j < m
      · rw [if_pos e2, if_pos (by omega)]
      · rw [if_neg e2, if_neg (by omega)]
def fin1 (h : List S31) (b : Int) (i : Nat) : Prop := 0 ≤ (rd_T31 h (i : Int)).f0 + b ∧ (rd_T31 h (i : Int)).f0 + b ≤ 100
def fina (h : List S31) (b : Int) : Prop := (-100 ≤ b ∧ b ≤ 100) ∧ ∀ i, i < h.length → fin1 h b i
instance (h : List S31) (b : Int) (i : Nat) : Decidable (fin1 h b i) := by unfold fin1; infer_instance
instance (h : List S31) (b : Int) : Decidable (fina h b) := by unfold fina; infer_instance
theorem upn_ok {h : List S31} (ok : Ok h) {b : Int} (hf : ∀ i, i < h.length → fin1 h b i) : Ok (upn h b h.length) := by
  refine ⟨by rw [upn_length]; exact ok.1, by rw [upn_length]; exact ok.2.1, fun j hj => ?_⟩
  rw [upn_length] at hj
  rw [upn_rd b _ hj, if_pos hj]
  have := ok.2.2 j hj
  have := hf j hj
  simp only [rok, fin1] at *
  omega
theorem vc_one {h : List S31} (h1 : 1 ≤ h.length) (h2 : h.length ≤ 12) (h3 : ¬ Ok h) : vc h = 1 := by
  have : vc h ≠ 0 := fun e => h3 (vc_ok.1 e)
  unfold vc at this ⊢
  rw [if_pos ⟨h1, h2⟩] at this ⊢
  split at this
  · exact absurd rfl this
  · rename_i hh
    rw [if_neg hh]
def raa (h : List S31) (b : Int) : List S31 × Int := if vc h = 0 then (if fina h b then (upn h b h.length, 0) else ([], 1)) else ([], vc h)
theorem raised_loop {h : List S31} (ok : Ok h) {b : Int} (d : Nat) : ∀ i : Nat, i ≤ h.length → h.length - i = d → (∀ j, j < i → fin1 h b j) → ((-100 ≤ b ∧ b ≤ 100) ∨ i = 0) →
    Tl (fun k => haze_raised.l0 k (wrap64 ((h.length : Int) - 1)) b (upn h b i) (i : Int)) (if fina h b then (upn h b h.length, 0) else ([], 1)) := by
  have hlen := ok.2.1
  have hlen1 := ok.1
  rw [w64 (x := (h.length : Int) - 1) (by omega) (by omega)]
  induction d with
  | zero =>
    intro i hi hd hj hb
    obtain rfl : i = h.length := by omega
    refine Tl.succ ?_
    simp only [haze_raised.l0]
    have hf : fina h b := ⟨by omega, hj⟩
    exact Tl.to (Tl.neg (by omega) Tl.now) (by simp [hf])
  | succ d ih =>
    intro i hi hd hj hb
    have hi' : i < h.length := by omega
    have r := ok.2.2 i hi'
    simp only [rok] at r
    have erd : rd_T31 (upn h b i) (i : Int) = rd_T31 h (i : Int) := by rw [upn_rd b _ hi', if_neg (by omega)]
    have el := upn_length h b i
    refine Tl.succ ?_
    simp only [haze_raised.l0]
    refine Tl.pos (by omega) (Tl.bind' (within_eq _ _ _) ?_)
    by_cases h1 : -100 ≤ b ∧ b ≤ 100
    · refine Tl.pos (decide_eq_true h1) (Tl.pos (by omega) (Tl.pos (by omega) (Tl.bind' (within_eq _ _ _) ?_)))
      rw [erd]
      rw [w64 (x := (rd_T31 h (i : Int)).f0 + b) (by omega) (by omega), w64 (x := (i : Int) + 1) (by omega) (by omega)]
      by_cases h2 : fin1 h b i
      · refine Tl.pos (decide_eq_true h2) ?_
        have := ih (i + 1) (by omega) (by omega) (fun j hj' => by
          by_cases e : j = i
          · rw [e]; exact h2
          · exact hj j (by omega)) (Or.inl h1)
        rw [show ((i + 1 : Nat) : Int) = (i : Int) + 1 by omega] at this
        rw [Int.toNat_natCast]
        have eu : (upn h b i).set i ⟨(rd_T31 h (i : Int)).f0 + b, (rd_T31 h (i : Int)).f1⟩ = upn h b (i + 1) := by simp only [upn, erd]
        rw [eu]
        exact this
      · have hf : ¬ fina h b := fun q => h2 (q.2 i hi')
        exact Tl.to (Tl.neg (by simpa [fin1] using h2) Tl.now) (by simp [hf])
    · have hf : ¬ fina h b := fun q => h1 q.1
      exact Tl.to (Tl.neg (by simpa using h1) Tl.now) (by simp [hf])
theorem ev_RaiseAll {h : List S31} (hl : h.length ≤ 100) (b : Int) : Tl (fun k => haze_RaiseAll.f k h b) (raa h b) := by
  unfold haze_RaiseAll.f
  refine Tl.bind (ev_Validate (by omega)) ?_
  by_cases hk : vc h = 0
  · have ok := vc_ok.1 hk
    refine Tl.pos hk ?_
    unfold haze_raised.f
    simp only [copied_eq (show 0 < h.length from ok.1) (show h.length ≤ 1000 by omega), Option.bind_some]
    have := raised_loop ok (b := b) h.length 0 (by omega) (by omega) (by intro j hj; omega) (Or.inr rfl)
    rw [show ((0 : Nat) : Int) = 0 from rfl] at this
    simp only [upn] at this
    refine Tl.to (Tl.bind this Tl.now) ?_
    simp [raa, hk]
  · exact Tl.to (Tl.neg hk Tl.now) (by simp [raa, hk])
theorem rloop {h : List S31} (ok : Ok h) {b : Int} (h1 : -100 ≤ b ∧ b ≤ 100) (d : Nat) : ∀ i : Nat, i ≤ h.length → h.length - i = d →
    Tl (fun k => diaphoneref02_RaiseAll.l0 k b (upn h b i) (i : Int)) (if fina h b then (upn h b h.length, 0) else ([], 1)) := by
  have hlen := ok.2.1
  have hlen1 := ok.1
  induction d with
  | zero =>
    intro i hi hd
    obtain rfl : i = h.length := by omega
    refine Tl.succ ?_
    simp only [diaphoneref02_RaiseAll.l0]
    have el := upn_length h b h.length
    refine Tl.neg (by omega) ?_
    unfold diaphoneref02_told.f
    have ev := ev_rValidate (h := upn h b h.length) (by omega)
    by_cases h2 : fina h b
    · rw [vc_ok.2 (upn_ok ok h2.2)] at ev
      exact Tl.to (Tl.bind (Tl.bind ev (Tl.pos rfl Tl.now)) Tl.now) (by simp [h2])
    · have hno : ¬ Ok (upn h b h.length) := by
        intro q
        refine h2 ⟨h1, fun i hi => ?_⟩
        have := q.2.2 i (by omega)
        rw [upn_rd b _ hi, if_pos hi] at this
        exact ⟨this.1, this.2.1⟩
      rw [vc_one (by omega) (by omega) hno] at ev
      exact Tl.to (Tl.bind (Tl.bind ev (Tl.neg (by decide) Tl.now)) Tl.now) (by simp [h2])
  | succ d ih =>
    intro i hi hd
    have hi' : i < h.length := by omega
    have r := ok.2.2 i hi'
    simp only [rok] at r
    have erd : rd_T31 (upn h b i) (i : Int) = rd_T31 h (i : Int) := by rw [upn_rd b _ hi', if_neg (by omega)]
    have el := upn_length h b i
    have := ih (i + 1) (by omega) (by omega)
    rw [show ((i + 1 : Nat) : Int) = (i : Int) + 1 by omega] at this
    refine Tl.succ ?_
    simp only [diaphoneref02_RaiseAll.l0]
    refine Tl.pos (by omega) (Tl.pos (by omega) ?_)
    rw [erd, w64 (x := (rd_T31 h (i : Int)).f0 + b) (by omega) (by omega), w64 (x := (i : Int) + 1) (by omega) (by omega), Int.toNat_natCast]
    have eu : (upn h b i).set i ⟨(rd_T31 h (i : Int)).f0 + b, (rd_T31 h (i : Int)).f1⟩ = upn h b (i + 1) := by simp only [upn, erd]
    rw [eu]
    exact this
theorem ev_rRaiseAll {h : List S31} (hl : h.length ≤ 100) (b : Int) : Tl (fun k => diaphoneref02_RaiseAll.f k h b) (raa h b) := by
  unfold diaphoneref02_RaiseAll.f
  refine Tl.bind (ev_rValidate (by omega)) ?_
  by_cases hk : vc h = 0
  · have ok := vc_ok.1 hk
    refine Tl.pos hk (Tl.bind' (rwithin_eq _ _ _) ?_)
    by_cases h1 : -100 ≤ b ∧ b ≤ 100
    · refine Tl.pos (decide_eq_true h1) (Tl.bind' (copy_eq (by omega)) ?_)
      have := rloop ok h1 h.length 0 (by omega) (by omega)
      rw [show ((0 : Nat) : Int) = 0 from rfl] at this
      simp only [upn] at this
      exact Tl.to this (by simp [raa, hk])
    · have hf : ¬ fina h b := fun q => h1 q.1
      exact Tl.to (Tl.neg (by simpa using h1) Tl.now) (by simp [raa, hk, hf])
  · exact Tl.to (Tl.neg hk Tl.now) (by simp [raa, hk])
theorem upn_sums {h : List S31} (b : Int) {i : Nat} (hi : i ≤ h.length) : sw (upn h b h.length) i = sw h i ∧ sv (upn h b h.length) i = sv h i + b * sw h i := by
  induction i with
  | zero => simp [sw, sv]
  | succ i ih =>
    have e := ih (by omega)
    simp only [sw, sv, upn_rd b _ (show i < h.length by omega), if_pos (show i < h.length by omega), e]
    exact ⟨trivial, by grind⟩
theorem upn_sad {h : List S31} {b : Int} {i : Nat} {v w : Int} (s : Sad (sv h) (sw h) h.length i v w) : Sad (sv (upn h b h.length)) (sw (upn h b h.length)) h.length i (v + b * w) w := by
  obtain ⟨f, t, h1, h2, h3, h4, h5⟩ := s
  refine ⟨f, t, h1, h2, h3, ?_, fun x hx => ?_⟩
  · obtain ⟨e1, e2⟩ := upn_sums (h := h) b (i := f) (by omega)
    obtain ⟨e3, e4⟩ := upn_sums (h := h) b (i := t) (by omega)
    rw [e1, e2, e3, e4]
    grind
  · obtain ⟨e1, e2⟩ := upn_sums (h := h) b (i := f) (by omega)
    obtain ⟨e3, e4⟩ := upn_sums (h := h) b (i := x) (by omega)
    have := h5 x hx
    rw [e1, e2, e3, e4]
    grind
theorem loop {h h' : List S31} (ok : Ok h) {b : Int} (hb : -100 ≤ b ∧ b ≤ 100) (eh : h' = upn h b h.length) (ok' : Ok h') {x y : List S33} (hx : IsBest h x) (hy : IsBest h' y) (d : Nat) :
    ∀ i : Nat, i ≤ x.length → x.length - i = d → Tl (fun k => diaphonelaw02_HazeRaisesAll.l0 k b x y (i : Int)) true := by
  have hlen := ok.2.1
  have hxl := hx.1
  have hyl := hy.1
  have hlen' : h'.length = h.length := by rw [eh, upn_length]
  induction d with
  | zero =>
    intro i hi hd
    refine Tl.succ ?_
    simp only [diaphonelaw02_HazeRaisesAll.l0]
    exact Tl.neg (by omega) ev_known'
  | succ d ih =>
    intro i hi hd
    have hlt : i < x.length := by omega
    have hlt' : i < y.length := by omega
    obtain ⟨v, w, q1, q2, q3, q4, q5, q6⟩ := IsBest.num ok hx hlt
    obtain ⟨v', w', r1, r2, r3, r4, r5, r6⟩ := IsBest.num ok' hy hlt'
    have next := ih (i + 1) (by omega) (by omega)
    rw [show ((i + 1 : Nat) : Int) = (i : Int) + 1 by omega, ← w64 (x := (i : Int) + 1) (by omega) (by omega)] at next
    have p1 := Rt_pos (n := v) q3
    have p2 := Rt_le (n := v) q3
    have p3 := Rt_nonneg q1 q3
    have p4 := Rt_num_le q1 q3
    have p5 := Rt_cross (n := v) q3
    have s' : Sad (sv h') (sw h') h'.length i (v + b * w) w := by rw [hlen', eh]; exact upn_sad q6
    have hun := s'.unique r6 q3 r3 ok'.up
    have hmul : -100 * (Rt v w).2 ≤ b * (Rt v w).2 ∧ b * (Rt v w).2 ≤ 100 * (Rt v w).2 := ⟨Int.mul_le_mul_of_nonneg_right hb.1 (by omega), Int.mul_le_mul_of_nonneg_right hb.2 (by omega)⟩
    have he : Rt ((Rt v w).1 + b * (Rt v w).2) (Rt v w).2 = Rt v' w' := by
      refine Rt_eq p1 r3 ?_
      have e1 : ((Rt v w).1 + b * (Rt v w).2) * w = (v + b * w) * (Rt v w).2 := by grind
      have e2 : (((Rt v w).1 + b * (Rt v w).2) * w') * w = (v' * (Rt v w).2) * w := by grind
      exact Int.eq_of_mul_eq_mul_right (by omega) e2
    refine Tl.succ ?_
    simp only [diaphonelaw02_HazeRaisesAll.l0]
    rw [rd33 hlt, rd33 hlt', q5, r5]
    simp only [rat]
    rw [w64 (x := b * (Rt v w).2) (by omega) (by omega), w64 (x := (Rt v w).1 + b * (Rt v w).2) (by omega) (by omega)]
    refine Tl.pos (by omega) (Tl.pos (by omega) (Tl.pos (by omega) (Tl.bind (ev_Ratio (by omega) (by omega) (by omega) (by omega)) ?_)))
    rw [he]
    exact Tl.neg (by simp) next
end All
open All
theorem HazeRaisesAll : ∀ (x0 : List (S31)) (x1 : Int), ((∀ y ∈ x0, ((Lit.int .i64 y.f0).wf = true) ∧ ((Lit.int .i64 y.f1).wf = true)) ∧ x0.length ≤ maxLen) → ((Lit.int .i64 x1).wf = true) → ∃ k, diaphonelaw02_HazeRaisesAll.f k x0 x1 = some true := by
  intro h b _ _
  refine Tl.ex (g := fun k => diaphonelaw02_HazeRaisesAll.f k h b) ?_
  unfold diaphonelaw02_HazeRaisesAll.f
  refine by_long (fun hl => ?_)
  have hrl : (raa h b).1.length ≤ 1000 := by
    unfold raa
    split
    · split
      · rw [upn_length]; omega
      · simp
    · simp
  refine Tl.bind (ev_RaiseAll hl b) (Tl.bind (ev_rRaiseAll hl b) (Tl.bind (ev_SameReadings _ hrl) (Tl.pos rfl (Tl.succ ?_))))
  simp only [diaphonelaw02_HazeRaisesAll.j0]
  refine Tl.neg (by simp) ?_
  by_cases hk : vc h = 0
  · have ok := vc_ok.1 hk
    obtain ⟨x, hx, _⟩ := ev_best ok
    by_cases hf : fina h b
    · have e : raa h b = (upn h b h.length, 0) := by simp [raa, hk, hf]
      have ok' := upn_ok ok hf.2
      obtain ⟨y, hy, _⟩ := ev_best ok'
      have hxl := hx.1
      have hyl := hy.1
      rw [upn_length] at hyl
      rw [e]
      refine Tl.bind (ev_Best ok hx) (Tl.bind (ev_Best ok' hy) (Tl.pos rfl (Tl.pos rfl (Tl.pos rfl (Tl.pos ?_ (Tl.bind (ev_fair ok hx) (Tl.succ ?_)))))))
      · simp only [hxl, hyl]
      · simp only [diaphonelaw02_HazeRaisesAll.j1]
        exact Tl.neg (by simp) (loop ok hf.1 rfl ok' hx hy x.length 0 (by omega) (by omega))
    · have e : raa h b = ([], 1) := by simp [raa, hk, hf]
      rw [e]
      exact Tl.bind (ev_Best ok hx) (Tl.bind (ev_Best_bad (by simp) (by simp [vc])) (Tl.neg (by simp) ev_known'))
  · have e : raa h b = ([], vc h) := by simp [raa, hk]
    rw [e]
    exact Tl.bind (ev_Best_bad (by omega) hk) (Tl.bind (ev_Best_bad (by simp) (by simp [vc])) (Tl.neg hk ev_known'))
end Go.Proofs.Ytgdhbeccpicdcaa.Pure
