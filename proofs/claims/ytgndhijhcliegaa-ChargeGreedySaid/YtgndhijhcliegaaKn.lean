/- The chapter's examples. -/
import Derived.Test.YtgndhijhcliegaaVa
import Derived.Test.YtgndhijhcliegaaPx32
import Derived.Test.YtgndhijhcliegaaPx31
import Derived.Test.YtgndhijhcliegaaPx27
set_option linter.unusedVariables false
namespace Go.Proofs.Ytgndhijhcliegaa.Kn
open Go.RowKit Go.Proofs.Ytgndhijhcliegaa.P Go.Proofs.Ytgndhijhcliegaa.E Go.Proofs.Ytgndhijhcliegaa.Va Go.Proofs.YtgndhijhcliegaaW.PrintMore
open Go.Proofs.YtgndhijhcliegaaW.PrintWords
theorem fl_congr {p q : Int → Bool} {n : Nat} (h : ∀ j : Nat, j < n → p j = q j) : charge_where.fl p n = charge_where.fl q n := by
  induction n with
  | zero => rfl
  | succ n ih => rw [charge_where.fl_succ, charge_where.fl_succ, ih (fun j hj => h j (by omega)), h n (by omega)]
/-- What gaps and where come to. -/
theorem ev_gaps {w : List Int} (hw : Wt w) : Tl (fun k => charge_gaps.f k w) (charge_where.fl (fun n => decide (fw w n.toNat < 0)) 901) := by
  obtain ⟨L, hL, _, hf⟩ := ev_fill hw (show 900 ≤ 10000 by omega)
  unfold charge_gaps.f
  obtain ⟨T, hT⟩ : ∃ T, T = tab w (900 + 1) := ⟨_, rfl⟩
  rw [← hT] at hf
  have hl : 900 < T.length := by rw [hT, tab_length]; omega
  have he : charge_where.fl (fun n => !decide (rd T n ≥ 0)) 901 = charge_where.fl (fun n => decide (fw w n.toNat < 0)) 901 := by
    refine fl_congr (fun j hj => ?_)
    rw [hT, tab_rd (by omega), Int.toNat_natCast]
    by_cases c : fw w j < 0
    · rw [decide_eq_true c, decide_eq_false (by omega)]; rfl
    · rw [decide_eq_false c, decide_eq_true (by omega)]; rfl
  rw [← he]
  exact Tl.bind hf (Tl.pos hl Tl.now)
theorem where_tab {w : List Int} {L : List Int} {m : Nat} (hm : m ≤ 1000) : charge_where.f (m : Int) (tab w (m + 1)) L = some (charge_where.fl (fun n => decide (0 ≤ fw w n.toNat)) (m + 1)) := by
  unfold charge_where.f
  rw [if_pos ⟨by omega, by omega, by rw [tab_length]; omega⟩, Int.toNat_natCast]
  congr 1
  refine fl_congr (fun j hj => ?_)
  rw [tab_rd (by omega), Int.toNat_natCast]
theorem mk35 {n : Nat} : (∃ c, Mk [3, 5] n c) ↔ ¬ (n = 1 ∨ n = 2 ∨ n = 4 ∨ n = 7) := by
  have three : ∀ (k n : Nat), (∃ c, Mk [3, 5] n c) → ∃ c, Mk [3, 5] (n + 3 * k) c := by
    intro k
    induction k with
    | zero => intro n h; simpa using h
    | succ k ih =>
      intro n h
      obtain ⟨c, hc⟩ := ih n h
      have := Mk.step (w := [3, 5]) (i := 0) (by simp) hc
      have e : (rd [3, 5] ((0 : Nat) : Int)).toNat = 3 := by decide
      rw [e] at this
      exact ⟨c + 1, by rw [show n + 3 * (k + 1) = n + 3 * k + 3 by omega]; exact this⟩
  have five : ∀ n : Nat, (∃ c, Mk [3, 5] n c) → ∃ c, Mk [3, 5] (n + 5) c := by
    rintro n ⟨c, hc⟩
    have := Mk.step (w := [3, 5]) (i := 1) (by simp) hc
    have e : (rd [3, 5] ((1 : Nat) : Int)).toNat = 5 := by decide
    rw [e] at this
    exact ⟨c + 1, this⟩
  have zero : ∃ c, Mk [3, 5] 0 c := ⟨0, .zero⟩
  constructor
  · rintro ⟨c, hc⟩
    have : ∃ x y : Nat, n = 3 * x + 5 * y := by
      clear three five zero
      induction hc with
      | zero => exact ⟨0, 0, rfl⟩
      | @step n c i hi _ ih =>
        obtain ⟨x, y, e⟩ := ih
        have : i = 0 ∨ i = 1 := by simp at hi; omega
        rcases this with rfl | rfl
        · have e2 : (rd [3, 5] ((0 : Nat) : Int)).toNat = 3 := by decide
          exact ⟨x + 1, y, by rw [e2]; omega⟩
        · have e2 : (rd [3, 5] ((1 : Nat) : Int)).toNat = 5 := by decide
          exact ⟨x, y + 1, by rw [e2]; omega⟩
    obtain ⟨x, y, e⟩ := this
    omega
  · intro h
    have hm := Nat.mod_add_div n 3
    have hl := Nat.mod_lt n (show 3 > 0 by omega)
    rcases (by omega : n % 3 = 0 ∨ n % 3 = 1 ∨ n % 3 = 2) with e | e | e
    · have := three (n / 3) 0 zero
      rw [show 0 + 3 * (n / 3) = n by omega] at this; exact this
    · have := three ((n - 10) / 3) 10 (five 5 (five 0 zero))
      rw [show 10 + 3 * ((n - 10) / 3) = n by omega] at this; exact this
    · have := three ((n - 5) / 3) 5 (five 0 zero)
      rw [show 5 + 3 * ((n - 5) / 3) = n by omega] at this; exact this
theorem mk46 {n : Nat} : (∃ c, Mk [4, 6] n c) ↔ (n % 2 = 0 ∧ n ≠ 2) := by
  have four : ∀ (k n : Nat), (∃ c, Mk [4, 6] n c) → ∃ c, Mk [4, 6] (n + 4 * k) c := by
    intro k
    induction k with
    | zero => intro n h; simpa using h
    | succ k ih =>
      intro n h
      obtain ⟨c, hc⟩ := ih n h
      have := Mk.step (w := [4, 6]) (i := 0) (by simp) hc
      have e : (rd [4, 6] ((0 : Nat) : Int)).toNat = 4 := by decide
      rw [e] at this
      exact ⟨c + 1, by rw [show n + 4 * (k + 1) = n + 4 * k + 4 by omega]; exact this⟩
  have zero : ∃ c, Mk [4, 6] 0 c := ⟨0, .zero⟩
  have six : ∃ c, Mk [4, 6] 6 c := by
    have := Mk.step (w := [4, 6]) (i := 1) (by simp) .zero
    have e : (rd [4, 6] ((1 : Nat) : Int)).toNat = 6 := by decide
    rw [e] at this
    exact ⟨1, this⟩
  constructor
  · rintro ⟨c, hc⟩
    have : ∃ x y : Nat, n = 4 * x + 6 * y := by
      clear four zero six
      induction hc with
      | zero => exact ⟨0, 0, rfl⟩
      | @step n c i hi _ ih =>
        obtain ⟨x, y, e⟩ := ih
        have : i = 0 ∨ i = 1 := by simp at hi; omega
        rcases this with rfl | rfl
        · have e2 : (rd [4, 6] ((0 : Nat) : Int)).toNat = 4 := by decide
          exact ⟨x + 1, y, by rw [e2]; omega⟩
        · have e2 : (rd [4, 6] ((1 : Nat) : Int)).toNat = 6 := by decide
          exact ⟨x, y + 1, by rw [e2]; omega⟩
    obtain ⟨x, y, e⟩ := this
    omega
  · intro h
    rcases (by omega : n % 4 = 0 ∨ n % 4 = 2) with e | e
    · have := four (n / 4) 0 zero
      rw [show 0 + 4 * (n / 4) = n by omega] at this; exact this
    · have := four ((n - 6) / 4) 6 six
      rw [show 6 + 4 * ((n - 6) / 4) = n by omega] at this; exact this
theorem wt35 : Wt [3, 5] := ⟨by decide, by
  intro i hi
  have : i = 0 ∨ i = 1 := by simp at hi; omega
  rcases this with rfl | rfl <;> decide⟩
theorem wt46 : Wt [4, 6] := ⟨by decide, by
  intro i hi
  have : i = 0 ∨ i = 1 := by simp at hi; omega
  rcases this with rfl | rfl <;> decide⟩
theorem gaps35 : charge_where.fl (fun n => decide (fw [3, 5] n.toNat < 0)) 901 = [1, 2, 4, 7] := by
  have e : charge_where.fl (fun n => decide (fw [3, 5] n.toNat < 0)) 901 = charge_where.fl (fun n => decide (n = 1 ∨ n = 2 ∨ n = 4 ∨ n = 7)) 901 := by
    refine fl_congr (fun j hj => decide_eq_decide.2 ?_)
    rw [Int.toNat_natCast, ← Int.not_le, fw_nonneg, mk35]
    omega
  rw [e]
  decide +kernel
theorem res46 : (charge_Residues.l0 1000 [4, 6] [-1, -1, -1, -1] (charge_where.fl (fun n => decide (n % 2 = 0 ∧ n ≠ 2)) 901) 450 0) = some ([0, -1, 6, -1], 0) := by decide +kernel
theorem len46 : (charge_where.fl (fun n => decide (n % 2 = 0 ∧ n ≠ 2)) 901).length = 450 := by decide +kernel
theorem measure35 : charge_measure.f 50 [3, 5] = some 1 := by decide +kernel
theorem ev_Gaps35 : Tl (fun k => charge_Gaps.f k [3, 5]) ([1, 2, 4, 7], 0) := by
  unfold charge_Gaps.f charge_single.f
  have hm : Tl (fun k => charge_measure.f k [3, 5]) 1 := Tl.mono (charge_measure.mono _) 50 measure35
  refine Tl.bind (Tl.bind (ev_Validate [3, 5]) (Tl.pos (by decide) (Tl.bind hm (Tl.pos rfl Tl.now)))) (Tl.pos rfl ?_)
  have := ev_gaps wt35
  rw [gaps35] at this
  exact Tl.bind this Tl.now
theorem ev_Residues46 : Tl (fun k => charge_Residues.f k [4, 6]) ([0, -1, 6, -1], 0) := by
  obtain ⟨L, hL, _, hf⟩ := ev_fill wt46 (show 900 ≤ 10000 by omega)
  unfold charge_Residues.f
  obtain ⟨T, hT⟩ : ∃ T, T = tab [4, 6] (900 + 1) := ⟨_, rfl⟩
  have hw := where_tab (w := [4, 6]) (L := L) (m := 900) (by omega)
  have e : charge_where.fl (fun n => decide (0 ≤ fw [4, 6] n.toNat)) (900 + 1) = charge_where.fl (fun n => decide (n % 2 = 0 ∧ n ≠ 2)) 901 := by
    refine fl_congr (fun j hj => decide_eq_decide.2 ?_)
    rw [Int.toNat_natCast, fw_nonneg, mk46]
    omega
  rw [e, ← hT] at hw
  rw [← hT] at hf
  obtain ⟨R, hR⟩ : ∃ R, R = charge_where.fl (fun n => decide (n % 2 = 0 ∧ n ≠ 2)) 901 := ⟨_, rfl⟩
  have hr := res46
  have hrl := len46
  rw [← hR] at hw hr hrl
  refine Tl.bind (ev_Validate [4, 6]) (Tl.pos (by decide) (Tl.pos (by decide) (Tl.bind' (a := [-1, -1, -1, -1]) (by decide +kernel) (Tl.bind hf (Tl.bind' hw ?_)))))
  rw [hrl]
  exact Tl.mono (fun k => (charge_Residues.mono_l k) _ _ _ _ _) 1000 hr
theorem fewest134 : charge_Fewest.f 200 [1, 3, 4] 6 = some (2, true, 0) := by decide +kernel
theorem ev_sane : Tl (fun k => diaphonelaw07_sane.f k) true := by
  unfold diaphonelaw07_sane.f
  have f6 : Tl (fun k => charge_Fewest.f k [1, 3, 4] 6) (2, true, 0) := Tl.mono (charge_Fewest.mono _ _) 200 fewest134
  have s1 : Tl (fun k => diaphoneref07_SameInts.f k [1, 2, 4, 7] [1, 2, 4, 7]) true := Tl.mono (diaphoneref07_SameInts.mono _ _) 20 (by decide +kernel)
  have s2 : Tl (fun k => diaphoneref07_SameInts.f k [0, -1, 6, -1] [0, -1, 6, -1]) true := Tl.mono (diaphoneref07_SameInts.mono _ _) 20 (by decide +kernel)
  exact Tl.bind ev_Gaps35 (Tl.bind ev_Residues46 (Tl.bind f6 (Tl.pos rfl (Tl.bind s1 (Tl.pos rfl (Tl.pos rfl (Tl.bind s2 (Tl.pos rfl (Tl.pos rfl (Tl.pos rfl (Tl.to Tl.now (by decide))))))))))))
theorem ev_sane' : Tl (fun k => (diaphonelaw07_sane.f k).bind fun t => some t) true := Tl.bind ev_sane Tl.now
/-- Lists that are too long for a statement. -/
theorem ev_Long1 (w : List Int) : Tl (fun k => diaphonelaw07_Long.f k [w]) (decide ((w.length : Int) > 50)) := by
  unfold diaphonelaw07_Long.f
  refine Tl.succ ?_
  simp only [diaphonelaw07_Long.l0]
  have e : rd_L1 [w] 0 = w := rfl
  rw [e]
  refine Tl.pos (by simp) (Tl.pos (by omega) ?_)
  by_cases c : (w.length : Int) > 50
  · exact Tl.to (Tl.pos c Tl.now) (decide_eq_true c).symm
  · refine Tl.neg c (Tl.succ ?_)
    simp only [diaphonelaw07_Long.l0]
    exact Tl.to (Tl.neg (by unfold wrap64; simp) Tl.now) (decide_eq_false c).symm
theorem by_long {w : List Int} {g : Nat → Option Bool} (hg : w.length ≤ 50 → Tl g true) : Tl (fun k => (diaphonelaw07_Long.f k [w]).bind fun t => if t = true then ((diaphonelaw07_sane.f k).bind fun t => some t) else g k) true := by
  refine Tl.bind (ev_Long1 w) ?_
  by_cases c : (w.length : Int) > 50
  · exact Tl.pos (decide_eq_true c) ev_sane'
  · exact Tl.neg (by simpa using c) (hg (by omega))
end Go.Proofs.Ytgndhijhcliegaa.Kn
