/- What the last law of the chapter needs besides: the best row falls; the misfit is nothing just where the values fall; blocks and falling values as the program tells them. -/
import Derived.Test.YtgdhbeccpicdcaaTp
import Derived.Test.YtgdhbeccpicdcaaPx35
import Derived.Test.YtgdhbeccpicdcaaPx40
import Derived.Test.YtgdhbeccpicdcaaPx36
set_option linter.unusedVariables false
namespace Go.Proofs.Ytgdhbeccpicdcaa.Tq
open Go.RowKit Go.Proofs.Ytgdhbeccpicdcaa.P Go.Proofs.Ytgdhbeccpicdcaa.E Go.Proofs.Ytgdhbeccpicdcaa.Fr Go.Proofs.Ytgdhbeccpicdcaa.Sd Go.Proofs.Ytgdhbeccpicdcaa.Bl Go.Proofs.Ytgdhbeccpicdcaa.Va Go.Proofs.Ytgdhbeccpicdcaa.Be Go.Proofs.Ytgdhbeccpicdcaa.Kn Go.Proofs.Ytgdhbeccpicdcaa.Me Go.Proofs.Ytgdhbeccpicdcaa.Ra Go.Proofs.Ytgdhbeccpicdcaa.Po Go.Proofs.Ytgdhbeccpicdcaa.Rl Go.Proofs.Ytgdhbeccpicdcaa.Mi Go.Proofs.Ytgdhbeccpicdcaa.Pure Go.Proofs.Ytgdhbeccpicdcaa.Pure.Nea Go.Proofs.Ytgdhbeccpicdcaa.Pure.Pool Go.Proofs.YtgdhbeccpicdcaaW.PrintMore
open Go.Proofs.YtgdhbeccpicdcaaW.PrintWords
theorem sad_fall {sv sw : Nat → Int} {n i : Nat} {p q p' q' : Int} (h : Sad sv sw n (i + 1) p q) (h' : Sad sv sw n i p' q') (hq : 0 < q) (hq' : 0 < q') (hw : Up sw n) : p * q' ≤ p' * q := by
  obtain ⟨f, t, hf, ht, htn, he, hm⟩ := h
  obtain ⟨f', t', hf', ht', htn', he', hm'⟩ := h'
  have a1 := hm f' (by omega)
  have a2 := hm' t htn
  have hY : 0 < sw t - sw f' := by have := hw.lt (show f' < t by omega) htn; omega
  refine mul_le_of_cross (X := sv t - sv f') (Y := sw t - sw f') hq hq' hY ?_ ?_
  · rw [Int.mul_sub, Int.mul_sub]; omega
  · rw [Int.mul_sub, Int.mul_sub]; omega
/-- The best row falls. -/
theorem best_falls {h : List S31} (ok : Ok h) {l : List S33} (hb : IsBest h l) {i : Nat} (hi : i + 1 < l.length) : diaphoneref02_Less.f (rd_T33 l (i : Int)).f0 (rd_T33 l (i : Int)).f1 (rd_T33 l ((i + 1 : Nat) : Int)).f0 (rd_T33 l ((i + 1 : Nat) : Int)).f1 = some false := by
  obtain ⟨v, w, q1, q2, q3, q4, q5, q6⟩ := IsBest.num ok hb (show i < l.length by omega)
  obtain ⟨v', w', r1, r2, r3, r4, r5, r6⟩ := IsBest.num ok hb hi
  rw [rd33 (by omega), rd33 hi, q5, r5]
  simp only [rat]
  rw [less_eq (by omega) (by omega) (by omega) (by omega) (by omega) (by omega) (by omega) (by omega)]
  have := sad_fall r6 q6 r3 q3 ok.up
  congr 1
  rw [decide_eq_false_iff_not]
  omega
/-- The values of the readings fall. -/
def Dn (h : List S31) : Prop := ∀ i : Nat, i + 1 < h.length → (rd_T31 h ((i + 1 : Nat) : Int)).f0 ≤ (rd_T31 h (i : Int)).f0
theorem isf_loop {h : List S31} (hl : h.length ≤ 1000) (d : Nat) : ∀ i : Nat, i + 1 ≤ h.length → h.length - (i + 1) = d →
    ((∀ j : Nat, i ≤ j → j + 1 < h.length → (rd_T31 h ((j + 1 : Nat) : Int)).f0 ≤ (rd_T31 h (j : Int)).f0) ∧ Tl (fun k => haze_IsFalling.l0 k h ((h.length : Int) - 1) (i : Int)) (true, 0)) ∨
    ((∃ j : Nat, j + 1 < h.length ∧ (rd_T31 h (j : Int)).f0 < (rd_T31 h ((j + 1 : Nat) : Int)).f0) ∧ Tl (fun k => haze_IsFalling.l0 k h ((h.length : Int) - 1) (i : Int)) (false, 0)) := by
  induction d with
  | zero =>
    intro i hi hd
    refine .inl ⟨fun j h1 h2 => by omega, Tl.succ ?_⟩
    simp only [haze_IsFalling.l0]; exact Tl.neg (by omega) Tl.now
  | succ d ih =>
    intro i hi hd
    have e1 : wrap64 ((i : Int) + 1) = (i : Int) + 1 := w64 (by omega) (by omega)
    by_cases hc : (rd_T31 h (i : Int)).f0 < (rd_T31 h ((i : Int) + 1)).f0
    · refine .inr ⟨⟨i, by omega, hc⟩, Tl.succ ?_⟩
      simp only [haze_IsFalling.l0, e1]
      exact Tl.pos (by omega) (Tl.pos (by omega) (Tl.pos (by omega) (Tl.pos (by omega) (Tl.pos (by omega) (Tl.pos hc Tl.now)))))
    · have step : ∀ r, Tl (fun k => haze_IsFalling.l0 k h ((h.length : Int) - 1) ((i + 1 : Nat) : Int)) r → Tl (fun k => haze_IsFalling.l0 k h ((h.length : Int) - 1) (i : Int)) r := by
        intro r g
        refine Tl.succ ?_
        simp only [haze_IsFalling.l0, e1]
        exact Tl.pos (by omega) (Tl.pos (by omega) (Tl.pos (by omega) (Tl.pos (by omega) (Tl.pos (by omega) (Tl.neg hc g)))))
      rcases ih (i + 1) (by omega) (by omega) with ⟨g1, g2⟩ | ⟨g1, g2⟩
      · refine .inl ⟨fun j h1 h2 => ?_, step _ g2⟩
        by_cases e : j = i
        · subst e
          exact Int.not_lt.1 hc
        · exact g1 j (by omega) h2
      · exact .inr ⟨g1, step _ g2⟩
theorem ev_IsFalling {h : List S31} (ok : Ok h) : (Dn h ∧ Tl (fun k => haze_IsFalling.f k h) (true, 0)) ∨ (¬ Dn h ∧ Tl (fun k => haze_IsFalling.f k h) (false, 0)) := by
  have hlen := ok.2.1
  have h1 := ok.1
  have e : wrap64 ((h.length : Int) - 1) = (h.length : Int) - 1 := w64 (by omega) (by omega)
  have start : ∀ r, Tl (fun k => haze_IsFalling.l0 k h ((h.length : Int) - 1) ((0 : Nat) : Int)) r → Tl (fun k => haze_IsFalling.f k h) r := by
    intro r g
    unfold haze_IsFalling.f
    rw [e]
    exact Tl.bind (ev_Validate (by omega)) (Tl.pos (vc_ok.2 ok) g)
  rcases isf_loop (h := h) (by omega) (h.length - 1) 0 (by omega) (by omega) with ⟨g1, g2⟩ | ⟨⟨j, g1, g3⟩, g2⟩
  · exact .inl ⟨fun i hi => g1 i (by omega) hi, start _ g2⟩
  · exact .inr ⟨fun q => by have := q j g1; omega, start _ g2⟩
theorem sqn (z : Int) : 0 ≤ z * z := by
  rcases Int.le_total 0 z with q | q
  · exact Int.mul_nonneg q q
  · exact Int.mul_nonneg_of_nonpos_of_nonpos q q
theorem sq0 {z : Int} (hz : z * z ≤ 0) : z = 0 := by
  rcases Int.lt_trichotomy z 0 with q | q | q
  · have := Int.mul_pos_of_neg_of_neg q q; omega
  · exact q
  · have := Int.mul_pos q q; omega
/-- How far the values lie from one slope. -/
def Pz (h : List S31) (a : Nat) (W V : Int) (y : Nat) : Int := W * W * (sq h y - sq h a) - 2 * W * V * (sv h y - sv h a) + V * V * (sw h y - sw h a)
theorem Pz_step (h : List S31) (a : Nat) (W V : Int) (y : Nat) : Pz h a W V (y + 1) = Pz h a W V y + (rd_T31 h (y : Int)).f1 * ((W * (rd_T31 h (y : Int)).f0 - V) * (W * (rd_T31 h (y : Int)).f0 - V)) := by
  unfold Pz
  simp only [sq, sv, sw]
  generalize (rd_T31 h (y : Int)).f0 = v
  generalize (rd_T31 h (y : Int)).f1 = w
  grind
theorem Pz_mono {h : List S31} (ok : Ok h) (a : Nat) (W V : Int) {y z : Nat} (hyz : y ≤ z) (hz : z ≤ h.length) : Pz h a W V y ≤ Pz h a W V z := by
  induction z with
  | zero => obtain rfl : y = 0 := by omega
            exact Int.le_refl _
  | succ z ih =>
    rcases Nat.lt_or_ge y (z + 1) with h1 | h1
    · have i := ih (by omega) (by omega)
      have r := ok.2.2 z (by omega)
      simp only [rok] at r
      have m := Int.mul_nonneg (show 0 ≤ (rd_T31 h (z : Int)).f1 by omega) (sqn (W * (rd_T31 h (z : Int)).f0 - V))
      rw [Pz_step]; omega
    · obtain rfl : y = z + 1 := by omega
      exact Int.le_refl _
/-- Where a block has no misfit, all its values are its mean. -/
theorem zero_block {h : List S31} (ok : Ok h) {a e : Nat} (he : e ≤ h.length) (hz : (sq h e - sq h a) * (sw h e - sw h a) - (sv h e - sv h a) * (sv h e - sv h a) = 0) {i : Nat} (h1 : a ≤ i) (h2 : i < e) : (rd_T31 h (i : Int)).f0 * (sw h e - sw h a) = sv h e - sv h a := by
  have e0 : Pz h a (sw h e - sw h a) (sv h e - sv h a) a = 0 := by unfold Pz; simp
  have e1 : Pz h a (sw h e - sw h a) (sv h e - sv h a) e = 0 := by
    unfold Pz
    generalize sw h e - sw h a = W at *
    generalize sv h e - sv h a = V at *
    generalize sq h e - sq h a = S at *
    have : W * W * S - 2 * W * V * V + V * V * W = W * (S * W - V * V) := by grind
    rw [this, hz, Int.mul_zero]
  have m1 := Pz_mono ok a (sw h e - sw h a) (sv h e - sv h a) h1 (by omega)
  have m2 := Pz_mono ok a (sw h e - sw h a) (sv h e - sv h a) (show i + 1 ≤ e by omega) he
  rw [Pz_step] at m2
  have r := ok.2.2 i (by omega)
  simp only [rok] at r
  have hs := sqn ((sw h e - sw h a) * (rd_T31 h (i : Int)).f0 - (sv h e - sv h a))
  have hz2 : ((sw h e - sw h a) * (rd_T31 h (i : Int)).f0 - (sv h e - sv h a)) * ((sw h e - sw h a) * (rd_T31 h (i : Int)).f0 - (sv h e - sv h a)) ≤ 0 := by
    refine Int.not_lt.1 (fun q => ?_)
    have := Int.mul_pos (show 0 < (rd_T31 h (i : Int)).f1 by omega) q
    omega
  have := sq0 hz2
  rw [Int.mul_comm]
  omega
theorem mis_zero {h : List S31} (ok : Ok h) {l : List (Nat × Nat)} {a : Nat} (hc : Ch (sv h) (sw h) l a) (ha : a ≤ h.length) (hz : (mis h l).1 = 0) :
    ∀ b ∈ l, (sq h b.2 - sq h b.1) * (sw h b.2 - sw h b.1) - (sv h b.2 - sv h b.1) * (sv h b.2 - sv h b.1) = 0 := by
  induction hc with
  | nil => intro b hb; simp at hb
  | @snoc l a e hc hb hf ih =>
    have hae := hb.1
    have inv := (p_ch ok hc (by omega)).1
    obtain ⟨s1, s2, s3, s4, s5, s6, s7⟩ := small ok hae ha inv
    have s := ok.small hae ha
    rw [mis_snoc] at hz
    have d0 := s6.1
    have hcr := Rt_cross (n := (mis h l).1 * (mb h (a, e)).2 + (mb h (a, e)).1 * (mis h l).2) d0
    have hp := Rt_pos (n := (mis h l).1 * (mb h (a, e)).2 + (mb h (a, e)).1 * (mis h l).2) d0
    have hst : (Rt ((mis h l).1 * (mb h (a, e)).2 + (mb h (a, e)).1 * (mis h l).2) ((mis h l).2 * (mb h (a, e)).2)).1 = 0 := hz
    rw [hst, Int.zero_mul] at hcr
    have hn := (Int.mul_eq_zero.1 hcr.symm).resolve_right (by omega)
    have t1 : (mis h l).1 * (mb h (a, e)).2 = 0 := by omega
    have t2 : (mb h (a, e)).1 * (mis h l).2 = 0 := by omega
    have q1 : (mb h (a, e)).2 ≠ 0 := by intro q; rw [q, Int.mul_zero] at d0; omega
    have q2 : (mis h l).2 ≠ 0 := by intro q; rw [q, Int.zero_mul] at d0; omega
    have g1 := (Int.mul_eq_zero.1 t1).resolve_right q1
    have g2 := (Int.mul_eq_zero.1 t2).resolve_right q2
    intro b hb'
    rcases List.mem_append.1 hb' with h1 | h1
    · exact ih (by omega) g1 b h1
    · rw [List.mem_singleton.1 h1]
      have c := Rt_cross (n := (sq h e - sq h a) * (sw h e - sw h a) - (sv h e - sv h a) * (sv h e - sv h a)) s.1
      have p := Rt_pos (n := (sq h e - sq h a) * (sw h e - sw h a) - (sv h e - sv h a) * (sv h e - sv h a)) s.1
      have g3 : (Rt ((sq h e - sq h a) * (sw h e - sw h a) - (sv h e - sv h a) * (sv h e - sv h a)) (sw h e - sw h a)).1 = 0 := g2
      rw [g3, Int.zero_mul] at c
      exact (Int.mul_eq_zero.1 c.symm).resolve_right (by omega)
theorem falls_of_zero {h : List S31} (ok : Ok h) {l : List (Nat × Nat)} (hc : Ch (sv h) (sw h) l h.length) (hz : (mis h l).1 = 0) : Dn h := by
  intro i hi
  obtain ⟨b, hb, h1, h2, h3⟩ := row_get hc i (by omega)
  obtain ⟨b', hb', h1', h2', h3'⟩ := row_get hc (i + 1) (by omega)
  have hin := hc.in b hb
  have hin' := hc.in b' hb'
  have z := zero_block ok hin.2 (mis_zero ok hc (Nat.le_refl _) hz b hb) h1 h2
  have z' := zero_block ok hin'.2 (mis_zero ok hc (Nat.le_refl _) hz b' hb') h1' h2'
  have s := ok.small hin.1 hin.2
  have s' := ok.small hin'.1 hin'.2
  have f := sad_fall (hc.sad ok.up (Nat.le_refl _) b' hb' (i + 1) h1' h2') (hc.sad ok.up (Nat.le_refl _) b hb i h1 h2) s'.1 s.1 ok.up
  rw [← z, ← z'] at f
  have k : ((rd_T31 h ((i + 1 : Nat) : Int)).f0 * (sw h b'.2 - sw h b'.1)) * (sw h b.2 - sw h b.1) ≤ ((rd_T31 h (i : Int)).f0 * (sw h b'.2 - sw h b'.1)) * (sw h b.2 - sw h b.1) := by
    refine Int.le_trans f (Int.le_of_eq ?_)
    rw [Int.mul_assoc, Int.mul_comm (sw h b.2 - sw h b.1), ← Int.mul_assoc]
  exact Int.le_of_mul_le_mul_right (Int.le_of_mul_le_mul_right k s.1) s'.1
theorem zero_of_falls {h : List S31} (ok : Ok h) {l : List (Nat × Nat)} (hc : Ch (sv h) (sw h) l h.length) (hd : Dn h) : (mis h l).1 = 0 := by
  have er : ∀ i : Nat, i < h.length → rd (h.map (·.f0)) (i : Int) = (rd_T31 h (i : Int)).f0 := by
    intro i hi
    rw [rd_lt (by simpa using hi), List.getElem_map, rd31 hi]
  have hf : Fal (h.map (·.f0)) h.length := by
    intro i hi
    rw [er i (by omega), er (i + 1) hi]
    exact hd i hi
  have es : ∀ n, n ≤ h.length → ss h (h.map (·.f0)) n = 0 := by
    intro n
    induction n with
    | zero => intro _; rfl
    | succ n ih =>
      intro hn
      simp only [ss]
      rw [ih (by omega), er n (by omega)]
      simp
  obtain ⟨i, g⟩ := near ok hc (Nat.le_refl _) hf
  rw [es _ (Nat.le_refl _), Int.zero_mul] at g
  have := i.2.2.1
  omega
theorem fair_loop {h : List S31} (ok : Ok h) {l : List S33} (hb : IsBest h l) (d : Nat) : ∀ i : Nat, i ≤ l.length → l.length - i = d → Tl (fun k => diaphonetop_fair.l0 k l (i : Int)) true := by
  have hlen := ok.2.1
  have hll := hb.1
  induction d with
  | zero =>
    intro i h1 h2
    refine Tl.succ ?_
    simp only [diaphonetop_fair.l0]
    exact Tl.neg (by omega) Tl.now
  | succ d ih =>
    intro i h1 h2
    have hlt : i < l.length := by omega
    obtain ⟨v, w, q1, q2, q3, q4, q5, q6⟩ := IsBest.num ok hb hlt
    have b1 := Rt_pos (n := v) q3
    have b2 := Rt_le (n := v) q3
    have b3 := Rt_nonneg q1 q3
    have b4 := Rt_num_le q1 q3
    refine Tl.succ ?_
    simp only [diaphonetop_fair.l0]
    rw [rd33 hlt, q5]
    simp only [rat]
    rw [w64 (x := (i : Int) + 1) (by omega) (by omega)]
    exact Tl.pos (by omega) (Tl.pos (by omega) (Tl.neg (by omega) (Tl.neg (by omega) (Tl.neg (by omega) (Tl.neg (by omega) (ih (i + 1) (by omega) (by omega)))))))
theorem ev_tfair {h : List S31} (ok : Ok h) {l : List S33} (hb : IsBest h l) : Tl (fun k => diaphonetop_fair.f k l) true := fair_loop ok hb l.length 0 (by omega) (by omega)
theorem p_loop {h : List S31} (ok : Ok h) {l : List (Nat × Nat)} (hc : Ch (sv h) (sw h) l h.length) (d : Nat) : ∀ i : Nat, i ≤ l.length → l.length - i = d →
    Tl (fun k => haze_Blocks.l0 k ((l.take i).map (b59 h)) (l.map (bk h)) (l.length : Int) (i : Int)) (l.map (b59 h), 0) := by
  have hlen := ok.2.1
  have hll := Ch.len hc
  induction d with
  | zero =>
    intro i hi hd
    obtain rfl : i = l.length := by omega
    refine Tl.succ ?_
    simp only [haze_Blocks.l0]
    exact Tl.to (Tl.neg (by omega) Tl.now) (by simp)
  | succ d ih =>
    intro i hi hd
    have hlt : i < l.length := by omega
    have hin := hc.in l[i] (List.getElem_mem hlt)
    have s := ok.small hin.1 (show l[i].2 ≤ h.length by omega)
    have next := ih (i + 1) (by omega) (by omega)
    rw [show ((i + 1 : Nat) : Int) = (i : Int) + 1 by omega, List.take_succ_eq_append_getElem hlt, List.map_append] at next
    refine Tl.succ ?_
    simp only [haze_Blocks.l0]
    rw [rd75 (by simpa using hlt), List.getElem_map, w64 (x := (i : Int) + 1) (by omega) (by omega)]
    refine Tl.pos (by omega) (Tl.pos (by omega) (Tl.pos (by simp; omega) ?_))
    refine Tl.bind (ev_block_mean (by simp only [bk]; omega) (by simp only [bk]; omega) (by simp only [bk]; omega) (by simp only [bk]; omega)) (Tl.pos (by simp; omega) ?_)
    exact next
theorem ev_Blocks {h : List S31} (ok : Ok h) {l : List (Nat × Nat)} (hc : Ch (sv h) (sw h) l h.length) (hb : Tl (fun k => haze_blocks.f k h) (l.map (bk h))) : Tl (fun k => haze_Blocks.f k h) (l.map (b59 h), 0) := by
  have hlen := ok.2.1
  unfold haze_Blocks.f
  refine Tl.bind (ev_Validate (by omega)) (Tl.pos (vc_ok.2 ok) (Tl.bind hb ?_))
  rw [List.length_map]
  have := p_loop ok hc l.length 0 (by omega) (by omega)
  simpa using this
theorem ev_MeanIn {h : List S31} (ok : Ok h) {a b : Nat} (hab : a ≤ b) (hb : b < h.length) : Tl (fun k => haze_Mean.f k h (a : Int) (b : Int)) ((M h a (b + 1)).1, (M h a (b + 1)).2, 0) := by
  have hlen := ok.2.1
  refine Tl.to (ev_Mean (h := h) (by omega) (a : Int) (b : Int)) ?_
  have e : hc h (a : Int) (b : Int) = 0 := by
    unfold hc
    rw [if_pos (vc_ok.2 ok), if_pos (by constructor <;> (simp only [inn]; omega))]
  unfold mc
  rw [if_pos e, if_neg (by omega)]
  rfl
/-- The numbers of a mean. -/
theorem M_bd {h : List S31} (ok : Ok h) {a b : Nat} (hab : a < b) (hb : b ≤ h.length) : 1 ≤ (M h a b).2 ∧ (M h a b).2 ≤ 108 ∧ 0 ≤ (M h a b).1 ∧ (M h a b).1 ≤ 10800 := by
  have s := ok.small hab hb
  have b1 := Rt_pos (n := sv h b - sv h a) s.1
  have b2 := Rt_le (n := sv h b - sv h a) s.1
  have b3 := Rt_nonneg s.2.2.1 s.1
  have b4 := Rt_num_le s.2.2.1 s.1
  unfold M
  omega
end Go.Proofs.Ytgdhbeccpicdcaa.Tq
