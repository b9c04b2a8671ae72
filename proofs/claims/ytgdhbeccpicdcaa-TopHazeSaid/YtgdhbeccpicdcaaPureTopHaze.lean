/- Proved here: for every list of readings, every row of numbers and every hour, the best row is told by the smallest of the greatest means, by its blocks and by what stays when two readings are pooled; it falls, and no falling row of whole numbers is nearer; it holds under no condition. -/
import Derived.Test.YtgdhbeccpicdcaaTq
import Derived.Test.YtgdhbeccpicdcaaPx57
set_option linter.unusedVariables false
namespace Go.Proofs.Ytgdhbeccpicdcaa.Pure
open Go.RowKit Go.Proofs.Ytgdhbeccpicdcaa.P Go.Proofs.Ytgdhbeccpicdcaa.E Go.Proofs.Ytgdhbeccpicdcaa.Fr Go.Proofs.Ytgdhbeccpicdcaa.Sd Go.Proofs.Ytgdhbeccpicdcaa.Bl Go.Proofs.Ytgdhbeccpicdcaa.Va Go.Proofs.Ytgdhbeccpicdcaa.Be Go.Proofs.Ytgdhbeccpicdcaa.Kn Go.Proofs.Ytgdhbeccpicdcaa.Me Go.Proofs.Ytgdhbeccpicdcaa.Ra Go.Proofs.Ytgdhbeccpicdcaa.Po Go.Proofs.Ytgdhbeccpicdcaa.Rl Go.Proofs.Ytgdhbeccpicdcaa.Mi Go.Proofs.Ytgdhbeccpicdcaa.Pure.Nea Go.Proofs.Ytgdhbeccpicdcaa.Pure.Pool Go.Proofs.Ytgdhbeccpicdcaa.Tq Go.Proofs.YtgdhbeccpicdcaaW.PrintMore
open Go.Proofs.YtgdhbeccpicdcaaW.PrintWords
namespace Top
variable {h : List S31} {r : List Int} {x2 : Int} {l : List S33} {B : List S59} {m0 m1 lo0 lo1 : Int}
theorem l2_loop (ok : Ok h) (hll : l.length = h.length) {a i : Nat} (hai : a ≤ i) (d : Nat) : ∀ (j t : Nat), i < j → j ≤ h.length → h.length - j = d → Hi h a i j t →
    ∃ t', Hi h a i h.length t' ∧ ∀ ans, Tl (fun k => diaphonetop_TopHaze.l2 k h r x2 l B (i : Int) (a : Int) (h.length : Int) m0 m1 lo0 lo1 (M h a t').1 (M h a t').2) ans → Tl (fun k => diaphonetop_TopHaze.l2 k h r x2 l B (i : Int) (a : Int) (j : Int) m0 m1 lo0 lo1 (M h a t).1 (M h a t).2) ans := by
  induction d with
  | zero =>
    intro j t h1 h2 h3 h4
    obtain rfl : j = h.length := by omega
    exact ⟨t, h4, fun ans hr => hr⟩
  | succ d ih =>
    intro j t h1 h2 h3 h4
    obtain ⟨t1, t2, t3⟩ := h4
    have hlen := ok.2.1
    have s := ok.small (show a < t by omega) (show t ≤ h.length by omega)
    have s' := ok.small (show a < j + 1 by omega) (show j + 1 ≤ h.length by omega)
    have mb := M_bd ok (show a < j + 1 by omega) (show j + 1 ≤ h.length by omega)
    have body : ∀ ans, Tl (fun k => if (decide ((sv h t - sv h a) * (sw h (j + 1) - sw h a) < (sv h (j + 1) - sv h a) * (sw h t - sw h a))) = true then (diaphonetop_TopHaze.l2 k h r x2 l B (i : Int) (a : Int) (wrap64 ((j : Int) + 1)) m0 m1 lo0 lo1 (M h a (j + 1)).1 (M h a (j + 1)).2) else (diaphonetop_TopHaze.l2 k h r x2 l B (i : Int) (a : Int) (wrap64 ((j : Int) + 1)) m0 m1 lo0 lo1 (M h a t).1 (M h a t).2)) ans →
        Tl (fun k => diaphonetop_TopHaze.l2 k h r x2 l B (i : Int) (a : Int) (j : Int) m0 m1 lo0 lo1 (M h a t).1 (M h a t).2) ans := by
      intro ans hb
      refine Tl.succ ?_
      simp only [diaphonetop_TopHaze.l2]
      refine Tl.pos (by omega) (Tl.bind (ev_MeanIn ok (by omega) (by omega)) (Tl.pos rfl (Tl.neg (by show ¬ (M h a (j + 1)).2 < 1; omega) (Tl.neg (by show ¬ (M h a (j + 1)).2 > 1000; omega) (Tl.neg (by show ¬ (M h a (j + 1)).1 < 0; omega) (Tl.succ ?_))))))
      simp only [diaphonetop_TopHaze.j6]
      exact Tl.neg (by simp; omega) (Tl.neg (by omega) (Tl.bind' (less_eq (by omega) (by omega) (by omega) (by omega) (by omega) (by omega) (by omega) (by omega)) hb))
    by_cases hc : (sv h t - sv h a) * (sw h (j + 1) - sw h a) < (sv h (j + 1) - sv h a) * (sw h t - sw h a)
    · have hi : Hi h a i (j + 1) (j + 1) := by
        refine ⟨by omega, Nat.le_refl _, fun t' h5 h6 => ?_⟩
        rcases Nat.lt_or_ge j t' with h7 | h7
        · obtain rfl : t' = j + 1 := by omega
          exact Int.le_refl _
        · have k1 := t3 t' h5 h7
          have s2 := ok.small (show a < t' by omega) (show t' ≤ h.length by omega)
          have k2 := Int.mul_le_mul_of_nonneg_right k1 (Int.le_of_lt s'.1)
          have k3 := Int.mul_le_mul_of_nonneg_right (Int.le_of_lt hc) (Int.le_of_lt s2.1)
          have k4 : ((sv h t' - sv h a) * (sw h (j + 1) - sw h a)) * (sw h t - sw h a) ≤ ((sv h (j + 1) - sv h a) * (sw h t' - sw h a)) * (sw h t - sw h a) := by grind
          exact Int.le_of_mul_le_mul_right k4 s.1
      obtain ⟨t', ht', hr⟩ := ih (j + 1) (j + 1) (by omega) (by omega) (by omega) hi
      refine ⟨t', ht', fun ans hq => body ans (Tl.pos (decide_eq_true hc) ?_)⟩
      rw [w64 (by omega) (by omega)]
      exact hr ans hq
    · have hi : Hi h a i (j + 1) t := by
        refine ⟨t1, by omega, fun t' h5 h6 => ?_⟩
        rcases Nat.lt_or_ge j t' with h7 | h7
        · obtain rfl : t' = j + 1 := by omega
          omega
        · exact t3 t' h5 h7
      obtain ⟨t', ht', hr⟩ := ih (j + 1) t (by omega) (by omega) (by omega) hi
      refine ⟨t', ht', fun ans hq => body ans (Tl.neg (by simpa using hc) ?_)⟩
      rw [w64 (by omega) (by omega)]
      exact hr ans hq
theorem l2_start (ok : Ok h) (hll : l.length = h.length) {a i : Nat} (hai : a ≤ i) (hi : i < h.length) {hi0 hi1 : Int} :
    ∃ t', Hi h a i h.length t' ∧ ∀ ans, Tl (fun k => diaphonetop_TopHaze.l2 k h r x2 l B (i : Int) (a : Int) (h.length : Int) m0 m1 lo0 lo1 (M h a t').1 (M h a t').2) ans → Tl (fun k => diaphonetop_TopHaze.l2 k h r x2 l B (i : Int) (a : Int) (i : Int) m0 m1 lo0 lo1 hi0 hi1) ans := by
  have hlen := ok.2.1
  have mb := M_bd ok (show a < i + 1 by omega) (show i + 1 ≤ h.length by omega)
  have h0 : Hi h a i (i + 1) (i + 1) := ⟨by omega, Nat.le_refl _, fun t' h5 h6 => by obtain rfl : t' = i + 1 := by omega
                                                                                     exact Int.le_refl _⟩
  obtain ⟨t', ht', hr⟩ := l2_loop (r := r) (x2 := x2) (B := B) (m0 := m0) (m1 := m1) (lo0 := lo0) (lo1 := lo1) ok hll hai (h.length - (i + 1)) (i + 1) (i + 1) (by omega) (by omega) rfl h0
  refine ⟨t', ht', fun ans hq => Tl.succ ?_⟩
  simp only [diaphonetop_TopHaze.l2]
  refine Tl.pos (by omega) (Tl.bind (ev_MeanIn ok (by omega) (by omega)) (Tl.pos rfl (Tl.neg (by show ¬ (M h a (i + 1)).2 < 1; omega) (Tl.neg (by show ¬ (M h a (i + 1)).2 > 1000; omega) (Tl.neg (by show ¬ (M h a (i + 1)).1 < 0; omega) (Tl.succ ?_))))))
  simp only [diaphonetop_TopHaze.j6]
  refine Tl.neg (by simp; omega) (Tl.pos trivial ?_)
  rw [w64 (by omega) (by omega)]
  exact hr ans hq
theorem l1_loop (ok : Ok h) (hll : l.length = h.length) {i : Nat} (hi : i < h.length) (d : Nat) : ∀ (j a t : Nat), 1 ≤ j → j ≤ i + 1 → i + 1 - j = d → a ≤ i → Hi h a i h.length t →
    (∀ a', a' < j → ∃ t', Hi h a' i h.length t' ∧ (sv h t - sv h a) * (sw h t' - sw h a') ≤ (sv h t' - sv h a') * (sw h t - sw h a)) →
    ∃ a2 t2, a2 ≤ i ∧ Hi h a2 i h.length t2 ∧ (∀ a', a' ≤ i → ∃ t', Hi h a' i h.length t' ∧ (sv h t2 - sv h a2) * (sw h t' - sw h a') ≤ (sv h t' - sv h a') * (sw h t2 - sw h a2)) ∧
      ∀ ans, Tl (fun k => diaphonetop_TopHaze.l1 k h r x2 l B (i : Int) ((i : Int) + 1) m0 m1 (M h a2 t2).1 (M h a2 t2).2) ans → Tl (fun k => diaphonetop_TopHaze.l1 k h r x2 l B (i : Int) (j : Int) m0 m1 (M h a t).1 (M h a t).2) ans := by
  induction d with
  | zero =>
    intro j a t h1 h2 h3 h4 h5 h6
    obtain rfl : j = i + 1 := by omega
    refine ⟨a, t, h4, h5, fun a' ha' => h6 a' (by omega), fun ans hr => hr⟩
  | succ d ih =>
    intro j a t h1 h2 h3 h4 h5 h6
    have hlen := ok.2.1
    obtain ⟨t', ht', hr'⟩ := l2_start (r := r) (x2 := x2) (B := B) (m0 := m0) (m1 := m1) (lo0 := (M h a t).1) (lo1 := (M h a t).2) (hi0 := 0) (hi1 := 0) ok hll (show j ≤ i by omega) hi
    have s := ok.small (show a < t by have := h5.1; omega) h5.2.1
    have s' := ok.small (show j < t' by have := ht'.1; omega) ht'.2.1
    have body : ∀ ans, Tl (fun k => if (decide ((sv h t' - sv h j) * (sw h t - sw h a) < (sv h t - sv h a) * (sw h t' - sw h j))) = true then (diaphonetop_TopHaze.l1 k h r x2 l B (i : Int) (wrap64 ((j : Int) + 1)) m0 m1 (M h j t').1 (M h j t').2) else (diaphonetop_TopHaze.l1 k h r x2 l B (i : Int) (wrap64 ((j : Int) + 1)) m0 m1 (M h a t).1 (M h a t).2)) ans →
        Tl (fun k => diaphonetop_TopHaze.l1 k h r x2 l B (i : Int) (j : Int) m0 m1 (M h a t).1 (M h a t).2) ans := by
      intro ans hb
      refine Tl.succ ?_
      simp only [diaphonetop_TopHaze.l1]
      refine Tl.pos (by omega) (hr' ans (Tl.succ ?_))
      simp only [diaphonetop_TopHaze.l2]
      exact Tl.neg (by omega) (Tl.neg (by omega) (Tl.bind' (less_eq (by omega) (by omega) (by omega) (by omega) (by omega) (by omega) (by omega) (by omega)) hb))
    by_cases hc : (sv h t' - sv h j) * (sw h t - sw h a) < (sv h t - sv h a) * (sw h t' - sw h j)
    · obtain ⟨a2, t2, g1, g2, g3, g4⟩ := ih (j + 1) j t' (by omega) (by omega) (by omega) (by omega) ht' (by
        intro a' ha'
        rcases Nat.lt_or_ge a' j with h7 | h7
        · obtain ⟨t'', u1, u2⟩ := h6 a' h7
          refine ⟨t'', u1, ?_⟩
          have s2 := ok.small (show a' < t'' by have := u1.1; omega) u1.2.1
          have k2 := Int.mul_le_mul_of_nonneg_right u2 (Int.le_of_lt s'.1)
          have k3 := Int.mul_le_mul_of_nonneg_right (Int.le_of_lt hc) (Int.le_of_lt s2.1)
          have k4 : ((sv h t' - sv h j) * (sw h t'' - sw h a')) * (sw h t - sw h a) ≤ ((sv h t'' - sv h a') * (sw h t' - sw h j)) * (sw h t - sw h a) := by grind
          exact Int.le_of_mul_le_mul_right k4 s.1
        · obtain rfl : a' = j := by omega
          exact ⟨t', ht', Int.le_refl _⟩)
      refine ⟨a2, t2, g1, g2, g3, fun ans hr => body ans (Tl.pos (decide_eq_true hc) ?_)⟩
      rw [w64 (by omega) (by omega)]
      exact g4 ans hr
    · obtain ⟨a2, t2, g1, g2, g3, g4⟩ := ih (j + 1) a t (by omega) (by omega) (by omega) h4 h5 (by
        intro a' ha'
        rcases Nat.lt_or_ge a' j with h7 | h7
        · exact h6 a' h7
        · obtain rfl : a' = j := by omega
          exact ⟨t', ht', by omega⟩)
      refine ⟨a2, t2, g1, g2, g3, fun ans hr => body ans (Tl.neg (by simpa using hc) ?_)⟩
      rw [w64 (by omega) (by omega)]
      exact g4 ans hr
theorem l0_loop (ok : Ok h) (hb : IsBest h l) {ans : Bool} (H : Tl (fun k => diaphonetop_TopHaze.l3 k h r x2 l B 0 0 m0 m1) ans) (d : Nat) : ∀ i : Nat, i ≤ h.length → h.length - i = d → Tl (fun k => diaphonetop_TopHaze.l0 k h r x2 l B (i : Int) m0 m1) ans := by
  have hll := hb.1
  have hlen := ok.2.1
  induction d with
  | zero =>
    intro i h1 h2
    refine Tl.succ ?_
    simp only [diaphonetop_TopHaze.l0]
    exact Tl.neg (by omega) H
  | succ d ih =>
    intro i h1 h2
    have hi : i < h.length := by omega
    have next := ih (i + 1) (by omega) (by omega)
    obtain ⟨f0, t0, q1, q2, q3, q4, q5⟩ := hb.2 i (by omega)
    obtain ⟨t, ht, hr⟩ := l2_start (r := r) (x2 := x2) (B := B) (m0 := m0) (m1 := m1) (lo0 := 0) (lo1 := 0) (hi0 := 0) (hi1 := 0) ok hll (show 0 ≤ i by omega) hi
    obtain ⟨a2, t2, g1, g2, g3, g4⟩ := l1_loop (r := r) (x2 := x2) (B := B) (m0 := m0) (m1 := m1) ok hll hi i 1 0 t (by omega) (by omega) (by omega) (by omega) ht (by
      intro a' ha'
      obtain rfl : a' = 0 := by omega
      exact ⟨t, ht, Int.le_refl _⟩)
    have e := minmax ok q4 q1 q2 q3 g1 g2 g3
    have el : rd_T33 l (i : Int) = rat (M h a2 t2) := by rw [rd33 (by omega), q5, e]
    refine Tl.succ ?_
    simp only [diaphonetop_TopHaze.l0]
    refine Tl.pos (by omega) (Tl.succ ?_)
    simp only [diaphonetop_TopHaze.l1]
    refine Tl.pos (by omega) (hr ans (Tl.succ ?_))
    simp only [diaphonetop_TopHaze.l2]
    refine Tl.neg (by omega) (Tl.pos (by omega) ?_)
    rw [show wrap64 (((0 : Nat) : Int) + 1) = ((1 : Nat) : Int) by rw [w64 (by omega) (by omega)]; omega]
    refine g4 ans (Tl.succ ?_)
    simp only [diaphonetop_TopHaze.l1]
    rw [w64 (x := (i : Int) + 1) (by omega) (by omega)]
    refine Tl.neg (by omega) (Tl.pos (by omega) (Tl.pos (by omega) (Tl.neg (by rw [el]; simp [rat]) ?_)))
    by_cases h0 : (i : Int) > 0
    · refine Tl.pos h0 ?_
      rw [w64 (x := (i : Int) - 1) (by omega) (by omega)]
      obtain ⟨j, rfl⟩ : ∃ j, i = j + 1 := ⟨i - 1, by omega⟩
      have f := best_falls ok hb (i := j) (by omega)
      rw [show ((j + 1 : Nat) : Int) - 1 = (j : Int) by omega]
      exact Tl.pos (by omega) (Tl.pos (by omega) (Tl.bind' f (Tl.neg (by simp) next)))
    · exact Tl.neg h0 next
theorem l4_loop (ok : Ok h) (hll : l.length = h.length) {a e n : Nat} (he : e ≤ h.length) (hn : n < B.length) (hB : rd_T59 B (n : Int) = b59 h (a, e)) (hR : ∀ i, a ≤ i → i < e → l[i]? = some (rat (M h a e))) (hBl : B.length ≤ 100) {ans : Bool}
    (H : Tl (fun k => diaphonetop_TopHaze.l3 k h r x2 l B (e : Int) ((n : Int) + 1) m0 m1) ans) (d : Nat) : ∀ j : Nat, a ≤ j → j ≤ e → e - j = d → Tl (fun k => diaphonetop_TopHaze.l4 k h r x2 l B (j : Int) (n : Int) m0 m1) ans := by
  have hlen := ok.2.1
  induction d with
  | zero =>
    intro j h1 h2 h3
    obtain rfl : j = e := by omega
    refine Tl.succ ?_
    simp only [diaphonetop_TopHaze.l4]
    rw [hB, w64 (x := (n : Int) + 1) (by omega) (by omega)]
    exact Tl.pos (by omega) (Tl.pos (by omega) (Tl.neg (by simp only [b59]; omega) H))
  | succ d ih =>
    intro j h1 h2 h3
    have next := ih (j + 1) (by omega) (by omega) (by omega)
    refine Tl.succ ?_
    simp only [diaphonetop_TopHaze.l4]
    rw [hB, rd33' (hR j (by omega) (by omega)), w64 (x := (j : Int) + 1) (by omega) (by omega)]
    exact Tl.pos (by omega) (Tl.pos (by omega) (Tl.pos (by simp only [b59]; omega) (Tl.pos (by omega) (Tl.pos (by omega) (Tl.neg (by simp [b59]) next)))))
theorem l3_ch (ok : Ok h) (hll : l.length = h.length) {c : List (Nat × Nat)} {a : Nat} (hc : Ch (sv h) (sw h) c a) (ha : a ≤ h.length) : ∀ (rest full : List (Nat × Nat)), full = c ++ rest → full.length ≤ 100 → (∀ b ∈ c, ∀ i, b.1 ≤ i → i < b.2 → l[i]? = some (rat (M h b.1 b.2))) → ∀ ans : Bool,
    Tl (fun k => diaphonetop_TopHaze.l3 k h r x2 l (full.map (b59 h)) (a : Int) (c.length : Int) m0 m1) ans → Tl (fun k => diaphonetop_TopHaze.l3 k h r x2 l (full.map (b59 h)) 0 0 m0 m1) ans := by
  induction hc with
  | nil => exact fun rest full _ _ _ ans H => H
  | @snoc c a e hc hb hf ih =>
    have hae := hb.1
    have hlen := ok.2.1
    intro rest full hfull hlf hR ans H
    refine ih (by omega) ((a, e) :: rest) full (by rw [hfull]; simp) hlf (fun b hb' => hR b (List.mem_append_left _ hb')) ans ?_
    have hcl : c.length < full.length := by rw [hfull]; simp <;> omega
    have hget : rd_T59 (full.map (b59 h)) (c.length : Int) = b59 h (a, e) := by
      rw [rd59 (by simpa using hcl), List.getElem_map]
      congr 1
      simp [hfull]
    have H' : Tl (fun k => diaphonetop_TopHaze.l3 k h r x2 l (full.map (b59 h)) (e : Int) ((c.length : Int) + 1) m0 m1) ans := by simpa using H
    have key := l4_loop (a := a) ok hll ha (by simpa using hcl) hget (hR (a, e) (by simp)) (by simpa using hlf) H' (e - a) a (by omega) (by omega) rfl
    refine Tl.succ ?_
    simp only [diaphonetop_TopHaze.l3]
    rw [hget]
    refine Tl.pos (by simp; omega) (Tl.pos (by omega) (Tl.pos rfl (Tl.neg (by simp only [b59]; omega) (Tl.succ ?_))))
    simp only [diaphonetop_TopHaze.j8]
    exact Tl.neg (by simp [b59]; omega) key
theorem l5_loop (ok : Ok h) (hr : r.length = h.length) {n d : Int} (hd : 0 < d) (hn : 0 ≤ n) (hd2 : d ≤ 9000000000000000000) (hn2 : n ≤ 9000000000000000000) (hle : Fal r h.length → n ≤ ss h r h.length * d) (c : Nat) :
    ∀ i : Nat, i ≤ h.length → h.length - i = c → Fal r i → (0 ≤ ss h r i ∧ ss h r i ≤ 10000000 * i) → Tl (fun k => diaphonetop_TopHaze.l5 k h r (ss h r i) (i : Int) n d) true := by
  have hlen := ok.2.1
  induction c with
  | zero =>
    intro i h1 h2 h3 h4
    obtain rfl : i = h.length := by omega
    have hle := hle h3
    have e1 : Int.tdiv n d = n / d := Int.tdiv_eq_ediv_of_nonneg hn
    have e2 : Int.tmod n d = n % d := Int.tmod_eq_emod_of_nonneg hn
    have f1 : d * (n / d) + n % d = n := Int.mul_ediv_add_emod n d
    have f2 := Int.emod_nonneg n (show d ≠ 0 by omega)
    have f3 := Int.ediv_nonneg hn (Int.le_of_lt hd)
    have f4 : n / d ≤ n := Int.ediv_le_self _ hn
    refine Tl.succ ?_
    simp only [diaphonetop_TopHaze.l5]
    rw [e1, e2, w64 (x := n / d) (by omega) (by omega)]
    refine Tl.neg (by omega) (Tl.neg (by omega) ?_)
    by_cases c1 : n / d < ss h r h.length
    · exact Tl.pos c1 Tl.now
    · have c2 : n / d ≤ ss h r h.length := by
        have : n / d ≤ (ss h r h.length * d) / d := Int.ediv_le_ediv hd hle
        rwa [Int.mul_ediv_cancel _ (show d ≠ 0 by omega)] at this
      have c3 : n / d = ss h r h.length := by omega
      refine Tl.neg c1 (Tl.pos c3 (Tl.to Tl.now ?_))
      rw [c3, Int.mul_comm d] at f1
      rw [beq_iff_eq]
      omega
  | succ c ih =>
    intro i h1 h2 h3 h4
    have hlt : i < h.length := by omega
    have q := ok.2.2 i hlt
    simp only [rok] at q
    refine Tl.succ ?_
    simp only [diaphonetop_TopHaze.l5]
    refine Tl.pos (by omega) (Tl.pos (by omega) ?_)
    by_cases c1 : rd r (i : Int) < 0
    · exact Tl.pos c1 Tl.now
    refine Tl.neg c1 ?_
    by_cases c2 : rd r (i : Int) > 1000
    · exact Tl.pos c2 Tl.now
    refine Tl.neg c2 ?_
    have g1 : 0 ≤ ((rd_T31 h (i : Int)).f0 - rd r (i : Int)) * ((rd_T31 h (i : Int)).f0 - rd r (i : Int)) ∧ ((rd_T31 h (i : Int)).f0 - rd r (i : Int)) * ((rd_T31 h (i : Int)).f0 - rd r (i : Int)) ≤ 1000 * 1000 := by
      rcases Int.le_total 0 ((rd_T31 h (i : Int)).f0 - rd r (i : Int)) with z | z
      · exact mulb z (by omega) z (by omega)
      · have := mulb (a := -((rd_T31 h (i : Int)).f0 - rd r (i : Int))) (A := 1000) (by omega) (by omega) (b := -((rd_T31 h (i : Int)).f0 - rd r (i : Int))) (B := 1000) (by omega) (by omega)
        rwa [Int.neg_mul_neg] at this
    have g2 := mulb (a := (rd_T31 h (i : Int)).f1) (A := 9) (by omega) (by omega) g1.1 g1.2
    have g3 : (rd_T31 h (i : Int)).f1 * ((rd_T31 h (i : Int)).f0 - rd r (i : Int)) * ((rd_T31 h (i : Int)).f0 - rd r (i : Int)) = (rd_T31 h (i : Int)).f1 * (((rd_T31 h (i : Int)).f0 - rd r (i : Int)) * ((rd_T31 h (i : Int)).f0 - rd r (i : Int))) := Int.mul_assoc _ _ _
    have g4 : -9000 ≤ (rd_T31 h (i : Int)).f1 * ((rd_T31 h (i : Int)).f0 - rd r (i : Int)) ∧ (rd_T31 h (i : Int)).f1 * ((rd_T31 h (i : Int)).f0 - rd r (i : Int)) ≤ 900 := by
      rw [Int.mul_sub]
      have a1 := mulb (a := (rd_T31 h (i : Int)).f1) (A := 9) (by omega) (by omega) (b := (rd_T31 h (i : Int)).f0) (B := 100) (by omega) (by omega)
      have a2 := mulb (a := (rd_T31 h (i : Int)).f1) (A := 9) (by omega) (by omega) (b := rd r (i : Int)) (B := 1000) (by omega) (by omega)
      omega
    have es : ss h r (i + 1) = ss h r i + (rd_T31 h (i : Int)).f1 * ((rd_T31 h (i : Int)).f0 - rd r (i : Int)) * ((rd_T31 h (i : Int)).f0 - rd r (i : Int)) := rfl
    have next : Fal r (i + 1) → Tl (fun k => diaphonetop_TopHaze.l5 k h r (wrap64 (ss h r i + (wrap64 ((wrap64 (((rd_T31 h (i : Int)).f1) * (wrap64 (((rd_T31 h (i : Int)).f0) - (rd r (i : Int)))))) * (wrap64 (((rd_T31 h (i : Int)).f0) - (rd r (i : Int)))))))) (wrap64 ((i : Int) + 1)) n d) true := by
      intro hf
      rw [w64 (x := (rd_T31 h (i : Int)).f0 - rd r (i : Int)) (by omega) (by omega), w64 (x := (rd_T31 h (i : Int)).f1 * ((rd_T31 h (i : Int)).f0 - rd r (i : Int))) (by omega) (by omega),
        w64 (x := (rd_T31 h (i : Int)).f1 * ((rd_T31 h (i : Int)).f0 - rd r (i : Int)) * ((rd_T31 h (i : Int)).f0 - rd r (i : Int))) (by omega) (by omega), w64 (by omega) (by omega), w64 (x := (i : Int) + 1) (by omega) (by omega), ← es]
      rw [show (i : Int) + 1 = ((i + 1 : Nat) : Int) by omega]
      exact ih (i + 1) (by omega) (by omega) hf (by rw [es]; omega)
    by_cases c3 : (i : Int) > 0
    · refine Tl.pos c3 ?_
      rw [w64 (x := (i : Int) - 1) (by omega) (by omega)]
      refine Tl.pos (by omega) (Tl.pos (by omega) ?_)
      by_cases c4 : rd r (i : Int) > rd r ((i : Int) - 1)
      · exact Tl.pos c4 Tl.now
      · refine Tl.neg c4 (Tl.pos (by omega) (next ?_))
        intro j hj
        by_cases e : j + 1 = i
        · rw [e]
          rw [show (j : Int) = (i : Int) - 1 by omega]
          omega
        · exact h3 j (by omega)
    · refine Tl.neg c3 (Tl.pos (by omega) (next ?_))
      intro j hj
      omega
theorem pool_step (ok : Ok h) (hl : h.length ≤ 100) (hx : IsBest h l) {ans : Bool} (H : Tl (fun k => diaphonetop_TopHaze.j11 k h r m0 m1) ans) : Tl (fun k => diaphonetop_TopHaze.j10 k h r x2 l false m0 m1) ans := by
  refine Tl.succ ?_
  simp only [diaphonetop_TopHaze.j10]
  refine Tl.neg (by simp) (Tl.bind (ev_Pool hl x2) ?_)
  by_cases hk : hc h x2 x2 = 0
  · obtain ⟨_, ha, _⟩ := hc_ok hk
    simp only [inn] at ha
    obtain ⟨i, rfl⟩ := Int.eq_ofNat_of_zero_le ha.1
    have hxl := hx.1
    have hlen := ok.2.1
    by_cases h1 : (i : Int) = (h.length : Int) - 1
    · have e : pa h (i : Int) = ([], 4) := by simp only [pa, if_pos hk, if_pos h1]
      rw [e]
      exact Tl.neg (by decide) H
    · by_cases h2 : (rd_T31 h (i : Int)).f0 ≥ (rd_T31 h ((i : Int) + 1)).f0
      · have e : pa h (i : Int) = ([], 6) := by simp only [pa, if_pos hk, if_neg h1, if_pos h2]
        rw [e]
        exact Tl.neg (by decide) H
      · by_cases h3 : (M h i (i + 2)).2 = 1
        · have e : pa h (i : Int) = (pl h i (M h i (i + 2)).1, 0) := by
            simp only [pa, if_pos hk, if_neg h1, if_neg h2, Int.toNat_natCast, if_pos h3]
          rw [e]
          have sm := ok.small (show i < i + 2 by omega) (show i + 2 ≤ h.length by omega)
          have hm : (M h i (i + 2)).1 * (sw h (i + 2) - sw h i) = sv h (i + 2) - sv h i := by
            have := Rt_cross (n := sv h (i + 2) - sv h i) sm.1
            unfold M at h3 ⊢
            rw [this, h3, Int.mul_one]
          have r0 := ok.2.2 i (by omega)
          have r1 := ok.2.2 (i + 1) (by omega)
          simp only [rok] at r0 r1
          have hmr : 0 ≤ (M h i (i + 2)).1 ∧ (M h i (i + 2)).1 ≤ 100 := by
            have s1 : sv h (i + 2) = sv h i + (rd_T31 h (i : Int)).f1 * (rd_T31 h (i : Int)).f0 + (rd_T31 h ((i + 1 : Nat) : Int)).f1 * (rd_T31 h ((i + 1 : Nat) : Int)).f0 := rfl
            have w1 : sw h (i + 2) = sw h i + (rd_T31 h (i : Int)).f1 + (rd_T31 h ((i + 1 : Nat) : Int)).f1 := rfl
            generalize (rd_T31 h (i : Int)).f1 = a at s1 w1 r0
            generalize (rd_T31 h (i : Int)).f0 = u at s1 r0
            generalize (rd_T31 h ((i + 1 : Nat) : Int)).f1 = b at s1 w1 r1
            generalize (rd_T31 h ((i + 1 : Nat) : Int)).f0 = v at s1 r1
            have y1 : 0 ≤ a * u := Int.mul_nonneg (by omega) (by omega)
            have y2 : 0 ≤ b * v := Int.mul_nonneg (by omega) (by omega)
            have y3 : a * u ≤ a * 100 := Int.mul_le_mul_of_nonneg_left (by omega) (by omega)
            have y4 : b * v ≤ b * 100 := Int.mul_le_mul_of_nonneg_left (by omega) (by omega)
            have ew : sw h (i + 2) - sw h i = a + b := by omega
            rw [ew] at hm
            refine ⟨?_, ?_⟩
            · refine Int.le_of_mul_le_mul_right (a := a + b) ?_ (by omega)
              rw [Int.zero_mul]; omega
            · refine Int.le_of_mul_le_mul_right (a := a + b) ?_ (by omega)
              omega
          have ok' := pl_ok ok (i := i) hmr
          have hb := pl_best ok (i := i) (by omega) (by rw [show ((i + 1 : Nat) : Int) = (i : Int) + 1 by omega]; omega) hm hx
          exact Tl.pos rfl (Tl.bind (ev_Best ok' hb) (Tl.pos rfl (Tl.bind (ev_SameRats _ (show l.length ≤ 1000 by omega)) (Tl.pos rfl H))))
        · have e : pa h (i : Int) = ([], 1) := by simp only [pa, if_pos hk, if_neg h1, if_neg h2, Int.toNat_natCast, if_neg h3]
          rw [e]
          exact Tl.neg (by decide) H
  · have e : pa h x2 = ([], hc h x2 x2) := by simp [pa, hk]
    rw [e]
    exact Tl.neg hk H
end Top
open Top
theorem TopHaze : ∀ (x0 : List (S31)) (x1 : List Int) (x2 : Int), ((∀ y ∈ x0, ((Lit.int .i64 y.f0).wf = true) ∧ ((Lit.int .i64 y.f1).wf = true)) ∧ x0.length ≤ maxLen) → ((∀ y ∈ x1, (Lit.int .i64 y).wf = true) ∧ x1.length ≤ maxLen) → ((Lit.int .i64 x2).wf = true) → ∃ k, diaphonetop_TopHaze.f k x0 x1 x2 = some true := by
  intro h r a _ _ _
  refine Tl.ex (g := fun k => diaphonetop_TopHaze.f k h r a) ?_
  unfold diaphonetop_TopHaze.f
  have e0 : Tl (fun k => haze_Misfit.f k ([(⟨3, 1⟩ : S31), (⟨1, 1⟩ : S31), (⟨2, 1⟩ : S31)] : List S31)) (1, 2, 0) := Tl.mono (haze_Misfit.mono _) 40 (by decide +kernel)
  refine Tl.bind e0 (Tl.pos rfl (Tl.succ ?_))
  simp only [diaphonetop_TopHaze.j0]
  refine Tl.neg (by decide) (Tl.bind' (long_eq h) ?_)
  by_cases hl : (h.length : Int) > 100
  · refine Tl.pos (decide_eq_true hl) (Tl.succ ?_)
    simp only [diaphonetop_TopHaze.j1]
    exact Tl.pos trivial Tl.now
  refine Tl.neg (by simpa using hl) (Tl.succ ?_)
  simp only [diaphonetop_TopHaze.j1]
  by_cases hr : (r.length : Int) > 100
  · exact Tl.pos (decide_eq_true hr) Tl.now
  refine Tl.neg (by simpa using hr) ?_
  by_cases hk : vc h = 0
  · have ok := vc_ok.1 hk
    have hlen := ok.2.1
    obtain ⟨c, hc, hb⟩ := ev_blocks ok
    have hbest := Ch.row_best ok hc
    have hll := hbest.1
    have hcl := Ch.len hc
    obtain ⟨i1, i2, i3, i4⟩ := (p_ch ok hc (Nat.le_refl _)).1
    have e12 : (9 : Int) ^ 12 = 282429536481 := by decide
    have d2 := nine_mono (show h.length ≤ 12 by omega)
    have q0 := sq_bd ok (Nat.zero_le h.length) (Nat.le_refl _)
    rw [show sq h 0 = 0 from rfl] at q0
    have b := mulb (a := sq h h.length) (A := 1080000) (by omega) (by omega) (Int.le_of_lt i1) (show (mis h c).2 ≤ 282429536481 by omega)
    refine Tl.bind (ev_Best ok hbest) (Tl.bind (ev_Blocks ok hc hb) (Tl.bind (ev_Misfit ok hc hb) (Tl.pos rfl (Tl.pos rfl (Tl.pos rfl (Tl.pos (by show ((row h c).length : Int) = _; omega) (Tl.bind (ev_tfair ok hbest) (Tl.pos rfl (Tl.neg (by show ¬ (mis h c).2 < 1; omega) (Tl.succ ?_))))))))))
    simp only [diaphonetop_TopHaze.j2]
    refine Tl.neg (by simp; omega) ?_
    have last : Tl (fun k => diaphonetop_TopHaze.j11 k h r (mis h c).1 (mis h c).2) true := by
      refine Tl.succ ?_
      simp only [diaphonetop_TopHaze.j11]
      by_cases hrl : (r.length : Int) = (h.length : Int)
      · exact Tl.pos hrl (l5_loop ok (by omega) i1 i3 (by omega) (by omega) (fun hf => (near ok hc (Nat.le_refl _) hf).2) h.length 0 (by omega) (by omega) (fun j hj => by omega) (by simp [ss]))
      · exact Tl.neg hrl Tl.now
    have p10 := pool_step (x2 := a) ok (by omega) hbest last
    refine l0_loop ok hbest ?_ h.length 0 (by omega) (by omega)
    refine l3_ch ok hll hc (Nat.le_refl _) [] c (by simp) (by omega) (row_at hc) true (Tl.succ ?_)
    simp only [diaphonetop_TopHaze.l3]
    refine Tl.neg (by simp) (Tl.pos (by omega) ?_)
    rcases ev_IsFalling ok with ⟨d1, e1⟩ | ⟨d1, e1⟩
    · have z := zero_of_falls ok hc d1
      have eb : (true != ((mis h c).1 == 0)) = false := by rw [z]; rfl
      refine Tl.bind e1 (Tl.pos rfl ?_)
      simp only [eb]
      exact p10
    · have z : (mis h c).1 ≠ 0 := fun q => d1 (falls_of_zero ok hc q)
      have eb : (false != ((mis h c).1 == 0)) = false := by simp [z]
      refine Tl.bind e1 (Tl.pos rfl ?_)
      simp only [eb]
      exact p10
  · have e2 : Tl (fun k => haze_Blocks.f k h) ([], vc h) := by
      unfold haze_Blocks.f
      exact Tl.bind (ev_Validate (by omega)) (Tl.neg hk Tl.now)
    have e3 : Tl (fun k => haze_Misfit.f k h) (0, 0, vc h) := by
      unfold haze_Misfit.f
      exact Tl.bind (ev_Validate (by omega)) (Tl.neg hk Tl.now)
    exact Tl.bind (ev_Best_bad (by omega) hk) (Tl.bind e2 (Tl.bind e3 (Tl.neg hk Tl.now)))
end Go.Proofs.Ytgdhbeccpicdcaa.Pure
