/- The weights that are made up by the smaller ones, and those that are not: which amounts they make up. -/
import Derived.Test.YtgndhijhcliegaaVa
import Derived.Test.YtgndhijhcliegaaPx30
import Derived.Test.YtgndhijhcliegaaPx22
import Derived.Test.YtgndhijhcliegaaPx23
import Derived.Test.YtgndhijhcliegaaPx2
set_option linter.unusedVariables false
namespace Go.Proofs.Ytgndhijhcliegaa.Nd
open Go.RowKit Go.Proofs.Ytgndhijhcliegaa.P Go.Proofs.Ytgndhijhcliegaa.E Go.Proofs.Ytgndhijhcliegaa.Va Go.Proofs.YtgndhijhcliegaaW.PrintMore
open Go.Proofs.YtgndhijhcliegaaW.PrintWords
theorem nx {a : Nat} (h : a ≤ 100000) : wrap64 ((a : Int) + 1) = ((a + 1 : Nat) : Int) := by rw [w64 (by omega) (by omega)]; omega
/-- An amount is made up. -/
def G (w : List Int) (n : Nat) : Prop := ∃ c, Mk w n c
theorem G.zero {w : List Int} : G w 0 := ⟨0, .zero⟩
theorem G.add {w : List Int} {a b : Nat} (h : G w a) (k : G w b) : G w (a + b) := by
  obtain ⟨d, hd⟩ := k
  induction hd with
  | zero => exact h
  | step hi hm ih =>
    obtain ⟨c, hc⟩ := ih
    rw [← Nat.add_assoc]
    exact ⟨c + 1, .step hi hc⟩
theorem G.elem {w : List Int} {i : Nat} (hi : i < w.length) : G w (rd w (i : Int)).toNat := by
  have := Mk.step hi (Mk.zero (w := w))
  rw [Nat.zero_add] at this
  exact ⟨_, this⟩
theorem G.sub {v w : List Int} (h : ∀ i : Nat, i < v.length → G w (rd v (i : Int)).toNat) {n : Nat} (g : G v n) : G w n := by
  obtain ⟨c, hc⟩ := g
  induction hc with
  | zero => exact G.zero
  | step hi hm ih => exact ih.add (h _ hi)
theorem rd_left {a b : List Int} {i : Nat} (h : i < a.length) : rd (a ++ b) (i : Int) = rd a (i : Int) := by
  rw [rd_lt (by simp; omega), rd_lt h, List.getElem_append_left h]
theorem rd_last {a : List Int} {x : Int} {i : Nat} (h : i = a.length) : rd (a ++ [x]) (i : Int) = x := by
  subst h
  rw [rd_lt (by simp)]; simp
theorem rd_take {w : List Int} {i j : Nat} (h : j < i) (hi : i ≤ w.length) : rd (w.take i) (j : Int) = rd w (j : Int) := by
  rw [rd_lt (by rw [List.length_take]; omega), rd_lt (by omega), List.getElem_take]
noncomputable def nd (w : List Int) (i : Nat) : Bool := decide (0 ≤ fw (w.take i) (rd w (i : Int)).toNat)
theorem nd_iff {w : List Int} {i : Nat} : nd w i = true ↔ G (w.take i) (rd w (i : Int)).toNat := by
  unfold nd
  rw [decide_eq_true_eq]
  exact fw_nonneg
theorem nd_not {w : List Int} {i : Nat} : nd w i = false ↔ ¬ G (w.take i) (rd w (i : Int)).toNat := by
  rw [← nd_iff, Bool.not_eq_true]
/-- The needless ones, and the others, among the first. -/
noncomputable def nl (w : List Int) : Nat → List Int
  | 0 => []
  | i + 1 => if nd w i = true then nl w i ++ [rd w (i : Int)] else nl w i
noncomputable def rl (w : List Int) : Nat → List Int
  | 0 => []
  | i + 1 => if nd w i = true then rl w i else rl w i ++ [rd w (i : Int)]
theorem nl_len (w : List Int) : ∀ i, (nl w i).length ≤ i
  | 0 => Nat.le_refl _
  | i + 1 => by
    have := nl_len w i
    unfold nl
    split
    · rw [List.length_append, List.length_singleton]; omega
    · omega
theorem rl_len (w : List Int) : ∀ i, (rl w i).length ≤ i
  | 0 => Nat.le_refl _
  | i + 1 => by
    have := rl_len w i
    unfold rl
    split
    · omega
    · rw [List.length_append, List.length_singleton]; omega
theorem rl_at (w : List Int) : ∀ i p : Nat, p < (rl w i).length → ∃ j, j < i ∧ nd w j = false ∧ rd (rl w i) (p : Int) = rd w (j : Int) ∧ (rl w i).take p = rl w j
  | 0, p, h => absurd h (Nat.not_lt_zero _)
  | i + 1, p, h => by
    cases e : nd w i with
    | true =>
      have er : rl w (i + 1) = rl w i := by show (if nd w i = true then rl w i else rl w i ++ [rd w (i : Int)]) = _; rw [if_pos e]
      rw [er] at h ⊢
      obtain ⟨j, h1, h2⟩ := rl_at w i p h
      exact ⟨j, by omega, h2⟩
    | false =>
      have er : rl w (i + 1) = rl w i ++ [rd w (i : Int)] := by show (if nd w i = true then rl w i else rl w i ++ [rd w (i : Int)]) = _; rw [if_neg (by rw [e]; decide)]
      rw [er] at h ⊢
      rw [List.length_append, List.length_singleton] at h
      by_cases c : p < (rl w i).length
      · obtain ⟨j, h1, h2, h3, h4⟩ := rl_at w i p c
        exact ⟨j, by omega, h2, by rw [rd_left c, h3], by rw [List.take_append_of_le_length (by omega), h4]⟩
      · exact ⟨i, by omega, e, rd_last (by omega), by rw [List.take_append_of_le_length (by omega), List.take_of_length_le (by omega)]⟩
theorem rl_mem {w : List Int} {j : Nat} (hj : nd w j = false) : ∀ i, j < i → ∃ p, p < (rl w i).length ∧ rd (rl w i) (p : Int) = rd w (j : Int)
  | 0, h => absurd h (Nat.not_lt_zero _)
  | i + 1, h => by
    by_cases e : nd w i = true
    · have er : rl w (i + 1) = rl w i := by show (if nd w i = true then rl w i else rl w i ++ [rd w (i : Int)]) = _; rw [if_pos e]
      rw [er]
      exact rl_mem hj i (by
        rcases Nat.lt_or_ge j i with c | c
        · exact c
        · obtain rfl : j = i := by omega
          rw [hj] at e; exact absurd e (by decide))
    · have er : rl w (i + 1) = rl w i ++ [rd w (i : Int)] := by show (if nd w i = true then rl w i else rl w i ++ [rd w (i : Int)]) = _; rw [if_neg e]
      rw [er]
      by_cases c : j = i
      · subst c
        exact ⟨(rl w j).length, by simp, rd_last rfl⟩
      · obtain ⟨p, h1, h2⟩ := rl_mem hj i (by omega)
        exact ⟨p, by rw [List.length_append]; omega, by rw [rd_left h1, h2]⟩
theorem rl_gen {w : List Int} (j : Nat) : ∀ i, j < i → i ≤ w.length → G (rl w i) (rd w (j : Int)).toNat := by
  induction j using Nat.strongRecOn with
  | _ j ih =>
    intro i h1 h2
    cases e : nd w j with
    | false =>
      obtain ⟨p, h3, h4⟩ := rl_mem e i h1
      rw [← h4]
      exact G.elem h3
    | true =>
      refine G.sub (fun q hq => ?_) (nd_iff.1 e)
      rw [List.length_take] at hq
      rw [rd_take (by omega) (by omega)]
      exact ih q (by omega) i (by omega) h2
theorem rl_G {w : List Int} {i : Nat} (hi : i ≤ w.length) {n : Nat} : G (rl w i) n ↔ G (w.take i) n := by
  constructor
  · refine G.sub (fun p hp => ?_)
    obtain ⟨j, h1, _, h2, _⟩ := rl_at w i p hp
    rw [h2, ← rd_take (i := i) h1 hi]
    exact G.elem (by rw [List.length_take]; omega)
  · refine G.sub (fun q hq => ?_)
    rw [List.length_take] at hq
    rw [rd_take (by omega) hi]
    exact rl_gen q i (by omega) hi
theorem rl_all {w : List Int} {n : Nat} : G (rl w w.length) n ↔ G w n := by
  rw [rl_G (Nat.le_refl _), List.take_length]
/-- What is left: none is made up by the smaller ones. -/
theorem rl_irr {w : List Int} {p : Nat} (hp : p < (rl w w.length).length) : ¬ G ((rl w w.length).take p) (rd (rl w w.length) (p : Int)).toNat := by
  obtain ⟨j, h1, h2, h3, h4⟩ := rl_at w w.length p hp
  rw [h3, h4, rl_G (by omega)]
  exact nd_not.1 h2
theorem nl_irr {x : List Int} (h : ∀ p : Nat, p < x.length → ¬ G (x.take p) (rd x (p : Int)).toNat) : ∀ p, p ≤ x.length → nl x p = []
  | 0, _ => rfl
  | p + 1, hp => by
    show (if nd x p = true then nl x p ++ [rd x (p : Int)] else nl x p) = []
    rw [if_neg (by rw [nd_not.2 (h p (by omega))]; decide)]
    exact nl_irr h p (by omega)
theorem rl_irr' {x : List Int} (h : ∀ p : Nat, p < x.length → ¬ G (x.take p) (rd x (p : Int)).toNat) : ∀ p, p ≤ x.length → rl x p = x.take p
  | 0, _ => by simp [rl]
  | p + 1, hp => by
    show (if nd x p = true then rl x p else rl x p ++ [rd x (p : Int)]) = _
    rw [if_neg (by rw [nd_not.2 (h p (by omega))]; decide), rl_irr' h p (by omega), List.take_add_one, List.getElem?_eq_getElem (by omega), rd_lt (by omega)]
    rfl
theorem rl_idem {w : List Int} : rl (rl w w.length) (rl w w.length).length = rl w w.length := by
  rw [rl_irr' (fun p hp => rl_irr hp) _ (Nat.le_refl _), List.take_length]
theorem up {w : List Int} (ok : Ok w) {i : Nat} : ∀ d : Nat, i + (d + 1) < w.length → rd w (i : Int) < rd w ((i + (d + 1) : Nat) : Int)
  | 0, h => by
    have h2 := (ok.2 (i + 1) (by omega)).2 (by omega)
    rw [show ((i + 1 : Nat) : Int) - 1 = (i : Int) by omega] at h2
    exact h2
  | d + 1, h => by
    have h1 := up ok (i := i) d (by omega)
    have h2 := (ok.2 (i + (d + 1) + 1) (by omega)).2 (by omega)
    rw [show ((i + (d + 1) + 1 : Nat) : Int) - 1 = ((i + (d + 1) : Nat) : Int) by omega] at h2
    rw [show i + (d + 1 + 1) = i + (d + 1) + 1 by omega]; omega
theorem up' {w : List Int} (ok : Ok w) {i j : Nat} (h : i < j) (hj : j < w.length) : rd w (i : Int) < rd w (j : Int) := by
  have := up ok (i := i) (j - i - 1) (by omega)
  rwa [show i + (j - i - 1 + 1) = j by omega] at this
theorem nd_zero {w : List Int} (ok : Ok w) : nd w 0 = false := by
  rw [nd_not]
  rintro ⟨c, hc⟩
  have h := (ok.2 0 (by have := ok.1; omega)).1
  rcases mk_inv hc with ⟨h1, h2⟩ | ⟨i, m, d, h1, h2⟩
  · omega
  · simp at h1
theorem rl_ok {w : List Int} (ok : Ok w) : Ok (rl w w.length) := by
  have h0 := ok.1
  obtain ⟨p0, h1, _⟩ := rl_mem (nd_zero ok) w.length (by omega)
  have h2 := rl_len w w.length
  refine ⟨⟨by omega, by omega⟩, fun p hp => ?_⟩
  obtain ⟨j, h3, _, h4, h5⟩ := rl_at w w.length p hp
  refine ⟨by rw [h4]; exact (ok.2 j h3).1, fun hpp => ?_⟩
  have h6 : p - 1 < (rl w j).length := by rw [← h5, List.length_take]; omega
  obtain ⟨j', h7, _, h8, _⟩ := rl_at w j (p - 1) h6
  have h9 : rd (rl w w.length) ((p : Int) - 1) = rd w (j' : Int) := by
    rw [show (p : Int) - 1 = ((p - 1 : Nat) : Int) by omega, ← h8, ← h5, rd_take (by omega) (by omega)]
  rw [h9, h4]
  exact up' ok h7 h3
/-- One set of weights is all that is left of the amounts. -/
theorem low {y : List Int} {p n : Nat} (hp : p ≤ y.length) (h : ∀ q : Nat, p ≤ q → q < y.length → (n : Int) < rd y (q : Int)) (hy : ∀ q : Nat, q < y.length → 1 ≤ rd y (q : Int)) (g : G y n) : G (y.take p) n := by
  obtain ⟨c, hc⟩ := g
  induction hc with
  | zero => exact G.zero
  | @step m c i hi hm ih =>
    have hyi := hy i hi
    have hip : i < p := by
      rcases Nat.lt_or_ge i p with q | q
      · exact q
      · have := h i q hi; omega
    have h1 := ih (fun q a b => by have := h q a b; omega)
    refine h1.add ?_
    rw [← rd_take hip hp]
    exact G.elem (by rw [List.length_take]; omega)
theorem uniq1 {x y : List Int} (ox : Ok x) (oy : Ok y) (ix : ∀ p : Nat, p < x.length → ¬ G (x.take p) (rd x (p : Int)).toNat) (iy : ∀ p : Nat, p < y.length → ¬ G (y.take p) (rd y (p : Int)).toNat) (hG : ∀ n, G x n ↔ G y n) :
    ∀ p, p ≤ x.length → p ≤ y.length ∧ x.take p = y.take p := by
  have px : ∀ q : Nat, q < x.length → 1 ≤ rd x (q : Int) := fun q hq => (ox.2 q hq).1.1
  have py : ∀ q : Nat, q < y.length → 1 ≤ rd y (q : Int) := fun q hq => (oy.2 q hq).1.1
  intro p
  induction p with
  | zero => exact fun _ => ⟨Nat.zero_le _, by simp⟩
  | succ p ih =>
    intro hp
    obtain ⟨h1, h2⟩ := ih (by omega)
    have p1 := px p (by omega)
    have key : ¬ (∀ q : Nat, p ≤ q → q < y.length → rd x (p : Int) < rd y (q : Int)) := fun hq => by
      refine ix p (by omega) ?_
      rw [h2]
      exact low h1 (fun q a b => by have := hq q a b; omega) py ((hG _).1 (G.elem (by omega)))
    have hpy : p < y.length := by
      rcases Nat.lt_or_ge p y.length with q | q
      · exact q
      · exact absurd (fun r a b => by omega) key
    have key2 : ¬ (rd x (p : Int) < rd y (p : Int)) := fun hlt => key (fun q a b => by
      rcases Nat.lt_or_ge p q with c | c
      · have := up' oy c b; omega
      · obtain rfl : p = q := by omega
        exact hlt)
    have p2 := py p hpy
    have key3 : ¬ (rd y (p : Int) < rd x (p : Int)) := fun hlt => by
      refine iy p hpy ?_
      rw [← h2]
      refine low (by omega) (fun q a b => ?_) px ((hG _).2 (G.elem hpy))
      rcases Nat.lt_or_ge p q with c | c
      · have := up' ox c b; omega
      · obtain rfl : p = q := by omega
        omega
    have e : rd x (p : Int) = rd y (p : Int) := by omega
    refine ⟨by omega, ?_⟩
    rw [List.take_add_one, List.take_add_one, h2, List.getElem?_eq_getElem (by omega), List.getElem?_eq_getElem hpy]
    rw [rd_lt (by omega), rd_lt hpy] at e
    rw [e]
theorem uniq {x y : List Int} (ox : Ok x) (oy : Ok y) (ix : ∀ p : Nat, p < x.length → ¬ G (x.take p) (rd x (p : Int)).toNat) (iy : ∀ p : Nat, p < y.length → ¬ G (y.take p) (rd y (p : Int)).toNat) (hG : ∀ n, G x n ↔ G y n) : x = y := by
  have h1 := (uniq1 ox oy ix iy hG x.length (Nat.le_refl _))
  have h2 := (uniq1 oy ox iy ix (fun n => (hG n).symm) y.length (Nat.le_refl _)).1
  have h3 := h1.2
  rw [List.take_length, List.take_of_length_le (by omega)] at h3
  exact h3
theorem same_iff {v w : List Int} (ov : Ok v) (ow : Ok w) : rl v v.length = rl w w.length ↔ (∀ i : Nat, i < v.length → G w (rd v (i : Int)).toNat) ∧ ∀ i : Nat, i < w.length → G v (rd w (i : Int)).toNat := by
  constructor
  · intro h
    have hG : ∀ n, G v n ↔ G w n := fun n => by rw [← rl_all (w := v), ← rl_all (w := w), h]
    exact ⟨fun i hi => (hG _).1 (G.elem hi), fun i hi => (hG _).2 (G.elem hi)⟩
  · rintro ⟨h1, h2⟩
    exact uniq (rl_ok ov) (rl_ok ow) (fun p hp => rl_irr hp) (fun p hp => rl_irr hp) (fun n => by
      rw [rl_all, rl_all]
      exact ⟨G.sub h1, G.sub h2⟩)
/-! ### What the program and the document say -/
theorem take_wt {w : List Int} (ok : Ok w) {i : Nat} : Wt (w.take i) := by
  have h0 := ok.1
  refine ⟨by rw [List.length_take]; omega, fun j hj => ?_⟩
  rw [List.length_take] at hj
  by_cases c : i ≤ w.length
  · rw [rd_take (by omega) c]; exact (ok.2 j (by omega)).1
  · rw [List.take_of_length_le (by omega)]; exact (ok.2 j (by omega)).1
theorem ev_fillc {w : List Int} (ok : Ok w) {i : Nat} (hi : i < w.length) {r : List Int} {F : Nat → Bool → Option (List Int)} (h : Tl (fun k => F k (nd w i)) r) :
    Tl (fun k => (charge_fill.f k (w.take i) (rd w (i : Int))).bind fun t => (charge_table_can.f t.1 t.2 (rd w (i : Int))).bind fun b => F k b) r := by
  have hr := (ok.2 i hi).1
  obtain ⟨m, hm⟩ : ∃ m : Nat, rd w (i : Int) = (m : Int) := ⟨(rd w (i : Int)).toNat, by omega⟩
  obtain ⟨L, h1, h2, h3⟩ := ev_fill (take_wt ok (i := i)) (m := m) (by omega)
  have e : charge_table_can.f (tab (w.take i) (m + 1)) L (m : Int) = some (nd w i) := by
    unfold charge_table_can.f nd
    rw [if_pos (by omega), if_pos (by rw [tab_length]; omega), tab_rd (by omega), hm, Int.toNat_natCast]
  rw [hm]
  exact Tl.bind h3 (Tl.bind' e h)
theorem nl_loop {w : List Int} (ok : Ok w) : ∀ (d i : Nat), i + d = w.length → Tl (fun k => charge_needless.l0 k w (nl w i) w (w.length : Int) (i : Int)) (nl w w.length) := by
  have h0 := ok.1
  intro d
  induction d with
  | zero =>
    intro i hi
    refine Tl.succ ?_
    simp only [charge_needless.l0]
    exact Tl.to (Tl.neg (by omega) Tl.now) (by rw [show i = w.length by omega])
  | succ d ih =>
    intro i hi
    have next := ih (i + 1) (by omega)
    have E := Aside0.mk (nx (a := i) (by omega))
    have hl := nl_len w i
    refine Tl.succ ?_
    simp only [charge_needless.l0]
    rw [E.out]
    refine Tl.pos (by omega) (Tl.pos (by omega) (Tl.pos (by omega) ?_))
    have en : nl w (i + 1) = if nd w i = true then nl w i ++ [rd w (i : Int)] else nl w i := rfl
    by_cases c : i = 0
    · refine Tl.neg (by omega) ?_
      rw [en, if_neg (by rw [c, nd_zero ok]; decide)] at next
      exact next
    · refine Tl.pos (by omega) (Tl.pos (by omega) ?_)
      rw [Int.toNat_natCast]
      refine ev_fillc ok (by omega) (F := fun k b => if b = true then (if (nl w i).length < 17592186044416 then (charge_needless.l0 k w (nl w i ++ [rd w (i : Int)]) w (w.length : Int) ((i + 1 : Nat) : Int)) else none) else (charge_needless.l0 k w (nl w i) w (w.length : Int) ((i + 1 : Nat) : Int))) ?_
      by_cases e : nd w i = true
      · rw [en, if_pos e] at next
        exact Tl.pos e (Tl.pos (by omega) next)
      · rw [en, if_neg e] at next
        exact Tl.neg e next
theorem ev_needless {w : List Int} (ok : Ok w) : Tl (fun k => charge_needless.f k w) (nl w w.length) := by
  unfold charge_needless.f
  exact nl_loop ok w.length 0 (by omega)
theorem nl_has {w : List Int} (ok : Ok w) : ∀ (n : Nat), n ≤ w.length → ∀ j : Nat, j < w.length → (rd w (j : Int) ∈ nl w n ↔ j < n ∧ nd w j = true)
  | 0, _, j, _ => by simp [nl]
  | n + 1, hn, j, hj => by
    have ih := nl_has ok n (by omega) j hj
    have ne : j ≠ n → rd w (j : Int) ≠ rd w (n : Int) := fun h => by
      rcases Nat.lt_or_gt_of_ne h with c | c
      · have := up' ok c (by omega); omega
      · have := up' ok c hj; omega
    show rd w (j : Int) ∈ (if nd w n = true then nl w n ++ [rd w (n : Int)] else nl w n) ↔ _
    by_cases e : nd w n = true
    · rw [if_pos e, List.mem_append, List.mem_singleton, ih]
      constructor
      · rintro (h | h)
        · exact ⟨by omega, h.2⟩
        · have : j = n := by
            rcases Nat.decEq j n with c | c
            · exact absurd h (ne c)
            · exact c
          subst this; exact ⟨by omega, e⟩
      · rintro ⟨h1, h2⟩
        by_cases c : j = n
        · exact Or.inr (by rw [c])
        · exact Or.inl ⟨by omega, h2⟩
    · rw [if_neg e, ih]
      constructor
      · exact fun h => ⟨by omega, h.2⟩
      · rintro ⟨h1, h2⟩
        by_cases c : j = n
        · subst c; exact absurd h2 e
        · exact ⟨by omega, h2⟩
theorem filt {w : List Int} (ok : Ok w) : ∀ n, n ≤ w.length → (w.take n).filter (fun x => !(nl w w.length).contains x) = rl w n
  | 0, _ => by simp [rl]
  | n + 1, hn => by
    rw [List.take_add_one, List.getElem?_eq_getElem (by omega), List.filter_append, filt ok n (by omega)]
    have h := nl_has ok w.length (Nat.le_refl _) n (by omega)
    rw [rd_lt (by omega)] at h
    show rl w n ++ [w[n]].filter _ = (if nd w n = true then rl w n else rl w n ++ [rd w (n : Int)])
    by_cases e : nd w n = true
    · rw [if_pos e, List.filter_cons_of_neg (by simp only [Bool.not_eq_true', Bool.not_eq_false]; exact List.contains_iff_mem.2 (h.2 ⟨by omega, e⟩))]
      simp
    · rw [if_neg e, List.filter_cons_of_pos (by
        simp only [Bool.not_eq_true']
        rw [← Bool.not_eq_true, List.contains_iff_mem]
        exact fun q => e (h.1 q).2), rd_lt (by omega)]
      simp
theorem ev_reduce {w : List Int} (ok : Ok w) : Tl (fun k => charge_reduce.f k w) (rl w w.length) := by
  have h0 := ok.1
  have h1 := nl_len w w.length
  have h2 := filt ok w.length (Nat.le_refl _)
  rw [List.take_length] at h2
  unfold charge_reduce.f
  refine Tl.bind (ev_needless ok) ?_
  rw [if_pos ⟨by omega, by omega, by omega⟩, h2]
  exact Tl.now
theorem ev_Needless (w : List Int) : Tl (fun k => charge_Needless.f k w) (if vc w = 0 then (nl w w.length, 0) else ([], vc w)) := by
  unfold charge_Needless.f
  refine Tl.bind (ev_Validate w) ?_
  by_cases h : vc w = 0
  · rw [if_pos h]; exact Tl.pos h (Tl.bind (ev_needless (vc_ok.1 h)) Tl.now)
  · rw [if_neg h]; exact Tl.neg h Tl.now
theorem ev_Reduce (w : List Int) : Tl (fun k => charge_Reduce.f k w) (if vc w = 0 then (rl w w.length, 0) else ([], vc w)) := by
  unfold charge_Reduce.f
  refine Tl.bind (ev_Validate w) ?_
  by_cases h : vc w = 0
  · rw [if_pos h]; exact Tl.pos h (Tl.bind (ev_reduce (vc_ok.1 h)) Tl.now)
  · rw [if_neg h]; exact Tl.neg h Tl.now
theorem eq_loop {a b : List Int} (hl : a.length ≤ 1000) (he : a.length = b.length) : ∀ (d i : Nat), i ≤ a.length → a.length - i = d → Tl (fun k => slices_Equal_int_int.l0 k a b (a.length : Int) (i : Int)) (decide (a.drop i = b.drop i)) := by
  intro d
  induction d with
  | zero =>
    intro i h1 h2
    refine Tl.succ ?_
    simp only [slices_Equal_int_int.l0]
    refine Tl.to (Tl.neg (by omega) Tl.now) ?_
    rw [List.drop_eq_nil_of_le (by omega), List.drop_eq_nil_of_le (by omega)]; rfl
  | succ d ih =>
    intro i h1 h2
    have ha : i < a.length := by omega
    have hb : i < b.length := by omega
    have next := ih (i + 1) (by omega) (by omega)
    have E := Aside0.mk (nx (a := i) (by omega))
    refine Tl.succ ?_
    simp only [slices_Equal_int_int.l0]
    rw [E.out, rd_lt ha, rd_lt hb]
    refine Tl.pos (by omega) (Tl.pos (by omega) (Tl.pos (by omega) (Tl.pos (by omega) ?_)))
    rw [List.drop_eq_getElem_cons ha, List.drop_eq_getElem_cons hb]
    by_cases c : a[i] = b[i]
    · exact Tl.pos c (Tl.to next (decide_eq_decide.2 ⟨fun q => by rw [c, q], fun q => (List.cons.inj q).2⟩))
    · exact Tl.neg c (Tl.to Tl.now (decide_eq_false (fun q => c (List.cons.inj q).1)).symm)
theorem ev_Equal {a b : List Int} (hl : a.length ≤ 1000) : Tl (fun k => slices_Equal_int_int.f k a b) (decide (a = b)) := by
  unfold slices_Equal_int_int.f
  by_cases h : a.length = b.length
  · exact Tl.pos (by omega) (eq_loop hl h a.length 0 (by omega) (by omega))
  · exact Tl.neg (by omega) (Tl.to Tl.now (decide_eq_false (fun q => h (by rw [q]))).symm)
theorem si_loop {a b : List Int} (hl : a.length ≤ 1000) (he : a.length = b.length) : ∀ (d i : Nat), i ≤ a.length → a.length - i = d → Tl (fun k => diaphoneref07_SameInts.l0 k a b (i : Int)) (decide (a.drop i = b.drop i)) := by
  intro d
  induction d with
  | zero =>
    intro i h1 h2
    refine Tl.succ ?_
    simp only [diaphoneref07_SameInts.l0]
    refine Tl.to (Tl.neg (by omega) Tl.now) ?_
    rw [List.drop_eq_nil_of_le (by omega), List.drop_eq_nil_of_le (by omega)]; rfl
  | succ d ih =>
    intro i h1 h2
    have ha : i < a.length := by omega
    have hb : i < b.length := by omega
    have next := ih (i + 1) (by omega) (by omega)
    have E := Aside0.mk (nx (a := i) (by omega))
    refine Tl.succ ?_
    simp only [diaphoneref07_SameInts.l0]
    rw [E.out, rd_lt ha, rd_lt hb]
    refine Tl.pos (by omega) (Tl.pos (by omega) (Tl.pos (by omega) ?_))
    rw [List.drop_eq_getElem_cons ha, List.drop_eq_getElem_cons hb]
    by_cases c : a[i] = b[i]
    · exact Tl.pos c (Tl.to next (decide_eq_decide.2 ⟨fun q => by rw [c, q], fun q => (List.cons.inj q).2⟩))
    · exact Tl.neg c (Tl.to Tl.now (decide_eq_false (fun q => c (List.cons.inj q).1)).symm)
theorem ev_SameInts {a b : List Int} (hl : a.length ≤ 1000) : Tl (fun k => diaphoneref07_SameInts.f k a b) (decide (a = b)) := by
  unfold diaphoneref07_SameInts.f
  by_cases h : a.length = b.length
  · exact Tl.pos (by omega) (si_loop hl h a.length 0 (by omega) (by omega))
  · exact Tl.neg (by omega) (Tl.to Tl.now (decide_eq_false (fun q => h (by rw [q]))).symm)
noncomputable def sc (v w : List Int) : Bool × Int := if vc v = 0 then (if vc w = 0 then (decide (rl v v.length = rl w w.length), 0) else (false, vc w)) else (false, vc v)
theorem ev_Same (v w : List Int) : Tl (fun k => charge_Same.f k v w) (sc v w) := by
  unfold charge_Same.f sc
  refine Tl.bind (ev_Validate v) ?_
  by_cases h : vc v = 0
  · rw [if_pos h]
    refine Tl.pos h (Tl.bind (ev_Validate w) ?_)
    by_cases h' : vc w = 0
    · rw [if_pos h']
      have hv := vc_ok.1 h
      have hl := rl_len v v.length
      have h0 := hv.1
      exact Tl.pos h' (Tl.bind (ev_reduce hv) (Tl.bind (ev_reduce (vc_ok.1 h')) (Tl.bind (ev_Equal (by omega)) Tl.now)))
    · rw [if_neg h']; exact Tl.neg h' Tl.now
  · rw [if_neg h]; exact Tl.neg h Tl.now
theorem made_loop {v w : List Int} (ov : Ok v) (ow : Ok w) : ∀ (d i : Nat), i + d = v.length →
    ((∀ j : Nat, i ≤ j → j < v.length → G w (rd v (j : Int)).toNat) → Tl (fun k => diaphoneref07_made.l0 k v w (i : Int)) true) ∧ (¬ (∀ j : Nat, i ≤ j → j < v.length → G w (rd v (j : Int)).toNat) → Tl (fun k => diaphoneref07_made.l0 k v w (i : Int)) false) := by
  have h0 := ov.1
  intro d
  induction d with
  | zero =>
    intro i hi
    refine ⟨fun _ => ?_, fun h => absurd (fun j a b => by omega) h⟩
    refine Tl.succ ?_
    simp only [diaphoneref07_made.l0]
    exact Tl.neg (by omega) Tl.now
  | succ d ih =>
    intro i hi
    obtain ⟨n1, n2⟩ := ih (i + 1) (by omega)
    have E := Aside0.mk (nx (a := i) (by omega))
    have hr := (ov.2 i (by omega)).1
    obtain ⟨m, hm⟩ : ∃ m : Nat, rd v (i : Int) = (m : Int) := ⟨(rd v (i : Int)).toNat, by omega⟩
    have ef := ev_few ow.wt (m := m) (by omega)
    have et : rd (tab w (m + 1)) (m : Int) = fw w m := tab_rd (by omega)
    have ego : ∀ {r : Bool}, (if fw w m < 0 then r = false else Tl (fun k => diaphoneref07_made.l0 k v w ((i + 1 : Nat) : Int)) r) → Tl (fun k => diaphoneref07_made.l0 k v w (i : Int)) r := by
      intro r h
      refine Tl.succ ?_
      simp only [diaphoneref07_made.l0]
      rw [E.out, hm]
      refine Tl.pos (by omega) (Tl.pos (by omega) (Tl.bind ef (Tl.pos (by omega) (Tl.pos (by rw [tab_length]; omega) ?_))))
      rw [et]
      by_cases c : fw w m < 0
      · rw [if_pos c] at h; exact Tl.pos c (Tl.to Tl.now h.symm)
      · rw [if_neg c] at h; exact Tl.neg c h
    have hg : G w (rd v (i : Int)).toNat ↔ ¬ fw w m < 0 := by
      rw [hm, Int.toNat_natCast, show ¬ fw w m < 0 ↔ 0 ≤ fw w m by omega]
      exact fw_nonneg.symm
    refine ⟨fun h => ego ?_, fun h => ego ?_⟩
    · rw [if_neg (hg.1 (h i (Nat.le_refl _) (by omega)))]
      exact n1 (fun j a b => h j (by omega) b)
    · by_cases c : fw w m < 0
      · rw [if_pos c]
      · rw [if_neg c]
        exact n2 (fun q => h (fun j a b => by
          by_cases e : j = i
          · subst e; exact hg.2 c
          · exact q j (by omega) b))
theorem ev_rSame (v w : List Int) : Tl (fun k => diaphoneref07_Same.f k v w) (sc v w) := by
  unfold diaphoneref07_Same.f sc
  refine Tl.bind (ev_rValidate v) ?_
  by_cases h : vc v = 0
  · rw [if_pos h]
    refine Tl.pos h (Tl.bind (ev_rValidate w) ?_)
    by_cases h' : vc w = 0
    · rw [if_pos h']
      have ov := vc_ok.1 h
      have ow := vc_ok.1 h'
      refine Tl.pos h' ?_
      unfold diaphoneref07_made.f
      have a := made_loop ov ow v.length 0 (by omega)
      have b := made_loop ow ov w.length 0 (by omega)
      by_cases c : ∀ j : Nat, 0 ≤ j → j < v.length → G w (rd v (j : Int)).toNat
      · refine Tl.bind (a.1 c) (Tl.pos rfl ?_)
        by_cases e : ∀ j : Nat, 0 ≤ j → j < w.length → G v (rd w (j : Int)).toNat
        · rw [decide_eq_true ((same_iff ov ow).2 ⟨fun i hi => c i (Nat.zero_le _) hi, fun i hi => e i (Nat.zero_le _) hi⟩)]
          exact Tl.bind (b.1 e) Tl.now
        · rw [decide_eq_false (fun q => e (fun j _ hj => ((same_iff ov ow).1 q).2 j hj))]
          exact Tl.bind (b.2 e) Tl.now
      · rw [decide_eq_false (fun q => c (fun j _ hj => ((same_iff ov ow).1 q).1 j hj))]
        exact Tl.bind (a.2 c) (Tl.neg (by decide) Tl.now)
    · rw [if_neg h']; exact Tl.neg h' Tl.now
  · rw [if_neg h]; exact Tl.neg h Tl.now
end Go.Proofs.Ytgndhijhcliegaa.Nd
