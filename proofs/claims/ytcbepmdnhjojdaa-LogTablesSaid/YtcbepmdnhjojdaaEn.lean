/- The document's tables of the ends: what comparisons cost, and how many cost the least. -/
import Derived.Test.YtcbepmdnhjojdaaCq
import Derived.Test.YtcbepmdnhjojdaaLr
import Derived.Test.YtcbepmdnhjojdaaPx44
set_option linter.unusedVariables false
set_option linter.unusedSimpArgs false
namespace Go.Proofs.Ytcbepmdnhjojdaa.En
open Go.RowKit Go.Proofs.Ytcbepmdnhjojdaa.P Go.Proofs.Ytcbepmdnhjojdaa.E Go.Proofs.Ytcbepmdnhjojdaa.Al Go.Proofs.Ytcbepmdnhjojdaa.Lo Go.Proofs.Ytcbepmdnhjojdaa.Lr Go.Proofs.Ytcbepmdnhjojdaa.Cn Go.Proofs.Ytcbepmdnhjojdaa.Cq Go.Proofs.YtcbepmdnhjojdaaW.PrintMore
open Go.Proofs.YtcbepmdnhjojdaaW.PrintWords
def get (x : List (List Int)) (a b : Nat) : Int := rd (rd_L1 x (a : Int)) (b : Int)
structure Shp (L M : Nat) (x : List (List Int)) : Prop where
  len : x.length = L + 1
  row : ∀ a : Nat, a ≤ L → (rd_L1 x (a : Int)).length = M + 1
def put (x : List (List Int)) (a b : Nat) (v : Int) : List (List Int) := x.set a ((rd_L1 x (a : Int)).set b v)
theorem rd_L1_set {T : List (List Int)} {r : List Int} {i : Nat} (hi : i < T.length) (j : Nat) : rd_L1 (T.set i r) (j : Int) = if j = i then r else rd_L1 T (j : Int) := by
  unfold rd_L1
  rw [Int.toNat_natCast, List.getD_eq_getElem?_getD, List.getD_eq_getElem?_getD]
  by_cases h : j = i
  · subst h; rw [if_pos rfl, List.getElem?_set_self hi]; rfl
  · rw [if_neg h, List.getElem?_set_ne (Ne.symm h)]
theorem rd_set' {T : List Int} {r : Int} {i : Nat} (hi : i < T.length) (j : Nat) : rd (T.set i r) (j : Int) = if j = i then r else rd T (j : Int) := by
  rw [rd_nat, rd_nat, List.getD_eq_getElem?_getD, List.getD_eq_getElem?_getD]
  by_cases h : j = i
  · subst h; rw [if_pos rfl, List.getElem?_set_self hi]; rfl
  · rw [if_neg h, List.getElem?_set_ne (Ne.symm h)]
theorem shp_put {L M : Nat} {x : List (List Int)} (h : Shp L M x) {a b : Nat} (ha : a ≤ L) (v : Int) : Shp L M (put x a b v) := by
  refine ⟨by rw [put, List.length_set]; exact h.len, fun j hj => ?_⟩
  rw [put, rd_L1_set (by rw [h.len]; omega)]
  split
  · rw [List.length_set]; exact h.row a ha
  · exact h.row j hj
theorem get_put {L M : Nat} {x : List (List Int)} (h : Shp L M x) {a b : Nat} (ha : a ≤ L) (hb : b ≤ M) (v : Int) (a' b' : Nat) : get (put x a b v) a' b' = if a' = a ∧ b' = b then v else get x a' b' := by
  unfold get put
  rw [rd_L1_set (by rw [h.len]; omega)]
  by_cases h1 : a' = a
  · subst h1
    rw [if_pos rfl, rd_set' (by rw [h.row a' ha]; omega)]
    by_cases h2 : b' = b
    · rw [if_pos h2, if_pos ⟨rfl, h2⟩]
    · rw [if_neg h2, if_neg (fun q => h2 q.2)]
  · rw [if_neg h1, if_neg (fun q => h1 q.1)]
theorem change_eq (a b o i c : Int) : diaphoneref06_change.f a b o i c = some (ch c a b) := by
  unfold diaphoneref06_change.f ch
  by_cases h : a = b
  · rw [if_pos h, if_pos h]
  · rw [if_neg h, if_neg h]
theorem small {o : Int} (ho : 0 ≤ o ∧ o ≤ 9) {p : Int} (hp : 0 ≤ p ∧ p ≤ 10) : 0 ≤ o * p ∧ o * p ≤ 90 := by
  have h1 : 0 ≤ o * p := Int.mul_nonneg ho.1 hp.1
  have h2 : o * p ≤ o * 10 := Int.mul_le_mul_of_nonneg_left hp.2 ho.1
  omega
theorem val_eq {o i t e p q p' q' : Int} (ho : 0 ≤ o ∧ o ≤ 9) (hi : 0 ≤ i ∧ i ≤ 9) (ht : 0 ≤ t ∧ t ≤ 9) (he : 0 ≤ e ∧ e ≤ 200) (hp : 0 ≤ p ∧ p ≤ 10) (hq : 0 ≤ q ∧ q ≤ 10) (ep : p' = p) (eq : q' = q) :
    wrap64 ((wrap64 ((wrap64 ((wrap64 (o * (wrap64 p'))) + (wrap64 (i * (wrap64 q'))))) + t)) + e) = o * p + i * q + t + e := by
  subst ep eq
  have h1 := small ho hp
  have h2 := small hi hq
  rw [w64 (x := p') (by omega) (by omega), w64 (x := q') (by omega) (by omega), w64 (x := o * p') (by omega) (by omega), w64 (x := i * q') (by omega) (by omega), w64 (x := o * p' + i * q') (by omega) (by omega), w64 (x := o * p' + i * q' + t) (by omega) (by omega), w64 (by omega) (by omega)]
theorem nx' {a : Nat} (h : a ≤ 1000) : wrap64 ((a : Int) + 1) = ((a + 1 : Nat) : Int) := by rw [w64 (by omega) (by omega)]; omega
theorem nx {a : Nat} (h : a ≤ 10) : wrap64 ((a : Int) + 1) = ((a + 1 : Nat) : Int) := by rw [w64 (by omega) (by omega)]; omega
section
variable {l m : List Int} {o i c : Int}
/-- An entry of the two tables is right. -/
def Ok (l m : List Int) (o i c : Int) (x y : List (List Int)) (a b : Nat) : Prop := (0 ≤ get x a b ∧ get x a b ≤ 180) ∧ Bst (Up l.length m.length a b) (uc o i (gp l m c) ((l.length : Int) - a) ((m.length : Int) - b)) (get x a b) (get y a b)
def Gd (l m : List Int) (o i c : Int) (r : List (List Int) × List (List Int)) : Prop := Shp l.length m.length r.1 ∧ Shp l.length m.length r.2 ∧ ∀ a b, a ≤ l.length → b ≤ m.length → Ok l m o i c r.1 r.2 a b
/-- Right from row p on, and in row p - 1 from place q on. -/
def Dn' (l m : List Int) (o i c : Int) (x y : List (List Int)) (p q : Nat) : Prop := Shp l.length m.length x ∧ Shp l.length m.length y ∧ ∀ a b, a ≤ l.length → b ≤ m.length → (p < a ∨ a = p ∧ q ≤ b) → Ok l m o i c x y a b
theorem loop4 {x y : List (List Int)} {p q a : Nat} (hL : l.length ≤ 10) (hM : m.length ≤ 10) (ho : 0 ≤ o ∧ o ≤ 9) (hi : 0 ≤ i ∧ i ≤ 9) (hc : 0 ≤ c ∧ c ≤ 9) (hp : p ≤ a) (ha : a < l.length) (hd : Dn' l m o i c x y p (q + 1)) (hq : q ≤ m.length)
    (out : ∀ u n : Int, (0 ≤ u ∧ u ≤ 180) → Bst (Sx (Up l.length m.length p q) a m.length) (uc o i (gp l m c) ((l.length : Int) - p) ((m.length : Int) - q)) u n → ∃ r, Gd l m o i c r ∧ Tl (fun k => diaphoneref06_ends.l3 k l m x y (p : Int) (q : Int) u n ((a + 1 : Nat) : Int) o i c) r) :
    ∀ (d b : Nat) (u n : Int), q ≤ b → b ≤ m.length → m.length - b = d → (0 ≤ u ∧ u ≤ 180) → Bst (Sx (Up l.length m.length p q) a b) (uc o i (gp l m c) ((l.length : Int) - p) ((m.length : Int) - q)) u n → ∃ r, Gd l m o i c r ∧ Tl (fun k => diaphoneref06_ends.l4 k l m x y (p : Int) (q : Int) u n (a : Int) (b : Int) o i c) r := by
  intro d
  induction d with
  | zero =>
    intro b u n h1 h2 h3 hu hb
    obtain rfl : b = m.length := by omega
    obtain ⟨r, hr, ht⟩ := out u n hu hb
    refine ⟨r, hr, Tl.succ ?_⟩
    simp only [diaphoneref06_ends.l4]
    rw [w64 (x := (a : Int) + 1) (by omega) (by omega), show (a : Int) + 1 = ((a + 1 : Nat) : Int) by omega]
    exact Tl.neg (by omega) ht
  | succ d ih =>
    intro b u n h1 h2 h3 hu hb
    have hbl : b < m.length := by omega
    obtain ⟨s1, s2, hok⟩ := hd
    obtain ⟨he, hB⟩ := hok (a + 1) (b + 1) (by omega) (by omega) (.inl (by omega))
    have l8 := s1.len
    have l9 := s2.len
    have r8 := s1.row (a + 1) (by omega)
    have r9 := s2.row (a + 1) (by omega)
    have ht := ch_range hc.1 (rd l (a : Int)) (rd m (b : Int))
    have ht9 : ch c (rd l (a : Int)) (rd m (b : Int)) ≤ 9 := by omega
    have k1 := small ho (p := (a : Int) - p) ⟨by omega, by omega⟩
    have k2 := small hi (p := (b : Int) - q) ⟨by omega, by omega⟩
    have q1 := up_few hL hM hb (fun x h => h.1)
    have q2 := up_few hL hM hB (fun x h => h)
    have p1 := hb.pos
    have p2 := hB.pos
    have hv : 0 ≤ o * ((a : Int) - p) + i * ((b : Int) - q) + ch c (rd l (a : Int)) (rd m (b : Int)) + get x (a + 1) (b + 1) := by omega
    have z1 : 0 ≤ (a : Int) - p ∧ (a : Int) - p ≤ 10 := ⟨by omega, by omega⟩
    have z2 : 0 ≤ (b : Int) - q ∧ (b : Int) - q ≤ 10 := ⟨by omega, by omega⟩
    have z3 : 0 ≤ get x (a + 1) (b + 1) ∧ get x (a + 1) (b + 1) ≤ 200 := ⟨he.1, by omega⟩
    have z4 : 0 ≤ a ∧ a ≤ 10 := by omega
    have z5 : 0 ≤ b ∧ b ≤ 10 := by omega
    have E1 := Aside0.mk (nx z4.2)
    have E2 := Aside0.mk (nx z5.2)
    have EV := Aside0.mk (@val_eq o i (ch c (rd l (a : Int)) (rd m (b : Int))) (get x (a + 1) (b + 1)) ((a : Int) - p) ((b : Int) - q) ((a : Int) - p) ((b : Int) - q) ho hi ⟨ht.1, ht9⟩ z3 z1 z2 rfl rfl)
    have st := (fst_up (L := l.length) (M := m.length) (i := p) (j := q)).step (a := a) (b := b) ⟨hp, ha⟩ ⟨h1, hbl⟩ hb hB (s := o * ((a : Int) - p) + i * ((b : Int) - q) + gp l m c a b) (fun t _ => uc_cons' (by omega) (by omega) t) rfl
    rw [show get x (a + 1) (b + 1) + (o * ((a : Int) - p) + i * ((b : Int) - q) + gp l m c a b) = o * ((a : Int) - p) + i * ((b : Int) - q) + ch c (rd l (a : Int)) (rd m (b : Int)) + get x (a + 1) (b + 1) by unfold gp; omega] at st
    generalize o * ((a : Int) - p) + i * ((b : Int) - q) + ch c (rd l (a : Int)) (rd m (b : Int)) + get x (a + 1) (b + 1) = v at st EV hv
    have ST := Aside0.mk st
    clear st
    have body : ∀ r : List (List Int) × List (List Int),
        (v < u → Tl (fun k => diaphoneref06_ends.l4 k l m x y (p : Int) (q : Int) v (get y (a + 1) (b + 1)) (a : Int) ((b + 1 : Nat) : Int) o i c) r) →
        (v = u → Tl (fun k => diaphoneref06_ends.l4 k l m x y (p : Int) (q : Int) u (n + get y (a + 1) (b + 1)) (a : Int) ((b + 1 : Nat) : Int) o i c) r) →
        (u < v → Tl (fun k => diaphoneref06_ends.l4 k l m x y (p : Int) (q : Int) u n (a : Int) ((b + 1 : Nat) : Int) o i c) r) →
        Tl (fun k => diaphoneref06_ends.l4 k l m x y (p : Int) (q : Int) u n (a : Int) (b : Int) o i c) r := by
      intro r c1 c2 c3
      refine Tl.succ ?_
      simp only [diaphoneref06_ends.l4]
      rw [E1.out, E2.out]
      refine Tl.pos (by omega) (Tl.pos (by omega) (Tl.pos (by omega) (Tl.pos (by omega) (Tl.bind' (change_eq _ _ _ _ _) ?_))))
      refine Tl.pos (by omega) (Tl.pos (by rw [l8]; omega) (Tl.pos (by omega) (Tl.pos (by rw [r8]; omega) ?_)))
      rw [show rd (rd_L1 x ((a + 1 : Nat) : Int)) ((b + 1 : Nat) : Int) = get x (a + 1) (b + 1) from rfl, show rd (rd_L1 y ((a + 1 : Nat) : Int)) ((b + 1 : Nat) : Int) = get y (a + 1) (b + 1) from rfl, EV.out]
      by_cases h : v < u
      · refine Tl.pos h (Tl.pos trivial (Tl.pos (by rw [l9]; omega) (Tl.pos (by rw [r9]; omega) ?_)))
        rw [w64 (x := 0 + get y (a + 1) (b + 1)) (by omega) (by omega), Int.zero_add]
        exact c1 h
      · refine Tl.neg h ?_
        by_cases h' : v = u
        · refine Tl.pos h' (Tl.pos (by rw [l9]; omega) (Tl.pos (by rw [r9]; omega) ?_))
          rw [w64 (x := n + get y (a + 1) (b + 1)) (by omega) (by omega)]
          exact c2 h'
        · exact Tl.neg h' (c3 (by omega))
    by_cases h : v < u
    · obtain ⟨r, hr, t⟩ := ih (b + 1) v _ (by omega) (by omega) (by omega) ⟨hv, by omega⟩ (ST.out.1 h)
      exact ⟨r, hr, body r (fun _ => t) (fun h' => by omega) (fun h' => by omega)⟩
    · by_cases h' : v = u
      · obtain ⟨r, hr, t⟩ := ih (b + 1) u _ (by omega) (by omega) (by omega) hu (ST.out.2.1 h')
        exact ⟨r, hr, body r (fun h => by omega) (fun _ => t) (fun h => by omega)⟩
      · obtain ⟨r, hr, t⟩ := ih (b + 1) u n (by omega) (by omega) (by omega) hu (ST.out.2.2 (by omega))
        exact ⟨r, hr, body r (fun h => by omega) (fun h => by omega) (fun _ => t)⟩
theorem loop3 {x y : List (List Int)} {p q : Nat} (hL : l.length ≤ 10) (hM : m.length ≤ 10) (ho : 0 ≤ o ∧ o ≤ 9) (hi : 0 ≤ i ∧ i ≤ 9) (hc : 0 ≤ c ∧ c ≤ 9) (hp : p ≤ l.length) (hq : q ≤ m.length) (hd : Dn' l m o i c x y p (q + 1))
    (out : ∀ x' y', Dn' l m o i c x' y' p q → ∃ r, Gd l m o i c r ∧ Tl (fun k => diaphoneref06_ends.l2 k l m x' y' (p : Int) ((q : Int) - 1) o i c) r) :
    ∀ (d a : Nat) (u n : Int), p ≤ a → a ≤ l.length → l.length - a = d → (0 ≤ u ∧ u ≤ 180) → Bst (Sx (Up l.length m.length p q) a q) (uc o i (gp l m c) ((l.length : Int) - p) ((m.length : Int) - q)) u n → ∃ r, Gd l m o i c r ∧ Tl (fun k => diaphoneref06_ends.l3 k l m x y (p : Int) (q : Int) u n (a : Int) o i c) r := by
  intro d
  induction d with
  | zero =>
    intro a u n h1 h2 h3 hu hb
    obtain rfl : a = l.length := by omega
    obtain ⟨s1, s2, hok⟩ := hd
    have hb' := hb.congr (g := uc o i (gp l m c) ((l.length : Int) - p) ((m.length : Int) - q)) (fst_up (L := l.length) (M := m.length) (i := p) (j := q)).full (fun _ _ => rfl)
    obtain ⟨r, hr, ht⟩ := out (put x p q u) (put y p q n) ⟨shp_put s1 hp u, shp_put s2 hp n, fun a b ha hb hc => by
      unfold Ok
      rw [get_put s1 hp hq, get_put s2 hp hq]
      by_cases e : a = p ∧ b = q
      · rw [if_pos e, if_pos e]
        obtain ⟨rfl, rfl⟩ := e
        exact ⟨hu, hb'⟩
      · rw [if_neg e, if_neg e]
        exact hok a b ha hb (by omega)⟩
    refine ⟨r, hr, Tl.succ ?_⟩
    simp only [diaphoneref06_ends.l3]
    have l8 := s1.len
    have l9 := s2.len
    have r8 := s1.row p hp
    have r9 := s2.row p hp
    rw [w64 (x := (q : Int) - 1) (by omega) (by omega), Int.toNat_natCast, Int.toNat_natCast]
    exact Tl.neg (by omega) (Tl.pos (by omega) (Tl.pos (by rw [l8]; omega) (Tl.pos (by omega) (Tl.pos (by rw [r8]; omega) (Tl.pos (by rw [l9]; omega) (Tl.pos (by rw [r9]; omega) ht))))))
  | succ d ih =>
    intro a u n h1 h2 h3 hu hb
    obtain ⟨r, hr, t⟩ := loop4 hL hM ho hi hc h1 (show a < l.length by omega) hd hq (fun u n hu hb => ih (a + 1) u n (by omega) (by omega) (by omega) hu (hb.congr (fst_up (L := l.length) (M := m.length) (i := p) (j := q)).row (fun _ _ => rfl))) (m.length - q) q u n (Nat.le_refl _) hq rfl hu hb
    refine ⟨r, hr, Tl.succ ?_⟩
    simp only [diaphoneref06_ends.l3]
    exact Tl.pos (by omega) t
theorem loop2 {p : Nat} (hL : l.length ≤ 10) (hM : m.length ≤ 10) (ho : 0 ≤ o ∧ o ≤ 9) (hi : 0 ≤ i ∧ i ≤ 9) (hc : 0 ≤ c ∧ c ≤ 9) (hp : p ≤ l.length)
    (out : ∀ x' y', Dn' l m o i c x' y' p 0 → ∃ r, Gd l m o i c r ∧ Tl (fun k => diaphoneref06_ends.l1 k l m x' y' ((p : Int) - 1) o i c) r) :
    ∀ (q : Nat) (x y : List (List Int)), q ≤ m.length + 1 → Dn' l m o i c x y p q → ∃ r, Gd l m o i c r ∧ Tl (fun k => diaphoneref06_ends.l2 k l m x y (p : Int) ((q : Int) - 1) o i c) r
  | 0, x, y, _, hd => by
    obtain ⟨r, hr, t⟩ := out x y hd
    refine ⟨r, hr, Tl.succ ?_⟩
    simp only [diaphoneref06_ends.l2]
    rw [w64 (x := (p : Int) - 1) (by omega) (by omega)]
    exact Tl.neg (by omega) t
  | q + 1, x, y, hq, hd => by
    have k1 := small ho (p := (l.length : Int) - p) ⟨by omega, by omega⟩
    have k2 := small hi (p := (m.length : Int) - q) ⟨by omega, by omega⟩
    have one := Bst.one [] (f := uc o i (gp l m c) ((l.length : Int) - p) ((m.length : Int) - q)) (fst_up (L := l.length) (M := m.length) (i := p) (j := q)).start
    rw [uc_nil] at one
    obtain ⟨r, hr, t⟩ := loop3 hL hM ho hi hc hp (show q ≤ m.length by omega) hd (fun x' y' hd' => loop2 hL hM ho hi hc hp out q x' y' (by omega) hd') (l.length - p) p _ 1 (Nat.le_refl _) hp rfl ⟨by omega, by omega⟩ one
    refine ⟨r, hr, Tl.succ ?_⟩
    simp only [diaphoneref06_ends.l2]
    rw [show ((q + 1 : Nat) : Int) - 1 = (q : Int) by omega, w64 (x := (l.length : Int) - p) (by omega) (by omega), w64 (x := (m.length : Int) - q) (by omega) (by omega), w64 (x := o * ((l.length : Int) - p)) (by omega) (by omega), w64 (x := i * ((m.length : Int) - q)) (by omega) (by omega), w64 (x := o * ((l.length : Int) - p) + i * ((m.length : Int) - q)) (by omega) (by omega)]
    exact Tl.pos (by omega) t
theorem loop1 (hL : l.length ≤ 10) (hM : m.length ≤ 10) (ho : 0 ≤ o ∧ o ≤ 9) (hi : 0 ≤ i ∧ i ≤ 9) (hc : 0 ≤ c ∧ c ≤ 9) :
    ∀ (p : Nat) (x y : List (List Int)), p ≤ l.length + 1 → (Shp l.length m.length x ∧ Shp l.length m.length y ∧ ∀ a b, a ≤ l.length → b ≤ m.length → p ≤ a → Ok l m o i c x y a b) → ∃ r, Gd l m o i c r ∧ Tl (fun k => diaphoneref06_ends.l1 k l m x y ((p : Int) - 1) o i c) r
  | 0, x, y, _, hd => by
    refine ⟨(x, y), ⟨hd.1, hd.2.1, fun a b ha hb => hd.2.2 a b ha hb (by omega)⟩, Tl.succ ?_⟩
    simp only [diaphoneref06_ends.l1]
    exact Tl.neg (by omega) Tl.now
  | p + 1, x, y, hp, hd => by
    obtain ⟨r, hr, t⟩ := loop2 hL hM ho hi hc (show p ≤ l.length by omega) (fun x' y' hd' => loop1 hL hM ho hi hc p x' y' (by omega) ⟨hd'.1, hd'.2.1, fun a b ha hb hpa => hd'.2.2 a b ha hb (by omega)⟩) (m.length + 1) x y (by omega) ⟨hd.1, hd.2.1, fun a b ha hb hc' => hd.2.2 a b ha hb (by omega)⟩
    refine ⟨r, hr, Tl.succ ?_⟩
    simp only [diaphoneref06_ends.l1]
    rw [show ((p + 1 : Nat) : Int) - 1 = (p : Int) by omega]
    rw [show ((m.length + 1 : Nat) : Int) - 1 = (m.length : Int) by omega] at t
    exact Tl.pos (by omega) t
theorem shp_zero (L M : Nat) : Shp L M (List.replicate (L + 1) (List.replicate (M + 1) 0)) := by
  refine ⟨by simp, fun a ha => ?_⟩
  unfold rd_L1
  rw [Int.toNat_natCast, List.getD_eq_getElem?_getD, List.getElem?_replicate, if_pos (by omega)]
  simp
theorem loop0 (hL : l.length ≤ 10) (hM : m.length ≤ 10) (ho : 0 ≤ o ∧ o ≤ 9) (hi : 0 ≤ i ∧ i ≤ 9) (hc : 0 ≤ c ∧ c ≤ 9) : ∀ (d n : Nat), n ≤ l.length + 1 → l.length + 1 - n = d → ∃ r, Gd l m o i c r ∧ Tl (fun k => diaphoneref06_ends.l0 k l m (List.replicate n (List.replicate (m.length + 1) 0)) (List.replicate n (List.replicate (m.length + 1) 0)) (n : Int) o i c) r := by
  intro d
  induction d with
  | zero =>
    intro n h1 h2
    obtain rfl : n = l.length + 1 := by omega
    obtain ⟨r, hr, t⟩ := loop1 hL hM ho hi hc (l.length + 1) _ _ (Nat.le_refl _) ⟨shp_zero l.length m.length, shp_zero l.length m.length, fun a b ha hb hc' => by omega⟩
    refine ⟨r, hr, Tl.succ ?_⟩
    simp only [diaphoneref06_ends.l0]
    rw [show ((l.length + 1 : Nat) : Int) - 1 = (l.length : Int) by omega] at t
    exact Tl.neg (by omega) t
  | succ d ih =>
    intro n h1 h2
    obtain ⟨r, hr, t⟩ := ih (n + 1) (by omega) (by omega)
    refine ⟨r, hr, Tl.succ ?_⟩
    simp only [diaphoneref06_ends.l0]
    have e1 : wrap64 ((m.length : Int) + 1) = ((m.length + 1 : Nat) : Int) := by rw [w64 (by omega) (by omega)]; omega
    have e2 : wrap64 ((n : Int) + 1) = ((n + 1 : Nat) : Int) := by rw [w64 (by omega) (by omega)]; omega
    rw [e1, e2, Int.toNat_natCast, ← List.replicate_succ', List.length_replicate]
    exact Tl.pos (by omega) (Tl.pos (by omega) (Tl.pos (by omega) (Tl.pos (by omega) (Tl.pos (by omega) t))))
theorem ev_ends (hL : l.length ≤ 10) (hM : m.length ≤ 10) (ho : 0 ≤ o ∧ o ≤ 9) (hi : 0 ≤ i ∧ i ≤ 9) (hc : 0 ≤ c ∧ c ≤ 9) : ∃ r, Gd l m o i c r ∧ Tl (fun k => diaphoneref06_ends.f k l m o i c) r := by
  unfold diaphoneref06_ends.f
  exact loop0 hL hM ho hi hc (l.length + 1) 0 (by omega) (by omega)
/-- The document's distance is the program's. -/
theorem ev_rdistance (hL : l.length ≤ 10) (hM : m.length ≤ 10) (ho : 0 ≤ o ∧ o ≤ 9) (hi : 0 ≤ i ∧ i ≤ 9) (hc : 0 ≤ c ∧ c ≤ 9) : Tl (fun k => diaphoneref06_distance.f k l m o i c) (log_tb l m o i c l.length m.length) := by
  unfold diaphoneref06_distance.f
  obtain ⟨r, ⟨s1, s2, hok⟩, t⟩ := ev_ends (l := l) (m := m) hL hM ho hi hc
  have h0 := (hok 0 0 (by omega) (by omega)).2
  simp only [Int.ofNat_zero, Int.natCast_zero, Int.sub_zero] at h0
  have h1 := bst_isD h0
  have h2 := tb_isD (l := l) (m := m) (o := o) (i := i) (c := c) l.length m.length (Nat.le_refl _) (Nat.le_refl _)
  rw [List.take_length, List.take_length] at h2
  have l1 := s1.len
  have l2 := s1.row 0 (by omega)
  refine Tl.bind t (Tl.pos (by rw [l1]; omega) (Tl.pos (by rw [show (0 : Int) = ((0 : Nat) : Int) from rfl, l2]; omega) (Tl.to Tl.now ?_)))
  exact h1.unique h2
theorem ldistance_eq (hL : l.length ≤ 10) (hM : m.length ≤ 10) (ho : 0 ≤ o ∧ o ≤ 9) (hi : 0 ≤ i ∧ i ≤ 9) (hc : 0 ≤ c ∧ c ≤ 9) : log_distance.f l m o i c = some (log_tb l m o i c l.length m.length) := by
  unfold log_distance.f log_table.f
  rw [if_pos ⟨hL, hM, ho, hi, hc⟩]; rfl
end
end Go.Proofs.Ytcbepmdnhjojdaa.En
