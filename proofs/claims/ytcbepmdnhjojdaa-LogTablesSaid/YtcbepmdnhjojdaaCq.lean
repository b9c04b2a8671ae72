/- How many comparisons the program counts; the costs of pairs. -/
import Derived.Test.YtcbepmdnhjojdaaLo
import Derived.Test.YtcbepmdnhjojdaaCn
import Derived.Test.YtcbepmdnhjojdaaPx30
set_option linter.unusedVariables false
set_option linter.unusedSimpArgs false
namespace Go.Proofs.Ytcbepmdnhjojdaa.Cq
open Go.RowKit Go.Proofs.Ytcbepmdnhjojdaa.P Go.Proofs.Ytcbepmdnhjojdaa.E Go.Proofs.Ytcbepmdnhjojdaa.Al Go.Proofs.Ytcbepmdnhjojdaa.Lo Go.Proofs.Ytcbepmdnhjojdaa.Cn Go.Proofs.YtcbepmdnhjojdaaW.PrintMore
open Go.Proofs.YtcbepmdnhjojdaaW.PrintWords
def gp (l m : List Int) (c : Int) (a b : Nat) : Int := ch c (rd l (a : Int)) (rd m (b : Int))
theorem uc_cons' {o i : Int} {g : Nat → Nat → Int} {u v u' v' p q : Int} {a b : Nat} (hu : u' = u + 1 + p) (hv : v' = v + 1 + q) (t : Cmp) : uc o i g u' v' ((a, b) :: t) = uc o i g u v t + (o * p + i * q + g a b) := by
  subst hu hv; exact uc_cons ..
section
variable {l m : List Int} {o i c : Int}
theorem upin_bst {a k x : Nat} (ha : a ≤ 10) (hk : k ≤ 10) (hx : x < a) (ih : ∀ y, y < k → Bst (Dn x y) (uc o i (gp l m c) x y) (log_upout (log_F l m o i c) o i x y x).1 (log_upout (log_F l m o i c) o i x y x).2) {acc : Int × Int} (h0 : Bst (Sx (Dn a k) x 0) (uc o i (gp l m c) a k) acc.1 acc.2) :
    ∀ y, y ≤ k → Bst (Sx (Dn a k) x y) (uc o i (gp l m c) a k) (log_upin (log_F l m o i c) o i a k x acc y).1 (log_upin (log_F l m o i c) o i a k x acc y).2
  | 0, _ => h0
  | y + 1, hy => by
    have h1 := upin_bst ha hk hx ih h0 y (by omega)
    have h2 := ih y (by omega)
    rw [log_upin, log_F_eq]
    generalize log_upin (log_F l m o i c) o i a k x acc y = A at *
    obtain ⟨u, n⟩ := A
    generalize log_upout (log_F l m o i c) o i x y x = B at *
    obtain ⟨e, n'⟩ := B
    dsimp only at h1 h2 ⊢
    obtain ⟨v, hv⟩ : ∃ v, v = e + log_ch c (rd l (x : Int)) (rd m (y : Int)) + log_shift o i a k x y := ⟨_, rfl⟩
    have st := fst_dn (a := a) (k := k) |>.step (a := x) (b := y) (by omega) (by omega) h1 h2 (s := o * ((a : Int) - 1 - x) + i * ((k : Int) - 1 - y) + gp l m c x y) (x := v) (fun t _ => uc_cons' (by omega) (by omega) t) (by
      rw [hv]; unfold log_shift gp; rw [show log_ch c (rd l (x : Int)) (rd m (y : Int)) = ch c (rd l (x : Int)) (rd m (y : Int)) from rfl, Int.mul_comm o, Int.mul_comm i]; omega)
    rw [← hv]
    have p1 := h1.pos
    have p2 := h2.pos
    have q1 := dn_few ha hk h1 (fun x h => h.1)
    have q2 := dn_few (by omega) (by omega) h2 (fun x h => h)
    unfold log_with
    dsimp only
    by_cases c1 : v < u
    · rw [if_pos (.inr ⟨p2, c1⟩)]
      exact st.1 c1
    · rw [if_neg (by omega)]
      by_cases c2 : u = v
      · rw [if_pos ⟨p2, c2⟩, w64 (by omega) (by omega)]
        exact st.2.1 c2.symm
      · rw [if_neg (by omega)]
        exact st.2.2 (by omega)
theorem up_bst : ∀ a k : Nat, a ≤ 10 → k ≤ 10 → Bst (Dn a k) (uc o i (gp l m c) a k) (log_upout (log_F l m o i c) o i a k a).1 (log_upout (log_F l m o i c) o i a k a).2 := by
  intro a
  induction a using Nat.strongRecOn with
  | _ a ih =>
    intro k ha hk
    have key : ∀ x, x ≤ a → Bst (Sx (Dn a k) x 0) (uc o i (gp l m c) a k) (log_upout (log_F l m o i c) o i a k x).1 (log_upout (log_F l m o i c) o i a k x).2 := by
      intro x
      induction x with
      | zero =>
        intro _
        have := Bst.one [] (f := uc o i (gp l m c) a k) (fst_dn (a := a) (k := k)).start
        rw [uc_nil] at this
        rw [log_upout, Int.mul_comm (a : Int), Int.mul_comm (k : Int)]
        exact this
      | succ x hx =>
        intro h
        rw [log_upout]
        exact (upin_bst ha hk (by omega) (fun y hy => ih x (by omega) y (by omega) (by omega)) (hx (by omega)) k (Nat.le_refl _)).congr (fst_dn (a := a) (k := k)).row (fun _ _ => rfl)
    exact (key a (Nat.le_refl _)).congr (fst_dn (a := a) (k := k)).full (fun _ _ => rfl)
theorem ev_Count (hl : l.length ≤ 1000) (hm : m.length ≤ 1000) : ∃ n : Int, (kc l m o i c = 0 → ∃ d, Bst (Dn l.length m.length) (uc o i (gp l m c) l.length m.length) d n) ∧ Tl (fun k => log_Count.f k l m o i c) (if kc l m o i c = 0 then n else 0, kc l m o i c) := by
  unfold log_Count.f
  by_cases h : kc l m o i c = 0
  · obtain ⟨h1, h2, h3⟩ := kc_zero.1 h
    have g1 := (lc_zero.1 h1).1
    have g2 := (lc_zero.1 h2).1
    have g3 := cc_zero.1 h3
    refine ⟨_, fun _ => ⟨_, up_bst (l := l) (m := m) (o := o) (i := i) (c := c) l.length m.length g1 g2⟩, ?_⟩
    refine Tl.bind (ev_check hl hm) (Tl.pos h (Tl.pos ⟨g1, g2, ⟨by omega, by omega⟩, ⟨by omega, by omega⟩, ⟨by omega, by omega⟩⟩ (Tl.to Tl.now ?_)))
    rw [if_pos h, h]
  · exact ⟨0, fun q => absurd q h, by rw [if_neg h]; exact Tl.bind (ev_check hl hm) (Tl.neg h Tl.now)⟩
/-! What pairs cost is what a comparison costs. -/
theorem up_al : ∀ (x : Cmp) (p q : Nat), p ≤ l.length → q ≤ m.length → Up l.length m.length p q x → Al o i c (l.drop p) (m.drop q) (uc o i (gp l m c) ((l.length : Int) - p) ((m.length : Int) - q) x)
  | [], p, q, hp, hq, _ => by
    have := al_all (o := o) (i := i) (c := c) (l.drop p) (m.drop q)
    rw [List.length_drop, List.length_drop] at this
    rwa [uc_nil, show (l.length : Int) - p = ((l.length - p : Nat) : Int) by omega, show (m.length : Int) - q = ((m.length - q : Nat) : Int) by omega]
  | (a, b) :: t, p, q, hp, hq, h => by
    obtain ⟨ha, hb, ht⟩ := up_cons.1 h
    have ih := up_al t (a + 1) (b + 1) (by omega) (by omega) ht
    have e1 : (l.drop p)[a - p]? = some (rd l (a : Int)) := by rw [List.getElem?_drop, show p + (a - p) = a by omega, List.getElem?_eq_getElem ha.2, rd_lt ha.2]
    have e2 : (m.drop q)[b - q]? = some (rd m (b : Int)) := by rw [List.getElem?_drop, show q + (b - q) = b by omega, List.getElem?_eq_getElem hb.2, rd_lt hb.2]
    have k := al_pair (o := o) (i := i) (c := c) (n' := uc o i (gp l m c) ((l.length : Int) - (a + 1 : Nat)) ((m.length : Int) - (b + 1 : Nat)) t) e1 e2 (by
      rw [List.drop_drop, List.drop_drop, show p + (a - p + 1) = a + 1 by omega, show q + (b - q + 1) = b + 1 by omega]; exact ih)
    rw [uc_cons' (u := (l.length : Int) - (a + 1 : Nat)) (v := (m.length : Int) - (b + 1 : Nat)) (p := (a : Int) - p) (q := (b : Int) - q) (by omega) (by omega)]
    rw [show ((a - p : Nat) : Int) = (a : Int) - p by omega, show ((b - q : Nat) : Int) = (b : Int) - q by omega] at k
    unfold gp
    rwa [show ∀ x y : Int, x + y = y + x from Int.add_comm]
theorem al_up : ∀ (d p q : Nat) (n : Int), l.length - p = d → p ≤ l.length → q ≤ m.length → Al o i c (l.drop p) (m.drop q) n → ∃ x, Up l.length m.length p q x ∧ uc o i (gp l m c) ((l.length : Int) - p) ((m.length : Int) - q) x = n := by
  intro d
  induction d using Nat.strongRecOn with
  | _ d ih =>
    intro p q n hd hp hq h
    rcases al_first h with e | ⟨a, b, x, y, n', h1, h2, h3, h4⟩
    · refine ⟨[], up_nil, ?_⟩
      rw [uc_nil, e, List.length_drop, List.length_drop, show (l.length : Int) - p = ((l.length - p : Nat) : Int) by omega, show (m.length : Int) - q = ((m.length - q : Nat) : Int) by omega]
    · obtain ⟨a1, a2⟩ := List.getElem?_eq_some_iff.1 h1
      obtain ⟨b1, b2⟩ := List.getElem?_eq_some_iff.1 h2
      rw [List.length_drop] at a1 b1
      rw [List.getElem_drop] at a2 b2
      rw [List.drop_drop, List.drop_drop, show p + (a + 1) = p + a + 1 by omega, show q + (b + 1) = q + b + 1 by omega] at h3
      obtain ⟨t, t1, t2⟩ := ih (l.length - (p + a + 1)) (by omega) (p + a + 1) (q + b + 1) n' rfl (by omega) (by omega) h3
      refine ⟨(p + a, q + b) :: t, up_cons.2 ⟨⟨by omega, by omega⟩, ⟨by omega, by omega⟩, t1⟩, ?_⟩
      rw [uc_cons' (u := (l.length : Int) - (p + a + 1 : Nat)) (v := (m.length : Int) - (q + b + 1 : Nat)) (p := (a : Int)) (q := (b : Int)) (by omega) (by omega), t2, h4]
      unfold gp
      rw [rd_lt (show p + a < l.length by omega), rd_lt (show q + b < m.length by omega), a2, b2]
      omega
theorem bst_isD {d n : Int} (h : Bst (Up l.length m.length 0 0) (uc o i (gp l m c) l.length m.length) d n) : IsD o i c l m d := by
  obtain ⟨⟨x, x1, x2⟩, h2, _⟩ := h
  constructor
  · have := up_al (o := o) (i := i) (c := c) x 0 0 (by omega) (by omega) x1
    rw [List.drop_zero, List.drop_zero] at this
    simp only [Int.ofNat_zero, Int.natCast_zero, Int.sub_zero] at this
    rwa [x2] at this
  · intro n' hn
    obtain ⟨y, y1, y2⟩ := al_up (l := l) (m := m) (o := o) (i := i) (c := c) l.length 0 0 n' (by omega) (by omega) (by omega) (by rw [List.drop_zero, List.drop_zero]; exact hn)
    simp only [Int.ofNat_zero, Int.natCast_zero, Int.sub_zero] at y2
    rw [← y2]; exact h2 y y1
end
end Go.Proofs.Ytcbepmdnhjojdaa.Cq
