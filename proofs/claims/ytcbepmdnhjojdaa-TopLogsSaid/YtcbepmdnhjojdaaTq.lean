/- What the last law of the chapter needs besides: the program's comparison and table have the distance; common lists bound it; the part that is nearest. -/
import Derived.Test.YtcbepmdnhjojdaaTp
import Derived.Test.YtcbepmdnhjojdaaPx10
import Derived.Test.YtcbepmdnhjojdaaPx34
set_option linter.unusedVariables false
set_option linter.unusedSimpArgs false
namespace Go.Proofs.Ytcbepmdnhjojdaa.Tq
open Go.RowKit Go.Proofs.Ytcbepmdnhjojdaa.P Go.Proofs.Ytcbepmdnhjojdaa.E Go.Proofs.Ytcbepmdnhjojdaa.Al Go.Proofs.Ytcbepmdnhjojdaa.Lo Go.Proofs.Ytcbepmdnhjojdaa.Lr Go.Proofs.Ytcbepmdnhjojdaa.Lb Go.Proofs.Ytcbepmdnhjojdaa.Cn Go.Proofs.Ytcbepmdnhjojdaa.Cq Go.Proofs.Ytcbepmdnhjojdaa.En Go.Proofs.Ytcbepmdnhjojdaa.Bs Go.Proofs.Ytcbepmdnhjojdaa.Tg Go.Proofs.Ytcbepmdnhjojdaa.Re Go.Proofs.Ytcbepmdnhjojdaa.Co Go.Proofs.Ytcbepmdnhjojdaa.Ct Go.Proofs.Ytcbepmdnhjojdaa.Pt Go.Proofs.YtcbepmdnhjojdaaW.PrintMore
open Go.Proofs.YtcbepmdnhjojdaaW.PrintWords
section
variable {l m : List Int} {o i c : Int}
def D (l m : List Int) (o i c : Int) : Int := log_tb l m o i c l.length m.length
theorem D_isD : IsD o i c l m (D l m o i c) := by
  have := tb_isD (l := l) (m := m) (o := o) (i := i) (c := c) l.length m.length (Nat.le_refl _) (Nat.le_refl _)
  rwa [List.take_length, List.take_length] at this
theorem D_eq {o' i' c' : Int} {l' m' : List Int} (h : IsD o' i' c' l' m' (D l m o i c)) : D l' m' o' i' c' = D l m o i c := D_isD.unique h
theorem ev_D (hl : l.length ≤ 1000) (hm : m.length ≤ 1000) (h : kc l m o i c = 0) : Tl (fun k => log_Distance.f k l m o i c) (D l m o i c, 0) := by
  unfold log_Distance.f
  obtain ⟨h1, h2, h3⟩ := kc_zero.1 h
  have g3 := cc_zero.1 h3
  exact Tl.bind (ev_check hl hm) (Tl.pos h (Tl.bind' (ldistance_eq (lc_zero.1 h1).1 (lc_zero.1 h2).1 ⟨by omega, by omega⟩ ⟨by omega, by omega⟩ ⟨by omega, by omega⟩) Tl.now))
theorem ev_D' (hl : l.length ≤ 1000) (hm : m.length ≤ 1000) (h : kc l m o i c ≠ 0) : Tl (fun k => log_Distance.f k l m o i c) (0, kc l m o i c) := by
  unfold log_Distance.f
  exact Tl.bind (ev_check hl hm) (Tl.neg h Tl.now)
theorem D_range (h : kc l m o i c = 0) : 0 ≤ D l m o i c ∧ D l m o i c ≤ 200 := by
  obtain ⟨h1, h2, h3⟩ := kc_zero.1 h
  have g3 := cc_zero.1 h3
  have hL := (lc_zero.1 h1).1
  have hM := (lc_zero.1 h2).1
  have hd := D_isD (l := l) (m := m) (o := o) (i := i) (c := c)
  have n0 := al_nonneg (by omega) (by omega) (by omega) hd.1
  have n1 := hd.2 _ (al_all l m)
  have e1 := small (o := o) ⟨by omega, by omega⟩ (p := (l.length : Int)) ⟨by omega, by omega⟩
  have e2 := small (o := i) ⟨by omega, by omega⟩ (p := (m.length : Int)) ⟨by omega, by omega⟩
  omega
/-! ### The comparison -/
open Pure.Prs in
theorem S_eq {U : Cmp} : ∀ d, d ≤ U.length → S l m c (U.map mk) d = Sc (gp l m c) (U.drop (U.length - d)) := by
  intro d
  induction d with
  | zero => intro _; rw [Nat.sub_zero, List.drop_length]; rfl
  | succ d ih =>
    intro h
    rw [sc_drop _ (show U.length - (d + 1) < U.length by omega), show U.length - (d + 1) + 1 = U.length - d by omega, ← ih (by omega)]
    show G l m c (rd_T65 (U.map mk) (((U.map mk).length - (d + 1) : Nat) : Int)) + S l m c (U.map mk) d = _
    rw [List.length_map, rt_mk (show U.length - (d + 1) < U.length by omega)]
    rfl
open Pure.Prs in
theorem ev_pairs {U : Cmp} (h : kc l m o i c = 0) (hU : Up l.length m.length 0 0 U) (hn : U.length ≤ l.length) (hn2 : U.length ≤ m.length) : Tl (fun k => log_CheckPairs.f k l m o i c (U.map mk)) (uc o i (gp l m c) l.length m.length U, 0) := by
  obtain ⟨h1, h2, h3⟩ := kc_zero.1 h
  have g3 := cc_zero.1 h3
  have hL := (lc_zero.1 h1).1
  have hM := (lc_zero.1 h2).1
  have hc : 0 ≤ c ∧ c ≤ 9 := ⟨by omega, by omega⟩
  have hlen : (U.map mk).length = U.length := List.length_map _
  have hi : inn l m (U.map mk) := fun t ht => by
    rw [hlen] at ht
    rw [rt_mk ht]
    have := hU.1 U[t] (List.getElem_mem ht)
    unfold wi
    rw [mk0, mk1]
    omega
  have hg : Pure.Prs.good (U.map mk) 0 := fun t _ ht => by
    rw [hlen] at ht
    unfold okj
    rw [rt_mk (show t < U.length by omega), rt_mk ht, mk0, mk1, mk0, mk1]
    have := List.pairwise_iff_getElem.1 hU.2 t (t + 1) (by omega) ht (by omega)
    omega
  unfold log_CheckPairs.f
  have po : log_pairsOut.f (U.map mk) l m = some ((U.map mk).any (fun p => log_pout l.length m.length p.f0 p.f1)) := by
    unfold log_pairsOut.f; rw [if_pos ⟨by omega, by omega, by omega⟩]
  rw [pout_iff.2 hi] at po
  have k1 := lft (o := o) ⟨by omega, by omega⟩ (p := (l.length : Int) - (U.map mk).length) ⟨by omega, by omega⟩
  have k2 := lft (o := i) ⟨by omega, by omega⟩ (p := (m.length : Int) - (U.map mk).length) ⟨by omega, by omega⟩
  have e1 : wrap64 ((wrap64 ((wrap64 ((l.length : Int) - ((U.map mk).length : Int))) * o)) + (wrap64 ((wrap64 ((m.length : Int) - ((U.map mk).length : Int))) * i))) = o * ((l.length : Int) - (U.map mk).length) + i * ((m.length : Int) - (U.map mk).length) := by
    rw [w64 (x := (l.length : Int) - (U.map mk).length) (by omega) (by omega), w64 (x := (m.length : Int) - (U.map mk).length) (by omega) (by omega), Int.mul_comm _ o, Int.mul_comm _ i, w64 (x := o * ((l.length : Int) - (U.map mk).length)) (by omega) (by omega), w64 (x := i * ((m.length : Int) - (U.map mk).length)) (by omega) (by omega), w64 (by omega) (by omega)]
  have LP := (lp_loop (l := l) (m := m) (o := o) (i := i) (c := c) (ps := U.map mk) hc (by omega) hi (U.map mk).length 0 (o * ((l.length : Int) - (U.map mk).length) + i * ((m.length : Int) - (U.map mk).length)) (by omega) (by omega) ⟨by omega, by omega⟩).1 hg
  refine Tl.bind (ev_check (by omega) (by omega)) (Tl.pos h (Tl.bind' po (Tl.neg (by decide) ?_)))
  rw [e1]
  refine Tl.to LP ?_
  rw [hlen, S_eq _ (Nat.le_refl _), Nat.sub_self, List.drop_zero]
  rfl
/-! ### What both have in common -/
theorem al_keep {p : List Int} (h : p.Sublist l) : Al o i c l p (o * ((l.length : Int) - p.length)) := by
  induction h with
  | slnil => simpa using Al.nil
  | @cons p l a h ih =>
    have := Al.out (o := o) (i := i) (c := c) a ih
    rwa [show o * ((l.length : Int) - p.length) + o = o * (((a :: l).length : Int) - p.length) by rw [List.length_cons, show ((l.length + 1 : Nat) : Int) - p.length = ((l.length : Int) - p.length) + 1 by omega, Int.mul_add, Int.mul_one]] at this
  | @cons_cons p l a h ih =>
    have := Al.both (o := o) (i := i) (c := c) a a ih
    rwa [show o * ((l.length : Int) - p.length) + ch c a a = o * (((a :: l).length : Int) - ((a :: p).length : Int)) by rw [ch, if_pos rfl, List.length_cons, List.length_cons, show ((l.length + 1 : Nat) : Int) - ((p.length + 1 : Nat) : Int) = (l.length : Int) - p.length by omega, Int.add_zero]] at this
theorem D_common (h : kc l m o i c = 0) {p : List Int} (hl : p.Sublist l) (hm : p.Sublist m) : D l m o i c ≤ o * ((l.length : Int) - p.length) + i * ((m.length : Int) - p.length) := by
  obtain ⟨h1, h2, h3⟩ := kc_zero.1 h
  have g3 := cc_zero.1 h3
  obtain ⟨x, hx, ha⟩ := al_trans (o := o) (i := i) (c := c) (by omega) (by omega) (by omega) (al_keep hl) (al_swap (al_keep (o := i) (i := o) (c := c) hm))
  have := D_isD.2 _ ha
  omega
/-- The first longest list: there is one. -/
theorem isP_some : ∀ (n : Nat) (l m : List Int), l.length ≤ n → Lo.good l = true → ∃ p, IsP l m p := by
  intro n
  induction n with
  | zero =>
    intro l m hn hg
    obtain rfl : l = [] := List.eq_nil_of_length_eq_zero (by omega)
    exact ⟨[], .nil (by rw [cm])⟩
  | succ n ih =>
    intro l m hn hg
    by_cases h0 : cm l m = 0
    · exact ⟨[], .nil h0⟩
    · obtain ⟨j, hj, hh⟩ := good_hit (m := m) hg (by omega)
      have mn : ∃ s : Nat, s < 6 ∧ hit l m (s : Int) ∧ ∀ t : Nat, t < s → ¬ hit l m (t : Int) := by

        induction j using Nat.strongRecOn with
        | _ j ihj =>
          by_cases q : ∃ t : Nat, t < j ∧ hit l m (t : Int)
          · obtain ⟨t, ht, hq⟩ := q
            exact ihj t ht (by omega) hq
          · exact ⟨j, hj, hh, fun t ht hq => q ⟨t, ht, hq⟩⟩
      obtain ⟨s, hs, hit_, hmin⟩ := mn
      have hb := bh_len hit_.1.1
      obtain ⟨p, hp⟩ := ih (bh (s : Int) l) (bh (s : Int) m) (by unfold bh; rw [List.length_drop]; omega) (good_bh hg)
      exact ⟨(s : Int) :: p, .cons (by omega) hs hit_ hmin hp⟩
theorem ev_Part' (hl : l.length ≤ 1000) (hm : m.length ≤ 1000) (h : tc l m = 0) : ∃ p : List Int, IsP l m p ∧ Tl (fun k => log_Part.f k l m) (p, 0) := by
  obtain ⟨p, h1⟩ := isP_some l.length l m (Nat.le_refl _) (lc_zero.1 (tc_zero.1 h).1).2
  have pl := (isP_sub h1).2.2
  have cl := (cm_len l m).1
  refine ⟨p, h1, ?_⟩
  unfold log_Part.f
  have := p_loop hl hm h1 0 0 [] (by omega) (by omega) List.drop_zero.symm List.drop_zero.symm (by simp; omega)
  rw [List.nil_append] at this
  exact Tl.bind (ev_two hl hm) (Tl.pos h (Tl.bind (ev_common hl hm) this))
end
/-! ### The part that is nearest -/
def sub (m : List Int) (a b : Nat) : List Int := (m.take b).drop a
theorem sub_len {m : List Int} {a b : Nat} (h : m.length ≤ 10) : (sub m a b).length ≤ 10 := by unfold sub; rw [List.length_drop, List.length_take]; omega
theorem sub_ok {m : List Int} (h : lc m = 0) (a b : Nat) : lc (sub m a b) = 0 := by
  obtain ⟨h1, h2⟩ := lc_zero.1 h
  refine lc_zero.2 ⟨sub_len h1, good_mem.2 fun x hx => good_mem.1 h2 x ?_⟩
  exact List.mem_of_mem_take (List.mem_of_mem_drop hx)
theorem sub_all (m : List Int) : sub m 0 m.length = m := by unfold sub; rw [List.take_length, List.drop_zero]
theorem nx1 {b : Nat} (h : b ≤ 10) : wrap64 ((b : Int) + 1) = ((b + 1 : Nat) : Int) := by rw [w64 (by omega) (by omega)]; omega
section
variable {l m : List Int} {o i c : Int} (hL : l.length ≤ 10) (hM : m.length ≤ 10) (ho : 0 ≤ o ∧ o ≤ 9) (hi : 0 ≤ i ∧ i ≤ 9) (hc : 0 ≤ c ∧ c ≤ 9)
def Fin (l m : List Int) (o i c : Int) (e : Int) (g : Nat → Option (Int × Int × Int)) : Prop := ∃ A B : Nat, A ≤ B ∧ B ≤ m.length ∧ D l (sub m A B) o i c ≤ e ∧ Tl g ((A : Int), (B : Int), 0)
include hL hM ho hi hc
theorem ev_l (a b : Nat) : log_distance.f l ((m.take b).drop a) o i c = some (D l (sub m a b) o i c) := ldistance_eq hL (sub_len hM) ho hi hc
theorem inner {a : Nat} (ha : a ≤ m.length) (out : ∀ fr tt : Nat, fr ≤ tt → tt ≤ m.length → Fin l m o i c (D l (sub m fr tt) o i c) (fun k => log_Window.l0 k l m (fr : Int) (tt : Int) ((m.length + 1 : Nat) : Int) ((a + 1 : Nat) : Int) o i c)) :
    ∀ (d b fr tt : Nat) (e : Int), a ≤ b → b ≤ m.length + 1 → m.length + 1 - b = d → fr ≤ tt → tt ≤ m.length → (D l (sub m fr tt) o i c ≤ e ∨ b ≤ m.length ∧ D l (sub m a m.length) o i c ≤ e) →
      Fin l m o i c e (fun k => log_Window.l1 k l m (fr : Int) (tt : Int) (a : Int) (b : Int) ((m.length + 1 : Nat) : Int) (a : Int) o i c) := by
  intro d
  induction d with
  | zero =>
    intro b fr tt e h1 h2 h3 h4 h5 h6
    obtain ⟨A, B, k1, k2, k3, k4⟩ := out fr tt h4 h5
    refine ⟨A, B, k1, k2, by omega, Tl.succ ?_⟩
    simp only [log_Window.l1]
    rw [nx1 (b := a) (by omega)]
    exact Tl.neg (by omega) k4
  | succ d ih =>
    intro b fr tt e h1 h2 h3 h4 h5 h6
    have key : Fin l m o i c e (fun k => log_Window.l1 k l m (if D l (sub m a b) o i c < D l (sub m fr tt) o i c then (a : Int) else (fr : Int)) (if D l (sub m a b) o i c < D l (sub m fr tt) o i c then (b : Int) else (tt : Int)) (a : Int) ((b + 1 : Nat) : Int) ((m.length + 1 : Nat) : Int) (a : Int) o i c) := by
      by_cases hd : D l (sub m a b) o i c < D l (sub m fr tt) o i c
      · simp only [if_pos hd]
        refine ih (b + 1) a b e (by omega) (by omega) (by omega) h1 (by omega) ?_
        rcases h6 with h6 | ⟨h6, h7⟩
        · exact .inl (by omega)
        · by_cases hb : b = m.length
          · subst hb; exact .inl h7
          · exact .inr ⟨by omega, h7⟩
      · simp only [if_neg hd]
        refine ih (b + 1) fr tt e (by omega) (by omega) (by omega) h4 h5 ?_
        rcases h6 with h6 | ⟨h6, h7⟩
        · exact .inl h6
        · by_cases hb : b = m.length
          · subst hb; exact .inl (by omega)
          · exact .inr ⟨by omega, h7⟩
    obtain ⟨A, B, k1, k2, k3, k4⟩ := key
    refine ⟨A, B, k1, k2, k3, Tl.succ ?_⟩
    simp only [log_Window.l1, Int.toNat_natCast]
    rw [nx1 (b := b) (by omega)]
    refine Tl.pos (by omega) (Tl.pos (by omega) (Tl.pos (by omega) (Tl.bind' (ev_l hL hM ho hi hc a b) (Tl.pos (by omega) (Tl.pos (by omega) (Tl.pos (by omega) (Tl.bind' (ev_l hL hM ho hi hc fr tt) ?_)))))))
    by_cases hd : D l (sub m a b) o i c < D l (sub m fr tt) o i c
    · simp only [if_pos hd] at k4 ⊢; exact k4
    · simp only [if_neg hd] at k4 ⊢; exact k4
theorem outer : ∀ (d a fr tt : Nat) (e : Int), a ≤ m.length + 1 → m.length + 1 - a = d → fr ≤ tt → tt ≤ m.length → (D l (sub m fr tt) o i c ≤ e ∨ a ≤ m.length ∧ D l (sub m a m.length) o i c ≤ e) → Fin l m o i c e (fun k => log_Window.l0 k l m (fr : Int) (tt : Int) ((m.length + 1 : Nat) : Int) (a : Int) o i c) := by
  intro d
  induction d with
  | zero =>
    intro a fr tt e h1 h2 h3 h4 h5
    refine ⟨fr, tt, h3, h4, by omega, Tl.succ ?_⟩
    simp only [log_Window.l0]; exact Tl.neg (by omega) Tl.now
  | succ d ih =>
    intro a fr tt e h1 h2 h3 h4 h5
    obtain ⟨A, B, k1, k2, k3, k4⟩ := inner hL hM ho hi hc (a := a) (by omega) (fun fr' tt' p1 p2 => ih (a + 1) fr' tt' _ (by omega) (by omega) p1 p2 (.inl (Int.le_refl _))) (m.length + 1 - a) a fr tt e (Nat.le_refl _) (by omega) rfl h3 h4 h5
    refine ⟨A, B, k1, k2, k3, Tl.succ ?_⟩
    simp only [log_Window.l0]; exact Tl.pos (by omega) k4
end
section
variable {l m : List Int} {o i c : Int}
theorem ev_window (h : kc l m o i c = 0) : ∃ A B : Nat, A ≤ B ∧ B ≤ m.length ∧ D l (sub m A B) o i c ≤ D l m o i c ∧ Tl (fun k => log_Window.f k l m o i c) ((A : Int), (B : Int), 0) := by
  obtain ⟨h1, h2, h3⟩ := kc_zero.1 h
  have g3 := cc_zero.1 h3
  have hL := (lc_zero.1 h1).1
  have hM := (lc_zero.1 h2).1
  obtain ⟨A, B, k1, k2, k3, k4⟩ := outer (l := l) (m := m) (o := o) (i := i) (c := c) hL hM ⟨by omega, by omega⟩ ⟨by omega, by omega⟩ ⟨by omega, by omega⟩ (m.length + 1) 0 0 0 (D l m o i c) (by omega) (by omega) (by omega) (by omega) (.inr ⟨by omega, by rw [sub_all]; exact Int.le_refl _⟩)
  refine ⟨A, B, k1, k2, k3, ?_⟩
  unfold log_Window.f
  rw [nx1 hM]
  exact Tl.bind (ev_check (by omega) (by omega)) (Tl.pos h k4)
/-- What is left out of the second log is put in. -/
theorem D_sub {A B : Nat} (hA : A ≤ B) (hB : B ≤ m.length) : D l m o i c ≤ D l (sub m A B) o i c + i * ((m.length : Int) - B + A) := by
  have h0 := D_isD (l := l) (m := sub m A B) (o := o) (i := i) (c := c)
  have h1 := al_append (al_append (al_ins (o := o) (i := i) (c := c) (m.take A)) h0.1) (al_ins (o := o) (i := i) (c := c) (m.drop B))
  have e : m.take A ++ sub m A B ++ m.drop B = m := by
    unfold sub
    have : m.take A = (m.take B).take A := by rw [List.take_take, Nat.min_eq_left hA]
    rw [this, List.take_append_drop, List.take_append_drop]
  rw [e, List.nil_append, List.append_nil, List.length_take, List.length_drop, Nat.min_eq_left (by omega)] at h1
  have h2 := D_isD.2 _ h1
  have e2 : i * (A : Int) + D l (sub m A B) o i c + i * ((m.length - B : Nat) : Int) = D l (sub m A B) o i c + i * ((m.length : Int) - B + A) := by
    rw [show ((m.length - B : Nat) : Int) = (m.length : Int) - B by omega, Int.mul_add]; omega
  omega
theorem clone_s (h : l.length ≤ 1000) : slices_Clone_int_int.f l = some l := clone_eq h
end
end Go.Proofs.Ytcbepmdnhjojdaa.Tq
