/- The program's comparison has the smallest cost; what comparisons cost by the document. -/
import Derived.Test.YtcbepmdnhjojdaaEn
import Derived.Test.YtcbepmdnhjojdaaPx53
import Derived.Test.YtcbepmdnhjojdaaPx13
set_option linter.unusedVariables false
namespace Go.Proofs.Ytcbepmdnhjojdaa.Bs
open Go.RowKit Go.Proofs.Ytcbepmdnhjojdaa.P Go.Proofs.Ytcbepmdnhjojdaa.E Go.Proofs.Ytcbepmdnhjojdaa.Al Go.Proofs.Ytcbepmdnhjojdaa.Lo Go.Proofs.Ytcbepmdnhjojdaa.Lr Go.Proofs.Ytcbepmdnhjojdaa.Cn Go.Proofs.Ytcbepmdnhjojdaa.Cq Go.Proofs.Ytcbepmdnhjojdaa.En Go.Proofs.YtcbepmdnhjojdaaW.PrintMore
open Go.Proofs.YtcbepmdnhjojdaaW.PrintWords
theorem rt_lt {xs : List S65} {i : Nat} (h : i < xs.length) : rd_T65 xs (i : Int) = xs[i] := by
  unfold rd_T65
  rw [Int.toNat_natCast, List.getD_eq_getElem?_getD, List.getElem?_eq_getElem h]; rfl
theorem rev_loop (l0 : List S65) (hl : l0.length ≤ 1000) (d : Nat) : ∀ (m : Nat) (l : List S65), 2 * m ≤ l0.length → l0.length - 2 * m ≤ d → l.length = l0.length →
    (∀ j, j < l0.length → l[j]? = if j < m ∨ l0.length ≤ j + m then l0[l0.length - 1 - j]? else l0[j]?) → Tl (fun k => api_Pair_78.l0 k l (m : Int) ((l0.length : Int) - 1 - m)) l0.reverse := by
  have fin : ∀ (m : Nat) (l : List S65), 2 * m ≤ l0.length → ¬ 2 * m + 1 < l0.length → l.length = l0.length →
    (∀ j, j < l0.length → l[j]? = if j < m ∨ l0.length ≤ j + m then l0[l0.length - 1 - j]? else l0[j]?) → Tl (fun k => api_Pair_78.l0 k l (m : Int) ((l0.length : Int) - 1 - m)) l0.reverse := by
    intro m l h1 h2 h3 h4
    refine Tl.succ ?_
    simp only [api_Pair_78.l0]
    refine Tl.to (Tl.neg (by omega) Tl.now) ?_
    refine List.ext_getElem? (fun j => ?_)
    by_cases hj : j < l0.length
    · rw [List.getElem?_reverse hj, h4 j hj]
      by_cases c : j < m ∨ l0.length ≤ j + m
      · rw [if_pos c]
      · rw [if_neg c]; congr 1; omega
    · rw [List.getElem?_eq_none (by omega), List.getElem?_eq_none (by simp; omega)]
  induction d with
  | zero => exact fun m l h1 h2 h3 h4 => fin m l h1 (by omega) h3 h4
  | succ d ih =>
    intro m l h1 h2 h3 h4
    by_cases hlt : 2 * m + 1 < l0.length
    · have next := ih (m + 1) ((l.set m (rd_T65 l ((l0.length : Int) - 1 - m))).set (l0.length - 1 - m) (rd_T65 l (m : Int))) (by omega) (by omega) (by simp [h3]) (by
        intro j hj
        rw [show (l0.length : Int) - 1 - m = ((l0.length - 1 - m : Nat) : Int) by omega]
        rw [rt_lt (show l0.length - 1 - m < l.length by omega), rt_lt (show m < l.length by omega)]
        have e1 := h4 (l0.length - 1 - m) (by omega)
        have e2 := h4 m (by omega)
        rw [if_neg (by omega), List.getElem?_eq_getElem (by omega)] at e1 e2
        rw [List.getElem?_eq_getElem (by omega)] at e1 e2
        simp only [Option.some.injEq] at e1 e2
        rw [List.getElem?_set]
        by_cases c1 : l0.length - 1 - m = j
        · rw [if_pos c1, if_pos (by simp; omega), if_pos (by omega), e2, List.getElem?_eq_getElem (by omega)]
          congr 2; omega
        · rw [if_neg c1, List.getElem?_set]
          by_cases c2 : m = j
          · rw [if_pos c2, if_pos (by omega), if_pos (by omega), e1, List.getElem?_eq_getElem (by omega)]
            congr 2; omega
          · rw [if_neg c2, h4 j hj]
            by_cases c3 : j < m ∨ l0.length ≤ j + m
            · rw [if_pos c3, if_pos (by omega)]
            · rw [if_neg c3, if_neg (by omega)])
      refine Tl.succ ?_
      simp only [api_Pair_78.l0]
      refine Tl.pos (by omega) (Tl.pos (by omega) (Tl.pos (by omega) (Tl.pos (by omega) (Tl.pos (by omega) ?_))))
      rw [w64 (by omega) (by omega), w64 (by omega) (by omega), Int.toNat_natCast, show ((l0.length : Int) - 1 - m).toNat = l0.length - 1 - m by omega]
      rw [show ((m + 1 : Nat) : Int) = (m : Int) + 1 by omega, show (l0.length : Int) - 1 - ((m : Int) + 1) = (l0.length : Int) - 1 - m - 1 by omega] at next
      exact next
    · exact fin m l h1 hlt h3 h4
theorem ev_rev (l0 : List S65) (hl : l0.length ≤ 1000) : Tl (fun k => api_Pair_78.f k l0) l0.reverse := by
  unfold api_Pair_78.f
  have := rev_loop l0 hl l0.length 0 l0 (by omega) (by omega) rfl (by intro j hj; rw [if_neg (by omega)])
  rw [w64 (by omega) (by omega)]
  rw [show ((0 : Nat) : Int) = 0 from rfl, show (l0.length : Int) - 1 - 0 = (l0.length : Int) - 1 by omega] at this
  exact this
def mk (p : Nat × Nat) : S65 := ⟨(p.1 : Int), (p.2 : Int)⟩
section
variable {l m : List Int} {o i c : Int}
def T (l m : List Int) (o i c : Int) : List (List Int) := (List.range (l.length + 1)).map fun a => (List.range (m.length + 1)).map (log_tb l m o i c a)
theorem T_len : (T l m o i c).length = l.length + 1 := by simp [T]
theorem T_row {a : Nat} (ha : a ≤ l.length) : rd_L1 (T l m o i c) (a : Int) = (List.range (m.length + 1)).map (log_tb l m o i c a) := by
  unfold rd_L1 T
  rw [Int.toNat_natCast, List.getD_eq_getElem?_getD, List.getElem?_eq_getElem (by simp; omega)]
  simp
theorem T_get {a b : Nat} (ha : a ≤ l.length) (hb : b ≤ m.length) : rd (rd_L1 (T l m o i c) (a : Int)) (b : Int) = log_tb l m o i c a b := by
  rw [T_row ha, rd_lt (by simp; omega)]
  simp
theorem dn_len : ∀ {x : Cmp} {a b : Nat}, Dn a b x → x.length ≤ a
  | [], _, _, _ => Nat.zero_le _
  | (p, q) :: t, a, b, h => by
    have h1 := dn_cons.1 h
    have := dn_len h1.2.2
    rw [List.length_cons]; omega
theorem best_loop (hL : l.length ≤ 10) (hM : m.length ≤ 10) (ho : 0 ≤ o ∧ o ≤ 9) (hi : 0 ≤ i ∧ i ≤ 9) (hc : 0 ≤ c ∧ c ≤ 9) : ∀ (n a b : Nat) (acc : List S65), a + b = n → a ≤ l.length → b ≤ m.length → acc.length + a ≤ 100 →
    ∃ D : Cmp, Dn a b D ∧ uc o i (gp l m c) a b D = log_tb l m o i c a b ∧ Tl (fun k => log_Best.l0 k l m (T l m o i c) acc (a : Int) (b : Int) o i c) ((acc ++ D.map mk).reverse, 0) := by
  intro n
  induction n using Nat.strongRecOn with
  | _ n ih =>
    intro a b acc hn ha hb hacc
    by_cases h0 : a = 0 ∨ b = 0
    · refine ⟨[], dn_nil, ?_, ?_⟩
      · rw [uc_nil]
        rcases h0 with rfl | rfl
        · rw [log_tb, Int.mul_comm]; simp [Int.mul_comm]
        · cases a with
          | zero => rw [log_tb]; simp
          | succ a => rw [log_tb, Int.mul_comm]; simp [Int.mul_comm]
      · have j1f : Tl (fun k => log_Best.j1 k l m (T l m o i c) acc (a : Int) (b : Int) false o i c) ((acc ++ [].map mk).reverse, 0) := by
          refine Tl.succ ?_
          simp only [log_Best.j1]
          refine Tl.neg (by simp) (Tl.bind (ev_rev acc (by omega)) (Tl.to Tl.now ?_))
          simp
        refine Tl.succ ?_
        simp only [log_Best.l0]
        rcases h0 with rfl | rfl
        · exact Tl.neg (by omega) j1f
        · by_cases ha0 : (a : Int) > 0
          · refine Tl.pos ha0 ?_
            rw [show decide (((0 : Nat) : Int) > 0) = false by decide]
            exact j1f
          · exact Tl.neg ha0 j1f
    · obtain ⟨a', rfl⟩ : ∃ a', a = a' + 1 := ⟨a - 1, by omega⟩
      obtain ⟨b', rfl⟩ : ∃ b', b = b' + 1 := ⟨b - 1, by omega⟩
      have r1 := log_tb_range (l := l) (m := m) ho hi hc a' b'
      have r2 := log_tb_range (l := l) (m := m) ho hi hc a' (b' + 1)
      have rc := log_ch_range hc (rd l (a' : Int)) (rd m (b' : Int))
      have g1 := T_get (l := l) (m := m) (o := o) (i := i) (c := c) (a := a' + 1) (b := b' + 1) ha hb
      have g2 := T_get (l := l) (m := m) (o := o) (i := i) (c := c) (a := a') (b := b') (by omega) (by omega)
      have g3 := T_get (l := l) (m := m) (o := o) (i := i) (c := c) (a := a') (b := b' + 1) (by omega) hb
      have q1 := T_len (l := l) (m := m) (o := o) (i := i) (c := c)
      have q2 : (rd_L1 (T l m o i c) ((a' + 1 : Nat) : Int)).length = m.length + 1 := by rw [T_row ha]; simp
      have q3 : (rd_L1 (T l m o i c) (a' : Int)).length = m.length + 1 := by rw [T_row (by omega)]; simp
      have et : log_tb l m o i c (a' + 1) (b' + 1) = min (log_tb l m o i c a' (b' + 1) + o) (min (log_tb l m o i c (a' + 1) b' + i) (log_tb l m o i c a' b' + log_ch c (rd l (a' : Int)) (rd m (b' : Int)))) := by
        conv => lhs; rw [log_tb]
        rw [mn_eq, mn_eq, Int.min_assoc]
      -- the three ways on
      obtain ⟨D1, d1, u1, t1⟩ := ih (a' + b') (by omega) a' b' (acc ++ [mk (a', b')]) rfl (by omega) (by omega) (by simp; omega)
      obtain ⟨D2, d2, u2, t2⟩ := ih (a' + (b' + 1)) (by omega) a' (b' + 1) acc rfl (by omega) hb (by omega)
      obtain ⟨D3, d3, u3, t3⟩ := ih (a' + 1 + b') (by omega) (a' + 1) b' acc rfl ha (by omega) hacc
      have E1 := Aside0.mk (show wrap64 (((a' + 1 : Nat) : Int) - 1) = (a' : Int) by rw [w64 (by omega) (by omega)]; omega)
      have E2 := Aside0.mk (show wrap64 (((b' + 1 : Nat) : Int) - 1) = (b' : Int) by rw [w64 (by omega) (by omega)]; omega)
      have E3 := Aside0.mk (show wrap64 (log_tb l m o i c a' b' + log_ch c (rd l (a' : Int)) (rd m (b' : Int))) = log_tb l m o i c a' b' + log_ch c (rd l (a' : Int)) (rd m (b' : Int)) from w64 (by omega) (by omega))
      have E4 := Aside0.mk (show wrap64 (log_tb l m o i c a' (b' + 1) + o) = log_tb l m o i c a' (b' + 1) + o from w64 (by omega) (by omega))
      have dn_up : ∀ {D : Cmp} {p q p' q' : Nat}, p ≤ p' → q ≤ q' → Dn p q D → Dn p' q' D := fun hp hq h => ⟨fun z hz => by have := h.1 z hz; omega, h.2⟩
      have body : ∀ r : List S65 × Int,
          (log_tb l m o i c (a' + 1) (b' + 1) = log_tb l m o i c a' b' + log_ch c (rd l (a' : Int)) (rd m (b' : Int)) → Tl (fun k => log_Best.l0 k l m (T l m o i c) (acc ++ [mk (a', b')]) (a' : Int) (b' : Int) o i c) r) →
          (¬ log_tb l m o i c (a' + 1) (b' + 1) = log_tb l m o i c a' b' + log_ch c (rd l (a' : Int)) (rd m (b' : Int)) → log_tb l m o i c (a' + 1) (b' + 1) = log_tb l m o i c a' (b' + 1) + o → Tl (fun k => log_Best.l0 k l m (T l m o i c) acc (a' : Int) ((b' + 1 : Nat) : Int) o i c) r) →
          (¬ log_tb l m o i c (a' + 1) (b' + 1) = log_tb l m o i c a' b' + log_ch c (rd l (a' : Int)) (rd m (b' : Int)) → ¬ log_tb l m o i c (a' + 1) (b' + 1) = log_tb l m o i c a' (b' + 1) + o → Tl (fun k => log_Best.l0 k l m (T l m o i c) acc ((a' + 1 : Nat) : Int) (b' : Int) o i c) r) →
          Tl (fun k => log_Best.l0 k l m (T l m o i c) acc ((a' + 1 : Nat) : Int) ((b' + 1 : Nat) : Int) o i c) r := by
        intro r c1 c2 c3
        refine Tl.succ ?_
        simp only [log_Best.l0]
        refine Tl.pos (by omega) ?_
        rw [show decide (((b' + 1 : Nat) : Int) > 0) = true from decide_eq_true (by omega)]
        refine Tl.succ ?_
        simp only [log_Best.j1]
        rw [E1.out, E2.out, g1, g2, g3]
        refine Tl.pos trivial (Tl.pos (by omega) (Tl.pos (by rw [q1]; omega) (Tl.pos (by omega) (Tl.pos (by rw [q2]; omega) (Tl.pos (by omega) (Tl.pos (by rw [q1]; omega) (Tl.pos (by omega) (Tl.pos (by rw [q3]; omega) (Tl.pos (by omega) (Tl.pos (by omega) (Tl.bind' rfl ?_)))))))))))
        rw [E3.out]
        by_cases h1 : log_tb l m o i c (a' + 1) (b' + 1) = log_tb l m o i c a' b' + log_ch c (rd l (a' : Int)) (rd m (b' : Int))
        · exact Tl.pos h1 (Tl.pos (by omega) (c1 h1))
        · refine Tl.neg h1 (Tl.pos (by rw [q3]; omega) (Tl.bind' rfl ?_))
          rw [E4.out]
          by_cases h2 : log_tb l m o i c (a' + 1) (b' + 1) = log_tb l m o i c a' (b' + 1) + o
          · exact Tl.pos h2 (c2 h1 h2)
          · exact Tl.neg h2 (c3 h1 h2)
      by_cases h1 : log_tb l m o i c (a' + 1) (b' + 1) = log_tb l m o i c a' b' + log_ch c (rd l (a' : Int)) (rd m (b' : Int))
      · refine ⟨(a', b') :: D1, dn_cons.2 ⟨by omega, by omega, d1⟩, ?_, body _ (fun _ => Tl.to t1 (by simp)) (fun h => absurd h1 h) (fun h => absurd h1 h)⟩
        rw [uc_cons' (u := (a' : Int)) (v := (b' : Int)) (p := 0) (q := 0) (by omega) (by omega), u1, h1]
        unfold gp
        rw [show log_ch c (rd l (a' : Int)) (rd m (b' : Int)) = ch c (rd l (a' : Int)) (rd m (b' : Int)) from rfl]; omega
      · by_cases h2 : log_tb l m o i c (a' + 1) (b' + 1) = log_tb l m o i c a' (b' + 1) + o
        · refine ⟨D2, dn_up (by omega) (Nat.le_refl _) d2, ?_, body _ (fun h => absurd h h1) (fun _ _ => t2) (fun _ h => absurd h2 h)⟩
          rw [h2, ← u2]
          unfold uc
          rw [show ((a' + 1 : Nat) : Int) - D2.length = ((a' : Int) - D2.length) + 1 by omega, Int.mul_add, Int.mul_one]; omega
        · refine ⟨D3, dn_up (Nat.le_refl _) (by omega) d3, ?_, body _ (fun h => absurd h h1) (fun _ h => absurd h h2) (fun _ _ => t3)⟩
          have h3 : log_tb l m o i c (a' + 1) (b' + 1) = log_tb l m o i c (a' + 1) b' + i := by omega
          rw [h3, ← u3]
          unfold uc
          rw [show ((b' + 1 : Nat) : Int) - D3.length = ((b' : Int) - D3.length) + 1 by omega, Int.mul_add, Int.mul_one]; omega
end
theorem dn_pairs {a b : Nat} {D : Cmp} (h : Dn a b D) : Up a b 0 0 D.reverse := dn_rev.1 (by rwa [List.reverse_reverse])
section
variable {l m : List Int} {o i c : Int}
theorem mk0 (p : Nat × Nat) : (mk p).f0 = (p.1 : Int) := rfl
theorem mk1 (p : Nat × Nat) : (mk p).f1 = (p.2 : Int) := rfl
theorem rt_mk {U : Cmp} {j : Nat} (h : j < U.length) : rd_T65 (U.map mk) (j : Int) = mk U[j] := by
  rw [rt_lt (by simpa using h)]; simp
theorem sc_drop (g : Nat → Nat → Int) {U : Cmp} {j : Nat} (h : j < U.length) : Sc g (U.drop j) = g U[j].1 U[j].2 + Sc g (U.drop (j + 1)) := by
  rw [List.drop_eq_getElem_cons h, Sc]
theorem sum_loop (hc : 0 ≤ c ∧ c ≤ 9) {U : Cmp} (hU : Up l.length m.length 0 0 U) (hn : U.length ≤ 10) : ∀ (d j : Nat) (s : Int), j ≤ U.length → U.length - j = d → 0 ≤ s ∧ s ≤ 1000 + 9 * j → Tl (fun k => diaphoneref06_CheckPairs.l2 k l m (U.map mk) s (j : Int) o i c) (s + Sc (gp l m c) (U.drop j), 0) := by
  intro d
  induction d with
  | zero =>
    intro j s h1 h2 h3
    refine Tl.succ ?_
    simp only [diaphoneref06_CheckPairs.l2]
    refine Tl.to (Tl.neg (by rw [List.length_map]; omega) Tl.now) ?_
    rw [List.drop_eq_nil_of_le (by omega)]; simp [Sc]
  | succ d ih =>
    intro j s h1 h2 h3
    have hj : j < U.length := by omega
    have hm := hU.1 U[j] (List.getElem_mem hj)
    have hr := ch_range hc.1 (rd l (U[j].1 : Int)) (rd m (U[j].2 : Int))
    have e1 : gp l m c U[j].1 U[j].2 = ch c (rd l (U[j].1 : Int)) (rd m (U[j].2 : Int)) := rfl
    have next := ih (j + 1) (s + ch c (rd l (U[j].1 : Int)) (rd m (U[j].2 : Int))) (by omega) (by omega) (by omega)
    rw [sc_drop _ hj, e1]
    have E1 := Aside0.mk (show wrap64 ((j : Int) + 1) = ((j + 1 : Nat) : Int) by rw [w64 (by omega) (by omega)]; omega)
    have E2 := Aside0.mk (show wrap64 (s + ch c (rd l (U[j].1 : Int)) (rd m (U[j].2 : Int))) = s + ch c (rd l (U[j].1 : Int)) (rd m (U[j].2 : Int)) from w64 (by omega) (by omega))
    refine Tl.succ ?_
    simp only [diaphoneref06_CheckPairs.l2]
    rw [rt_mk hj, mk0, mk1, E1.out]
    refine Tl.pos (by rw [List.length_map]; omega) (Tl.pos (by omega) (Tl.pos (by omega) (Tl.pos (by omega) (Tl.pos (by omega) (Tl.pos (by omega) (Tl.bind' (change_eq _ _ _ _ _) ?_))))))
    rw [E2.out]
    exact Tl.to next (by rw [Int.add_assoc])
theorem up_loop {U : Cmp} (hU : Up l.length m.length 0 0 U) (hn : U.length ≤ 10) {r : Int × Int} (out : Tl (fun k => diaphoneref06_CheckPairs.l2 k l m (U.map mk) (wrap64 ((wrap64 (o * (wrap64 ((l.length : Int) - ((U.map mk).length : Int))))) + (wrap64 (i * (wrap64 ((m.length : Int) - ((U.map mk).length : Int))))))) 0 o i c) r) : ∀ (d j : Nat), 1 ≤ j → U.length - j = d → Tl (fun k => diaphoneref06_CheckPairs.l1 k l m (U.map mk) (j : Int) o i c) r := by
  intro d
  induction d with
  | zero =>
    intro j h1 h2
    refine Tl.succ ?_
    simp only [diaphoneref06_CheckPairs.l1]
    exact Tl.neg (by rw [List.length_map]; omega) out
  | succ d ih =>
    intro j h1 h2
    have hj : j < U.length := by omega
    obtain ⟨j', rfl⟩ : ∃ j', j = j' + 1 := ⟨j - 1, by omega⟩
    have hj' : j' < U.length := by omega
    have hp : U[j'].1 < U[j' + 1].1 ∧ U[j'].2 < U[j' + 1].2 := List.pairwise_iff_getElem.1 hU.2 j' (j' + 1) hj' hj (by omega)
    have next := ih (j' + 1 + 1) (by omega) (by omega)
    have E1 := Aside0.mk (show wrap64 (((j' + 1 : Nat) : Int) + 1) = ((j' + 1 + 1 : Nat) : Int) by rw [w64 (by omega) (by omega)]; omega)
    have E2 := Aside0.mk (show wrap64 (((j' + 1 : Nat) : Int) - 1) = (j' : Int) by rw [w64 (by omega) (by omega)]; omega)
    refine Tl.succ ?_
    simp only [diaphoneref06_CheckPairs.l1]
    rw [E1.out, E2.out, rt_mk hj, rt_mk hj', mk0, mk1, mk0, mk1]
    exact Tl.pos (by rw [List.length_map]; omega) (Tl.pos (by omega) (Tl.pos (by omega) (Tl.pos (by rw [List.length_map]; omega) (Tl.neg (by omega) (Tl.neg (by omega) next)))))
theorem in_loop {U : Cmp} (hL : l.length ≤ 10) (hM : m.length ≤ 10) (hU : Up l.length m.length 0 0 U) (hn : U.length ≤ 10) {r : Int × Int} (out : Tl (fun k => diaphoneref06_CheckPairs.l1 k l m (U.map mk) 1 o i c) r) : ∀ (d j : Nat), U.length - j = d → Tl (fun k => diaphoneref06_CheckPairs.l0 k l m (U.map mk) (j : Int) o i c) r := by
  intro d
  induction d with
  | zero =>
    intro j h2
    refine Tl.succ ?_
    simp only [diaphoneref06_CheckPairs.l0]
    exact Tl.neg (by rw [List.length_map]; omega) out
  | succ d ih =>
    intro j h2
    have hj : j < U.length := by omega
    have hm := hU.1 U[j] (List.getElem_mem hj)
    have next := ih (j + 1) (by omega)
    have E1 := Aside0.mk (show wrap64 ((j : Int) + 1) = ((j + 1 : Nat) : Int) by rw [w64 (by omega) (by omega)]; omega)
    have E2 := Aside0.mk (show wrap64 ((l.length : Int) - 1) = (l.length : Int) - 1 from w64 (by omega) (by omega))
    have E3 := Aside0.mk (show wrap64 ((m.length : Int) - 1) = (m.length : Int) - 1 from w64 (by omega) (by omega))
    refine Tl.succ ?_
    simp only [diaphoneref06_CheckPairs.l0]
    rw [E1.out, E2.out, E3.out, rt_mk hj, mk0, mk1]
    exact Tl.pos (by rw [List.length_map]; omega) (Tl.pos (by omega) (Tl.bind' (rwithin_eq _ _ _) (Tl.pos (decide_eq_true ⟨by omega, by omega⟩) (Tl.bind' (rwithin_eq _ _ _) (Tl.pos (decide_eq_true ⟨by omega, by omega⟩) next)))))
/-- What the document says of pairs that go up. -/
theorem ev_rPairs {U : Cmp} (k0 : kc l m o i c = 0) (hU : Up l.length m.length 0 0 U) (hn : U.length ≤ l.length) (hn2 : U.length ≤ m.length) : Tl (fun k => diaphoneref06_CheckPairs.f k l m o i c (U.map mk)) (uc o i (gp l m c) l.length m.length U, 0) := by
  obtain ⟨h1, h2, h3⟩ := kc_zero.1 k0
  have g3 := cc_zero.1 h3
  have hL := (lc_zero.1 h1).1
  have hM := (lc_zero.1 h2).1
  unfold diaphoneref06_CheckPairs.f
  refine Tl.bind (ev_costed (by omega) (by omega)) (Tl.pos k0 ?_)
  have k1 := small (o := o) ⟨by omega, by omega⟩ (p := (l.length : Int) - U.length) ⟨by omega, by omega⟩
  have k2 := small (o := i) ⟨by omega, by omega⟩ (p := (m.length : Int) - U.length) ⟨by omega, by omega⟩
  have s := sum_loop (l := l) (m := m) (o := o) (i := i) (c := c) ⟨by omega, by omega⟩ hU (by omega) U.length 0 (o * ((l.length : Int) - U.length) + i * ((m.length : Int) - U.length)) (by omega) (by omega) ⟨by omega, by omega⟩
  rw [List.drop_zero] at s
  refine in_loop hL hM hU (by omega) (up_loop hU (by omega) ?_ (U.length - 1) 1 (Nat.le_refl _) rfl) U.length 0 (by omega)
  rw [List.length_map, w64 (x := (l.length : Int) - U.length) (by omega) (by omega), w64 (x := (m.length : Int) - U.length) (by omega) (by omega), w64 (x := o * ((l.length : Int) - U.length)) (by omega) (by omega), w64 (x := i * ((m.length : Int) - U.length)) (by omega) (by omega), w64 (x := o * ((l.length : Int) - U.length) + i * ((m.length : Int) - U.length)) (by omega) (by omega)]
  exact s
theorem up_len : ∀ {U : Cmp} {p q : Nat}, Up l.length m.length p q U → U.length + q ≤ max q m.length
  | [], p, q, _ => by simp; omega
  | (a, b) :: t, p, q, h => by
    have h1 := up_cons.1 h
    have := up_len h1.2.2
    rw [List.length_cons]; omega
theorem ev_Best (hl : l.length ≤ 1000) (hm : m.length ≤ 1000) : ∃ U : Cmp, (kc l m o i c = 0 → Up l.length m.length 0 0 U ∧ U.length ≤ l.length ∧ U.length ≤ m.length ∧ uc o i (gp l m c) l.length m.length U = log_tb l m o i c l.length m.length) ∧ Tl (fun k => log_Best.f k l m o i c) (if kc l m o i c = 0 then U.map mk else [], kc l m o i c) := by
  unfold log_Best.f
  by_cases h : kc l m o i c = 0
  · obtain ⟨h1, h2, h3⟩ := kc_zero.1 h
    have g3 := cc_zero.1 h3
    have hL := (lc_zero.1 h1).1
    have hM := (lc_zero.1 h2).1
    have ho : 0 ≤ o ∧ o ≤ 9 := ⟨by omega, by omega⟩
    have hi : 0 ≤ i ∧ i ≤ 9 := ⟨by omega, by omega⟩
    have hc : 0 ≤ c ∧ c ≤ 9 := ⟨by omega, by omega⟩
    obtain ⟨D, d1, d2, d3⟩ := best_loop (l := l) (m := m) hL hM ho hi hc (l.length + m.length) l.length m.length [] rfl (Nat.le_refl _) (Nat.le_refl _) (by simp; omega)
    have hU := dn_pairs d1
    have hl1 := dn_len d1
    have hl2 := up_len hU
    refine ⟨D.reverse, fun _ => ⟨hU, by rw [List.length_reverse]; omega, by omega, ?_⟩, ?_⟩
    · rw [← d2]; unfold uc; rw [List.length_reverse, sc_rev]
    · rw [if_pos h]
      refine Tl.bind (ev_check hl hm) (Tl.pos h (Tl.bind' (a := T l m o i c) ?_ (Tl.to d3 ?_)))
      · unfold log_table.f
        rw [if_pos ⟨hL, hM, ho, hi, hc⟩]; rfl
      · rw [List.nil_append, List.map_reverse, h]
  · exact ⟨[], fun q => absurd q h, by rw [if_neg h]; exact Tl.bind (ev_check hl hm) (Tl.neg h Tl.now)⟩
end
end Go.Proofs.Ytcbepmdnhjojdaa.Bs
