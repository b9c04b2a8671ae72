/- Remainders by the smallest weight: the smallest amounts that are made up. -/
import Derived.Test.YtgndhijhcliegaaMe
import Derived.Test.YtgndhijhcliegaaPx27
import Derived.Test.YtgndhijhcliegaaPx11
set_option linter.unusedVariables false
namespace Go.Proofs.Ytgndhijhcliegaa.Rs
open Go.RowKit Go.Proofs.Ytgndhijhcliegaa.P Go.Proofs.Ytgndhijhcliegaa.E Go.Proofs.Ytgndhijhcliegaa.Va Go.Proofs.Ytgndhijhcliegaa.Kn Go.Proofs.Ytgndhijhcliegaa.Me Go.Proofs.YtgndhijhcliegaaW.PrintMore
open Go.Proofs.YtgndhijhcliegaaW.PrintWords
def made (w : List Int) (n : Nat) : Prop := ∃ c, Mk w n c
def w0 (w : List Int) : Nat := (rd w 0).toNat
theorem w0_range {w : List Int} (ok : Ok w) : 1 ≤ w0 w ∧ w0 w ≤ 30 ∧ rd w 0 = (w0 w : Int) := by
  have h := (ok.2 0 (by have := ok.1; omega)).1
  have e : rd w ((0 : Nat) : Int) = rd w 0 := rfl
  rw [e] at h
  unfold w0
  omega
theorem made_zero (w : List Int) : made w 0 := ⟨0, .zero⟩
theorem made_add {w : List Int} {a b : Nat} (h : made w a) (k : made w b) : made w (a + b) := by
  obtain ⟨c, hc⟩ := h
  obtain ⟨d, hd⟩ := k
  exact ⟨_, mk_add hc hd⟩
theorem made_weight {w : List Int} {i : Nat} (hi : i < w.length) : made w (rd w (i : Int)).toNat := by
  have := Mk.step hi (Mk.zero (w := w))
  rw [Nat.zero_add] at this
  exact ⟨_, this⟩
theorem made_mul {w : List Int} {a : Nat} (h : made w a) (t : Nat) : made w (a * t) := by
  induction t with
  | zero => exact made_zero w
  | succ t ih => rw [Nat.mul_succ]; exact made_add ih h
theorem made_up {w : List Int} (ok : Ok w) {m n : Nat} (h : made w m) (hle : m ≤ n) (hr : m % w0 w = n % w0 w) : made w n := by
  have hw := made_weight (w := w) (i := 0) (by have := ok.1; omega)
  have e : (rd w ((0 : Nat) : Int)).toNat = w0 w := rfl
  rw [e] at hw
  have := made_add h (made_mul hw (n / w0 w - m / w0 w))
  have a1 := Nat.mod_add_div m (w0 w)
  have a2 := Nat.mod_add_div n (w0 w)
  have a3 : m / w0 w ≤ n / w0 w := Nat.div_le_div_right hle
  rw [Nat.mul_sub] at this
  have a4 : w0 w * (m / w0 w) ≤ w0 w * (n / w0 w) := Nat.mul_le_mul_left _ a3
  rw [show m + (w0 w * (n / w0 w) - w0 w * (m / w0 w)) = n by omega] at this
  exact this
/-- Among more numbers than there are values two are equal. -/
theorem php : ∀ (n : Nat) (f : Nat → Nat), (∀ j, j ≤ n → f j < n) → ∃ i j, i < j ∧ j ≤ n ∧ f i = f j := by
  intro n
  induction n with
  | zero => intro f h; have := h 0 (Nat.le_refl _); omega
  | succ n ih =>
    intro f h
    by_cases c : ∃ i, i ≤ n ∧ f i = f (n + 1)
    · obtain ⟨i, hi, he⟩ := c
      exact ⟨i, n + 1, by omega, Nat.le_refl _, he⟩
    · have hne : ∀ i, i ≤ n → f i ≠ f (n + 1) := fun i hi q => c ⟨i, hi, q⟩
      have hlast := h (n + 1) (Nat.le_refl _)
      obtain ⟨i, j, hij, hj, he⟩ := ih (fun j => if f j > f (n + 1) then f j - 1 else f j) (by
        intro j hj
        have h1 := h j (by omega)
        have h2 := hne j hj
        by_cases z : f j > f (n + 1)
        · simp only [if_pos z]; omega
        · simp only [if_neg z]; omega)
      refine ⟨i, j, hij, by omega, ?_⟩
      have h1 := hne i (by omega)
      have h2 := hne j (by omega)
      try simp only [] at he
      by_cases z1 : f i > f (n + 1) <;> by_cases z2 : f j > f (n + 1) <;> simp only [z1, z2, if_true, if_false] at he <;> omega
/-- The amount of a list of cartridges. -/
def ws (w : List Int) : List Nat → Nat
  | [] => 0
  | i :: l => ws w l + (rd w (i : Int)).toNat
theorem ws_append (w : List Int) (a b : List Nat) : ws w (a ++ b) = ws w a + ws w b := by
  induction a with
  | nil => simp [ws]
  | cons i a ih => rw [List.cons_append, ws, ws, ih]; omega
theorem mk_ws {w : List Int} {n c : Nat} (h : Mk w n c) : ∃ l : List Nat, l.length = c ∧ (∀ i ∈ l, i < w.length) ∧ n = ws w l := by
  induction h with
  | zero => exact ⟨[], rfl, by simp, rfl⟩
  | @step n c i hi _ ih =>
    obtain ⟨l, h1, h2, h3⟩ := ih
    refine ⟨i :: l, by simp [h1], ?_, by rw [ws, h3]⟩
    intro j hj
    rcases List.mem_cons.1 hj with e | e
    · rw [e]; exact hi
    · exact h2 j e
theorem ws_mk {w : List Int} : ∀ l : List Nat, (∀ i ∈ l, i < w.length) → Mk w (ws w l) l.length := by
  intro l
  induction l with
  | nil => intro _; exact .zero
  | cons i l ih =>
    intro h
    exact Mk.step (h i (by simp)) (ih (fun j hj => h j (by simp [hj])))
theorem ws_le {w : List Int} (ok : Ok w) : ∀ l : List Nat, (∀ i ∈ l, i < w.length) → ws w l ≤ 30 * l.length := by
  intro l
  induction l with
  | nil => intro _; simp [ws]
  | cons i l ih =>
    intro h
    have := ih (fun j hj => h j (by simp [hj]))
    have h2 := (ok.2 i (h i (by simp))).1
    rw [ws, List.length_cons]
    omega
/-- What is made up is made up, with the same remainder, by few cartridges. -/
theorem low {w : List Int} (ok : Ok w) (c : Nat) : ∀ l : List Nat, l.length = c → (∀ i ∈ l, i < w.length) → ∃ m, made w m ∧ m ≤ ws w l ∧ m % w0 w = ws w l % w0 w ∧ m ≤ 870 := by
  have hw := w0_range ok
  induction c using Nat.strongRecOn with
  | _ c ih =>
    intro l hl hmem
    by_cases hc : c < w0 w
    · refine ⟨ws w l, ⟨_, ws_mk l hmem⟩, Nat.le_refl _, rfl, ?_⟩
      have := ws_le ok l hmem
      omega
    · obtain ⟨i, j, hij, hj, he⟩ := php (w0 w) (fun j => ws w (l.take j) % w0 w) (fun j _ => Nat.mod_lt _ (by omega))
      try simp only [] at he
      have e1 : l.take j = l.take i ++ (l.drop i).take (j - i) := by
        rw [← List.take_append_drop i (l.take j), List.take_take, Nat.min_eq_left (by omega), List.drop_take]
      have e2 : l = l.take j ++ l.drop j := (List.take_append_drop j l).symm
      have s1 : ws w l = ws w (l.take j) + ws w (l.drop j) := by rw [← ws_append, ← e2]
      have s2 : ws w (l.take j) = ws w (l.take i) + ws w ((l.drop i).take (j - i)) := by rw [← ws_append, ← e1]
      have s3 : ws w (l.take i ++ l.drop j) = ws w (l.take i) + ws w (l.drop j) := ws_append _ _ _
      obtain ⟨m, m1, m2, m3, m4⟩ := ih (l.take i ++ l.drop j).length (by simp; omega) (l.take i ++ l.drop j) rfl (by
        intro x hx
        rcases List.mem_append.1 hx with h | h
        · exact hmem x (List.mem_of_mem_take h)
        · exact hmem x (List.mem_of_mem_drop h))
      refine ⟨m, m1, by omega, ?_, m4⟩
      rw [m3, s3, s1, Nat.add_mod, he, ← Nat.add_mod]
theorem made_low {w : List Int} (ok : Ok w) {n : Nat} (h : made w n) : ∃ m, made w m ∧ m ≤ n ∧ m % w0 w = n % w0 w ∧ m ≤ 870 := by
  obtain ⟨c, hc⟩ := h
  obtain ⟨l, l1, l2, rfl⟩ := mk_ws hc
  exact low ok c l l1 l2
/-- The smallest amount that is made up and leaves a remainder, -1 if there is none. -/
def Res (w : List Int) (r : Nat) (v : Int) : Prop := (v = -1 ∧ ∀ n, n % w0 w = r → ¬ made w n) ∨ ∃ n : Nat, v = n ∧ n % w0 w = r ∧ made w n ∧ ∀ n', n' % w0 w = r → made w n' → n ≤ n'
theorem res_ex (w : List Int) (r : Nat) : ∃ v, Res w r v := by
  by_cases h : ∃ n, n % w0 w = r ∧ made w n
  · obtain ⟨n, hn, hm⟩ := exists_least h
    exact ⟨n, .inr ⟨n, rfl, hn.1, hn.2, fun n' h1 h2 => hm n' ⟨h1, h2⟩⟩⟩
  · exact ⟨-1, .inl ⟨rfl, fun n h1 h2 => h ⟨n, h1, h2⟩⟩⟩
noncomputable def res (w : List Int) (r : Nat) : Int := Classical.choose (res_ex w r)
theorem res_is (w : List Int) (r : Nat) : Res w r (res w r) := Classical.choose_spec (res_ex w r)
theorem res_unique {w : List Int} {r : Nat} {u v : Int} (h : Res w r u) (k : Res w r v) : u = v := by
  rcases h with ⟨h1, h2⟩ | ⟨c, h1, h2, h3, h4⟩ <;> rcases k with ⟨k1, k2⟩ | ⟨d, k1, k2, k3, k4⟩
  · omega
  · exact absurd k3 (h2 d k2)
  · exact absurd h3 (k2 c h2)
  · have := h4 d k2 k3; have := k4 c h2 h3; omega
theorem res_le {w : List Int} (ok : Ok w) (r : Nat) : res w r ≤ 870 := by
  rcases res_is w r with ⟨h1, _⟩ | ⟨n, h1, h2, h3, h4⟩
  · omega
  · obtain ⟨m, m1, m2, m3, m4⟩ := made_low ok h3
    have := h4 m (by omega) m1
    omega
noncomputable def rl (w : List Int) (i : Nat) : List Int := (List.range i).map (fun (r : Nat) => res w r)
theorem rl_length (w : List Int) (i : Nat) : (rl w i).length = i := by simp [rl]
theorem rl_rd {w : List Int} {i r : Nat} (h : r < i) : rd (rl w i) (r : Int) = res w r := by
  rw [rd_lt (by rw [rl_length]; exact h)]; simp [rl]
theorem rl_succ (w : List Int) (i : Nat) : rl w (i + 1) = rl w i ++ [res w i] := by simp [rl, List.range_succ]
def stp (W : Nat) (out : List Int) (n : Int) : List Int := if rd out (n % (W : Int)) < 0 then out.set (n % (W : Int)).toNat n else out
theorem stp_len (W : Nat) (out : List Int) (n : Int) : (stp W out n).length = out.length := by
  unfold stp
  by_cases c : rd out (n % (W : Int)) < 0
  · rw [if_pos c]; simp
  · rw [if_neg c]
theorem fold_len (W : Nat) : ∀ (X out : List Int), (X.foldl (stp W) out).length = out.length := by
  intro X
  induction X with
  | nil => intro out; rfl
  | cons n X ih => intro out; rw [List.foldl_cons, ih, stp_len]
theorem rd_set' {l : List Int} {i j : Nat} {v : Int} (hi : i < l.length) : rd (l.set i v) (j : Int) = if j = i then v else rd l (j : Int) := by
  by_cases hj : j < l.length
  · rw [rd_lt (by simpa using hj), List.getElem_set]
    by_cases e : i = j
    · rw [if_pos e, if_pos e.symm]
    · rw [if_neg e, if_neg (fun q => e q.symm), rd_lt hj]
  · rw [if_neg (by omega), rd_nat, rd_nat, List.getD_eq_getElem?_getD, List.getD_eq_getElem?_getD, List.getElem?_eq_none (by simp; omega), List.getElem?_eq_none (by omega)]
theorem fl_get {p : Int → Bool} {N i : Nat} (h : i < (charge_where.fl p N).length) : ∃ j : Nat, j < N ∧ rd (charge_where.fl p N) (i : Int) = (j : Int) := by
  rw [rd_lt h]
  have := List.getElem_mem h
  unfold charge_where.fl at this
  have := (List.mem_filter.1 this).1
  obtain ⟨j, hj, e⟩ := List.mem_map.1 this
  exact ⟨j, by simpa using hj, e.symm⟩
/-- What is known behind the first amounts. -/
theorem fold_fl {w : List Int} (ok : Ok w) : ∀ N : Nat, ∀ r : Nat, r < w0 w →
    let out := (charge_where.fl (fun n => decide (0 ≤ fw w n.toNat)) N).foldl (stp (w0 w)) (List.replicate (w0 w) (-1));
    (rd out (r : Int) = -1 ∧ ∀ n, n < N → n % w0 w = r → ¬ made w n) ∨ ∃ n : Nat, n < N ∧ rd out (r : Int) = n ∧ n % w0 w = r ∧ made w n ∧ ∀ n', n' % w0 w = r → made w n' → n ≤ n' := by
  have hw := w0_range ok
  intro N
  induction N with
  | zero =>
    intro r hr
    refine .inl ⟨?_, fun n hn => by omega⟩
    show rd (List.replicate (w0 w) (-1)) (r : Int) = -1
    rw [rd_lt (by simpa using hr)]; simp
  | succ N ih =>
    intro r hr
    have h := ih r hr
    simp only [] at h ⊢
    rw [charge_where.fl_succ]
    have hf : (decide (0 ≤ fw w ((N : Nat) : Int).toNat) = true) ↔ made w N := by rw [decide_eq_true_eq, Int.toNat_natCast]; exact fw_nonneg
    by_cases c : made w N
    · rw [if_pos (hf.2 c), List.foldl_append]
      simp only [List.foldl_cons, List.foldl_nil]
      have hol : ((charge_where.fl (fun n => decide (0 ≤ fw w n.toNat)) N).foldl (stp (w0 w)) (List.replicate (w0 w) (-1))).length = w0 w := by rw [fold_len]; simp
      generalize (charge_where.fl (fun n => decide (0 ≤ fw w n.toNat)) N).foldl (stp (w0 w)) (List.replicate (w0 w) (-1)) = out at h hol ⊢
      have em : (N : Int) % (w0 w : Int) = ((N % w0 w : Nat) : Int) := by omega
      have hml := Nat.mod_lt N (show w0 w > 0 by omega)
      unfold stp
      rw [em, Int.toNat_natCast]
      by_cases e : N % w0 w = r
      · rw [e]
        rcases h with ⟨h1, h2⟩ | ⟨n, h0, h1, h2, h3, h4⟩
        · rw [if_pos (by omega)]
          refine .inr ⟨N, by omega, by rw [rd_set' (by omega), if_pos rfl], e, c, fun n' q1 q2 => ?_⟩
          rcases Nat.lt_or_ge n' N with q | q
          · exact absurd q2 (h2 n' q q1)
          · exact q
        · rw [if_neg (by omega)]
          exact .inr ⟨n, by omega, h1, h2, h3, h4⟩
      · have hsame : rd (if rd out ((N % w0 w : Nat) : Int) < 0 then out.set (N % w0 w) (N : Int) else out) (r : Int) = rd out (r : Int) := by
          by_cases q : rd out ((N % w0 w : Nat) : Int) < 0
          · rw [if_pos q, rd_set' (by omega), if_neg (fun z => e z.symm)]
          · rw [if_neg q]
        rw [hsame]
        rcases h with ⟨h1, h2⟩ | ⟨n, h0, h1, h2, h3, h4⟩
        · refine .inl ⟨h1, fun n hn hr2 => ?_⟩
          by_cases z : n = N
          · subst z; exact absurd hr2 e
          · exact h2 n (by omega) hr2
        · exact .inr ⟨n, by omega, h1, h2, h3, h4⟩
    · rw [if_neg (fun q => c (hf.1 q))]
      rcases h with ⟨h1, h2⟩ | ⟨n, h0, h1, h2, h3, h4⟩
      · refine .inl ⟨h1, fun n hn hr2 => ?_⟩
        by_cases z : n = N
        · subst z; exact c
        · exact h2 n (by omega) hr2
      · exact .inr ⟨n, by omega, h1, h2, h3, h4⟩
theorem fold_rl {w : List Int} (ok : Ok w) : (charge_where.fl (fun n => decide (0 ≤ fw w n.toNat)) 901).foldl (stp (w0 w)) (List.replicate (w0 w) (-1)) = rl w (w0 w) := by
  have hol : ((charge_where.fl (fun n => decide (0 ≤ fw w n.toNat)) 901).foldl (stp (w0 w)) (List.replicate (w0 w) (-1))).length = w0 w := by rw [fold_len]; simp
  refine List.ext_getElem (by rw [hol, rl_length]) (fun r h1 h2 => ?_)
  rw [hol] at h1
  have h := fold_fl ok 901 r h1
  simp only [] at h
  have hr := rl_rd (w := w) h1
  rw [rd_lt (by rw [rl_length]; exact h1)] at hr
  rw [hr]
  rw [rd_lt (by rw [hol]; exact h1)] at h
  refine res_unique ?_ (res_is w r)
  rcases h with ⟨h1, h2⟩ | ⟨n, h0, h1, h2, h3, h4⟩
  · refine .inl ⟨h1, fun n q1 q2 => ?_⟩
    obtain ⟨m, m1, m2, m3, m4⟩ := made_low ok q2
    exact h2 m (by omega) (by omega) m1
  · exact .inr ⟨n, h1, h2, h3, h4⟩
theorem loop_fold {w : List Int} (ok : Ok w) {X out : List Int} (hX : X.length ≤ 1000) (ho : out.length = w0 w) (hel : ∀ i : Nat, i < X.length → ∃ j : Nat, j ≤ 1000 ∧ rd X (i : Int) = (j : Int)) (d : Nat) :
    ∀ i : Nat, i + d = X.length → Tl (fun k => charge_Residues.l0 k w ((X.take i).foldl (stp (w0 w)) out) X (X.length : Int) (i : Int)) (X.foldl (stp (w0 w)) out, 0) := by
  have hw := w0_range ok
  have hlen := ok.1
  induction d with
  | zero =>
    intro i h
    obtain rfl : i = X.length := by omega
    rw [List.take_length]
    refine Tl.succ ?_
    simp only [charge_Residues.l0]
    exact Tl.neg (by omega) Tl.now
  | succ d ih =>
    intro i h
    have hi : i < X.length := by omega
    obtain ⟨j, hj, e⟩ := hel i hi
    have next := ih (i + 1) (by omega)
    rw [List.take_succ_eq_append_getElem hi, List.foldl_append] at next
    simp only [List.foldl_cons, List.foldl_nil] at next
    rw [← rd_lt hi, e] at next
    have hol : ((X.take i).foldl (stp (w0 w)) out).length = w0 w := by rw [fold_len, ho]
    have em : (j : Int) % (w0 w : Int) = ((j % w0 w : Nat) : Int) := by omega
    have hml := Nat.mod_lt j (show w0 w > 0 by omega)
    refine Tl.succ ?_
    simp only [charge_Residues.l0]
    rw [w64 (x := (i : Int) + 1) (by omega) (by omega), e, hw.2.2, Int.tmod_eq_emod_of_nonneg (by omega), show (i : Int) + 1 = ((i + 1 : Nat) : Int) by omega]
    refine Tl.pos (by omega) (Tl.pos (by omega) (Tl.pos (by omega) (Tl.pos (by omega) (Tl.neg (by omega) (Tl.pos (by omega) (Tl.pos (by omega) ?_))))))
    unfold stp at next
    by_cases c : rd ((X.take i).foldl (stp (w0 w)) out) ((j : Int) % (w0 w : Int)) < 0
    · refine Tl.pos c ?_
      rw [show (if rd (List.foldl (fun out n => if rd out (n % (w0 w : Int)) < 0 then out.set (n % (w0 w : Int)).toNat n else out) out (X.take i)) ((j : Int) % (w0 w : Int)) < 0 then (List.foldl (fun out n => if rd out (n % (w0 w : Int)) < 0 then out.set (n % (w0 w : Int)).toNat n else out) out (X.take i)).set ((j : Int) % (w0 w : Int)).toNat (j : Int) else List.foldl (fun out n => if rd out (n % (w0 w : Int)) < 0 then out.set (n % (w0 w : Int)).toNat n else out) out (X.take i)) = (List.foldl (fun out n => if rd out (n % (w0 w : Int)) < 0 then out.set (n % (w0 w : Int)).toNat n else out) out (X.take i)).set ((j : Int) % (w0 w : Int)).toNat (j : Int) from if_pos c] at next
      exact next
    · refine Tl.neg c ?_
      rw [show (if rd (List.foldl (fun out n => if rd out (n % (w0 w : Int)) < 0 then out.set (n % (w0 w : Int)).toNat n else out) out (X.take i)) ((j : Int) % (w0 w : Int)) < 0 then (List.foldl (fun out n => if rd out (n % (w0 w : Int)) < 0 then out.set (n % (w0 w : Int)).toNat n else out) out (X.take i)).set ((j : Int) % (w0 w : Int)).toNat (j : Int) else List.foldl (fun out n => if rd out (n % (w0 w : Int)) < 0 then out.set (n % (w0 w : Int)).toNat n else out) out (X.take i)) = List.foldl (fun out n => if rd out (n % (w0 w : Int)) < 0 then out.set (n % (w0 w : Int)).toNat n else out) out (X.take i) from if_neg c] at next
      exact next
noncomputable def rc (w : List Int) : List Int × Int := if vc w = 0 then (rl w (w0 w), 0) else ([], vc w)
theorem flat_rep (n : Nat) (x : Int) : (List.replicate n [x]).flatten = List.replicate n x := by
  induction n with
  | zero => rfl
  | succ n ih => rw [List.replicate_succ, List.flatten_cons, ih, List.replicate_succ]; rfl
theorem ev_Residues (w : List Int) : Tl (fun k => charge_Residues.f k w) (rc w) := by
  unfold charge_Residues.f rc
  refine Tl.bind (ev_Validate w) ?_
  by_cases h : vc w = 0
  · rw [if_pos h]
    have ok := vc_ok.1 h
    have hw := w0_range ok
    have hlen := ok.1
    obtain ⟨L, hL, _, hf⟩ := ev_fill ok.wt (show 900 ≤ 10000 by omega)
    obtain ⟨T, hT⟩ : ∃ T, T = tab w (900 + 1) := ⟨_, rfl⟩
    have hwh := where_tab (w := w) (L := L) (m := 900) (by omega)
    rw [← hT] at hwh hf
    obtain ⟨X, hX⟩ : ∃ X, X = charge_where.fl (fun n => decide (0 ≤ fw w n.toNat)) 901 := ⟨_, rfl⟩
    have hwh2 : charge_where.f 900 T L = some X := by rw [hX]; exact hwh
    have hXl : X.length ≤ 901 := by rw [hX]; exact charge_where.fl_len _ _
    have er : slices_Repeat_int_int.f [-1] (rd w 0) = some (List.replicate (w0 w) (-1)) := by
      unfold slices_Repeat_int_int.f
      rw [if_pos (by simp), if_pos (by simp), if_pos (by omega), if_pos (by omega), flat_rep]
      rfl
    have := loop_fold ok (X := X) (out := List.replicate (w0 w) (-1)) (by omega) (by simp) (fun i hi => by
      rw [hX] at hi ⊢
      obtain ⟨j, hj, e⟩ := fl_get hi
      exact ⟨j, by omega, e⟩) X.length 0 (by omega)
    rw [List.take_zero, List.foldl_nil] at this
    refine Tl.pos h (Tl.pos (by omega) (Tl.bind' er (Tl.bind hf (Tl.bind' hwh2 ?_))))
    refine Tl.to this ?_
    rw [hX, fold_rl ok]
  · rw [if_neg h]; exact Tl.neg h Tl.now
end Go.Proofs.Ytgndhijhcliegaa.Rs
