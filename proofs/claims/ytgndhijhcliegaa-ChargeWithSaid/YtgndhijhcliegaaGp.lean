/- Amounts that are not made up, and the greatest of them. -/
import Derived.Test.YtgndhijhcliegaaRs
import Derived.Test.YtgndhijhcliegaaPx31
import Derived.Test.YtgndhijhcliegaaPx37
import Derived.Test.YtgndhijhcliegaaPx36
import Derived.Test.YtgndhijhcliegaaPx9
import Derived.Test.YtgndhijhcliegaaPx10
import Derived.Test.YtgndhijhcliegaaPx14
set_option linter.unusedVariables false
namespace Go.Proofs.Ytgndhijhcliegaa.Gp
open Go.RowKit Go.Proofs.Ytgndhijhcliegaa.P Go.Proofs.Ytgndhijhcliegaa.E Go.Proofs.Ytgndhijhcliegaa.Va Go.Proofs.Ytgndhijhcliegaa.Kn Go.Proofs.Ytgndhijhcliegaa.Me Go.Proofs.Ytgndhijhcliegaa.Rs Go.Proofs.YtgndhijhcliegaaW.PrintMore
open Go.Proofs.YtgndhijhcliegaaW.PrintWords
theorem bezout : ∀ (b a : Nat), ∃ s t : Int, ((Nat.gcd a b : Nat) : Int) = s * a + t * b := by
  intro b
  induction b using Nat.strongRecOn with
  | _ b ih =>
    intro a
    by_cases z : b = 0
    · subst z
      exact ⟨1, 0, by rw [Nat.gcd_zero_right]; omega⟩
    · obtain ⟨s, t, e⟩ := ih (a % b) (Nat.mod_lt _ (by omega)) b
      refine ⟨t, s - t * ((a / b : Nat) : Int), ?_⟩
      rw [show Nat.gcd a b = Nat.gcd b (a % b) by rw [Nat.gcd_comm b, ← Nat.gcd_rec, Nat.gcd_comm], e]
      have h := Nat.mod_add_div a b
      have h2 : (a : Int) = ((a % b : Nat) : Int) + (b : Int) * ((a / b : Nat) : Int) := by rw [← Int.natCast_mul, ← Int.natCast_add, h]
      conv => rhs; rw [h2]
      rw [Int.mul_add, Int.sub_mul, ← Int.mul_assoc, Int.mul_comm t (b : Int), Int.mul_assoc, Int.mul_comm t ((a / b : Nat) : Int), Int.mul_comm ((a / b : Nat) : Int) t, Int.mul_assoc t, Int.mul_comm ((a / b : Nat) : Int) (b : Int), ← Int.mul_assoc t, Int.mul_comm t (b : Int), Int.mul_assoc]
      omega
/-- A sum of two that are made up, with whatever remainder by W. -/
theorem made_comb {w : List Int} {W a b : Nat} (hW : 1 ≤ W) (ha : made w a) (hb : made w b) (s t : Int) : ∃ m, made w m ∧ (m : Int) % W = (s * a + t * b) % W := by
  have k1 := Int.emod_nonneg s (show (W : Int) ≠ 0 by omega)
  have k2 := Int.emod_nonneg t (show (W : Int) ≠ 0 by omega)
  refine ⟨a * (s % W).toNat + b * (t % W).toNat, made_add (made_mul ha _) (made_mul hb _), ?_⟩
  rw [Int.natCast_add, Int.natCast_mul, Int.natCast_mul, Int.toNat_of_nonneg k1, Int.toNat_of_nonneg k2, Int.mul_comm (a : Int), Int.mul_comm (b : Int)]
  rw [Int.add_emod, Int.mul_emod (s % W), Int.emod_emod, ← Int.mul_emod, Int.mul_emod (t % W), Int.emod_emod, ← Int.mul_emod, ← Int.add_emod]
theorem made_mg {w : List Int} {W : Nat} (hW : 1 ≤ W) : ∀ i : Nat, i ≤ w.length → ∃ m, made w m ∧ (m : Int) % W = (mg w i : Int) % W := by
  intro i
  induction i with
  | zero => intro _; exact ⟨0, made_zero w, rfl⟩
  | succ i ih =>
    intro hi
    obtain ⟨m, h1, h2⟩ := ih (by omega)
    obtain ⟨s, t, e⟩ := bezout (rd w (i : Int)).toNat (mg w i)
    obtain ⟨q, q1, q2⟩ := made_comb hW h1 (made_weight (w := w) (i := i) (by omega)) s t
    refine ⟨q, q1, ?_⟩
    rw [q2]
    show _ = ((Nat.gcd (mg w i) (rd w (i : Int)).toNat : Nat) : Int) % W
    rw [e, Int.add_emod, Int.mul_emod s, h2, ← Int.mul_emod, ← Int.add_emod]
/-- With the measure 1 every remainder comes up. -/
theorem cover {w : List Int} (ok : Ok w) (h1 : mg w w.length = 1) (n : Nat) : ∃ m, made w m ∧ m % w0 w = n % w0 w := by
  have hw := w0_range ok
  obtain ⟨m, m1, m2⟩ := made_mg (w := w) hw.1 w.length (Nat.le_refl _)
  refine ⟨m * n, made_mul m1 n, ?_⟩
  have : ((m * n : Nat) : Int) % (w0 w : Int) = (n : Int) % (w0 w : Int) := by
    rw [Int.natCast_mul, Int.mul_emod, m2, h1, ← Int.mul_emod]
    simp
  omega
theorem res_ge {w : List Int} (ok : Ok w) (h1 : mg w w.length = 1) (n : Nat) : made w n ↔ res w (n % w0 w) ≤ n := by
  rcases res_is w (n % w0 w) with ⟨e1, e2⟩ | ⟨q, e1, e2, e3, e4⟩
  · obtain ⟨m, m1, m2⟩ := cover ok h1 n
    exact absurd m1 (e2 m m2)
  · constructor
    · intro h; have := e4 n rfl h; omega
    · intro h; exact made_up ok e3 (by omega) e2
theorem made_far {w : List Int} (ok : Ok w) (h1 : mg w w.length = 1) {n : Nat} (hn : 870 ≤ n) : made w n := by
  rw [res_ge ok h1]
  have := res_le ok (n % w0 w)
  omega
/-- The greatest amount that is not made up. -/
def Gt (w : List Int) (v : Int) : Prop := -1 ≤ v ∧ (∀ n : Nat, v < n → made w n) ∧ (0 ≤ v → ¬ made w v.toNat)
theorem gt_unique {w : List Int} {u v : Int} (h : Gt w u) (k : Gt w v) : u = v := by
  obtain ⟨h1, h2, h3⟩ := h
  obtain ⟨k1, k2, k3⟩ := k
  rcases Int.lt_trichotomy u v with c | c | c
  · exact absurd (h2 v.toNat (by omega)) (k3 (by omega))
  · exact c
  · exact absurd (k2 u.toNat (by omega)) (h3 (by omega))
noncomputable def gl (w : List Int) : List Int := charge_where.fl (fun n => decide (fw w n.toNat < 0)) 901
theorem gl_mem {w : List Int} (n : Nat) : ((n : Int) ∈ gl w) ↔ n < 901 ∧ ¬ made w n := by
  unfold gl charge_where.fl
  rw [List.mem_filter, List.mem_map]
  have hf : (decide (fw w (n : Int).toNat < 0) = true) ↔ ¬ made w n := by
    rw [decide_eq_true_eq, Int.toNat_natCast, ← Int.not_le]; exact not_congr fw_nonneg
  rw [hf]
  constructor
  · rintro ⟨⟨j, hj, e⟩, h2⟩
    refine ⟨?_, h2⟩
    have := List.mem_range.1 hj
    have : j = n := by exact_mod_cast e
    omega
  · rintro ⟨h1, h2⟩
    exact ⟨⟨n, List.mem_range.2 h1, rfl⟩, h2⟩
theorem fl_last {p : Int → Bool} : ∀ N : Nat, (charge_where.fl p N = [] ∧ ∀ n : Nat, n < N → p n = false) ∨ (∃ (D : List Int) (n : Nat), charge_where.fl p N = D ++ [(n : Int)] ∧ n < N ∧ p n = true ∧ ∀ m : Nat, n < m → m < N → p m = false) := by
  intro N
  induction N with
  | zero => exact .inl ⟨rfl, fun n hn => by omega⟩
  | succ N ih =>
    rw [charge_where.fl_succ]
    cases h : p (N : Int) with
    | true =>
      rw [if_pos rfl]
      exact .inr ⟨_, N, rfl, by omega, h, fun m h1 h2 => by omega⟩
    | false =>
      rw [if_neg (by simp)]
      rcases ih with ⟨h1, h2⟩ | ⟨D, n, h1, h2, h3, h4⟩
      · refine .inl ⟨h1, fun n hn => ?_⟩
        by_cases e : n = N
        · rw [e]; exact h
        · exact h2 n (by omega)
      · refine .inr ⟨D, n, h1, by omega, h3, fun m m1 m2 => ?_⟩
        by_cases e : m = N
        · rw [e]; exact h
        · exact h4 m m1 (by omega)
/-- What the greatest gap comes to. -/
theorem last_gap {w : List Int} (ok : Ok w) (h1 : mg w w.length = 1) : (gl w = [] ∧ Gt w (-1)) ∨ ∃ (D : List Int) (n : Nat), gl w = D ++ [(n : Int)] ∧ n ≤ 900 ∧ Gt w n := by
  have hp : ∀ n : Nat, (fun n : Int => decide (fw w n.toNat < 0)) (n : Int) = false → made w n := by
    intro n h
    have := of_decide_eq_false h
    rw [Int.toNat_natCast] at this
    exact fw_nonneg.1 (by omega)
  rcases fl_last (p := fun n => decide (fw w n.toNat < 0)) 901 with ⟨e1, e2⟩ | ⟨D, n, e1, e2, e3, e4⟩
  · refine .inl ⟨e1, by omega, fun n _ => ?_, fun q => by omega⟩
    by_cases c : n < 901
    · exact hp n (e2 n c)
    · exact made_far ok h1 (by omega)
  · refine .inr ⟨D, n, e1, by omega, by omega, fun m hm => ?_, fun _ => ?_⟩
    · by_cases c : m < 901
      · exact hp m (e4 m (by omega) c)
      · exact made_far ok h1 (by omega)
    · have := of_decide_eq_true e3
      rw [Int.toNat_natCast] at this ⊢
      intro q
      have := fw_nonneg.2 q
      omega
/-- The error of weights of which the measure is to be 1. -/
def sc (w : List Int) : Int := if vc w = 0 then (if mg w w.length = 1 then 0 else 4) else vc w
theorem sc_ok {w : List Int} : sc w = 0 ↔ Ok w ∧ mg w w.length = 1 := by
  unfold sc
  by_cases h : vc w = 0
  · rw [if_pos h]
    by_cases c : mg w w.length = 1
    · rw [if_pos c]; exact ⟨fun _ => ⟨vc_ok.1 h, c⟩, fun _ => rfl⟩
    · rw [if_neg c]; exact ⟨fun q => by omega, fun q => absurd q.2 c⟩
  · rw [if_neg h]; exact ⟨fun q => absurd q h, fun q => absurd (vc_ok.2 q.1) h⟩
theorem ev_single (w : List Int) : Tl (fun k => charge_single.f k w) (sc w) := by
  unfold charge_single.f
  refine Tl.bind (ev_Validate w) ?_
  by_cases h : vc w = 0
  · have e : sc w = if mg w w.length = 1 then 0 else 4 := by unfold sc; rw [if_pos h]
    refine Tl.pos h (Tl.bind (ev_measure (vc_ok.1 h).wt) ?_)
    by_cases c : mg w w.length = 1
    · rw [e, if_pos c]; exact Tl.pos (by omega) Tl.now
    · rw [e, if_neg c]; exact Tl.neg (by omega) Tl.now
  · have e : sc w = vc w := by unfold sc; rw [if_neg h]
    rw [e]; exact Tl.neg h Tl.now
noncomputable def gc (w : List Int) : List Int × Int := if sc w = 0 then (gl w, 0) else ([], sc w)
theorem ev_Gaps (w : List Int) : Tl (fun k => charge_Gaps.f k w) (gc w) := by
  unfold charge_Gaps.f gc
  refine Tl.bind (ev_single w) ?_
  by_cases h : sc w = 0
  · rw [if_pos h]
    exact Tl.pos h (Tl.bind (ev_gaps (sc_ok.1 h).1.wt) Tl.now)
  · rw [if_neg h]; exact Tl.neg h Tl.now
theorem ev_rGaps (w : List Int) : Tl (fun k => diaphoneref07_Gaps.f k w) (gc w) := by
  unfold diaphoneref07_Gaps.f
  refine Tl.bind (ev_rValidate w) ?_
  by_cases h : vc w = 0
  · have ok := vc_ok.1 h
    refine Tl.pos h (Tl.bind (ev_rmeasure ok) ?_)
    by_cases c : mg w w.length = 1
    · have e : gc w = (gl w, 0) := by unfold gc; rw [if_pos (sc_ok.2 ⟨ok, c⟩)]
      rw [e]
      refine Tl.pos (by omega) (Tl.bind (ev_few ok.wt (show 900 ≤ 10000 by omega)) ?_)
      obtain ⟨T, hT⟩ : ∃ T, T = tab w (900 + 1) := ⟨_, rfl⟩
      have hTl : T.length = 901 := by rw [hT, tab_length]
      rw [← hT]
      have loop : ∀ d i : Nat, i + d = 901 → Tl (fun k => diaphoneref07_Gaps.l0 k T (charge_where.fl (fun n => decide (fw w n.toNat < 0)) i) (i : Int)) (gl w, 0) := by
        intro d
        induction d with
        | zero =>
          intro i h1
          obtain rfl : i = 901 := by omega
          refine Tl.succ ?_
          simp only [diaphoneref07_Gaps.l0]
          exact Tl.neg (by omega) Tl.now
        | succ d ih =>
          intro i h1
          have next := ih (i + 1) (by omega)
          have hl := charge_where.fl_len (fun n => decide (fw w n.toNat < 0)) i
          have hr : rd T (i : Int) = fw w i := by rw [hT, tab_rd (by omega)]
          rw [charge_where.fl_succ, show ((i + 1 : Nat) : Int) = (i : Int) + 1 by omega] at next
          refine Tl.succ ?_
          simp only [diaphoneref07_Gaps.l0]
          rw [hr, w64 (x := (i : Int) + 1) (by omega) (by omega)]
          refine Tl.pos (by omega) (Tl.pos (by omega) (Tl.pos (by omega) ?_))
          by_cases z : fw w i < 0
          · rw [if_pos (by rw [Int.toNat_natCast]; exact decide_eq_true z)] at next
            exact Tl.pos z (Tl.pos (by omega) next)
          · rw [if_neg (by rw [Int.toNat_natCast, decide_eq_true_eq]; exact z)] at next
            exact Tl.neg z next
      exact loop 901 0 (by omega)
    · have e : gc w = ([], 4) := by
        have : sc w = 4 := by unfold sc; rw [if_pos h, if_neg c]
        unfold gc; rw [this]; rfl
      rw [e]; exact Tl.neg (by omega) Tl.now
  · have e : gc w = ([], vc w) := by
      have : sc w = vc w := by unfold sc; rw [if_neg h]
      unfold gc; rw [this, if_neg h]
    rw [e]; exact Tl.neg h Tl.now
theorem rd_snoc (C : List Int) (r : Int) : rd (C ++ [r]) (C.length : Int) = r := by
  rw [rd_lt (by simp)]; simp
theorem gl_len (w : List Int) : (gl w).length ≤ 901 := charge_where.fl_len _ _
/-- The greatest gap, as a number. -/
theorem ev_greatest {w : List Int} (ok : Ok w) (h1 : mg w w.length = 1) : ∃ v, Gt w v ∧ v ≤ 900 ∧ Tl (fun k => charge_greatest.f k w) v ∧ ((gl w = [] ∧ v = -1) ∨ ∃ D, gl w = D ++ [v]) := by
  have hg : Tl (fun k => charge_gaps.f k w) (gl w) := ev_gaps ok.wt
  have hl := gl_len w
  have hlast := last_gap ok h1
  generalize gl w = G at hg hl hlast ⊢
  unfold charge_greatest.f
  rcases hlast with ⟨e1, e2⟩ | ⟨D, n, e1, e2, e3⟩
  · subst e1
    exact ⟨-1, e2, by omega, Tl.bind hg (Tl.pos rfl Tl.now), .inl ⟨rfl, rfl⟩⟩
  · subst e1
    have e : wrap64 (((D ++ [(n : Int)]).length : Int) - 1) = (D.length : Int) := by
      rw [show (((D ++ [(n : Int)]).length : Int) - 1) = (D.length : Int) by simp, w64 (by omega) (by simp at hl; omega)]
    refine ⟨n, e3, by omega, Tl.bind hg ?_, .inr ⟨D, rfl⟩⟩
    rw [e, rd_snoc]
    exact Tl.neg (by simp; omega) (Tl.pos (by omega) (Tl.pos (by simp; omega) Tl.now))
theorem ev_Greatest {w : List Int} {v : Int} (hs : sc w = 0) (hv : Gt w v) : Tl (fun k => charge_Greatest.f k w) (v, 0) := by
  have h := sc_ok.1 hs
  obtain ⟨u, hu, _, hr, _⟩ := ev_greatest h.1 h.2
  obtain rfl := gt_unique hv hu
  unfold charge_Greatest.f
  exact Tl.bind (ev_single w) (Tl.pos hs (Tl.bind hr Tl.now))
theorem ev_Greatest_no {w : List Int} (hs : ¬ sc w = 0) : Tl (fun k => charge_Greatest.f k w) (0, sc w) := by
  unfold charge_Greatest.f
  exact Tl.bind (ev_single w) (Tl.neg hs Tl.now)
theorem ev_rGreatest {w : List Int} {v : Int} (hs : sc w = 0) (hv : Gt w v) : Tl (fun k => diaphoneref07_Greatest.f k w) (v, 0) := by
  have h := sc_ok.1 hs
  have hl := gl_len w
  have e : gc w = (gl w, 0) := by unfold gc; rw [if_pos hs]
  have hg := ev_rGaps w
  rw [e] at hg
  have hlast := last_gap h.1 h.2
  generalize gl w = G at hg hl hlast
  unfold diaphoneref07_Greatest.f
  rcases hlast with ⟨e1, e2⟩ | ⟨D, n, e1, e2, e3⟩
  · obtain rfl := gt_unique hv e2
    subst e1
    exact Tl.bind hg (Tl.pos rfl (Tl.pos rfl Tl.now))
  · obtain rfl := gt_unique hv e3
    subst e1
    have e : wrap64 (((D ++ [(n : Int)]).length : Int) - 1) = (D.length : Int) := by
      rw [show (((D ++ [(n : Int)]).length : Int) - 1) = (D.length : Int) by simp, w64 (by omega) (by simp at hl; omega)]
    refine Tl.bind hg (Tl.pos rfl ?_)
    show Tl (fun k => if ((D ++ [(n : Int)]).length : Int) = 0 then some ((-1), 0) else (if 0 ≤ (wrap64 (((D ++ [(n : Int)]).length : Int) - 1)) then (if (wrap64 (((D ++ [(n : Int)]).length : Int) - 1)) < ((D ++ [(n : Int)]).length : Int) then some (rd (D ++ [(n : Int)]) (wrap64 (((D ++ [(n : Int)]).length : Int) - 1)), (0 : Int)) else none) else none)) _
    rw [e, rd_snoc]
    exact Tl.neg (by simp; omega) (Tl.pos (by omega) (Tl.pos (by simp; omega) Tl.now))
theorem ev_rGreatest_no {w : List Int} (hs : ¬ sc w = 0) : Tl (fun k => diaphoneref07_Greatest.f k w) (0, sc w) := by
  have e : gc w = ([], sc w) := by unfold gc; rw [if_neg hs]
  unfold diaphoneref07_Greatest.f
  refine Tl.bind (ev_rGaps w) ?_
  rw [e]
  exact Tl.neg hs Tl.now
theorem ev_Has {l : List Int} (hl : l.length ≤ 1000) (x : Int) : Tl (fun k => diaphoneref07_Has.f k l x) (decide (x ∈ l)) := by
  have loop : ∀ d i : Nat, i + d = l.length → Tl (fun k => diaphoneref07_Has.l0 k l x (i : Int)) (decide (x ∈ l.drop i)) := by
    intro d
    induction d with
    | zero =>
      intro i h
      refine Tl.succ ?_
      simp only [diaphoneref07_Has.l0]
      refine Tl.to (Tl.neg (by omega) Tl.now) ?_
      rw [List.drop_eq_nil_of_le (by omega)]; simp
    | succ d ih =>
      intro i h
      have hi : i < l.length := by omega
      have next := ih (i + 1) (by omega)
      refine Tl.succ ?_
      simp only [diaphoneref07_Has.l0]
      rw [w64 (x := (i : Int) + 1) (by omega) (by omega), rd_lt hi]
      refine Tl.pos (by omega) (Tl.pos (by omega) ?_)
      have e : (x ∈ l.drop i) ↔ (l[i] = x ∨ x ∈ l.drop (i + 1)) := by
        rw [List.drop_eq_getElem_cons hi, List.mem_cons]
        exact ⟨fun q => q.elim (fun q => .inl q.symm) .inr, fun q => q.elim (fun q => .inl q.symm) .inr⟩
      by_cases c : l[i] = x
      · exact Tl.to (Tl.pos c Tl.now) (decide_eq_true (e.2 (.inl c))).symm
      · exact Tl.to (Tl.neg c next) (decide_eq_decide.2 ⟨fun q => e.2 (.inr q), fun q => (e.1 q).resolve_left c⟩)
  have := loop l.length 0 (by omega)
  rw [List.drop_zero] at this
  exact this
end Go.Proofs.Ytgndhijhcliegaa.Gp
