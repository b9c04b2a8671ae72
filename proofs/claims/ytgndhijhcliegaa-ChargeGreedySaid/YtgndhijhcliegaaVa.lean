/- Words for the plain laws: a function with rounds comes to a value, from some number of rounds on. -/
import Derived.Test.YtgndhijhcliegaaWWords
import Derived.Test.YtgndhijhcliegaaWMore
import Derived.Deep.LoopGhost
import Derived.Test.YtgndhijhcliegaaPx1
import Derived.Test.YtgndhijhcliegaaPx3
import Derived.Test.YtgndhijhcliegaaPx26
import Derived.Test.YtgndhijhcliegaaPx5
set_option linter.unusedVariables false
namespace Go.Proofs.Ytgndhijhcliegaa.E
open Go.RowKit Go.Proofs.YtgndhijhcliegaaW.PrintWords Go.Proofs.YtgndhijhcliegaaW.PrintMore

/-- From some number of rounds on, g answers r. -/
def Tl {α : Type} (g : Nat → Option α) (r : α) : Prop := ∃ K, ∀ k, K ≤ k → g k = some r
theorem Tl.now {α : Type} {r : α} : Tl (fun _ => some r) r := ⟨0, fun _ _ => rfl⟩
theorem Tl.of {α : Type} {o : Option α} {r : α} (h : o = some r) : Tl (fun _ => o) r := ⟨0, fun _ _ => h⟩
theorem Tl.mono {α : Type} {g : Nat → Option α} {r : α} (hm : ∀ k, LeO (g k) (g (k + 1))) (k : Nat) (h : g k = some r) : Tl g r := ⟨k, fun _ hk => at_rounds hm hk h⟩
theorem Tl.succ {α : Type} {g : Nat → Option α} {r : α} (h : Tl (fun k => g (k + 1)) r) : Tl g r := by
  obtain ⟨K, hK⟩ := h
  refine ⟨K + 1, fun k hk => ?_⟩
  obtain ⟨m, rfl⟩ : ∃ m, k = m + 1 := ⟨k - 1, by omega⟩
  exact hK m (by omega)
theorem Tl.bind {α β : Type} {g : Nat → Option α} {f : Nat → α → Option β} {a : α} {r : β} (h : Tl g a) (hf : Tl (fun k => f k a) r) : Tl (fun k => (g k).bind (f k)) r := by
  obtain ⟨K, hK⟩ := h
  obtain ⟨L, hL⟩ := hf
  refine ⟨max K L, fun k hk => ?_⟩
  show (g k).bind (f k) = some r
  rw [hK k (by omega)]
  exact hL k (by omega)
theorem Tl.bind' {α β : Type} {o : Option α} {f : Nat → α → Option β} {a : α} {r : β} (h : o = some a) (hf : Tl (fun k => f k a) r) : Tl (fun k => o.bind (f k)) r := by
  rw [h]; exact hf
theorem Tl.congr {α : Type} {g g' : Nat → Option α} {r : α} (h : Tl g r) (e : ∀ k, g' k = g k) : Tl g' r := by
  obtain ⟨K, hK⟩ := h
  exact ⟨K, fun k hk => (e k).trans (hK k hk)⟩
theorem Tl.to {α : Type} {g : Nat → Option α} {r r' : α} (h : Tl g r) (e : r = r') : Tl g r' := e ▸ h
theorem Tl.ex {α : Type} {g : Nat → Option α} {r : α} (h : Tl g r) : ∃ k, g k = some r := by
  obtain ⟨K, hK⟩ := h
  exact ⟨K, hK K (Nat.le_refl _)⟩
theorem Tl.pos {α : Type} {c : Prop} [Decidable c] {g g' : Nat → Option α} {r : α} (hc : c) (h : Tl g r) : Tl (fun k => if c then g k else g' k) r := by
  simpa only [if_pos hc] using h
theorem Tl.neg {α : Type} {c : Prop} [Decidable c] {g g' : Nat → Option α} {r : α} (hc : ¬ c) (h : Tl g' r) : Tl (fun k => if c then g k else g' k) r := by
  simpa only [if_neg hc] using h
theorem Tl.ite {α : Type} {c : Prop} [Decidable c] {g g' : Nat → Option α} {r r' : α} (h : c → Tl g r) (h' : ¬ c → Tl g' r') : Tl (fun k => if c then g k else g' k) (if c then r else r') := by
  by_cases hc : c
  · simpa only [if_pos hc] using h hc
  · simpa only [if_neg hc] using h' hc

theorem w64 {x : Int} (h1 : -9223372036854775808 ≤ x) (h2 : x < 9223372036854775808) : wrap64 x = x := by
  unfold wrap64
  omega
theorem wf64 {x : Int} (h : (Lit.int .i64 x).wf = true) : -9223372036854775808 ≤ x ∧ x < 9223372036854775808 := by
  simp only [Lit.wf, IntKind.min, IntKind.max, IntKind.signed, IntKind.bits, Bool.and_eq_true, decide_eq_true_eq, if_true] at h
  omega
theorem mx_eq (a b : Int) : mx a b = max a b := by unfold mx; omega
theorem mn_eq (a b : Int) : mn a b = min a b := by unfold mn; omega
theorem rd_nat (xs : List Int) (i : Nat) : rd xs (i : Int) = xs.getD i 0 := by simp [rd]
theorem rd_lt {xs : List Int} {i : Nat} (h : i < xs.length) : rd xs (i : Int) = xs[i] := by rw [rd_nat, List.getD_eq_getElem?_getD, List.getElem?_eq_getElem h]; rfl
end Go.Proofs.Ytgndhijhcliegaa.E
/- Which weights are right; which amounts are made up, and by how few cartridges. -/
set_option linter.unusedVariables false
namespace Go.Proofs.Ytgndhijhcliegaa.Va
open Go.RowKit Go.Proofs.Ytgndhijhcliegaa.P Go.Proofs.Ytgndhijhcliegaa.E Go.Proofs.YtgndhijhcliegaaW.PrintMore
open Go.Proofs.YtgndhijhcliegaaW.PrintWords
theorem within_eq (a b c : Int) : charge_within.f a b c = some (decide (b ≤ a ∧ a ≤ c)) := by
  unfold charge_within.f
  by_cases h : a ≥ b
  · rw [if_pos h]; congr 1; exact decide_eq_decide.2 ⟨fun q => ⟨h, q⟩, fun q => q.2⟩
  · rw [if_neg h]; congr 1; exact (decide_eq_false (by omega)).symm
theorem rwithin_eq (a b c : Int) : diaphoneref07_within.f a b c = some (decide (b ≤ a ∧ a ≤ c)) := by
  unfold diaphoneref07_within.f
  by_cases h : a ≥ b
  · rw [if_pos h]; congr 1; exact decide_eq_decide.2 ⟨fun q => ⟨h, q⟩, fun q => q.2⟩
  · rw [if_neg h]; congr 1; exact (decide_eq_false (by omega)).symm
def Wk (w : List Int) (i : Nat) : Prop := (1 ≤ rd w (i : Int) ∧ rd w (i : Int) ≤ 30) ∧ (0 < i → rd w ((i : Int) - 1) < rd w (i : Int))
instance (w : List Int) (i : Nat) : Decidable (Wk w i) := by unfold Wk; infer_instance
def Ok (w : List Int) : Prop := (1 ≤ w.length ∧ w.length ≤ 4) ∧ ∀ i : Nat, i < w.length → Wk w i
def vc (w : List Int) : Int := if 1 ≤ w.length ∧ w.length ≤ 4 then (if ∀ i : Nat, i < w.length → Wk w i then 0 else 1) else 3
theorem vc_ok {w : List Int} : vc w = 0 ↔ Ok w := by
  unfold vc Ok
  by_cases h : 1 ≤ w.length ∧ w.length ≤ 4
  · rw [if_pos h]
    by_cases h2 : ∀ i : Nat, i < w.length → Wk w i
    · rw [if_pos h2]; exact ⟨fun _ => ⟨h, h2⟩, fun _ => rfl⟩
    · rw [if_neg h2]; exact ⟨fun q => by omega, fun q => absurd q.2 h2⟩
  · rw [if_neg h]; exact ⟨fun q => by omega, fun q => absurd q.1 h⟩
theorem ev_Validate (w : List Int) : Tl (fun k => charge_Validate.f k w) (vc w) := by
  unfold charge_Validate.f
  refine Tl.bind' (within_eq _ _ _) ?_
  by_cases h : 1 ≤ w.length ∧ w.length ≤ 4
  · refine Tl.pos (decide_eq_true (by omega)) ?_
    unfold vc
    rw [if_pos h]
    have loop : ∀ d i : Nat, i + d = w.length → (∀ j, j < i → Wk w j) → Tl (fun k => charge_Validate.l0 k w w (w.length : Int) (i : Int)) (if ∀ i : Nat, i < w.length → Wk w i then 0 else 1) := by
      intro d
      induction d with
      | zero =>
        intro i h1 h2
        refine Tl.succ ?_
        simp only [charge_Validate.l0]
        refine Tl.to (Tl.neg (by omega) Tl.now) (if_pos (fun j hj => h2 j (by omega))).symm
      | succ d ih =>
        intro i h1 h2
        refine Tl.succ ?_
        simp only [charge_Validate.l0]
        rw [w64 (x := (i : Int) + 1) (by omega) (by omega), w64 (x := (i : Int) - 1) (by omega) (by omega)]
        refine Tl.pos (by omega) (Tl.pos (by omega) (Tl.pos (by omega) (Tl.bind' (within_eq _ _ _) ?_)))
        have next : Wk w i → Tl (fun k => charge_Validate.l0 k w w (w.length : Int) ((i : Int) + 1)) (if ∀ i : Nat, i < w.length → Wk w i then 0 else 1) := fun q => ih (i + 1) (by omega) (fun j hj => by
          by_cases e : j = i
          · rw [e]; exact q
          · exact h2 j (by omega))
        by_cases c : 1 ≤ rd w (i : Int) ∧ rd w (i : Int) ≤ 30
        · refine Tl.pos (decide_eq_true c) ?_
          by_cases z : 0 < i
          · refine Tl.pos (by omega) (Tl.pos (by omega) (Tl.pos (by omega) ?_))
            by_cases c2 : rd w (i : Int) ≤ rd w ((i : Int) - 1)
            · exact Tl.to (Tl.pos c2 Tl.now) (if_neg (fun q => by have := (q i (by omega)).2 z; omega)).symm
            · exact Tl.neg c2 (next ⟨c, fun _ => by omega⟩)
          · exact Tl.neg (by omega) (next ⟨c, fun q => absurd q z⟩)
        · exact Tl.to (Tl.neg (by rw [decide_eq_true_eq]; exact c) Tl.now) (if_neg (fun q => c (q i (by omega)).1)).symm
    exact loop w.length 0 (by omega) (fun j hj => by omega)
  · exact Tl.to (Tl.neg (by rw [decide_eq_true_eq]; omega) Tl.now) (by unfold vc; rw [if_neg h])
theorem ev_rValidate (w : List Int) : Tl (fun k => diaphoneref07_Validate.f k w) (vc w) := by
  unfold diaphoneref07_Validate.f
  refine Tl.bind' (rwithin_eq _ _ _) ?_
  by_cases h : 1 ≤ w.length ∧ w.length ≤ 4
  · refine Tl.pos (decide_eq_true (by omega)) ?_
    unfold vc
    rw [if_pos h]
    have loop : ∀ d i : Nat, i + d = w.length → (∀ j, j < i → Wk w j) → Tl (fun k => diaphoneref07_Validate.l0 k w (i : Int)) (if ∀ i : Nat, i < w.length → Wk w i then 0 else 1) := by
      intro d
      induction d with
      | zero =>
        intro i h1 h2
        refine Tl.succ ?_
        simp only [diaphoneref07_Validate.l0]
        refine Tl.to (Tl.neg (by omega) Tl.now) (if_pos (fun j hj => h2 j (by omega))).symm
      | succ d ih =>
        intro i h1 h2
        refine Tl.succ ?_
        simp only [diaphoneref07_Validate.l0]
        rw [w64 (x := (i : Int) + 1) (by omega) (by omega), w64 (x := (i : Int) - 1) (by omega) (by omega)]
        refine Tl.pos (by omega) (Tl.pos (by omega) (Tl.bind' (rwithin_eq _ _ _) ?_))
        have next : Wk w i → Tl (fun k => diaphoneref07_Validate.l0 k w ((i : Int) + 1)) (if ∀ i : Nat, i < w.length → Wk w i then 0 else 1) := fun q => ih (i + 1) (by omega) (fun j hj => by
          by_cases e : j = i
          · rw [e]; exact q
          · exact h2 j (by omega))
        by_cases c : 1 ≤ rd w (i : Int) ∧ rd w (i : Int) ≤ 30
        · refine Tl.pos (decide_eq_true c) ?_
          by_cases z : 0 < i
          · refine Tl.pos (by omega) (Tl.pos (by omega) (Tl.pos (by omega) ?_))
            by_cases c2 : rd w ((i : Int) - 1) ≥ rd w (i : Int)
            · exact Tl.to (Tl.pos c2 Tl.now) (if_neg (fun q => by have := (q i (by omega)).2 z; omega)).symm
            · exact Tl.neg c2 (next ⟨c, fun _ => by omega⟩)
          · exact Tl.neg (by omega) (next ⟨c, fun q => absurd q z⟩)
        · exact Tl.to (Tl.neg (by rw [decide_eq_true_eq]; exact c) Tl.now) (if_neg (fun q => c (q i (by omega)).1)).symm
    exact loop w.length 0 (by omega) (fun j hj => by omega)
  · exact Tl.to (Tl.neg (by rw [decide_eq_true_eq]; omega) Tl.now) (by unfold vc; rw [if_neg h])
/-- An amount is made up by so many cartridges. -/
inductive Mk (w : List Int) : Nat → Nat → Prop
  | zero : Mk w 0 0
  | step {n c i : Nat} : i < w.length → Mk w n c → Mk w (n + (rd w (i : Int)).toNat) (c + 1)
theorem mk_inv {w : List Int} {n c : Nat} (h : Mk w n c) : (n = 0 ∧ c = 0) ∨ ∃ i m d, i < w.length ∧ Mk w m d ∧ n = m + (rd w (i : Int)).toNat ∧ c = d + 1 := by
  cases h with
  | zero => exact .inl ⟨rfl, rfl⟩
  | step hi hm => exact .inr ⟨_, _, _, hi, hm, rfl, rfl⟩
theorem mk_le {w : List Int} (hw : ∀ i : Nat, i < w.length → 1 ≤ rd w (i : Int)) {n c : Nat} (h : Mk w n c) : c ≤ n := by
  induction h with
  | zero => exact Nat.le_refl _
  | step hi _ ih => have := hw _ hi; omega
/-- The fewest cartridges that make up an amount, -1 where there are none. -/
def Few (w : List Int) (n : Nat) (v : Int) : Prop := (v = -1 ∧ ∀ c, ¬ Mk w n c) ∨ ∃ c : Nat, v = c ∧ Mk w n c ∧ ∀ c', Mk w n c' → c ≤ c'
theorem few_ex (w : List Int) (n : Nat) : ∃ v, Few w n v := by
  by_cases h : ∃ c, Mk w n c
  · obtain ⟨c, hc, hm⟩ := exists_least h
    exact ⟨c, .inr ⟨c, rfl, hc, hm⟩⟩
  · exact ⟨-1, .inl ⟨rfl, fun c q => h ⟨c, q⟩⟩⟩
noncomputable def fw (w : List Int) (n : Nat) : Int := Classical.choose (few_ex w n)
theorem fw_few (w : List Int) (n : Nat) : Few w n (fw w n) := Classical.choose_spec (few_ex w n)
theorem few_unique {w : List Int} {n : Nat} {u v : Int} (h : Few w n u) (k : Few w n v) : u = v := by
  rcases h with ⟨h1, h2⟩ | ⟨c, h1, h2, h3⟩ <;> rcases k with ⟨k1, k2⟩ | ⟨d, k1, k2, k3⟩
  · omega
  · exact absurd k2 (h2 d)
  · exact absurd h2 (k2 c)
  · have := h3 d k2; have := k3 c h2; omega
theorem fw_nonneg {w : List Int} {n : Nat} : 0 ≤ fw w n ↔ ∃ c, Mk w n c := by
  rcases fw_few w n with ⟨h1, h2⟩ | ⟨c, h1, h2, h3⟩
  · exact ⟨fun q => by omega, fun ⟨c, q⟩ => absurd q (h2 c)⟩
  · exact ⟨fun _ => ⟨c, h2⟩, fun _ => by omega⟩
theorem fw_ge {w : List Int} {n : Nat} : -1 ≤ fw w n := by
  rcases fw_few w n with ⟨h1, h2⟩ | ⟨c, h1, h2, h3⟩ <;> omega
theorem fw_le {w : List Int} (hw : ∀ i : Nat, i < w.length → 1 ≤ rd w (i : Int)) {n : Nat} : fw w n ≤ n := by
  rcases fw_few w n with ⟨h1, h2⟩ | ⟨c, h1, h2, h3⟩
  · omega
  · have := mk_le hw h2; omega
theorem fw_zero (w : List Int) : fw w 0 = 0 := few_unique (fw_few w 0) (.inr ⟨0, rfl, .zero, fun _ _ => Nat.zero_le _⟩)
/-- By the first weights as the last cartridge. -/
def FewI (w : List Int) (n i : Nat) (v : Int) : Prop := (v = -1 ∧ ∀ j m c, j < i → n = m + (rd w (j : Int)).toNat → ¬ Mk w m c) ∨
  ∃ c : Nat, v = ((c + 1 : Nat) : Int) ∧ (∃ j m, j < i ∧ n = m + (rd w (j : Int)).toNat ∧ Mk w m c) ∧ ∀ j m c', j < i → n = m + (rd w (j : Int)).toNat → Mk w m c' → c ≤ c'
theorem fewI_zero (w : List Int) (n : Nat) : FewI w n 0 (-1) := .inl ⟨rfl, fun j m c hj => by omega⟩
theorem fewI_few {w : List Int} {n : Nat} (hn : 1 ≤ n) {v : Int} (h : FewI w n w.length v) : Few w n v := by
  rcases h with ⟨h1, h2⟩ | ⟨c, h1, ⟨j, m, h2, h3, h4⟩, h5⟩
  · refine .inl ⟨h1, fun c q => ?_⟩
    rcases mk_inv q with q | ⟨i, m, d, q1, q2, q3, q4⟩
    · omega
    · exact h2 i m d q1 q3 q2
  · refine .inr ⟨c + 1, h1, ?_, fun c' q => ?_⟩
    · rw [h3]; exact .step h2 h4
    · rcases mk_inv q with q | ⟨i, m, d, q1, q2, q3, q4⟩
      · omega
      · have := h5 i m d q1 q3 q2; omega
theorem fewI_skip {w : List Int} {n i : Nat} {b : Int} (h : FewI w n i b) (hw : (n : Int) < rd w (i : Int)) : FewI w n (i + 1) b := by
  rcases h with ⟨h1, h2⟩ | ⟨c, h1, ⟨j, m, h2, h3, h4⟩, h5⟩
  · refine .inl ⟨h1, fun j m c hj hn => ?_⟩
    by_cases e : j = i
    · subst e; omega
    · exact h2 j m c (by omega) hn
  · refine .inr ⟨c, h1, ⟨j, m, by omega, h3, h4⟩, fun j m c' hj hn => ?_⟩
    by_cases e : j = i
    · subst e; omega
    · exact h5 j m c' (by omega) hn
theorem fewI_step {w : List Int} {n i m : Nat} {b f : Int} (h : FewI w n i b) (hf : Few w m f) (hn : n = m + (rd w (i : Int)).toNat) : FewI w n (i + 1) (if 0 ≤ f ∧ (b < 0 ∨ f + 1 < b) then f + 1 else b) := by
  rcases hf with ⟨f1, f2⟩ | ⟨d, f1, f2, f3⟩
  · rw [if_neg (by omega)]
    rcases h with ⟨h1, h2⟩ | ⟨c, h1, ⟨j, q, h2, h3, h4⟩, h5⟩
    · refine .inl ⟨h1, fun j q c hj hq => ?_⟩
      by_cases e : j = i
      · subst e; obtain rfl : q = m := by omega
        exact f2 c
      · exact h2 j q c (by omega) hq
    · refine .inr ⟨c, h1, ⟨j, q, by omega, h3, h4⟩, fun j q c' hj hq hm => ?_⟩
      by_cases e : j = i
      · subst e; obtain rfl : q = m := by omega
        exact absurd hm (f2 c')
      · exact h5 j q c' (by omega) hq hm
  · rcases h with ⟨h1, h2⟩ | ⟨c, h1, ⟨j, q, h2, h3, h4⟩, h5⟩
    · rw [if_pos (by omega)]
      refine .inr ⟨d, by omega, ⟨i, m, by omega, hn, f2⟩, fun j q c' hj hq hm => ?_⟩
      by_cases e : j = i
      · subst e; obtain rfl : q = m := by omega
        exact f3 c' hm
      · exact absurd hm (h2 j q c' (by omega) hq)
    · by_cases z : d < c
      · rw [if_pos (by omega)]
        refine .inr ⟨d, by omega, ⟨i, m, by omega, hn, f2⟩, fun j q c' hj hq hm => ?_⟩
        by_cases e : j = i
        · subst e; obtain rfl : q = m := by omega
          exact f3 c' hm
        · have := h5 j q c' (by omega) hq hm; omega
      · rw [if_neg (by omega)]
        refine .inr ⟨c, h1, ⟨j, q, by omega, h3, h4⟩, fun j q c' hj hq hm => ?_⟩
        by_cases e : j = i
        · subst e; obtain rfl : q = m := by omega
          have := f3 c' hm; omega
        · exact h5 j q c' (by omega) hq hm
/-- The fewest of the first amounts. -/
noncomputable def tab (w : List Int) (n : Nat) : List Int := (List.range n).map (fun (j : Nat) => fw w j)
theorem tab_length (w : List Int) (n : Nat) : (tab w n).length = n := by simp [tab]
theorem tab_rd {w : List Int} {n j : Nat} (h : j < n) : rd (tab w n) (j : Int) = fw w j := by
  rw [rd_lt (by rw [tab_length]; exact h)]; simp [tab]
theorem tab_succ (w : List Int) (n : Nat) : tab w (n + 1) = tab w n ++ [fw w n] := by simp [tab, List.range_succ]
/-- Weights for which the tables are told. -/
def Wt (w : List Int) : Prop := w.length ≤ 100 ∧ ∀ i : Nat, i < w.length → 1 ≤ rd w (i : Int) ∧ rd w (i : Int) ≤ 30
theorem Ok.wt {w : List Int} (h : Ok w) : Wt w := ⟨by have := h.1; omega, fun i hi => (h.2 i hi).1⟩
/-- Where the last cartridge's weight stands. -/
def By (w : List Int) (n : Nat) (v x : Int) : Prop := 0 ≤ v → ∃ i m : Nat, x = i ∧ i < w.length ∧ n = m + (rd w (i : Int)).toNat ∧ fw w m = v - 1
def LOk (w : List Int) (L : List Int) (n : Nat) : Prop := ∀ j : Nat, 1 ≤ j → j < n → By w j (fw w j) (rd L (j : Int))
theorem fill_in {w : List Int} (hw : Wt w) {most : Int} {n : Nat} (hn : 1 ≤ n ∧ n ≤ 100000) {L : List Int} (hL : L.length = n) (d : Nat) : ∀ (i : Nat) (b x : Int), i + d = w.length → FewI w n i b → b ≤ n → -1 ≤ b → By w n b x →
    ∃ b' x', FewI w n w.length b' ∧ By w n b' x' ∧ ∀ r, Tl (fun k => charge_fill.l0 k w most (tab w n ++ [b']) (L ++ [x'])) r → Tl (fun k => charge_fill.l1 k w most (n : Int) b x w (w.length : Int) (i : Int) (tab w n) L) r := by
  have hlen := tab_length w n
  have w2 := hw.1
  induction d with
  | zero =>
    intro i b x h1 h2 h3 h3' h4
    obtain rfl : i = w.length := by omega
    refine ⟨b, x, h2, h4, fun r hr => Tl.succ ?_⟩
    simp only [charge_fill.l1]
    exact Tl.neg (by omega) (Tl.bind' rfl (Tl.pos (by simp; omega) (Tl.bind' rfl (Tl.pos (by simp; omega) hr))))
  | succ d ih =>
    intro i b x h1 h2 h3 h3' h4
    have hi := hw.2 i (by omega)
    have ei : ((i + 1 : Nat) : Int) = (i : Int) + 1 := by omega
    by_cases c : rd w (i : Int) ≤ (n : Int)
    · obtain ⟨m, hm⟩ : ∃ m : Nat, n = m + (rd w (i : Int)).toNat := ⟨n - (rd w (i : Int)).toNat, by omega⟩
      have em : (n : Int) - rd w (i : Int) = (m : Int) := by omega
      have hf := fw_few w m
      have hst := fewI_step h2 hf hm
      have hfr := tab_rd (w := w) (n := n) (j := m) (by omega)
      have fle := fw_le (w := w) (fun i hi => (hw.2 i hi).1) (n := m)
      have hcan : charge_table_can.f (tab w n) L (m : Int) = some (decide (fw w m ≥ 0)) := by
        unfold charge_table_can.f
        rw [if_pos (by omega), if_pos (by omega), hfr]
      by_cases z : 0 ≤ fw w m ∧ (b < 0 ∨ fw w m + 1 < b)
      · rw [if_pos z] at hst
        obtain ⟨b', x', q1, q2, q3⟩ := ih (i + 1) (fw w m + 1) (i : Int) (by omega) hst (by omega) (by omega) (fun _ => ⟨i, m, rfl, by omega, hm, by omega⟩)
        refine ⟨b', x', q1, q2, fun r hr => ?_⟩
        have nx := q3 r hr
        rw [ei] at nx
        refine Tl.succ ?_
        simp only [charge_fill.l1]
        rw [w64 (x := (i : Int) + 1) (by omega) (by omega), w64 (x := (n : Int) - rd w (i : Int)) (by omega) (by omega), em, hfr, w64 (x := fw w m + 1) (by omega) (by omega)]
        refine Tl.pos (by omega) (Tl.pos (by omega) (Tl.pos (by omega) (Tl.pos c (Tl.bind' hcan (Tl.pos (decide_eq_true z.1) ?_)))))
        by_cases bz : b < 0
        · exact Tl.pos bz (Tl.pos (by omega) (Tl.pos (by omega) nx))
        · exact Tl.neg bz (Tl.pos (by omega) (Tl.pos (by omega) (Tl.pos (by omega) nx)))
      · rw [if_neg z] at hst
        obtain ⟨b', x', q1, q2, q3⟩ := ih (i + 1) b x (by omega) hst h3 h3' h4
        refine ⟨b', x', q1, q2, fun r hr => ?_⟩
        have nx := q3 r hr
        rw [ei] at nx
        refine Tl.succ ?_
        simp only [charge_fill.l1]
        rw [w64 (x := (i : Int) + 1) (by omega) (by omega), w64 (x := (n : Int) - rd w (i : Int)) (by omega) (by omega), em, hfr]
        refine Tl.pos (by omega) (Tl.pos (by omega) (Tl.pos (by omega) (Tl.pos c (Tl.bind' hcan ?_))))
        by_cases fz : 0 ≤ fw w m
        · refine Tl.pos (decide_eq_true fz) ?_
          rw [w64 (x := fw w m + 1) (by omega) (by omega)]
          exact Tl.neg (by omega) (Tl.pos (by omega) (Tl.pos (by omega) (Tl.neg (by omega) nx)))
        · exact Tl.neg (by rw [decide_eq_true_eq]; omega) nx
    · obtain ⟨b', x', q1, q2, q3⟩ := ih (i + 1) b x (by omega) (fewI_skip h2 (by omega)) h3 h3' h4
      refine ⟨b', x', q1, q2, fun r hr => ?_⟩
      have nx := q3 r hr
      rw [ei] at nx
      refine Tl.succ ?_
      simp only [charge_fill.l1]
      rw [w64 (x := (i : Int) + 1) (by omega) (by omega)]
      exact Tl.pos (by omega) (Tl.pos (by omega) (Tl.pos (by omega) (Tl.neg c nx)))
theorem fill_out {w : List Int} (hw : Wt w) {m : Nat} (hm : m ≤ 10000) (d : Nat) : ∀ (n : Nat) (L : List Int), 1 ≤ n → n + d = m + 1 → L.length = n → LOk w L n →
    ∃ L' : List Int, L'.length = m + 1 ∧ LOk w L' (m + 1) ∧ Tl (fun k => charge_fill.l0 k w (m : Int) (tab w n) L) (tab w (m + 1), L') := by
  induction d with
  | zero =>
    intro n L h1 h2 h3 h4
    obtain rfl : n = m + 1 := by omega
    refine ⟨L, h3, h4, Tl.succ ?_⟩
    simp only [charge_fill.l0]
    rw [tab_length]
    exact Tl.neg (by omega) Tl.now
  | succ d ih =>
    intro n L h1 h2 h3 h4
    obtain ⟨b, x, q1, q2, q3⟩ := fill_in hw (most := (m : Int)) ⟨h1, by omega⟩ h3 w.length 0 (-1) (-1) (by omega) (fewI_zero w n) (by omega) (by omega) (fun q => by omega)
    obtain rfl : b = fw w n := few_unique (fewI_few h1 q1) (fw_few w n)
    have hLx : LOk w (L ++ [x]) (n + 1) := by
      intro j j1 j2
      by_cases e : j = n
      · subst e
        rw [rd_lt (by simp; omega), List.getElem_append_right (by omega)]
        simpa [h3] using q2
      · have := h4 j j1 (by omega)
        rw [rd_lt (by omega)] at this
        rw [rd_lt (by simp; omega), List.getElem_append_left (by omega)]
        exact this
    obtain ⟨L', r1, r2, r3⟩ := ih (n + 1) (L ++ [x]) (by omega) (by omega) (by simp [h3]) hLx
    rw [tab_succ] at r3
    refine ⟨L', r1, r2, Tl.succ ?_⟩
    simp only [charge_fill.l0]
    rw [tab_length]
    exact Tl.pos (by omega) (q3 _ r3)
theorem tab_one (w : List Int) : tab w 1 = [0] := by simp [tab, fw_zero]
theorem ev_fill {w : List Int} (hw : Wt w) {m : Nat} (hm : m ≤ 10000) : ∃ L : List Int, L.length = m + 1 ∧ LOk w L (m + 1) ∧ Tl (fun k => charge_fill.f k w (m : Int)) (tab w (m + 1), L) := by
  have := fill_out hw hm m 1 [-1] (by omega) (by omega) rfl (fun j h1 h2 => by omega)
  rw [tab_one] at this
  exact this
/-- The document's table while it is made. -/
noncomputable def gt (w : List Int) (n : Nat) (b : Int) (m : Nat) : List Int := tab w n ++ (b :: List.replicate (m - n) 0)
theorem gt_length {w : List Int} {n m : Nat} {b : Int} (h : n ≤ m) : (gt w n b m).length = m + 1 := by simp [gt, tab_length]; omega
theorem gt_rd {w : List Int} {n m j : Nat} {b : Int} (h : j < n) (hn : n ≤ m) : rd (gt w n b m) (j : Int) = fw w j := by
  rw [rd_lt (by rw [gt_length hn]; omega)]
  unfold gt
  rw [List.getElem_append_left (by rw [tab_length]; exact h)]
  have := tab_rd (w := w) h
  rwa [rd_lt (by rw [tab_length]; exact h)] at this
theorem gt_at {w : List Int} {n m : Nat} {b : Int} (hn : n ≤ m) : rd (gt w n b m) (n : Int) = b := by
  rw [rd_lt (by rw [gt_length hn]; omega)]
  unfold gt
  rw [List.getElem_append_right (by rw [tab_length]; omega)]
  simp [tab_length]
theorem gt_set {w : List Int} {n m : Nat} {b v : Int} : (gt w n b m).set n v = gt w n v m := by
  unfold gt
  rw [List.set_append_right _ _ (by rw [tab_length]; omega), tab_length, Nat.sub_self]
  rfl
theorem gt_next {w : List Int} {n m : Nat} (hn : n < m) : gt w n (fw w n) m = gt w (n + 1) 0 m := by
  unfold gt
  rw [tab_succ, List.append_assoc, show m - n = (m - (n + 1)) + 1 by omega, List.replicate_succ]
  rfl
theorem gt_end {w : List Int} {m : Nat} : gt w m (fw w m) m = tab w (m + 1) := by
  unfold gt
  rw [tab_succ, Nat.sub_self]
  rfl
theorem few_in {w : List Int} (hw : Wt w) {m n : Nat} (hn : 1 ≤ n ∧ n ≤ m) (hm : m ≤ 10000) {r : List Int} (next : Tl (fun k => diaphoneref07_few.l0 k w (m : Int) (gt w n (fw w n) m) ((n : Int) + 1)) r) (d : Nat) :
    ∀ (i : Nat) (b : Int), i + d = w.length → FewI w n i b → b ≤ n → -1 ≤ b → Tl (fun k => diaphoneref07_few.l1 k w (m : Int) (gt w n b m) (n : Int) (i : Int)) r := by
  have w2 := hw.1
  induction d with
  | zero =>
    intro i b h1 h2 h3 h4
    obtain rfl : i = w.length := by omega
    obtain rfl : b = fw w n := few_unique (fewI_few hn.1 h2) (fw_few w n)
    refine Tl.succ ?_
    simp only [diaphoneref07_few.l1]
    rw [w64 (x := (n : Int) + 1) (by omega) (by omega)]
    exact Tl.neg (by omega) next
  | succ d ih =>
    intro i b h1 h2 h3 h4
    have hi := hw.2 i (by omega)
    have hlen := gt_length (w := w) (b := b) hn.2
    refine Tl.succ ?_
    simp only [diaphoneref07_few.l1]
    rw [w64 (x := (i : Int) + 1) (by omega) (by omega), show (i : Int) + 1 = ((i + 1 : Nat) : Int) by omega]
    refine Tl.pos (by omega) (Tl.pos (by omega) ?_)
    by_cases c : rd w (i : Int) ≤ (n : Int)
    · obtain ⟨q, hq⟩ : ∃ q : Nat, n = q + (rd w (i : Int)).toNat := ⟨n - (rd w (i : Int)).toNat, by omega⟩
      have em : (n : Int) - rd w (i : Int) = (q : Int) := by omega
      have hst := fewI_step h2 (fw_few w q) hq
      have fle := fw_le (w := w) (fun i hi => (hw.2 i hi).1) (n := q)
      rw [w64 (x := (n : Int) - rd w (i : Int)) (by omega) (by omega), em, gt_rd (by omega) hn.2, gt_at hn.2, Int.toNat_natCast]
      refine Tl.pos c (Tl.pos (by omega) (Tl.pos (by omega) ?_))
      by_cases fz : fw w q ≥ 0
      · rw [w64 (x := fw w q + 1) (by omega) (by omega), gt_set, w64 (x := b - 1) (by omega) (by omega)]
        refine Tl.pos fz (Tl.pos (by omega) (Tl.pos (by omega) ?_))
        by_cases bz : b < 0
        · rw [if_pos ⟨fz, .inl bz⟩] at hst
          exact Tl.pos bz (ih (i + 1) _ (by omega) hst (by omega) (by omega))
        · refine Tl.neg bz ?_
          by_cases lz : fw w q < b - 1
          · rw [if_pos ⟨fz, .inr (by omega)⟩] at hst
            exact Tl.pos lz (ih (i + 1) _ (by omega) hst (by omega) (by omega))
          · rw [if_neg (by omega)] at hst
            exact Tl.neg lz (ih (i + 1) _ (by omega) hst h3 h4)
      · rw [if_neg (by omega)] at hst
        exact Tl.neg fz (ih (i + 1) _ (by omega) hst h3 h4)
    · exact Tl.neg c (ih (i + 1) _ (by omega) (fewI_skip h2 (by omega)) h3 h4)
theorem few_out {w : List Int} (hw : Wt w) {m : Nat} (hm : m ≤ 10000) (d : Nat) : ∀ n : Nat, 1 ≤ n → n ≤ m → n + d = m → Tl (fun k => diaphoneref07_few.l0 k w (m : Int) (gt w n 0 m) (n : Int)) (tab w (m + 1)) := by
  induction d with
  | zero =>
    intro n h1 h2 h3
    obtain rfl : n = m := by omega
    have hlen := gt_length (w := w) (b := 0) h2
    refine Tl.succ ?_
    simp only [diaphoneref07_few.l0]
    rw [Int.toNat_natCast, gt_set]
    refine Tl.pos (by omega) (Tl.pos (by omega) (Tl.pos (by omega) ?_))
    refine few_in hw ⟨h1, h2⟩ hm (Tl.succ ?_) w.length 0 (-1) (by omega) (fewI_zero w n) (by omega) (by omega)
    simp only [diaphoneref07_few.l0]
    exact Tl.to (Tl.neg (by omega) Tl.now) gt_end
  | succ d ih =>
    intro n h1 h2 h3
    have hlen := gt_length (w := w) (b := 0) h2
    have next := ih (n + 1) (by omega) (by omega) (by omega)
    rw [← gt_next (by omega), show ((n + 1 : Nat) : Int) = (n : Int) + 1 by omega] at next
    refine Tl.succ ?_
    simp only [diaphoneref07_few.l0]
    rw [Int.toNat_natCast, gt_set]
    refine Tl.pos (by omega) (Tl.pos (by omega) (Tl.pos (by omega) ?_))
    exact few_in hw ⟨h1, h2⟩ hm next w.length 0 (-1) (by omega) (fewI_zero w n) (by omega) (by omega)
theorem ev_few {w : List Int} (hw : Wt w) {m : Nat} (hm : m ≤ 10000) : Tl (fun k => diaphoneref07_few.f k w (m : Int)) (tab w (m + 1)) := by
  unfold diaphoneref07_few.f
  rw [w64 (x := (m : Int) + 1) (by omega) (by omega), show ((m : Int) + 1).toNat = m + 1 by omega]
  refine Tl.pos (by omega) (Tl.pos (by omega) ?_)
  by_cases z : 1 ≤ m
  · have := few_out hw hm (m - 1) 1 (by omega) z (by omega)
    have e : gt w 1 0 m = List.replicate (m + 1) 0 := by
      unfold gt
      rw [tab_one, show m + 1 = ((m - 1) + 1) + 1 by omega, List.replicate_succ, List.replicate_succ]
      rfl
    rw [e] at this
    exact this
  · obtain rfl : m = 0 := by omega
    refine Tl.succ ?_
    simp only [diaphoneref07_few.l0]
    exact Tl.to (Tl.neg (by omega) Tl.now) (by rw [tab_one]; rfl)
end Go.Proofs.Ytgndhijhcliegaa.Va
