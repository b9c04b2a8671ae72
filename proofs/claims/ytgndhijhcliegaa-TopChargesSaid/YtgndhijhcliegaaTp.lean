/- What the last law of the chapter needs of the plain laws: what is made up, by how few, residues, gaps, ways, needless weights, one more weight. -/
import Derived.Test.YtgndhijhcliegaaWWords
import Derived.Test.YtgndhijhcliegaaWMore
import Derived.Deep.LoopGhost
import Derived.Test.YtgndhijhcliegaaPx1
import Derived.Test.YtgndhijhcliegaaPx14
import Derived.Test.YtgndhijhcliegaaPx28
import Derived.Test.YtgndhijhcliegaaPx27
import Derived.Test.YtgndhijhcliegaaPx29
import Derived.Test.YtgndhijhcliegaaPx21
import Derived.Test.YtgndhijhcliegaaPx27
import Derived.Test.YtgndhijhcliegaaPx31
import Derived.Test.YtgndhijhcliegaaPx16
import Derived.Test.YtgndhijhcliegaaPx22
import Derived.Test.YtgndhijhcliegaaPx24
import Derived.Test.YtgndhijhcliegaaPx22
set_option linter.unusedVariables false
namespace Go.Proofs.Ytgndhijhcliegaa.E
open Go.RowKit Go.Proofs.YtgndhijhcliegaaW.PrintWords Go.Proofs.YtgndhijhcliegaaW.PrintMore
/-- From some number of rounds on, g answers r. -/
def Tl {α : Type} (g : Nat → Option α) (r : α) : Prop := ∃ K, ∀ k, K ≤ k → g k = some r
theorem Tl.now {α : Type} {r : α} : Tl (fun _ => some r) r := ⟨0, fun _ _ => rfl⟩
theorem Tl.of {α : Type} {o : Option α} {r : α} (h : o = some r) : Tl (fun _ => o) r := ⟨0, fun _ _ => h⟩
theorem Tl.mono {α : Type} {g : Nat → Option α} {r : α} (hm : ∀ k, LeO (g k) (g (k + 1))) (k : Nat) (h : g k = some r) : Tl g r := ⟨k, fun _ hk => at_rounds hm hk h⟩
theorem Tl.succ {α : Type} {g : Nat → Option α} {r : α} (h : Tl (fun k => g (k + 1)) r) : Tl g r := by
  obtain ⟨K, hK⟩ := h
  refine ⟨K + 1, fun k hk => ?_⟩
  obtain ⟨m, rfl⟩ : ∃ m, k = m + 1 := ⟨k - 1, by omega⟩
  exact hK m (by omega)
theorem Tl.bind {α β : Type} {g : Nat → Option α} {f : Nat → α → Option β} {a : α} {r : β} (h : Tl g a) (hf : Tl (fun k => f k a) r) : Tl (fun k => (g k).bind (f k)) r := by
  obtain ⟨K, hK⟩ := h
  obtain ⟨L, hL⟩ := hf
  refine ⟨max K L, fun k hk => ?_⟩
  show (g k).bind (f k) = some r
  rw [hK k (by omega)]
  exact hL k (by omega)
theorem Tl.bind' {α β : Type} {o : Option α} {f : Nat → α → Option β} {a : α} {r : β} (h : o = some a) (hf : Tl (fun k => f k a) r) : Tl (fun k => o.bind (f k)) r := by
  rw [h]; exact hf
theorem Tl.congr {α : Type} {g g' : Nat → Option α} {r : α} (h : Tl g r) (e : ∀ k, g' k = g k) : Tl g' r := by
  obtain ⟨K, hK⟩ := h
  exact ⟨K, fun k hk => (e k).trans (hK k hk)⟩
theorem Tl.to {α : Type} {g : Nat → Option α} {r r' : α} (h : Tl g r) (e : r = r') : Tl g r' := e ▸ h
theorem Tl.ex {α : Type} {g : Nat → Option α} {r : α} (h : Tl g r) : ∃ k, g k = some r := by
  obtain ⟨K, hK⟩ := h
  exact ⟨K, hK K (Nat.le_refl _)⟩
theorem Tl.pos {α : Type} {c : Prop} [Decidable c] {g g' : Nat → Option α} {r : α} (hc : c) (h : Tl g r) : Tl (fun k => if c then g k else g' k) r := by
  simpa only [if_pos hc] using h
theorem Tl.neg {α : Type} {c : Prop} [Decidable c] {g g' : Nat → Option α} {r : α} (hc : ¬ c) (h : Tl g' r) : Tl (fun k => if c then g k else g' k) r := by
  simpa only [if_neg hc] using h
theorem Tl.ite {α : Type} {c : Prop} [Decidable c] {g g' : Nat → Option α} {r r' : α} (h : c → Tl g r) (h' : ¬ c → Tl g' r') : Tl (fun k => if c then g k else g' k) (if c then r else r') := by
  by_cases hc : c
  · simpa only [if_pos hc] using h hc
  · simpa only [if_neg hc] using h' hc
theorem w64 {x : Int} (h1 : -9223372036854775808 ≤ x) (h2 : x < 9223372036854775808) : wrap64 x = x := by
  unfold wrap64
  omega
theorem wf64 {x : Int} (h : (Lit.int .i64 x).wf = true) : -9223372036854775808 ≤ x ∧ x < 9223372036854775808 := by
  simp only [Lit.wf, IntKind.min, IntKind.max, IntKind.signed, IntKind.bits, Bool.and_eq_true, decide_eq_true_eq, if_true] at h
  omega
theorem mx_eq (a b : Int) : mx a b = max a b := by unfold mx; omega
theorem mn_eq (a b : Int) : mn a b = min a b := by unfold mn; omega
theorem rd_nat (xs : List Int) (i : Nat) : rd xs (i : Int) = xs.getD i 0 := by simp [rd]
theorem rd_lt {xs : List Int} {i : Nat} (h : i < xs.length) : rd xs (i : Int) = xs[i] := by rw [rd_nat, List.getD_eq_getElem?_getD, List.getElem?_eq_getElem h]; rfl
end Go.Proofs.Ytgndhijhcliegaa.E
namespace Go.Proofs.Ytgndhijhcliegaa.Va
open Go.RowKit Go.Proofs.Ytgndhijhcliegaa.P Go.Proofs.Ytgndhijhcliegaa.E Go.Proofs.YtgndhijhcliegaaW.PrintMore
open Go.Proofs.YtgndhijhcliegaaW.PrintWords
theorem within_eq (a b c : Int) : charge_within.f a b c = some (decide (b ≤ a ∧ a ≤ c)) := by
  unfold charge_within.f
  by_cases h : a ≥ b
  · rw [if_pos h]; congr 1; exact decide_eq_decide.2 ⟨fun q => ⟨h, q⟩, fun q => q.2⟩
  · rw [if_neg h]; congr 1; exact (decide_eq_false (by omega)).symm
def Wk (w : List Int) (i : Nat) : Prop := (1 ≤ rd w (i : Int) ∧ rd w (i : Int) ≤ 30) ∧ (0 < i → rd w ((i : Int) - 1) < rd w (i : Int))
instance (w : List Int) (i : Nat) : Decidable (Wk w i) := by unfold Wk; infer_instance
def Ok (w : List Int) : Prop := (1 ≤ w.length ∧ w.length ≤ 4) ∧ ∀ i : Nat, i < w.length → Wk w i
def vc (w : List Int) : Int := if 1 ≤ w.length ∧ w.length ≤ 4 then (if ∀ i : Nat, i < w.length → Wk w i then 0 else 1) else 3
theorem vc_ok {w : List Int} : vc w = 0 ↔ Ok w := by
  unfold vc Ok
  by_cases h : 1 ≤ w.length ∧ w.length ≤ 4
  · rw [if_pos h]
    by_cases h2 : ∀ i : Nat, i < w.length → Wk w i
    · rw [if_pos h2]; exact ⟨fun _ => ⟨h, h2⟩, fun _ => rfl⟩
    · rw [if_neg h2]; exact ⟨fun q => by omega, fun q => absurd q.2 h2⟩
  · rw [if_neg h]; exact ⟨fun q => by omega, fun q => absurd q.1 h⟩
theorem ev_Validate (w : List Int) : Tl (fun k => charge_Validate.f k w) (vc w) := by
  unfold charge_Validate.f
  refine Tl.bind' (within_eq _ _ _) ?_
  by_cases h : 1 ≤ w.length ∧ w.length ≤ 4
  · refine Tl.pos (decide_eq_true (by omega)) ?_
    unfold vc
    rw [if_pos h]
    have loop : ∀ d i : Nat, i + d = w.length → (∀ j, j < i → Wk w j) → Tl (fun k => charge_Validate.l0 k w w (w.length : Int) (i : Int)) (if ∀ i : Nat, i < w.length → Wk w i then 0 else 1) := by
      intro d
      induction d with
      | zero =>
        intro i h1 h2
        refine Tl.succ ?_
        simp only [charge_Validate.l0]
        refine Tl.to (Tl.neg (by omega) Tl.now) (if_pos (fun j hj => h2 j (by omega))).symm
      | succ d ih =>
        intro i h1 h2
        refine Tl.succ ?_
        simp only [charge_Validate.l0]
        rw [w64 (x := (i : Int) + 1) (by omega) (by omega), w64 (x := (i : Int) - 1) (by omega) (by omega)]
        refine Tl.pos (by omega) (Tl.pos (by omega) (Tl.pos (by omega) (Tl.bind' (within_eq _ _ _) ?_)))
        have next : Wk w i → Tl (fun k => charge_Validate.l0 k w w (w.length : Int) ((i : Int) + 1)) (if ∀ i : Nat, i < w.length → Wk w i then 0 else 1) := fun q => ih (i + 1) (by omega) (fun j hj => by
          by_cases e : j = i
          · rw [e]; exact q
          · exact h2 j (by omega))
        by_cases c : 1 ≤ rd w (i : Int) ∧ rd w (i : Int) ≤ 30
        · refine Tl.pos (decide_eq_true c) ?_
          by_cases z : 0 < i
          · refine Tl.pos (by omega) (Tl.pos (by omega) (Tl.pos (by omega) ?_))
            by_cases c2 : rd w (i : Int) ≤ rd w ((i : Int) - 1)
            · exact Tl.to (Tl.pos c2 Tl.now) (if_neg (fun q => by have := (q i (by omega)).2 z; omega)).symm
            · exact Tl.neg c2 (next ⟨c, fun _ => by omega⟩)
          · exact Tl.neg (by omega) (next ⟨c, fun q => absurd q z⟩)
        · exact Tl.to (Tl.neg (by rw [decide_eq_true_eq]; exact c) Tl.now) (if_neg (fun q => c (q i (by omega)).1)).symm
    exact loop w.length 0 (by omega) (fun j hj => by omega)
  · exact Tl.to (Tl.neg (by rw [decide_eq_true_eq]; omega) Tl.now) (by unfold vc; rw [if_neg h])
/-- An amount is made up by so many cartridges. -/
inductive Mk (w : List Int) : Nat → Nat → Prop
  | zero : Mk w 0 0
  | step {n c i : Nat} : i < w.length → Mk w n c → Mk w (n + (rd w (i : Int)).toNat) (c + 1)
theorem mk_inv {w : List Int} {n c : Nat} (h : Mk w n c) : (n = 0 ∧ c = 0) ∨ ∃ i m d, i < w.length ∧ Mk w m d ∧ n = m + (rd w (i : Int)).toNat ∧ c = d + 1 := by
  cases h with
  | zero => exact .inl ⟨rfl, rfl⟩
  | step hi hm => exact .inr ⟨_, _, _, hi, hm, rfl, rfl⟩
theorem mk_le {w : List Int} (hw : ∀ i : Nat, i < w.length → 1 ≤ rd w (i : Int)) {n c : Nat} (h : Mk w n c) : c ≤ n := by
  induction h with
  | zero => exact Nat.le_refl _
  | step hi _ ih => have := hw _ hi; omega
/-- The fewest cartridges that make up an amount, -1 where there are none. -/
def Few (w : List Int) (n : Nat) (v : Int) : Prop := (v = -1 ∧ ∀ c, ¬ Mk w n c) ∨ ∃ c : Nat, v = c ∧ Mk w n c ∧ ∀ c', Mk w n c' → c ≤ c'
theorem few_ex (w : List Int) (n : Nat) : ∃ v, Few w n v := by
  by_cases h : ∃ c, Mk w n c
  · obtain ⟨c, hc, hm⟩ := exists_least h
    exact ⟨c, .inr ⟨c, rfl, hc, hm⟩⟩
  · exact ⟨-1, .inl ⟨rfl, fun c q => h ⟨c, q⟩⟩⟩
noncomputable def fw (w : List Int) (n : Nat) : Int := Classical.choose (few_ex w n)
theorem fw_few (w : List Int) (n : Nat) : Few w n (fw w n) := Classical.choose_spec (few_ex w n)
theorem few_unique {w : List Int} {n : Nat} {u v : Int} (h : Few w n u) (k : Few w n v) : u = v := by
  rcases h with ⟨h1, h2⟩ | ⟨c, h1, h2, h3⟩ <;> rcases k with ⟨k1, k2⟩ | ⟨d, k1, k2, k3⟩
  · omega
  · exact absurd k2 (h2 d)
  · exact absurd h2 (k2 c)
  · have := h3 d k2; have := k3 c h2; omega
theorem fw_nonneg {w : List Int} {n : Nat} : 0 ≤ fw w n ↔ ∃ c, Mk w n c := by
  rcases fw_few w n with ⟨h1, h2⟩ | ⟨c, h1, h2, h3⟩
  · exact ⟨fun q => by omega, fun ⟨c, q⟩ => absurd q (h2 c)⟩
  · exact ⟨fun _ => ⟨c, h2⟩, fun _ => by omega⟩
theorem fw_ge {w : List Int} {n : Nat} : -1 ≤ fw w n := by
  rcases fw_few w n with ⟨h1, h2⟩ | ⟨c, h1, h2, h3⟩ <;> omega
theorem fw_le {w : List Int} (hw : ∀ i : Nat, i < w.length → 1 ≤ rd w (i : Int)) {n : Nat} : fw w n ≤ n := by
  rcases fw_few w n with ⟨h1, h2⟩ | ⟨c, h1, h2, h3⟩
  · omega
  · have := mk_le hw h2; omega
theorem fw_zero (w : List Int) : fw w 0 = 0 := few_unique (fw_few w 0) (.inr ⟨0, rfl, .zero, fun _ _ => Nat.zero_le _⟩)
/-- By the first weights as the last cartridge. -/
def FewI (w : List Int) (n i : Nat) (v : Int) : Prop := (v = -1 ∧ ∀ j m c, j < i → n = m + (rd w (j : Int)).toNat → ¬ Mk w m c) ∨
  ∃ c : Nat, v = ((c + 1 : Nat) : Int) ∧ (∃ j m, j < i ∧ n = m + (rd w (j : Int)).toNat ∧ Mk w m c) ∧ ∀ j m c', j < i → n = m + (rd w (j : Int)).toNat → Mk w m c' → c ≤ c'
theorem fewI_zero (w : List Int) (n : Nat) : FewI w n 0 (-1) := .inl ⟨rfl, fun j m c hj => by omega⟩
theorem fewI_few {w : List Int} {n : Nat} (hn : 1 ≤ n) {v : Int} (h : FewI w n w.length v) : Few w n v := by
  rcases h with ⟨h1, h2⟩ | ⟨c, h1, ⟨j, m, h2, h3, h4⟩, h5⟩
  · refine .inl ⟨h1, fun c q => ?_⟩
    rcases mk_inv q with q | ⟨i, m, d, q1, q2, q3, q4⟩
    · omega
    · exact h2 i m d q1 q3 q2
  · refine .inr ⟨c + 1, h1, ?_, fun c' q => ?_⟩
    · rw [h3]; exact .step h2 h4
    · rcases mk_inv q with q | ⟨i, m, d, q1, q2, q3, q4⟩
      · omega
      · have := h5 i m d q1 q3 q2; omega
theorem fewI_skip {w : List Int} {n i : Nat} {b : Int} (h : FewI w n i b) (hw : (n : Int) < rd w (i : Int)) : FewI w n (i + 1) b := by
  rcases h with ⟨h1, h2⟩ | ⟨c, h1, ⟨j, m, h2, h3, h4⟩, h5⟩
  · refine .inl ⟨h1, fun j m c hj hn => ?_⟩
    by_cases e : j = i
    · subst e; omega
    · exact h2 j m c (by omega) hn
  · refine .inr ⟨c, h1, ⟨j, m, by omega, h3, h4⟩, fun j m c' hj hn => ?_⟩
    by_cases e : j = i
    · subst e; omega
    · exact h5 j m c' (by omega) hn
theorem fewI_step {w : List Int} {n i m : Nat} {b f : Int} (h : FewI w n i b) (hf : Few w m f) (hn : n = m + (rd w (i : Int)).toNat) : FewI w n (i + 1) (if 0 ≤ f ∧ (b < 0 ∨ f + 1 < b) then f + 1 else b) := by
  rcases hf with ⟨f1, f2⟩ | ⟨d, f1, f2, f3⟩
  · rw [if_neg (by omega)]
    rcases h with ⟨h1, h2⟩ | ⟨c, h1, ⟨j, q, h2, h3, h4⟩, h5⟩
    · refine .inl ⟨h1, fun j q c hj hq => ?_⟩
      by_cases e : j = i
      · subst e; obtain rfl : q = m := by omega
        exact f2 c
      · exact h2 j q c (by omega) hq
    · refine .inr ⟨c, h1, ⟨j, q, by omega, h3, h4⟩, fun j q c' hj hq hm => ?_⟩
      by_cases e : j = i
      · subst e; obtain rfl : q = m := by omega
        exact absurd hm (f2 c')
      · exact h5 j q c' (by omega) hq hm
  · rcases h with ⟨h1, h2⟩ | ⟨c, h1, ⟨j, q, h2, h3, h4⟩, h5⟩
    · rw [if_pos (by omega)]
      refine .inr ⟨d, by omega, ⟨i, m, by omega, hn, f2⟩, fun j q c' hj hq hm => ?_⟩
      by_cases e : j = i
      · subst e; obtain rfl : q = m := by omega
        exact f3 c' hm
      · exact absurd hm (h2 j q c' (by omega) hq)
    · by_cases z : d < c
      · rw [if_pos (by omega)]
        refine .inr ⟨d, by omega, ⟨i, m, by omega, hn, f2⟩, fun j q c' hj hq hm => ?_⟩
        by_cases e : j = i
        · subst e; obtain rfl : q = m := by omega
          exact f3 c' hm
        · have := h5 j q c' (by omega) hq hm; omega
      · rw [if_neg (by omega)]
        refine .inr ⟨c, h1, ⟨j, q, by omega, h3, h4⟩, fun j q c' hj hq hm => ?_⟩
        by_cases e : j = i
        · subst e; obtain rfl : q = m := by omega
          have := f3 c' hm; omega
        · exact h5 j q c' (by omega) hq hm
/-- The fewest of the first amounts. -/
noncomputable def tab (w : List Int) (n : Nat) : List Int := (List.range n).map (fun (j : Nat) => fw w j)
theorem tab_length (w : List Int) (n : Nat) : (tab w n).length = n := by simp [tab]
theorem tab_rd {w : List Int} {n j : Nat} (h : j < n) : rd (tab w n) (j : Int) = fw w j := by
  rw [rd_lt (by rw [tab_length]; exact h)]; simp [tab]
theorem tab_succ (w : List Int) (n : Nat) : tab w (n + 1) = tab w n ++ [fw w n] := by simp [tab, List.range_succ]
/-- Weights for which the tables are told. -/
def Wt (w : List Int) : Prop := w.length ≤ 100 ∧ ∀ i : Nat, i < w.length → 1 ≤ rd w (i : Int) ∧ rd w (i : Int) ≤ 30
theorem Ok.wt {w : List Int} (h : Ok w) : Wt w := ⟨by have := h.1; omega, fun i hi => (h.2 i hi).1⟩
/-- Where the last cartridge's weight stands. -/
def By (w : List Int) (n : Nat) (v x : Int) : Prop := 0 ≤ v → ∃ i m : Nat, x = i ∧ i < w.length ∧ n = m + (rd w (i : Int)).toNat ∧ fw w m = v - 1
def LOk (w : List Int) (L : List Int) (n : Nat) : Prop := ∀ j : Nat, 1 ≤ j → j < n → By w j (fw w j) (rd L (j : Int))
theorem fill_in {w : List Int} (hw : Wt w) {most : Int} {n : Nat} (hn : 1 ≤ n ∧ n ≤ 100000) {L : List Int} (hL : L.length = n) (d : Nat) : ∀ (i : Nat) (b x : Int), i + d = w.length → FewI w n i b → b ≤ n → -1 ≤ b → By w n b x →
    ∃ b' x', FewI w n w.length b' ∧ By w n b' x' ∧ ∀ r, Tl (fun k => charge_fill.l0 k w most (tab w n ++ [b']) (L ++ [x'])) r → Tl (fun k => charge_fill.l1 k w most (n : Int) b x w (w.length : Int) (i : Int) (tab w n) L) r := by
  have hlen := tab_length w n
  have w2 := hw.1
  induction d with
  | zero =>
    intro i b x h1 h2 h3 h3' h4
    obtain rfl : i = w.length := by omega
    refine ⟨b, x, h2, h4, fun r hr => Tl.succ ?_⟩
    simp only [charge_fill.l1]
    exact Tl.neg (by omega) (Tl.bind' rfl (Tl.pos (by simp; omega) (Tl.bind' rfl (Tl.pos (by simp; omega) hr))))
  | succ d ih =>
    intro i b x h1 h2 h3 h3' h4
    have hi := hw.2 i (by omega)
    have ei : ((i + 1 : Nat) : Int) = (i : Int) + 1 := by omega
    by_cases c : rd w (i : Int) ≤ (n : Int)
    · obtain ⟨m, hm⟩ : ∃ m : Nat, n = m + (rd w (i : Int)).toNat := ⟨n - (rd w (i : Int)).toNat, by omega⟩
      have em : (n : Int) - rd w (i : Int) = (m : Int) := by omega
      have hf := fw_few w m
      have hst := fewI_step h2 hf hm
      have hfr := tab_rd (w := w) (n := n) (j := m) (by omega)
      have fle := fw_le (w := w) (fun i hi => (hw.2 i hi).1) (n := m)
      have hcan : charge_table_can.f (tab w n) L (m : Int) = some (decide (fw w m ≥ 0)) := by
        unfold charge_table_can.f
        rw [if_pos (by omega), if_pos (by omega), hfr]
      by_cases z : 0 ≤ fw w m ∧ (b < 0 ∨ fw w m + 1 < b)
      · rw [if_pos z] at hst
        obtain ⟨b', x', q1, q2, q3⟩ := ih (i + 1) (fw w m + 1) (i : Int) (by omega) hst (by omega) (by omega) (fun _ => ⟨i, m, rfl, by omega, hm, by omega⟩)
        refine ⟨b', x', q1, q2, fun r hr => ?_⟩
        have nx := q3 r hr
        rw [ei] at nx
        refine Tl.succ ?_
        simp only [charge_fill.l1]
        rw [w64 (x := (i : Int) + 1) (by omega) (by omega), w64 (x := (n : Int) - rd w (i : Int)) (by omega) (by omega), em, hfr, w64 (x := fw w m + 1) (by omega) (by omega)]
        refine Tl.pos (by omega) (Tl.pos (by omega) (Tl.pos (by omega) (Tl.pos c (Tl.bind' hcan (Tl.pos (decide_eq_true z.1) ?_)))))
        by_cases bz : b < 0
        · exact Tl.pos bz (Tl.pos (by omega) (Tl.pos (by omega) nx))
        · exact Tl.neg bz (Tl.pos (by omega) (Tl.pos (by omega) (Tl.pos (by omega) nx)))
      · rw [if_neg z] at hst
        obtain ⟨b', x', q1, q2, q3⟩ := ih (i + 1) b x (by omega) hst h3 h3' h4
        refine ⟨b', x', q1, q2, fun r hr => ?_⟩
        have nx := q3 r hr
        rw [ei] at nx
        refine Tl.succ ?_
        simp only [charge_fill.l1]
        rw [w64 (x := (i : Int) + 1) (by omega) (by omega), w64 (x := (n : Int) - rd w (i : Int)) (by omega) (by omega), em, hfr]
        refine Tl.pos (by omega) (Tl.pos (by omega) (Tl.pos (by omega) (Tl.pos c (Tl.bind' hcan ?_))))
        by_cases fz : 0 ≤ fw w m
        · refine Tl.pos (decide_eq_true fz) ?_
          rw [w64 (x := fw w m + 1) (by omega) (by omega)]
          exact Tl.neg (by omega) (Tl.pos (by omega) (Tl.pos (by omega) (Tl.neg (by omega) nx)))
        · exact Tl.neg (by rw [decide_eq_true_eq]; omega) nx
    · obtain ⟨b', x', q1, q2, q3⟩ := ih (i + 1) b x (by omega) (fewI_skip h2 (by omega)) h3 h3' h4
      refine ⟨b', x', q1, q2, fun r hr => ?_⟩
      have nx := q3 r hr
      rw [ei] at nx
      refine Tl.succ ?_
      simp only [charge_fill.l1]
      rw [w64 (x := (i : Int) + 1) (by omega) (by omega)]
      exact Tl.pos (by omega) (Tl.pos (by omega) (Tl.pos (by omega) (Tl.neg c nx)))
theorem fill_out {w : List Int} (hw : Wt w) {m : Nat} (hm : m ≤ 10000) (d : Nat) : ∀ (n : Nat) (L : List Int), 1 ≤ n → n + d = m + 1 → L.length = n → LOk w L n →
    ∃ L' : List Int, L'.length = m + 1 ∧ LOk w L' (m + 1) ∧ Tl (fun k => charge_fill.l0 k w (m : Int) (tab w n) L) (tab w (m + 1), L') := by
  induction d with
  | zero =>
    intro n L h1 h2 h3 h4
    obtain rfl : n = m + 1 := by omega
    refine ⟨L, h3, h4, Tl.succ ?_⟩
    simp only [charge_fill.l0]
    rw [tab_length]
    exact Tl.neg (by omega) Tl.now
  | succ d ih =>
    intro n L h1 h2 h3 h4
    obtain ⟨b, x, q1, q2, q3⟩ := fill_in hw (most := (m : Int)) ⟨h1, by omega⟩ h3 w.length 0 (-1) (-1) (by omega) (fewI_zero w n) (by omega) (by omega) (fun q => by omega)
    obtain rfl : b = fw w n := few_unique (fewI_few h1 q1) (fw_few w n)
    have hLx : LOk w (L ++ [x]) (n + 1) := by
      intro j j1 j2
      by_cases e : j = n
      · subst e
        rw [rd_lt (by simp; omega), List.getElem_append_right (by omega)]
        simpa [h3] using q2
      · have := h4 j j1 (by omega)
        rw [rd_lt (by omega)] at this
        rw [rd_lt (by simp; omega), List.getElem_append_left (by omega)]
        exact this
    obtain ⟨L', r1, r2, r3⟩ := ih (n + 1) (L ++ [x]) (by omega) (by omega) (by simp [h3]) hLx
    rw [tab_succ] at r3
    refine ⟨L', r1, r2, Tl.succ ?_⟩
    simp only [charge_fill.l0]
    rw [tab_length]
    exact Tl.pos (by omega) (q3 _ r3)
theorem tab_one (w : List Int) : tab w 1 = [0] := by simp [tab, fw_zero]
theorem ev_fill {w : List Int} (hw : Wt w) {m : Nat} (hm : m ≤ 10000) : ∃ L : List Int, L.length = m + 1 ∧ LOk w L (m + 1) ∧ Tl (fun k => charge_fill.f k w (m : Int)) (tab w (m + 1), L) := by
  have := fill_out hw hm m 1 [-1] (by omega) (by omega) rfl (fun j h1 h2 => by omega)
  rw [tab_one] at this
  exact this
end Go.Proofs.Ytgndhijhcliegaa.Va
namespace Go.Proofs.Ytgndhijhcliegaa.Kn
open Go.RowKit Go.Proofs.Ytgndhijhcliegaa.P Go.Proofs.Ytgndhijhcliegaa.E Go.Proofs.Ytgndhijhcliegaa.Va Go.Proofs.YtgndhijhcliegaaW.PrintMore
open Go.Proofs.YtgndhijhcliegaaW.PrintWords
theorem fl_congr {p q : Int → Bool} {n : Nat} (h : ∀ j : Nat, j < n → p j = q j) : charge_where.fl p n = charge_where.fl q n := by
  induction n with
  | zero => rfl
  | succ n ih => rw [charge_where.fl_succ, charge_where.fl_succ, ih (fun j hj => h j (by omega)), h n (by omega)]
/-- What gaps and where come to. -/
theorem ev_gaps {w : List Int} (hw : Wt w) : Tl (fun k => charge_gaps.f k w) (charge_where.fl (fun n => decide (fw w n.toNat < 0)) 901) := by
  obtain ⟨L, hL, _, hf⟩ := ev_fill hw (show 900 ≤ 10000 by omega)
  unfold charge_gaps.f
  obtain ⟨T, hT⟩ : ∃ T, T = tab w (900 + 1) := ⟨_, rfl⟩
  rw [← hT] at hf
  have hl : 900 < T.length := by rw [hT, tab_length]; omega
  have he : charge_where.fl (fun n => !decide (rd T n ≥ 0)) 901 = charge_where.fl (fun n => decide (fw w n.toNat < 0)) 901 := by
    refine fl_congr (fun j hj => ?_)
    rw [hT, tab_rd (by omega), Int.toNat_natCast]
    by_cases c : fw w j < 0
    · rw [decide_eq_true c, decide_eq_false (by omega)]; rfl
    · rw [decide_eq_false c, decide_eq_true (by omega)]; rfl
  rw [← he]
  exact Tl.bind hf (Tl.pos hl Tl.now)
theorem where_tab {w : List Int} {L : List Int} {m : Nat} (hm : m ≤ 1000) : charge_where.f (m : Int) (tab w (m + 1)) L = some (charge_where.fl (fun n => decide (0 ≤ fw w n.toNat)) (m + 1)) := by
  unfold charge_where.f
  rw [if_pos ⟨by omega, by omega, by rw [tab_length]; omega⟩, Int.toNat_natCast]
  congr 1
  refine fl_congr (fun j hj => ?_)
  rw [tab_rd (by omega), Int.toNat_natCast]
/-- Lists that are too long for a statement. -/
theorem ev_Long1 (w : List Int) : Tl (fun k => diaphonelaw07_Long.f k [w]) (decide ((w.length : Int) > 50)) := by
  unfold diaphonelaw07_Long.f
  refine Tl.succ ?_
  simp only [diaphonelaw07_Long.l0]
  have e : rd_L1 [w] 0 = w := rfl
  rw [e]
  refine Tl.pos (by simp) (Tl.pos (by omega) ?_)
  by_cases c : (w.length : Int) > 50
  · exact Tl.to (Tl.pos c Tl.now) (decide_eq_true c).symm
  · refine Tl.neg c (Tl.succ ?_)
    simp only [diaphonelaw07_Long.l0]
    exact Tl.to (Tl.neg (by unfold wrap64; simp) Tl.now) (decide_eq_false c).symm
end Go.Proofs.Ytgndhijhcliegaa.Kn
namespace Go.Proofs.Ytgndhijhcliegaa.Me
open Go.RowKit Go.Proofs.Ytgndhijhcliegaa.P Go.Proofs.Ytgndhijhcliegaa.E Go.Proofs.Ytgndhijhcliegaa.Va Go.Proofs.Ytgndhijhcliegaa.Kn Go.Proofs.YtgndhijhcliegaaW.PrintMore
open Go.Proofs.YtgndhijhcliegaaW.PrintWords
/-- The errors of weights and an amount. -/
def ac (w : List Int) (a : Int) : Int := if vc w = 0 then (if 0 ≤ a ∧ a ≤ 2000 then 0 else 1) else vc w
theorem ac_ok {w : List Int} {a : Int} : ac w a = 0 ↔ Ok w ∧ 0 ≤ a ∧ a ≤ 2000 := by
  unfold ac
  by_cases h : vc w = 0
  · rw [if_pos h]
    by_cases c : 0 ≤ a ∧ a ≤ 2000
    · rw [if_pos c]; exact ⟨fun _ => ⟨vc_ok.1 h, c⟩, fun _ => rfl⟩
    · rw [if_neg c]; exact ⟨fun q => by omega, fun q => absurd q.2 c⟩
  · rw [if_neg h]; exact ⟨fun q => absurd q h, fun q => absurd (vc_ok.2 q.1) h⟩
theorem ev_amounted (w : List Int) (a : Int) : Tl (fun k => charge_amounted.f k w a) (ac w a) := by
  unfold charge_amounted.f
  refine Tl.bind (ev_Validate w) ?_
  by_cases h : vc w = 0
  · have e : ac w a = if 0 ≤ a ∧ a ≤ 2000 then 0 else 1 := by unfold ac; rw [if_pos h]
    refine Tl.pos h (Tl.bind' (within_eq _ _ _) ?_)
    by_cases c : 0 ≤ a ∧ a ≤ 2000
    · rw [e, if_pos c]; exact Tl.pos (decide_eq_true c) Tl.now
    · rw [e, if_neg c]; exact Tl.neg (by rw [decide_eq_true_eq]; exact c) Tl.now
  · have e : ac w a = vc w := by unfold ac; rw [if_neg h]
    rw [e]; exact Tl.neg h Tl.now
noncomputable def cc (w : List Int) (a : Int) : Bool × Int := if ac w a = 0 then (decide (fw w a.toNat ≥ 0), 0) else (false, ac w a)
theorem can_tab {w L : List Int} {m : Nat} : charge_table_can.f (tab w (m + 1)) L (m : Int) = some (decide (fw w m ≥ 0)) := by
  unfold charge_table_can.f
  rw [if_pos (by omega), if_pos (by rw [tab_length]; omega), tab_rd (by omega)]
theorem ev_Can (w : List Int) (a : Int) : Tl (fun k => charge_Can.f k w a) (cc w a) := by
  unfold charge_Can.f cc
  refine Tl.bind (ev_amounted w a) ?_
  by_cases h : ac w a = 0
  · rw [if_pos h]
    have hk := ac_ok.1 h
    obtain ⟨m, rfl⟩ : ∃ m : Nat, a = (m : Int) := ⟨a.toNat, by omega⟩
    obtain ⟨L, _, _, hf⟩ := ev_fill hk.1.wt (show m ≤ 10000 by omega)
    rw [Int.toNat_natCast]
    exact Tl.pos h (Tl.bind hf (Tl.bind' can_tab Tl.now))
  · rw [if_neg h]; exact Tl.neg h Tl.now
noncomputable def fc (w : List Int) (a : Int) : Int × Bool × Int := if ac w a = 0 then (if fw w a.toNat ≥ 0 then (fw w a.toNat, true, 0) else (0, false, 0)) else (0, false, ac w a)
theorem ev_Fewest (w : List Int) (a : Int) : Tl (fun k => charge_Fewest.f k w a) (fc w a) := by
  unfold charge_Fewest.f fc
  refine Tl.bind (ev_amounted w a) ?_
  by_cases h : ac w a = 0
  · rw [if_pos h]
    have hk := ac_ok.1 h
    obtain ⟨m, rfl⟩ : ∃ m : Nat, a = (m : Int) := ⟨a.toNat, by omega⟩
    obtain ⟨L, _, _, hf⟩ := ev_fill hk.1.wt (show m ≤ 10000 by omega)
    rw [Int.toNat_natCast]
    refine Tl.pos h (Tl.bind hf (Tl.bind' can_tab ?_))
    by_cases c : fw w m ≥ 0
    · rw [if_pos c]
      have hl := tab_length w (m + 1)
      have hr := tab_rd (w := w) (n := m + 1) (j := m) (by omega)
      refine Tl.pos (decide_eq_true c) (Tl.pos (by omega) (Tl.pos ?_ (Tl.to Tl.now ?_)))
      · show (m : Int) < ((tab w (m + 1)).length : Int); omega
      · show (rd (tab w (m + 1)) (m : Int), true, (0 : Int)) = _; rw [hr]
    · rw [if_neg c]
      exact Tl.neg (by rw [decide_eq_true_eq]; exact c) Tl.now
  · rw [if_neg h]; exact Tl.neg h Tl.now
/-- The greatest common divisor of the first weights. -/
def mg (w : List Int) : Nat → Nat
  | 0 => 0
  | i + 1 => Nat.gcd (mg w i) (rd w (i : Int)).toNat
theorem mg_dvd {w : List Int} : ∀ (i j : Nat), j < i → mg w i ∣ (rd w (j : Int)).toNat := by
  intro i
  induction i with
  | zero => intro j hj; omega
  | succ i ih =>
    intro j hj
    by_cases e : j = i
    · subst e; exact Nat.gcd_dvd_right _ _
    · exact Nat.dvd_trans (Nat.gcd_dvd_left _ _) (ih j (by omega))
theorem dvd_mg {w : List Int} {d : Nat} : ∀ i : Nat, (∀ j, j < i → d ∣ (rd w (j : Int)).toNat) → d ∣ mg w i := by
  intro i
  induction i with
  | zero => intro _; exact Nat.dvd_zero _
  | succ i ih =>
    intro h
    exact Nat.dvd_gcd (ih (fun j hj => h j (by omega))) (h i (by omega))
theorem mg_range {w : List Int} (ok : Ok w) : 1 ≤ mg w w.length ∧ mg w w.length ≤ 30 := by
  have h0 := (ok.2 0 (by have := ok.1; omega)).1
  have hd := mg_dvd (w := w) w.length 0 (by have := ok.1; omega)
  have hp : 0 < (rd w ((0 : Nat) : Int)).toNat := by omega
  exact ⟨Nat.pos_of_dvd_of_pos hd hp, by have := Nat.le_of_dvd hp hd; omega⟩
theorem mk_mg {w : List Int} {n c : Nat} (h : Mk w n c) : mg w w.length ∣ n := by
  induction h with
  | zero => exact Nat.dvd_zero _
  | step hi _ ih => exact Nat.dvd_add ih (mg_dvd _ _ hi)
theorem ev_measure {w : List Int} (hw : Wt w) : Tl (fun k => charge_measure.f k w) (mg w w.length : Int) := by
  have w2 := hw.1
  have inner : ∀ (i : Nat) (r : Int) (b a : Nat), Tl (fun k => charge_measure.l0 k (Nat.gcd a b : Int) w (w.length : Int) (wrap64 ((i : Int) + 1))) r → Tl (fun k => charge_measure.l1 k (a : Int) (b : Int) w (w.length : Int) (i : Int)) r := by
    intro i r b
    induction b using Nat.strongRecOn with
    | _ b ih =>
      intro a next
      refine Tl.succ ?_
      simp only [charge_measure.l1]
      by_cases z : b = 0
      · subst z
        rw [Nat.gcd_zero_right] at next
        exact Tl.pos rfl next
      · refine Tl.neg (by omega) ?_
        rw [Int.tmod_eq_emod_of_nonneg (by omega), ← Int.natCast_emod]
        refine ih (a % b) (Nat.mod_lt _ (by omega)) b ?_
        rw [show Nat.gcd b (a % b) = Nat.gcd a b by rw [Nat.gcd_comm b, ← Nat.gcd_rec, Nat.gcd_comm]]
        exact next
  have loop : ∀ d i : Nat, i + d = w.length → Tl (fun k => charge_measure.l0 k (mg w i : Int) w (w.length : Int) (i : Int)) (mg w w.length : Int) := by
    intro d
    induction d with
    | zero =>
      intro i h
      obtain rfl : i = w.length := by omega
      refine Tl.succ ?_
      simp only [charge_measure.l0]
      exact Tl.neg (by omega) Tl.now
    | succ d ih =>
      intro i h
      have hi := hw.2 i (by omega)
      have next := ih (i + 1) (by omega)
      rw [show ((i + 1 : Nat) : Int) = (i : Int) + 1 by omega, ← w64 (x := (i : Int) + 1) (by omega) (by omega)] at next
      refine Tl.succ ?_
      simp only [charge_measure.l0]
      refine Tl.pos (by omega) (Tl.pos (by omega) (Tl.pos (by omega) ?_))
      have := inner i _ (rd w (i : Int)).toNat (mg w i) next
      rw [Int.toNat_of_nonneg (by omega)] at this
      exact this
  exact loop w.length 0 (by omega)
theorem mk_add {w : List Int} {a b c d : Nat} (h : Mk w a c) (k : Mk w b d) : Mk w (a + b) (c + d) := by
  induction k with
  | zero => exact h
  | step hi _ ih => rw [← Nat.add_assoc, ← Nat.add_assoc]; exact Mk.step hi ih
end Go.Proofs.Ytgndhijhcliegaa.Me
namespace Go.Proofs.Ytgndhijhcliegaa.Cc
open Go.RowKit Go.Proofs.Ytgndhijhcliegaa.P Go.Proofs.Ytgndhijhcliegaa.E Go.Proofs.Ytgndhijhcliegaa.Va Go.Proofs.Ytgndhijhcliegaa.Kn Go.Proofs.Ytgndhijhcliegaa.Me Go.Proofs.YtgndhijhcliegaaW.PrintMore
open Go.Proofs.YtgndhijhcliegaaW.PrintWords
theorem drop_cons {α : Type} {h : List α} {i : Nat} (hi : i < h.length) : h.drop i = h[i] :: h.drop (i + 1) := List.drop_eq_getElem_cons hi
def inb (l : List Int) : Bool := l.all (fun x => decide (0 ≤ x ∧ x ≤ 2000))
theorem inb_drop {t : List Int} {i : Nat} (hi : i < t.length) : inb (t.drop i) = (decide (0 ≤ rd t (i : Int) ∧ rd t (i : Int) ≤ 2000) && inb (t.drop (i + 1))) := by
  rw [drop_cons hi, rd_lt hi]; rfl
def am (w l : List Int) : Nat → Int
  | 0 => 0
  | i + 1 => am w l i + rd l (i : Int) * rd w (i : Int)
theorem idx_loop (t : List Int) (hl : t.length ≤ 1000) (d : Nat) : ∀ i : Nat, i ≤ t.length → t.length - i = d → ∃ j : Int, (j < 0 ↔ inb (t.drop i) = true) ∧ Tl (fun k => slices_IndexFunc_int_int_charge_CheckCounts_1.l0 k t (t.length : Int) (i : Int)) j := by
  induction d with
  | zero =>
    intro i h1 h2
    refine ⟨-1, ?_, ?_⟩
    · rw [List.drop_eq_nil_of_le (by omega)]; simp [inb]
    · refine Tl.succ ?_
      simp only [slices_IndexFunc_int_int_charge_CheckCounts_1.l0]
      exact Tl.neg (by omega) Tl.now
  | succ d ih =>
    intro i h1 h2
    have hlt : i < t.length := by omega
    obtain ⟨j, hj, next⟩ := ih (i + 1) (by omega) (by omega)
    rw [show ((i + 1 : Nat) : Int) = (i : Int) + 1 by omega, ← w64 (x := (i : Int) + 1) (by omega) (by omega)] at next
    rw [inb_drop hlt]
    have e : charge_CheckCounts_1.f (rd t (i : Int)) = some (!decide (0 ≤ rd t (i : Int) ∧ rd t (i : Int) ≤ 2000)) := by
      unfold charge_CheckCounts_1.f
      rw [within_eq]; rfl
    by_cases c : 0 ≤ rd t (i : Int) ∧ rd t (i : Int) ≤ 2000
    · refine ⟨j, by rw [hj]; simp [c], ?_⟩
      refine Tl.succ ?_
      simp only [slices_IndexFunc_int_int_charge_CheckCounts_1.l0]
      exact Tl.pos (by omega) (Tl.pos (by omega) (Tl.pos (by omega) (Tl.bind' e (Tl.neg (by simp [c]) next))))
    · refine ⟨(i : Int), by simp [c] <;> omega, ?_⟩
      refine Tl.succ ?_
      simp only [slices_IndexFunc_int_int_charge_CheckCounts_1.l0]
      exact Tl.pos (by omega) (Tl.pos (by omega) (Tl.pos (by omega) (Tl.bind' e (Tl.pos (by simp [c]) Tl.now))))
theorem inb_get {l : List Int} (h : inb l = true) {i : Nat} (hi : i < l.length) : 0 ≤ rd l (i : Int) ∧ rd l (i : Int) ≤ 2000 := by
  have := List.all_eq_true.1 h _ (List.getElem_mem hi)
  rw [rd_lt hi]
  simpa using this
theorem am_range {w l : List Int} (hw : Wt w) (hl : l.length = w.length) (hb : inb l = true) : ∀ i : Nat, i ≤ w.length → 0 ≤ am w l i ∧ am w l i ≤ 60000 * i := by
  intro i
  induction i with
  | zero => intro _; simp [am]
  | succ i ih =>
    intro hi
    have h1 := ih (by omega)
    have h2 := hw.2 i (by omega)
    have h3 := inb_get hb (show i < l.length by omega)
    have h4 : rd l (i : Int) * rd w (i : Int) ≤ 2000 * 30 := Int.mul_le_mul h3.2 h2.2 (by omega) (by omega)
    have h5 : 0 ≤ rd l (i : Int) * rd w (i : Int) := Int.mul_nonneg h3.1 (by omega)
    show 0 ≤ am w l i + _ ∧ am w l i + _ ≤ _
    omega
def kc (w l : List Int) : Int × Int := if vc w = 0 then (if l.length = w.length ∧ inb l = true then (am w l w.length, 0) else (0, 1)) else (0, vc w)
theorem step_w {w l : List Int} (hw : Wt w) (hl : l.length = w.length) (hb : inb l = true) {i : Nat} (hi : i < w.length) : wrap64 (am w l i + wrap64 (rd l (i : Int) * rd w (i : Int))) = am w l (i + 1) := by
  have h1 := am_range hw hl hb (i + 1) (by omega)
  have h0 := am_range hw hl hb i (by omega)
  have h2 := hw.2 i hi
  have h3 := inb_get hb (show i < l.length by omega)
  have h4 : rd l (i : Int) * rd w (i : Int) ≤ 2000 * 30 := Int.mul_le_mul h3.2 h2.2 (by omega) (by omega)
  have h5 : 0 ≤ rd l (i : Int) * rd w (i : Int) := Int.mul_nonneg h3.1 (by omega)
  have hl' := hw.1
  rw [w64 (x := rd l (i : Int) * rd w (i : Int)) (by omega) (by omega)]
  show wrap64 (am w l (i + 1)) = _
  rw [w64 (by omega) (by omega)]
theorem ev_Check {w l : List Int} (hll : l.length ≤ 1000) : Tl (fun k => charge_CheckCounts.f k w l) (kc w l) := by
  unfold charge_CheckCounts.f kc
  refine Tl.bind (ev_Validate w) ?_
  have jt : Tl (fun k => charge_CheckCounts.j0 k w l true) (0, 1) := by
    refine Tl.succ ?_
    simp only [charge_CheckCounts.j0]
    exact Tl.pos trivial Tl.now
  by_cases h : vc w = 0
  · rw [if_pos h]
    have hw := (vc_ok.1 h).wt
    refine Tl.pos h ?_
    by_cases c : l.length = w.length
    · obtain ⟨j, hj, hr⟩ := idx_loop l hll l.length 0 (by omega) (by omega)
      rw [List.drop_zero] at hj
      have b : Tl (fun k => slices_ContainsFunc_int_int_charge_CheckCounts_1.f k l) (!inb l) := by
        unfold slices_ContainsFunc_int_int_charge_CheckCounts_1.f
        refine Tl.to (Tl.bind hr Tl.now) ?_
        cases hb : inb l with
        | true => rw [hb] at hj; have := hj.2 rfl; simp; omega
        | false => rw [hb] at hj; have : ¬ j < 0 := fun q => by simpa using hj.1 q
                   simp; omega
      refine Tl.pos (by omega) (Tl.bind b ?_)
      by_cases hb : inb l = true
      · rw [if_pos ⟨c, hb⟩, hb]
        have w2 := hw.1
        have loop : ∀ d i : Nat, i + d = l.length → Tl (fun k => charge_CheckCounts.l0 k w (am w l i) l (l.length : Int) (i : Int)) (am w l w.length, 0) := by
          intro d
          induction d with
          | zero =>
            intro i h1
            obtain rfl : i = w.length := by omega
            refine Tl.succ ?_
            simp only [charge_CheckCounts.l0]
            exact Tl.neg (by omega) Tl.now
          | succ d ih =>
            intro i h1
            have next := ih (i + 1) (by omega)
            refine Tl.succ ?_
            simp only [charge_CheckCounts.l0]
            rw [step_w hw c hb (by omega), w64 (x := (i : Int) + 1) (by omega) (by omega)]
            exact Tl.pos (by omega) (Tl.pos (by omega) (Tl.pos (by omega) (Tl.pos (by omega) next)))
        refine Tl.succ ?_
        simp only [charge_CheckCounts.j0]
        exact Tl.neg (by simp) (loop l.length 0 (by omega))
      · rw [if_neg (fun q => hb q.2), show inb l = false by simpa using hb]
        exact jt
    · rw [if_neg (fun q => c q.1)]
      exact Tl.neg (by omega) jt
  · rw [if_neg h]; exact Tl.neg h Tl.now
theorem rd_set {l : List Int} {i j : Nat} {v : Int} (hi : i < l.length) : rd (l.set i v) (j : Int) = if j = i then v else rd l (j : Int) := by
  by_cases hj : j < l.length
  · rw [rd_lt (by simpa using hj), List.getElem_set]
    by_cases e : i = j
    · rw [if_pos e, if_pos e.symm]
    · rw [if_neg e, if_neg (fun q => e q.symm), rd_lt hj]
  · rw [if_neg (by omega), rd_nat, rd_nat, List.getD_eq_getElem?_getD, List.getD_eq_getElem?_getD, List.getElem?_eq_none (by simp; omega), List.getElem?_eq_none (by omega)]
/-- The sum of the first numbers. -/
def sm (l : List Int) : Nat → Int
  | 0 => 0
  | i + 1 => sm l i + rd l (i : Int)
theorem sm_set {l : List Int} {i : Nat} (hi : i < l.length) : ∀ n : Nat, sm (l.set i (rd l (i : Int) + 1)) n = sm l n + (if i < n then 1 else 0) := by
  intro n
  induction n with
  | zero => rfl
  | succ n ih =>
    show sm _ n + rd _ (n : Int) = sm l n + rd l (n : Int) + _
    rw [ih, rd_set hi]
    by_cases e : n = i
    · subst e; rw [if_pos rfl, if_neg (by omega), if_pos (by omega)]; omega
    · rw [if_neg e]
      by_cases c : i < n
      · rw [if_pos c, if_pos (by omega)]; omega
      · rw [if_neg c, if_neg (by omega)]; omega
theorem am_set {w l : List Int} {i : Nat} (hi : i < l.length) : ∀ n : Nat, am w (l.set i (rd l (i : Int) + 1)) n = am w l n + (if i < n then rd w (i : Int) else 0) := by
  intro n
  induction n with
  | zero => rfl
  | succ n ih =>
    show am w _ n + rd _ (n : Int) * rd w (n : Int) = am w l n + rd l (n : Int) * rd w (n : Int) + _
    rw [ih, rd_set hi]
    by_cases e : n = i
    · subst e; rw [if_pos rfl, if_neg (by omega), if_pos (by omega), Int.add_mul]; omega
    · rw [if_neg e]
      by_cases c : i < n
      · rw [if_pos c, if_pos (by omega)]; omega
      · rw [if_neg c, if_neg (by omega)]; omega
theorem inb_of {l : List Int} (h : ∀ i : Nat, i < l.length → 0 ≤ rd l (i : Int) ∧ rd l (i : Int) ≤ 2000) : inb l = true := by
  refine List.all_eq_true.2 (fun x hx => ?_)
  obtain ⟨i, hi, rfl⟩ := List.getElem_of_mem hx
  have := h i hi
  rw [rd_lt hi] at this
  simpa using this
end Go.Proofs.Ytgndhijhcliegaa.Cc
namespace Go.Proofs.Ytgndhijhcliegaa.Rs
open Go.RowKit Go.Proofs.Ytgndhijhcliegaa.P Go.Proofs.Ytgndhijhcliegaa.E Go.Proofs.Ytgndhijhcliegaa.Va Go.Proofs.Ytgndhijhcliegaa.Kn Go.Proofs.Ytgndhijhcliegaa.Me Go.Proofs.YtgndhijhcliegaaW.PrintMore
open Go.Proofs.YtgndhijhcliegaaW.PrintWords
def made (w : List Int) (n : Nat) : Prop := ∃ c, Mk w n c
def w0 (w : List Int) : Nat := (rd w 0).toNat
theorem w0_range {w : List Int} (ok : Ok w) : 1 ≤ w0 w ∧ w0 w ≤ 30 ∧ rd w 0 = (w0 w : Int) := by
  have h := (ok.2 0 (by have := ok.1; omega)).1
  have e : rd w ((0 : Nat) : Int) = rd w 0 := rfl
  rw [e] at h
  unfold w0
  omega
theorem made_zero (w : List Int) : made w 0 := ⟨0, .zero⟩
theorem made_add {w : List Int} {a b : Nat} (h : made w a) (k : made w b) : made w (a + b) := by
  obtain ⟨c, hc⟩ := h
  obtain ⟨d, hd⟩ := k
  exact ⟨_, mk_add hc hd⟩
theorem made_weight {w : List Int} {i : Nat} (hi : i < w.length) : made w (rd w (i : Int)).toNat := by
  have := Mk.step hi (Mk.zero (w := w))
  rw [Nat.zero_add] at this
  exact ⟨_, this⟩
theorem made_mul {w : List Int} {a : Nat} (h : made w a) (t : Nat) : made w (a * t) := by
  induction t with
  | zero => exact made_zero w
  | succ t ih => rw [Nat.mul_succ]; exact made_add ih h
theorem made_up {w : List Int} (ok : Ok w) {m n : Nat} (h : made w m) (hle : m ≤ n) (hr : m % w0 w = n % w0 w) : made w n := by
  have hw := made_weight (w := w) (i := 0) (by have := ok.1; omega)
  have e : (rd w ((0 : Nat) : Int)).toNat = w0 w := rfl
  rw [e] at hw
  have := made_add h (made_mul hw (n / w0 w - m / w0 w))
  have a1 := Nat.mod_add_div m (w0 w)
  have a2 := Nat.mod_add_div n (w0 w)
  have a3 : m / w0 w ≤ n / w0 w := Nat.div_le_div_right hle
  rw [Nat.mul_sub] at this
  have a4 : w0 w * (m / w0 w) ≤ w0 w * (n / w0 w) := Nat.mul_le_mul_left _ a3
  rw [show m + (w0 w * (n / w0 w) - w0 w * (m / w0 w)) = n by omega] at this
  exact this
/-- Among more numbers than there are values two are equal. -/
theorem php : ∀ (n : Nat) (f : Nat → Nat), (∀ j, j ≤ n → f j < n) → ∃ i j, i < j ∧ j ≤ n ∧ f i = f j := by
  intro n
  induction n with
  | zero => intro f h; have := h 0 (Nat.le_refl _); omega
  | succ n ih =>
    intro f h
    by_cases c : ∃ i, i ≤ n ∧ f i = f (n + 1)
    · obtain ⟨i, hi, he⟩ := c
      exact ⟨i, n + 1, by omega, Nat.le_refl _, he⟩
    · have hne : ∀ i, i ≤ n → f i ≠ f (n + 1) := fun i hi q => c ⟨i, hi, q⟩
      have hlast := h (n + 1) (Nat.le_refl _)
      obtain ⟨i, j, hij, hj, he⟩ := ih (fun j => if f j > f (n + 1) then f j - 1 else f j) (by
        intro j hj
        have h1 := h j (by omega)
        have h2 := hne j hj
        by_cases z : f j > f (n + 1)
        · simp only [if_pos z]; omega
        · simp only [if_neg z]; omega)
      refine ⟨i, j, hij, by omega, ?_⟩
      have h1 := hne i (by omega)
      have h2 := hne j (by omega)
      try simp only [] at he
      by_cases z1 : f i > f (n + 1) <;> by_cases z2 : f j > f (n + 1) <;> simp only [z1, z2, if_true, if_false] at he <;> omega
/-- The amount of a list of cartridges. -/
def ws (w : List Int) : List Nat → Nat
  | [] => 0
  | i :: l => ws w l + (rd w (i : Int)).toNat
theorem ws_append (w : List Int) (a b : List Nat) : ws w (a ++ b) = ws w a + ws w b := by
  induction a with
  | nil => simp [ws]
  | cons i a ih => rw [List.cons_append, ws, ws, ih]; omega
theorem mk_ws {w : List Int} {n c : Nat} (h : Mk w n c) : ∃ l : List Nat, l.length = c ∧ (∀ i ∈ l, i < w.length) ∧ n = ws w l := by
  induction h with
  | zero => exact ⟨[], rfl, by simp, rfl⟩
  | @step n c i hi _ ih =>
    obtain ⟨l, h1, h2, h3⟩ := ih
    refine ⟨i :: l, by simp [h1], ?_, by rw [ws, h3]⟩
    intro j hj
    rcases List.mem_cons.1 hj with e | e
    · rw [e]; exact hi
    · exact h2 j e
theorem ws_mk {w : List Int} : ∀ l : List Nat, (∀ i ∈ l, i < w.length) → Mk w (ws w l) l.length := by
  intro l
  induction l with
  | nil => intro _; exact .zero
  | cons i l ih =>
    intro h
    exact Mk.step (h i (by simp)) (ih (fun j hj => h j (by simp [hj])))
theorem ws_le {w : List Int} (ok : Ok w) : ∀ l : List Nat, (∀ i ∈ l, i < w.length) → ws w l ≤ 30 * l.length := by
  intro l
  induction l with
  | nil => intro _; simp [ws]
  | cons i l ih =>
    intro h
    have := ih (fun j hj => h j (by simp [hj]))
    have h2 := (ok.2 i (h i (by simp))).1
    rw [ws, List.length_cons]
    omega
/-- What is made up is made up, with the same remainder, by few cartridges. -/
theorem low {w : List Int} (ok : Ok w) (c : Nat) : ∀ l : List Nat, l.length = c → (∀ i ∈ l, i < w.length) → ∃ m, made w m ∧ m ≤ ws w l ∧ m % w0 w = ws w l % w0 w ∧ m ≤ 870 := by
  have hw := w0_range ok
  induction c using Nat.strongRecOn with
  | _ c ih =>
    intro l hl hmem
    by_cases hc : c < w0 w
    · refine ⟨ws w l, ⟨_, ws_mk l hmem⟩, Nat.le_refl _, rfl, ?_⟩
      have := ws_le ok l hmem
      omega
    · obtain ⟨i, j, hij, hj, he⟩ := php (w0 w) (fun j => ws w (l.take j) % w0 w) (fun j _ => Nat.mod_lt _ (by omega))
      try simp only [] at he
      have e1 : l.take j = l.take i ++ (l.drop i).take (j - i) := by
        rw [← List.take_append_drop i (l.take j), List.take_take, Nat.min_eq_left (by omega), List.drop_take]
      have e2 : l = l.take j ++ l.drop j := (List.take_append_drop j l).symm
      have s1 : ws w l = ws w (l.take j) + ws w (l.drop j) := by rw [← ws_append, ← e2]
      have s2 : ws w (l.take j) = ws w (l.take i) + ws w ((l.drop i).take (j - i)) := by rw [← ws_append, ← e1]
      have s3 : ws w (l.take i ++ l.drop j) = ws w (l.take i) + ws w (l.drop j) := ws_append _ _ _
      obtain ⟨m, m1, m2, m3, m4⟩ := ih (l.take i ++ l.drop j).length (by simp; omega) (l.take i ++ l.drop j) rfl (by
        intro x hx
        rcases List.mem_append.1 hx with h | h
        · exact hmem x (List.mem_of_mem_take h)
        · exact hmem x (List.mem_of_mem_drop h))
      refine ⟨m, m1, by omega, ?_, m4⟩
      rw [m3, s3, s1, Nat.add_mod, he, ← Nat.add_mod]
theorem made_low {w : List Int} (ok : Ok w) {n : Nat} (h : made w n) : ∃ m, made w m ∧ m ≤ n ∧ m % w0 w = n % w0 w ∧ m ≤ 870 := by
  obtain ⟨c, hc⟩ := h
  obtain ⟨l, l1, l2, rfl⟩ := mk_ws hc
  exact low ok c l l1 l2
/-- The smallest amount that is made up and leaves a remainder, -1 if there is none. -/
def Res (w : List Int) (r : Nat) (v : Int) : Prop := (v = -1 ∧ ∀ n, n % w0 w = r → ¬ made w n) ∨ ∃ n : Nat, v = n ∧ n % w0 w = r ∧ made w n ∧ ∀ n', n' % w0 w = r → made w n' → n ≤ n'
theorem res_ex (w : List Int) (r : Nat) : ∃ v, Res w r v := by
  by_cases h : ∃ n, n % w0 w = r ∧ made w n
  · obtain ⟨n, hn, hm⟩ := exists_least h
    exact ⟨n, .inr ⟨n, rfl, hn.1, hn.2, fun n' h1 h2 => hm n' ⟨h1, h2⟩⟩⟩
  · exact ⟨-1, .inl ⟨rfl, fun n h1 h2 => h ⟨n, h1, h2⟩⟩⟩
noncomputable def res (w : List Int) (r : Nat) : Int := Classical.choose (res_ex w r)
theorem res_is (w : List Int) (r : Nat) : Res w r (res w r) := Classical.choose_spec (res_ex w r)
theorem res_unique {w : List Int} {r : Nat} {u v : Int} (h : Res w r u) (k : Res w r v) : u = v := by
  rcases h with ⟨h1, h2⟩ | ⟨c, h1, h2, h3, h4⟩ <;> rcases k with ⟨k1, k2⟩ | ⟨d, k1, k2, k3, k4⟩
  · omega
  · exact absurd k3 (h2 d k2)
  · exact absurd h3 (k2 c h2)
  · have := h4 d k2 k3; have := k4 c h2 h3; omega
theorem res_le {w : List Int} (ok : Ok w) (r : Nat) : res w r ≤ 870 := by
  rcases res_is w r with ⟨h1, _⟩ | ⟨n, h1, h2, h3, h4⟩
  · omega
  · obtain ⟨m, m1, m2, m3, m4⟩ := made_low ok h3
    have := h4 m (by omega) m1
    omega
noncomputable def rl (w : List Int) (i : Nat) : List Int := (List.range i).map (fun (r : Nat) => res w r)
theorem rl_length (w : List Int) (i : Nat) : (rl w i).length = i := by simp [rl]
theorem rl_rd {w : List Int} {i r : Nat} (h : r < i) : rd (rl w i) (r : Int) = res w r := by
  rw [rd_lt (by rw [rl_length]; exact h)]; simp [rl]
theorem rl_succ (w : List Int) (i : Nat) : rl w (i + 1) = rl w i ++ [res w i] := by simp [rl, List.range_succ]
def stp (W : Nat) (out : List Int) (n : Int) : List Int := if rd out (n % (W : Int)) < 0 then out.set (n % (W : Int)).toNat n else out
theorem stp_len (W : Nat) (out : List Int) (n : Int) : (stp W out n).length = out.length := by
  unfold stp
  by_cases c : rd out (n % (W : Int)) < 0
  · rw [if_pos c]; simp
  · rw [if_neg c]
theorem fold_len (W : Nat) : ∀ (X out : List Int), (X.foldl (stp W) out).length = out.length := by
  intro X
  induction X with
  | nil => intro out; rfl
  | cons n X ih => intro out; rw [List.foldl_cons, ih, stp_len]
theorem rd_set' {l : List Int} {i j : Nat} {v : Int} (hi : i < l.length) : rd (l.set i v) (j : Int) = if j = i then v else rd l (j : Int) := by
  by_cases hj : j < l.length
  · rw [rd_lt (by simpa using hj), List.getElem_set]
    by_cases e : i = j
    · rw [if_pos e, if_pos e.symm]
    · rw [if_neg e, if_neg (fun q => e q.symm), rd_lt hj]
  · rw [if_neg (by omega), rd_nat, rd_nat, List.getD_eq_getElem?_getD, List.getD_eq_getElem?_getD, List.getElem?_eq_none (by simp; omega), List.getElem?_eq_none (by omega)]
theorem fl_get {p : Int → Bool} {N i : Nat} (h : i < (charge_where.fl p N).length) : ∃ j : Nat, j < N ∧ rd (charge_where.fl p N) (i : Int) = (j : Int) := by
  rw [rd_lt h]
  have := List.getElem_mem h
  unfold charge_where.fl at this
  have := (List.mem_filter.1 this).1
  obtain ⟨j, hj, e⟩ := List.mem_map.1 this
  exact ⟨j, by simpa using hj, e.symm⟩
/-- What is known behind the first amounts. -/
theorem fold_fl {w : List Int} (ok : Ok w) : ∀ N : Nat, ∀ r : Nat, r < w0 w →
    let out := (charge_where.fl (fun n => decide (0 ≤ fw w n.toNat)) N).foldl (stp (w0 w)) (List.replicate (w0 w) (-1));
    (rd out (r : Int) = -1 ∧ ∀ n, n < N → n % w0 w = r → ¬ made w n) ∨ ∃ n : Nat, n < N ∧ rd out (r : Int) = n ∧ n % w0 w = r ∧ made w n ∧ ∀ n', n' % w0 w = r → made w n' → n ≤ n' := by
  have hw := w0_range ok
  intro N
  induction N with
  | zero =>
    intro r hr
    refine .inl ⟨?_, fun n hn => by omega⟩
    show rd (List.replicate (w0 w) (-1)) (r : Int) = -1
    rw [rd_lt (by simpa using hr)]; simp
  | succ N ih =>
    intro r hr
    have h := ih r hr
    simp only [] at h ⊢
    rw [charge_where.fl_succ]
    have hf : (decide (0 ≤ fw w ((N : Nat) : Int).toNat) = true) ↔ made w N := by rw [decide_eq_true_eq, Int.toNat_natCast]; exact fw_nonneg
    by_cases c : made w N
    · rw [if_pos (hf.2 c), List.foldl_append]
      simp only [List.foldl_cons, List.foldl_nil]
      have hol : ((charge_where.fl (fun n => decide (0 ≤ fw w n.toNat)) N).foldl (stp (w0 w)) (List.replicate (w0 w) (-1))).length = w0 w := by rw [fold_len]; simp
      generalize (charge_where.fl (fun n => decide (0 ≤ fw w n.toNat)) N).foldl (stp (w0 w)) (List.replicate (w0 w) (-1)) = out at h hol ⊢
      have em : (N : Int) % (w0 w : Int) = ((N % w0 w : Nat) : Int) := by omega
      have hml := Nat.mod_lt N (show w0 w > 0 by omega)
      unfold stp
      rw [em, Int.toNat_natCast]
      by_cases e : N % w0 w = r
      · rw [e]
        rcases h with ⟨h1, h2⟩ | ⟨n, h0, h1, h2, h3, h4⟩
        · rw [if_pos (by omega)]
          refine .inr ⟨N, by omega, by rw [rd_set' (by omega), if_pos rfl], e, c, fun n' q1 q2 => ?_⟩
          rcases Nat.lt_or_ge n' N with q | q
          · exact absurd q2 (h2 n' q q1)
          · exact q
        · rw [if_neg (by omega)]
          exact .inr ⟨n, by omega, h1, h2, h3, h4⟩
      · have hsame : rd (if rd out ((N % w0 w : Nat) : Int) < 0 then out.set (N % w0 w) (N : Int) else out) (r : Int) = rd out (r : Int) := by
          by_cases q : rd out ((N % w0 w : Nat) : Int) < 0
          · rw [if_pos q, rd_set' (by omega), if_neg (fun z => e z.symm)]
          · rw [if_neg q]
        rw [hsame]
        rcases h with ⟨h1, h2⟩ | ⟨n, h0, h1, h2, h3, h4⟩
        · refine .inl ⟨h1, fun n hn hr2 => ?_⟩
          by_cases z : n = N
          · subst z; exact absurd hr2 e
          · exact h2 n (by omega) hr2
        · exact .inr ⟨n, by omega, h1, h2, h3, h4⟩
    · rw [if_neg (fun q => c (hf.1 q))]
      rcases h with ⟨h1, h2⟩ | ⟨n, h0, h1, h2, h3, h4⟩
      · refine .inl ⟨h1, fun n hn hr2 => ?_⟩
        by_cases z : n = N
        · subst z; exact c
        · exact h2 n (by omega) hr2
      · exact .inr ⟨n, by omega, h1, h2, h3, h4⟩
theorem fold_rl {w : List Int} (ok : Ok w) : (charge_where.fl (fun n => decide (0 ≤ fw w n.toNat)) 901).foldl (stp (w0 w)) (List.replicate (w0 w) (-1)) = rl w (w0 w) := by
  have hol : ((charge_where.fl (fun n => decide (0 ≤ fw w n.toNat)) 901).foldl (stp (w0 w)) (List.replicate (w0 w) (-1))).length = w0 w := by rw [fold_len]; simp
  refine List.ext_getElem (by rw [hol, rl_length]) (fun r h1 h2 => ?_)
  rw [hol] at h1
  have h := fold_fl ok 901 r h1
  simp only [] at h
  have hr := rl_rd (w := w) h1
  rw [rd_lt (by rw [rl_length]; exact h1)] at hr
  rw [hr]
  rw [rd_lt (by rw [hol]; exact h1)] at h
  refine res_unique ?_ (res_is w r)
  rcases h with ⟨h1, h2⟩ | ⟨n, h0, h1, h2, h3, h4⟩
  · refine .inl ⟨h1, fun n q1 q2 => ?_⟩
    obtain ⟨m, m1, m2, m3, m4⟩ := made_low ok q2
    exact h2 m (by omega) (by omega) m1
  · exact .inr ⟨n, h1, h2, h3, h4⟩
theorem loop_fold {w : List Int} (ok : Ok w) {X out : List Int} (hX : X.length ≤ 1000) (ho : out.length = w0 w) (hel : ∀ i : Nat, i < X.length → ∃ j : Nat, j ≤ 1000 ∧ rd X (i : Int) = (j : Int)) (d : Nat) :
    ∀ i : Nat, i + d = X.length → Tl (fun k => charge_Residues.l0 k w ((X.take i).foldl (stp (w0 w)) out) X (X.length : Int) (i : Int)) (X.foldl (stp (w0 w)) out, 0) := by
  have hw := w0_range ok
  have hlen := ok.1
  induction d with
  | zero =>
    intro i h
    obtain rfl : i = X.length := by omega
    rw [List.take_length]
    refine Tl.succ ?_
    simp only [charge_Residues.l0]
    exact Tl.neg (by omega) Tl.now
  | succ d ih =>
    intro i h
    have hi : i < X.length := by omega
    obtain ⟨j, hj, e⟩ := hel i hi
    have next := ih (i + 1) (by omega)
    rw [List.take_succ_eq_append_getElem hi, List.foldl_append] at next
    simp only [List.foldl_cons, List.foldl_nil] at next
    rw [← rd_lt hi, e] at next
    have hol : ((X.take i).foldl (stp (w0 w)) out).length = w0 w := by rw [fold_len, ho]
    have em : (j : Int) % (w0 w : Int) = ((j % w0 w : Nat) : Int) := by omega
    have hml := Nat.mod_lt j (show w0 w > 0 by omega)
    refine Tl.succ ?_
    simp only [charge_Residues.l0]
    rw [w64 (x := (i : Int) + 1) (by omega) (by omega), e, hw.2.2, Int.tmod_eq_emod_of_nonneg (by omega), show (i : Int) + 1 = ((i + 1 : Nat) : Int) by omega]
    refine Tl.pos (by omega) (Tl.pos (by omega) (Tl.pos (by omega) (Tl.pos (by omega) (Tl.neg (by omega) (Tl.pos (by omega) (Tl.pos (by omega) ?_))))))
    unfold stp at next
    by_cases c : rd ((X.take i).foldl (stp (w0 w)) out) ((j : Int) % (w0 w : Int)) < 0
    · refine Tl.pos c ?_
      rw [show (if rd (List.foldl (fun out n => if rd out (n % (w0 w : Int)) < 0 then out.set (n % (w0 w : Int)).toNat n else out) out (X.take i)) ((j : Int) % (w0 w : Int)) < 0 then (List.foldl (fun out n => if rd out (n % (w0 w : Int)) < 0 then out.set (n % (w0 w : Int)).toNat n else out) out (X.take i)).set ((j : Int) % (w0 w : Int)).toNat (j : Int) else List.foldl (fun out n => if rd out (n % (w0 w : Int)) < 0 then out.set (n % (w0 w : Int)).toNat n else out) out (X.take i)) = (List.foldl (fun out n => if rd out (n % (w0 w : Int)) < 0 then out.set (n % (w0 w : Int)).toNat n else out) out (X.take i)).set ((j : Int) % (w0 w : Int)).toNat (j : Int) from if_pos c] at next
      exact next
    · refine Tl.neg c ?_
      rw [show (if rd (List.foldl (fun out n => if rd out (n % (w0 w : Int)) < 0 then out.set (n % (w0 w : Int)).toNat n else out) out (X.take i)) ((j : Int) % (w0 w : Int)) < 0 then (List.foldl (fun out n => if rd out (n % (w0 w : Int)) < 0 then out.set (n % (w0 w : Int)).toNat n else out) out (X.take i)).set ((j : Int) % (w0 w : Int)).toNat (j : Int) else List.foldl (fun out n => if rd out (n % (w0 w : Int)) < 0 then out.set (n % (w0 w : Int)).toNat n else out) out (X.take i)) = List.foldl (fun out n => if rd out (n % (w0 w : Int)) < 0 then out.set (n % (w0 w : Int)).toNat n else out) out (X.take i) from if_neg c] at next
      exact next
noncomputable def rc (w : List Int) : List Int × Int := if vc w = 0 then (rl w (w0 w), 0) else ([], vc w)
theorem flat_rep (n : Nat) (x : Int) : (List.replicate n [x]).flatten = List.replicate n x := by
  induction n with
  | zero => rfl
  | succ n ih => rw [List.replicate_succ, List.flatten_cons, ih, List.replicate_succ]; rfl
theorem ev_Residues (w : List Int) : Tl (fun k => charge_Residues.f k w) (rc w) := by
  unfold charge_Residues.f rc
  refine Tl.bind (ev_Validate w) ?_
  by_cases h : vc w = 0
  · rw [if_pos h]
    have ok := vc_ok.1 h
    have hw := w0_range ok
    have hlen := ok.1
    obtain ⟨L, hL, _, hf⟩ := ev_fill ok.wt (show 900 ≤ 10000 by omega)
    obtain ⟨T, hT⟩ : ∃ T, T = tab w (900 + 1) := ⟨_, rfl⟩
    have hwh := where_tab (w := w) (L := L) (m := 900) (by omega)
    rw [← hT] at hwh hf
    obtain ⟨X, hX⟩ : ∃ X, X = charge_where.fl (fun n => decide (0 ≤ fw w n.toNat)) 901 := ⟨_, rfl⟩
    have hwh2 : charge_where.f 900 T L = some X := by rw [hX]; exact hwh
    have hXl : X.length ≤ 901 := by rw [hX]; exact charge_where.fl_len _ _
    have er : slices_Repeat_int_int.f [-1] (rd w 0) = some (List.replicate (w0 w) (-1)) := by
      unfold slices_Repeat_int_int.f
      rw [if_pos (by simp), if_pos (by simp), if_pos (by omega), if_pos (by omega), flat_rep]
      rfl
    have := loop_fold ok (X := X) (out := List.replicate (w0 w) (-1)) (by omega) (by simp) (fun i hi => by
      rw [hX] at hi ⊢
      obtain ⟨j, hj, e⟩ := fl_get hi
      exact ⟨j, by omega, e⟩) X.length 0 (by omega)
    rw [List.take_zero, List.foldl_nil] at this
    refine Tl.pos h (Tl.pos (by omega) (Tl.bind' er (Tl.bind hf (Tl.bind' hwh2 ?_))))
    refine Tl.to this ?_
    rw [hX, fold_rl ok]
  · rw [if_neg h]; exact Tl.neg h Tl.now
end Go.Proofs.Ytgndhijhcliegaa.Rs
namespace Go.Proofs.Ytgndhijhcliegaa.Gp
open Go.RowKit Go.Proofs.Ytgndhijhcliegaa.P Go.Proofs.Ytgndhijhcliegaa.E Go.Proofs.Ytgndhijhcliegaa.Va Go.Proofs.Ytgndhijhcliegaa.Kn Go.Proofs.Ytgndhijhcliegaa.Me Go.Proofs.Ytgndhijhcliegaa.Rs Go.Proofs.YtgndhijhcliegaaW.PrintMore
open Go.Proofs.YtgndhijhcliegaaW.PrintWords
theorem bezout : ∀ (b a : Nat), ∃ s t : Int, ((Nat.gcd a b : Nat) : Int) = s * a + t * b := by
  intro b
  induction b using Nat.strongRecOn with
  | _ b ih =>
    intro a
    by_cases z : b = 0
    · subst z
      exact ⟨1, 0, by rw [Nat.gcd_zero_right]; omega⟩
    · obtain ⟨s, t, e⟩ := ih (a % b) (Nat.mod_lt _ (by omega)) b
      refine ⟨t, s - t * ((a / b : Nat) : Int), ?_⟩
      rw [show Nat.gcd a b = Nat.gcd b (a % b) by rw [Nat.gcd_comm b, ← Nat.gcd_rec, Nat.gcd_comm], e]
      have h := Nat.mod_add_div a b
      have h2 : (a : Int) = ((a % b : Nat) : Int) + (b : Int) * ((a / b : Nat) : Int) := by rw [← Int.natCast_mul, ← Int.natCast_add, h]
      conv => rhs; rw [h2]
      rw [Int.mul_add, Int.sub_mul, ← Int.mul_assoc, Int.mul_comm t (b : Int), Int.mul_assoc, Int.mul_comm t ((a / b : Nat) : Int), Int.mul_comm ((a / b : Nat) : Int) t, Int.mul_assoc t, Int.mul_comm ((a / b : Nat) : Int) (b : Int), ← Int.mul_assoc t, Int.mul_comm t (b : Int), Int.mul_assoc]
      omega
/-- A sum of two that are made up, with whatever remainder by W. -/
theorem made_comb {w : List Int} {W a b : Nat} (hW : 1 ≤ W) (ha : made w a) (hb : made w b) (s t : Int) : ∃ m, made w m ∧ (m : Int) % W = (s * a + t * b) % W := by
  have k1 := Int.emod_nonneg s (show (W : Int) ≠ 0 by omega)
  have k2 := Int.emod_nonneg t (show (W : Int) ≠ 0 by omega)
  refine ⟨a * (s % W).toNat + b * (t % W).toNat, made_add (made_mul ha _) (made_mul hb _), ?_⟩
  rw [Int.natCast_add, Int.natCast_mul, Int.natCast_mul, Int.toNat_of_nonneg k1, Int.toNat_of_nonneg k2, Int.mul_comm (a : Int), Int.mul_comm (b : Int)]
  rw [Int.add_emod, Int.mul_emod (s % W), Int.emod_emod, ← Int.mul_emod, Int.mul_emod (t % W), Int.emod_emod, ← Int.mul_emod, ← Int.add_emod]
theorem made_mg {w : List Int} {W : Nat} (hW : 1 ≤ W) : ∀ i : Nat, i ≤ w.length → ∃ m, made w m ∧ (m : Int) % W = (mg w i : Int) % W := by
  intro i
  induction i with
  | zero => intro _; exact ⟨0, made_zero w, rfl⟩
  | succ i ih =>
    intro hi
    obtain ⟨m, h1, h2⟩ := ih (by omega)
    obtain ⟨s, t, e⟩ := bezout (rd w (i : Int)).toNat (mg w i)
    obtain ⟨q, q1, q2⟩ := made_comb hW h1 (made_weight (w := w) (i := i) (by omega)) s t
    refine ⟨q, q1, ?_⟩
    rw [q2]
    show _ = ((Nat.gcd (mg w i) (rd w (i : Int)).toNat : Nat) : Int) % W
    rw [e, Int.add_emod, Int.mul_emod s, h2, ← Int.mul_emod, ← Int.add_emod]
/-- With the measure 1 every remainder comes up. -/
theorem cover {w : List Int} (ok : Ok w) (h1 : mg w w.length = 1) (n : Nat) : ∃ m, made w m ∧ m % w0 w = n % w0 w := by
  have hw := w0_range ok
  obtain ⟨m, m1, m2⟩ := made_mg (w := w) hw.1 w.length (Nat.le_refl _)
  refine ⟨m * n, made_mul m1 n, ?_⟩
  have : ((m * n : Nat) : Int) % (w0 w : Int) = (n : Int) % (w0 w : Int) := by
    rw [Int.natCast_mul, Int.mul_emod, m2, h1, ← Int.mul_emod]
    simp
  omega
theorem res_ge {w : List Int} (ok : Ok w) (h1 : mg w w.length = 1) (n : Nat) : made w n ↔ res w (n % w0 w) ≤ n := by
  rcases res_is w (n % w0 w) with ⟨e1, e2⟩ | ⟨q, e1, e2, e3, e4⟩
  · obtain ⟨m, m1, m2⟩ := cover ok h1 n
    exact absurd m1 (e2 m m2)
  · constructor
    · intro h; have := e4 n rfl h; omega
    · intro h; exact made_up ok e3 (by omega) e2
theorem made_far {w : List Int} (ok : Ok w) (h1 : mg w w.length = 1) {n : Nat} (hn : 870 ≤ n) : made w n := by
  rw [res_ge ok h1]
  have := res_le ok (n % w0 w)
  omega
noncomputable def gl (w : List Int) : List Int := charge_where.fl (fun n => decide (fw w n.toNat < 0)) 901
theorem gl_mem {w : List Int} (n : Nat) : ((n : Int) ∈ gl w) ↔ n < 901 ∧ ¬ made w n := by
  unfold gl charge_where.fl
  rw [List.mem_filter, List.mem_map]
  have hf : (decide (fw w (n : Int).toNat < 0) = true) ↔ ¬ made w n := by
    rw [decide_eq_true_eq, Int.toNat_natCast, ← Int.not_le]; exact not_congr fw_nonneg
  rw [hf]
  constructor
  · rintro ⟨⟨j, hj, e⟩, h2⟩
    refine ⟨?_, h2⟩
    have := List.mem_range.1 hj
    have : j = n := by exact_mod_cast e
    omega
  · rintro ⟨h1, h2⟩
    exact ⟨⟨n, List.mem_range.2 h1, rfl⟩, h2⟩
/-- The error of weights of which the measure is to be 1. -/
def sc (w : List Int) : Int := if vc w = 0 then (if mg w w.length = 1 then 0 else 4) else vc w
theorem sc_ok {w : List Int} : sc w = 0 ↔ Ok w ∧ mg w w.length = 1 := by
  unfold sc
  by_cases h : vc w = 0
  · rw [if_pos h]
    by_cases c : mg w w.length = 1
    · rw [if_pos c]; exact ⟨fun _ => ⟨vc_ok.1 h, c⟩, fun _ => rfl⟩
    · rw [if_neg c]; exact ⟨fun q => by omega, fun q => absurd q.2 c⟩
  · rw [if_neg h]; exact ⟨fun q => absurd q h, fun q => absurd (vc_ok.2 q.1) h⟩
theorem ev_single (w : List Int) : Tl (fun k => charge_single.f k w) (sc w) := by
  unfold charge_single.f
  refine Tl.bind (ev_Validate w) ?_
  by_cases h : vc w = 0
  · have e : sc w = if mg w w.length = 1 then 0 else 4 := by unfold sc; rw [if_pos h]
    refine Tl.pos h (Tl.bind (ev_measure (vc_ok.1 h).wt) ?_)
    by_cases c : mg w w.length = 1
    · rw [e, if_pos c]; exact Tl.pos (by omega) Tl.now
    · rw [e, if_neg c]; exact Tl.neg (by omega) Tl.now
  · have e : sc w = vc w := by unfold sc; rw [if_neg h]
    rw [e]; exact Tl.neg h Tl.now
noncomputable def gc (w : List Int) : List Int × Int := if sc w = 0 then (gl w, 0) else ([], sc w)
theorem ev_Gaps (w : List Int) : Tl (fun k => charge_Gaps.f k w) (gc w) := by
  unfold charge_Gaps.f gc
  refine Tl.bind (ev_single w) ?_
  by_cases h : sc w = 0
  · rw [if_pos h]
    exact Tl.pos h (Tl.bind (ev_gaps (sc_ok.1 h).1.wt) Tl.now)
  · rw [if_neg h]; exact Tl.neg h Tl.now
theorem gl_len (w : List Int) : (gl w).length ≤ 901 := charge_where.fl_len _ _
theorem ev_Has {l : List Int} (hl : l.length ≤ 1000) (x : Int) : Tl (fun k => diaphoneref07_Has.f k l x) (decide (x ∈ l)) := by
  have loop : ∀ d i : Nat, i + d = l.length → Tl (fun k => diaphoneref07_Has.l0 k l x (i : Int)) (decide (x ∈ l.drop i)) := by
    intro d
    induction d with
    | zero =>
      intro i h
      refine Tl.succ ?_
      simp only [diaphoneref07_Has.l0]
      refine Tl.to (Tl.neg (by omega) Tl.now) ?_
      rw [List.drop_eq_nil_of_le (by omega)]; simp
    | succ d ih =>
      intro i h
      have hi : i < l.length := by omega
      have next := ih (i + 1) (by omega)
      refine Tl.succ ?_
      simp only [diaphoneref07_Has.l0]
      rw [w64 (x := (i : Int) + 1) (by omega) (by omega), rd_lt hi]
      refine Tl.pos (by omega) (Tl.pos (by omega) ?_)
      have e : (x ∈ l.drop i) ↔ (l[i] = x ∨ x ∈ l.drop (i + 1)) := by
        rw [List.drop_eq_getElem_cons hi, List.mem_cons]
        exact ⟨fun q => q.elim (fun q => .inl q.symm) .inr, fun q => q.elim (fun q => .inl q.symm) .inr⟩
      by_cases c : l[i] = x
      · exact Tl.to (Tl.pos c Tl.now) (decide_eq_true (e.2 (.inl c))).symm
      · exact Tl.to (Tl.neg c next) (decide_eq_decide.2 ⟨fun q => e.2 (.inr q), fun q => (e.1 q).resolve_left c⟩)
  have := loop l.length 0 (by omega)
  rw [List.drop_zero] at this
  exact this
end Go.Proofs.Ytgndhijhcliegaa.Gp
namespace Go.Proofs.Ytgndhijhcliegaa.Nd
open Go.RowKit Go.Proofs.Ytgndhijhcliegaa.P Go.Proofs.Ytgndhijhcliegaa.E Go.Proofs.Ytgndhijhcliegaa.Va Go.Proofs.YtgndhijhcliegaaW.PrintMore
open Go.Proofs.YtgndhijhcliegaaW.PrintWords
theorem nx {a : Nat} (h : a ≤ 100000) : wrap64 ((a : Int) + 1) = ((a + 1 : Nat) : Int) := by rw [w64 (by omega) (by omega)]; omega
/-- An amount is made up. -/
def G (w : List Int) (n : Nat) : Prop := ∃ c, Mk w n c
theorem G.zero {w : List Int} : G w 0 := ⟨0, .zero⟩
theorem G.add {w : List Int} {a b : Nat} (h : G w a) (k : G w b) : G w (a + b) := by
  obtain ⟨d, hd⟩ := k
  induction hd with
  | zero => exact h
  | step hi hm ih =>
    obtain ⟨c, hc⟩ := ih
    rw [← Nat.add_assoc]
    exact ⟨c + 1, .step hi hc⟩
theorem G.elem {w : List Int} {i : Nat} (hi : i < w.length) : G w (rd w (i : Int)).toNat := by
  have := Mk.step hi (Mk.zero (w := w))
  rw [Nat.zero_add] at this
  exact ⟨_, this⟩
theorem G.sub {v w : List Int} (h : ∀ i : Nat, i < v.length → G w (rd v (i : Int)).toNat) {n : Nat} (g : G v n) : G w n := by
  obtain ⟨c, hc⟩ := g
  induction hc with
  | zero => exact G.zero
  | step hi hm ih => exact ih.add (h _ hi)
theorem rd_left {a b : List Int} {i : Nat} (h : i < a.length) : rd (a ++ b) (i : Int) = rd a (i : Int) := by
  rw [rd_lt (by simp; omega), rd_lt h, List.getElem_append_left h]
theorem rd_last {a : List Int} {x : Int} {i : Nat} (h : i = a.length) : rd (a ++ [x]) (i : Int) = x := by
  subst h
  rw [rd_lt (by simp)]; simp
theorem rd_take {w : List Int} {i j : Nat} (h : j < i) (hi : i ≤ w.length) : rd (w.take i) (j : Int) = rd w (j : Int) := by
  rw [rd_lt (by rw [List.length_take]; omega), rd_lt (by omega), List.getElem_take]
noncomputable def nd (w : List Int) (i : Nat) : Bool := decide (0 ≤ fw (w.take i) (rd w (i : Int)).toNat)
theorem nd_iff {w : List Int} {i : Nat} : nd w i = true ↔ G (w.take i) (rd w (i : Int)).toNat := by
  unfold nd
  rw [decide_eq_true_eq]
  exact fw_nonneg
theorem nd_not {w : List Int} {i : Nat} : nd w i = false ↔ ¬ G (w.take i) (rd w (i : Int)).toNat := by
  rw [← nd_iff, Bool.not_eq_true]
/-- The needless ones, and the others, among the first. -/
noncomputable def nl (w : List Int) : Nat → List Int
  | 0 => []
  | i + 1 => if nd w i = true then nl w i ++ [rd w (i : Int)] else nl w i
noncomputable def rl (w : List Int) : Nat → List Int
  | 0 => []
  | i + 1 => if nd w i = true then rl w i else rl w i ++ [rd w (i : Int)]
theorem nl_len (w : List Int) : ∀ i, (nl w i).length ≤ i
  | 0 => Nat.le_refl _
  | i + 1 => by
    have := nl_len w i
    unfold nl
    split
    · rw [List.length_append, List.length_singleton]; omega
    · omega
theorem rl_len (w : List Int) : ∀ i, (rl w i).length ≤ i
  | 0 => Nat.le_refl _
  | i + 1 => by
    have := rl_len w i
    unfold rl
    split
    · omega
    · rw [List.length_append, List.length_singleton]; omega
theorem rl_at (w : List Int) : ∀ i p : Nat, p < (rl w i).length → ∃ j, j < i ∧ nd w j = false ∧ rd (rl w i) (p : Int) = rd w (j : Int) ∧ (rl w i).take p = rl w j
  | 0, p, h => absurd h (Nat.not_lt_zero _)
  | i + 1, p, h => by
    cases e : nd w i with
    | true =>
      have er : rl w (i + 1) = rl w i := by show (if nd w i = true then rl w i else rl w i ++ [rd w (i : Int)]) = _; rw [if_pos e]
      rw [er] at h ⊢
      obtain ⟨j, h1, h2⟩ := rl_at w i p h
      exact ⟨j, by omega, h2⟩
    | false =>
      have er : rl w (i + 1) = rl w i ++ [rd w (i : Int)] := by show (if nd w i = true then rl w i else rl w i ++ [rd w (i : Int)]) = _; rw [if_neg (by rw [e]; decide)]
      rw [er] at h ⊢
      rw [List.length_append, List.length_singleton] at h
      by_cases c : p < (rl w i).length
      · obtain ⟨j, h1, h2, h3, h4⟩ := rl_at w i p c
        exact ⟨j, by omega, h2, by rw [rd_left c, h3], by rw [List.take_append_of_le_length (by omega), h4]⟩
      · exact ⟨i, by omega, e, rd_last (by omega), by rw [List.take_append_of_le_length (by omega), List.take_of_length_le (by omega)]⟩
theorem rl_mem {w : List Int} {j : Nat} (hj : nd w j = false) : ∀ i, j < i → ∃ p, p < (rl w i).length ∧ rd (rl w i) (p : Int) = rd w (j : Int)
  | 0, h => absurd h (Nat.not_lt_zero _)
  | i + 1, h => by
    by_cases e : nd w i = true
    · have er : rl w (i + 1) = rl w i := by show (if nd w i = true then rl w i else rl w i ++ [rd w (i : Int)]) = _; rw [if_pos e]
      rw [er]
      exact rl_mem hj i (by
        rcases Nat.lt_or_ge j i with c | c
        · exact c
        · obtain rfl : j = i := by omega
          rw [hj] at e; exact absurd e (by decide))
    · have er : rl w (i + 1) = rl w i ++ [rd w (i : Int)] := by show (if nd w i = true then rl w i else rl w i ++ [rd w (i : Int)]) = _; rw [if_neg e]
      rw [er]
      by_cases c : j = i
      · subst c
        exact ⟨(rl w j).length, by simp, rd_last rfl⟩
      · obtain ⟨p, h1, h2⟩ := rl_mem hj i (by omega)
        exact ⟨p, by rw [List.length_append]; omega, by rw [rd_left h1, h2]⟩
theorem rl_gen {w : List Int} (j : Nat) : ∀ i, j < i → i ≤ w.length → G (rl w i) (rd w (j : Int)).toNat := by
  induction j using Nat.strongRecOn with
  | _ j ih =>
    intro i h1 h2
    cases e : nd w j with
    | false =>
      obtain ⟨p, h3, h4⟩ := rl_mem e i h1
      rw [← h4]
      exact G.elem h3
    | true =>
      refine G.sub (fun q hq => ?_) (nd_iff.1 e)
      rw [List.length_take] at hq
      rw [rd_take (by omega) (by omega)]
      exact ih q (by omega) i (by omega) h2
theorem rl_G {w : List Int} {i : Nat} (hi : i ≤ w.length) {n : Nat} : G (rl w i) n ↔ G (w.take i) n := by
  constructor
  · refine G.sub (fun p hp => ?_)
    obtain ⟨j, h1, _, h2, _⟩ := rl_at w i p hp
    rw [h2, ← rd_take (i := i) h1 hi]
    exact G.elem (by rw [List.length_take]; omega)
  · refine G.sub (fun q hq => ?_)
    rw [List.length_take] at hq
    rw [rd_take (by omega) hi]
    exact rl_gen q i (by omega) hi
theorem rl_all {w : List Int} {n : Nat} : G (rl w w.length) n ↔ G w n := by
  rw [rl_G (Nat.le_refl _), List.take_length]
/-- What is left: none is made up by the smaller ones. -/
theorem rl_irr {w : List Int} {p : Nat} (hp : p < (rl w w.length).length) : ¬ G ((rl w w.length).take p) (rd (rl w w.length) (p : Int)).toNat := by
  obtain ⟨j, h1, h2, h3, h4⟩ := rl_at w w.length p hp
  rw [h3, h4, rl_G (by omega)]
  exact nd_not.1 h2
theorem nl_irr {x : List Int} (h : ∀ p : Nat, p < x.length → ¬ G (x.take p) (rd x (p : Int)).toNat) : ∀ p, p ≤ x.length → nl x p = []
  | 0, _ => rfl
  | p + 1, hp => by
    show (if nd x p = true then nl x p ++ [rd x (p : Int)] else nl x p) = []
    rw [if_neg (by rw [nd_not.2 (h p (by omega))]; decide)]
    exact nl_irr h p (by omega)
theorem rl_irr' {x : List Int} (h : ∀ p : Nat, p < x.length → ¬ G (x.take p) (rd x (p : Int)).toNat) : ∀ p, p ≤ x.length → rl x p = x.take p
  | 0, _ => by simp [rl]
  | p + 1, hp => by
    show (if nd x p = true then rl x p else rl x p ++ [rd x (p : Int)]) = _
    rw [if_neg (by rw [nd_not.2 (h p (by omega))]; decide), rl_irr' h p (by omega), List.take_add_one, List.getElem?_eq_getElem (by omega), rd_lt (by omega)]
    rfl
theorem rl_idem {w : List Int} : rl (rl w w.length) (rl w w.length).length = rl w w.length := by
  rw [rl_irr' (fun p hp => rl_irr hp) _ (Nat.le_refl _), List.take_length]
theorem up {w : List Int} (ok : Ok w) {i : Nat} : ∀ d : Nat, i + (d + 1) < w.length → rd w (i : Int) < rd w ((i + (d + 1) : Nat) : Int)
  | 0, h => by
    have h2 := (ok.2 (i + 1) (by omega)).2 (by omega)
    rw [show ((i + 1 : Nat) : Int) - 1 = (i : Int) by omega] at h2
    exact h2
  | d + 1, h => by
    have h1 := up ok (i := i) d (by omega)
    have h2 := (ok.2 (i + (d + 1) + 1) (by omega)).2 (by omega)
    rw [show ((i + (d + 1) + 1 : Nat) : Int) - 1 = ((i + (d + 1) : Nat) : Int) by omega] at h2
    rw [show i + (d + 1 + 1) = i + (d + 1) + 1 by omega]; omega
theorem up' {w : List Int} (ok : Ok w) {i j : Nat} (h : i < j) (hj : j < w.length) : rd w (i : Int) < rd w (j : Int) := by
  have := up ok (i := i) (j - i - 1) (by omega)
  rwa [show i + (j - i - 1 + 1) = j by omega] at this
theorem nd_zero {w : List Int} (ok : Ok w) : nd w 0 = false := by
  rw [nd_not]
  rintro ⟨c, hc⟩
  have h := (ok.2 0 (by have := ok.1; omega)).1
  rcases mk_inv hc with ⟨h1, h2⟩ | ⟨i, m, d, h1, h2⟩
  · omega
  · simp at h1
theorem rl_ok {w : List Int} (ok : Ok w) : Ok (rl w w.length) := by
  have h0 := ok.1
  obtain ⟨p0, h1, _⟩ := rl_mem (nd_zero ok) w.length (by omega)
  have h2 := rl_len w w.length
  refine ⟨⟨by omega, by omega⟩, fun p hp => ?_⟩
  obtain ⟨j, h3, _, h4, h5⟩ := rl_at w w.length p hp
  refine ⟨by rw [h4]; exact (ok.2 j h3).1, fun hpp => ?_⟩
  have h6 : p - 1 < (rl w j).length := by rw [← h5, List.length_take]; omega
  obtain ⟨j', h7, _, h8, _⟩ := rl_at w j (p - 1) h6
  have h9 : rd (rl w w.length) ((p : Int) - 1) = rd w (j' : Int) := by
    rw [show (p : Int) - 1 = ((p - 1 : Nat) : Int) by omega, ← h8, ← h5, rd_take (by omega) (by omega)]
  rw [h9, h4]
  exact up' ok h7 h3
/-- One set of weights is all that is left of the amounts. -/
theorem low {y : List Int} {p n : Nat} (hp : p ≤ y.length) (h : ∀ q : Nat, p ≤ q → q < y.length → (n : Int) < rd y (q : Int)) (hy : ∀ q : Nat, q < y.length → 1 ≤ rd y (q : Int)) (g : G y n) : G (y.take p) n := by
  obtain ⟨c, hc⟩ := g
  induction hc with
  | zero => exact G.zero
  | @step m c i hi hm ih =>
    have hyi := hy i hi
    have hip : i < p := by
      rcases Nat.lt_or_ge i p with q | q
      · exact q
      · have := h i q hi; omega
    have h1 := ih (fun q a b => by have := h q a b; omega)
    refine h1.add ?_
    rw [← rd_take hip hp]
    exact G.elem (by rw [List.length_take]; omega)
theorem uniq1 {x y : List Int} (ox : Ok x) (oy : Ok y) (ix : ∀ p : Nat, p < x.length → ¬ G (x.take p) (rd x (p : Int)).toNat) (iy : ∀ p : Nat, p < y.length → ¬ G (y.take p) (rd y (p : Int)).toNat) (hG : ∀ n, G x n ↔ G y n) :
    ∀ p, p ≤ x.length → p ≤ y.length ∧ x.take p = y.take p := by
  have px : ∀ q : Nat, q < x.length → 1 ≤ rd x (q : Int) := fun q hq => (ox.2 q hq).1.1
  have py : ∀ q : Nat, q < y.length → 1 ≤ rd y (q : Int) := fun q hq => (oy.2 q hq).1.1
  intro p
  induction p with
  | zero => exact fun _ => ⟨Nat.zero_le _, by simp⟩
  | succ p ih =>
    intro hp
    obtain ⟨h1, h2⟩ := ih (by omega)
    have p1 := px p (by omega)
    have key : ¬ (∀ q : Nat, p ≤ q → q < y.length → rd x (p : Int) < rd y (q : Int)) := fun hq => by
      refine ix p (by omega) ?_
      rw [h2]
      exact low h1 (fun q a b => by have := hq q a b; omega) py ((hG _).1 (G.elem (by omega)))
    have hpy : p < y.length := by
      rcases Nat.lt_or_ge p y.length with q | q
      · exact q
      · exact absurd (fun r a b => by omega) key
    have key2 : ¬ (rd x (p : Int) < rd y (p : Int)) := fun hlt => key (fun q a b => by
      rcases Nat.lt_or_ge p q with c | c
      · have := up' oy c b; omega
      · obtain rfl : p = q := by omega
        exact hlt)
    have p2 := py p hpy
    have key3 : ¬ (rd y (p : Int) < rd x (p : Int)) := fun hlt => by
      refine iy p hpy ?_
      rw [← h2]
      refine low (by omega) (fun q a b => ?_) px ((hG _).2 (G.elem hpy))
      rcases Nat.lt_or_ge p q with c | c
      · have := up' ox c b; omega
      · obtain rfl : p = q := by omega
        omega
    have e : rd x (p : Int) = rd y (p : Int) := by omega
    refine ⟨by omega, ?_⟩
    rw [List.take_add_one, List.take_add_one, h2, List.getElem?_eq_getElem (by omega), List.getElem?_eq_getElem hpy]
    rw [rd_lt (by omega), rd_lt hpy] at e
    rw [e]
theorem uniq {x y : List Int} (ox : Ok x) (oy : Ok y) (ix : ∀ p : Nat, p < x.length → ¬ G (x.take p) (rd x (p : Int)).toNat) (iy : ∀ p : Nat, p < y.length → ¬ G (y.take p) (rd y (p : Int)).toNat) (hG : ∀ n, G x n ↔ G y n) : x = y := by
  have h1 := (uniq1 ox oy ix iy hG x.length (Nat.le_refl _))
  have h2 := (uniq1 oy ox iy ix (fun n => (hG n).symm) y.length (Nat.le_refl _)).1
  have h3 := h1.2
  rw [List.take_length, List.take_of_length_le (by omega)] at h3
  exact h3
theorem same_iff {v w : List Int} (ov : Ok v) (ow : Ok w) : rl v v.length = rl w w.length ↔ (∀ i : Nat, i < v.length → G w (rd v (i : Int)).toNat) ∧ ∀ i : Nat, i < w.length → G v (rd w (i : Int)).toNat := by
  constructor
  · intro h
    have hG : ∀ n, G v n ↔ G w n := fun n => by rw [← rl_all (w := v), ← rl_all (w := w), h]
    exact ⟨fun i hi => (hG _).1 (G.elem hi), fun i hi => (hG _).2 (G.elem hi)⟩
  · rintro ⟨h1, h2⟩
    exact uniq (rl_ok ov) (rl_ok ow) (fun p hp => rl_irr hp) (fun p hp => rl_irr hp) (fun n => by
      rw [rl_all, rl_all]
      exact ⟨G.sub h1, G.sub h2⟩)
theorem take_wt {w : List Int} (ok : Ok w) {i : Nat} : Wt (w.take i) := by
  have h0 := ok.1
  refine ⟨by rw [List.length_take]; omega, fun j hj => ?_⟩
  rw [List.length_take] at hj
  by_cases c : i ≤ w.length
  · rw [rd_take (by omega) c]; exact (ok.2 j (by omega)).1
  · rw [List.take_of_length_le (by omega)]; exact (ok.2 j (by omega)).1
theorem ev_fillc {w : List Int} (ok : Ok w) {i : Nat} (hi : i < w.length) {r : List Int} {F : Nat → Bool → Option (List Int)} (h : Tl (fun k => F k (nd w i)) r) :
    Tl (fun k => (charge_fill.f k (w.take i) (rd w (i : Int))).bind fun t => (charge_table_can.f t.1 t.2 (rd w (i : Int))).bind fun b => F k b) r := by
  have hr := (ok.2 i hi).1
  obtain ⟨m, hm⟩ : ∃ m : Nat, rd w (i : Int) = (m : Int) := ⟨(rd w (i : Int)).toNat, by omega⟩
  obtain ⟨L, h1, h2, h3⟩ := ev_fill (take_wt ok (i := i)) (m := m) (by omega)
  have e : charge_table_can.f (tab (w.take i) (m + 1)) L (m : Int) = some (nd w i) := by
    unfold charge_table_can.f nd
    rw [if_pos (by omega), if_pos (by rw [tab_length]; omega), tab_rd (by omega), hm, Int.toNat_natCast]
  rw [hm]
  exact Tl.bind h3 (Tl.bind' e h)
theorem nl_loop {w : List Int} (ok : Ok w) : ∀ (d i : Nat), i + d = w.length → Tl (fun k => charge_needless.l0 k w (nl w i) w (w.length : Int) (i : Int)) (nl w w.length) := by
  have h0 := ok.1
  intro d
  induction d with
  | zero =>
    intro i hi
    refine Tl.succ ?_
    simp only [charge_needless.l0]
    exact Tl.to (Tl.neg (by omega) Tl.now) (by rw [show i = w.length by omega])
  | succ d ih =>
    intro i hi
    have next := ih (i + 1) (by omega)
    have E := Aside0.mk (nx (a := i) (by omega))
    have hl := nl_len w i
    refine Tl.succ ?_
    simp only [charge_needless.l0]
    rw [E.out]
    refine Tl.pos (by omega) (Tl.pos (by omega) (Tl.pos (by omega) ?_))
    have en : nl w (i + 1) = if nd w i = true then nl w i ++ [rd w (i : Int)] else nl w i := rfl
    by_cases c : i = 0
    · refine Tl.neg (by omega) ?_
      rw [en, if_neg (by rw [c, nd_zero ok]; decide)] at next
      exact next
    · refine Tl.pos (by omega) (Tl.pos (by omega) ?_)
      rw [Int.toNat_natCast]
      refine ev_fillc ok (by omega) (F := fun k b => if b = true then (if (nl w i).length < 17592186044416 then (charge_needless.l0 k w (nl w i ++ [rd w (i : Int)]) w (w.length : Int) ((i + 1 : Nat) : Int)) else none) else (charge_needless.l0 k w (nl w i) w (w.length : Int) ((i + 1 : Nat) : Int))) ?_
      by_cases e : nd w i = true
      · rw [en, if_pos e] at next
        exact Tl.pos e (Tl.pos (by omega) next)
      · rw [en, if_neg e] at next
        exact Tl.neg e next
theorem ev_needless {w : List Int} (ok : Ok w) : Tl (fun k => charge_needless.f k w) (nl w w.length) := by
  unfold charge_needless.f
  exact nl_loop ok w.length 0 (by omega)
theorem nl_has {w : List Int} (ok : Ok w) : ∀ (n : Nat), n ≤ w.length → ∀ j : Nat, j < w.length → (rd w (j : Int) ∈ nl w n ↔ j < n ∧ nd w j = true)
  | 0, _, j, _ => by simp [nl]
  | n + 1, hn, j, hj => by
    have ih := nl_has ok n (by omega) j hj
    have ne : j ≠ n → rd w (j : Int) ≠ rd w (n : Int) := fun h => by
      rcases Nat.lt_or_gt_of_ne h with c | c
      · have := up' ok c (by omega); omega
      · have := up' ok c hj; omega
    show rd w (j : Int) ∈ (if nd w n = true then nl w n ++ [rd w (n : Int)] else nl w n) ↔ _
    by_cases e : nd w n = true
    · rw [if_pos e, List.mem_append, List.mem_singleton, ih]
      constructor
      · rintro (h | h)
        · exact ⟨by omega, h.2⟩
        · have : j = n := by
            rcases Nat.decEq j n with c | c
            · exact absurd h (ne c)
            · exact c
          subst this; exact ⟨by omega, e⟩
      · rintro ⟨h1, h2⟩
        by_cases c : j = n
        · exact Or.inr (by rw [c])
        · exact Or.inl ⟨by omega, h2⟩
    · rw [if_neg e, ih]
      constructor
      · exact fun h => ⟨by omega, h.2⟩
      · rintro ⟨h1, h2⟩
        by_cases c : j = n
        · subst c; exact absurd h2 e
        · exact ⟨by omega, h2⟩
theorem filt {w : List Int} (ok : Ok w) : ∀ n, n ≤ w.length → (w.take n).filter (fun x => !(nl w w.length).contains x) = rl w n
  | 0, _ => by simp [rl]
  | n + 1, hn => by
    rw [List.take_add_one, List.getElem?_eq_getElem (by omega), List.filter_append, filt ok n (by omega)]
    have h := nl_has ok w.length (Nat.le_refl _) n (by omega)
    rw [rd_lt (by omega)] at h
    show rl w n ++ [w[n]].filter _ = (if nd w n = true then rl w n else rl w n ++ [rd w (n : Int)])
    by_cases e : nd w n = true
    · rw [if_pos e, List.filter_cons_of_neg (by simp only [Bool.not_eq_true', Bool.not_eq_false]; exact List.contains_iff_mem.2 (h.2 ⟨by omega, e⟩))]
      simp
    · rw [if_neg e, List.filter_cons_of_pos (by
        simp only [Bool.not_eq_true']
        rw [← Bool.not_eq_true, List.contains_iff_mem]
        exact fun q => e (h.1 q).2), rd_lt (by omega)]
      simp
theorem ev_reduce {w : List Int} (ok : Ok w) : Tl (fun k => charge_reduce.f k w) (rl w w.length) := by
  have h0 := ok.1
  have h1 := nl_len w w.length
  have h2 := filt ok w.length (Nat.le_refl _)
  rw [List.take_length] at h2
  unfold charge_reduce.f
  refine Tl.bind (ev_needless ok) ?_
  rw [if_pos ⟨by omega, by omega, by omega⟩, h2]
  exact Tl.now
theorem ev_Reduce (w : List Int) : Tl (fun k => charge_Reduce.f k w) (if vc w = 0 then (rl w w.length, 0) else ([], vc w)) := by
  unfold charge_Reduce.f
  refine Tl.bind (ev_Validate w) ?_
  by_cases h : vc w = 0
  · rw [if_pos h]; exact Tl.pos h (Tl.bind (ev_reduce (vc_ok.1 h)) Tl.now)
  · rw [if_neg h]; exact Tl.neg h Tl.now
theorem eq_loop {a b : List Int} (hl : a.length ≤ 1000) (he : a.length = b.length) : ∀ (d i : Nat), i ≤ a.length → a.length - i = d → Tl (fun k => slices_Equal_int_int.l0 k a b (a.length : Int) (i : Int)) (decide (a.drop i = b.drop i)) := by
  intro d
  induction d with
  | zero =>
    intro i h1 h2
    refine Tl.succ ?_
    simp only [slices_Equal_int_int.l0]
    refine Tl.to (Tl.neg (by omega) Tl.now) ?_
    rw [List.drop_eq_nil_of_le (by omega), List.drop_eq_nil_of_le (by omega)]; rfl
  | succ d ih =>
    intro i h1 h2
    have ha : i < a.length := by omega
    have hb : i < b.length := by omega
    have next := ih (i + 1) (by omega) (by omega)
    have E := Aside0.mk (nx (a := i) (by omega))
    refine Tl.succ ?_
    simp only [slices_Equal_int_int.l0]
    rw [E.out, rd_lt ha, rd_lt hb]
    refine Tl.pos (by omega) (Tl.pos (by omega) (Tl.pos (by omega) (Tl.pos (by omega) ?_)))
    rw [List.drop_eq_getElem_cons ha, List.drop_eq_getElem_cons hb]
    by_cases c : a[i] = b[i]
    · exact Tl.pos c (Tl.to next (decide_eq_decide.2 ⟨fun q => by rw [c, q], fun q => (List.cons.inj q).2⟩))
    · exact Tl.neg c (Tl.to Tl.now (decide_eq_false (fun q => c (List.cons.inj q).1)).symm)
theorem ev_Equal {a b : List Int} (hl : a.length ≤ 1000) : Tl (fun k => slices_Equal_int_int.f k a b) (decide (a = b)) := by
  unfold slices_Equal_int_int.f
  by_cases h : a.length = b.length
  · exact Tl.pos (by omega) (eq_loop hl h a.length 0 (by omega) (by omega))
  · exact Tl.neg (by omega) (Tl.to Tl.now (decide_eq_false (fun q => h (by rw [q]))).symm)
noncomputable def sc (v w : List Int) : Bool × Int := if vc v = 0 then (if vc w = 0 then (decide (rl v v.length = rl w w.length), 0) else (false, vc w)) else (false, vc v)
theorem ev_Same (v w : List Int) : Tl (fun k => charge_Same.f k v w) (sc v w) := by
  unfold charge_Same.f sc
  refine Tl.bind (ev_Validate v) ?_
  by_cases h : vc v = 0
  · rw [if_pos h]
    refine Tl.pos h (Tl.bind (ev_Validate w) ?_)
    by_cases h' : vc w = 0
    · rw [if_pos h']
      have hv := vc_ok.1 h
      have hl := rl_len v v.length
      have h0 := hv.1
      exact Tl.pos h' (Tl.bind (ev_reduce hv) (Tl.bind (ev_reduce (vc_ok.1 h')) (Tl.bind (ev_Equal (by omega)) Tl.now)))
    · rw [if_neg h']; exact Tl.neg h' Tl.now
  · rw [if_neg h]; exact Tl.neg h Tl.now
end Go.Proofs.Ytgndhijhcliegaa.Nd
namespace Go.Proofs.Ytgndhijhcliegaa.Pure
open Go.RowKit Go.Proofs.Ytgndhijhcliegaa.P Go.Proofs.Ytgndhijhcliegaa.E Go.Proofs.Ytgndhijhcliegaa.Va Go.Proofs.Ytgndhijhcliegaa.Kn Go.Proofs.Ytgndhijhcliegaa.Me Go.Proofs.Ytgndhijhcliegaa.Cc Go.Proofs.YtgndhijhcliegaaW.PrintMore
open Go.Proofs.YtgndhijhcliegaaW.PrintWords
namespace Fir
theorem fire_loop {w T L : List Int} (ok : Ok w) {a : Nat} (ha : a ≤ 2000) (hL : L.length = a + 1) (hLo : LOk w L (a + 1)) (n : Nat) : ∀ c : List Int, n ≤ a → 0 ≤ fw w n → c.length = w.length → (∀ i : Nat, i < c.length → 0 ≤ rd c (i : Int) ∧ rd c (i : Int) ≤ 2000 - n) →
    ∃ r : List Int, r.length = w.length ∧ (∀ i : Nat, i < r.length → 0 ≤ rd r (i : Int) ∧ rd r (i : Int) ≤ 2000) ∧ am w r w.length = am w c w.length + n ∧ sm r w.length = sm c w.length + fw w n ∧ Tl (fun k => charge_Fire.l0 k w (n : Int) c T L) (r, true, 0) := by
  induction n using Nat.strongRecOn with
  | _ n ih =>
    intro c h1 h2 h3 h4
    by_cases z : n = 0
    · subst z
      refine ⟨c, h3, fun i hi => by have := h4 i hi; omega, by omega, by rw [fw_zero]; omega, Tl.succ ?_⟩
      simp only [charge_Fire.l0]
      exact Tl.neg (by omega) Tl.now
    · obtain ⟨i, m, e1, e2, e3, e4⟩ := hLo n (by omega) (by omega) h2
      have hi := (ok.2 i e2).1
      have hpos : 0 < fw w n := by
        rcases fw_few w n with ⟨f1, _⟩ | ⟨d, f1, f2, _⟩
        · omega
        · rcases mk_inv f2 with q | ⟨_, _, d', _, _, _, q⟩
          · omega
          · omega
      have hc := h4 i (by omega)
      have hil : i < c.length := by omega
      obtain ⟨r, r1, r2, r3, r4, r5⟩ := ih m (by omega) (c.set i (rd c (i : Int) + 1)) (by omega) (by omega) (by simpa using h3) (fun j hj => by
        rw [rd_set hil]
        have := h4 j (by simpa using hj)
        by_cases e : j = i
        · rw [if_pos e]; omega
        · rw [if_neg e]; omega)
      rw [am_set hil, if_pos e2] at r3
      rw [sm_set hil, if_pos e2] at r4
      refine ⟨r, r1, r2, by omega, by omega, Tl.succ ?_⟩
      simp only [charge_Fire.l0]
      rw [e1, w64 (x := (n : Int) - rd w (i : Int)) (by omega) (by omega), w64 (x := rd c (i : Int) + 1) (by omega) (by omega), Int.toNat_natCast, show (n : Int) - rd w (i : Int) = (m : Int) by omega]
      exact Tl.pos (by omega) (Tl.pos (by omega) (Tl.pos (by omega) (Tl.pos (by omega) (Tl.pos (by omega) (Tl.pos (by omega) r5)))))
theorem zeros (w : List Int) (n : Nat) : am w (List.replicate w.length 0) n = 0 ∧ sm (List.replicate w.length 0) n = 0 := by
  have e : ∀ i : Nat, rd (List.replicate w.length 0) (i : Int) = 0 := by
    intro i
    rw [rd_nat, List.getD_eq_getElem?_getD]
    by_cases h : i < w.length
    · rw [List.getElem?_replicate, if_pos h]; rfl
    · rw [List.getElem?_replicate, if_neg h]; rfl
  induction n with
  | zero => exact ⟨rfl, rfl⟩
  | succ n ih =>
    refine ⟨?_, ?_⟩
    · show am w _ n + rd _ (n : Int) * _ = 0
      rw [ih.1, e]; omega
    · show sm _ n + rd _ (n : Int) = 0
      rw [ih.2, e]; omega
end Fir
end Go.Proofs.Ytgndhijhcliegaa.Pure
namespace Go.Proofs.Ytgndhijhcliegaa.Pure
open Go.RowKit Go.Proofs.Ytgndhijhcliegaa.P Go.Proofs.Ytgndhijhcliegaa.E Go.Proofs.Ytgndhijhcliegaa.Va Go.Proofs.Ytgndhijhcliegaa.Kn Go.Proofs.Ytgndhijhcliegaa.Me Go.Proofs.Ytgndhijhcliegaa.Rs Go.Proofs.YtgndhijhcliegaaW.PrintMore
open Go.Proofs.YtgndhijhcliegaaW.PrintWords
namespace Wys
/-- With one weight more: none of it, or one less. -/
def wyi (f : Nat → Nat) (c n : Nat) : Nat := if h : 1 ≤ c ∧ c ≤ n then f n + wyi f c (n - c) else f n
termination_by n
decreasing_by omega
theorem wyi_step {f : Nat → Nat} {c n : Nat} (h1 : 1 ≤ c) (h2 : c ≤ n) : wyi f c n = f n + wyi f c (n - c) := by
  rw [wyi, dif_pos ⟨h1, h2⟩]
theorem wyi_end {f : Nat → Nat} {c n : Nat} (h2 : n < c) : wyi f c n = f n := by
  rw [wyi, dif_neg (by omega)]
/-- In how many ways, by the first weights. -/
def wy (w : List Int) : Nat → Nat → Nat
  | 0 => fun n => if n = 0 then 1 else 0
  | i + 1 => wyi (wy w i) (rd w (i : Int)).toNat
theorem wyi_le {f : Nat → Nat} {c M : Nat} (n : Nat) (h : ∀ m, m ≤ n → f m ≤ M) : wyi f c n ≤ (n + 1) * M := by
  induction n using Nat.strongRecOn with
  | _ n ih =>
    by_cases z : 1 ≤ c ∧ c ≤ n
    · rw [wyi_step z.1 z.2]
      have h1 := ih (n - c) (by omega) (fun m hm => h m (by omega))
      have h2 := h n (Nat.le_refl _)
      have h3 : (n - c + 1) * M ≤ n * M := Nat.mul_le_mul_right _ (by omega)
      rw [Nat.add_mul]
      omega
    · rw [wyi, dif_neg z]
      have h2 := h n (Nat.le_refl _)
      rw [Nat.add_mul]
      omega
theorem wy_le {w : List Int} : ∀ i n : Nat, n ≤ 200 → wy w i n ≤ 201 ^ i := by
  intro i
  induction i with
  | zero => intro n _; show (if n = 0 then 1 else 0) ≤ 1; by_cases h : n = 0 <;> simp [h]
  | succ i ih =>
    intro n hn
    have h1 := wyi_le (f := wy w i) (c := (rd w (i : Int)).toNat) (M := 201 ^ i) n (fun m hm => ih m (by omega))
    have h2 : (n + 1) * 201 ^ i ≤ 201 * 201 ^ i := Nat.mul_le_mul_right _ (by omega)
    rw [Nat.pow_succ, Nat.mul_comm (201 ^ i)]
    exact Nat.le_trans h1 h2
theorem pow_small {i : Nat} (h : i ≤ 4) : 201 ^ i ≤ 1632240801 := by
  have : (201 : Nat) ^ i ≤ 201 ^ 4 := Nat.pow_le_pow_right (by omega) h
  exact Nat.le_trans this (by decide)
theorem wyi_pos {f : Nat → Nat} {c : Nat} (hc : 1 ≤ c) (n : Nat) : 0 < wyi f c n ↔ ∃ t, t * c ≤ n ∧ 0 < f (n - t * c) := by
  induction n using Nat.strongRecOn with
  | _ n ih =>
    by_cases z : c ≤ n
    · rw [wyi_step hc z]
      constructor
      · intro h
        rcases Nat.eq_zero_or_pos (f n) with q | q
        · obtain ⟨t, t1, t2⟩ := (ih (n - c) (by omega)).1 (by omega)
          refine ⟨t + 1, by rw [Nat.add_mul]; omega, ?_⟩
          rw [Nat.add_mul, Nat.one_mul, show n - (t * c + c) = n - c - t * c by omega]
          exact t2
        · exact ⟨0, by omega, by simpa using q⟩
      · rintro ⟨t, t1, t2⟩
        rcases Nat.eq_zero_or_pos t with q | q
        · subst q
          rw [Nat.zero_mul, Nat.sub_zero] at t2
          omega
        · obtain ⟨s, rfl⟩ : ∃ s, t = s + 1 := ⟨t - 1, by omega⟩
          rw [Nat.add_mul, Nat.one_mul] at t1 t2
          have := (ih (n - c) (by omega)).2 ⟨s, by omega, by rw [show n - c - s * c = n - (s * c + c) by omega]; exact t2⟩
          omega
    · rw [wyi_end (by omega)]
      constructor
      · intro h; exact ⟨0, by omega, by simpa using h⟩
      · rintro ⟨t, t1, t2⟩
        rcases Nat.eq_zero_or_pos t with q | q
        · subst q; simpa using t2
        · have : 1 * c ≤ t * c := Nat.mul_le_mul_right _ q
          omega
theorem wy_made {w : List Int} (hw : Wt w) : ∀ i : Nat, i ≤ w.length → ∀ n, 0 < wy w i n → made w n := by
  intro i
  induction i with
  | zero =>
    intro _ n h
    have : 0 < (if n = 0 then 1 else 0) := h
    by_cases z : n = 0
    · subst z; exact made_zero w
    · rw [if_neg z] at this; omega
  | succ i ih =>
    intro hi n h
    have hwi := hw.2 i (by omega)
    obtain ⟨t, t1, t2⟩ := (wyi_pos (by omega) n).1 h
    have := made_add (ih (by omega) _ t2) (made_mul (made_weight (w := w) (i := i) (by omega)) t)
    rw [Nat.mul_comm (rd w (i : Int)).toNat t, Nat.sub_add_cancel t1] at this
    exact this
theorem wy_more {w : List Int} (hw : Wt w) {j : Nat} : ∀ i : Nat, j < i → i ≤ w.length → ∀ n, 0 < wy w i n → 0 < wy w i (n + (rd w (j : Int)).toNat) := by
  intro i
  induction i with
  | zero => intro h; omega
  | succ i ih =>
    intro h1 h2 n h
    have hwi := hw.2 i (by omega)
    show 0 < wyi (wy w i) _ _
    by_cases e : j = i
    · subst e
      rw [wyi_step (by omega) (by omega), Nat.add_sub_cancel]
      have : 0 < wyi (wy w j) (rd w (j : Int)).toNat n := h
      omega
    · obtain ⟨t, t1, t2⟩ := (wyi_pos (by omega) n).1 h
      refine (wyi_pos (by omega) _).2 ⟨t, by omega, ?_⟩
      have := ih (by omega) (by omega) _ t2
      rw [show n + (rd w (j : Int)).toNat - t * (rd w (i : Int)).toNat = n - t * (rd w (i : Int)).toNat + (rd w (j : Int)).toNat by omega]
      exact this
theorem made_wy {w : List Int} (hw : Wt w) {n : Nat} (h : made w n) : 0 < wy w w.length n := by
  obtain ⟨c, hc⟩ := h
  induction hc with
  | zero =>
    have : ∀ i : Nat, i ≤ w.length → 0 < wy w i 0 := by
      intro i
      induction i with
      | zero => intro _; show 0 < (if (0 : Nat) = 0 then 1 else 0); simp
      | succ i ih =>
        intro hi
        have := hw.2 i (by omega)
        show 0 < wyi (wy w i) _ 0
        rw [wyi_end (by omega)]
        exact ih (by omega)
    exact this _ (Nat.le_refl _)
  | step hi _ ih => exact wy_more hw _ hi (Nat.le_refl _) _ ih
theorem mod_wy {c : Nat} (hc : 1 ≤ c) (n : Nat) : wyi (fun n => if n = 0 then 1 else 0) c n = if n % c = 0 then 1 else 0 := by
  induction n using Nat.strongRecOn with
  | _ n ih =>
    by_cases z : c ≤ n
    · rw [wyi_step hc z, ih (n - c) (by omega), if_neg (by omega), Nat.mod_eq_sub_mod z, Nat.zero_add]
    · rw [wyi_end (by omega), Nat.mod_eq_of_lt (by omega)]
/-- The program's list while a weight is taken in. -/
def gw (w : List Int) (i n a : Nat) : List Int := (List.range (a + 1)).map (fun (j : Nat) => if j < n then ((wy w (i + 1) j : Nat) : Int) else ((wy w i j : Nat) : Int))
theorem gw_length (w : List Int) (i n a : Nat) : (gw w i n a).length = a + 1 := by simp [gw]
theorem gw_rd {w : List Int} {i n a j : Nat} (h : j ≤ a) : rd (gw w i n a) (j : Int) = if j < n then ((wy w (i + 1) j : Nat) : Int) else ((wy w i j : Nat) : Int) := by
  rw [rd_lt (by rw [gw_length]; omega)]; simp [gw]
theorem gw_set {w : List Int} {i n a : Nat} (hn : n ≤ a) : (gw w i n a).set n ((wy w (i + 1) n : Nat) : Int) = gw w i (n + 1) a := by
  refine List.ext_getElem (by simp [gw_length]) (fun j h1 h2 => ?_)
  rw [List.getElem_set]
  by_cases e : n = j
  · subst e; rw [if_pos rfl]; simp [gw]
  · rw [if_neg e]
    simp only [gw, List.getElem_map, List.getElem_range]
    by_cases c : j < n
    · rw [if_pos c, if_pos (by omega)]
    · rw [if_neg c, if_neg (by omega)]
theorem gw_first {w : List Int} {i a : Nat} (hw : 1 ≤ rd w (i : Int)) {n : Nat} (hn : n ≤ (rd w (i : Int)).toNat) : gw w i n a = (List.range (a + 1)).map (fun (j : Nat) => ((wy w i j : Nat) : Int)) := by
  unfold gw
  refine List.map_congr_left (fun j _ => ?_)
  by_cases c : j < n
  · rw [if_pos c]
    show ((wyi (wy w i) _ j : Nat) : Int) = _
    rw [wyi_end (by omega)]
  · rw [if_neg c]
theorem gw_last {w : List Int} {i a n : Nat} (hn : a < n) : gw w i n a = (List.range (a + 1)).map (fun (j : Nat) => ((wy w (i + 1) j : Nat) : Int)) := by
  unfold gw
  refine List.map_congr_left (fun j hj => ?_)
  rw [if_pos (by have := List.mem_range.1 hj; omega)]
theorem ways_in {w : List Int} (hw : Wt w) (h4 : w.length ≤ 4) {a i : Nat} (ha : a ≤ 200) (hi : i < w.length) {r : Int × Int}
    (next : Tl (fun k => charge_Ways.l0 k (a : Int) ((List.range (a + 1)).map (fun (j : Nat) => ((wy w (i + 1) j : Nat) : Int))) w (w.length : Int) ((i : Int) + 1)) r) (d : Nat) :
    ∀ n : Nat, (rd w (i : Int)).toNat ≤ n → n ≤ a + 31 → a + 31 - n = d → Tl (fun k => charge_Ways.l1 k (a : Int) (gw w i n a) (rd w (i : Int)) (n : Int) w (w.length : Int) (i : Int)) r := by
  have hwi := hw.2 i hi
  induction d with
  | zero =>
    intro n h1 h2 h3
    refine Tl.succ ?_
    simp only [charge_Ways.l1]
    rw [w64 (x := (i : Int) + 1) (by omega) (by omega), gw_last (by omega)]
    exact Tl.neg (by omega) next
  | succ d ih =>
    intro n h1 h2 h3
    refine Tl.succ ?_
    simp only [charge_Ways.l1]
    by_cases c : n ≤ a
    · have hl := gw_length w i n a
      have e : (n : Int) - rd w (i : Int) = ((n - (rd w (i : Int)).toNat : Nat) : Int) := by omega
      rw [w64 (x := (n : Int) - rd w (i : Int)) (by omega) (by omega), e, gw_rd c, gw_rd (show n - (rd w (i : Int)).toNat ≤ a by omega), if_neg (by omega), if_pos (by omega)]
      have e2 : ((wy w i n : Nat) : Int) + ((wy w (i + 1) (n - (rd w (i : Int)).toNat) : Nat) : Int) = ((wy w (i + 1) n : Nat) : Int) := by
        show _ + ((wyi (wy w i) _ (n - (rd w (i : Int)).toNat) : Nat) : Int) = ((wyi (wy w i) _ n : Nat) : Int)
        rw [wyi_step (f := wy w i) (n := n) (by omega) h1]
        omega
      have hb := wy_le (w := w) (i + 1) n (by omega)
      have hp := pow_small (i := i + 1) (by omega)
      have next2 := ih (n + 1) (by omega) (by omega) (by omega)
      rw [show ((n + 1 : Nat) : Int) = (n : Int) + 1 by omega] at next2
      rw [e2, w64 (x := ((wy w (i + 1) n : Nat) : Int)) (by omega) (by omega), w64 (x := (n : Int) + 1) (by omega) (by omega), Int.toNat_natCast, gw_set c]
      exact Tl.pos (by omega) (Tl.pos (by omega) (Tl.pos (by omega) (Tl.pos (by omega) (Tl.pos (by omega) next2))))
    · rw [w64 (x := (i : Int) + 1) (by omega) (by omega), gw_last (by omega)]
      exact Tl.neg (by omega) next
noncomputable def wc (w : List Int) (a : Int) : Int × Int := if ac w a = 0 then (if a > 200 then (0, 3) else (((wy w w.length a.toNat : Nat) : Int), 0)) else (0, ac w a)
theorem ev_Ways (w : List Int) (a : Int) : Tl (fun k => charge_Ways.f k w a) (wc w a) := by
  unfold charge_Ways.f
  refine Tl.bind (ev_amounted w a) ?_
  by_cases h : ac w a = 0
  · have hk := ac_ok.1 h
    have hw := hk.1.wt
    have h4 := hk.1.1.2
    refine Tl.pos h ?_
    by_cases c : a > 200
    · have e : wc w a = (0, 3) := by unfold wc; rw [if_pos h, if_pos c]
      rw [e]; exact Tl.pos c Tl.now
    · obtain ⟨m, rfl⟩ : ∃ m : Nat, a = (m : Int) := ⟨a.toNat, by omega⟩
      have e : wc w (m : Int) = (((wy w w.length m : Nat) : Int), 0) := by unfold wc; rw [if_pos h, if_neg c, Int.toNat_natCast]
      rw [e]
      have e0 : (List.replicate (m + 1) (0 : Int)).set 0 1 = (List.range (m + 1)).map (fun (j : Nat) => ((wy w 0 j : Nat) : Int)) := by
        refine List.ext_getElem (by simp) (fun j h1 h2 => ?_)
        rw [List.getElem_set]
        simp only [List.getElem_map, List.getElem_range]
        show _ = ((if j = 0 then 1 else 0 : Nat) : Int)
        by_cases z : 0 = j
        · subst z; simp
        · rw [if_neg z, if_neg (fun q => z q.symm)]; simp
      have loop : ∀ d i : Nat, i + d = w.length → Tl (fun k => charge_Ways.l0 k (m : Int) ((List.range (m + 1)).map (fun (j : Nat) => ((wy w i j : Nat) : Int))) w (w.length : Int) (i : Int)) (((wy w w.length m : Nat) : Int), 0) := by
        intro d
        induction d with
        | zero =>
          intro i h1
          obtain rfl : i = w.length := by omega
          refine Tl.succ ?_
          simp only [charge_Ways.l0]
          refine Tl.neg (by omega) (Tl.pos (by omega) (Tl.pos (by simp; omega) (Tl.to Tl.now ?_)))
          rw [rd_lt (by simp)]; simp
        | succ d ih =>
          intro i h1
          have hwi := hw.2 i (by omega)
          have next := ih (i + 1) (by omega)
          rw [show ((i + 1 : Nat) : Int) = (i : Int) + 1 by omega] at next
          have := ways_in hw h4 (show m ≤ 200 by omega) (show i < w.length by omega) next (m + 31 - (rd w (i : Int)).toNat) (rd w (i : Int)).toNat (by omega) (by omega) rfl
          rw [gw_first (by omega) (Nat.le_refl _), Int.toNat_of_nonneg (by omega)] at this
          refine Tl.succ ?_
          simp only [charge_Ways.l0]
          exact Tl.pos (by omega) (Tl.pos (by omega) (Tl.pos (by omega) this))
      rw [w64 (x := (m : Int) + 1) (by omega) (by omega), show ((m : Int) + 1).toNat = m + 1 by omega]
      refine Tl.neg c (Tl.pos (by omega) (Tl.pos (by omega) (Tl.bind' rfl (Tl.pos (by simp <;> omega) ?_))))
      rw [show ((0 : Int)).toNat = 0 from rfl, e0]
      exact loop w.length 0 (by omega)
  · have e : wc w a = (0, ac w a) := by unfold wc; rw [if_neg h]
    rw [e]; exact Tl.neg h Tl.now
end Wys
end Go.Proofs.Ytgndhijhcliegaa.Pure
namespace Go.Proofs.Ytgndhijhcliegaa.Pure
open Go.RowKit Go.Proofs.Ytgndhijhcliegaa.P Go.Proofs.Ytgndhijhcliegaa.E Go.Proofs.Ytgndhijhcliegaa.Va Go.Proofs.Ytgndhijhcliegaa.Kn Go.Proofs.Ytgndhijhcliegaa.Me Go.Proofs.Ytgndhijhcliegaa.Gp Go.Proofs.YtgndhijhcliegaaW.PrintMore
open Go.Proofs.YtgndhijhcliegaaW.PrintWords
namespace Wit
theorem less_eq (a b : Int) : cmp_Less_int.f a b = some (decide (a < b)) := by
  unfold cmp_Less_int.f cmp_isNaN_int.f
  rw [Option.bind_some, if_neg (by simp)]
theorem mono {w : List Int} (ok : Ok w) {i : Nat} : ∀ d : Nat, i + d < w.length → rd w (i : Int) ≤ rd w ((i + d : Nat) : Int)
  | 0, _ => Int.le_refl _
  | d + 1, h => by
    have h1 := mono ok (i := i) d (by omega)
    have h2 := (ok.2 (i + d + 1) (by omega)).2 (by omega)
    rw [show ((i + d + 1 : Nat) : Int) - 1 = ((i + d : Nat) : Int) by omega] at h2
    rw [show i + (d + 1) = i + d + 1 by omega]; omega
theorem mono' {w : List Int} (ok : Ok w) {i j : Nat} (h : i ≤ j) (hj : j < w.length) : rd w (i : Int) ≤ rd w (j : Int) := by
  have := mono ok (i := i) (j - i) (by omega)
  rwa [show i + (j - i) = j by omega] at this
/-- Where a weight belongs. -/
def At (w : List Int) (x : Int) (p : Nat) : Prop := p ≤ w.length ∧ (∀ i : Nat, i < p → rd w (i : Int) < x) ∧ ∀ i : Nat, p ≤ i → i < w.length → x ≤ rd w (i : Int)
theorem mid {a b : Nat} (h : a + b ≤ 100) : wrap64 ((IntKind.u64.wrap (wrap64 ((a : Int) + (b : Int)))) / 2) = (((a + b) / 2 : Nat) : Int) := by
  have e1 : wrap64 ((a : Int) + (b : Int)) = ((a + b : Nat) : Int) := by rw [w64 (by omega) (by omega)]; omega
  have e2 : IntKind.u64.wrap ((a + b : Nat) : Int) = ((a + b : Nat) : Int) := by
    have h2 : IntKind.u64.wrap ((a + b : Nat) : Int) = ((a + b : Nat) : Int) % 18446744073709551616 := by simp [IntKind.wrap, IntKind.bits, IntKind.signed]
    rw [h2]; omega
  rw [e1, e2, w64 (by omega) (by omega)]; omega
theorem bs_loop {w : List Int} (ok : Ok w) (x : Int) : ∀ (d lo hi : Nat), hi - lo ≤ d → lo ≤ hi → hi ≤ w.length → (∀ i : Nat, i < lo → rd w (i : Int) < x) → (∀ i : Nat, hi ≤ i → i < w.length → x ≤ rd w (i : Int)) →
    ∃ p, At w x p ∧ Tl (fun k => slices_BinarySearch_int_int.l0 k w x (w.length : Int) (lo : Int) (hi : Int)) ((p : Int), decide (p < w.length ∧ rd w (p : Int) = x)) := by
  have hn := ok.1
  intro d
  induction d with
  | zero =>
    intro lo hi h1 h2 h3 h4 h5
    obtain rfl : lo = hi := by omega
    refine ⟨lo, ⟨h3, h4, h5⟩, Tl.succ ?_⟩
    simp only [slices_BinarySearch_int_int.l0]
    refine Tl.neg (by omega) ?_
    by_cases c : lo < w.length
    · refine Tl.pos (by omega) (Tl.pos (by omega) (Tl.pos (by omega) ?_))
      by_cases e : rd w (lo : Int) = x
      · exact Tl.to (Tl.pos e Tl.now) (by rw [decide_eq_true (⟨c, e⟩ : lo < w.length ∧ rd w (lo : Int) = x)])
      · refine Tl.neg e (Tl.bind' rfl (Tl.neg (by simp) (Tl.to Tl.now ?_)))
        rw [decide_eq_false (fun q : lo < w.length ∧ rd w (lo : Int) = x => e q.2)]
    · refine Tl.neg (by omega) (Tl.to Tl.now ?_)
      rw [decide_eq_false (fun q : lo < w.length ∧ rd w (lo : Int) = x => c q.1)]
  | succ d ih =>
    intro lo hi h1 h2 h3 h4 h5
    by_cases c : lo < hi
    · have hm : (lo + hi) / 2 < w.length := by omega
      have E := Aside0.mk (mid (a := lo) (b := hi) (by omega))
      have E2 := Aside0.mk (show wrap64 ((((lo + hi) / 2 : Nat) : Int) + 1) = (((lo + hi) / 2 + 1 : Nat) : Int) by rw [w64 (by omega) (by omega)]; omega)
      by_cases e : rd w (((lo + hi) / 2 : Nat) : Int) < x
      · obtain ⟨p, p1, p2⟩ := ih ((lo + hi) / 2 + 1) hi (by omega) (by omega) h3 (fun i hi' => by
          have := mono' ok (i := i) (j := (lo + hi) / 2) (by omega) hm; omega) h5
        refine ⟨p, p1, Tl.succ ?_⟩
        simp only [slices_BinarySearch_int_int.l0]
        rw [E.out, E2.out]
        exact Tl.pos (by omega) (Tl.pos (by omega) (Tl.pos (by omega) (Tl.bind' (less_eq _ _) (Tl.pos (decide_eq_true e) p2))))
      · obtain ⟨p, p1, p2⟩ := ih lo ((lo + hi) / 2) (by omega) (by omega) (by omega) h4 (fun i hi' hl => by
          have := mono' ok (i := (lo + hi) / 2) (j := i) hi' hl; omega)
        refine ⟨p, p1, Tl.succ ?_⟩
        simp only [slices_BinarySearch_int_int.l0]
        rw [E.out, E2.out]
        exact Tl.pos (by omega) (Tl.pos (by omega) (Tl.pos (by omega) (Tl.bind' (less_eq _ _) (Tl.neg (by rw [decide_eq_true_eq]; exact e) p2))))
    · exact (by
        obtain rfl : lo = hi := by omega
        exact ih lo lo (by omega) h2 h3 h4 h5)
theorem mem_at {w : List Int} (ok : Ok w) {x : Int} {p : Nat} (h : At w x p) : x ∈ w ↔ p < w.length ∧ rd w (p : Int) = x := by
  obtain ⟨h1, h2, h3⟩ := h
  constructor
  · intro hm
    obtain ⟨i, hi, e⟩ := List.getElem_of_mem hm
    rw [← rd_lt hi] at e
    by_cases c : i < p
    · have := h2 i c; omega
    · have a1 := mono' ok (i := p) (j := i) (by omega) hi
      have a2 := h3 p (Nat.le_refl _) (by omega)
      exact ⟨by omega, by omega⟩
  · rintro ⟨c, e⟩
    rw [← e, rd_lt c]; exact List.getElem_mem c
def ins (w : List Int) (x : Int) (p : Nat) : List Int := w.take p ++ x :: w.drop p
noncomputable def wr (w : List Int) (x : Int) (p : Nat) : List Int × Int := if vc w = 0 then (if x ∈ w then ([], 5) else (if vc (ins w x p) = 0 then (ins w x p, 0) else ([], vc (ins w x p)))) else ([], vc w)
theorem ins_len {w : List Int} {x : Int} {p : Nat} (h : p ≤ w.length) : (ins w x p).length = w.length + 1 := by
  unfold ins; rw [List.length_append, List.length_cons, List.length_take, List.length_drop]; omega
theorem ev_With {w : List Int} {x : Int} (hw : w.length ≤ 1000) : ∃ p, (vc w = 0 → At w x p) ∧ Tl (fun k => charge_With.f k w x) (wr w x p) := by
  unfold charge_With.f wr
  by_cases h : vc w = 0
  · have ok := vc_ok.1 h
    obtain ⟨p, p1, p2⟩ := bs_loop ok x w.length 0 w.length (by omega) (by omega) (Nat.le_refl _) (fun i hi => by omega) (fun i h1 h2 => by omega)
    refine ⟨p, fun _ => p1, Tl.bind (ev_Validate w) (Tl.pos h ?_)⟩
    have hb : Tl (fun k => slices_BinarySearch_int_int.f k w x) ((p : Int), decide (p < w.length ∧ rd w (p : Int) = x)) := by
      unfold slices_BinarySearch_int_int.f; exact p2
    refine Tl.bind hb ?_
    rw [if_pos h]
    by_cases c : x ∈ w
    · rw [if_pos c]
      exact Tl.pos (decide_eq_true ((mem_at ok p1).1 c)) Tl.now
    · rw [if_neg c]
      refine Tl.neg (by rw [decide_eq_true_eq]; exact fun q => c ((mem_at ok p1).2 q)) (Tl.bind' (a := w) (by unfold slices_Clone_int_int.f; rw [if_pos (by omega)]) (Tl.pos ⟨by omega, by have := p1.1; simp only; omega, hw⟩ (Tl.bind' (a := ins w x p) ?_ (Tl.bind (ev_Validate _) ?_))))
      · simp only [Int.toNat_natCast]; rfl
      · by_cases e : vc (ins w x p) = 0
        · exact Tl.to (Tl.pos e Tl.now) (by rw [if_pos e])
        · exact Tl.to (Tl.neg e Tl.now) (by rw [if_neg e])
  · exact ⟨0, fun q => absurd q h, by rw [if_neg h]; exact Tl.bind (ev_Validate w) (Tl.neg h Tl.now)⟩
theorem at_ins {w : List Int} {x : Int} {p : Nat} {i : Nat} (hi : i < w.length) : ∃ j : Nat, j < (ins w x p).length ∧ rd (ins w x p) (j : Int) = rd w (i : Int) := by
  have hm : w[i] ∈ ins w x p := by
    unfold ins
    have : w[i] ∈ w.take p ++ w.drop p := by rw [List.take_append_drop]; exact List.getElem_mem hi
    rcases List.mem_append.1 this with h | h
    · exact List.mem_append.2 (.inl h)
    · exact List.mem_append.2 (.inr (List.mem_cons_of_mem _ h))
  obtain ⟨j, hj, e⟩ := List.getElem_of_mem hm
  exact ⟨j, hj, by rw [rd_lt hj, rd_lt hi, e]⟩
theorem mk_more {w : List Int} {x : Int} {p n c : Nat} (h : Mk w n c) : Mk (ins w x p) n c := by
  induction h with
  | zero => exact .zero
  | step hi _ ih =>
    obtain ⟨j, hj, e⟩ := at_ins (x := x) (p := p) hi
    rw [← e]; exact .step hj ih
theorem mk_less {w : List Int} {x : Int} {p n c : Nat} (hx : ∃ d, Mk w x.toNat d) (h : Mk (ins w x p) n c) : ∃ d, Mk w n d := by
  induction h with
  | zero => exact ⟨0, .zero⟩
  | @step n c j hj _ ih =>
    obtain ⟨d, hd⟩ := ih
    have hm := List.getElem_mem hj
    rw [rd_lt hj]
    generalize (ins w x p)[j] = v at hm
    unfold ins at hm
    have : v ∈ w ∨ v = x := by
      rcases List.mem_append.1 hm with h | h
      · exact .inl (List.mem_of_mem_take h)
      · rcases List.mem_cons.1 h with h | h
        · exact .inr h
        · exact .inl (List.mem_of_mem_drop h)
    rcases this with h | h
    · obtain ⟨i, hi, e⟩ := List.getElem_of_mem h
      rw [← e, ← rd_lt hi]; exact ⟨_, .step hi hd⟩
    · subst h
      obtain ⟨d', hd'⟩ := hx
      exact ⟨_, mk_add hd hd'⟩
theorem wr_zero {w : List Int} {x : Int} {p : Nat} (h : (wr w x p).2 = 0) : vc w = 0 ∧ vc (ins w x p) = 0 ∧ (wr w x p).1 = ins w x p := by
  unfold wr at h ⊢
  by_cases h1 : vc w = 0
  · rw [if_pos h1] at h ⊢
    by_cases h2 : x ∈ w
    · rw [if_pos h2] at h; exact absurd h (by simp)
    · rw [if_neg h2] at h ⊢
      by_cases h3 : vc (ins w x p) = 0
      · rw [if_pos h3] at h ⊢; exact ⟨h1, h3, rfl⟩
      · rw [if_neg h3] at h; exact absurd h h3
  · rw [if_neg h1] at h; exact absurd h h1
end Wit
end Go.Proofs.Ytgndhijhcliegaa.Pure
