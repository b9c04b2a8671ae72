/- Words for the plain laws: a function with rounds comes to a value, from some number of rounds on. -/
import Derived.Test.YtcbepmdnhjojdaaWWords
import Derived.Test.YtcbepmdnhjojdaaWMore
set_option linter.unusedVariables false
namespace Go.Proofs.Ytcbepmdnhjojdaa.E
open Go.RowKit Go.Proofs.YtcbepmdnhjojdaaW.PrintWords Go.Proofs.YtcbepmdnhjojdaaW.PrintMore

/-- From some number of rounds on, g answers r. -/
def Tl {α : Type} (g : Nat → Option α) (r : α) : Prop := ∃ K, ∀ k, K ≤ k → g k = some r
theorem Tl.now {α : Type} {r : α} : Tl (fun _ => some r) r := ⟨0, fun _ _ => rfl⟩
theorem Tl.of {α : Type} {o : Option α} {r : α} (h : o = some r) : Tl (fun _ => o) r := ⟨0, fun _ _ => h⟩
theorem Tl.mono {α : Type} {g : Nat → Option α} {r : α} (hm : ∀ k, LeO (g k) (g (k + 1))) (k : Nat) (h : g k = some r) : Tl g r := ⟨k, fun _ hk => at_rounds hm hk h⟩
theorem Tl.succ {α : Type} {g : Nat → Option α} {r : α} (h : Tl (fun k => g (k + 1)) r) : Tl g r := by
  obtain ⟨K, hK⟩ := h
  refine ⟨K + 1, fun k hk => ?_⟩
  obtain ⟨m, rfl⟩ : ∃ m, k = m + 1 := ⟨k - 1, by omega⟩
  exact hK m (by omega)
theorem Tl.bind {α β : Type} {g : Nat → Option α} {f : Nat → α → Option β} {a : α} {r : β} (h : Tl g a) (hf : Tl (fun k => f k a) r) : Tl (fun k => (g k).bind (f k)) r := by
  obtain ⟨K, hK⟩ := h
  obtain ⟨L, hL⟩ := hf
  refine ⟨max K L, fun k hk => ?_⟩
  show (g k).bind (f k) = some r
  rw [hK k (by omega)]
  exact hL k (by omega)
theorem Tl.bind' {α β : Type} {o : Option α} {f : Nat → α → Option β} {a : α} {r : β} (h : o = some a) (hf : Tl (fun k => f k a) r) : Tl (fun k => o.bind (f k)) r := by
  rw [h]; exact hf
theorem Tl.congr {α : Type} {g g' : Nat → Option α} {r : α} (h : Tl g r) (e : ∀ k, g' k = g k) : Tl g' r := by
  obtain ⟨K, hK⟩ := h
  exact ⟨K, fun k hk => (e k).trans (hK k hk)⟩
theorem Tl.to {α : Type} {g : Nat → Option α} {r r' : α} (h : Tl g r) (e : r = r') : Tl g r' := e ▸ h
theorem Tl.ex {α : Type} {g : Nat → Option α} {r : α} (h : Tl g r) : ∃ k, g k = some r := by
  obtain ⟨K, hK⟩ := h
  exact ⟨K, hK K (Nat.le_refl _)⟩
theorem Tl.pos {α : Type} {c : Prop} [Decidable c] {g g' : Nat → Option α} {r : α} (hc : c) (h : Tl g r) : Tl (fun k => if c then g k else g' k) r := by
  simpa only [if_pos hc] using h
theorem Tl.neg {α : Type} {c : Prop} [Decidable c] {g g' : Nat → Option α} {r : α} (hc : ¬ c) (h : Tl g' r) : Tl (fun k => if c then g k else g' k) r := by
  simpa only [if_neg hc] using h
theorem Tl.ite {α : Type} {c : Prop} [Decidable c] {g g' : Nat → Option α} {r r' : α} (h : c → Tl g r) (h' : ¬ c → Tl g' r') : Tl (fun k => if c then g k else g' k) (if c then r else r') := by
  by_cases hc : c
  · simpa only [if_pos hc] using h hc
  · simpa only [if_neg hc] using h' hc

theorem w64 {x : Int} (h1 : -9223372036854775808 ≤ x) (h2 : x < 9223372036854775808) : wrap64 x = x := by
  unfold wrap64
  omega
theorem wf64 {x : Int} (h : (Lit.int .i64 x).wf = true) : -9223372036854775808 ≤ x ∧ x < 9223372036854775808 := by
  simp only [Lit.wf, IntKind.min, IntKind.max, IntKind.signed, IntKind.bits, Bool.and_eq_true, decide_eq_true_eq, if_true] at h
  omega
theorem mx_eq (a b : Int) : mx a b = max a b := by unfold mx; omega
theorem mn_eq (a b : Int) : mn a b = min a b := by unfold mn; omega
theorem rd_nat (xs : List Int) (i : Nat) : rd xs (i : Int) = xs.getD i 0 := by simp [rd]
theorem rd_lt {xs : List Int} {i : Nat} (h : i < xs.length) : rd xs (i : Int) = xs[i] := by rw [rd_nat, List.getD_eq_getElem?_getD, List.getElem?_eq_getElem h]; rfl
end Go.Proofs.Ytcbepmdnhjojdaa.E
