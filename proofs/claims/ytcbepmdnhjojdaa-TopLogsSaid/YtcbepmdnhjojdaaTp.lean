/- What the last law of the chapter needs of the plain laws: comparisons, the distance, tables, and what two logs have in common. -/
import Derived.Test.YtcbepmdnhjojdaaWWords
import Derived.Test.YtcbepmdnhjojdaaWMore
import Derived.Test.YtcbepmdnhjojdaaPx3
import Derived.Test.YtcbepmdnhjojdaaPx31
import Derived.Test.YtcbepmdnhjojdaaPx53
import Derived.Test.YtcbepmdnhjojdaaPx62
import Derived.Test.YtcbepmdnhjojdaaPx58
import Derived.Test.YtcbepmdnhjojdaaPx56
import Derived.Test.YtcbepmdnhjojdaaPx15
import Derived.Test.YtcbepmdnhjojdaaPx20
import Derived.Test.YtcbepmdnhjojdaaPx23
import Derived.Test.YtcbepmdnhjojdaaPx20
set_option linter.unusedVariables false
namespace Go.Proofs.Ytcbepmdnhjojdaa.E
open Go.RowKit Go.Proofs.YtcbepmdnhjojdaaW.PrintWords Go.Proofs.YtcbepmdnhjojdaaW.PrintMore
/-- From some number of rounds on, g answers r. -/
def Tl {α : Type} (g : Nat → Option α) (r : α) : Prop := ∃ K, ∀ k, K ≤ k → g k = some r
theorem Tl.now {α : Type} {r : α} : Tl (fun _ => some r) r := ⟨0, fun _ _ => rfl⟩
theorem Tl.of {α : Type} {o : Option α} {r : α} (h : o = some r) : Tl (fun _ => o) r := ⟨0, fun _ _ => h⟩
theorem Tl.mono {α : Type} {g : Nat → Option α} {r : α} (hm : ∀ k, LeO (g k) (g (k + 1))) (k : Nat) (h : g k = some r) : Tl g r := ⟨k, fun _ hk => at_rounds hm hk h⟩
theorem Tl.succ {α : Type} {g : Nat → Option α} {r : α} (h : Tl (fun k => g (k + 1)) r) : Tl g r := by
  obtain ⟨K, hK⟩ := h
  refine ⟨K + 1, fun k hk => ?_⟩
  obtain ⟨m, rfl⟩ : ∃ m, k = m + 1 := ⟨k - 1, by omega⟩
  exact hK m (by omega)
theorem Tl.bind {α β : Type} {g : Nat → Option α} {f : Nat → α → Option β} {a : α} {r : β} (h : Tl g a) (hf : Tl (fun k => f k a) r) : Tl (fun k => (g k).bind (f k)) r := by
  obtain ⟨K, hK⟩ := h
  obtain ⟨L, hL⟩ := hf
  refine ⟨max K L, fun k hk => ?_⟩
  show (g k).bind (f k) = some r
  rw [hK k (by omega)]
  exact hL k (by omega)
theorem Tl.bind' {α β : Type} {o : Option α} {f : Nat → α → Option β} {a : α} {r : β} (h : o = some a) (hf : Tl (fun k => f k a) r) : Tl (fun k => o.bind (f k)) r := by
  rw [h]; exact hf
theorem Tl.congr {α : Type} {g g' : Nat → Option α} {r : α} (h : Tl g r) (e : ∀ k, g' k = g k) : Tl g' r := by
  obtain ⟨K, hK⟩ := h
  exact ⟨K, fun k hk => (e k).trans (hK k hk)⟩
theorem Tl.to {α : Type} {g : Nat → Option α} {r r' : α} (h : Tl g r) (e : r = r') : Tl g r' := e ▸ h
theorem Tl.ex {α : Type} {g : Nat → Option α} {r : α} (h : Tl g r) : ∃ k, g k = some r := by
  obtain ⟨K, hK⟩ := h
  exact ⟨K, hK K (Nat.le_refl _)⟩
theorem Tl.pos {α : Type} {c : Prop} [Decidable c] {g g' : Nat → Option α} {r : α} (hc : c) (h : Tl g r) : Tl (fun k => if c then g k else g' k) r := by
  simpa only [if_pos hc] using h
theorem Tl.neg {α : Type} {c : Prop} [Decidable c] {g g' : Nat → Option α} {r : α} (hc : ¬ c) (h : Tl g' r) : Tl (fun k => if c then g k else g' k) r := by
  simpa only [if_neg hc] using h
theorem Tl.ite {α : Type} {c : Prop} [Decidable c] {g g' : Nat → Option α} {r r' : α} (h : c → Tl g r) (h' : ¬ c → Tl g' r') : Tl (fun k => if c then g k else g' k) (if c then r else r') := by
  by_cases hc : c
  · simpa only [if_pos hc] using h hc
  · simpa only [if_neg hc] using h' hc
theorem w64 {x : Int} (h1 : -9223372036854775808 ≤ x) (h2 : x < 9223372036854775808) : wrap64 x = x := by
  unfold wrap64
  omega
theorem wf64 {x : Int} (h : (Lit.int .i64 x).wf = true) : -9223372036854775808 ≤ x ∧ x < 9223372036854775808 := by
  simp only [Lit.wf, IntKind.min, IntKind.max, IntKind.signed, IntKind.bits, Bool.and_eq_true, decide_eq_true_eq, if_true] at h
  omega
theorem mx_eq (a b : Int) : mx a b = max a b := by unfold mx; omega
theorem mn_eq (a b : Int) : mn a b = min a b := by unfold mn; omega
theorem rd_nat (xs : List Int) (i : Nat) : rd xs (i : Int) = xs.getD i 0 := by simp [rd]
theorem rd_lt {xs : List Int} {i : Nat} (h : i < xs.length) : rd xs (i : Int) = xs[i] := by rw [rd_nat, List.getD_eq_getElem?_getD, List.getElem?_eq_getElem h]; rfl
end Go.Proofs.Ytcbepmdnhjojdaa.E
namespace Go.Proofs.Ytcbepmdnhjojdaa.Al
def ch (c a b : Int) : Int := if a = b then 0 else c
/-- Two logs can be compared at this cost: sign by sign, left out, put in, or laid side by side. -/
inductive Al (o i c : Int) : List Int → List Int → Int → Prop
  | nil : Al o i c [] [] 0
  | out {l m : List Int} {n : Int} (a : Int) : Al o i c l m n → Al o i c (a :: l) m (n + o)
  | ins {l m : List Int} {n : Int} (b : Int) : Al o i c l m n → Al o i c l (b :: m) (n + i)
  | both {l m : List Int} {n : Int} (a b : Int) : Al o i c l m n → Al o i c (a :: l) (b :: m) (n + ch c a b)
/-- The distance. -/
def IsD (o i c : Int) (l m : List Int) (d : Int) : Prop := Al o i c l m d ∧ ∀ n, Al o i c l m n → d ≤ n
theorem IsD.unique {o i c : Int} {l m : List Int} {d e : Int} (h : IsD o i c l m d) (k : IsD o i c l m e) : d = e := by
  have := h.2 _ k.1
  have := k.2 _ h.1
  omega
theorem ch_range {c : Int} (hc : 0 ≤ c) (a b : Int) : 0 ≤ ch c a b ∧ ch c a b ≤ c := by unfold ch; split <;> omega
theorem al_nonneg {o i c : Int} (ho : 0 ≤ o) (hi : 0 ≤ i) (hc : 0 ≤ c) {l m : List Int} {n : Int} (h : Al o i c l m n) : 0 ≤ n := by
  induction h with
  | nil => omega
  | out a h ih => omega
  | ins b h ih => omega
  | both a b h ih => have := ch_range hc a b; omega
theorem al_ins {o i c : Int} : ∀ m : List Int, Al o i c [] m (i * (m.length : Int))
  | [] => by simpa using Al.nil
  | b :: m => by
    have := Al.ins b (al_ins (o := o) (i := i) (c := c) m)
    rwa [show i * ((b :: m).length : Int) = i * (m.length : Int) + i by rw [List.length_cons, show ((m.length + 1 : Nat) : Int) = (m.length : Int) + 1 by omega, Int.mul_add, Int.mul_one]]
theorem al_out {o i c : Int} : ∀ l : List Int, Al o i c l [] (o * (l.length : Int))
  | [] => by simpa using Al.nil
  | b :: m => by
    have := Al.out b (al_out (o := o) (i := i) (c := c) m)
    rwa [show o * ((b :: m).length : Int) = o * (m.length : Int) + o by rw [List.length_cons, show ((m.length + 1 : Nat) : Int) = (m.length : Int) + 1 by omega, Int.mul_add, Int.mul_one]]
theorem al_nil_l {o i c : Int} {m : List Int} : ∀ {n : Int}, Al o i c [] m n → n = i * (m.length : Int) := by
  induction m with
  | nil => intro n h; cases h; simp
  | cons b m ih =>
    intro n h
    cases h with
    | ins _ h => rw [ih h, List.length_cons, show ((m.length + 1 : Nat) : Int) = (m.length : Int) + 1 by omega, Int.mul_add, Int.mul_one]
theorem al_nil_r {o i c : Int} {l : List Int} : ∀ {n : Int}, Al o i c l [] n → n = o * (l.length : Int) := by
  induction l with
  | nil => intro n h; cases h; simp
  | cons b m ih =>
    intro n h
    cases h with
    | out _ h => rw [ih h, List.length_cons, show ((m.length + 1 : Nat) : Int) = (m.length : Int) + 1 by omega, Int.mul_add, Int.mul_one]
theorem isD_nil_l {o i c : Int} (m : List Int) : IsD o i c [] m (i * (m.length : Int)) := ⟨al_ins m, fun n h => by rw [al_nil_l h]; exact Int.le_refl _⟩
theorem isD_nil_r {o i c : Int} (l : List Int) : IsD o i c l [] (o * (l.length : Int)) := ⟨al_out l, fun n h => by rw [al_nil_r h]; exact Int.le_refl _⟩
theorem isD_cons {o i c a b : Int} {l m : List Int} {x y z : Int} (hx : IsD o i c l (b :: m) x) (hy : IsD o i c (a :: l) m y) (hz : IsD o i c l m z) : IsD o i c (a :: l) (b :: m) (min (x + o) (min (y + i) (z + ch c a b))) := by
  constructor
  · rcases Int.le_total (x + o) (min (y + i) (z + ch c a b)) with h | h
    · rw [Int.min_eq_left h]; exact .out a hx.1
    · rw [Int.min_eq_right h]
      rcases Int.le_total (y + i) (z + ch c a b) with k | k
      · rw [Int.min_eq_left k]; exact .ins b hy.1
      · rw [Int.min_eq_right k]; exact .both a b hz.1
  · intro n h
    cases h with
    | out _ h => have := hx.2 _ h; omega
    | ins _ h => have := hy.2 _ h; omega
    | both _ _ h => have := hz.2 _ h; omega
theorem isD_some (o i c : Int) : ∀ l m : List Int, ∃ d, IsD o i c l m d
  | [], m => ⟨_, isD_nil_l m⟩
  | a :: l, [] => ⟨_, isD_nil_r _⟩
  | a :: l, b :: m => by
    obtain ⟨x, hx⟩ := isD_some o i c l (b :: m)
    obtain ⟨y, hy⟩ := isD_some o i c (a :: l) m
    obtain ⟨z, hz⟩ := isD_some o i c l m
    exact ⟨_, isD_cons hx hy hz⟩
  termination_by l m => l.length + m.length
theorem al_append {o i c : Int} {l m l' m' : List Int} {n n' : Int} (h : Al o i c l m n) (k : Al o i c l' m' n') : Al o i c (l ++ l') (m ++ m') (n + n') := by
  induction h with
  | nil => simpa using k
  | @out l m n a h ih => have := Al.out a ih; rwa [show n + n' + o = n + o + n' by omega] at this
  | @ins l m n b h ih => have := Al.ins b ih; rwa [show n + n' + i = n + i + n' by omega] at this
  | @both l m n a b h ih => have := Al.both a b ih; rwa [show n + n' + ch c a b = n + ch c a b + n' by omega] at this
theorem al_rev {o i c : Int} {l m : List Int} {n : Int} (h : Al o i c l m n) : Al o i c l.reverse m.reverse n := by
  induction h with
  | nil => exact Al.nil
  | out a h ih => have := al_append ih (Al.out a Al.nil); simpa using this
  | ins b h ih => have := al_append ih (Al.ins b Al.nil); simpa using this
  | both a b h ih => have := al_append ih (Al.both a b Al.nil); simpa using this
theorem isD_rev {o i c : Int} {l m : List Int} {d : Int} (h : IsD o i c l m d) : IsD o i c l.reverse m.reverse d :=
  ⟨al_rev h.1, fun n k => h.2 n (by simpa using al_rev k)⟩
theorem isD_snoc {o i c a b : Int} {l m : List Int} {x y z : Int} (hx : IsD o i c l (m ++ [b]) x) (hy : IsD o i c (l ++ [a]) m y) (hz : IsD o i c l m z) : IsD o i c (l ++ [a]) (m ++ [b]) (min (x + o) (min (y + i) (z + ch c a b))) := by
  have h1 := isD_rev hx
  have h2 := isD_rev hy
  have h3 := isD_rev hz
  rw [List.reverse_append] at h1 h2
  have := isD_rev (isD_cons (a := a) (b := b) h1 h2 h3)
  simpa using this
theorem ch_comm (c a b : Int) : ch c a b = ch c b a := by unfold ch; by_cases h : a = b <;> simp [h]; intro e; exact absurd e.symm h
theorem al_swap {o i c : Int} {l m : List Int} {n : Int} (h : Al o i c l m n) : Al i o c m l n := by
  induction h with
  | nil => exact Al.nil
  | out a h ih => exact .ins a ih
  | ins b h ih => exact .out b ih
  | both a b h ih => rw [ch_comm]; exact .both b a ih
theorem isD_swap {o i c : Int} {l m : List Int} {d : Int} (h : IsD o i c l m d) : IsD i o c m l d := ⟨al_swap h.1, fun n k => h.2 n (al_swap k)⟩
theorem al_map {o i c : Int} (f : Int → Int) {l m : List Int} {n : Int} (h : Al o i c l m n) : (∀ a ∈ l, ∀ b ∈ m, f a = f b ↔ a = b) → Al o i c (l.map f) (m.map f) n := by
  induction h with
  | nil => intro _; exact Al.nil
  | out a h ih => intro hf; exact .out _ (ih (fun a ha b hb => hf a (by simp [ha]) b hb))
  | ins b h ih => intro hf; exact .ins _ (ih (fun a ha b hb => hf a ha b (by simp [hb])))
  | both a b h ih =>
    intro hf
    have e : ch c a b = ch c (f a) (f b) := by unfold ch; by_cases k : a = b <;> simp [k, hf a (by simp) b (by simp)]
    rw [e]
    exact .both _ _ (ih (fun a ha b hb => hf a (by simp [ha]) b (by simp [hb])))
theorem isD_map {o i c : Int} {f g : Int → Int} {l m : List Int} {d : Int} (hl : ∀ a ∈ l, g (f a) = a) (hm : ∀ b ∈ m, g (f b) = b) (h : IsD o i c l m d) : IsD o i c (l.map f) (m.map f) d := by
  refine ⟨al_map f h.1 (fun a ha b hb => ⟨fun e => by rw [← hl a ha, ← hm b hb, e], fun e => by rw [e]⟩), fun n k => h.2 n ?_⟩
  have := al_map g k (fun a ha b hb => by
    obtain ⟨x, hx, rfl⟩ := List.mem_map.1 ha
    obtain ⟨y, hy, rfl⟩ := List.mem_map.1 hb
    exact ⟨fun e => by rw [hl x hx, hm y hy] at e; rw [e], fun e => by rw [e]⟩)
  rw [List.map_map, List.map_map] at this
  have e1 : l.map (g ∘ f) = l := (List.map_congr_left (g := id) (fun a ha => hl a ha)).trans (List.map_id l)
  have e2 : m.map (g ∘ f) = m := (List.map_congr_left (g := id) (fun a ha => hm a ha)).trans (List.map_id m)
  rwa [e1, e2] at this
theorem al_refl {o i c : Int} : ∀ l : List Int, Al o i c l l 0
  | [] => .nil
  | a :: l => by have := Al.both a a (al_refl (o := o) (i := i) (c := c) l); simpa [ch] using this
theorem al_trans {o i c : Int} (ho : 0 ≤ o) (hi : 0 ≤ i) (hc : 0 ≤ c) {l m : List Int} {n : Int} (h : Al o i c l m n) : ∀ {k : List Int} {n' : Int}, Al o i c m k n' → ∃ x, x ≤ n + n' ∧ Al o i c l k x := by
  induction h with
  | nil => intro k n' h'; exact ⟨n', by omega, h'⟩
  | @out l m n a h ih =>
    intro k n' h'
    obtain ⟨x, hx, h1⟩ := ih h'
    exact ⟨x + o, by omega, .out a h1⟩
  | @ins l m n b h ih =>
    intro k n' h'
    generalize e : b :: m = M at h'
    induction h' with
    | nil => cases e
    | @out _ k n' _ h2 _ =>
      cases e
      obtain ⟨x, hx, h1⟩ := ih h2
      exact ⟨x, by omega, h1⟩
    | ins y h2 ih2 =>
      obtain ⟨x, hx, h1⟩ := ih2 e
      exact ⟨x + i, by omega, .ins y h1⟩
    | both y z h2 _ =>
      cases e
      obtain ⟨x, hx, h1⟩ := ih h2
      have := ch_range hc b z
      exact ⟨x + i, by omega, .ins z h1⟩
  | @both l m n a b h ih =>
    intro k n' h'
    generalize e : b :: m = M at h'
    induction h' with
    | nil => cases e
    | @out _ k n' _ h2 _ =>
      cases e
      obtain ⟨x, hx, h1⟩ := ih h2
      have := ch_range hc a b
      exact ⟨x + o, by omega, .out a h1⟩
    | ins y h2 ih2 =>
      obtain ⟨x, hx, h1⟩ := ih2 e
      exact ⟨x + i, by omega, .ins y h1⟩
    | both y z h2 _ =>
      cases e
      obtain ⟨x, hx, h1⟩ := ih h2
      have e3 : ch c a z ≤ ch c a b + ch c b z := by
        unfold ch
        by_cases e1 : a = b
        · subst e1; rw [if_pos rfl]; omega
        · rw [if_neg e1]; split <;> split <;> omega
      exact ⟨x + ch c a z, by omega, .both a z h1⟩
theorem isD_triangle {o i c : Int} (ho : 0 ≤ o) (hi : 0 ≤ i) (hc : 0 ≤ c) {l m k : List Int} {x y z : Int} (hx : IsD o i c l m x) (hy : IsD o i c l k y) (hz : IsD o i c k m z) : x ≤ y + z := by
  obtain ⟨w, hw, h⟩ := al_trans ho hi hc hy.1 hz.1
  have := hx.2 _ h
  omega
theorem al_mid_ins {o i c : Int} (u v : List Int) (s : Int) : Al o i c (u ++ v) (u ++ s :: v) i := by
  have := al_append (al_refl (o := o) (i := i) (c := c) u) (Al.ins s (al_refl v))
  simpa using this
theorem al_mid_out {o i c : Int} (u v : List Int) (s : Int) : Al o i c (u ++ s :: v) (u ++ v) o := by
  have := al_append (al_refl (o := o) (i := i) (c := c) u) (Al.out s (al_refl v))
  simpa using this
theorem al_zero {o i c : Int} (ho : 0 < o) (hi : 0 < i) (hc : 0 < c) {l m : List Int} {n : Int} (h : Al o i c l m n) : n = 0 → l = m := by
  induction h with
  | nil => intro _; rfl
  | out a h ih => intro e; have := al_nonneg (by omega) (by omega) (by omega) h; omega
  | ins a h ih => intro e; have := al_nonneg (by omega) (by omega) (by omega) h; omega
  | @both l m n a b h ih =>
    intro e
    have h1 := al_nonneg (by omega) (by omega) (by omega) h
    have h2 := ch_range (c := c) (by omega) a b
    have h3 : ch c a b = 0 := by omega
    have h4 : a = b := by unfold ch at h3; split at h3 <;> first | assumption | omega
    rw [ih (by omega), h4]
theorem isD_zero {o i c : Int} (ho : 0 < o) (hi : 0 < i) (hc : 0 < c) {l m : List Int} {d : Int} (h : IsD o i c l m d) : d = 0 ↔ l = m := by
  refine ⟨al_zero ho hi hc h.1, fun e => ?_⟩
  subst e
  have h1 := h.2 _ (al_refl l)
  have h2 := al_nonneg (by omega) (by omega) (by omega) h.1
  omega
/-- Either nothing is laid side by side, or there is a first pair. -/
theorem al_first {o i c : Int} {l m : List Int} {n : Int} (h : Al o i c l m n) : n = o * (l.length : Int) + i * (m.length : Int) ∨ ∃ (a b : Nat) (x y n' : Int), l[a]? = some x ∧ m[b]? = some y ∧ Al o i c (l.drop (a + 1)) (m.drop (b + 1)) n' ∧ n = o * a + i * b + ch c x y + n' := by
  have e1 : ∀ (z : Int) (k : Nat), z * ((k + 1 : Nat) : Int) = z * (k : Int) + z := fun z k => by rw [show ((k + 1 : Nat) : Int) = (k : Int) + 1 by omega, Int.mul_add, Int.mul_one]
  induction h with
  | nil => left; simp
  | out a h ih =>
    rcases ih with ih | ⟨p, q, x, y, n', h1, h2, h3, h4⟩
    · left; rw [List.length_cons, e1]; omega
    · right; exact ⟨p + 1, q, x, y, n', by simpa using h1, h2, by simpa using h3, by rw [e1]; omega⟩
  | ins b h ih =>
    rcases ih with ih | ⟨p, q, x, y, n', h1, h2, h3, h4⟩
    · left; rw [List.length_cons, e1]; omega
    · right; exact ⟨p, q + 1, x, y, n', h1, by simpa using h2, by simpa using h3, by rw [e1]; omega⟩
  | @both l m n a b h ih => right; exact ⟨0, 0, a, b, n, by simp, by simp, by simpa using h, by simp; omega⟩
theorem al_all {o i c : Int} (l m : List Int) : Al o i c l m (o * (l.length : Int) + i * (m.length : Int)) := by
  have := al_append (al_out (o := o) (i := i) (c := c) l) (al_ins m)
  simpa using this
theorem al_pair {o i c : Int} {l m : List Int} {a b : Nat} {x y n' : Int} (h1 : l[a]? = some x) (h2 : m[b]? = some y) (h3 : Al o i c (l.drop (a + 1)) (m.drop (b + 1)) n') : Al o i c l m (o * a + i * b + ch c x y + n') := by
  obtain ⟨ha, e1⟩ := List.getElem?_eq_some_iff.1 h1
  obtain ⟨hb, e2⟩ := List.getElem?_eq_some_iff.1 h2
  have k := al_append (al_all (o := o) (i := i) (c := c) (l.take a) (m.take b)) (Al.both x y h3)
  rw [List.length_take, List.length_take, Nat.min_eq_left (by omega), Nat.min_eq_left (by omega)] at k
  rw [← e1, ← e2, ← List.drop_eq_getElem_cons, ← List.drop_eq_getElem_cons, List.take_append_drop, List.take_append_drop] at k
  rw [← e1, ← e2]
  rwa [show o * (a : Int) + i * (b : Int) + (n' + ch c l[a] m[b]) = o * (a : Int) + i * (b : Int) + ch c l[a] m[b] + n' by omega] at k
end Go.Proofs.Ytcbepmdnhjojdaa.Al
namespace Go.Proofs.Ytcbepmdnhjojdaa.Lo
open Go.RowKit Go.Proofs.Ytcbepmdnhjojdaa.P Go.Proofs.Ytcbepmdnhjojdaa.E Go.Proofs.Ytcbepmdnhjojdaa.Al Go.Proofs.YtcbepmdnhjojdaaW.PrintMore
open Go.Proofs.YtcbepmdnhjojdaaW.PrintWords
theorem drop_cons {α : Type} {h : List α} {i : Nat} (hi : i < h.length) : h.drop i = h[i] :: h.drop (i + 1) := List.drop_eq_getElem_cons hi
theorem within_eq (a b c : Int) : log_within.f a b c = some (decide (b ≤ a ∧ a ≤ c)) := by
  unfold log_within.f
  by_cases h : b ≤ a
  · rw [if_pos h]; congr 1; exact decide_eq_decide.2 ⟨fun q => ⟨h, q⟩, fun q => q.2⟩
  · rw [if_neg h]; congr 1; exact (decide_eq_false (fun q => h q.1)).symm
def good (l : List Int) : Bool := l.all (fun x => decide (0 ≤ x ∧ x ≤ 5))
def lc (l : List Int) : Int := if l.length ≤ 10 then (if good l = true then 0 else 1) else 3
def cc (o i c : Int) : Int := if (1 ≤ o ∧ o ≤ 9) ∧ (1 ≤ i ∧ i ≤ 9) ∧ (1 ≤ c ∧ c ≤ 9) then 0 else 1
def kc (l m : List Int) (o i c : Int) : Int := if lc l = 0 then (if lc m = 0 then cc o i c else lc m) else lc l
theorem kc_zero {l m : List Int} {o i c : Int} : kc l m o i c = 0 ↔ lc l = 0 ∧ lc m = 0 ∧ cc o i c = 0 := by
  unfold kc
  by_cases h : lc l = 0
  · rw [if_pos h]
    by_cases h2 : lc m = 0
    · rw [if_pos h2]; exact ⟨fun q => ⟨h, h2, q⟩, fun q => q.2.2⟩
    · rw [if_neg h2]; exact ⟨fun q => absurd q h2, fun q => absurd q.2.1 h2⟩
  · rw [if_neg h]; exact ⟨fun q => absurd q h, fun q => absurd q.1 h⟩
theorem lc_zero {l : List Int} : lc l = 0 ↔ l.length ≤ 10 ∧ good l = true := by
  unfold lc
  by_cases h : l.length ≤ 10
  · rw [if_pos h]
    by_cases h2 : good l = true
    · rw [if_pos h2]; exact ⟨fun _ => ⟨h, h2⟩, fun _ => rfl⟩
    · rw [if_neg h2]; exact ⟨fun q => by omega, fun q => absurd q.2 h2⟩
  · rw [if_neg h]; exact ⟨fun q => by omega, fun q => absurd q.1 h⟩
theorem cc_zero {o i c : Int} : cc o i c = 0 ↔ (1 ≤ o ∧ o ≤ 9) ∧ (1 ≤ i ∧ i ≤ 9) ∧ (1 ≤ c ∧ c ≤ 9) := by
  unfold cc
  split
  · exact ⟨fun _ => by assumption, fun _ => rfl⟩
  · exact ⟨fun q => by omega, fun q => absurd q (by assumption)⟩
theorem good_drop {t : List Int} {i : Nat} (hi : i < t.length) : good (t.drop i) = (decide (0 ≤ rd t (i : Int) ∧ rd t (i : Int) ≤ 5) && good (t.drop (i + 1))) := by
  rw [drop_cons hi, rd_lt hi]; rfl
theorem vloop (t : List Int) (hl : t.length ≤ 1000) (d : Nat) : ∀ i : Nat, i ≤ t.length → t.length - i = d → ∃ j : Int, (j < 0 ↔ good (t.drop i) = true) ∧ Tl (fun k => slices_IndexFunc_int_int_log_Validate_1.l0 k t (t.length : Int) (i : Int)) j := by
  induction d with
  | zero =>
    intro i h1 h2
    refine ⟨-1, ?_, ?_⟩
    · rw [List.drop_eq_nil_of_le (by omega)]; simp [good]
    · refine Tl.succ ?_
      simp only [slices_IndexFunc_int_int_log_Validate_1.l0]
      exact Tl.neg (by omega) Tl.now
  | succ d ih =>
    intro i h1 h2
    have hlt : i < t.length := by omega
    obtain ⟨j, hj, next⟩ := ih (i + 1) (by omega) (by omega)
    rw [show ((i + 1 : Nat) : Int) = (i : Int) + 1 by omega, ← w64 (x := (i : Int) + 1) (by omega) (by omega)] at next
    rw [good_drop hlt]
    have e : log_Validate_1.f (rd t (i : Int)) = some (!decide (0 ≤ rd t (i : Int) ∧ rd t (i : Int) ≤ 5)) := by
      unfold log_Validate_1.f
      rw [within_eq]; rfl
    by_cases c : 0 ≤ rd t (i : Int) ∧ rd t (i : Int) ≤ 5
    · refine ⟨j, by rw [hj]; simp [c], ?_⟩
      refine Tl.succ ?_
      simp only [slices_IndexFunc_int_int_log_Validate_1.l0]
      exact Tl.pos (by omega) (Tl.pos (by omega) (Tl.pos (by omega) (Tl.bind' e (Tl.neg (by simp [c]) next))))
    · refine ⟨(i : Int), ⟨fun q => by omega, fun q => by simp [c] at q⟩, ?_⟩
      refine Tl.succ ?_
      simp only [slices_IndexFunc_int_int_log_Validate_1.l0]
      exact Tl.pos (by omega) (Tl.pos (by omega) (Tl.pos (by omega) (Tl.bind' e (Tl.pos (by simp [c]) Tl.now))))
theorem ev_Validate {t : List Int} (hl : t.length ≤ 1000) : Tl (fun k => log_Validate.f k t) (lc t) := by
  unfold log_Validate.f
  obtain ⟨j, hj, hr⟩ := vloop t hl t.length 0 (by omega) (by omega)
  rw [List.drop_zero] at hj
  have b : Tl (fun k => slices_ContainsFunc_int_int_log_Validate_1.f k t) (!good t) := by
    unfold slices_ContainsFunc_int_int_log_Validate_1.f
    refine Tl.to (Tl.bind hr Tl.now) ?_
    cases hb : good t with
    | true => rw [hb] at hj; have := hj.2 rfl; simp; omega
    | false => rw [hb] at hj; have : ¬ j < 0 := fun q => by simpa using hj.1 q
               simp; omega
  by_cases h : t.length ≤ 10
  · refine Tl.neg (by omega) (Tl.bind b ?_)
    cases hg : good t with
    | true => exact Tl.to (Tl.neg (by simp) Tl.now) (by simp [lc, h, hg])
    | false => exact Tl.to (Tl.pos (by simp) Tl.now) (by simp [lc, h, hg])
  · exact Tl.to (Tl.pos (by omega) Tl.now) (by simp [lc, h])
theorem costs_eq (o i c : Int) : log_ValidateCosts.f o i c = some (cc o i c) := by
  unfold log_ValidateCosts.f cc
  rw [within_eq, Option.bind_some]
  by_cases h1 : 1 ≤ o ∧ o ≤ 9
  · rw [if_pos (decide_eq_true h1), within_eq, Option.bind_some]
    by_cases h2 : 1 ≤ i ∧ i ≤ 9
    · rw [if_pos (decide_eq_true h2), within_eq, Option.bind_some]
      by_cases h3 : 1 ≤ c ∧ c ≤ 9
      · rw [if_pos (decide_eq_true h3), if_pos ⟨h1, h2, h3⟩]
      · rw [if_neg (by simpa using h3), if_neg (fun q => h3 q.2.2)]
    · rw [if_neg (by simpa using h2), if_neg (fun q => h2 q.2.1)]
  · rw [if_neg (by simpa using h1), if_neg (fun q => h1 q.1)]
theorem ev_or3 (a b c : Int) : Tl (fun k => api_Errno.f k [a, b, c]) (if a = 0 then (if b = 0 then c else b) else a) := by
  unfold api_Errno.f
  have e1 : wrap64 ((0 : Int) + 1) = 1 := by unfold wrap64; omega
  have e2 : wrap64 ((1 : Int) + 1) = 2 := by unfold wrap64; omega
  have e3 : wrap64 ((2 : Int) + 1) = 3 := by unfold wrap64; omega
  have l3 : (([a, b, c] : List Int).length : Int) = 3 := rfl
  have r0 : rd [a, b, c] 0 = a := rfl
  have r1 : rd [a, b, c] 1 = b := rfl
  have r2 : rd [a, b, c] 2 = c := rfl
  rw [l3]
  refine Tl.succ ?_
  simp only [api_Errno.l0, r0, e1, l3]
  refine Tl.pos (by omega) (Tl.pos (by omega) (Tl.pos (by omega) ?_))
  by_cases ha : a = 0
  · rw [if_pos ha]
    refine Tl.pos ha (Tl.succ ?_)
    simp only [api_Errno.l0, r1, e2, l3]
    refine Tl.pos (by omega) (Tl.pos (by omega) (Tl.pos (by omega) ?_))
    by_cases hb : b = 0
    · rw [if_pos hb]
      refine Tl.pos hb (Tl.succ ?_)
      simp only [api_Errno.l0, r2, e3, l3]
      refine Tl.pos (by omega) (Tl.pos (by omega) (Tl.pos (by omega) ?_))
      by_cases hc : c = 0
      · refine Tl.pos hc (Tl.succ ?_)
        simp only [api_Errno.l0, l3]
        exact Tl.to (Tl.neg (by omega) Tl.now) hc.symm
      · exact Tl.neg hc Tl.now
    · rw [if_neg hb]; exact Tl.neg hb Tl.now
  · rw [if_neg ha]; exact Tl.neg ha Tl.now
theorem ev_check {l m : List Int} {o i c : Int} (hl : l.length ≤ 1000) (hm : m.length ≤ 1000) : Tl (fun k => log_check.f k l m o i c) (kc l m o i c) := by
  unfold log_check.f
  exact Tl.bind (ev_Validate hl) (Tl.bind (ev_Validate hm) (Tl.bind' (costs_eq o i c) (Tl.bind (ev_or3 _ _ _) Tl.now)))
/-- The table's numbers are the distances of the beginnings. -/
theorem ch_log (c a b : Int) : log_ch c a b = ch c a b := rfl
theorem tb_isD {l m : List Int} {o i c : Int} : ∀ a k : Nat, a ≤ l.length → k ≤ m.length → IsD o i c (l.take a) (m.take k) (log_tb l m o i c a k)
  | 0, k, _, hk => by
    rw [log_tb, List.take_zero]
    have := isD_nil_l (o := o) (i := i) (c := c) (m.take k)
    rwa [List.length_take, Nat.min_eq_left hk, Int.mul_comm] at this
  | a + 1, 0, ha, _ => by
    rw [log_tb, List.take_zero]
    have := isD_nil_r (o := o) (i := i) (c := c) (l.take (a + 1))
    rwa [List.length_take, Nat.min_eq_left ha, Int.mul_comm] at this
  | a + 1, k + 1, ha, hk => by
    have h1 := tb_isD (l := l) (m := m) (o := o) (i := i) (c := c) a (k + 1) (by omega) hk
    have h2 := tb_isD (l := l) (m := m) (o := o) (i := i) (c := c) (a + 1) k ha (by omega)
    have h3 := tb_isD (l := l) (m := m) (o := o) (i := i) (c := c) a k (by omega) (by omega)
    have el : l.take (a + 1) = l.take a ++ [l[a]] := by rw [List.take_succ_eq_append_getElem (by omega)]
    have em : m.take (k + 1) = m.take k ++ [m[k]] := by rw [List.take_succ_eq_append_getElem (by omega)]
    rw [em] at h1
    rw [el] at h2
    have := isD_snoc h1 h2 h3
    rw [el, em, log_tb, rd_lt (show a < l.length by omega), rd_lt (show k < m.length by omega), ch_log]
    rw [mn_eq, mn_eq, Int.min_assoc]
    exact this
  termination_by a k => (a, k)
/-- What Distance comes to. -/
theorem ev_Distance {l m : List Int} {o i c : Int} (hl : l.length ≤ 1000) (hm : m.length ≤ 1000) : ∃ d : Int, (kc l m o i c = 0 → IsD o i c l m d) ∧ Tl (fun k => log_Distance.f k l m o i c) (if kc l m o i c = 0 then d else 0, kc l m o i c) := by
  unfold log_Distance.f
  by_cases h : kc l m o i c = 0
  · obtain ⟨h1, h2, h3⟩ := kc_zero.1 h
    have g1 := (lc_zero.1 h1).1
    have g2 := (lc_zero.1 h2).1
    have g3 := cc_zero.1 h3
    have hd := tb_isD (l := l) (m := m) (o := o) (i := i) (c := c) l.length m.length (Nat.le_refl _) (Nat.le_refl _)
    rw [List.take_length, List.take_length] at hd
    refine ⟨log_tb l m o i c l.length m.length, fun _ => hd, ?_⟩
    rw [if_pos h]
    refine Tl.bind (ev_check hl hm) (Tl.pos h (Tl.bind' (a := log_tb l m o i c l.length m.length) ?_ (Tl.to Tl.now (by rw [h]))))
    unfold log_distance.f log_table.f
    rw [if_pos ⟨g1, g2, ⟨by omega, by omega⟩, ⟨by omega, by omega⟩, ⟨by omega, by omega⟩⟩]; rfl
  · exact ⟨0, fun q => absurd q h, by rw [if_neg h]; exact Tl.bind (ev_check hl hm) (Tl.neg h Tl.now)⟩
def lg (l m : List Int) : Bool := decide ((l.length : Int) > 100) || decide ((m.length : Int) > 100)
theorem long_eq (l m : List Int) (a b c : Int) : diaphonelaw06_Long.f l m a b c = some (lg l m) := by
  unfold diaphonelaw06_Long.f diaphonelaw06_large.f lg
  by_cases h : (l.length : Int) > 100
  · simp [h]
  · simp [h]
theorem lg_false {l m : List Int} (h : lg l m = false) : l.length ≤ 100 ∧ m.length ≤ 100 := by
  unfold lg at h
  simp at h
  omega
end Go.Proofs.Ytcbepmdnhjojdaa.Lo
namespace Go.Proofs.Ytcbepmdnhjojdaa.Lr
open Go.RowKit Go.Proofs.Ytcbepmdnhjojdaa.P Go.Proofs.Ytcbepmdnhjojdaa.E Go.Proofs.Ytcbepmdnhjojdaa.Al Go.Proofs.Ytcbepmdnhjojdaa.Lo Go.Proofs.YtcbepmdnhjojdaaW.PrintMore
open Go.Proofs.YtcbepmdnhjojdaaW.PrintWords
theorem clone_eq {t : List Int} (h : t.length ≤ 1000) : slices_Clone_int_int.f t = some t := by
  unfold slices_Clone_int_int.f
  rw [if_pos (by omega)]
theorem good_mem {l : List Int} : good l = true ↔ ∀ x ∈ l, 0 ≤ x ∧ x ≤ 5 := by
  unfold good
  rw [List.all_eq_true]
  exact ⟨fun h x hx => by simpa using h x hx, fun h x hx => by simpa using h x hx⟩
theorem lc_rev (l : List Int) : lc l.reverse = lc l := by
  unfold lc good
  rw [List.length_reverse, List.all_reverse]
end Go.Proofs.Ytcbepmdnhjojdaa.Lr
namespace Go.Proofs.Ytcbepmdnhjojdaa.Lb
open Go.RowKit Go.Proofs.Ytcbepmdnhjojdaa.P Go.Proofs.Ytcbepmdnhjojdaa.E Go.Proofs.Ytcbepmdnhjojdaa.Al Go.Proofs.Ytcbepmdnhjojdaa.Lo Go.Proofs.Ytcbepmdnhjojdaa.Lr Go.Proofs.YtcbepmdnhjojdaaW.PrintMore
open Go.Proofs.YtcbepmdnhjojdaaW.PrintWords
theorem ev_rev_loop (l0 : List Int) (hl : l0.length ≤ 1000) (d : Nat) : ∀ (m : Nat) (l : List Int), 2 * m ≤ l0.length → l0.length - 2 * m ≤ d → l.length = l0.length →
    (∀ j, j < l0.length → l[j]? = if j < m ∨ l0.length ≤ j + m then l0[l0.length - 1 - j]? else l0[j]?) → Tl (fun k => slices_Reverse_int_int.l0 k l (m : Int) ((l0.length : Int) - 1 - m)) l0.reverse := by
  have fin : ∀ (m : Nat) (l : List Int), 2 * m ≤ l0.length → ¬ 2 * m + 1 < l0.length → l.length = l0.length →
    (∀ j, j < l0.length → l[j]? = if j < m ∨ l0.length ≤ j + m then l0[l0.length - 1 - j]? else l0[j]?) → Tl (fun k => slices_Reverse_int_int.l0 k l (m : Int) ((l0.length : Int) - 1 - m)) l0.reverse := by
    intro m l h1 h2 h3 h4
    refine Tl.succ ?_
    simp only [slices_Reverse_int_int.l0]
    refine Tl.to (Tl.neg (by omega) Tl.now) ?_
    refine List.ext_getElem? (fun j => ?_)
    by_cases hj : j < l0.length
    · rw [List.getElem?_reverse hj, h4 j hj]
      by_cases c : j < m ∨ l0.length ≤ j + m
      · rw [if_pos c]
      · rw [if_neg c]; congr 1; omega
    · rw [List.getElem?_eq_none (by omega), List.getElem?_eq_none (by simp; omega)]
  induction d with
  | zero => exact fun m l h1 h2 h3 h4 => fin m l h1 (by omega) h3 h4
  | succ d ih =>
    intro m l h1 h2 h3 h4
    by_cases hlt : 2 * m + 1 < l0.length
    · have next := ih (m + 1) ((l.set m (rd l ((l0.length : Int) - 1 - m))).set (l0.length - 1 - m) (rd l (m : Int))) (by omega) (by omega) (by simp [h3]) (by
        intro j hj
        rw [show (l0.length : Int) - 1 - m = ((l0.length - 1 - m : Nat) : Int) by omega]
        rw [rd_lt (show l0.length - 1 - m < l.length by omega), rd_lt (show m < l.length by omega)]
        have e1 := h4 (l0.length - 1 - m) (by omega)
        have e2 := h4 m (by omega)
        rw [if_neg (by omega), List.getElem?_eq_getElem (by omega)] at e1 e2
        rw [List.getElem?_eq_getElem (by omega)] at e1 e2
        simp only [Option.some.injEq] at e1 e2
        rw [List.getElem?_set]
        by_cases c1 : l0.length - 1 - m = j
        · rw [if_pos c1, if_pos (by simp; omega), if_pos (by omega), e2, List.getElem?_eq_getElem (by omega)]
          congr 2; omega
        · rw [if_neg c1, List.getElem?_set]
          by_cases c2 : m = j
          · rw [if_pos c2, if_pos (by omega), if_pos (by omega), e1, List.getElem?_eq_getElem (by omega)]
            congr 2; omega
          · rw [if_neg c2, h4 j hj]
            by_cases c3 : j < m ∨ l0.length ≤ j + m
            · rw [if_pos c3, if_pos (by omega)]
            · rw [if_neg c3, if_neg (by omega)])
      refine Tl.succ ?_
      simp only [slices_Reverse_int_int.l0]
      refine Tl.pos (by omega) (Tl.pos (by omega) (Tl.pos (by omega) (Tl.pos (by omega) (Tl.pos (by omega) ?_))))
      rw [w64 (by omega) (by omega), w64 (by omega) (by omega), Int.toNat_natCast, show ((l0.length : Int) - 1 - m).toNat = l0.length - 1 - m by omega]
      rw [show ((m + 1 : Nat) : Int) = (m : Int) + 1 by omega, show (l0.length : Int) - 1 - ((m : Int) + 1) = (l0.length : Int) - 1 - m - 1 by omega] at next
      exact next
    · exact fin m l h1 hlt h3 h4
theorem ev_rev (l0 : List Int) (hl : l0.length ≤ 1000) : Tl (fun k => slices_Reverse_int_int.f k l0) l0.reverse := by
  unfold slices_Reverse_int_int.f
  have := ev_rev_loop l0 hl l0.length 0 l0 (by omega) (by omega) rfl (by intro j hj; rw [if_neg (by omega)])
  rw [w64 (by omega) (by omega)]
  rw [show ((0 : Nat) : Int) = 0 from rfl, show (l0.length : Int) - 1 - 0 = (l0.length : Int) - 1 by omega] at this
  exact this
theorem ev_Back {t : List Int} (hl : t.length ≤ 1000) : Tl (fun k => log_Back.f k t) (if lc t = 0 then t.reverse else [], lc t) := by
  unfold log_Back.f
  by_cases h : lc t = 0
  · rw [if_pos h]
    exact Tl.bind (ev_Validate hl) (Tl.pos h (Tl.bind' (clone_eq hl) (Tl.bind (ev_rev t hl) (Tl.to Tl.now (by rw [h])))))
  · rw [if_neg h]
    exact Tl.bind (ev_Validate hl) (Tl.neg h Tl.now)
end Go.Proofs.Ytcbepmdnhjojdaa.Lb
namespace Go.Proofs.Ytcbepmdnhjojdaa.Cn
open Go.Proofs.Ytcbepmdnhjojdaa.Al
abbrev Cmp := List (Nat × Nat)
/-- Pairs that go up, from two places on, below two others. -/
def Up (L M i j : Nat) (x : Cmp) : Prop := (∀ p ∈ x, i ≤ p.1 ∧ j ≤ p.2 ∧ p.1 < L ∧ p.2 < M) ∧ x.Pairwise (fun p q => p.1 < q.1 ∧ p.2 < q.2)
/-- The same from the last pair on. -/
def Dn (i k : Nat) (x : Cmp) : Prop := (∀ p ∈ x, p.1 < i ∧ p.2 < k) ∧ x.Pairwise (fun p q => q.1 < p.1 ∧ q.2 < p.2)
theorem up_nil {L M i j : Nat} : Up L M i j [] := ⟨by simp, by simp⟩
theorem dn_nil {i k : Nat} : Dn i k [] := ⟨by simp, by simp⟩
theorem up_cons {L M i j a b : Nat} {t : Cmp} : Up L M i j ((a, b) :: t) ↔ (i ≤ a ∧ a < L) ∧ (j ≤ b ∧ b < M) ∧ Up L M (a + 1) (b + 1) t := by
  unfold Up
  rw [List.pairwise_cons]
  constructor
  · rintro ⟨h1, h2, h3⟩
    have := h1 (a, b) (by simp)
    simp only at this
    exact ⟨⟨this.1, this.2.2.1⟩, ⟨this.2.1, this.2.2.2⟩, fun p hp => by have := h1 p (by simp [hp]); have := h2 p hp; omega, h3⟩
  · rintro ⟨h1, h2, h3, h4⟩
    refine ⟨fun p hp => ?_, fun p hp => by have := h3 p hp; simp only; omega, h4⟩
    rcases List.mem_cons.1 hp with e | e
    · subst e; simp only; omega
    · have := h3 p e; omega
theorem dn_cons {i k a b : Nat} {t : Cmp} : Dn i k ((a, b) :: t) ↔ a < i ∧ b < k ∧ Dn a b t := by
  unfold Dn
  rw [List.pairwise_cons]
  constructor
  · rintro ⟨h1, h2, h3⟩
    have := h1 (a, b) (by simp)
    exact ⟨this.1, this.2, fun p hp => h2 p hp, h3⟩
  · rintro ⟨h1, h2, h3, h4⟩
    refine ⟨fun p hp => ?_, fun p hp => h3 p hp, h4⟩
    rcases List.mem_cons.1 hp with e | e
    · subst e; exact ⟨h1, h2⟩
    · have := h3 p e; omega
theorem dn_rev {L M : Nat} {x : Cmp} : Dn L M x.reverse ↔ Up L M 0 0 x := by
  unfold Dn Up
  rw [List.pairwise_reverse]
  simp only [List.mem_reverse]
  exact ⟨fun h => ⟨fun p hp => by have := h.1 p hp; omega, h.2⟩, fun h => ⟨fun p hp => by have := h.1 p hp; omega, h.2⟩⟩
/-- What the pairs cost. -/
def Sc (g : Nat → Nat → Int) : Cmp → Int
  | [] => 0
  | p :: t => g p.1 p.2 + Sc g t
theorem sc_append (g : Nat → Nat → Int) : ∀ x y : Cmp, Sc g (x ++ y) = Sc g x + Sc g y
  | [], y => by simp [Sc]
  | p :: x, y => by rw [List.cons_append, Sc, Sc, sc_append g x y]; omega
theorem sc_rev (g : Nat → Nat → Int) : ∀ x : Cmp, Sc g x.reverse = Sc g x
  | [] => rfl
  | p :: x => by rw [List.reverse_cons, sc_append, sc_rev g x, Sc, Sc, Sc]; omega
/-- Cost of a comparison of the ends, and of the beginnings. -/
def uc (o i : Int) (g : Nat → Nat → Int) (u v : Int) (x : Cmp) : Int := o * (u - x.length) + i * (v - x.length) + Sc g x
theorem uc_cons (o i : Int) (g : Nat → Nat → Int) (u v p q : Int) (a b : Nat) (t : Cmp) : uc o i g (u + 1 + p) (v + 1 + q) ((a, b) :: t) = uc o i g u v t + (o * p + i * q + g a b) := by
  simp only [uc, Sc]
  rw [List.length_cons, show u + 1 + p - ((t.length + 1 : Nat) : Int) = (u - t.length) + p by omega, show v + 1 + q - ((t.length + 1 : Nat) : Int) = (v - t.length) + q by omega, Int.mul_add, Int.mul_add]
  omega
section
variable {S : Cmp → Prop} {T : Nat → Nat → Cmp → Prop} {i A j B : Nat}
end
theorem uc_nil (o i : Int) (g : Nat → Nat → Int) (u v : Int) : uc o i g u v [] = o * u + i * v := by simp [uc, Sc]
end Go.Proofs.Ytcbepmdnhjojdaa.Cn
namespace Go.Proofs.Ytcbepmdnhjojdaa.Cq
open Go.RowKit Go.Proofs.Ytcbepmdnhjojdaa.P Go.Proofs.Ytcbepmdnhjojdaa.E Go.Proofs.Ytcbepmdnhjojdaa.Al Go.Proofs.Ytcbepmdnhjojdaa.Lo Go.Proofs.Ytcbepmdnhjojdaa.Cn Go.Proofs.YtcbepmdnhjojdaaW.PrintMore
open Go.Proofs.YtcbepmdnhjojdaaW.PrintWords
def gp (l m : List Int) (c : Int) (a b : Nat) : Int := ch c (rd l (a : Int)) (rd m (b : Int))
theorem uc_cons' {o i : Int} {g : Nat → Nat → Int} {u v u' v' p q : Int} {a b : Nat} (hu : u' = u + 1 + p) (hv : v' = v + 1 + q) (t : Cmp) : uc o i g u' v' ((a, b) :: t) = uc o i g u v t + (o * p + i * q + g a b) := by
  subst hu hv; exact uc_cons ..
section
variable {l m : List Int} {o i c : Int}
end
end Go.Proofs.Ytcbepmdnhjojdaa.Cq
namespace Go.Proofs.Ytcbepmdnhjojdaa.En
open Go.RowKit Go.Proofs.Ytcbepmdnhjojdaa.P Go.Proofs.Ytcbepmdnhjojdaa.E Go.Proofs.Ytcbepmdnhjojdaa.Al Go.Proofs.Ytcbepmdnhjojdaa.Lo Go.Proofs.Ytcbepmdnhjojdaa.Lr Go.Proofs.Ytcbepmdnhjojdaa.Cn Go.Proofs.Ytcbepmdnhjojdaa.Cq Go.Proofs.YtcbepmdnhjojdaaW.PrintMore
open Go.Proofs.YtcbepmdnhjojdaaW.PrintWords
def get (x : List (List Int)) (a b : Nat) : Int := rd (rd_L1 x (a : Int)) (b : Int)
theorem small {o : Int} (ho : 0 ≤ o ∧ o ≤ 9) {p : Int} (hp : 0 ≤ p ∧ p ≤ 10) : 0 ≤ o * p ∧ o * p ≤ 90 := by
  have h1 : 0 ≤ o * p := Int.mul_nonneg ho.1 hp.1
  have h2 : o * p ≤ o * 10 := Int.mul_le_mul_of_nonneg_left hp.2 ho.1
  omega
theorem nx' {a : Nat} (h : a ≤ 1000) : wrap64 ((a : Int) + 1) = ((a + 1 : Nat) : Int) := by rw [w64 (by omega) (by omega)]; omega
section
variable {l m : List Int} {o i c : Int}
theorem ldistance_eq (hL : l.length ≤ 10) (hM : m.length ≤ 10) (ho : 0 ≤ o ∧ o ≤ 9) (hi : 0 ≤ i ∧ i ≤ 9) (hc : 0 ≤ c ∧ c ≤ 9) : log_distance.f l m o i c = some (log_tb l m o i c l.length m.length) := by
  unfold log_distance.f log_table.f
  rw [if_pos ⟨hL, hM, ho, hi, hc⟩]; rfl
end
end Go.Proofs.Ytcbepmdnhjojdaa.En
namespace Go.Proofs.Ytcbepmdnhjojdaa.Bs
open Go.RowKit Go.Proofs.Ytcbepmdnhjojdaa.P Go.Proofs.Ytcbepmdnhjojdaa.E Go.Proofs.Ytcbepmdnhjojdaa.Al Go.Proofs.Ytcbepmdnhjojdaa.Lo Go.Proofs.Ytcbepmdnhjojdaa.Lr Go.Proofs.Ytcbepmdnhjojdaa.Cn Go.Proofs.Ytcbepmdnhjojdaa.Cq Go.Proofs.Ytcbepmdnhjojdaa.En Go.Proofs.YtcbepmdnhjojdaaW.PrintMore
open Go.Proofs.YtcbepmdnhjojdaaW.PrintWords
theorem rt_lt {xs : List S65} {i : Nat} (h : i < xs.length) : rd_T65 xs (i : Int) = xs[i] := by
  unfold rd_T65
  rw [Int.toNat_natCast, List.getD_eq_getElem?_getD, List.getElem?_eq_getElem h]; rfl
theorem rev_loop (l0 : List S65) (hl : l0.length ≤ 1000) (d : Nat) : ∀ (m : Nat) (l : List S65), 2 * m ≤ l0.length → l0.length - 2 * m ≤ d → l.length = l0.length →
    (∀ j, j < l0.length → l[j]? = if j < m ∨ l0.length ≤ j + m then l0[l0.length - 1 - j]? else l0[j]?) → Tl (fun k => api_Pair.l0 k l (m : Int) ((l0.length : Int) - 1 - m)) l0.reverse := by
  have fin : ∀ (m : Nat) (l : List S65), 2 * m ≤ l0.length → ¬ 2 * m + 1 < l0.length → l.length = l0.length →
    (∀ j, j < l0.length → l[j]? = if j < m ∨ l0.length ≤ j + m then l0[l0.length - 1 - j]? else l0[j]?) → Tl (fun k => api_Pair.l0 k l (m : Int) ((l0.length : Int) - 1 - m)) l0.reverse := by
    intro m l h1 h2 h3 h4
    refine Tl.succ ?_
    simp only [api_Pair.l0]
    refine Tl.to (Tl.neg (by omega) Tl.now) ?_
    refine List.ext_getElem? (fun j => ?_)
    by_cases hj : j < l0.length
    · rw [List.getElem?_reverse hj, h4 j hj]
      by_cases c : j < m ∨ l0.length ≤ j + m
      · rw [if_pos c]
      · rw [if_neg c]; congr 1; omega
    · rw [List.getElem?_eq_none (by omega), List.getElem?_eq_none (by simp; omega)]
  induction d with
  | zero => exact fun m l h1 h2 h3 h4 => fin m l h1 (by omega) h3 h4
  | succ d ih =>
    intro m l h1 h2 h3 h4
    by_cases hlt : 2 * m + 1 < l0.length
    · have next := ih (m + 1) ((l.set m (rd_T65 l ((l0.length : Int) - 1 - m))).set (l0.length - 1 - m) (rd_T65 l (m : Int))) (by omega) (by omega) (by simp [h3]) (by
        intro j hj
        rw [show (l0.length : Int) - 1 - m = ((l0.length - 1 - m : Nat) : Int) by omega]
        rw [rt_lt (show l0.length - 1 - m < l.length by omega), rt_lt (show m < l.length by omega)]
        have e1 := h4 (l0.length - 1 - m) (by omega)
        have e2 := h4 m (by omega)
        rw [if_neg (by omega), List.getElem?_eq_getElem (by omega)] at e1 e2
        rw [List.getElem?_eq_getElem (by omega)] at e1 e2
        simp only [Option.some.injEq] at e1 e2
        rw [List.getElem?_set]
        by_cases c1 : l0.length - 1 - m = j
        · rw [if_pos c1, if_pos (by simp; omega), if_pos (by omega), e2, List.getElem?_eq_getElem (by omega)]
          congr 2; omega
        · rw [if_neg c1, List.getElem?_set]
          by_cases c2 : m = j
          · rw [if_pos c2, if_pos (by omega), if_pos (by omega), e1, List.getElem?_eq_getElem (by omega)]
            congr 2; omega
          · rw [if_neg c2, h4 j hj]
            by_cases c3 : j < m ∨ l0.length ≤ j + m
            · rw [if_pos c3, if_pos (by omega)]
            · rw [if_neg c3, if_neg (by omega)])
      refine Tl.succ ?_
      simp only [api_Pair.l0]
      refine Tl.pos (by omega) (Tl.pos (by omega) (Tl.pos (by omega) (Tl.pos (by omega) (Tl.pos (by omega) ?_))))
      rw [w64 (by omega) (by omega), w64 (by omega) (by omega), Int.toNat_natCast, show ((l0.length : Int) - 1 - m).toNat = l0.length - 1 - m by omega]
      rw [show ((m + 1 : Nat) : Int) = (m : Int) + 1 by omega, show (l0.length : Int) - 1 - ((m : Int) + 1) = (l0.length : Int) - 1 - m - 1 by omega] at next
      exact next
    · exact fin m l h1 hlt h3 h4
theorem ev_rev (l0 : List S65) (hl : l0.length ≤ 1000) : Tl (fun k => api_Pair.f k l0) l0.reverse := by
  unfold api_Pair.f
  have := rev_loop l0 hl l0.length 0 l0 (by omega) (by omega) rfl (by intro j hj; rw [if_neg (by omega)])
  rw [w64 (by omega) (by omega)]
  rw [show ((0 : Nat) : Int) = 0 from rfl, show (l0.length : Int) - 1 - 0 = (l0.length : Int) - 1 by omega] at this
  exact this
def mk (p : Nat × Nat) : S65 := ⟨(p.1 : Int), (p.2 : Int)⟩
section
variable {l m : List Int} {o i c : Int}
def T (l m : List Int) (o i c : Int) : List (List Int) := (List.range (l.length + 1)).map fun a => (List.range (m.length + 1)).map (log_tb l m o i c a)
theorem T_len : (T l m o i c).length = l.length + 1 := by simp [T]
theorem T_row {a : Nat} (ha : a ≤ l.length) : rd_L1 (T l m o i c) (a : Int) = (List.range (m.length + 1)).map (log_tb l m o i c a) := by
  unfold rd_L1 T
  rw [Int.toNat_natCast, List.getD_eq_getElem?_getD, List.getElem?_eq_getElem (by simp; omega)]
  simp
theorem T_get {a b : Nat} (ha : a ≤ l.length) (hb : b ≤ m.length) : rd (rd_L1 (T l m o i c) (a : Int)) (b : Int) = log_tb l m o i c a b := by
  rw [T_row ha, rd_lt (by simp; omega)]
  simp
theorem dn_len : ∀ {x : Cmp} {a b : Nat}, Dn a b x → x.length ≤ a
  | [], _, _, _ => Nat.zero_le _
  | (p, q) :: t, a, b, h => by
    have h1 := dn_cons.1 h
    have := dn_len h1.2.2
    rw [List.length_cons]; omega
theorem best_loop (hL : l.length ≤ 10) (hM : m.length ≤ 10) (ho : 0 ≤ o ∧ o ≤ 9) (hi : 0 ≤ i ∧ i ≤ 9) (hc : 0 ≤ c ∧ c ≤ 9) : ∀ (n a b : Nat) (acc : List S65), a + b = n → a ≤ l.length → b ≤ m.length → acc.length + a ≤ 100 →
    ∃ D : Cmp, Dn a b D ∧ uc o i (gp l m c) a b D = log_tb l m o i c a b ∧ Tl (fun k => log_Best.l0 k l m (T l m o i c) acc (a : Int) (b : Int) o i c) ((acc ++ D.map mk).reverse, 0) := by
  intro n
  induction n using Nat.strongRecOn with
  | _ n ih =>
    intro a b acc hn ha hb hacc
    by_cases h0 : a = 0 ∨ b = 0
    · refine ⟨[], dn_nil, ?_, ?_⟩
      · rw [uc_nil]
        rcases h0 with rfl | rfl
        · rw [log_tb, Int.mul_comm]; simp [Int.mul_comm]
        · cases a with
          | zero => rw [log_tb]; simp
          | succ a => rw [log_tb, Int.mul_comm]; simp [Int.mul_comm]
      · have j1f : Tl (fun k => log_Best.j1 k l m (T l m o i c) acc (a : Int) (b : Int) false o i c) ((acc ++ [].map mk).reverse, 0) := by
          refine Tl.succ ?_
          simp only [log_Best.j1]
          refine Tl.neg (by simp) (Tl.bind (ev_rev acc (by omega)) (Tl.to Tl.now ?_))
          simp
        refine Tl.succ ?_
        simp only [log_Best.l0]
        rcases h0 with rfl | rfl
        · exact Tl.neg (by omega) j1f
        · by_cases ha0 : (a : Int) > 0
          · refine Tl.pos ha0 ?_
            rw [show decide (((0 : Nat) : Int) > 0) = false by decide]
            exact j1f
          · exact Tl.neg ha0 j1f
    · obtain ⟨a', rfl⟩ : ∃ a', a = a' + 1 := ⟨a - 1, by omega⟩
      obtain ⟨b', rfl⟩ : ∃ b', b = b' + 1 := ⟨b - 1, by omega⟩
      have r1 := log_tb_range (l := l) (m := m) ho hi hc a' b'
      have r2 := log_tb_range (l := l) (m := m) ho hi hc a' (b' + 1)
      have rc := log_ch_range hc (rd l (a' : Int)) (rd m (b' : Int))
      have g1 := T_get (l := l) (m := m) (o := o) (i := i) (c := c) (a := a' + 1) (b := b' + 1) ha hb
      have g2 := T_get (l := l) (m := m) (o := o) (i := i) (c := c) (a := a') (b := b') (by omega) (by omega)
      have g3 := T_get (l := l) (m := m) (o := o) (i := i) (c := c) (a := a') (b := b' + 1) (by omega) hb
      have q1 := T_len (l := l) (m := m) (o := o) (i := i) (c := c)
      have q2 : (rd_L1 (T l m o i c) ((a' + 1 : Nat) : Int)).length = m.length + 1 := by rw [T_row ha]; simp
      have q3 : (rd_L1 (T l m o i c) (a' : Int)).length = m.length + 1 := by rw [T_row (by omega)]; simp
      have et : log_tb l m o i c (a' + 1) (b' + 1) = min (log_tb l m o i c a' (b' + 1) + o) (min (log_tb l m o i c (a' + 1) b' + i) (log_tb l m o i c a' b' + log_ch c (rd l (a' : Int)) (rd m (b' : Int)))) := by
        conv => lhs; rw [log_tb]
        rw [mn_eq, mn_eq, Int.min_assoc]
      -- the three ways on
      obtain ⟨D1, d1, u1, t1⟩ := ih (a' + b') (by omega) a' b' (acc ++ [mk (a', b')]) rfl (by omega) (by omega) (by simp; omega)
      obtain ⟨D2, d2, u2, t2⟩ := ih (a' + (b' + 1)) (by omega) a' (b' + 1) acc rfl (by omega) hb (by omega)
      obtain ⟨D3, d3, u3, t3⟩ := ih (a' + 1 + b') (by omega) (a' + 1) b' acc rfl ha (by omega) hacc
      have E1 := Aside0.mk (show wrap64 (((a' + 1 : Nat) : Int) - 1) = (a' : Int) by rw [w64 (by omega) (by omega)]; omega)
      have E2 := Aside0.mk (show wrap64 (((b' + 1 : Nat) : Int) - 1) = (b' : Int) by rw [w64 (by omega) (by omega)]; omega)
      have E3 := Aside0.mk (show wrap64 (log_tb l m o i c a' b' + log_ch c (rd l (a' : Int)) (rd m (b' : Int))) = log_tb l m o i c a' b' + log_ch c (rd l (a' : Int)) (rd m (b' : Int)) from w64 (by omega) (by omega))
      have E4 := Aside0.mk (show wrap64 (log_tb l m o i c a' (b' + 1) + o) = log_tb l m o i c a' (b' + 1) + o from w64 (by omega) (by omega))
      have dn_up : ∀ {D : Cmp} {p q p' q' : Nat}, p ≤ p' → q ≤ q' → Dn p q D → Dn p' q' D := fun hp hq h => ⟨fun z hz => by have := h.1 z hz; omega, h.2⟩
      have body : ∀ r : List S65 × Int,
          (log_tb l m o i c (a' + 1) (b' + 1) = log_tb l m o i c a' b' + log_ch c (rd l (a' : Int)) (rd m (b' : Int)) → Tl (fun k => log_Best.l0 k l m (T l m o i c) (acc ++ [mk (a', b')]) (a' : Int) (b' : Int) o i c) r) →
          (¬ log_tb l m o i c (a' + 1) (b' + 1) = log_tb l m o i c a' b' + log_ch c (rd l (a' : Int)) (rd m (b' : Int)) → log_tb l m o i c (a' + 1) (b' + 1) = log_tb l m o i c a' (b' + 1) + o → Tl (fun k => log_Best.l0 k l m (T l m o i c) acc (a' : Int) ((b' + 1 : Nat) : Int) o i c) r) →
          (¬ log_tb l m o i c (a' + 1) (b' + 1) = log_tb l m o i c a' b' + log_ch c (rd l (a' : Int)) (rd m (b' : Int)) → ¬ log_tb l m o i c (a' + 1) (b' + 1) = log_tb l m o i c a' (b' + 1) + o → Tl (fun k => log_Best.l0 k l m (T l m o i c) acc ((a' + 1 : Nat) : Int) (b' : Int) o i c) r) →
          Tl (fun k => log_Best.l0 k l m (T l m o i c) acc ((a' + 1 : Nat) : Int) ((b' + 1 : Nat) : Int) o i c) r := by
        intro r c1 c2 c3
        refine Tl.succ ?_
        simp only [log_Best.l0]
        refine Tl.pos (by omega) ?_
        rw [show decide (((b' + 1 : Nat) : Int) > 0) = true from decide_eq_true (by omega)]
        refine Tl.succ ?_
        simp only [log_Best.j1]
        rw [E1.out, E2.out, g1, g2, g3]
        refine Tl.pos trivial (Tl.pos (by omega) (Tl.pos (by rw [q1]; omega) (Tl.pos (by omega) (Tl.pos (by rw [q2]; omega) (Tl.pos (by omega) (Tl.pos (by rw [q1]; omega) (Tl.pos (by omega) (Tl.pos (by rw [q3]; omega) (Tl.pos (by omega) (Tl.pos (by omega) (Tl.bind' rfl ?_)))))))))))
        rw [E3.out]
        by_cases h1 : log_tb l m o i c (a' + 1) (b' + 1) = log_tb l m o i c a' b' + log_ch c (rd l (a' : Int)) (rd m (b' : Int))
        · exact Tl.pos h1 (Tl.pos (by omega) (c1 h1))
        · refine Tl.neg h1 (Tl.pos (by rw [q3]; omega) (Tl.bind' rfl ?_))
          rw [E4.out]
          by_cases h2 : log_tb l m o i c (a' + 1) (b' + 1) = log_tb l m o i c a' (b' + 1) + o
          · exact Tl.pos h2 (c2 h1 h2)
          · exact Tl.neg h2 (c3 h1 h2)
      by_cases h1 : log_tb l m o i c (a' + 1) (b' + 1) = log_tb l m o i c a' b' + log_ch c (rd l (a' : Int)) (rd m (b' : Int))
      · refine ⟨(a', b') :: D1, dn_cons.2 ⟨by omega, by omega, d1⟩, ?_, body _ (fun _ => Tl.to t1 (by simp)) (fun h => absurd h1 h) (fun h => absurd h1 h)⟩
        rw [uc_cons' (u := (a' : Int)) (v := (b' : Int)) (p := 0) (q := 0) (by omega) (by omega), u1, h1]
        unfold gp
        rw [show log_ch c (rd l (a' : Int)) (rd m (b' : Int)) = ch c (rd l (a' : Int)) (rd m (b' : Int)) from rfl]; omega
      · by_cases h2 : log_tb l m o i c (a' + 1) (b' + 1) = log_tb l m o i c a' (b' + 1) + o
        · refine ⟨D2, dn_up (by omega) (Nat.le_refl _) d2, ?_, body _ (fun h => absurd h h1) (fun _ _ => t2) (fun _ h => absurd h2 h)⟩
          rw [h2, ← u2]
          unfold uc
          rw [show ((a' + 1 : Nat) : Int) - D2.length = ((a' : Int) - D2.length) + 1 by omega, Int.mul_add, Int.mul_one]; omega
        · refine ⟨D3, dn_up (Nat.le_refl _) (by omega) d3, ?_, body _ (fun h => absurd h h1) (fun _ h => absurd h h2) (fun _ _ => t3)⟩
          have h3 : log_tb l m o i c (a' + 1) (b' + 1) = log_tb l m o i c (a' + 1) b' + i := by omega
          rw [h3, ← u3]
          unfold uc
          rw [show ((b' + 1 : Nat) : Int) - D3.length = ((b' : Int) - D3.length) + 1 by omega, Int.mul_add, Int.mul_one]; omega
end
theorem dn_pairs {a b : Nat} {D : Cmp} (h : Dn a b D) : Up a b 0 0 D.reverse := dn_rev.1 (by rwa [List.reverse_reverse])
section
variable {l m : List Int} {o i c : Int}
theorem mk0 (p : Nat × Nat) : (mk p).f0 = (p.1 : Int) := rfl
theorem mk1 (p : Nat × Nat) : (mk p).f1 = (p.2 : Int) := rfl
theorem rt_mk {U : Cmp} {j : Nat} (h : j < U.length) : rd_T65 (U.map mk) (j : Int) = mk U[j] := by
  rw [rt_lt (by simpa using h)]; simp
theorem sc_drop (g : Nat → Nat → Int) {U : Cmp} {j : Nat} (h : j < U.length) : Sc g (U.drop j) = g U[j].1 U[j].2 + Sc g (U.drop (j + 1)) := by
  rw [List.drop_eq_getElem_cons h, Sc]
theorem up_len : ∀ {U : Cmp} {p q : Nat}, Up l.length m.length p q U → U.length + q ≤ max q m.length
  | [], p, q, _ => by simp; omega
  | (a, b) :: t, p, q, h => by
    have h1 := up_cons.1 h
    have := up_len h1.2.2
    rw [List.length_cons]; omega
theorem ev_Best (hl : l.length ≤ 1000) (hm : m.length ≤ 1000) : ∃ U : Cmp, (kc l m o i c = 0 → Up l.length m.length 0 0 U ∧ U.length ≤ l.length ∧ U.length ≤ m.length ∧ uc o i (gp l m c) l.length m.length U = log_tb l m o i c l.length m.length) ∧ Tl (fun k => log_Best.f k l m o i c) (if kc l m o i c = 0 then U.map mk else [], kc l m o i c) := by
  unfold log_Best.f
  by_cases h : kc l m o i c = 0
  · obtain ⟨h1, h2, h3⟩ := kc_zero.1 h
    have g3 := cc_zero.1 h3
    have hL := (lc_zero.1 h1).1
    have hM := (lc_zero.1 h2).1
    have ho : 0 ≤ o ∧ o ≤ 9 := ⟨by omega, by omega⟩
    have hi : 0 ≤ i ∧ i ≤ 9 := ⟨by omega, by omega⟩
    have hc : 0 ≤ c ∧ c ≤ 9 := ⟨by omega, by omega⟩
    obtain ⟨D, d1, d2, d3⟩ := best_loop (l := l) (m := m) hL hM ho hi hc (l.length + m.length) l.length m.length [] rfl (Nat.le_refl _) (Nat.le_refl _) (by simp; omega)
    have hU := dn_pairs d1
    have hl1 := dn_len d1
    have hl2 := up_len hU
    refine ⟨D.reverse, fun _ => ⟨hU, by rw [List.length_reverse]; omega, by omega, ?_⟩, ?_⟩
    · rw [← d2]; unfold uc; rw [List.length_reverse, sc_rev]
    · rw [if_pos h]
      refine Tl.bind (ev_check hl hm) (Tl.pos h (Tl.bind' (a := T l m o i c) ?_ (Tl.to d3 ?_)))
      · unfold log_table.f
        rw [if_pos ⟨hL, hM, ho, hi, hc⟩]; rfl
      · rw [List.nil_append, List.map_reverse, h]
  · exact ⟨[], fun q => absurd q h, by rw [if_neg h]; exact Tl.bind (ev_check hl hm) (Tl.neg h Tl.now)⟩
end
end Go.Proofs.Ytcbepmdnhjojdaa.Bs
namespace Go.Proofs.Ytcbepmdnhjojdaa.Pure
open Go.RowKit Go.Proofs.Ytcbepmdnhjojdaa.P Go.Proofs.Ytcbepmdnhjojdaa.E Go.Proofs.Ytcbepmdnhjojdaa.Al Go.Proofs.Ytcbepmdnhjojdaa.Lo Go.Proofs.Ytcbepmdnhjojdaa.Lr Go.Proofs.YtcbepmdnhjojdaaW.PrintMore
open Go.Proofs.YtcbepmdnhjojdaaW.PrintWords
namespace Prs
theorem rt_lt {xs : List S65} {i : Nat} (h : i < xs.length) : rd_T65 xs (i : Int) = xs[i] := by
  unfold rd_T65
  rw [Int.toNat_natCast, List.getD_eq_getElem?_getD, List.getElem?_eq_getElem h]; rfl
theorem nx {a : Nat} (h : a ≤ 1000) : wrap64 ((a : Int) + 1) = ((a + 1 : Nat) : Int) := by rw [w64 (by omega) (by omega)]; omega
theorem lft {o p : Int} (ho : 0 ≤ o ∧ o ≤ 9) (hp : -100 ≤ p ∧ p ≤ 100) : -900 ≤ o * p ∧ o * p ≤ 900 := by
  have h1 : o * p ≤ o * 100 := Int.mul_le_mul_of_nonneg_left hp.2 ho.1
  have h2 : o * (-100) ≤ o * p := Int.mul_le_mul_of_nonneg_left hp.1 ho.1
  omega
section
variable {l m : List Int} {o i c : Int} {ps : List S65}
def G (l m : List Int) (c : Int) (p : S65) : Int := ch c (rd l p.f0) (rd m p.f1)
def S (l m : List Int) (c : Int) (ps : List S65) : Nat → Int
  | 0 => 0
  | d + 1 => G l m c (rd_T65 ps ((ps.length - (d + 1) : Nat) : Int)) + S l m c ps d
def wi (l m : List Int) (p : S65) : Prop := (0 ≤ p.f0 ∧ p.f0 ≤ (l.length : Int) - 1) ∧ (0 ≤ p.f1 ∧ p.f1 ≤ (m.length : Int) - 1)
def okj (ps : List S65) (j : Nat) : Prop := (rd_T65 ps (j : Int)).f0 < (rd_T65 ps ((j + 1 : Nat) : Int)).f0 ∧ (rd_T65 ps (j : Int)).f1 < (rd_T65 ps ((j + 1 : Nat) : Int)).f1
def good (ps : List S65) (j : Nat) : Prop := ∀ t, j ≤ t + 1 → t + 1 < ps.length → okj ps t
def inn (l m : List Int) (ps : List S65) : Prop := ∀ t : Nat, t < ps.length → wi l m (rd_T65 ps (t : Int))
theorem S_step {d j : Nat} (hj : ps.length - j = d + 1) : S l m c ps (d + 1) = G l m c (rd_T65 ps (j : Int)) + S l m c ps d := by
  show G l m c (rd_T65 ps ((ps.length - (d + 1) : Nat) : Int)) + S l m c ps d = _
  rw [show ps.length - (d + 1) = j by omega]
theorem good_next {j : Nat} (h : good ps j) : good ps (j + 1) := fun t h1 h2 => h t (by omega) h2
theorem good_back {j : Nat} (h : good ps (j + 1 + 1)) (k : okj ps j) : good ps (j + 1) := fun t h1 h2 => by
  by_cases e : t = j
  · subst e; exact k
  · exact h t (by omega) h2
theorem good_zero (h : good ps 1) : good ps 0 := fun t h1 h2 => h t (by omega) h2
theorem lp_loop (hc : 0 ≤ c ∧ c ≤ 9) (hn : ps.length ≤ 100) (hi : inn l m ps) : ∀ (d j : Nat) (s : Int), j ≤ ps.length → ps.length - j = d → -2000 ≤ s ∧ s ≤ 2000 + 9 * j →
    (good ps j → Tl (fun k => log_CheckPairs.l0 k ps s ps (ps.length : Int) (j : Int) l m o i c) (s + S l m c ps d, 0)) ∧
    (¬ good ps j → Tl (fun k => log_CheckPairs.l0 k ps s ps (ps.length : Int) (j : Int) l m o i c) (0, 6)) := by
  intro d
  induction d with
  | zero =>
    intro j s h1 h2 h3
    refine ⟨fun _ => ?_, fun h => absurd (fun t q1 q2 => by omega) h⟩
    refine Tl.succ ?_
    simp only [log_CheckPairs.l0]
    exact Tl.to (Tl.neg (by omega) Tl.now) (by simp [S])
  | succ d ih =>
    intro j s h1 h2 h3
    have hm := hi j (by omega)
    obtain ⟨a1, a2⟩ := hm
    have hr := ch_range hc.1 (rd l (rd_T65 ps (j : Int)).f0) (rd m (rd_T65 ps (j : Int)).f1)
    obtain ⟨n1, n2⟩ := ih (j + 1) (s + G l m c (rd_T65 ps (j : Int))) (by omega) (by omega) (by unfold G; omega)
    rw [S_step h2]
    have E1 := Aside0.mk (nx (a := j) (by omega))
    have E2 := Aside0.mk (show wrap64 (s + G l m c (rd_T65 ps (j : Int))) = s + G l m c (rd_T65 ps (j : Int)) from w64 (by unfold G; omega) (by unfold G; omega))
    unfold G at E2 n1 n2 ⊢
    have E4 : log_costBoth.f o i c (rd l (rd_T65 ps (j : Int)).f0) (rd m (rd_T65 ps (j : Int)).f1) = some (ch c (rd l (rd_T65 ps (j : Int)).f0) (rd m (rd_T65 ps (j : Int)).f1)) := rfl
    have add : ∀ {r : Int × Int}, Tl (fun k => log_CheckPairs.l0 k ps (s + ch c (rd l (rd_T65 ps (j : Int)).f0) (rd m (rd_T65 ps (j : Int)).f1)) ps (ps.length : Int) ((j + 1 : Nat) : Int) l m o i c) r →
        (j = 0 ∨ ∃ j', j = j' + 1 ∧ okj ps j') → Tl (fun k => log_CheckPairs.l0 k ps s ps (ps.length : Int) (j : Int) l m o i c) r := by
      intro r next hj
      rcases hj with rfl | ⟨j', rfl, hk⟩
      · refine Tl.succ ?_
        simp only [log_CheckPairs.l0]
        rw [E1.out]
        refine Tl.pos (by omega) (Tl.pos (by omega) (Tl.pos (by omega) (Tl.neg (by omega) (Tl.pos a1.1 (Tl.pos (by omega) (Tl.pos a2.1 (Tl.pos (by omega) (Tl.bind' E4 ?_))))))))
        rw [E2.out]
        exact next
      · have E3 := Aside0.mk (show wrap64 (((j' + 1 : Nat) : Int) - 1) = (j' : Int) by rw [w64 (by omega) (by omega)]; omega)
        obtain ⟨k1, k2⟩ := hk
        refine Tl.succ ?_
        simp only [log_CheckPairs.l0]
        rw [E1.out, E3.out]
        refine Tl.pos (by omega) (Tl.pos (by omega) (Tl.pos (by omega) (Tl.pos (by omega) (Tl.pos (by omega) (Tl.pos (by omega) (Tl.neg (by omega) (Tl.neg (by omega) (Tl.pos a1.1 (Tl.pos (by omega) (Tl.pos a2.1 (Tl.pos (by omega) (Tl.bind' E4 ?_))))))))))))
        rw [E2.out]
        exact next
    refine ⟨fun h => ?_, fun h => ?_⟩
    · refine add (Tl.to (n1 (good_next h)) (by rw [Int.add_assoc])) ?_
      by_cases e : j = 0
      · exact Or.inl e
      · exact Or.inr ⟨j - 1, by omega, h (j - 1) (by omega) (by omega)⟩
    · by_cases e : j = 0
      · subst e
        exact add (n2 (fun q => h (good_zero q))) (Or.inl rfl)
      · obtain ⟨j', rfl⟩ : ∃ j', j = j' + 1 := ⟨j - 1, by omega⟩
        by_cases hk : okj ps j'
        · exact add (n2 (fun q => h (good_back q hk))) (Or.inr ⟨j', rfl, hk⟩)
        · have E3 := Aside0.mk (show wrap64 (((j' + 1 : Nat) : Int) - 1) = (j' : Int) by rw [w64 (by omega) (by omega)]; omega)
          refine Tl.succ ?_
          simp only [log_CheckPairs.l0]
          rw [E3.out]
          refine Tl.pos (by omega) (Tl.pos (by omega) (Tl.pos (by omega) (Tl.pos (by omega) (Tl.pos (by omega) (Tl.pos (by omega) ?_)))))
          by_cases k1 : (rd_T65 ps (j' : Int)).f0 < (rd_T65 ps ((j' + 1 : Nat) : Int)).f0
          · have k2 : ¬ (rd_T65 ps (j' : Int)).f1 < (rd_T65 ps ((j' + 1 : Nat) : Int)).f1 := fun q => hk ⟨k1, q⟩
            exact Tl.neg (by omega) (Tl.pos (by omega) Tl.now)
          · exact Tl.pos (by omega) Tl.now
theorem pout_iff : ps.any (fun p => log_pout l.length m.length p.f0 p.f1) = false ↔ inn l m ps := by
  rw [List.any_eq_false]
  have e : ∀ p : S65, ¬ (log_pout l.length m.length p.f0 p.f1 = true) ↔ wi l m p := by
    intro p
    unfold log_pout wi
    simp only [Bool.or_eq_true, Bool.not_eq_true', decide_eq_false_iff_not, not_or, Decidable.not_not]
  constructor
  · intro h t ht
    rw [rt_lt ht]
    exact (e _).1 (h _ (List.getElem_mem ht))
  · intro h p hp
    obtain ⟨t, ht, rfl⟩ := List.getElem_of_mem hp
    have := h t ht
    rw [rt_lt ht] at this
    exact (e _).2 this
end
end Prs
end Go.Proofs.Ytcbepmdnhjojdaa.Pure
namespace Go.Proofs.Ytcbepmdnhjojdaa.Tg
open Go.RowKit Go.Proofs.Ytcbepmdnhjojdaa.P Go.Proofs.Ytcbepmdnhjojdaa.E Go.Proofs.Ytcbepmdnhjojdaa.Al Go.Proofs.Ytcbepmdnhjojdaa.Lo Go.Proofs.Ytcbepmdnhjojdaa.Lr Go.Proofs.Ytcbepmdnhjojdaa.En Go.Proofs.YtcbepmdnhjojdaaW.PrintMore
open Go.Proofs.YtcbepmdnhjojdaaW.PrintWords
/-- A row is as long as it ought to be, with no great number. -/
def Rw (m : List Int) (t : List (List Int)) (a : Nat) : Prop := (rd_L1 t (a : Int)).length = m.length + 1 ∧ ∀ b : Nat, b ≤ m.length → -1000 ≤ get t a b ∧ get t a b ≤ 1000
/-- A number is not more than by one edit above those before it. -/
def Sl (l m : List Int) (o i c : Int) (t : List (List Int)) (a b : Nat) : Prop := (a = 0 ∧ b = 0 → get t a b = 0) ∧ (0 < a → get t a b ≤ get t (a - 1) b + o) ∧ (0 < b → get t a b ≤ get t a (b - 1) + i) ∧ (0 < a → 0 < b → get t a b ≤ get t (a - 1) (b - 1) + ch c (rd l ((a - 1 : Nat) : Int)) (rd m ((b - 1 : Nat) : Int)))
open Classical in
noncomputable def sv (l m : List Int) (o i c : Int) (t : List (List Int)) : Int × Int := if ∀ a, a ≤ l.length → ∀ b, b ≤ m.length → Sl l m o i c t a b then (get t l.length m.length, 0) else (0, 7)
open Classical in
noncomputable def ct (l m : List Int) (o i c : Int) (t : List (List Int)) : Int × Int := if kc l m o i c = 0 then (if t.length = l.length + 1 then (if ∀ a, a ≤ l.length → Rw m t a then sv l m o i c t else (0, 1)) else (0, 1)) else (0, kc l m o i c)
def inr (r : List Int) : Bool := r.all (fun x => decide (-1000 ≤ x ∧ x ≤ 1000))
theorem inr_drop {t : List Int} {i : Nat} (hi : i < t.length) : inr (t.drop i) = (decide (-1000 ≤ rd t (i : Int) ∧ rd t (i : Int) ≤ 1000) && inr (t.drop (i + 1))) := by
  rw [drop_cons hi, rd_lt hi]; rfl
theorem vloop (t : List Int) (hl : t.length ≤ 1000) (d : Nat) : ∀ i : Nat, i ≤ t.length → t.length - i = d → ∃ j : Int, (j < 0 ↔ inr (t.drop i) = true) ∧ Tl (fun k => slices_IndexFunc_int_int_log_CheckTable_1.l0 k t (t.length : Int) (i : Int)) j := by
  induction d with
  | zero =>
    intro i h1 h2
    refine ⟨-1, ?_, ?_⟩
    · rw [List.drop_eq_nil_of_le (by omega)]; simp [inr]
    · refine Tl.succ ?_
      simp only [slices_IndexFunc_int_int_log_CheckTable_1.l0]
      exact Tl.neg (by omega) Tl.now
  | succ d ih =>
    intro i h1 h2
    have hlt : i < t.length := by omega
    obtain ⟨j, hj, next⟩ := ih (i + 1) (by omega) (by omega)
    have E := Aside0.mk (nx' (a := i) (by omega))
    rw [inr_drop hlt]
    have e : log_CheckTable_1.f (rd t (i : Int)) = some (!decide (-1000 ≤ rd t (i : Int) ∧ rd t (i : Int) ≤ 1000)) := by
      unfold log_CheckTable_1.f
      rw [within_eq]; rfl
    by_cases c : -1000 ≤ rd t (i : Int) ∧ rd t (i : Int) ≤ 1000
    · refine ⟨j, by rw [hj]; simp [c], ?_⟩
      refine Tl.succ ?_
      simp only [slices_IndexFunc_int_int_log_CheckTable_1.l0]
      rw [E.out]
      exact Tl.pos (by omega) (Tl.pos (by omega) (Tl.pos (by omega) (Tl.bind' e (Tl.neg (by simp [c]) next))))
    · refine ⟨(i : Int), ⟨fun q => by omega, fun q => by simp [c] at q⟩, ?_⟩
      refine Tl.succ ?_
      simp only [slices_IndexFunc_int_int_log_CheckTable_1.l0]
      exact Tl.pos (by omega) (Tl.pos (by omega) (Tl.pos (by omega) (Tl.bind' e (Tl.pos (by simp [c]) Tl.now))))
theorem ev_inr {t : List Int} (hl : t.length ≤ 1000) : Tl (fun k => slices_ContainsFunc_int_int_log_CheckTable_1.f k t) (!inr t) := by
  unfold slices_ContainsFunc_int_int_log_CheckTable_1.f
  obtain ⟨j, hj, hr⟩ := vloop t hl t.length 0 (by omega) (by omega)
  rw [List.drop_zero] at hj
  refine Tl.to (Tl.bind hr Tl.now) ?_
  cases hb : inr t with
  | true => rw [hb] at hj; have := hj.2 rfl; simp; omega
  | false => rw [hb] at hj; have : ¬ j < 0 := fun q => by simpa using hj.1 q
             simp; omega
theorem inr_get {t : List (List Int)} {m : List Int} {a : Nat} (hl : (rd_L1 t (a : Int)).length = m.length + 1) : inr (rd_L1 t (a : Int)) = true ↔ ∀ b : Nat, b ≤ m.length → -1000 ≤ get t a b ∧ get t a b ≤ 1000 := by
  unfold inr En.get
  rw [List.all_eq_true]
  constructor
  · intro h b hb
    have := h ((rd_L1 t (a : Int))[b]'(by omega)) (List.getElem_mem _)
    rw [rd_lt (by omega)]
    simpa using this
  · intro h x hx
    obtain ⟨b, hb, e⟩ := List.getElem_of_mem hx
    have := h b (by omega)
    rw [rd_lt hb, e] at this
    simpa using this
section
variable {l m : List Int} {o i c : Int} {t : List (List Int)} (hL : l.length ≤ 10) (hM : m.length ≤ 10) (ho : 0 ≤ o ∧ o ≤ 9) (hi : 0 ≤ i ∧ i ≤ 9) (hc : 0 ≤ c ∧ c ≤ 9) (ht : t.length = l.length + 1)
include hL hM ho hi hc ht
theorem log_step (hR : ∀ a, a ≤ l.length → Rw m t a) {a b : Nat} (ha : a ≤ l.length) (hb : b ≤ m.length) {r : Int × Int}
    (hT : Sl l m o i c t a b → Tl (fun k => log_CheckTable.l2 k l m t (a : Int) (rd_L1 t (a : Int)) t (t.length : Int) (a : Int) (rd_L1 t (a : Int)) ((rd_L1 t (a : Int)).length : Int) ((b + 1 : Nat) : Int) o i c) r)
    (hF : ¬ Sl l m o i c t a b → r = (0, 7)) :
    Tl (fun k => log_CheckTable.l2 k l m t (a : Int) (rd_L1 t (a : Int)) t (t.length : Int) (a : Int) (rd_L1 t (a : Int)) ((rd_L1 t (a : Int)).length : Int) (b : Int) o i c) r := by
  obtain ⟨n1, hg⟩ := hR a ha
  have g0 := hg b hb
  have e0 : rd (rd_L1 t (a : Int)) (b : Int) = get t a b := rfl
  have EB := Aside0.mk (nx' (a := b) (by omega))
  have J5t : Tl (fun k => log_CheckTable.j5 k l m t (a : Int) (rd_L1 t (a : Int)) (b : Int) (get t a b) t (t.length : Int) (a : Int) (rd_L1 t (a : Int)) ((rd_L1 t (a : Int)).length : Int) (b : Int) true o i c) (0, 7) := by
    refine Tl.succ ?_
    simp only [log_CheckTable.j5]
    exact Tl.pos trivial Tl.now
  have J4t : Tl (fun k => log_CheckTable.j4 k l m t (a : Int) (rd_L1 t (a : Int)) (b : Int) (get t a b) t (t.length : Int) (a : Int) (rd_L1 t (a : Int)) ((rd_L1 t (a : Int)).length : Int) (b : Int) true o i c) (0, 7) := by
    refine Tl.succ ?_
    simp only [log_CheckTable.j4]
    exact Tl.pos trivial Tl.now
  have J3t : Tl (fun k => log_CheckTable.j3 k l m t (a : Int) (rd_L1 t (a : Int)) (b : Int) (get t a b) t (t.length : Int) (a : Int) (rd_L1 t (a : Int)) ((rd_L1 t (a : Int)).length : Int) (b : Int) true o i c) (0, 7) := by
    refine Tl.succ ?_
    simp only [log_CheckTable.j3]
    exact Tl.pos trivial Tl.now
  have J5 : (a = 0 ∧ b = 0 → get t a b = 0) → (0 < a → get t a b ≤ get t (a - 1) b + o) → (0 < b → get t a b ≤ get t a (b - 1) + i) → Tl (fun k => log_CheckTable.j5 k l m t (a : Int) (rd_L1 t (a : Int)) (b : Int) (get t a b) t (t.length : Int) (a : Int) (rd_L1 t (a : Int)) ((rd_L1 t (a : Int)).length : Int) (b : Int) false o i c) r := by
    intro c1 c2 c3
    refine Tl.succ ?_
    simp only [log_CheckTable.j5]
    rw [EB.out]
    refine Tl.neg (by simp) ?_
    by_cases ha0 : 0 < a
    · refine Tl.pos (by omega) ?_
      by_cases hb0 : 0 < b
      · obtain ⟨n2, hg2⟩ := hR (a - 1) (by omega)
        have g4 := hg2 (b - 1) (by omega)
        have rc := ch_range hc.1 (rd l ((a - 1 : Nat) : Int)) (rd m ((b - 1 : Nat) : Int))
        have E1 := Aside0.mk (show wrap64 ((a : Int) - 1) = ((a - 1 : Nat) : Int) by rw [w64 (by omega) (by omega)]; omega)
        have E2 := Aside0.mk (show wrap64 ((b : Int) - 1) = ((b - 1 : Nat) : Int) by rw [w64 (by omega) (by omega)]; omega)
        have E3 := Aside0.mk (show wrap64 (get t (a - 1) (b - 1) + ch c (rd l ((a - 1 : Nat) : Int)) (rd m ((b - 1 : Nat) : Int))) = get t (a - 1) (b - 1) + ch c (rd l ((a - 1 : Nat) : Int)) (rd m ((b - 1 : Nat) : Int)) from w64 (by omega) (by omega))
        rw [E1.out, E2.out]
        refine Tl.pos (by omega) (Tl.pos (by omega) (Tl.pos (by omega) (Tl.pos (by omega) (Tl.pos (by omega) (Tl.pos (by omega) (Tl.pos (by omega) (Tl.bind' (a := ch c (rd l ((a - 1 : Nat) : Int)) (rd m ((b - 1 : Nat) : Int))) rfl ?_)))))))
        rw [show rd (rd_L1 t ((a - 1 : Nat) : Int)) ((b - 1 : Nat) : Int) = get t (a - 1) (b - 1) from rfl, E3.out]
        by_cases c4 : get t a b ≤ get t (a - 1) (b - 1) + ch c (rd l ((a - 1 : Nat) : Int)) (rd m ((b - 1 : Nat) : Int))
        · exact Tl.neg (by omega) (hT ⟨c1, c2, c3, fun _ _ => c4⟩)
        · exact Tl.to (Tl.pos (by omega) Tl.now) (hF (fun q => c4 (q.2.2.2 ha0 hb0))).symm
      · exact Tl.neg (by omega) (hT ⟨c1, c2, c3, fun _ q => absurd q hb0⟩)
    · exact Tl.neg (by omega) (hT ⟨c1, c2, c3, fun q => absurd q ha0⟩)
  have J4 : (a = 0 ∧ b = 0 → get t a b = 0) → (0 < a → get t a b ≤ get t (a - 1) b + o) → Tl (fun k => log_CheckTable.j4 k l m t (a : Int) (rd_L1 t (a : Int)) (b : Int) (get t a b) t (t.length : Int) (a : Int) (rd_L1 t (a : Int)) ((rd_L1 t (a : Int)).length : Int) (b : Int) false o i c) r := by
    intro c1 c2
    refine Tl.succ ?_
    simp only [log_CheckTable.j4]
    refine Tl.neg (by simp) ?_
    by_cases hb0 : 0 < b
    · have g3 := hg (b - 1) (by omega)
      have E2 := Aside0.mk (show wrap64 ((b : Int) - 1) = ((b - 1 : Nat) : Int) by rw [w64 (by omega) (by omega)]; omega)
      have E3 := Aside0.mk (show wrap64 (get t a (b - 1) + i) = get t a (b - 1) + i from w64 (by omega) (by omega))
      rw [E2.out, show rd (rd_L1 t (a : Int)) ((b - 1 : Nat) : Int) = get t a (b - 1) from rfl, E3.out]
      refine Tl.pos (by omega) (Tl.pos (by omega) (Tl.pos (by omega) ?_))
      by_cases c3 : get t a b ≤ get t a (b - 1) + i
      · rw [decide_eq_false (show ¬ get t a b > get t a (b - 1) + i by omega)]
        exact J5 c1 c2 (fun _ => c3)
      · rw [decide_eq_true (show get t a b > get t a (b - 1) + i by omega)]
        exact Tl.to J5t (hF (fun q => c3 (q.2.2.1 hb0))).symm
    · exact Tl.neg (by omega) (J5 c1 c2 (fun q => absurd q hb0))
  have J3 : (a = 0 ∧ b = 0 → get t a b = 0) → Tl (fun k => log_CheckTable.j3 k l m t (a : Int) (rd_L1 t (a : Int)) (b : Int) (get t a b) t (t.length : Int) (a : Int) (rd_L1 t (a : Int)) ((rd_L1 t (a : Int)).length : Int) (b : Int) false o i c) r := by
    intro c1
    refine Tl.succ ?_
    simp only [log_CheckTable.j3]
    refine Tl.neg (by simp) ?_
    by_cases ha0 : 0 < a
    · obtain ⟨n2, hg2⟩ := hR (a - 1) (by omega)
      have g2 := hg2 b hb
      have E1 := Aside0.mk (show wrap64 ((a : Int) - 1) = ((a - 1 : Nat) : Int) by rw [w64 (by omega) (by omega)]; omega)
      have E3 := Aside0.mk (show wrap64 (get t (a - 1) b + o) = get t (a - 1) b + o from w64 (by omega) (by omega))
      rw [E1.out, show rd (rd_L1 t ((a - 1 : Nat) : Int)) (b : Int) = get t (a - 1) b from rfl, E3.out]
      refine Tl.pos (by omega) (Tl.pos (by omega) (Tl.pos (by omega) (Tl.pos (by omega) (Tl.pos (by omega) ?_))))
      by_cases c2 : get t a b ≤ get t (a - 1) b + o
      · rw [decide_eq_false (show ¬ get t a b > get t (a - 1) b + o by omega)]
        exact J4 c1 (fun _ => c2)
      · rw [decide_eq_true (show get t a b > get t (a - 1) b + o by omega)]
        exact Tl.to J4t (hF (fun q => c2 (q.2.1 ha0))).symm
    · exact Tl.neg (by omega) (J4 c1 (fun q => absurd q ha0))
  refine Tl.succ ?_
  simp only [log_CheckTable.l2]
  rw [e0]
  refine Tl.pos (by omega) (Tl.pos (by omega) (Tl.pos (by omega) ?_))
  by_cases ha0 : a = 0
  · refine Tl.pos (by omega) ?_
    by_cases hb0 : b = 0
    · refine Tl.pos (by omega) ?_
      by_cases c1 : get t a b = 0
      · rw [show (get t a b != 0) = false by simpa using c1]
        exact J3 (fun _ => c1)
      · rw [show (get t a b != 0) = true by simpa using c1]
        exact Tl.to J3t (hF (fun q => c1 (q.1 ⟨ha0, hb0⟩))).symm
    · exact Tl.neg (by omega) (J3 (fun q => absurd q.2 hb0))
  · exact Tl.neg (by omega) (J3 (fun q => absurd q.1 ha0))
theorem log_row (hR : ∀ a, a ≤ l.length → Rw m t a) {a : Nat} (ha : a ≤ l.length) {r : Int × Int}
    (out : (∀ b, b ≤ m.length → Sl l m o i c t a b) → Tl (fun k => log_CheckTable.l1 k l m t t (t.length : Int) ((a + 1 : Nat) : Int) o i c) r)
    (hF : (∃ b, b ≤ m.length ∧ ¬ Sl l m o i c t a b) → r = (0, 7)) : ∀ (d b : Nat), b ≤ m.length + 1 → m.length + 1 - b = d → (∀ b', b' < b → Sl l m o i c t a b') →
    Tl (fun k => log_CheckTable.l2 k l m t (a : Int) (rd_L1 t (a : Int)) t (t.length : Int) (a : Int) (rd_L1 t (a : Int)) ((rd_L1 t (a : Int)).length : Int) (b : Int) o i c) r := by
  intro d
  have n1 := (hR a ha).1
  induction d with
  | zero =>
    intro b h1 h2 h3
    have E1 := Aside0.mk (nx' (a := a) (by omega))
    refine Tl.succ ?_
    simp only [log_CheckTable.l2]
    rw [E1.out]
    exact Tl.neg (by omega) (out (fun b' hb' => h3 b' (by omega)))
  | succ d ih =>
    intro b h1 h2 h3
    refine log_step hL hM ho hi hc ht hR ha (by omega) (fun hs => ih (b + 1) (by omega) (by omega) (fun b' hb' => ?_)) (fun hn => hF ⟨b, by omega, hn⟩)
    by_cases e : b' = b
    · rw [e]; exact hs
    · exact h3 b' (by omega)
theorem log_all (hR : ∀ a, a ≤ l.length → Rw m t a) : ∀ (d a : Nat), a ≤ l.length + 1 → l.length + 1 - a = d → (∀ a', a' < a → ∀ b, b ≤ m.length → Sl l m o i c t a' b) →
    Tl (fun k => log_CheckTable.l1 k l m t t (t.length : Int) (a : Int) o i c) (sv l m o i c t) := by
  intro d
  induction d with
  | zero =>
    intro a h1 h2 h3
    have n1 := (hR l.length (Nat.le_refl _)).1
    refine Tl.succ ?_
    simp only [log_CheckTable.l1]
    refine Tl.neg (by omega) (Tl.pos (by omega) (Tl.pos (by omega) (Tl.pos (by omega) (Tl.pos (by omega) (Tl.to Tl.now ?_)))))
    unfold sv
    rw [if_pos (fun a' ha' b hb => h3 a' (by omega) b hb)]; rfl
  | succ d ih =>
    intro a h1 h2 h3
    refine Tl.succ ?_
    simp only [log_CheckTable.l1]
    refine Tl.pos (by omega) (Tl.pos (by omega) (Tl.pos (by omega) (log_row hL hM ho hi hc ht hR (show a ≤ l.length by omega) (fun hs => ih (a + 1) (by omega) (by omega) (fun a' ha' b hb => ?_)) ?_ (m.length + 1) 0 (by omega) (by omega) (fun b hb => by omega))))
    · by_cases e : a' = a
      · rw [e]; exact hs b hb
      · exact h3 a' (by omega) b hb
    · rintro ⟨b, hb, hn⟩
      unfold sv
      rw [if_neg (fun q => hn (q a (by omega) b hb))]
omit ho hi hc in
theorem log_rows {r : Int × Int} (out : (∀ a, a ≤ l.length → Rw m t a) → Tl (fun k => log_CheckTable.l1 k l m t t (t.length : Int) 0 o i c) r) (hF : (∃ a, a ≤ l.length ∧ ¬ Rw m t a) → r = (0, 1)) (hlen : ∀ a : Nat, a ≤ l.length → (rd_L1 t (a : Int)).length ≤ 1000) : ∀ (d a : Nat), a ≤ l.length + 1 → l.length + 1 - a = d → (∀ a', a' < a → Rw m t a') →
    Tl (fun k => log_CheckTable.l0 k l m t t (t.length : Int) (a : Int) o i c) r := by
  intro d
  induction d with
  | zero =>
    intro a h1 h2 h3
    refine Tl.succ ?_
    simp only [log_CheckTable.l0]
    exact Tl.neg (by omega) (out (fun a' ha' => h3 a' (by omega)))
  | succ d ih =>
    intro a h1 h2 h3
    have E1 := Aside0.mk (nx' (a := a) (by omega))
    have E2 := Aside0.mk (nx' (a := m.length) (by omega))
    refine Tl.succ ?_
    simp only [log_CheckTable.l0]
    rw [E1.out, E2.out]
    refine Tl.pos (by omega) (Tl.pos (by omega) (Tl.pos (by omega) ?_))
    by_cases hl : (rd_L1 t (a : Int)).length = m.length + 1
    · refine Tl.pos (by omega) (Tl.bind (ev_inr (hlen a (by omega))) ?_)
      by_cases hg : inr (rd_L1 t (a : Int)) = true
      · refine Tl.neg (by simp [hg]) (ih (a + 1) (by omega) (by omega) (fun a' ha' => ?_))
        by_cases e : a' = a
        · rw [e]; exact ⟨hl, (inr_get hl).1 hg⟩
        · exact h3 a' (by omega)
      · exact Tl.to (Tl.pos (by simp [hg]) Tl.now) (hF ⟨a, by omega, fun q => hg ((inr_get hl).2 q.2)⟩).symm
    · exact Tl.to (Tl.neg (by omega) Tl.now) (hF ⟨a, by omega, fun q => hl q.1⟩).symm
end
theorem ev_CheckTable {l m : List Int} {o i c : Int} {t : List (List Int)} (hl : l.length ≤ 1000) (hm : m.length ≤ 1000) (hlen : ∀ a : Nat, a < t.length → (rd_L1 t (a : Int)).length ≤ 1000) : Tl (fun k => log_CheckTable.f k l m o i c t) (ct l m o i c t) := by
  unfold log_CheckTable.f ct
  have E := Aside0.mk (nx' (a := l.length) (by omega))
  rw [E.out]
  refine Tl.bind (ev_check hl hm) ?_
  by_cases h : kc l m o i c = 0
  · obtain ⟨h1, h2, h3⟩ := kc_zero.1 h
    have g3 := cc_zero.1 h3
    have hL := (lc_zero.1 h1).1
    have hM := (lc_zero.1 h2).1
    rw [if_pos h]
    refine Tl.pos h ?_
    by_cases ht : t.length = l.length + 1
    · rw [if_pos ht]
      refine Tl.pos (by omega) ?_
      refine log_rows hL hM ht (fun hR => ?_) ?_ (fun a ha => hlen a (by omega)) (l.length + 1) 0 (by omega) (by omega) (fun a ha => by omega)
      · rw [if_pos hR]
        exact log_all hL hM ⟨by omega, by omega⟩ ⟨by omega, by omega⟩ ⟨by omega, by omega⟩ ht hR (l.length + 1) 0 (by omega) (by omega) (fun a ha => by omega)
      · rintro ⟨a, ha, hn⟩
        rw [if_neg (fun q => hn (q a ha))]
    · rw [if_neg ht]; exact Tl.neg (by omega) Tl.now
  · rw [if_neg h]; exact Tl.neg h Tl.now
end Go.Proofs.Ytcbepmdnhjojdaa.Tg
namespace Go.Proofs.Ytcbepmdnhjojdaa.Pure
open Go.RowKit Go.Proofs.Ytcbepmdnhjojdaa.P Go.Proofs.Ytcbepmdnhjojdaa.E Go.Proofs.Ytcbepmdnhjojdaa.Al Go.Proofs.Ytcbepmdnhjojdaa.Lo Go.Proofs.Ytcbepmdnhjojdaa.Lr Go.Proofs.Ytcbepmdnhjojdaa.En Go.Proofs.Ytcbepmdnhjojdaa.Tg Go.Proofs.YtcbepmdnhjojdaaW.PrintMore
open Go.Proofs.YtcbepmdnhjojdaaW.PrintWords
namespace Prf
section
variable {l m : List Int} {o i c : Int}
def T (l m : List Int) (o i c : Int) : List (List Int) := (List.range (l.length + 1)).map fun a => (List.range (m.length + 1)).map (log_tb l m o i c a)
theorem T_len : (T l m o i c).length = l.length + 1 := by simp [T]
theorem T_row {a : Nat} (ha : a ≤ l.length) : rd_L1 (T l m o i c) (a : Int) = (List.range (m.length + 1)).map (log_tb l m o i c a) := by
  unfold rd_L1 T
  rw [Int.toNat_natCast, List.getD_eq_getElem?_getD, List.getElem?_eq_getElem (by simp; omega)]
  simp
theorem T_get {a b : Nat} (ha : a ≤ l.length) (hb : b ≤ m.length) : get (T l m o i c) a b = log_tb l m o i c a b := by
  unfold En.get
  rw [T_row ha, rd_lt (by simp; omega)]
  simp
def tv (l m : List Int) (o i c : Int) : List (List Int) := if kc l m o i c = 0 then T l m o i c else []
theorem ev_lTable (hl : l.length ≤ 1000) (hm : m.length ≤ 1000) : Tl (fun k => log_Table.f k l m o i c) (tv l m o i c, kc l m o i c) := by
  unfold log_Table.f tv
  by_cases h : kc l m o i c = 0
  · obtain ⟨h1, h2, h3⟩ := kc_zero.1 h
    have g3 := cc_zero.1 h3
    rw [if_pos h]
    refine Tl.bind (ev_check hl hm) (Tl.pos h (Tl.bind' (a := T l m o i c) ?_ (Tl.to Tl.now (by rw [h]))))
    unfold log_table.f
    rw [if_pos ⟨(lc_zero.1 h1).1, (lc_zero.1 h2).1, ⟨by omega, by omega⟩, ⟨by omega, by omega⟩, ⟨by omega, by omega⟩⟩]; rfl
  · rw [if_neg h]; exact Tl.bind (ev_check hl hm) (Tl.neg h Tl.now)
theorem ct_T (h : kc l m o i c = 0) : ct l m o i c (T l m o i c) = (log_tb l m o i c l.length m.length, 0) := by
  obtain ⟨h1, h2, h3⟩ := kc_zero.1 h
  have g3 := cc_zero.1 h3
  have hL := (lc_zero.1 h1).1
  have hM := (lc_zero.1 h2).1
  unfold ct
  rw [if_pos h, if_pos T_len, if_pos (fun a ha => ?_)]
  · unfold sv
    rw [if_pos (fun a ha b hb => ?_), T_get (Nat.le_refl _) (Nat.le_refl _)]
    unfold Sl
    rw [T_get ha hb]
    refine ⟨?_, fun h0 => ?_, fun h0 => ?_, fun h0 h1 => ?_⟩
    · rintro ⟨rfl, rfl⟩; rw [log_tb]; simp
    · obtain ⟨a, rfl⟩ : ∃ a', a = a' + 1 := ⟨a - 1, by omega⟩
      rw [Nat.add_sub_cancel, T_get (by omega) hb]
      cases b with
      | zero =>
        have e : log_tb l m o i c a 0 = (a : Int) * o := by
          cases a with
          | zero => rw [log_tb]; simp
          | succ a => rw [log_tb]
        rw [log_tb, e, show ((a + 1 : Nat) : Int) = (a : Int) + 1 by omega, Int.add_mul, Int.one_mul]; omega
      | succ b =>
        conv => lhs; rw [log_tb]
        rw [mn_eq, mn_eq]; omega
    · obtain ⟨b, rfl⟩ : ∃ b', b = b' + 1 := ⟨b - 1, by omega⟩
      rw [Nat.add_sub_cancel, T_get ha (by omega)]
      cases a with
      | zero => rw [log_tb, log_tb, show ((b + 1 : Nat) : Int) = (b : Int) + 1 by omega, Int.add_mul, Int.one_mul]; omega
      | succ a =>
        conv => lhs; rw [log_tb]
        rw [mn_eq, mn_eq]; omega
    · obtain ⟨a, rfl⟩ : ∃ a', a = a' + 1 := ⟨a - 1, by omega⟩
      obtain ⟨b, rfl⟩ : ∃ b', b = b' + 1 := ⟨b - 1, by omega⟩
      rw [Nat.add_sub_cancel, Nat.add_sub_cancel, T_get (by omega) (by omega)]
      conv => lhs; rw [log_tb]
      rw [mn_eq, mn_eq, show log_ch c (rd l (a : Int)) (rd m (b : Int)) = ch c (rd l (a : Int)) (rd m (b : Int)) from rfl]; omega
  · refine ⟨by rw [T_row ha]; simp, fun b hb => ?_⟩
    rw [T_get ha hb]
    have := log_tb_range (l := l) (m := m) (o := o) (i := i) (c := c) ⟨by omega, by omega⟩ ⟨by omega, by omega⟩ ⟨by omega, by omega⟩ a b
    omega
end
end Prf
end Go.Proofs.Ytcbepmdnhjojdaa.Pure
namespace Go.Proofs.Ytcbepmdnhjojdaa.Re
open Go.RowKit Go.Proofs.Ytcbepmdnhjojdaa.P Go.Proofs.Ytcbepmdnhjojdaa.E Go.Proofs.Ytcbepmdnhjojdaa.Al Go.Proofs.Ytcbepmdnhjojdaa.Lo Go.Proofs.Ytcbepmdnhjojdaa.Lr Go.Proofs.YtcbepmdnhjojdaaW.PrintMore
open Go.Proofs.YtcbepmdnhjojdaaW.PrintWords
/-- The place of the first s, counted from b on; -1 if there is none. -/
def fx (s : Int) : List Int → Int → Int
  | [], _ => -1
  | a :: t, b => if s = a then b else fx s t (b + 1)
theorem fx_spec (s : Int) : ∀ (l : List Int) (b : Int), (fx s l b = -1 ∧ s ∉ l) ∨ ∃ n : Nat, n < l.length ∧ fx s l b = b + n ∧ l[n]? = some s ∧ ∀ j, j < n → l[j]? ≠ some s
  | [], b => .inl ⟨rfl, by simp⟩
  | a :: t, b => by
    rw [fx]
    by_cases h : s = a
    · rw [if_pos h]
      exact .inr ⟨0, by simp, by simp, by simp [h], fun j hj => by omega⟩
    · rw [if_neg h]
      rcases fx_spec s t (b + 1) with ⟨h1, h2⟩ | ⟨n, h1, h2, h3, h4⟩
      · exact .inl ⟨h1, by simp [h, h2]⟩
      · refine .inr ⟨n + 1, by simp; omega, by rw [h2]; omega, by simpa using h3, fun j hj => ?_⟩
        cases j with
        | zero => simp; exact fun e => h e.symm
        | succ j => simpa using h4 j (by omega)
theorem fx_nonneg {s : Int} {l : List Int} {b : Int} (hb : 0 ≤ b) : 0 ≤ fx s l b ↔ s ∈ l := by
  rcases fx_spec s l b with ⟨h1, h2⟩ | ⟨n, h1, h2, h3, h4⟩
  · exact ⟨fun q => by omega, fun q => absurd q h2⟩
  · exact ⟨fun _ => List.mem_of_getElem? h3, fun _ => by omega⟩
theorem ix_loop (l : List Int) (s : Int) (hl : l.length ≤ 1000) (d : Nat) : ∀ i : Nat, i ≤ l.length → l.length - i = d → Tl (fun k => slices_Index_int_int.l0 k l s (l.length : Int) (i : Int)) (fx s (l.drop i) (i : Int)) := by
  induction d with
  | zero =>
    intro i h1 h2
    refine Tl.succ ?_
    simp only [slices_Index_int_int.l0]
    rw [List.drop_eq_nil_of_le (by omega)]
    exact Tl.neg (by omega) Tl.now
  | succ d ih =>
    intro i h1 h2
    have next := ih (i + 1) (by omega) (by omega)
    rw [show ((i + 1 : Nat) : Int) = (i : Int) + 1 by omega] at next
    refine Tl.succ ?_
    simp only [slices_Index_int_int.l0]
    rw [w64 (x := (i : Int) + 1) (by omega) (by omega), drop_cons (show i < l.length by omega), fx, ← rd_lt (show i < l.length by omega)]
    refine Tl.pos (by omega) (Tl.pos (by omega) (Tl.pos (by omega) ?_))
    exact Tl.ite (fun _ => Tl.now) (fun _ => next)
theorem ev_Index (l : List Int) (s : Int) (hl : l.length ≤ 1000) : Tl (fun k => slices_Index_int_int.f k l s) (fx s l 0) := by
  unfold slices_Index_int_int.f
  have := ix_loop l s hl l.length 0 (by omega) (by omega)
  rwa [List.drop_zero] at this
end Go.Proofs.Ytcbepmdnhjojdaa.Re
namespace Go.Proofs.Ytcbepmdnhjojdaa.Co
open Go.RowKit Go.Proofs.Ytcbepmdnhjojdaa.P Go.Proofs.Ytcbepmdnhjojdaa.E Go.Proofs.Ytcbepmdnhjojdaa.Al Go.Proofs.Ytcbepmdnhjojdaa.Lo Go.Proofs.Ytcbepmdnhjojdaa.Lr Go.Proofs.Ytcbepmdnhjojdaa.Re Go.Proofs.YtcbepmdnhjojdaaW.PrintMore
open Go.Proofs.YtcbepmdnhjojdaaW.PrintWords
/-- The greatest length of a list that is part of both. -/
def cm : List Int → List Int → Nat
  | [], _ => 0
  | _ :: _, [] => 0
  | a :: l, b :: m => if a = b then cm l m + 1 else max (cm l (b :: m)) (cm (a :: l) m)
theorem cm_nil (l : List Int) : cm l [] = 0 := by cases l <;> rw [cm]
theorem cm_nil' (l : List Int) : cm [] l = 0 := by rw [cm]
theorem sub_cons {x a : Int} {q l : List Int} (h : (x :: q).Sublist (a :: l)) : (x :: q).Sublist l ∨ x = a ∧ q.Sublist l := by
  cases h with
  | cons _ h => exact .inl h
  | cons_cons _ h => exact .inr ⟨rfl, h⟩
theorem sub_tail {x : Int} {q l : List Int} (h : (x :: q).Sublist l) : q.Sublist l := (List.sublist_cons_self x q).trans h
theorem cm_most : ∀ (l m p : List Int), p.Sublist l → p.Sublist m → p.length ≤ cm l m
  | [], m, p, h1, h2 => by rw [List.sublist_nil.1 h1, cm]; exact Nat.zero_le _
  | a :: l, [], p, h1, h2 => by rw [List.sublist_nil.1 h2, cm]; exact Nat.zero_le _
  | a :: l, b :: m, [], h1, h2 => Nat.zero_le _
  | a :: l, b :: m, x :: q, h1, h2 => by
    rw [cm]
    by_cases e : a = b
    · rw [if_pos e]
      have g1 : q.Sublist l := by
        rcases sub_cons h1 with h | h
        · exact sub_tail h
        · exact h.2
      have g2 : q.Sublist m := by
        rcases sub_cons h2 with h | h
        · exact sub_tail h
        · exact h.2
      have := cm_most l m q g1 g2
      simp only [List.length_cons]; omega
    · rw [if_neg e]
      rcases sub_cons h1 with h | h
      · have := cm_most l (b :: m) (x :: q) h h2
        omega
      · rcases sub_cons h2 with h' | h'
        · have := cm_most (a :: l) m (x :: q) h1 h'
          omega
        · exact absurd (h.1.symm.trans h'.1) e
  termination_by l m => l.length + m.length
theorem cm_some : ∀ (l m : List Int), ∃ p : List Int, p.Sublist l ∧ p.Sublist m ∧ p.length = cm l m
  | [], m => ⟨[], List.nil_sublist _, List.nil_sublist _, by rw [cm]; rfl⟩
  | a :: l, [] => ⟨[], List.nil_sublist _, List.nil_sublist _, by rw [cm]; rfl⟩
  | a :: l, b :: m => by
    rw [cm]
    by_cases e : a = b
    · obtain ⟨p, h1, h2, h3⟩ := cm_some l m
      rw [if_pos e]
      subst e
      exact ⟨a :: p, h1.cons_cons a, h2.cons_cons a, by simp [h3]⟩
    · rw [if_neg e]
      obtain ⟨p, h1, h2, h3⟩ := cm_some l (b :: m)
      obtain ⟨q, k1, k2, k3⟩ := cm_some (a :: l) m
      by_cases c : cm l (b :: m) ≤ cm (a :: l) m
      · exact ⟨q, k1, k2.cons b, by rw [k3]; omega⟩
      · exact ⟨p, h1.cons a, h2, by rw [h3]; omega⟩
  termination_by l m => l.length + m.length
theorem cm_le {l m l' m' : List Int} (h : l.Sublist l') (k : m.Sublist m') : cm l m ≤ cm l' m' := by
  obtain ⟨p, h1, h2, h3⟩ := cm_some l m
  rw [← h3]
  exact cm_most l' m' p (h1.trans h) (h2.trans k)
theorem cm_up (a : Int) (l m : List Int) : cm (a :: l) m ≤ cm l m + 1 := by
  obtain ⟨p, h1, h2, h3⟩ := cm_some (a :: l) m
  rw [← h3]
  cases p with
  | nil => simp
  | cons x q =>
    have g : q.Sublist l := by
      rcases sub_cons h1 with h | h
      · exact sub_tail h
      · exact h.2
    have := cm_most l m q g (sub_tail h2)
    simp only [List.length_cons]; omega
theorem cm_up' (b : Int) (l m : List Int) : cm l (b :: m) ≤ cm l m + 1 := by
  obtain ⟨p, h1, h2, h3⟩ := cm_some l (b :: m)
  rw [← h3]
  cases p with
  | nil => simp
  | cons x q =>
    have g : q.Sublist m := by
      rcases sub_cons h2 with h | h
      · exact sub_tail h
      · exact h.2
    have := cm_most l m q (sub_tail h1) g
    simp only [List.length_cons]; omega
theorem cm_len (l m : List Int) : cm l m ≤ l.length ∧ cm l m ≤ m.length := by
  obtain ⟨p, h1, h2, h3⟩ := cm_some l m
  rw [← h3]
  exact ⟨h1.length_le, h2.length_le⟩
/-- What comes behind the first s. -/
def bh (s : Int) (l : List Int) : List Int := l.drop ((fx s l 0).toNat + 1)
theorem fx_greedy (s : Int) : ∀ (l q : List Int) (b : Int), (s :: q).Sublist l → ∃ n : Nat, fx s l b = b + n ∧ q.Sublist (l.drop (n + 1))
  | [], q, b, h => by have := List.sublist_nil.1 h; exact absurd this (by simp)
  | a :: t, q, b, h => by
    rw [fx]
    by_cases e : s = a
    · rw [if_pos e]
      subst e
      exact ⟨0, by simp, by simpa using List.cons_sublist_cons.1 h⟩
    · rw [if_neg e]
      rcases sub_cons h with h | h
      · obtain ⟨n, h1, h2⟩ := fx_greedy s t q (b + 1) h
        exact ⟨n + 1, by rw [h1]; omega, by simpa using h2⟩
      · exact absurd h.1 e
theorem bh_greedy {s : Int} {l q : List Int} (h : (s :: q).Sublist l) : 0 ≤ fx s l 0 ∧ q.Sublist (bh s l) := by
  obtain ⟨n, h1, h2⟩ := fx_greedy s l q 0 h
  unfold bh
  rw [h1]
  exact ⟨by omega, by simpa using h2⟩
theorem bh_back {s : Int} {l q : List Int} (h0 : 0 ≤ fx s l 0) (h : q.Sublist (bh s l)) : (s :: q).Sublist l := by
  rcases fx_spec s l 0 with ⟨h1, h2⟩ | ⟨n, h1, h2, h3, h4⟩
  · omega
  · unfold bh at h
    rw [h2, show (0 + (n : Int)).toNat = n by omega] at h
    have hd := drop_cons h1
    rw [List.getElem?_eq_getElem h1] at h3
    rw [Option.some.inj h3] at hd
    refine List.Sublist.trans ?_ (List.drop_sublist n l)
    rw [hd]
    exact h.cons_cons s
theorem bh_len {s : Int} {l : List Int} (h0 : 0 ≤ fx s l 0) : (fx s l 0).toNat < l.length := by
  rcases fx_spec s l 0 with ⟨h1, h2⟩ | ⟨n, h1, h2, h3, h4⟩
  · omega
  · omega
/-- With s first one goes on the longest way. -/
def hit (l m : List Int) (s : Int) : Prop := (0 ≤ fx s l 0 ∧ 0 ≤ fx s m 0) ∧ cm (bh s l) (bh s m) + 1 = cm l m
theorem hit_le {l m : List Int} {s : Int} (h1 : 0 ≤ fx s l 0) (h2 : 0 ≤ fx s m 0) : cm (bh s l) (bh s m) + 1 ≤ cm l m := by
  obtain ⟨p, k1, k2, k3⟩ := cm_some (bh s l) (bh s m)
  have := cm_most l m (s :: p) (bh_back h1 k1) (bh_back h2 k2)
  simp only [List.length_cons] at this
  omega
theorem hit_some {l m : List Int} (h : 0 < cm l m) : ∃ s ∈ l, hit l m s := by
  obtain ⟨p, k1, k2, k3⟩ := cm_some l m
  cases p with
  | nil => simp at k3; omega
  | cons s q =>
    have g1 := bh_greedy k1
    have g2 := bh_greedy k2
    refine ⟨s, k1.subset (by simp), ⟨g1.1, g2.1⟩, ?_⟩
    have a1 := hit_le g1.1 g2.1
    have a2 := cm_most _ _ q g1.2 g2.2
    simp only [List.length_cons] at k3
    omega
/-- The first longest list. -/
inductive IsP : List Int → List Int → List Int → Prop
  | nil {l m : List Int} : cm l m = 0 → IsP l m []
  | cons {l m q : List Int} {s : Nat} : 0 < cm l m → s < 6 → hit l m (s : Int) → (∀ j : Nat, j < s → ¬ hit l m (j : Int)) → IsP (bh (s : Int) l) (bh (s : Int) m) q → IsP l m ((s : Int) :: q)
theorem isP_sub {l m p : List Int} (h : IsP l m p) : p.Sublist l ∧ p.Sublist m ∧ p.length = cm l m := by
  induction h with
  | nil h => exact ⟨List.nil_sublist _, List.nil_sublist _, by rw [h]; rfl⟩
  | cons h0 hs hh hn hq ih =>
    refine ⟨bh_back hh.1.1 ih.1, bh_back hh.1.2 ih.2.1, ?_⟩
    rw [List.length_cons, ih.2.2]
    exact hh.2
theorem good_bh {l : List Int} {s : Int} (h : good l = true) : good (bh s l) = true := by
  rw [good_mem] at h ⊢
  exact fun x hx => h x (List.mem_of_mem_drop hx)
end Go.Proofs.Ytcbepmdnhjojdaa.Co
namespace Go.Proofs.Ytcbepmdnhjojdaa.Ct
open Go.RowKit Go.Proofs.Ytcbepmdnhjojdaa.P Go.Proofs.Ytcbepmdnhjojdaa.E Go.Proofs.Ytcbepmdnhjojdaa.Al Go.Proofs.Ytcbepmdnhjojdaa.Lo Go.Proofs.Ytcbepmdnhjojdaa.Lr Go.Proofs.Ytcbepmdnhjojdaa.Re Go.Proofs.Ytcbepmdnhjojdaa.Co Go.Proofs.YtcbepmdnhjojdaaW.PrintMore
open Go.Proofs.YtcbepmdnhjojdaaW.PrintWords
def tc (l m : List Int) : Int := if lc l = 0 then lc m else lc l
theorem tc_zero {l m : List Int} : tc l m = 0 ↔ lc l = 0 ∧ lc m = 0 := by
  unfold tc
  by_cases h : lc l = 0
  · rw [if_pos h]; exact ⟨fun q => ⟨h, q⟩, fun q => q.2⟩
  · rw [if_neg h]; exact ⟨fun q => absurd q h, fun q => absurd q.1 h⟩
theorem ev_or2 (a b : Int) : Tl (fun k => api_Errno.f k [a, b]) (if a = 0 then b else a) := by
  unfold api_Errno.f
  have e1 : wrap64 ((0 : Int) + 1) = 1 := by unfold wrap64; omega
  have e2 : wrap64 ((1 : Int) + 1) = 2 := by unfold wrap64; omega
  have l3 : (([a, b] : List Int).length : Int) = 2 := rfl
  have r0 : rd [a, b] 0 = a := rfl
  have r1 : rd [a, b] 1 = b := rfl
  rw [l3]
  refine Tl.succ ?_
  simp only [api_Errno.l0, r0, e1, l3]
  refine Tl.pos (by omega) (Tl.pos (by omega) (Tl.pos (by omega) ?_))
  by_cases ha : a = 0
  · rw [if_pos ha]
    refine Tl.pos ha (Tl.succ ?_)
    simp only [api_Errno.l0, r1, e2, l3]
    refine Tl.pos (by omega) (Tl.pos (by omega) (Tl.pos (by omega) ?_))
    by_cases hb : b = 0
    · refine Tl.pos hb (Tl.succ ?_)
      simp only [api_Errno.l0, l3]
      exact Tl.to (Tl.neg (by omega) Tl.now) hb.symm
    · exact Tl.neg hb Tl.now
  · rw [if_neg ha]; exact Tl.neg ha Tl.now
theorem ev_two {l m : List Int} (hl : l.length ≤ 1000) (hm : m.length ≤ 1000) : Tl (fun k => log_two.f k l m) (tc l m) := by
  unfold log_two.f
  exact Tl.bind (ev_Validate hl) (Tl.bind (ev_Validate hm) (Tl.bind (ev_or2 _ _) Tl.now))
theorem part_loop (l : List Int) (hl : l.length ≤ 1000) (d : Nat) : ∀ (i : Nat) (p : List Int), i ≤ l.length → p.length ≤ 1000 → l.length - i = d → Tl (fun k => log_isPart.l0 k p l (l.length : Int) (i : Int)) (p.isSublist (l.drop i)) := by
  induction d with
  | zero =>
    intro i p h1 hp h2
    refine Tl.succ ?_
    simp only [log_isPart.l0]
    refine Tl.to (Tl.neg (by omega) Tl.now) ?_
    rw [List.drop_eq_nil_of_le (by omega)]
    cases p with
    | nil => simp [List.isSublist]
    | cons a p => simp [List.isSublist]; omega
  | succ d ih =>
    intro i p h1 hp h2
    have hi : i < l.length := by omega
    refine Tl.succ ?_
    simp only [log_isPart.l0]
    rw [w64 (x := (i : Int) + 1) (by omega) (by omega)]
    refine Tl.pos (by omega) (Tl.pos (by omega) (Tl.pos (by omega) ?_))
    cases p with
    | nil =>
      have next := ih (i + 1) [] (by omega) (by simp) (by omega)
      rw [show ((i + 1 : Nat) : Int) = (i : Int) + 1 by omega] at next
      exact Tl.to (Tl.neg (by simp) next) (by simp [List.isSublist])
    | cons a p =>
      simp only [List.length_cons] at hp
      refine Tl.pos (by simp only [List.length_cons]; omega) (Tl.pos (by simp only [List.length_cons]; omega) ?_)
      rw [show rd (a :: p) 0 = a from rfl, rd_lt hi, drop_cons hi, List.isSublist]
      by_cases e : a = l[i]
      · have next := ih (i + 1) p (by omega) (by omega) (by omega)
        rw [show ((i + 1 : Nat) : Int) = (i : Int) + 1 by omega] at next
        refine Tl.to (Tl.pos e (Tl.pos (by simp; omega) (Tl.congr next (fun k => by simp)))) (by simp [e])
      · have next := ih (i + 1) (a :: p) (by omega) (by simp; omega) (by omega)
        rw [show ((i + 1 : Nat) : Int) = (i : Int) + 1 by omega] at next
        exact Tl.to (Tl.neg e next) (by simp [e])
theorem ev_isPart (l p : List Int) (hl : l.length ≤ 1000) (hp : p.length ≤ 1000) : Tl (fun k => log_isPart.f k l p) (p.isSublist l) := by
  unfold log_isPart.f
  have := part_loop l hl l.length 0 p (by omega) hp (by omega)
  rwa [List.drop_zero] at this
def cv (l m p : List Int) : Int := if tc l m = 0 then (if p.isSublist l = true ∧ p.isSublist m = true then 0 else 7) else tc l m
theorem ev_CheckCommon {l m p : List Int} (hl : l.length ≤ 1000) (hm : m.length ≤ 1000) (hp : p.length ≤ 1000) : Tl (fun k => log_CheckCommon.f k l m p) (cv l m p) := by
  unfold log_CheckCommon.f cv
  by_cases h : tc l m = 0
  · rw [if_pos h]
    refine Tl.bind (ev_two hl hm) (Tl.pos h (Tl.bind (ev_isPart l p hl hp) ?_))
    by_cases h1 : p.isSublist l = true
    · refine Tl.pos h1 (Tl.bind (ev_isPart m p hm hp) ?_)
      by_cases h2 : p.isSublist m = true
      · exact Tl.to (Tl.pos h2 Tl.now) (if_pos ⟨h1, h2⟩).symm
      · exact Tl.to (Tl.neg h2 Tl.now) (if_neg (fun q => h2 q.2)).symm
    · exact Tl.to (Tl.neg h1 Tl.now) (if_neg (fun q => h1 q.1)).symm
  · rw [if_neg h]
    exact Tl.bind (ev_two hl hm) (Tl.neg h Tl.now)
def row (l m : List Int) (a K : Nat) : List Int := (List.range (m.length + 1)).map fun k => if K ≤ k then (cm (l.drop a) (m.drop k) : Int) else 0
def tab (l m : List Int) (i : Nat) : List (List Int) := (List.range (l.length + 1)).map fun a => if a < i then [] else row l m a 0
theorem row_len (l m : List Int) (a K : Nat) : (row l m a K).length = m.length + 1 := by simp [row]
theorem tab_len (l m : List Int) (i : Nat) : (tab l m i).length = l.length + 1 := by simp [tab]
theorem row_rd {l m : List Int} {a K k : Nat} (hk : k ≤ m.length) : rd (row l m a K) (k : Int) = if K ≤ k then (cm (l.drop a) (m.drop k) : Int) else 0 := by
  rw [rd_lt (by rw [row_len]; omega)]
  simp [row]
theorem tab_rd {l m : List Int} {i a : Nat} (ha : a ≤ l.length) (hi : i ≤ a) : rd_L1 (tab l m i) (a : Int) = row l m a 0 := by
  unfold rd_L1
  rw [Int.toNat_natCast, List.getD_eq_getElem?_getD, List.getElem?_eq_getElem (by rw [tab_len]; omega)]
  simp only [tab, List.getElem_map, List.getElem_range, if_neg (show ¬ a < i by omega), Option.getD_some]
theorem row_set {l m : List Int} {a K : Nat} (hK : K < m.length + 1) : (row l m a (K + 1)).set K (cm (l.drop a) (m.drop K) : Int) = row l m a K := by
  refine List.ext_getElem (by simp [row]) (fun j h1 h2 => ?_)
  rw [List.getElem_set]
  simp only [row, List.getElem_map, List.getElem_range]
  by_cases e : K = j
  · rw [if_pos e, if_pos (by omega), e]
  · rw [if_neg e]
    by_cases c : K + 1 ≤ j
    · rw [if_pos c, if_pos (by omega)]
    · rw [if_neg c, if_neg (by omega)]
theorem tab_set {l m : List Int} {i : Nat} (hi : i ≤ l.length) : (tab l m (i + 1)).set i (row l m i 0) = tab l m i := by
  refine List.ext_getElem (by simp [tab]) (fun j h1 h2 => ?_)
  rw [List.getElem_set]
  simp only [tab, List.getElem_map, List.getElem_range]
  by_cases e : i = j
  · rw [if_pos e, if_neg (by omega), e]
  · rw [if_neg e]
    by_cases c : j < i + 1
    · rw [if_pos c, if_pos (by omega)]
    · rw [if_neg c, if_neg (by omega)]
theorem rd_set {T : List (List Int)} {r : List Int} {i : Nat} (hi : i < T.length) : rd_L1 (T.set i r) (i : Int) = r := by
  unfold rd_L1
  rw [Int.toNat_natCast, List.getD_eq_getElem?_getD, List.getElem?_set_self hi]; rfl
theorem rd_set_ne {T : List (List Int)} {r : List Int} {i j : Nat} (h : i ≠ j) : rd_L1 (T.set i r) (j : Int) = rd_L1 T (j : Int) := by
  unfold rd_L1
  rw [Int.toNat_natCast, List.getD_eq_getElem?_getD, List.getD_eq_getElem?_getD, List.getElem?_set_ne h]
theorem common_in (l m : List Int) (hl : l.length ≤ 1000) (hm : m.length ≤ 1000) {i : Nat} (hi : i < l.length) {r : List (List Int)}
    (out : Tl (fun k => log_common.l0 k l m (tab l m i) ((i : Int) - 1)) r) : ∀ K : Nat, K ≤ m.length → Tl (fun k => log_common.l1 k l m ((tab l m (i + 1)).set i (row l m i K)) (i : Int) ((K : Int) - 1)) r
  | 0, _ => by
    refine Tl.succ ?_
    simp only [log_common.l1]
    refine Tl.neg (by omega) (Tl.succ ?_)
    simp only [log_common.j2]
    rw [w64 (x := (i : Int) - 1) (by omega) (by omega), tab_set (by omega)]
    exact Tl.neg (by simp) out
  | K + 1, hK => by
    have next := common_in l m hl hm hi out K (by omega)
    have hn := tab_len l m (i + 1)
    have hr0 : rd_L1 ((tab l m (i + 1)).set i (row l m i (K + 1))) (i : Int) = row l m i (K + 1) := rd_set (by omega)
    have hr1 : rd_L1 ((tab l m (i + 1)).set i (row l m i (K + 1))) ((i : Int) + 1) = row l m (i + 1) 0 := by
      rw [show (i : Int) + 1 = ((i + 1 : Nat) : Int) by omega, rd_set_ne (by omega), tab_rd (by omega) (by omega)]
    have rl := row_len l m i (K + 1)
    have rl1 := row_len l m (i + 1) 0
    have v1 : rd (row l m (i + 1) 0) ((K : Int) + 1) = (cm (l.drop (i + 1)) (m.drop (K + 1)) : Int) := by
      rw [show (K : Int) + 1 = ((K + 1 : Nat) : Int) by omega, row_rd (by omega), if_pos (by omega)]
    have v2 : rd (row l m (i + 1) 0) (K : Int) = (cm (l.drop (i + 1)) (m.drop K) : Int) := by
      rw [row_rd (by omega), if_pos (by omega)]
    have v3 : rd (row l m i (K + 1)) ((K : Int) + 1) = (cm (l.drop i) (m.drop (K + 1)) : Int) := by
      rw [show (K : Int) + 1 = ((K + 1 : Nat) : Int) by omega, row_rd (by omega), if_pos (by omega)]
    have st := row_set (l := l) (m := m) (a := i) (K := K) (by omega)
    have b1 := (cm_len (l.drop (i + 1)) (m.drop (K + 1))).1
    simp only [List.length_drop] at b1
    have ec : cm (l.drop i) (m.drop K) = if l[i] = m[K] then cm (l.drop (i + 1)) (m.drop (K + 1)) + 1 else max (cm (l.drop (i + 1)) (m.drop K)) (cm (l.drop i) (m.drop (K + 1))) := by
      rw [drop_cons hi, drop_cons (show K < m.length by omega), cm]
    refine Tl.succ ?_
    simp only [log_common.l1]
    rw [show ((K + 1 : Nat) : Int) - 1 = (K : Int) by omega]
    refine Tl.pos (by omega) (Tl.succ ?_)
    simp only [log_common.j2]
    rw [w64 (x := (i : Int) + 1) (by omega) (by omega), w64 (x := (K : Int) + 1) (by omega) (by omega), w64 (x := (K : Int) - 1) (by omega) (by omega), hr0, hr1, v1, v2, v3, rl, rl1, List.length_set, hn, rd_lt hi, rd_lt (show K < m.length by omega), Int.toNat_natCast, Int.toNat_natCast]
    refine Tl.pos (by simp; omega) (Tl.pos (by omega) (Tl.pos (by omega) (Tl.pos (by omega) (Tl.pos (by omega) ?_))))
    by_cases e : l[i] = m[K]
    · rw [if_pos e] at ec
      rw [ec] at st
      rw [w64 (by omega) (by omega), List.set_set, show (cm (l.drop (i + 1)) (m.drop (K + 1)) : Int) + 1 = ((cm (l.drop (i + 1)) (m.drop (K + 1)) + 1 : Nat) : Int) by omega, st]
      exact Tl.pos e (Tl.pos (by omega) (Tl.pos (by omega) (Tl.pos (by omega) (Tl.pos (by omega) (Tl.pos (by omega) (Tl.pos (by omega) next))))))
    · rw [if_neg e] at ec
      rw [ec] at st
      rw [mx_eq, List.set_set, List.set_set, show max (cm (l.drop (i + 1)) (m.drop K) : Int) (cm (l.drop i) (m.drop (K + 1)) : Int) = ((max (cm (l.drop (i + 1)) (m.drop K)) (cm (l.drop i) (m.drop (K + 1))) : Nat) : Int) by omega, st]
      exact Tl.neg e (Tl.pos (by omega) (Tl.pos (by omega) (Tl.pos (by omega) (Tl.pos (by omega) (Tl.pos (by omega) (Tl.pos (by omega) (Tl.pos (by omega) next)))))))
theorem row_zero (l m : List Int) (a K : Nat) (h : l.length ≤ a ∨ m.length ≤ K) : row l m a K = List.replicate (m.length + 1) 0 := by
  refine List.ext_getElem (by simp [row]) (fun j h1 h2 => ?_)
  simp only [row, List.getElem_map, List.getElem_range, List.getElem_replicate]
  rw [row_len] at h1
  by_cases c : K ≤ j
  · rw [if_pos c]
    rcases h with h | h
    · rw [List.drop_eq_nil_of_le h, cm_nil']; rfl
    · rw [List.drop_eq_nil_of_le (show m.length ≤ j by omega), cm_nil]; rfl
  · rw [if_neg c]
theorem common_out (l m : List Int) (hl : l.length ≤ 1000) (hm : m.length ≤ 1000) : ∀ i : Nat, i ≤ l.length + 1 → Tl (fun k => log_common.l0 k l m (tab l m i) ((i : Int) - 1)) (tab l m 0)
  | 0, _ => by
    refine Tl.succ ?_
    simp only [log_common.l0]
    exact Tl.neg (by omega) Tl.now
  | i + 1, hi => by
    have next := common_out l m hl hm i (by omega)
    have hn := tab_len l m (i + 1)
    refine Tl.succ ?_
    simp only [log_common.l0]
    rw [show ((i + 1 : Nat) : Int) - 1 = (i : Int) by omega, w64 (x := (m.length : Int) + 1) (by omega) (by omega), w64 (x := (m.length : Int) - 1) (by omega) (by omega), Int.toNat_natCast, show ((m.length : Int) + 1).toNat = m.length + 1 by omega]
    refine Tl.pos (by omega) (Tl.pos (by omega) (Tl.pos (by omega) (Tl.pos (by omega) (Tl.pos (by omega) ?_))))
    by_cases h : i < l.length
    · rw [← row_zero l m i m.length (.inr (Nat.le_refl _))]
      exact common_in l m hl hm h next m.length (Nat.le_refl _)
    · rw [← row_zero l m i 0 (.inl (by omega)), tab_set (by omega)]
      have jf : Tl (fun k => log_common.j2 k l m (tab l m i) (i : Int) ((m.length : Int) - 1) false) (tab l m 0) := by
        refine Tl.succ ?_
        simp only [log_common.j2]
        rw [w64 (x := (i : Int) - 1) (by omega) (by omega)]
        exact Tl.neg (by simp) next
      refine Tl.succ ?_
      simp only [log_common.l1]
      rw [decide_eq_false (show ¬ (i : Int) < (l.length : Int) by omega)]
      by_cases c : (m.length : Int) - 1 ≥ 0
      · exact Tl.pos c jf
      · exact Tl.neg c jf
theorem tab_start (l m : List Int) : tab l m (l.length + 1) = List.replicate (l.length + 1) [] := by
  refine List.ext_getElem (by simp [tab]) (fun j h1 h2 => ?_)
  simp only [tab, List.getElem_map, List.getElem_range, List.getElem_replicate]
  rw [tab_len] at h1
  rw [if_pos h1]
theorem ev_common {l m : List Int} (hl : l.length ≤ 1000) (hm : m.length ≤ 1000) : Tl (fun k => log_common.f k l m) (tab l m 0) := by
  unfold log_common.f
  rw [w64 (x := (l.length : Int) + 1) (by omega) (by omega), show ((l.length : Int) + 1).toNat = l.length + 1 by omega, ← tab_start l m]
  have := common_out l m hl hm (l.length + 1) (Nat.le_refl _)
  rw [show ((l.length + 1 : Nat) : Int) - 1 = (l.length : Int) by omega] at this
  exact Tl.pos (by omega) (Tl.pos (by omega) this)
def cn (l m : List Int) : Int × Int := if tc l m = 0 then ((cm l m : Int), 0) else (0, tc l m)
theorem ev_Common {l m : List Int} (hl : l.length ≤ 1000) (hm : m.length ≤ 1000) : Tl (fun k => log_Common.f k l m) (cn l m) := by
  unfold log_Common.f cn
  by_cases h : tc l m = 0
  · rw [if_pos h]
    refine Tl.bind (ev_two hl hm) (Tl.pos h (Tl.bind (ev_common hl hm) ?_))
    have e : rd_L1 (tab l m 0) 0 = row l m 0 0 := tab_rd (a := 0) (by omega) (by omega)
    have e2 : rd (row l m 0 0) 0 = (cm l m : Int) := by
      have := row_rd (l := l) (m := m) (a := 0) (K := 0) (k := 0) (by omega)
      rw [if_pos (Nat.le_refl 0), List.drop_zero, List.drop_zero] at this
      exact this
    rw [e, tab_len, row_len, e2]
    exact Tl.pos (by omega) (Tl.pos (by omega) Tl.now)
  · rw [if_neg h]
    exact Tl.bind (ev_two hl hm) (Tl.neg h Tl.now)
end Go.Proofs.Ytcbepmdnhjojdaa.Ct
namespace Go.Proofs.Ytcbepmdnhjojdaa.Pt
open Go.RowKit Go.Proofs.Ytcbepmdnhjojdaa.P Go.Proofs.Ytcbepmdnhjojdaa.E Go.Proofs.Ytcbepmdnhjojdaa.Al Go.Proofs.Ytcbepmdnhjojdaa.Lo Go.Proofs.Ytcbepmdnhjojdaa.Lr Go.Proofs.Ytcbepmdnhjojdaa.Re Go.Proofs.Ytcbepmdnhjojdaa.Co Go.Proofs.Ytcbepmdnhjojdaa.Ct Go.Proofs.YtcbepmdnhjojdaaW.PrintMore
open Go.Proofs.YtcbepmdnhjojdaaW.PrintWords
theorem fx_drop {l : List Int} {i : Nat} (hi : i < l.length) (s : Int) : fx s (l.drop i) (i : Int) = if s = rd l (i : Int) then (i : Int) else fx s (l.drop (i + 1)) ((i + 1 : Nat) : Int) := by
  rw [drop_cons hi, fx, rd_lt hi]
  rw [show (i : Int) + 1 = ((i + 1 : Nat) : Int) by omega]
theorem good_hit {l m : List Int} (hl : good l = true) (h : 0 < cm l m) : ∃ j : Nat, j < 6 ∧ hit l m (j : Int) := by
  obtain ⟨s, hs, hh⟩ := hit_some h
  have hb := good_mem.1 hl s hs
  obtain ⟨n, rfl⟩ := Int.eq_ofNat_of_zero_le hb.1
  exact ⟨n, by omega, hh⟩
theorem drop_bh {l : List Int} {i : Nat} {s : Int} : bh s (l.drop i) = l.drop (i + ((fx s (l.drop i) 0).toNat + 1)) := by
  unfold bh
  rw [List.drop_drop]
theorem p_step {l m : List Int} (hl : l.length ≤ 1000) (hm : m.length ≤ 1000) {i j : Nat} (hi : i ≤ l.length) (hj : j ≤ m.length) {acc : List Int} {s0 : Nat} (hs : s0 < 6)
    (hh : hit (l.drop i) (m.drop j) (s0 : Int)) (hn : ∀ t : Nat, t < s0 → ¬ hit (l.drop i) (m.drop j) (t : Int)) (hacc : acc.length ≤ 1000) {r : List Int × Int}
    (out : Tl (fun k => log_Part.l0 k l m (tab l m 0) (acc ++ [(s0 : Int)]) ((i + ((fx (s0 : Int) (l.drop i) 0).toNat + 1) : Nat) : Int) ((j + ((fx (s0 : Int) (m.drop j) 0).toNat + 1) : Nat) : Int)) r) (d : Nat) :
    ∀ s : Nat, s + d = s0 → Tl (fun k => log_Part.l1 k l m (tab l m 0) acc (i : Int) (j : Int) (s : Int)) r := by
  have cell : ∀ a b : Nat, a ≤ l.length → b ≤ m.length → rd (rd_L1 (tab l m 0) (a : Int)) (b : Int) = (cm (l.drop a) (m.drop b) : Int) := fun a b ha hb => by
    rw [tab_rd ha (Nat.zero_le _), row_rd hb, if_pos (Nat.zero_le _)]
  have wide : ∀ a : Nat, a ≤ l.length → ((rd_L1 (tab l m 0) (a : Int)).length : Int) = (m.length : Int) + 1 := fun a ha => by
    rw [tab_rd ha (Nat.zero_le _), row_len]; omega
  have high : ((tab l m 0).length : Int) = (l.length : Int) + 1 := by rw [tab_len]; omega
  have c0 := cell i j hi hj
  have cl := (cm_len (l.drop i) (m.drop j)).1
  rw [List.length_drop] at cl
  -- one sign: both places
  have look : ∀ (s : Nat) (a b : Nat), s < 6 → fx (s : Int) (l.drop i) 0 = (a : Int) → fx (s : Int) (m.drop j) 0 = (b : Int) → i + (a + 1) ≤ l.length → j + (b + 1) ≤ m.length →
      Tl (fun k => if (cm (l.drop (i + (a + 1))) (m.drop (j + (b + 1))) : Int) = (cm (l.drop i) (m.drop j) : Int) - 1 then log_Part.l0 k l m (tab l m 0) (acc ++ [(s : Int)]) ((i + (a + 1) : Nat) : Int) ((j + (b + 1) : Nat) : Int) else log_Part.l1 k l m (tab l m 0) acc (i : Int) (j : Int) ((s : Int) + 1)) r →
      Tl (fun k => log_Part.l1 k l m (tab l m 0) acc (i : Int) (j : Int) (s : Int)) r := by
    intro s a b hs6 ea eb ha hb h
    refine Tl.succ ?_
    simp only [log_Part.l1]
    refine Tl.pos (by omega) (Tl.pos (by omega) (Tl.pos (by omega) (Tl.bind (by rw [Int.toNat_natCast]; exact ev_Index _ _ (by simp; omega)) (Tl.pos (by omega) (Tl.pos (by omega) (Tl.bind (by rw [Int.toNat_natCast]; exact ev_Index _ _ (by simp; omega)) ?_))))))
    rw [ea, eb, w64 (x := (i : Int) + (a : Int)) (by omega) (by omega), w64 (x := (j : Int) + (b : Int)) (by omega) (by omega), w64 (x := (i : Int) + (a : Int) + 1) (by omega) (by omega), w64 (x := (j : Int) + (b : Int) + 1) (by omega) (by omega), w64 (x := (s : Int) + 1) (by omega) (by omega)]
    rw [show (i : Int) + (a : Int) + 1 = ((i + (a + 1) : Nat) : Int) by omega, show (j : Int) + (b : Int) + 1 = ((j + (b + 1) : Nat) : Int) by omega, cell _ _ ha hb, c0, wide _ ha, wide _ hi, high, w64 (x := (cm (l.drop i) (m.drop j) : Int) - 1) (by omega) (by omega)]
    refine Tl.pos (by omega) (Tl.pos (by omega) (Tl.pos (by omega) (Tl.pos (by omega) (Tl.pos (by omega) (Tl.pos (by omega) (Tl.pos (by omega) (Tl.pos (by omega) ?_)))))))
    obtain ⟨K, hK⟩ := h
    refine ⟨K, fun k hk => ?_⟩
    have := hK k hk
    simp only [if_pos (show acc.length < 17592186044416 by omega)]
    exact this
  have none_ : ∀ s : Nat, s < 6 → ¬ (0 ≤ fx (s : Int) (l.drop i) 0 ∧ 0 ≤ fx (s : Int) (m.drop j) 0) → Tl (fun k => log_Part.l1 k l m (tab l m 0) acc (i : Int) (j : Int) ((s : Int) + 1)) r → Tl (fun k => log_Part.l1 k l m (tab l m 0) acc (i : Int) (j : Int) (s : Int)) r := by
    intro s hs6 hne next
    refine Tl.succ ?_
    simp only [log_Part.l1]
    refine Tl.pos (by omega) (Tl.pos (by omega) (Tl.pos (by omega) (Tl.bind (by rw [Int.toNat_natCast]; exact ev_Index _ _ (by simp; omega)) (Tl.pos (by omega) (Tl.pos (by omega) (Tl.bind (by rw [Int.toNat_natCast]; exact ev_Index _ _ (by simp; omega)) ?_))))))
    rw [w64 (x := (s : Int) + 1) (by omega) (by omega)]
    by_cases c : fx (s : Int) (l.drop i) 0 ≥ 0
    · exact Tl.pos c (Tl.neg (fun q => hne ⟨c, q⟩) next)
    · exact Tl.neg c next
  have places : ∀ s : Nat, 0 ≤ fx (s : Int) (l.drop i) 0 ∧ 0 ≤ fx (s : Int) (m.drop j) 0 → i + ((fx (s : Int) (l.drop i) 0).toNat + 1) ≤ l.length ∧ j + ((fx (s : Int) (m.drop j) 0).toNat + 1) ≤ m.length := fun s h => by
    have h1 := bh_len h.1
    have h2 := bh_len h.2
    rw [List.length_drop] at h1 h2
    omega
  induction d with
  | zero =>
    intro s h1
    obtain rfl : s = s0 := by omega
    have pl := places s hh.1
    refine look s _ _ hs (Int.toNat_of_nonneg hh.1.1).symm (Int.toNat_of_nonneg hh.1.2).symm pl.1 pl.2 (Tl.pos ?_ out)
    have := hh.2
    rw [drop_bh, drop_bh] at this
    omega
  | succ d ih =>
    intro s h1
    have next := ih (s + 1) (by omega)
    rw [show ((s + 1 : Nat) : Int) = (s : Int) + 1 by omega] at next
    by_cases hne : 0 ≤ fx (s : Int) (l.drop i) 0 ∧ 0 ≤ fx (s : Int) (m.drop j) 0
    · have pl := places s hne
      refine look s _ _ (by omega) (Int.toNat_of_nonneg hne.1).symm (Int.toNat_of_nonneg hne.2).symm pl.1 pl.2 (Tl.neg (fun q => hn s (by omega) ⟨hne, ?_⟩) next)
      rw [drop_bh, drop_bh]
      omega
    · exact none_ s (by omega) hne next
theorem p_loop {l m : List Int} (hl : l.length ≤ 1000) (hm : m.length ≤ 1000) {u v p : List Int} (h : IsP u v p) : ∀ (i j : Nat) (acc : List Int), i ≤ l.length → j ≤ m.length → u = l.drop i → v = m.drop j → acc.length + p.length ≤ 1000 →
    Tl (fun k => log_Part.l0 k l m (tab l m 0) acc (i : Int) (j : Int)) (acc ++ p, 0) := by
  induction h with
  | @nil u v h0 =>
    intro i j acc hi hj eu ev hacc
    refine Tl.succ ?_
    simp only [log_Part.l0]
    rw [tab_rd hi (Nat.zero_le _), row_rd hj, if_pos (Nat.zero_le _), row_len, tab_len, ← eu, ← ev, h0, List.append_nil]
    exact Tl.pos (by omega) (Tl.pos (by omega) (Tl.pos (by omega) (Tl.pos (by omega) (Tl.neg (by omega) Tl.now))))
  | @cons u v q s h0 hs hh hn hq ih =>
    intro i j acc hi hj eu ev hacc
    subst eu ev
    simp only [List.length_cons] at hacc
    have h1 := bh_len hh.1.1
    have h2 := bh_len hh.1.2
    rw [List.length_drop] at h1 h2
    have next := ih (i + ((fx (s : Int) (l.drop i) 0).toNat + 1)) (j + ((fx (s : Int) (m.drop j) 0).toNat + 1)) (acc ++ [(s : Int)]) (by omega) (by omega) drop_bh drop_bh (by simp; omega)
    rw [List.append_assoc, List.singleton_append] at next
    have st := p_step hl hm hi hj hs hh hn (by omega) next s 0 (by omega)
    refine Tl.succ ?_
    simp only [log_Part.l0]
    rw [tab_rd hi (Nat.zero_le _), row_rd hj, if_pos (Nat.zero_le _), row_len, tab_len]
    exact Tl.pos (by omega) (Tl.pos (by omega) (Tl.pos (by omega) (Tl.pos (by omega) (Tl.pos (by omega) st))))
end Go.Proofs.Ytcbepmdnhjojdaa.Pt
