/- Words for the plain laws: a function with rounds comes to a value, from some number of rounds on. -/
import Derived.Test.YtcbepmdnhjojdaaWWords
import Derived.Test.YtcbepmdnhjojdaaWMore
import Derived.Test.YtcbepmdnhjojdaaPx32
import Derived.Test.YtcbepmdnhjojdaaPx3
import Derived.Test.YtcbepmdnhjojdaaPx12
set_option linter.unusedVariables false
namespace Go.Proofs.Ytcbepmdnhjojdaa.E
open Go.RowKit Go.Proofs.YtcbepmdnhjojdaaW.PrintWords Go.Proofs.YtcbepmdnhjojdaaW.PrintMore

/-- From some number of rounds on, g answers r. -/
def Tl {α : Type} (g : Nat → Option α) (r : α) : Prop := ∃ K, ∀ k, K ≤ k → g k = some r
theorem Tl.now {α : Type} {r : α} : Tl (fun _ => some r) r := ⟨0, fun _ _ => rfl⟩
theorem Tl.of {α : Type} {o : Option α} {r : α} (h : o = some r) : Tl (fun _ => o) r := ⟨0, fun _ _ => h⟩
theorem Tl.mono {α : Type} {g : Nat → Option α} {r : α} (hm : ∀ k, LeO (g k) (g (k + 1))) (k : Nat) (h : g k = some r) : Tl g r := ⟨k, fun _ hk => at_rounds hm hk h⟩
theorem Tl.succ {α : Type} {g : Nat → Option α} {r : α} (h : Tl (fun k => g (k + 1)) r) : Tl g r := by
  obtain ⟨K, hK⟩ := h
  refine ⟨K + 1, fun k hk => ?_⟩
  obtain ⟨m, rfl⟩ : ∃ m, k = m + 1 := ⟨k - 1, by omega⟩
  exact hK m (by omega)
theorem Tl.bind {α β : Type} {g : Nat → Option α} {f : Nat → α → Option β} {a : α} {r : β} (h : Tl g a) (hf : Tl (fun k => f k a) r) : Tl (fun k => (g k).bind (f k)) r := by
  obtain ⟨K, hK⟩ := h
  obtain ⟨L, hL⟩ := hf
  refine ⟨max K L, fun k hk => ?_⟩
  show (g k).bind (f k) = some r
  rw [hK k (by omega)]
  exact hL k (by omega)
theorem Tl.bind' {α β : Type} {o : Option α} {f : Nat → α → Option β} {a : α} {r : β} (h : o = some a) (hf : Tl (fun k => f k a) r) : Tl (fun k => o.bind (f k)) r := by
  rw [h]; exact hf
theorem Tl.congr {α : Type} {g g' : Nat → Option α} {r : α} (h : Tl g r) (e : ∀ k, g' k = g k) : Tl g' r := by
  obtain ⟨K, hK⟩ := h
  exact ⟨K, fun k hk => (e k).trans (hK k hk)⟩
theorem Tl.to {α : Type} {g : Nat → Option α} {r r' : α} (h : Tl g r) (e : r = r') : Tl g r' := e ▸ h
theorem Tl.ex {α : Type} {g : Nat → Option α} {r : α} (h : Tl g r) : ∃ k, g k = some r := by
  obtain ⟨K, hK⟩ := h
  exact ⟨K, hK K (Nat.le_refl _)⟩
theorem Tl.pos {α : Type} {c : Prop} [Decidable c] {g g' : Nat → Option α} {r : α} (hc : c) (h : Tl g r) : Tl (fun k => if c then g k else g' k) r := by
  simpa only [if_pos hc] using h
theorem Tl.neg {α : Type} {c : Prop} [Decidable c] {g g' : Nat → Option α} {r : α} (hc : ¬ c) (h : Tl g' r) : Tl (fun k => if c then g k else g' k) r := by
  simpa only [if_neg hc] using h
theorem Tl.ite {α : Type} {c : Prop} [Decidable c] {g g' : Nat → Option α} {r r' : α} (h : c → Tl g r) (h' : ¬ c → Tl g' r') : Tl (fun k => if c then g k else g' k) (if c then r else r') := by
  by_cases hc : c
  · simpa only [if_pos hc] using h hc
  · simpa only [if_neg hc] using h' hc

theorem w64 {x : Int} (h1 : -9223372036854775808 ≤ x) (h2 : x < 9223372036854775808) : wrap64 x = x := by
  unfold wrap64
  omega
theorem wf64 {x : Int} (h : (Lit.int .i64 x).wf = true) : -9223372036854775808 ≤ x ∧ x < 9223372036854775808 := by
  simp only [Lit.wf, IntKind.min, IntKind.max, IntKind.signed, IntKind.bits, Bool.and_eq_true, decide_eq_true_eq, if_true] at h
  omega
theorem mx_eq (a b : Int) : mx a b = max a b := by unfold mx; omega
theorem mn_eq (a b : Int) : mn a b = min a b := by unfold mn; omega
theorem rd_nat (xs : List Int) (i : Nat) : rd xs (i : Int) = xs.getD i 0 := by simp [rd]
theorem rd_lt {xs : List Int} {i : Nat} (h : i < xs.length) : rd xs (i : Int) = xs[i] := by rw [rd_nat, List.getD_eq_getElem?_getD, List.getElem?_eq_getElem h]; rfl
end Go.Proofs.Ytcbepmdnhjojdaa.E
/- Comparisons of two logs, and the distance. -/
set_option linter.unusedVariables false
namespace Go.Proofs.Ytcbepmdnhjojdaa.Al
def ch (c a b : Int) : Int := if a = b then 0 else c
/-- Two logs can be compared at this cost: sign by sign, left out, put in, or laid side by side. -/
inductive Al (o i c : Int) : List Int → List Int → Int → Prop
  | nil : Al o i c [] [] 0
  | out {l m : List Int} {n : Int} (a : Int) : Al o i c l m n → Al o i c (a :: l) m (n + o)
  | ins {l m : List Int} {n : Int} (b : Int) : Al o i c l m n → Al o i c l (b :: m) (n + i)
  | both {l m : List Int} {n : Int} (a b : Int) : Al o i c l m n → Al o i c (a :: l) (b :: m) (n + ch c a b)
/-- The distance. -/
def IsD (o i c : Int) (l m : List Int) (d : Int) : Prop := Al o i c l m d ∧ ∀ n, Al o i c l m n → d ≤ n
theorem IsD.unique {o i c : Int} {l m : List Int} {d e : Int} (h : IsD o i c l m d) (k : IsD o i c l m e) : d = e := by
  have := h.2 _ k.1
  have := k.2 _ h.1
  omega
theorem ch_range {c : Int} (hc : 0 ≤ c) (a b : Int) : 0 ≤ ch c a b ∧ ch c a b ≤ c := by unfold ch; split <;> omega
theorem al_nonneg {o i c : Int} (ho : 0 ≤ o) (hi : 0 ≤ i) (hc : 0 ≤ c) {l m : List Int} {n : Int} (h : Al o i c l m n) : 0 ≤ n := by
  induction h with
  | nil => omega
  | out a h ih => omega
  | ins b h ih => omega
  | both a b h ih => have := ch_range hc a b; omega
theorem al_ins {o i c : Int} : ∀ m : List Int, Al o i c [] m (i * (m.length : Int))
  | [] => by simpa using Al.nil
  | b :: m => by
    have := Al.ins b (al_ins (o := o) (i := i) (c := c) m)
    rwa [show i * ((b :: m).length : Int) = i * (m.length : Int) + i by rw [List.length_cons, show ((m.length + 1 : Nat) : Int) = (m.length : Int) + 1 by omega, Int.mul_add, Int.mul_one]]
theorem al_out {o i c : Int} : ∀ l : List Int, Al o i c l [] (o * (l.length : Int))
  | [] => by simpa using Al.nil
  | b :: m => by
    have := Al.out b (al_out (o := o) (i := i) (c := c) m)
    rwa [show o * ((b :: m).length : Int) = o * (m.length : Int) + o by rw [List.length_cons, show ((m.length + 1 : Nat) : Int) = (m.length : Int) + 1 by omega, Int.mul_add, Int.mul_one]]
theorem al_nil_l {o i c : Int} {m : List Int} : ∀ {n : Int}, Al o i c [] m n → n = i * (m.length : Int) := by
  induction m with
  | nil => intro n h; cases h; simp
  | cons b m ih =>
    intro n h
    cases h with
    | ins _ h => rw [ih h, List.length_cons, show ((m.length + 1 : Nat) : Int) = (m.length : Int) + 1 by omega, Int.mul_add, Int.mul_one]
theorem al_nil_r {o i c : Int} {l : List Int} : ∀ {n : Int}, Al o i c l [] n → n = o * (l.length : Int) := by
  induction l with
  | nil => intro n h; cases h; simp
  | cons b m ih =>
    intro n h
    cases h with
    | out _ h => rw [ih h, List.length_cons, show ((m.length + 1 : Nat) : Int) = (m.length : Int) + 1 by omega, Int.mul_add, Int.mul_one]
theorem isD_nil_l {o i c : Int} (m : List Int) : IsD o i c [] m (i * (m.length : Int)) := ⟨al_ins m, fun n h => by rw [al_nil_l h]; exact Int.le_refl _⟩
theorem isD_nil_r {o i c : Int} (l : List Int) : IsD o i c l [] (o * (l.length : Int)) := ⟨al_out l, fun n h => by rw [al_nil_r h]; exact Int.le_refl _⟩
theorem isD_cons {o i c a b : Int} {l m : List Int} {x y z : Int} (hx : IsD o i c l (b :: m) x) (hy : IsD o i c (a :: l) m y) (hz : IsD o i c l m z) : IsD o i c (a :: l) (b :: m) (min (x + o) (min (y + i) (z + ch c a b))) := by
  constructor
  · rcases Int.le_total (x + o) (min (y + i) (z + ch c a b)) with h | h
    · rw [Int.min_eq_left h]; exact .out a hx.1
    · rw [Int.min_eq_right h]
      rcases Int.le_total (y + i) (z + ch c a b) with k | k
      · rw [Int.min_eq_left k]; exact .ins b hy.1
      · rw [Int.min_eq_right k]; exact .both a b hz.1
  · intro n h
    cases h with
    | out _ h => have := hx.2 _ h; omega
    | ins _ h => have := hy.2 _ h; omega
    | both _ _ h => have := hz.2 _ h; omega
theorem isD_some (o i c : Int) : ∀ l m : List Int, ∃ d, IsD o i c l m d
  | [], m => ⟨_, isD_nil_l m⟩
  | a :: l, [] => ⟨_, isD_nil_r _⟩
  | a :: l, b :: m => by
    obtain ⟨x, hx⟩ := isD_some o i c l (b :: m)
    obtain ⟨y, hy⟩ := isD_some o i c (a :: l) m
    obtain ⟨z, hz⟩ := isD_some o i c l m
    exact ⟨_, isD_cons hx hy hz⟩
  termination_by l m => l.length + m.length
theorem al_append {o i c : Int} {l m l' m' : List Int} {n n' : Int} (h : Al o i c l m n) (k : Al o i c l' m' n') : Al o i c (l ++ l') (m ++ m') (n + n') := by
  induction h with
  | nil => simpa using k
  | @out l m n a h ih => have := Al.out a ih; rwa [show n + n' + o = n + o + n' by omega] at this
  | @ins l m n b h ih => have := Al.ins b ih; rwa [show n + n' + i = n + i + n' by omega] at this
  | @both l m n a b h ih => have := Al.both a b ih; rwa [show n + n' + ch c a b = n + ch c a b + n' by omega] at this
theorem al_rev {o i c : Int} {l m : List Int} {n : Int} (h : Al o i c l m n) : Al o i c l.reverse m.reverse n := by
  induction h with
  | nil => exact Al.nil
  | out a h ih => have := al_append ih (Al.out a Al.nil); simpa using this
  | ins b h ih => have := al_append ih (Al.ins b Al.nil); simpa using this
  | both a b h ih => have := al_append ih (Al.both a b Al.nil); simpa using this
theorem isD_rev {o i c : Int} {l m : List Int} {d : Int} (h : IsD o i c l m d) : IsD o i c l.reverse m.reverse d :=
  ⟨al_rev h.1, fun n k => h.2 n (by simpa using al_rev k)⟩
theorem isD_snoc {o i c a b : Int} {l m : List Int} {x y z : Int} (hx : IsD o i c l (m ++ [b]) x) (hy : IsD o i c (l ++ [a]) m y) (hz : IsD o i c l m z) : IsD o i c (l ++ [a]) (m ++ [b]) (min (x + o) (min (y + i) (z + ch c a b))) := by
  have h1 := isD_rev hx
  have h2 := isD_rev hy
  have h3 := isD_rev hz
  rw [List.reverse_append] at h1 h2
  have := isD_rev (isD_cons (a := a) (b := b) h1 h2 h3)
  simpa using this
theorem ch_comm (c a b : Int) : ch c a b = ch c b a := by unfold ch; by_cases h : a = b <;> simp [h]; intro e; exact absurd e.symm h
theorem al_swap {o i c : Int} {l m : List Int} {n : Int} (h : Al o i c l m n) : Al i o c m l n := by
  induction h with
  | nil => exact Al.nil
  | out a h ih => exact .ins a ih
  | ins b h ih => exact .out b ih
  | both a b h ih => rw [ch_comm]; exact .both b a ih
theorem isD_swap {o i c : Int} {l m : List Int} {d : Int} (h : IsD o i c l m d) : IsD i o c m l d := ⟨al_swap h.1, fun n k => h.2 n (al_swap k)⟩
theorem al_map {o i c : Int} (f : Int → Int) {l m : List Int} {n : Int} (h : Al o i c l m n) : (∀ a ∈ l, ∀ b ∈ m, f a = f b ↔ a = b) → Al o i c (l.map f) (m.map f) n := by
  induction h with
  | nil => intro _; exact Al.nil
  | out a h ih => intro hf; exact .out _ (ih (fun a ha b hb => hf a (by simp [ha]) b hb))
  | ins b h ih => intro hf; exact .ins _ (ih (fun a ha b hb => hf a ha b (by simp [hb])))
  | both a b h ih =>
    intro hf
    have e : ch c a b = ch c (f a) (f b) := by unfold ch; by_cases k : a = b <;> simp [k, hf a (by simp) b (by simp)]
    rw [e]
    exact .both _ _ (ih (fun a ha b hb => hf a (by simp [ha]) b (by simp [hb])))
theorem isD_map {o i c : Int} {f g : Int → Int} {l m : List Int} {d : Int} (hl : ∀ a ∈ l, g (f a) = a) (hm : ∀ b ∈ m, g (f b) = b) (h : IsD o i c l m d) : IsD o i c (l.map f) (m.map f) d := by
  refine ⟨al_map f h.1 (fun a ha b hb => ⟨fun e => by rw [← hl a ha, ← hm b hb, e], fun e => by rw [e]⟩), fun n k => h.2 n ?_⟩
  have := al_map g k (fun a ha b hb => by
    obtain ⟨x, hx, rfl⟩ := List.mem_map.1 ha
    obtain ⟨y, hy, rfl⟩ := List.mem_map.1 hb
    exact ⟨fun e => by rw [hl x hx, hm y hy] at e; rw [e], fun e => by rw [e]⟩)
  rw [List.map_map, List.map_map] at this
  have e1 : l.map (g ∘ f) = l := (List.map_congr_left (g := id) (fun a ha => hl a ha)).trans (List.map_id l)
  have e2 : m.map (g ∘ f) = m := (List.map_congr_left (g := id) (fun a ha => hm a ha)).trans (List.map_id m)
  rwa [e1, e2] at this
theorem al_refl {o i c : Int} : ∀ l : List Int, Al o i c l l 0
  | [] => .nil
  | a :: l => by have := Al.both a a (al_refl (o := o) (i := i) (c := c) l); simpa [ch] using this
theorem al_trans {o i c : Int} (ho : 0 ≤ o) (hi : 0 ≤ i) (hc : 0 ≤ c) {l m : List Int} {n : Int} (h : Al o i c l m n) : ∀ {k : List Int} {n' : Int}, Al o i c m k n' → ∃ x, x ≤ n + n' ∧ Al o i c l k x := by
  induction h with
  | nil => intro k n' h'; exact ⟨n', by omega, h'⟩
  | @out l m n a h ih =>
    intro k n' h'
    obtain ⟨x, hx, h1⟩ := ih h'
    exact ⟨x + o, by omega, .out a h1⟩
  | @ins l m n b h ih =>
    intro k n' h'
    generalize e : b :: m = M at h'
    induction h' with
    | nil => cases e
    | @out _ k n' _ h2 _ =>
      cases e
      obtain ⟨x, hx, h1⟩ := ih h2
      exact ⟨x, by omega, h1⟩
    | ins y h2 ih2 =>
      obtain ⟨x, hx, h1⟩ := ih2 e
      exact ⟨x + i, by omega, .ins y h1⟩
    | both y z h2 _ =>
      cases e
      obtain ⟨x, hx, h1⟩ := ih h2
      have := ch_range hc b z
      exact ⟨x + i, by omega, .ins z h1⟩
  | @both l m n a b h ih =>
    intro k n' h'
    generalize e : b :: m = M at h'
    induction h' with
    | nil => cases e
    | @out _ k n' _ h2 _ =>
      cases e
      obtain ⟨x, hx, h1⟩ := ih h2
      have := ch_range hc a b
      exact ⟨x + o, by omega, .out a h1⟩
    | ins y h2 ih2 =>
      obtain ⟨x, hx, h1⟩ := ih2 e
      exact ⟨x + i, by omega, .ins y h1⟩
    | both y z h2 _ =>
      cases e
      obtain ⟨x, hx, h1⟩ := ih h2
      have e3 : ch c a z ≤ ch c a b + ch c b z := by
        unfold ch
        by_cases e1 : a = b
        · subst e1; rw [if_pos rfl]; omega
        · rw [if_neg e1]; split <;> split <;> omega
      exact ⟨x + ch c a z, by omega, .both a z h1⟩
theorem isD_triangle {o i c : Int} (ho : 0 ≤ o) (hi : 0 ≤ i) (hc : 0 ≤ c) {l m k : List Int} {x y z : Int} (hx : IsD o i c l m x) (hy : IsD o i c l k y) (hz : IsD o i c k m z) : x ≤ y + z := by
  obtain ⟨w, hw, h⟩ := al_trans ho hi hc hy.1 hz.1
  have := hx.2 _ h
  omega
theorem al_mid_ins {o i c : Int} (u v : List Int) (s : Int) : Al o i c (u ++ v) (u ++ s :: v) i := by
  have := al_append (al_refl (o := o) (i := i) (c := c) u) (Al.ins s (al_refl v))
  simpa using this
theorem al_mid_out {o i c : Int} (u v : List Int) (s : Int) : Al o i c (u ++ s :: v) (u ++ v) o := by
  have := al_append (al_refl (o := o) (i := i) (c := c) u) (Al.out s (al_refl v))
  simpa using this
theorem al_zero {o i c : Int} (ho : 0 < o) (hi : 0 < i) (hc : 0 < c) {l m : List Int} {n : Int} (h : Al o i c l m n) : n = 0 → l = m := by
  induction h with
  | nil => intro _; rfl
  | out a h ih => intro e; have := al_nonneg (by omega) (by omega) (by omega) h; omega
  | ins a h ih => intro e; have := al_nonneg (by omega) (by omega) (by omega) h; omega
  | @both l m n a b h ih =>
    intro e
    have h1 := al_nonneg (by omega) (by omega) (by omega) h
    have h2 := ch_range (c := c) (by omega) a b
    have h3 : ch c a b = 0 := by omega
    have h4 : a = b := by unfold ch at h3; split at h3 <;> first | assumption | omega
    rw [ih (by omega), h4]
theorem isD_zero {o i c : Int} (ho : 0 < o) (hi : 0 < i) (hc : 0 < c) {l m : List Int} {d : Int} (h : IsD o i c l m d) : d = 0 ↔ l = m := by
  refine ⟨al_zero ho hi hc h.1, fun e => ?_⟩
  subst e
  have h1 := h.2 _ (al_refl l)
  have h2 := al_nonneg (by omega) (by omega) (by omega) h.1
  omega
/-- Either nothing is laid side by side, or there is a first pair. -/
theorem al_first {o i c : Int} {l m : List Int} {n : Int} (h : Al o i c l m n) : n = o * (l.length : Int) + i * (m.length : Int) ∨ ∃ (a b : Nat) (x y n' : Int), l[a]? = some x ∧ m[b]? = some y ∧ Al o i c (l.drop (a + 1)) (m.drop (b + 1)) n' ∧ n = o * a + i * b + ch c x y + n' := by
  have e1 : ∀ (z : Int) (k : Nat), z * ((k + 1 : Nat) : Int) = z * (k : Int) + z := fun z k => by rw [show ((k + 1 : Nat) : Int) = (k : Int) + 1 by omega, Int.mul_add, Int.mul_one]
  induction h with
  | nil => left; simp
  | out a h ih =>
    rcases ih with ih | ⟨p, q, x, y, n', h1, h2, h3, h4⟩
    · left; rw [List.length_cons, e1]; omega
    · right; exact ⟨p + 1, q, x, y, n', by simpa using h1, h2, by simpa using h3, by rw [e1]; omega⟩
  | ins b h ih =>
    rcases ih with ih | ⟨p, q, x, y, n', h1, h2, h3, h4⟩
    · left; rw [List.length_cons, e1]; omega
    · right; exact ⟨p, q + 1, x, y, n', h1, by simpa using h2, by simpa using h3, by rw [e1]; omega⟩
  | @both l m n a b h ih => right; exact ⟨0, 0, a, b, n, by simp, by simp, by simpa using h, by simp; omega⟩
theorem al_all {o i c : Int} (l m : List Int) : Al o i c l m (o * (l.length : Int) + i * (m.length : Int)) := by
  have := al_append (al_out (o := o) (i := i) (c := c) l) (al_ins m)
  simpa using this
theorem al_pair {o i c : Int} {l m : List Int} {a b : Nat} {x y n' : Int} (h1 : l[a]? = some x) (h2 : m[b]? = some y) (h3 : Al o i c (l.drop (a + 1)) (m.drop (b + 1)) n') : Al o i c l m (o * a + i * b + ch c x y + n') := by
  obtain ⟨ha, e1⟩ := List.getElem?_eq_some_iff.1 h1
  obtain ⟨hb, e2⟩ := List.getElem?_eq_some_iff.1 h2
  have k := al_append (al_all (o := o) (i := i) (c := c) (l.take a) (m.take b)) (Al.both x y h3)
  rw [List.length_take, List.length_take, Nat.min_eq_left (by omega), Nat.min_eq_left (by omega)] at k
  rw [← e1, ← e2, ← List.drop_eq_getElem_cons, ← List.drop_eq_getElem_cons, List.take_append_drop, List.take_append_drop] at k
  rw [← e1, ← e2]
  rwa [show o * (a : Int) + i * (b : Int) + (n' + ch c l[a] m[b]) = o * (a : Int) + i * (b : Int) + ch c l[a] m[b] + n' by omega] at k
end Go.Proofs.Ytcbepmdnhjojdaa.Al
/- Which logs and costs are right; the distance that the program returns. -/
set_option linter.unusedVariables false
namespace Go.Proofs.Ytcbepmdnhjojdaa.Lo
open Go.RowKit Go.Proofs.Ytcbepmdnhjojdaa.P Go.Proofs.Ytcbepmdnhjojdaa.E Go.Proofs.Ytcbepmdnhjojdaa.Al Go.Proofs.YtcbepmdnhjojdaaW.PrintMore
open Go.Proofs.YtcbepmdnhjojdaaW.PrintWords
theorem drop_cons {α : Type} {h : List α} {i : Nat} (hi : i < h.length) : h.drop i = h[i] :: h.drop (i + 1) := List.drop_eq_getElem_cons hi
theorem within_eq (a b c : Int) : log_within.f a b c = some (decide (b ≤ a ∧ a ≤ c)) := by
  unfold log_within.f
  by_cases h : b ≤ a
  · rw [if_pos h]; congr 1; exact decide_eq_decide.2 ⟨fun q => ⟨h, q⟩, fun q => q.2⟩
  · rw [if_neg h]; congr 1; exact (decide_eq_false (fun q => h q.1)).symm
def good (l : List Int) : Bool := l.all (fun x => decide (0 ≤ x ∧ x ≤ 5))
def lc (l : List Int) : Int := if l.length ≤ 10 then (if good l = true then 0 else 1) else 3
def cc (o i c : Int) : Int := if (1 ≤ o ∧ o ≤ 9) ∧ (1 ≤ i ∧ i ≤ 9) ∧ (1 ≤ c ∧ c ≤ 9) then 0 else 1
def kc (l m : List Int) (o i c : Int) : Int := if lc l = 0 then (if lc m = 0 then cc o i c else lc m) else lc l
theorem kc_zero {l m : List Int} {o i c : Int} : kc l m o i c = 0 ↔ lc l = 0 ∧ lc m = 0 ∧ cc o i c = 0 := by
  unfold kc
  by_cases h : lc l = 0
  · rw [if_pos h]
    by_cases h2 : lc m = 0
    · rw [if_pos h2]; exact ⟨fun q => ⟨h, h2, q⟩, fun q => q.2.2⟩
    · rw [if_neg h2]; exact ⟨fun q => absurd q h2, fun q => absurd q.2.1 h2⟩
  · rw [if_neg h]; exact ⟨fun q => absurd q h, fun q => absurd q.1 h⟩
theorem lc_zero {l : List Int} : lc l = 0 ↔ l.length ≤ 10 ∧ good l = true := by
  unfold lc
  by_cases h : l.length ≤ 10
  · rw [if_pos h]
    by_cases h2 : good l = true
    · rw [if_pos h2]; exact ⟨fun _ => ⟨h, h2⟩, fun _ => rfl⟩
    · rw [if_neg h2]; exact ⟨fun q => by omega, fun q => absurd q.2 h2⟩
  · rw [if_neg h]; exact ⟨fun q => by omega, fun q => absurd q.1 h⟩
theorem cc_zero {o i c : Int} : cc o i c = 0 ↔ (1 ≤ o ∧ o ≤ 9) ∧ (1 ≤ i ∧ i ≤ 9) ∧ (1 ≤ c ∧ c ≤ 9) := by
  unfold cc
  split
  · exact ⟨fun _ => by assumption, fun _ => rfl⟩
  · exact ⟨fun q => by omega, fun q => absurd q (by assumption)⟩
theorem good_drop {t : List Int} {i : Nat} (hi : i < t.length) : good (t.drop i) = (decide (0 ≤ rd t (i : Int) ∧ rd t (i : Int) ≤ 5) && good (t.drop (i + 1))) := by
  rw [drop_cons hi, rd_lt hi]; rfl
theorem vloop (t : List Int) (hl : t.length ≤ 1000) (d : Nat) : ∀ i : Nat, i ≤ t.length → t.length - i = d → ∃ j : Int, (j < 0 ↔ good (t.drop i) = true) ∧ Tl (fun k => slices_IndexFunc_int_int_log_Validate_1.l0 k t (t.length : Int) (i : Int)) j := by
  induction d with
  | zero =>
    intro i h1 h2
    refine ⟨-1, ?_, ?_⟩
    · rw [List.drop_eq_nil_of_le (by omega)]; simp [good]
    · refine Tl.succ ?_
      simp only [slices_IndexFunc_int_int_log_Validate_1.l0]
      exact Tl.neg (by omega) Tl.now
  | succ d ih =>
    intro i h1 h2
    have hlt : i < t.length := by omega
    obtain ⟨j, hj, next⟩ := ih (i + 1) (by omega) (by omega)
    rw [show ((i + 1 : Nat) : Int) = (i : Int) + 1 by omega, ← w64 (x := (i : Int) + 1) (by omega) (by omega)] at next
    rw [good_drop hlt]
    have e : log_Validate_1.f (rd t (i : Int)) = some (!decide (0 ≤ rd t (i : Int) ∧ rd t (i : Int) ≤ 5)) := by
      unfold log_Validate_1.f
      rw [within_eq]; rfl
    by_cases c : 0 ≤ rd t (i : Int) ∧ rd t (i : Int) ≤ 5
    · refine ⟨j, by rw [hj]; simp [c], ?_⟩
      refine Tl.succ ?_
      simp only [slices_IndexFunc_int_int_log_Validate_1.l0]
      exact Tl.pos (by omega) (Tl.pos (by omega) (Tl.pos (by omega) (Tl.bind' e (Tl.neg (by simp [c]) next))))
    · refine ⟨(i : Int), ⟨fun q => by omega, fun q => by simp [c] at q⟩, ?_⟩
      refine Tl.succ ?_
      simp only [slices_IndexFunc_int_int_log_Validate_1.l0]
      exact Tl.pos (by omega) (Tl.pos (by omega) (Tl.pos (by omega) (Tl.bind' e (Tl.pos (by simp [c]) Tl.now))))
theorem ev_Validate {t : List Int} (hl : t.length ≤ 1000) : Tl (fun k => log_Validate.f k t) (lc t) := by
  unfold log_Validate.f
  obtain ⟨j, hj, hr⟩ := vloop t hl t.length 0 (by omega) (by omega)
  rw [List.drop_zero] at hj
  have b : Tl (fun k => slices_ContainsFunc_int_int_log_Validate_1.f k t) (!good t) := by
    unfold slices_ContainsFunc_int_int_log_Validate_1.f
    refine Tl.to (Tl.bind hr Tl.now) ?_
    cases hb : good t with
    | true => rw [hb] at hj; have := hj.2 rfl; simp; omega
    | false => rw [hb] at hj; have : ¬ j < 0 := fun q => by simpa using hj.1 q
               simp; omega
  by_cases h : t.length ≤ 10
  · refine Tl.neg (by omega) (Tl.bind b ?_)
    cases hg : good t with
    | true => exact Tl.to (Tl.neg (by simp) Tl.now) (by simp [lc, h, hg])
    | false => exact Tl.to (Tl.pos (by simp) Tl.now) (by simp [lc, h, hg])
  · exact Tl.to (Tl.pos (by omega) Tl.now) (by simp [lc, h])
theorem costs_eq (o i c : Int) : log_ValidateCosts.f o i c = some (cc o i c) := by
  unfold log_ValidateCosts.f cc
  rw [within_eq, Option.bind_some]
  by_cases h1 : 1 ≤ o ∧ o ≤ 9
  · rw [if_pos (decide_eq_true h1), within_eq, Option.bind_some]
    by_cases h2 : 1 ≤ i ∧ i ≤ 9
    · rw [if_pos (decide_eq_true h2), within_eq, Option.bind_some]
      by_cases h3 : 1 ≤ c ∧ c ≤ 9
      · rw [if_pos (decide_eq_true h3), if_pos ⟨h1, h2, h3⟩]
      · rw [if_neg (by simpa using h3), if_neg (fun q => h3 q.2.2)]
    · rw [if_neg (by simpa using h2), if_neg (fun q => h2 q.2.1)]
  · rw [if_neg (by simpa using h1), if_neg (fun q => h1 q.1)]
theorem ev_or3 (a b c : Int) : Tl (fun k => api_Errno.f k [a, b, c]) (if a = 0 then (if b = 0 then c else b) else a) := by
  unfold api_Errno.f
  have e1 : wrap64 ((0 : Int) + 1) = 1 := by unfold wrap64; omega
  have e2 : wrap64 ((1 : Int) + 1) = 2 := by unfold wrap64; omega
  have e3 : wrap64 ((2 : Int) + 1) = 3 := by unfold wrap64; omega
  have l3 : (([a, b, c] : List Int).length : Int) = 3 := rfl
  have r0 : rd [a, b, c] 0 = a := rfl
  have r1 : rd [a, b, c] 1 = b := rfl
  have r2 : rd [a, b, c] 2 = c := rfl
  rw [l3]
  refine Tl.succ ?_
  simp only [api_Errno.l0, r0, e1, l3]
  refine Tl.pos (by omega) (Tl.pos (by omega) (Tl.pos (by omega) ?_))
  by_cases ha : a = 0
  · rw [if_pos ha]
    refine Tl.pos ha (Tl.succ ?_)
    simp only [api_Errno.l0, r1, e2, l3]
    refine Tl.pos (by omega) (Tl.pos (by omega) (Tl.pos (by omega) ?_))
    by_cases hb : b = 0
    · rw [if_pos hb]
      refine Tl.pos hb (Tl.succ ?_)
      simp only [api_Errno.l0, r2, e3, l3]
      refine Tl.pos (by omega) (Tl.pos (by omega) (Tl.pos (by omega) ?_))
      by_cases hc : c = 0
      · refine Tl.pos hc (Tl.succ ?_)
        simp only [api_Errno.l0, l3]
        exact Tl.to (Tl.neg (by omega) Tl.now) hc.symm
      · exact Tl.neg hc Tl.now
    · rw [if_neg hb]; exact Tl.neg hb Tl.now
  · rw [if_neg ha]; exact Tl.neg ha Tl.now
theorem ev_check {l m : List Int} {o i c : Int} (hl : l.length ≤ 1000) (hm : m.length ≤ 1000) : Tl (fun k => log_check.f k l m o i c) (kc l m o i c) := by
  unfold log_check.f
  exact Tl.bind (ev_Validate hl) (Tl.bind (ev_Validate hm) (Tl.bind' (costs_eq o i c) (Tl.bind (ev_or3 _ _ _) Tl.now)))
/-- The table's numbers are the distances of the beginnings. -/
theorem ch_log (c a b : Int) : log_ch c a b = ch c a b := rfl
theorem tb_isD {l m : List Int} {o i c : Int} : ∀ a k : Nat, a ≤ l.length → k ≤ m.length → IsD o i c (l.take a) (m.take k) (log_tb l m o i c a k)
  | 0, k, _, hk => by
    rw [log_tb, List.take_zero]
    have := isD_nil_l (o := o) (i := i) (c := c) (m.take k)
    rwa [List.length_take, Nat.min_eq_left hk, Int.mul_comm] at this
  | a + 1, 0, ha, _ => by
    rw [log_tb, List.take_zero]
    have := isD_nil_r (o := o) (i := i) (c := c) (l.take (a + 1))
    rwa [List.length_take, Nat.min_eq_left ha, Int.mul_comm] at this
  | a + 1, k + 1, ha, hk => by
    have h1 := tb_isD (l := l) (m := m) (o := o) (i := i) (c := c) a (k + 1) (by omega) hk
    have h2 := tb_isD (l := l) (m := m) (o := o) (i := i) (c := c) (a + 1) k ha (by omega)
    have h3 := tb_isD (l := l) (m := m) (o := o) (i := i) (c := c) a k (by omega) (by omega)
    have el : l.take (a + 1) = l.take a ++ [l[a]] := by rw [List.take_succ_eq_append_getElem (by omega)]
    have em : m.take (k + 1) = m.take k ++ [m[k]] := by rw [List.take_succ_eq_append_getElem (by omega)]
    rw [em] at h1
    rw [el] at h2
    have := isD_snoc h1 h2 h3
    rw [el, em, log_tb, rd_lt (show a < l.length by omega), rd_lt (show k < m.length by omega), ch_log]
    rw [mn_eq, mn_eq, Int.min_assoc]
    exact this
  termination_by a k => (a, k)
/-- What Distance comes to. -/
theorem ev_Distance {l m : List Int} {o i c : Int} (hl : l.length ≤ 1000) (hm : m.length ≤ 1000) : ∃ d : Int, (kc l m o i c = 0 → IsD o i c l m d) ∧ Tl (fun k => log_Distance.f k l m o i c) (if kc l m o i c = 0 then d else 0, kc l m o i c) := by
  unfold log_Distance.f
  by_cases h : kc l m o i c = 0
  · obtain ⟨h1, h2, h3⟩ := kc_zero.1 h
    have g1 := (lc_zero.1 h1).1
    have g2 := (lc_zero.1 h2).1
    have g3 := cc_zero.1 h3
    have hd := tb_isD (l := l) (m := m) (o := o) (i := i) (c := c) l.length m.length (Nat.le_refl _) (Nat.le_refl _)
    rw [List.take_length, List.take_length] at hd
    refine ⟨log_tb l m o i c l.length m.length, fun _ => hd, ?_⟩
    rw [if_pos h]
    refine Tl.bind (ev_check hl hm) (Tl.pos h (Tl.bind' (a := log_tb l m o i c l.length m.length) ?_ (Tl.to Tl.now (by rw [h]))))
    unfold log_distance.f log_table.f
    rw [if_pos ⟨g1, g2, ⟨by omega, by omega⟩, ⟨by omega, by omega⟩, ⟨by omega, by omega⟩⟩]; rfl
  · exact ⟨0, fun q => absurd q h, by rw [if_neg h]; exact Tl.bind (ev_check hl hm) (Tl.neg h Tl.now)⟩
theorem known_dist : log_tb [1, 2, 3] [1, 3] 1 1 1 3 2 = 1 := by
  simp only [log_tb]
  decide
theorem known_count : log_Count.f 60 [1, 1] [1] 1 1 1 = some (2, 0) := by decide +kernel
theorem ev_known : Tl (fun k => diaphonelaw06_known.f k) true := by
  unfold diaphonelaw06_known.f
  obtain ⟨d, hd, ht⟩ := ev_Distance (l := [1, 2, 3]) (m := [1, 3]) (o := 1) (i := 1) (c := 1) (by simp) (by simp)
  have hk : kc [1, 2, 3] [1, 3] 1 1 1 = 0 := by decide
  have e := tb_isD (l := [1, 2, 3]) (m := [1, 3]) (o := 1) (i := 1) (c := 1) 3 2 (by simp) (by simp)
  rw [known_dist] at e
  have e2 : d = 1 := (hd hk).unique e
  rw [if_pos hk, hk, e2] at ht
  exact Tl.bind ht (Tl.bind (Tl.mono (log_Count.mono _ _ _ _ _) 60 known_count) (Tl.pos rfl (Tl.pos rfl (Tl.pos rfl (Tl.to Tl.now (by decide))))))
theorem ev_known' : Tl (fun k => (diaphonelaw06_known.f k).bind fun t => some t) true := Tl.bind ev_known Tl.now
def lg (l m : List Int) : Bool := decide ((l.length : Int) > 100) || decide ((m.length : Int) > 100)
theorem long_eq (l m : List Int) (a b c : Int) : diaphonelaw06_Long.f l m a b c = some (lg l m) := by
  unfold diaphonelaw06_Long.f diaphonelaw06_large.f lg
  by_cases h : (l.length : Int) > 100
  · simp [h]
  · simp [h]
theorem lg_false {l m : List Int} (h : lg l m = false) : l.length ≤ 100 ∧ m.length ≤ 100 := by
  unfold lg at h
  simp at h
  omega
end Go.Proofs.Ytcbepmdnhjojdaa.Lo
