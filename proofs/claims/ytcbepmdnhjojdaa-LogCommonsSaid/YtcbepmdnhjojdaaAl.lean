/- Comparisons of two logs, and the distance. -/
import Derived.Test.YtcbepmdnhjojdaaWWords
import Derived.Test.YtcbepmdnhjojdaaWMore
set_option linter.unusedVariables false
namespace Go.Proofs.Ytcbepmdnhjojdaa.Al
def ch (c a b : Int) : Int := if a = b then 0 else c
/-- Two logs can be compared at this cost: sign by sign, left out, put in, or laid side by side. -/
inductive Al (o i c : Int) : List Int → List Int → Int → Prop
  | nil : Al o i c [] [] 0
  | out {l m : List Int} {n : Int} (a : Int) : Al o i c l m n → Al o i c (a :: l) m (n + o)
  | ins {l m : List Int} {n : Int} (b : Int) : Al o i c l m n → Al o i c l (b :: m) (n + i)
  | both {l m : List Int} {n : Int} (a b : Int) : Al o i c l m n → Al o i c (a :: l) (b :: m) (n + ch c a b)
/-- The distance. -/
def IsD (o i c : Int) (l m : List Int) (d : Int) : Prop := Al o i c l m d ∧ ∀ n, Al o i c l m n → d ≤ n
theorem IsD.unique {o i c : Int} {l m : List Int} {d e : Int} (h : IsD o i c l m d) (k : IsD o i c l m e) : d = e := by
  have := h.2 _ k.1
  have := k.2 _ h.1
  omega
theorem ch_range {c : Int} (hc : 0 ≤ c) (a b : Int) : 0 ≤ ch c a b ∧ ch c a b ≤ c := by unfold ch; split <;> omega
theorem al_nonneg {o i c : Int} (ho : 0 ≤ o) (hi : 0 ≤ i) (hc : 0 ≤ c) {l m : List Int} {n : Int} (h : Al o i c l m n) : 0 ≤ n := by
  induction h with
  | nil => omega
  | out a h ih => omega
  | ins b h ih => omega
  | both a b h ih => have := ch_range hc a b; omega
theorem al_ins {o i c : Int} : ∀ m : List Int, Al o i c [] m (i * (m.length : Int))
  | [] => by simpa using Al.nil
  | b :: m => by
    have := Al.ins b (al_ins (o := o) (i := i) (c := c) m)
    rwa [show i * ((b :: m).length : Int) = i * (m.length : Int) + i by rw [List.length_cons, show ((m.length + 1 : Nat) : Int) = (m.length : Int) + 1 by omega, Int.mul_add, Int.mul_one]]
theorem al_out {o i c : Int} : ∀ l : List Int, Al o i c l [] (o * (l.length : Int))
  | [] => by simpa using Al.nil
  | b :: m => by
    have := Al.out b (al_out (o := o) (i := i) (c := c) m)
    rwa [show o * ((b :: m).length : Int) = o * (m.length : Int) + o by rw [List.length_cons, show ((m.length + 1 : Nat) : Int) = (m.length : Int) + 1 by omega, Int.mul_add, Int.mul_one]]
theorem al_nil_l {o i c : Int} {m : List Int} : ∀ {n : Int}, Al o i c [] m n → n = i * (m.length : Int) := by
  induction m with
  | nil => intro n h; cases h; simp
  | cons b m ih =>
    intro n h
    cases h with
    | ins _ h => rw [ih h, List.length_cons, show ((m.length + 1 : Nat) : Int) = (m.length : Int) + 1 by omega, Int.mul_add, Int.mul_one]
theorem al_nil_r {o i c : Int} {l : List Int} : ∀ {n : Int}, Al o i c l [] n → n = o * (l.length : Int) := by
  induction l with
  | nil => intro n h; cases h; simp
  | cons b m ih =>
    intro n h
    cases h with
    | out _ h => rw [ih h, List.length_cons, show ((m.length + 1 : Nat) : Int) = (m.length : Int) + 1 by omega, Int.mul_add, Int.mul_one]
theorem isD_nil_l {o i c : Int} (m : List Int) : IsD o i c [] m (i * (m.length : Int)) := ⟨al_ins m, fun n h => by rw [al_nil_l h]; exact Int.le_refl _⟩
theorem isD_nil_r {o i c : Int} (l : List Int) : IsD o i c l [] (o * (l.length : Int)) := ⟨al_out l, fun n h => by rw [al_nil_r h]; exact Int.le_refl _⟩
theorem isD_cons {o i c a b : Int} {l m : List Int} {x y z : Int} (hx : IsD o i c l (b :: m) x) (hy : IsD o i c (a :: l) m y) (hz : IsD o i c l m z) : IsD o i c (a :: l) (b :: m) (min (x + o) (min (y + i) (z + ch c a b))) := by
  constructor
  · rcases Int.le_total (x + o) (min (y + i) (z + ch c a b)) with h | h
    · rw [Int.min_eq_left h]; exact .out a hx.1
    · rw [Int.min_eq_right h]
      rcases Int.le_total (y + i) (z + ch c a b) with k | k
      · rw [Int.min_eq_left k]; exact .ins b hy.1
      · rw [Int.min_eq_right k]; exact .both a b hz.1
  · intro n h
    cases h with
    | out _ h => have := hx.2 _ h; omega
    | ins _ h => have := hy.2 _ h; omega
    | both _ _ h => have := hz.2 _ h; omega
theorem isD_some (o i c : Int) : ∀ l m : List Int, ∃ d, IsD o i c l m d
  | [], m => ⟨_, isD_nil_l m⟩
  | a :: l, [] => ⟨_, isD_nil_r _⟩
  | a :: l, b :: m => by
    obtain ⟨x, hx⟩ := isD_some o i c l (b :: m)
    obtain ⟨y, hy⟩ := isD_some o i c (a :: l) m
    obtain ⟨z, hz⟩ := isD_some o i c l m
    exact ⟨_, isD_cons hx hy hz⟩
  termination_by l m => l.length + m.length
theorem al_append {o i c : Int} {l m l' m' : List Int} {n n' : Int} (h : Al o i c l m n) (k : Al o i c l' m' n') : Al o i c (l ++ l') (m ++ m') (n + n') := by
  induction h with
  | nil => simpa using k
  | @out l m n a h ih => have := Al.out a ih; rwa [show n + n' + o = n + o + n' by omega] at this
  | @ins l m n b h ih => have := Al.ins b ih; rwa [show n + n' + i = n + i + n' by omega] at this
  | @both l m n a b h ih => have := Al.both a b ih; rwa [show n + n' + ch c a b = n + ch c a b + n' by omega] at this
theorem al_rev {o i c : Int} {l m : List Int} {n : Int} (h : Al o i c l m n) : Al o i c l.reverse m.reverse n := by
  induction h with
  | nil => exact Al.nil
  | out a h ih => have := al_append ih (Al.out a Al.nil); simpa using this
  | ins b h ih => have := al_append ih (Al.ins b Al.nil); simpa using this
  | both a b h ih => have := al_append ih (Al.both a b Al.nil); simpa using this
theorem isD_rev {o i c : Int} {l m : List Int} {d : Int} (h : IsD o i c l m d) : IsD o i c l.reverse m.reverse d :=
  ⟨al_rev h.1, fun n k => h.2 n (by simpa using al_rev k)⟩
theorem isD_snoc {o i c a b : Int} {l m : List Int} {x y z : Int} (hx : IsD o i c l (m ++ [b]) x) (hy : IsD o i c (l ++ [a]) m y) (hz : IsD o i c l m z) : IsD o i c (l ++ [a]) (m ++ [b]) (min (x + o) (min (y + i) (z + ch c a b))) := by
  have h1 := isD_rev hx
  have h2 := isD_rev hy
  have h3 := isD_rev hz
  rw [List.reverse_append] at h1 h2
  have := isD_rev (isD_cons (a := a) (b := b) h1 h2 h3)
  simpa using this
theorem ch_comm (c a b : Int) : ch c a b = ch c b a := by unfold ch; by_cases h : a = b <;> simp [h]; intro e; exact absurd e.symm h
theorem al_swap {o i c : Int} {l m : List Int} {n : Int} (h : Al o i c l m n) : Al i o c m l n := by
  induction h with
  | nil => exact Al.nil
  | out a h ih => exact .ins a ih
  | ins b h ih => exact .out b ih
  | both a b h ih => rw [ch_comm]; exact .both b a ih
theorem isD_swap {o i c : Int} {l m : List Int} {d : Int} (h : IsD o i c l m d) : IsD i o c m l d := ⟨al_swap h.1, fun n k => h.2 n (al_swap k)⟩
theorem al_map {o i c : Int} (f : Int → Int) {l m : List Int} {n : Int} (h : Al o i c l m n) : (∀ a ∈ l, ∀ b ∈ m, f a = f b ↔ a = b) → Al o i c (l.map f) (m.map f) n := by
  induction h with
  | nil => intro _; exact Al.nil
  | out a h ih => intro hf; exact .out _ (ih (fun a ha b hb => hf a (by simp [ha]) b hb))
  | ins b h ih => intro hf; exact .ins _ (ih (fun a ha b hb => hf a ha b (by simp [hb])))
  | both a b h ih =>
    intro hf
    have e : ch c a b = ch c (f a) (f b) := by unfold ch; by_cases k : a = b <;> simp [k, hf a (by simp) b (by simp)]
    rw [e]
    exact .both _ _ (ih (fun a ha b hb => hf a (by simp [ha]) b (by simp [hb])))
theorem isD_map {o i c : Int} {f g : Int → Int} {l m : List Int} {d : Int} (hl : ∀ a ∈ l, g (f a) = a) (hm : ∀ b ∈ m, g (f b) = b) (h : IsD o i c l m d) : IsD o i c (l.map f) (m.map f) d := by
  refine ⟨al_map f h.1 (fun a ha b hb => ⟨fun e => by rw [← hl a ha, ← hm b hb, e], fun e => by rw [e]⟩), fun n k => h.2 n ?_⟩
  have := al_map g k (fun a ha b hb => by
    obtain ⟨x, hx, rfl⟩ := List.mem_map.1 ha
    obtain ⟨y, hy, rfl⟩ := List.mem_map.1 hb
    exact ⟨fun e => by rw [hl x hx, hm y hy] at e; rw [e], fun e => by rw [e]⟩)
  rw [List.map_map, List.map_map] at this
  have e1 : l.map (g ∘ f) = l := (List.map_congr_left (g := id) (fun a ha => hl a ha)).trans (List.map_id l)
  have e2 : m.map (g ∘ f) = m := (List.map_congr_left (g := id) (fun a ha => hm a ha)).trans (List.map_id m)
  rwa [e1, e2] at this
theorem al_refl {o i c : Int} : ∀ l : List Int, Al o i c l l 0
  | [] => .nil
  | a :: l => by have := Al.both a a (al_refl (o := o) (i := i) (c := c) l); simpa [ch] using this
theorem al_trans {o i c : Int} (ho : 0 ≤ o) (hi : 0 ≤ i) (hc : 0 ≤ c) {l m : List Int} {n : Int} (h : Al o i c l m n) : ∀ {k : List Int} {n' : Int}, Al o i c m k n' → ∃ x, x ≤ n + n' ∧ Al o i c l k x := by
  induction h with
  | nil => intro k n' h'; exact ⟨n', by omega, h'⟩
  | @out l m n a h ih =>
    intro k n' h'
    obtain ⟨x, hx, h1⟩ := ih h'
    exact ⟨x + o, by omega, .out a h1⟩
  | @ins l m n b h ih =>
    intro k n' h'
    generalize e : b :: m = M at h'
    induction h' with
    | nil => cases e
    | @out _ k n' _ h2 _ =>
      cases e
      obtain ⟨x, hx, h1⟩ := ih h2
      exact ⟨x, by omega, h1⟩
    | ins y h2 ih2 =>
      obtain ⟨x, hx, h1⟩ := ih2 e
      exact ⟨x + i, by omega, .ins y h1⟩
    | both y z h2 _ =>
      cases e
      obtain ⟨x, hx, h1⟩ := ih h2
      have := ch_range hc b z
      exact ⟨x + i, by omega, .ins z h1⟩
  | @both l m n a b h ih =>
    intro k n' h'
    generalize e : b :: m = M at h'
    induction h' with
    | nil => cases e
    | @out _ k n' _ h2 _ =>
      cases e
      obtain ⟨x, hx, h1⟩ := ih h2
      have := ch_range hc a b
      exact ⟨x + o, by omega, .out a h1⟩
    | ins y h2 ih2 =>
      obtain ⟨x, hx, h1⟩ := ih2 e
      exact ⟨x + i, by omega, .ins y h1⟩
    | both y z h2 _ =>
      cases e
      obtain ⟨x, hx, h1⟩ := ih h2
      have e3 : ch c a z ≤ ch c a b + ch c b z := by
        unfold ch
        by_cases e1 : a = b
        · subst e1; rw [if_pos rfl]; omega
        · rw [if_neg e1]; split <;> split <;> omega
      exact ⟨x + ch c a z, by omega, .both a z h1⟩
theorem isD_triangle {o i c : Int} (ho : 0 ≤ o) (hi : 0 ≤ i) (hc : 0 ≤ c) {l m k : List Int} {x y z : Int} (hx : IsD o i c l m x) (hy : IsD o i c l k y) (hz : IsD o i c k m z) : x ≤ y + z := by
  obtain ⟨w, hw, h⟩ := al_trans ho hi hc hy.1 hz.1
  have := hx.2 _ h
  omega
theorem al_mid_ins {o i c : Int} (u v : List Int) (s : Int) : Al o i c (u ++ v) (u ++ s :: v) i := by
  have := al_append (al_refl (o := o) (i := i) (c := c) u) (Al.ins s (al_refl v))
  simpa using this
theorem al_mid_out {o i c : Int} (u v : List Int) (s : Int) : Al o i c (u ++ s :: v) (u ++ v) o := by
  have := al_append (al_refl (o := o) (i := i) (c := c) u) (Al.out s (al_refl v))
  simpa using this
theorem al_zero {o i c : Int} (ho : 0 < o) (hi : 0 < i) (hc : 0 < c) {l m : List Int} {n : Int} (h : Al o i c l m n) : n = 0 → l = m := by
  induction h with
  | nil => intro _; rfl
  | out a h ih => intro e; have := al_nonneg (by omega) (by omega) (by omega) h; omega
  | ins a h ih => intro e; have := al_nonneg (by omega) (by omega) (by omega) h; omega
  | @both l m n a b h ih =>
    intro e
    have h1 := al_nonneg (by omega) (by omega) (by omega) h
    have h2 := ch_range (c := c) (by omega) a b
    have h3 : ch c a b = 0 := by omega
    have h4 : a = b := by unfold ch at h3; split at h3 <;> first | assumption | omega
    rw [ih (by omega), h4]
theorem isD_zero {o i c : Int} (ho : 0 < o) (hi : 0 < i) (hc : 0 < c) {l m : List Int} {d : Int} (h : IsD o i c l m d) : d = 0 ↔ l = m := by
  refine ⟨al_zero ho hi hc h.1, fun e => ?_⟩
  subst e
  have h1 := h.2 _ (al_refl l)
  have h2 := al_nonneg (by omega) (by omega) (by omega) h.1
  omega
/-- Either nothing is laid side by side, or there is a first pair. -/
theorem al_first {o i c : Int} {l m : List Int} {n : Int} (h : Al o i c l m n) : n = o * (l.length : Int) + i * (m.length : Int) ∨ ∃ (a b : Nat) (x y n' : Int), l[a]? = some x ∧ m[b]? = some y ∧ Al o i c (l.drop (a + 1)) (m.drop (b + 1)) n' ∧ n = o * a + i * b + ch c x y + n' := by
  have e1 : ∀ (z : Int) (k : Nat), z * ((k + 1 : Nat) : Int) = z * (k : Int) + z := fun z k => by rw [show ((k + 1 : Nat) : Int) = (k : Int) + 1 by omega, Int.mul_add, Int.mul_one]
  induction h with
  | nil => left; simp
  | out a h ih =>
    rcases ih with ih | ⟨p, q, x, y, n', h1, h2, h3, h4⟩
    · left; rw [List.length_cons, e1]; omega
    · right; exact ⟨p + 1, q, x, y, n', by simpa using h1, h2, by simpa using h3, by rw [e1]; omega⟩
  | ins b h ih =>
    rcases ih with ih | ⟨p, q, x, y, n', h1, h2, h3, h4⟩
    · left; rw [List.length_cons, e1]; omega
    · right; exact ⟨p, q + 1, x, y, n', h1, by simpa using h2, by simpa using h3, by rw [e1]; omega⟩
  | @both l m n a b h ih => right; exact ⟨0, 0, a, b, n, by simp, by simp, by simpa using h, by simp; omega⟩
theorem al_all {o i c : Int} (l m : List Int) : Al o i c l m (o * (l.length : Int) + i * (m.length : Int)) := by
  have := al_append (al_out (o := o) (i := i) (c := c) l) (al_ins m)
  simpa using this
theorem al_pair {o i c : Int} {l m : List Int} {a b : Nat} {x y n' : Int} (h1 : l[a]? = some x) (h2 : m[b]? = some y) (h3 : Al o i c (l.drop (a + 1)) (m.drop (b + 1)) n') : Al o i c l m (o * a + i * b + ch c x y + n') := by
  obtain ⟨ha, e1⟩ := List.getElem?_eq_some_iff.1 h1
  obtain ⟨hb, e2⟩ := List.getElem?_eq_some_iff.1 h2
  have k := al_append (al_all (o := o) (i := i) (c := c) (l.take a) (m.take b)) (Al.both x y h3)
  rw [List.length_take, List.length_take, Nat.min_eq_left (by omega), Nat.min_eq_left (by omega)] at k
  rw [← e1, ← e2, ← List.drop_eq_getElem_cons, ← List.drop_eq_getElem_cons, List.take_append_drop, List.take_append_drop] at k
  rw [← e1, ← e2]
  rwa [show o * (a : Int) + i * (b : Int) + (n' + ch c l[a] m[b]) = o * (a : Int) + i * (b : Int) + ch c l[a] m[b] + n' by omega] at k
end Go.Proofs.Ytcbepmdnhjojdaa.Al
