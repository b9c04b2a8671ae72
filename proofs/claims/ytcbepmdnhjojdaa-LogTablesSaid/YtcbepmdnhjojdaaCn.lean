/- How many comparisons cost the least: counted by their pairs. -/
import Derived.Test.YtcbepmdnhjojdaaLo
set_option linter.unusedVariables false
namespace Go.Proofs.Ytcbepmdnhjojdaa.Cn
open Go.Proofs.Ytcbepmdnhjojdaa.Al
abbrev Cmp := List (Nat × Nat)
theorem nodup_le' {α : Type} [DecidableEq α] : ∀ {D M : List α}, D.Nodup → (∀ x ∈ D, x ∈ M) → D.length ≤ M.length
  | [], M, _, _ => by simp
  | x :: D, M, h, hs => by
    have hx := hs x (by simp)
    obtain ⟨h1, h2⟩ := List.nodup_cons.1 h
    have := nodup_le' (D := D) (M := M.erase x) h2 (fun y hy => (List.mem_erase_of_ne (fun e => h1 (by rw [← e]; exact hy))).2 (hs y (by simp [hy])))
    rw [List.length_erase_of_mem hx] at this
    have : 0 < M.length := List.length_pos_of_mem hx
    simp only [List.length_cons]
    omega
/-- Just n things have a property. -/
def IsN (P : Cmp → Prop) (n : Nat) : Prop := ∃ L : List Cmp, L.Nodup ∧ (∀ x, x ∈ L ↔ P x) ∧ L.length = n
theorem IsN.unique {P : Cmp → Prop} {n m : Nat} (h : IsN P n) (k : IsN P m) : n = m := by
  obtain ⟨L, l1, l2, l3⟩ := h
  obtain ⟨M, m1, m2, m3⟩ := k
  have := nodup_le' l1 (fun x hx => (m2 x).2 ((l2 x).1 hx))
  have := nodup_le' m1 (fun x hx => (l2 x).2 ((m2 x).1 hx))
  omega
theorem IsN.congr {P Q : Cmp → Prop} {n : Nat} (h : IsN P n) (e : ∀ x, P x ↔ Q x) : IsN Q n := by
  obtain ⟨L, l1, l2, l3⟩ := h
  exact ⟨L, l1, fun x => (l2 x).trans (e x), l3⟩
theorem IsN.union {P Q : Cmp → Prop} {n m : Nat} (h : IsN P n) (k : IsN Q m) (d : ∀ x, P x → ¬ Q x) : IsN (fun x => P x ∨ Q x) (n + m) := by
  obtain ⟨L, l1, l2, l3⟩ := h
  obtain ⟨M, m1, m2, m3⟩ := k
  refine ⟨L ++ M, List.nodup_append.2 ⟨l1, m1, fun x hx y hy e => ?_⟩, fun x => ?_, by rw [List.length_append, l3, m3]⟩
  · subst e; exact d x ((l2 x).1 hx) ((m2 x).1 hy)
  · rw [List.mem_append, l2, m2]
theorem nodup_map {f : Cmp → Cmp} (hf : ∀ x y, f x = f y → x = y) : ∀ {L : List Cmp}, L.Nodup → (L.map f).Nodup
  | [], _ => by simp
  | x :: L, h => by
    obtain ⟨h1, h2⟩ := List.nodup_cons.1 h
    rw [List.map_cons]
    refine List.nodup_cons.2 ⟨fun hm => ?_, nodup_map hf h2⟩
    obtain ⟨y, hy, e⟩ := List.mem_map.1 hm
    exact h1 (by rw [← hf _ _ e]; exact hy)
theorem IsN.map {P : Cmp → Prop} {n : Nat} {f : Cmp → Cmp} (hf : ∀ x y, f x = f y → x = y) (h : IsN P n) : IsN (fun y => ∃ x, P x ∧ y = f x) n := by
  obtain ⟨L, l1, l2, l3⟩ := h
  refine ⟨L.map f, nodup_map hf l1, fun y => ?_, by rw [List.length_map, l3]⟩
  rw [List.mem_map]
  exact ⟨fun ⟨x, hx, e⟩ => ⟨x, (l2 x).1 hx, e.symm⟩, fun ⟨x, hx, e⟩ => ⟨x, (l2 x).2 hx, e.symm⟩⟩
/-- b is the least value of f on S, and n of S have it. -/
def Bst (S : Cmp → Prop) (f : Cmp → Int) (b n : Int) : Prop := (∃ x, S x ∧ f x = b) ∧ (∀ x, S x → b ≤ f x) ∧ ∃ k : Nat, n = (k : Int) ∧ IsN (fun x => S x ∧ f x = b) k
theorem Bst.unique {S : Cmp → Prop} {f : Cmp → Int} {b n b' n' : Int} (h : Bst S f b n) (k : Bst S f b' n') : b = b' ∧ n = n' := by
  obtain ⟨⟨x, x1, x2⟩, h2, q, hq, h3⟩ := h
  obtain ⟨⟨y, y1, y2⟩, k2, r, hr, k3⟩ := k
  have e : b = b' := by have := h2 y y1; have := k2 x x1; omega
  subst e
  exact ⟨rfl, by rw [hq, hr, h3.unique k3]⟩
theorem Bst.pos {S : Cmp → Prop} {f : Cmp → Int} {b n : Int} (h : Bst S f b n) : 0 < n := by
  obtain ⟨⟨x, x1, x2⟩, h2, q, hq, L, l1, l2, l3⟩ := h
  have := List.length_pos_of_mem ((l2 x).2 ⟨x1, x2⟩)
  omega
theorem Bst.congr {S T : Cmp → Prop} {f g : Cmp → Int} {b n : Int} (h : Bst S f b n) (e : ∀ x, S x ↔ T x) (k : ∀ x, S x → f x = g x) : Bst T g b n := by
  obtain ⟨⟨x, x1, x2⟩, h2, q, hq, h3⟩ := h
  refine ⟨⟨x, (e x).1 x1, by rw [← k x x1]; exact x2⟩, fun y hy => by have := h2 y ((e y).2 hy); rw [k y ((e y).2 hy)] at this; exact this, q, hq, h3.congr (fun y => ?_)⟩
  constructor
  · rintro ⟨a, b⟩; exact ⟨(e y).1 a, by rw [← k y a]; exact b⟩
  · rintro ⟨a, b⟩; exact ⟨(e y).2 a, by rw [k y ((e y).2 a)]; exact b⟩
theorem Bst.one (x : Cmp) {S : Cmp → Prop} {f : Cmp → Int} (h : ∀ y, S y ↔ y = x) : Bst S f (f x) 1 := by
  refine ⟨⟨x, (h x).2 rfl, rfl⟩, fun y hy => by rw [(h y).1 hy]; exact Int.le_refl _, 1, rfl, [x], by simp, fun y => ?_, rfl⟩
  rw [List.mem_singleton]
  exact ⟨fun e => by subst e; exact ⟨(h y).2 rfl, rfl⟩, fun k => (h y).1 k.1⟩
theorem Bst.less {S T : Cmp → Prop} {f : Cmp → Int} {b n b' n' : Int} (h : Bst S f b n) (k : Bst T f b' n') (c : b' < b) : Bst (fun x => S x ∨ T x) f b' n' := by
  obtain ⟨⟨x, x1, x2⟩, h2, q, hq, h3⟩ := h
  obtain ⟨⟨y, y1, y2⟩, k2, r, hr, k3⟩ := k
  refine ⟨⟨y, .inr y1, y2⟩, fun z hz => hz.elim (fun u => by have := h2 z u; omega) (k2 z), r, hr, k3.congr (fun z => ⟨fun u => ⟨.inr u.1, u.2⟩, fun u => ⟨u.1.elim (fun v => by have := h2 z v; omega) id, u.2⟩⟩)⟩
theorem Bst.more {S T : Cmp → Prop} {f : Cmp → Int} {b n b' n' : Int} (h : Bst S f b n) (k : Bst T f b' n') (c : b < b') : Bst (fun x => S x ∨ T x) f b n :=
  (k.less h c).congr (fun _ => or_comm) (fun _ _ => rfl)
theorem Bst.same {S T : Cmp → Prop} {f : Cmp → Int} {b n b' n' : Int} (h : Bst S f b n) (k : Bst T f b' n') (c : b' = b) (d : ∀ x, S x → ¬ T x) : Bst (fun x => S x ∨ T x) f b (n + n') := by
  subst c
  obtain ⟨⟨x, x1, x2⟩, h2, q, hq, h3⟩ := h
  obtain ⟨⟨y, y1, y2⟩, k2, r, hr, k3⟩ := k
  refine ⟨⟨y, .inr y1, y2⟩, fun z hz => hz.elim (h2 z) (k2 z), q + r, by omega, (h3.union k3 (fun z u v => d z u.1 v.1)).congr (fun z => ?_)⟩
  constructor
  · rintro (u | u)
    · exact ⟨.inl u.1, u.2⟩
    · exact ⟨.inr u.1, u.2⟩
  · rintro ⟨u | u, v⟩
    · exact .inl ⟨u, v⟩
    · exact .inr ⟨u, v⟩
theorem Bst.map {T : Cmp → Prop} {f g : Cmp → Int} {b n : Int} (h : Bst T g b n) {k : Cmp → Cmp} (hk : ∀ x y, k x = k y → x = y) (s : Int) (e : ∀ x, T x → f (k x) = g x + s) : Bst (fun y => ∃ x, T x ∧ y = k x) f (b + s) n := by
  obtain ⟨⟨x, x1, x2⟩, h2, q, hq, h3⟩ := h
  refine ⟨⟨k x, ⟨x, x1, rfl⟩, by rw [e x x1, x2]⟩, ?_, q, hq, (h3.map hk).congr (fun z => ?_)⟩
  · rintro z ⟨y, hy, rfl⟩
    have := h2 y hy
    rw [e y hy]; omega
  · constructor
    · rintro ⟨y, ⟨u, v⟩, rfl⟩; exact ⟨⟨y, u, rfl⟩, by rw [e y u, v]⟩
    · rintro ⟨⟨y, u, rfl⟩, v⟩; rw [e y u] at v; exact ⟨y, ⟨u, by omega⟩, rfl⟩
/-- Pairs that go up, from two places on, below two others. -/
def Up (L M i j : Nat) (x : Cmp) : Prop := (∀ p ∈ x, i ≤ p.1 ∧ j ≤ p.2 ∧ p.1 < L ∧ p.2 < M) ∧ x.Pairwise (fun p q => p.1 < q.1 ∧ p.2 < q.2)
/-- The same from the last pair on. -/
def Dn (i k : Nat) (x : Cmp) : Prop := (∀ p ∈ x, p.1 < i ∧ p.2 < k) ∧ x.Pairwise (fun p q => q.1 < p.1 ∧ q.2 < p.2)
theorem up_nil {L M i j : Nat} : Up L M i j [] := ⟨by simp, by simp⟩
theorem dn_nil {i k : Nat} : Dn i k [] := ⟨by simp, by simp⟩
theorem up_cons {L M i j a b : Nat} {t : Cmp} : Up L M i j ((a, b) :: t) ↔ (i ≤ a ∧ a < L) ∧ (j ≤ b ∧ b < M) ∧ Up L M (a + 1) (b + 1) t := by
  unfold Up
  rw [List.pairwise_cons]
  constructor
  · rintro ⟨h1, h2, h3⟩
    have := h1 (a, b) (by simp)
    simp only at this
    exact ⟨⟨this.1, this.2.2.1⟩, ⟨this.2.1, this.2.2.2⟩, fun p hp => by have := h1 p (by simp [hp]); have := h2 p hp; omega, h3⟩
  · rintro ⟨h1, h2, h3, h4⟩
    refine ⟨fun p hp => ?_, fun p hp => by have := h3 p hp; simp only; omega, h4⟩
    rcases List.mem_cons.1 hp with e | e
    · subst e; simp only; omega
    · have := h3 p e; omega
theorem dn_cons {i k a b : Nat} {t : Cmp} : Dn i k ((a, b) :: t) ↔ a < i ∧ b < k ∧ Dn a b t := by
  unfold Dn
  rw [List.pairwise_cons]
  constructor
  · rintro ⟨h1, h2, h3⟩
    have := h1 (a, b) (by simp)
    exact ⟨this.1, this.2, fun p hp => h2 p hp, h3⟩
  · rintro ⟨h1, h2, h3, h4⟩
    refine ⟨fun p hp => ?_, fun p hp => h3 p hp, h4⟩
    rcases List.mem_cons.1 hp with e | e
    · subst e; exact ⟨h1, h2⟩
    · have := h3 p e; omega
theorem dn_rev {L M : Nat} {x : Cmp} : Dn L M x.reverse ↔ Up L M 0 0 x := by
  unfold Dn Up
  rw [List.pairwise_reverse]
  simp only [List.mem_reverse]
  exact ⟨fun h => ⟨fun p hp => by have := h.1 p hp; omega, h.2⟩, fun h => ⟨fun p hp => by have := h.1 p hp; omega, h.2⟩⟩
/-- All of them, by how many places of the first log are left. -/
def every (L M : Nat) : Nat → List Cmp
  | 0 => [[]]
  | d + 1 => every L M d ++ (List.range M).flatMap (fun b => (every L M d).map (fun t => (L - (d + 1), b) :: t))
theorem len_flat {α β : Type} (n : Nat) (f : α → List β) : ∀ l : List α, (∀ x ∈ l, (f x).length = n) → (l.flatMap f).length = l.length * n
  | [], _ => by simp
  | a :: l, h => by rw [List.flatMap_cons, List.length_append, h a (by simp), len_flat n f l (fun x hx => h x (by simp [hx])), List.length_cons, Nat.add_mul]; omega
theorem every_len (L M : Nat) : ∀ d, (every L M d).length = (M + 1) ^ d
  | 0 => rfl
  | d + 1 => by
    rw [every, List.length_append, len_flat _ _ _ (fun x _ => List.length_map ..), every_len L M d, List.length_range, Nat.pow_succ, Nat.mul_add, Nat.mul_comm M]; omega
theorem every_mem {L M : Nat} : ∀ {d j : Nat} {x : Cmp}, d ≤ L → Up L M (L - d) j x → x ∈ every L M d
  | 0, j, [], _, _ => by simp [every]
  | 0, j, (a, b) :: t, hd, h => by have := up_cons.1 h; omega
  | d + 1, j, x, hd, h => by
    rw [every, List.mem_append]
    cases x with
    | nil => exact .inl (every_mem (j := j) (by omega) up_nil)
    | cons p t =>
      obtain ⟨a, b⟩ := p
      by_cases e : a = L - (d + 1)
      · right
        have k := up_cons.1 h
        refine List.mem_flatMap.2 ⟨b, List.mem_range.2 k.2.1.2, List.mem_map.2 ⟨t, every_mem (j := b + 1) (by omega) ?_, by rw [e]⟩⟩
        rw [show L - d = a + 1 by omega]; exact k.2.2
      · left
        have k := up_cons.1 h
        exact every_mem (j := j) (by omega) (up_cons.2 ⟨⟨by omega, k.1.2⟩, k.2⟩)
theorem up_few {L M i j : Nat} {S : Cmp → Prop} {f : Cmp → Int} {b n : Int} (hL : L ≤ 10) (hM : M ≤ 10) (h : Bst S f b n) (hS : ∀ x, S x → Up L M i j x) : n ≤ 25937424601 := by
  obtain ⟨_, _, q, hq, X, x1, x2, x3⟩ := h
  have := nodup_le' x1 (M := every L M L) (fun x hx => every_mem (j := 0) (Nat.le_refl _) (by
    obtain ⟨u, v⟩ := hS x ((x2 x).1 hx).1
    exact ⟨fun p hp => by have := u p hp; omega, v⟩))
  rw [every_len] at this
  have h2 : (M + 1) ^ L ≤ 11 ^ L := Nat.pow_le_pow_left (by omega) _
  have h3 : 11 ^ L ≤ 11 ^ 10 := Nat.pow_le_pow_right (by omega) hL
  have h4 : (11 : Nat) ^ 10 = 25937424601 := by decide
  omega
theorem dn_few {i k : Nat} {S : Cmp → Prop} {f : Cmp → Int} {b n : Int} (hL : i ≤ 10) (hM : k ≤ 10) (h : Bst S f b n) (hS : ∀ x, S x → Dn i k x) : n ≤ 25937424601 := by
  have h' := h.map (k := List.reverse) (f := fun x => f x.reverse) (fun x y e => List.reverse_inj.1 e) 0 (fun x _ => by rw [List.reverse_reverse]; omega)
  refine up_few (i := 0) (j := 0) hL hM h' ?_
  rintro y ⟨x, hx, rfl⟩
  have := hS x hx
  rw [← List.reverse_reverse x] at this
  exact dn_rev.1 this
/-- What the pairs cost. -/
def Sc (g : Nat → Nat → Int) : Cmp → Int
  | [] => 0
  | p :: t => g p.1 p.2 + Sc g t
theorem sc_append (g : Nat → Nat → Int) : ∀ x y : Cmp, Sc g (x ++ y) = Sc g x + Sc g y
  | [], y => by simp [Sc]
  | p :: x, y => by rw [List.cons_append, Sc, Sc, sc_append g x y]; omega
theorem sc_rev (g : Nat → Nat → Int) : ∀ x : Cmp, Sc g x.reverse = Sc g x
  | [] => rfl
  | p :: x => by rw [List.reverse_cons, sc_append, sc_rev g x, Sc, Sc, Sc]; omega
/-- Cost of a comparison of the ends, and of the beginnings. -/
def uc (o i : Int) (g : Nat → Nat → Int) (u v : Int) (x : Cmp) : Int := o * (u - x.length) + i * (v - x.length) + Sc g x
theorem uc_cons (o i : Int) (g : Nat → Nat → Int) (u v p q : Int) (a b : Nat) (t : Cmp) : uc o i g (u + 1 + p) (v + 1 + q) ((a, b) :: t) = uc o i g u v t + (o * p + i * q + g a b) := by
  simp only [uc, Sc]
  rw [List.length_cons, show u + 1 + p - ((t.length + 1 : Nat) : Int) = (u - t.length) + p by omega, show v + 1 + q - ((t.length + 1 : Nat) : Int) = (v - t.length) + q by omega, Int.mul_add, Int.mul_add]
  omega
/-! Those that begin with a pair before a place, in the order of the program's two loops. -/
def Hd (a b : Nat) (x : Cmp) : Prop := x = [] ∨ ∃ a' b' t, x = (a', b') :: t ∧ (a' < a ∨ a' = a ∧ b' < b)
def Sx (S : Cmp → Prop) (a b : Nat) (x : Cmp) : Prop := S x ∧ Hd a b x
/-- Which pairs can be first, and what can stand behind them. -/
structure Fst (S : Cmp → Prop) (T : Nat → Nat → Cmp → Prop) (i A j B : Nat) : Prop where
  nil : S []
  cons : ∀ a b t, S ((a, b) :: t) ↔ (i ≤ a ∧ a < A) ∧ (j ≤ b ∧ b < B) ∧ T a b t
section
variable {S : Cmp → Prop} {T : Nat → Nat → Cmp → Prop} {i A j B : Nat}
theorem Fst.start (h : Fst S T i A j B) (x : Cmp) : Sx S i j x ↔ x = [] := by
  constructor
  · rintro ⟨hs, rfl | ⟨a, b, t, rfl, hc⟩⟩
    · rfl
    · have := (h.cons a b t).1 hs; omega
  · rintro rfl; exact ⟨h.nil, .inl rfl⟩
theorem Fst.next (h : Fst S T i A j B) {a b : Nat} (ha : i ≤ a ∧ a < A) (hb : j ≤ b ∧ b < B) (x : Cmp) : (Sx S a b x ∨ ∃ t, T a b t ∧ x = (a, b) :: t) ↔ Sx S a (b + 1) x := by
  constructor
  · rintro (⟨hs, rfl | ⟨a', b', t, rfl, hc⟩⟩ | ⟨t, ht, rfl⟩)
    · exact ⟨hs, .inl rfl⟩
    · exact ⟨hs, .inr ⟨a', b', t, rfl, by omega⟩⟩
    · exact ⟨(h.cons a b t).2 ⟨ha, hb, ht⟩, .inr ⟨a, b, t, rfl, by omega⟩⟩
  · rintro ⟨hs, rfl | ⟨a', b', t, rfl, hc⟩⟩
    · exact .inl ⟨hs, .inl rfl⟩
    · by_cases e : a' = a ∧ b' = b
      · obtain ⟨rfl, rfl⟩ := e
        exact .inr ⟨t, ((h.cons a' b' t).1 hs).2.2, rfl⟩
      · exact .inl ⟨hs, .inr ⟨a', b', t, rfl, by omega⟩⟩
theorem Fst.row (h : Fst S T i A j B) {a : Nat} (x : Cmp) : Sx S a B x ↔ Sx S (a + 1) j x := by
  constructor
  · rintro ⟨hs, rfl | ⟨a', b', t, rfl, hc⟩⟩
    · exact ⟨hs, .inl rfl⟩
    · exact ⟨hs, .inr ⟨a', b', t, rfl, by omega⟩⟩
  · rintro ⟨hs, rfl | ⟨a', b', t, rfl, hc⟩⟩
    · exact ⟨hs, .inl rfl⟩
    · have := (h.cons a' b' t).1 hs
      exact ⟨hs, .inr ⟨a', b', t, rfl, by omega⟩⟩
theorem Fst.full (h : Fst S T i A j B) (x : Cmp) : Sx S A j x ↔ S x := by
  constructor
  · rintro ⟨hs, _⟩; exact hs
  · intro hs
    cases x with
    | nil => exact ⟨hs, .inl rfl⟩
    | cons p t =>
      obtain ⟨a, b⟩ := p
      have := (h.cons a b t).1 hs
      exact ⟨hs, .inr ⟨a, b, t, rfl, by omega⟩⟩
theorem Fst.step (h : Fst S T i A j B) {a b : Nat} (ha : i ≤ a ∧ a < A) (hb : j ≤ b ∧ b < B) {f g : Cmp → Int} {u n e n' s x : Int} (h1 : Bst (Sx S a b) f u n) (h2 : Bst (T a b) g e n') (hf : ∀ t, T a b t → f ((a, b) :: t) = g t + s) (hx : x = e + s) :
    (x < u → Bst (Sx S a (b + 1)) f x n') ∧ (x = u → Bst (Sx S a (b + 1)) f u (n + n')) ∧ (u < x → Bst (Sx S a (b + 1)) f u n) := by
  subst hx
  have h3 := h2.map (k := fun t => (a, b) :: t) (f := f) (fun x y e => by injection e) s hf
  have hd : ∀ x, Sx S a b x → ¬ ∃ t, T a b t ∧ x = (a, b) :: t := by
    rintro x ⟨hs, hc⟩ ⟨t, ht, rfl⟩
    rcases hc with hc | ⟨a', b', t', hc, hl⟩
    · cases hc
    · cases hc; omega
  exact ⟨fun c => (h1.less h3 c).congr (h.next ha hb) (fun _ _ => rfl), fun c => (h1.same h3 c hd).congr (h.next ha hb) (fun _ _ => rfl), fun c => (h1.more h3 c).congr (h.next ha hb) (fun _ _ => rfl)⟩
end
theorem fst_up {L M i j : Nat} : Fst (Up L M i j) (fun a b => Up L M (a + 1) (b + 1)) i L j M := ⟨up_nil, fun a b t => up_cons⟩
theorem fst_dn {a k : Nat} : Fst (Dn a k) Dn 0 a 0 k := ⟨dn_nil, fun x y t => by rw [dn_cons]; exact ⟨fun h => ⟨⟨by omega, h.1⟩, ⟨by omega, h.2.1⟩, h.2.2⟩, fun h => ⟨h.1.2, h.2.1.2, h.2.2⟩⟩⟩
/-- By the first pair or by the last pair: the same. -/
theorem bst_rev {L M : Nat} {o i : Int} {g : Nat → Nat → Int} {b n : Int} (h : Bst (Up L M 0 0) (uc o i g L M) b n) : Bst (Dn L M) (uc o i g L M) b n := by
  have h' := h.map (k := List.reverse) (f := uc o i g L M) (fun x y e => List.reverse_inj.1 e) 0 (fun x _ => by unfold uc; rw [List.length_reverse, sc_rev]; omega)
  rw [show b + 0 = b by omega] at h'
  refine h'.congr (fun y => ?_) (fun _ _ => rfl)
  constructor
  · rintro ⟨x, hx, rfl⟩; exact dn_rev.2 hx
  · intro hy; exact ⟨y.reverse, dn_rev.1 (by rwa [List.reverse_reverse]), by rw [List.reverse_reverse]⟩
theorem uc_nil (o i : Int) (g : Nat → Nat → Int) (u v : Int) : uc o i g u v [] = o * u + i * v := by simp [uc, Sc]
end Go.Proofs.Ytcbepmdnhjojdaa.Cn
