/- Words for rows: an argument's reading, laid open as a kind's own (K), whatever its type's depth. -/
import Derived.Test.YtboefcikdfjfmaaWWords
import Derived.Deep.Slices
import Derived.ChangeSame
import Derived.ChangeArms
set_option linter.unusedVariables false
namespace Go.Proofs.YtboefcikdfjfmaaW.PrintOpen
open Go.RowKit Go.Proofs.YtboefcikdfjfmaaW.PrintWords Go.ChangeShapes Go.WideShapes Go.Deep

/-- Whatever reads as a value of type t is one of the kind d, and of it 'ok' holds. -/
def Opens {α : Type} (P : Program) (t : TypeId) (d : Kd α) (ok : α → Prop) : Prop :=
  ∀ (H : Type) (enc : TypeId × Value → H) (w : World) (base : Nat) (spare : Nat → Bool) (held : Bool) (fuel : Nat) (cs : List Value) (x : DataW H × List MemPlace),
    DataW.trod enc P w base spare held fuel t cs = some x → ∃ a : α, d.K w a cs ∧ ok a

theorem Opens.int {P : Program} {t : TypeId} {k : IntKind} (ht : P.underlying t = some (.int k)) : Opens P t (Kd.int k) (fun n => (Lit.int k n).wf = true) := by
  intro H enc w base spare held fuel cs x h
  cases fuel with
  | zero => simp [DataW.trod] at h
  | succ n =>
    unfold DataW.trod at h
    rw [ht] at h
    split at h <;> simp_all
    obtain ⟨⟨rfl, hw⟩, _⟩ := h
    exact ⟨_, rfl, hw⟩
theorem Opens.slice {α : Type} {P : Program} {t e : TypeId} {d : Kd α} {ok : α → Prop} (ht : P.underlying t = some (.slice e)) (hc : P.cellsOf e = d.sz) (he : Opens P e d ok) :
    Opens P t (Kd.slice e d) (fun xs => (∀ x ∈ xs, ok x) ∧ xs.length ≤ maxLen) := by
  intro H enc w base spare held fuel cs x h
  rcases open_slice ht h with ⟨rfl, rfl⟩ | ⟨a, len, cap, m, n, D, Pl, rfl, hb, hl, hm, hmm, rfl, hx⟩
  · exact ⟨[], ⟨none, 0, rfl, Nat.le_refl _, rfl, by simp, fun h0 => absurd h0 (by simp)⟩, by simp, by simp⟩
  · have hlm : len ≤ m := by rw [hmm]; split <;> omega
    have key : ∀ j, j ≤ len → ∃ xs : List α, xs.length = j ∧ (∀ x ∈ xs, ok x) ∧ ∀ i p, xs[i]? = some p → ∃ c, c.length = d.sz ∧ d.K w p c ∧ ∀ q u, c[q]? = some u → w.cell? (a.add (i * d.sz + q)) = some u := by
      intro j
      induction j with
      | zero => exact fun _ => ⟨[], rfl, by simp, fun i p hp => by simp at hp⟩
      | succ j ih =>
        intro hj
        obtain ⟨xs, h1, h2, h3⟩ := ih (by omega)
        obtain ⟨cs', hcs, htr⟩ := hx j (by omega)
        obtain ⟨p, hK, hok⟩ := he H enc w base spare held n cs' _ htr
        obtain ⟨_, hcl, hat⟩ := World.cells?_some hcs
        rw [hc] at hcl hat
        refine ⟨xs ++ [p], by simp [h1], ?_, ?_⟩
        · intro x hx'
          rcases List.mem_append.1 hx' with hx' | hx'
          · exact h2 x hx'
          · rw [List.mem_singleton.1 hx']; exact hok
        · intro i q hq
          rcases Nat.lt_or_ge i xs.length with hi | hi
          · rw [List.getElem?_append_left hi] at hq
            exact h3 i q hq
          · rw [List.getElem?_append_right hi] at hq
            have h4 := (List.getElem?_eq_some_iff.1 hq).1
            simp at h4
            obtain rfl : i = xs.length := by omega
            simp at hq
            subst hq
            refine ⟨cs', hcl, hK, fun r u hu => ?_⟩
            have hr : r < d.sz := by have := (List.getElem?_eq_some_iff.1 hu).1; omega
            have := hat r hr
            rw [Go.Deep.add_add] at this
            rw [h1, this]
            exact hu
    obtain ⟨xs, h1, h2, h3⟩ := key len (Nat.le_refl _)
    have hmx : maxLen ≤ 9223372036854775807 := by decide
    refine ⟨xs, ⟨some a, cap, by rw [h1], by omega, rfl, by omega, fun _ => ⟨a, rfl, h3⟩⟩, h2, by omega⟩
theorem Opens.pair {α β : Type} {P : Program} {t : TypeId} {f0 f1 : Field} {d0 : Kd α} {d1 : Kd β} {ok0 : α → Prop} {ok1 : β → Prop} (ht : P.underlying t = some (.struct #[f0, f1])) (hc : P.cellsOf t = d0.sz + d1.sz)
    (o0 : f0.offset = 0) (o1 : f1.offset = d0.sz) (c0 : P.cellsOf f0.type = d0.sz) (c1 : P.cellsOf f1.type = d1.sz) (h0 : Opens P f0.type d0 ok0) (h1 : Opens P f1.type d1 ok1) :
    Opens P t (Kd.pair d0 d1) (fun x => ok0 x.1 ∧ ok1 x.2) := by
  intro H enc w base spare held fuel cs x h
  obtain ⟨xs, n, _, rfl, hl, hlen, hf⟩ := DataW.trod_struct ht h
  match xs, hlen with
  | [y0, y1], _ =>
    have e0 := hf 0 f0 rfl
    have e1 := hf 1 f1 rfl
    obtain ⟨a0, k0, p0⟩ := h0 H enc w base spare held n _ _ (e0.trans rfl)
    obtain ⟨a1, k1, p1⟩ := h1 H enc w base spare held n _ _ (e1.trans rfl)
    refine ⟨(a0, a1), ⟨_, _, ?_, k0, k1⟩, p0, p1⟩
    rw [o0, o1, c0, c1, List.drop_zero]
    rw [List.take_of_length_le (l := cs.drop d0.sz) (by rw [List.length_drop]; omega), List.take_append_drop]
theorem Opens.iso {α β : Type} {P : Program} {t : TypeId} {d : Kd α} {ok : α → Prop} (h : Opens P t d ok) (f : β → α) (g : α → β) (hfg : ∀ a, f (g a) = a) : Opens P t (Kd.iso d f) (fun b => ok (f b)) := by
  intro H enc w base spare held fuel cs x hx
  obtain ⟨a, hK, hok⟩ := h H enc w base spare held fuel cs x hx
  refine ⟨g a, ?_, by show ok (f (g a)); rw [hfg]; exact hok⟩
  show d.K w (f (g a)) cs
  rw [hfg]
  exact hK
theorem Opens.imp {α : Type} {P : Program} {t : TypeId} {d : Kd α} {ok ok' : α → Prop} (h : Opens P t d ok) (hi : ∀ a, ok a → ok' a) : Opens P t d ok' := by
  intro H enc w base spare held fuel cs x hx
  obtain ⟨a, hK, hok⟩ := h H enc w base spare held fuel cs x hx
  exact ⟨a, hK, hi a hok⟩
/-- The rest of a struct's fields, one by one: fs are the fields from place j on, the cells those behind 'off'. -/
def OpensFs {α : Type} (P : Program) (fs : List Field) (off : Nat) (d : Kd α) (ok : α → Prop) : Prop :=
  ∀ (H : Type) (enc : TypeId × Value → H) (w : World) (base : Nat) (spare : Nat → Bool) (held : Bool) (fuel : Nat) (cs : List Value) (xs : List (DataW H × List MemPlace)),
    cs.length = off + d.sz → (∀ (i : Nat) (f : Field), fs[i]? = some f → DataW.trod enc P w base spare held fuel f.type ((cs.drop f.offset).take (P.cellsOf f.type)) = xs[i]?) → xs.length = fs.length → ∃ a : α, d.K w a (cs.drop off) ∧ ok a
theorem OpensFs.one {α : Type} {P : Program} {f : Field} {off : Nat} {d : Kd α} {ok : α → Prop} (o : f.offset = off) (c : P.cellsOf f.type = d.sz) (h : Opens P f.type d ok) : OpensFs P [f] off d ok := by
  intro H enc w base spare held fuel cs xs hl hf hx
  match xs, hx with
  | [y], _ =>
    have e0 := hf 0 f rfl
    rw [o, c, List.take_of_length_le (l := cs.drop off) (by rw [List.length_drop]; omega)] at e0
    exact h H enc w base spare held fuel _ _ e0
theorem OpensFs.cons {α β : Type} {P : Program} {f : Field} {fs : List Field} {off : Nat} {d : Kd α} {d1 : Kd β} {ok : α → Prop} {ok1 : β → Prop} (o : f.offset = off) (c : P.cellsOf f.type = d.sz) (h : Opens P f.type d ok) (hr : OpensFs P fs (off + d.sz) d1 ok1) :
    OpensFs P (f :: fs) off (Kd.pair d d1) (fun x => ok x.1 ∧ ok1 x.2) := by
  intro H enc w base spare held fuel cs xs hl hf hx
  match xs, hx with
  | y :: ys, hx =>
    have e0 := hf 0 f rfl
    rw [o, c] at e0
    obtain ⟨a0, k0, p0⟩ := h H enc w base spare held fuel _ _ e0
    have hl' : cs.length = off + (d.sz + d1.sz) := hl
    obtain ⟨a1, k1, p1⟩ := hr H enc w base spare held fuel cs ys (by omega) (fun i g hg => hf (i + 1) g hg) (by simpa using hx)
    refine ⟨(a0, a1), ⟨_, _, ?_, k0, k1⟩, p0, p1⟩
    rw [← List.drop_drop, List.take_append_drop]
theorem Opens.struct {α : Type} {P : Program} {t : TypeId} {fs : Array Field} {d : Kd α} {ok : α → Prop} (ht : P.underlying t = some (.struct fs)) (hc : P.cellsOf t = d.sz) (h : OpensFs P fs.toList 0 d ok) : Opens P t d ok := by
  intro H enc w base spare held fuel cs x hx
  obtain ⟨xs, n, _, rfl, hl, hlen, hf⟩ := DataW.trod_struct ht hx
  obtain ⟨a, hK, hok⟩ := h H enc w base spare held n cs xs (by omega) (fun i f hi => hf i f (by simpa using hi)) (by simpa using hlen)
  exact ⟨a, by simpa using hK, hok⟩
/-- An argument that is a slice. -/
theorem Opens.arg_slice {α : Type} {P : Program} {t e : TypeId} {d : Kd α} {ok : List α → Prop} (h : Opens P t (Kd.slice e d) ok) {H : Type} {enc : TypeId × Value → H} {w : World} {base : Nat} {spare : Nat → Bool} {held : Bool} {A : Option Addr} {n c : Nat} {x : DataW H} {p : List MemPlace}
    (hx : DataW.Trod enc P w base spare held t (.slice A n c) x p) : ∃ xs : List α, n = xs.length ∧ xs.length ≤ c ∧ d.C w A xs.length xs ∧ ok xs := by
  obtain ⟨fuel, hf⟩ := hx
  obtain ⟨xs, ⟨A', c', he, hl, hC⟩, hok⟩ := h H enc w base spare held fuel _ _ hf
  simp [Value.cells] at he
  obtain ⟨rfl, rfl, rfl⟩ := he
  exact ⟨xs, rfl, hl, hC, hok⟩
/-- An argument that is a struct. -/
theorem Opens.arg_struct {α : Type} {P : Program} {t : TypeId} {d : Kd α} {ok : α → Prop} (h : Opens P t d ok) {H : Type} {enc : TypeId × Value → H} {w : World} {base : Nat} {spare : Nat → Bool} {held : Bool} {cs : Array Value} {x : DataW H} {p : List MemPlace}
    (hx : DataW.Trod enc P w base spare held t (.agg cs) x p) : ∃ (a : α) (l : List Value), cs = l.toArray ∧ d.K w a l ∧ ok a := by
  obtain ⟨fuel, hf⟩ := hx
  obtain ⟨a, hK, hok⟩ := h H enc w base spare held fuel _ _ hf
  exact ⟨a, cs.toList, by simp, hK, hok⟩
end Go.Proofs.YtboefcikdfjfmaaW.PrintOpen
