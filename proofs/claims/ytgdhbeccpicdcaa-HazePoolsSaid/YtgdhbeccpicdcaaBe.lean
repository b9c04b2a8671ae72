/- The best row: what the program and the reference return is the same, hour by hour. -/
import Derived.Test.YtgdhbeccpicdcaaBl
set_option linter.unusedVariables false
namespace Go.Proofs.Ytgdhbeccpicdcaa.Be
open Go.RowKit Go.Proofs.Ytgdhbeccpicdcaa.P Go.Proofs.Ytgdhbeccpicdcaa.E Go.Proofs.Ytgdhbeccpicdcaa.Fr Go.Proofs.Ytgdhbeccpicdcaa.Sd Go.Proofs.Ytgdhbeccpicdcaa.Bl Go.Proofs.Ytgdhbeccpicdcaa.Va Go.Proofs.YtgdhbeccpicdcaaW.PrintMore
open Go.Proofs.YtgdhbeccpicdcaaW.PrintWords

def rat (x : Int × Int) : S33 := ⟨x.1, x.2⟩
theorem rd33 {l : List S33} {i : Nat} (hi : i < l.length) : rd_T33 l (i : Int) = l[i] := by
  unfold rd_T33
  rw [Int.toNat_natCast, List.getD_eq_getElem?_getD, List.getElem?_eq_getElem hi]; rfl
theorem rd75 {l : List S75} {i : Nat} (hi : i < l.length) : rd_T75 l (i : Int) = l[i] := by
  unfold rd_T75
  rw [Int.toNat_natCast, List.getD_eq_getElem?_getD, List.getElem?_eq_getElem hi]; rfl
/-- A row is the best one: at each hour a line touches the diagram, and the row has its slope. -/
def IsBest (h : List S31) (l : List S33) : Prop :=
  l.length = h.length ∧ ∀ i, (hi : i < l.length) → ∃ a b, a ≤ i ∧ i < b ∧ b ≤ h.length ∧ Sad (sv h) (sw h) h.length i (sv h b - sv h a) (sw h b - sw h a) ∧ l[i] = rat (M h a b)
theorem IsBest.unique {h : List S31} (ok : Ok h) {l l' : List S33} (k : IsBest h l) (k' : IsBest h l') : l = l' := by
  refine List.ext_getElem (k.1.trans k'.1.symm) (fun i h1 h2 => ?_)
  obtain ⟨a, b, ha, hb, hb2, hs, e⟩ := k.2 i h1
  obtain ⟨a', b', ha', hb', hb2', hs', e'⟩ := k'.2 i h2
  have s := ok.small (show a < b by omega) hb2
  have s' := ok.small (show a' < b' by omega) hb2'
  rw [e, e']
  congr 1
  exact Rt_eq s.1 s'.1 (hs.unique hs' s.1 s'.1 ok.up)

/-- The row that blocks tell. -/
def row (h : List S31) (l : List (Nat × Nat)) : List S33 := l.flatMap (fun b => List.replicate (b.2 - b.1) (rat (M h b.1 b.2)))
theorem row_length {h : List S31} {l : List (Nat × Nat)} {e : Nat} (hc : Ch (sv h) (sw h) l e) : (row h l).length = e := by
  induction hc with
  | nil => rfl
  | snoc hc hb hf ih =>
    have := hb.1
    simp only [row, List.flatMap_append, List.length_append, List.flatMap_cons, List.flatMap_nil, List.append_nil, List.length_replicate] at ih ⊢
    omega
theorem row_get {h : List S31} {l : List (Nat × Nat)} {e : Nat} (hc : Ch (sv h) (sw h) l e) : ∀ i, i < e → ∃ b ∈ l, b.1 ≤ i ∧ i < b.2 ∧ (row h l)[i]? = some (rat (M h b.1 b.2)) := by
  induction hc with
  | nil => intro i hi; omega
  | @snoc l a e hc hb hf ih =>
    intro i hi
    have hlen := row_length hc
    have e1 : row h (l ++ [(a, e)]) = row h l ++ List.replicate (e - a) (rat (M h a e)) := by simp [row]
    rw [e1]
    rcases Nat.lt_or_ge i a with h1 | h1
    · obtain ⟨b, hb1, hb2, hb3, hb4⟩ := ih i h1
      refine ⟨b, by simp [hb1], hb2, hb3, ?_⟩
      rw [List.getElem?_append_left (by omega)]
      exact hb4
    · refine ⟨(a, e), by simp, h1, hi, ?_⟩
      rw [List.getElem?_append_right (by omega), List.getElem?_replicate, if_pos (by omega)]
theorem Ch.row_best {h : List S31} (ok : Ok h) {l : List (Nat × Nat)} (hc : Ch (sv h) (sw h) l h.length) : IsBest h (row h l) := by
  refine ⟨row_length hc, fun i hi => ?_⟩
  obtain ⟨b, hb, h1, h2, h3⟩ := row_get hc i (by rw [row_length hc] at hi; exact hi)
  have hin := hc.in b hb
  refine ⟨b.1, b.2, h1, h2, hin.2, hc.sad ok.up (Nat.le_refl _) b hb i h1 h2, ?_⟩
  rw [List.getElem?_eq_getElem hi] at h3
  exact Option.some.inj h3

theorem Ch.len {sv sw : Nat → Int} {l : List (Nat × Nat)} {e : Nat} (hc : Ch sv sw l e) : l.length ≤ e := by
  induction hc with
  | nil => simp
  | snoc _ hb _ ih => have := hb.1; simp; omega
end Go.Proofs.Ytgdhbeccpicdcaa.Be
