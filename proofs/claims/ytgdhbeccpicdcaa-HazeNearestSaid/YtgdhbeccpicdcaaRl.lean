/- The blocks of the best row: the program's and the document's are the same. -/
import Derived.Test.YtgdhbeccpicdcaaRb
import Derived.Test.YtgdhbeccpicdcaaBl
import Derived.Test.YtgdhbeccpicdcaaPx26
set_option linter.unusedVariables false
namespace Go.Proofs.Ytgdhbeccpicdcaa.Rl
open Go.RowKit Go.Proofs.Ytgdhbeccpicdcaa.P Go.Proofs.Ytgdhbeccpicdcaa.E Go.Proofs.Ytgdhbeccpicdcaa.Fr Go.Proofs.Ytgdhbeccpicdcaa.Sd Go.Proofs.Ytgdhbeccpicdcaa.Bl Go.Proofs.Ytgdhbeccpicdcaa.Va Go.Proofs.Ytgdhbeccpicdcaa.Be Go.Proofs.YtgdhbeccpicdcaaW.PrintMore
open Go.Proofs.YtgdhbeccpicdcaaW.PrintWords
theorem row_at {h : List S31} {l : List (Nat × Nat)} {e : Nat} (hc : Ch (sv h) (sw h) l e) : ∀ b ∈ l, ∀ i, b.1 ≤ i → i < b.2 → (row h l)[i]? = some (rat (M h b.1 b.2)) := by
  induction hc with
  | nil => intro b hb; simp at hb
  | @snoc l a e hc hb hf ih =>
    intro b hb' i h1 h2
    have hlen := row_length hc
    have e1 : row h (l ++ [(a, e)]) = row h l ++ List.replicate (e - a) (rat (M h a e)) := by simp [row]
    rw [e1]
    rcases List.mem_append.1 hb' with h3 | h3
    · have := hc.in b h3
      rw [List.getElem?_append_left (by omega)]
      exact ih b h3 i h1 h2
    · rw [List.mem_singleton.1 h3] at h1 h2 ⊢
      simp only at h1 h2 ⊢
      rw [List.getElem?_append_right (by omega), List.getElem?_replicate, if_pos (by omega)]
/-- A block, as both programs return it. -/
def b59 (h : List S31) (b : Nat × Nat) : S59 := ⟨(b.1 : Int), (b.2 : Int) - 1, rat (M h b.1 b.2)⟩
def mid (h : List S31) (a e j : Nat) : S59 := ⟨(a : Int), (j : Int) - 1, rat (M h a e)⟩
theorem rd59 {l : List S59} {i : Nat} (hi : i < l.length) : rd_T59 l (i : Int) = l[i] := by
  unfold rd_T59
  rw [Int.toNat_natCast, List.getD_eq_getElem?_getD, List.getElem?_eq_getElem hi]; rfl
theorem rd59_last (acc : List S59) (x : S59) : rd_T59 (acc ++ [x]) (acc.length : Int) = x := by
  rw [rd59 (by simp)]
  simp
theorem rd33' {l : List S33} {i : Nat} {x : S33} (h : l[i]? = some x) : rd_T33 l (i : Int) = x := by
  unfold rd_T33
  rw [Int.toNat_natCast, List.getD_eq_getElem?_getD, h]; rfl
theorem rb_in {h : List S31} {R : List S33} {acc : List S59} {a e : Nat} (hR : ∀ i, a ≤ i → i < e → R[i]? = some (rat (M h a e))) (he : e ≤ R.length) (hl : R.length ≤ 1000) (hacc : acc.length ≤ 1000) {r : List S59 × Int}
    (H : Tl (fun k => diaphoneref02_Blocks.l0 k R (acc ++ [mid h a e e]) (e : Int)) r) (d : Nat) : ∀ j : Nat, a < j → j ≤ e → e - j = d → Tl (fun k => diaphoneref02_Blocks.l0 k R (acc ++ [mid h a e j]) (j : Int)) r := by
  induction d with
  | zero =>
    intro j h1 h2 h3
    obtain rfl : j = e := by omega
    exact H
  | succ d ih =>
    intro j h1 h2 h3
    have next := ih (j + 1) (by omega) (by omega) (by omega)
    rw [show ((j + 1 : Nat) : Int) = (j : Int) + 1 by omega] at next
    have ew : wrap64 (((acc ++ [mid h a e j]).length : Int) - 1) = (acc.length : Int) := by
      rw [w64 (by simp <;> omega) (by simp <;> omega)]; simp
    refine Tl.succ ?_
    simp only [diaphoneref02_Blocks.l0]
    rw [ew, rd59_last, rd33' (hR j (by omega) (by omega)), w64 (x := (j : Int) + 1) (by omega) (by omega), Int.toNat_natCast]
    have es : (acc ++ [mid h a e j]).set acc.length (⟨(mid h a e j).f0, (j : Int), ⟨(mid h a e j).f2.f0, (mid h a e j).f2.f1⟩⟩ : S59) = acc ++ [mid h a e (j + 1)] := by
      rw [List.set_append_right _ _ (Nat.le_refl _)]
      simp [mid]
    rw [es]
    exact Tl.pos (by omega) (Tl.pos (by simp <;> omega) (Tl.pos (by omega) (Tl.pos (by simp <;> omega) (Tl.pos (by omega) (Tl.pos (by simp [mid]) next)))))
theorem rb_ch {h : List S31} (ok : Ok h) {R : List S33} (hl : R.length ≤ 1000) {l : List (Nat × Nat)} {a : Nat} (hc : Ch (sv h) (sw h) l a) (ha : a ≤ R.length) (ha' : a ≤ h.length) (hR : ∀ b ∈ l, ∀ i, b.1 ≤ i → i < b.2 → R[i]? = some (rat (M h b.1 b.2))) {r : List S59 × Int}
    (H : Tl (fun k => diaphoneref02_Blocks.l0 k R (l.map (b59 h)) (a : Int)) r) : Tl (fun k => diaphoneref02_Blocks.l0 k R [] 0) r := by
  induction hc with
  | nil => exact H
  | @snoc l a e hc hb hf ih =>
    have hae := hb.1
    have hlen := Ch.len hc
    refine ih (by omega) (by omega) (fun b hb' => hR b (List.mem_append_left _ hb')) ?_
    have hRa := hR (a, e) (by simp)
    simp only at hRa
    have key := rb_in (acc := l.map (b59 h)) hRa ha hl (by simp <;> omega) (r := r) (by simpa [b59, mid] using H) (e - (a + 1)) (a + 1) (by omega) (by omega) rfl
    rw [show ((a + 1 : Nat) : Int) = (a : Int) + 1 by omega] at key
    have em : mid h a e (a + 1) = ⟨(a : Int), (a : Int), ⟨(rat (M h a e)).f0, (rat (M h a e)).f1⟩⟩ := by
      simp only [mid, rat]
      congr 1
      omega
    rw [em] at key
    refine Tl.succ ?_
    simp only [diaphoneref02_Blocks.l0]
    rw [rd33' (hRa a (by omega) (by omega)), w64 (x := (a : Int) + 1) (by omega) (by omega)]
    refine Tl.pos (by omega) ?_
    have hs := ok.small hae (show e ≤ h.length by omega)
    by_cases h0 : l = []
    · subst h0
      exact Tl.neg (by simp) (Tl.pos (by omega) (Tl.pos (by simp) key))
    · obtain ⟨l1, b, rfl⟩ : ∃ l1 b, l = l1 ++ [b] := ⟨l.dropLast, l.getLast h0, (List.dropLast_concat_getLast h0).symm⟩
      have hin := hc.in b (by simp)
      have hs' := ok.small hin.1 (show b.2 ≤ h.length by omega)
      have hfb := hf b (by simp)
      have ew : wrap64 ((((l1 ++ [b]).map (b59 h)).length : Int) - 1) = ((l1.map (b59 h)).length : Int) := by
        simp only [List.length_append, List.length_map, List.length_cons, List.length_nil] at hlen ⊢
        rw [w64 (by omega) (by omega)]; omega
      have hne : ¬ ((((b59 h b).f2.f0) == (rat (M h a e)).f0) && (((b59 h b).f2.f1) == (rat (M h a e)).f1)) = true := by
        intro q
        simp only [b59, rat, Bool.and_eq_true, beq_iff_eq, M] at q
        have := (Rt_lt (a := sv h b.2 - sv h b.1) (b := sw h b.2 - sw h b.1) (c := sv h e - sv h a) (d := sw h e - sw h a) hs'.1 hs.1).2 (by rw [Int.mul_comm] at hfb ⊢; rw [Int.mul_comm (sw h b.2 - sw h b.1)]; rw [Int.mul_comm (sw h b.2 - sw h b.1)] at hfb; exact hfb)
        rw [q.1, q.2] at this
        omega
      rw [ew]
      simp only [List.map_append, List.map_cons, List.map_nil] at key ⊢
      rw [rd59_last]
      refine Tl.pos (by simp <;> omega) (Tl.pos (by omega) (Tl.pos (by simp <;> omega) (Tl.pos (by omega) (Tl.neg hne (Tl.pos (by simp only [List.length_append, List.length_map, List.length_cons, List.length_nil] at hlen ⊢; omega) key)))))
theorem ev_rBlocks {h : List S31} (ok : Ok h) {l : List (Nat × Nat)} (hc : Ch (sv h) (sw h) l h.length) : Tl (fun k => diaphoneref02_Blocks.f k h) (l.map (b59 h), 0) := by
  have hlen := ok.2.1
  have hrow := row_length hc
  have hb := Ch.row_best ok hc
  unfold diaphoneref02_Blocks.f
  refine Tl.bind (ev_rValidate (by omega)) (Tl.pos (vc_ok.2 ok) (Tl.bind (ev_rbest ok hb) ?_))
  refine rb_ch ok (by omega) hc (by omega) (by omega) (row_at hc) ?_
  refine Tl.succ ?_
  simp only [diaphoneref02_Blocks.l0]
  exact Tl.neg (by omega) Tl.now
end Go.Proofs.Ytgdhbeccpicdcaa.Rl
