/- The best plan that the program returns. -/
import Derived.Test.YtboefcikdfjfmaaPb
import Derived.Test.YtboefcikdfjfmaaPx54
set_option linter.unusedVariables false
namespace Go.Proofs.Ytboefcikdfjfmaa.Be
open Go.RowKit Go.Proofs.Ytboefcikdfjfmaa.P Go.Proofs.Ytboefcikdfjfmaa.E Go.Proofs.Ytboefcikdfjfmaa.Am Go.Proofs.Ytboefcikdfjfmaa.Va Go.Proofs.Ytboefcikdfjfmaa.Fi Go.Proofs.Ytboefcikdfjfmaa.Pn Go.Proofs.YtboefcikdfjfmaaW.PrintMore Go.Proofs.YtboefcikdfjfmaaW.PrintWords
variable {a0 a1 : Int} {c d fs bs : List Int}
/-- What a plan out of lots becomes in a list. -/
def lay (y : Nat → Int) (n : Nat) (out : List Int) : List Int := (List.range out.length).map fun i => if i < n then y i else fl out i
theorem lay_len (y : Nat → Int) (n : Nat) (out : List Int) : (lay y n out).length = out.length := by simp [lay]
theorem lay_fl (y : Nat → Int) (n : Nat) {out : List Int} {i : Nat} (hi : i < out.length) : fl (lay y n out) i = if i < n then y i else fl out i := by unfold lay; rw [fl_range, if_pos hi]
theorem best_loop (ok : Ok a0 a1 c d) (f : Fst a0 a1 c d fs bs) : ∀ n, n ≤ d.length → ∃ y, Am.Good a0 a1 (fl c) (fl d) (fl fs) n y ∧ ∀ out : List Int, out.length = d.length → (∀ i, i < n → fl out i = 0) →
    Tl (fun k => air_Best.l0 k bs out (n : Int) a0 a1 c d) (lay y n out, 0) := by
  have hn2 := ok.n2
  have hl2 := f.l2
  intro n
  induction n using Nat.strongRecOn with
  | ind n ih =>
    intro hn
    cases n with
    | zero =>
      refine ⟨_, good_zero f.F, fun out ho hz => Tl.succ ?_⟩
      simp only [air_Best.l0]
      refine (Tl.neg (by omega) Tl.now).to ?_
      congr 1
      exact list_ext (by rw [lay_len]) (fun i hi => by rw [lay_fl _ _ hi, if_neg (by omega)])
    | succ n =>
      obtain ⟨s, g1, g2, g3⟩ := f.b (n + 1) (by omega) hn
      obtain ⟨y, g, hy⟩ := ih s g2 (by omega)
      refine ⟨_, good_step ok.rt hn g2 g3 g, fun out ho hz => Tl.succ ?_⟩
      simp only [air_Best.l0]
      rw [rd_fl, g1]
      refine Tl.pos (by omega) (Tl.pos (by omega) (Tl.pos (by omega) (Tl.bind (ev_lot ok (show s ≤ n + 1 by omega) hn) (Tl.pos (by omega) (Tl.pos (by omega) ?_)))))
      have hset : ∀ i, fl (out.set s (sm (fl d) s (n + 1))) i = if i = s then sm (fl d) s (n + 1) else fl out i := fun i => fl_set i _ (by omega)
      have h := hy (out.set s (sm (fl d) s (n + 1))) (by simpa using ho) (fun i hi => by rw [hset, if_neg (by omega)]; exact hz i (by omega))
      rw [Int.toNat_natCast]
      refine h.to ?_
      congr 1
      refine list_ext (by rw [lay_len, lay_len, List.length_set]) (fun i hi => ?_)
      rw [lay_len, List.length_set] at hi
      rw [lay_fl _ _ (by simpa using hi), lay_fl _ _ hi, hset]
      by_cases c1 : i < s
      · rw [if_pos c1, if_pos (by omega), if_neg (by omega)]
      · rw [if_neg c1]
        by_cases c2 : i = s
        · subst c2; rw [if_pos rfl, if_pos (by omega), if_pos rfl]
        · rw [if_neg c2]
          by_cases c3 : i < n + 1
          · rw [if_pos c3, if_neg c2, hz i c3, g.z i (by omega)]
          · rw [if_neg c3]
/-- What is told of the plan that the program returns. -/
structure Bst (a0 a1 : Int) (c d fs x : List Int) : Prop where
  l : allb x d.length 600 = true
  r : Right d x
  cost : cs a0 a1 c d x d.length = fl fs d.length
  tidy : Tidy d x 1
theorem best_ex (ok : Ok a0 a1 c d) (f : Fst a0 a1 c d fs bs) : ∃ x, Bst a0 a1 c d fs x ∧ Tl (fun k => air_Best.f k a0 a1 c d) (x, 0) := by
  obtain ⟨y, g, hy⟩ := best_loop ok f d.length (Nat.le_refl _)
  have hn2 := ok.n2
  have h := hy (List.replicate d.length 0) (by simp) (fun i _ => fl_replicate _ _)
  have hf : ∀ i, i < d.length → fl (lay y d.length (List.replicate d.length 0)) i = y i := fun i hi => by rw [lay_fl _ _ (by simpa using hi), if_pos hi]
  have hlen : (lay y d.length (List.replicate d.length 0)).length = d.length := by rw [lay_len]; simp
  have hsk : ∀ n, n ≤ d.length → sk d (lay y d.length (List.replicate d.length 0)) n = sm (fun i => y i - fl d i) 0 n := fun n hn => sm_congr (fun i _ hi => by rw [hf i (by omega)])
  refine ⟨_, ⟨(allb_iff (by decide)).2 ⟨hlen, fun i => ?_⟩, ⟨fun i hi => by rw [hsk (i + 1) (by omega)]; exact g.pl.st (i + 1) (by omega), by rw [hsk _ (Nat.le_refl _)]; exact g.pl.last⟩, ?_, fun s h1 h2 h3 => ?_⟩, ?_⟩
  · rcases Nat.lt_or_ge i d.length with c1 | c1
    · rw [hf i c1]
      refine ⟨g.pl.x0 i c1, ?_⟩
      have h1 := sm_bump (f := y) (g := fun _ => 0) (n := d.length) (s0 := i) (e := y i) (fun j hj => g.pl.x0 j hj) c1 (by omega)
      rw [sm_zero] at h1
      have h2 := g.pl.last
      rw [sm_sub] at h2
      have h3 := (sm_bound (f := fl d) (B := 50) (by decide) (s := 0) d.length (fun j _ _ => ⟨ok.d0 j, ok.d1 j⟩)).2
      omega
    · rw [fl_ge (by rw [hlen]; exact c1)]; decide
  · unfold cs
    rw [cost_congr hf]
    exact g.cost
  · rw [hf s h2] at h3
    rw [hsk s (by omega), g.tidy s h1 h2 h3]
    decide
  · unfold air_Best.f
    refine Tl.bind' (ev_Validate (by have := ok.cl; omega) (by omega)) (Tl.pos (vc_ok.2 ok) (Tl.bind f.ev (Tl.pos (by omega) (Tl.pos (by omega) ?_))))
    rw [Int.toNat_natCast]
    exact h
theorem ev_Best_no (h1 : c.length ≤ 1000) (h2 : d.length ≤ 1000) (no : vc a0 a1 c d ≠ 0) : Tl (fun k => air_Best.f k a0 a1 c d) ([], vc a0 a1 c d) := by
  unfold air_Best.f
  exact Tl.bind' (ev_Validate h1 h2) (Tl.neg no Tl.now)
end Go.Proofs.Ytboefcikdfjfmaa.Be
