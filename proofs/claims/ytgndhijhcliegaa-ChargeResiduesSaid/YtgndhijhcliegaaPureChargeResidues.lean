/- Proved here: for all weights, the smallest amounts that are made up for each remainder are the document's, and they tell the greatest gap; it holds under no condition. -/
import Derived.Test.YtgndhijhcliegaaGp
import Derived.Test.YtgndhijhcliegaaPx39
set_option linter.unusedVariables false
namespace Go.Proofs.Ytgndhijhcliegaa.Pure
open Go.RowKit Go.Proofs.Ytgndhijhcliegaa.P Go.Proofs.Ytgndhijhcliegaa.E Go.Proofs.Ytgndhijhcliegaa.Va Go.Proofs.Ytgndhijhcliegaa.Kn Go.Proofs.Ytgndhijhcliegaa.Me Go.Proofs.Ytgndhijhcliegaa.Rs Go.Proofs.Ytgndhijhcliegaa.Gp Go.Proofs.YtgndhijhcliegaaW.PrintMore
open Go.Proofs.YtgndhijhcliegaaW.PrintWords
namespace Rsd
theorem ev_SameInts {l : List Int} (hl : l.length ≤ 1000) : Tl (fun k => diaphoneref07_SameInts.f k l l) true := by
  unfold diaphoneref07_SameInts.f
  refine Tl.pos rfl ?_
  have loop : ∀ d i : Nat, i + d = l.length → Tl (fun k => diaphoneref07_SameInts.l0 k l l (i : Int)) true := by
    intro d
    induction d with
    | zero =>
      intro i h
      refine Tl.succ ?_
      simp only [diaphoneref07_SameInts.l0]
      exact Tl.neg (by omega) Tl.now
    | succ d ih =>
      intro i h
      refine Tl.succ ?_
      simp only [diaphoneref07_SameInts.l0]
      rw [w64 (x := (i : Int) + 1) (by omega) (by omega)]
      exact Tl.pos (by omega) (Tl.pos (by omega) (Tl.pos (by omega) (Tl.pos trivial (ih (i + 1) (by omega)))))
  exact loop l.length 0 (by omega)
theorem ev_rResidues (w : List Int) : Tl (fun k => diaphoneref07_Residues.f k w) (rc w) := by
  unfold diaphoneref07_Residues.f
  refine Tl.bind (ev_rValidate w) ?_
  by_cases hv : vc w = 0
  · have ok := vc_ok.1 hv
    have hw := w0_range ok
    have hlen := ok.1
    have e : rc w = (rl w (w0 w), 0) := by unfold rc; rw [if_pos hv]
    rw [e]
    obtain ⟨T, hT⟩ : ∃ T, T = tab w (930 + 1) := ⟨_, rfl⟩
    have hf := ev_few ok.wt (show 930 ≤ 10000 by omega)
    rw [← hT] at hf
    have hTl : T.length = 931 := by rw [hT, tab_length]
    have hTr : ∀ n : Nat, n < 931 → rd T (n : Int) = fw w n := fun n hn => by rw [hT, tab_rd (by omega)]
    refine Tl.pos hv (Tl.bind hf ?_)
    have inner : ∀ (r : Nat) (next : Tl (fun k => diaphoneref07_Residues.l0 k w T (rl w r ++ [res w r]) ((r : Int) + 1)) (rl w (w0 w), 0)), r < w0 w →
        ∀ d n : Nat, (931 - n ≤ d) → n ≤ 2000 → n % w0 w = r → (∀ n', n' < n → n' % w0 w = r → ¬ made w n') → Tl (fun k => diaphoneref07_Residues.l1 k w T (rl w r) (r : Int) (n : Int)) (rl w (w0 w), 0) := by
      intro r next hr d
      have hrl := rl_length w r
      induction d with
      | zero =>
        intro n h1 h2 h3 h4
        have er : res w r = -1 := res_unique (res_is w r) (.inl ⟨rfl, fun n' q1 q2 => by
          obtain ⟨m, m1, m2, m3, m4⟩ := made_low ok q2
          exact h4 m (by omega) (by omega) m1⟩)
        rw [er] at next
        refine Tl.succ ?_
        simp only [diaphoneref07_Residues.l1]
        rw [w64 (x := (r : Int) + 1) (by omega) (by omega)]
        exact Tl.neg (by omega) (Tl.pos (by omega) (Tl.pos (by omega) next))
      | succ d ih =>
        intro n h1 h2 h3 h4
        by_cases c : n < 931
        · by_cases z : fw w n < 0
          · have nx := ih (n + w0 w) (by omega) (by omega) (by rw [Nat.add_mod_right]; exact h3) (fun n' q1 q2 => by
              by_cases e : n' < n
              · exact h4 n' e q2
              · have e2 : n' = n := by
                  have a1 := Nat.mod_add_div n' (w0 w)
                  have a2 := Nat.mod_add_div n (w0 w)
                  have a3 : n' / w0 w ≤ n / w0 w := by
                    rcases Nat.lt_or_ge (n / w0 w) (n' / w0 w) with q | q
                    · have := Nat.mul_le_mul_left (w0 w) (show n / w0 w + 1 ≤ n' / w0 w from q)
                      rw [Nat.mul_add] at this
                      omega
                    · exact q
                  have a4 := Nat.mul_le_mul_left (w0 w) a3
                  omega
                rw [e2]
                intro q
                have := fw_nonneg.2 q
                omega)
            rw [show ((n + w0 w : Nat) : Int) = (n : Int) + (w0 w : Int) by omega] at nx
            refine Tl.succ ?_
            simp only [diaphoneref07_Residues.l1]
            rw [hTr n c, hw.2.2, w64 (x := (n : Int) + (w0 w : Int)) (by omega) (by omega)]
            exact Tl.pos (by omega) (Tl.pos (by omega) (Tl.pos z (Tl.pos (by omega) nx)))
          · have er : res w r = n := res_unique (res_is w r) (.inr ⟨n, rfl, h3, fw_nonneg.1 (by omega), fun n' q1 q2 => by
              rcases Nat.lt_or_ge n' n with q | q
              · exact absurd q2 (h4 n' q q1)
              · exact q⟩)
            rw [er] at next
            refine Tl.succ ?_
            simp only [diaphoneref07_Residues.l1]
            rw [hTr n c, w64 (x := (r : Int) + 1) (by omega) (by omega)]
            exact Tl.pos (by omega) (Tl.pos (by omega) (Tl.neg z (Tl.neg (by omega) (Tl.pos (by omega) next))))
        · have er : res w r = -1 := res_unique (res_is w r) (.inl ⟨rfl, fun n' q1 q2 => by
            obtain ⟨m, m1, m2, m3, m4⟩ := made_low ok q2
            exact h4 m (by omega) (by omega) m1⟩)
          rw [er] at next
          refine Tl.succ ?_
          simp only [diaphoneref07_Residues.l1]
          rw [w64 (x := (r : Int) + 1) (by omega) (by omega)]
          exact Tl.neg (by omega) (Tl.pos (by omega) (Tl.pos (by omega) next))
    have loop : ∀ d r : Nat, r + d = w0 w → Tl (fun k => diaphoneref07_Residues.l0 k w T (rl w r) (r : Int)) (rl w (w0 w), 0) := by
      intro d
      induction d with
      | zero =>
        intro r h
        obtain rfl : r = w0 w := by omega
        refine Tl.succ ?_
        simp only [diaphoneref07_Residues.l0]
        exact Tl.pos (by omega) (Tl.neg (by omega) Tl.now)
      | succ d ih =>
        intro r h
        have next := ih (r + 1) (by omega)
        rw [rl_succ, show ((r + 1 : Nat) : Int) = (r : Int) + 1 by omega] at next
        refine Tl.succ ?_
        simp only [diaphoneref07_Residues.l0]
        refine Tl.pos (by omega) (Tl.pos (by omega) ?_)
        refine inner r next (by omega) 931 r (by omega) (by omega) (Nat.mod_eq_of_lt (by omega)) (fun n' q1 q2 => ?_)
        rw [Nat.mod_eq_of_lt (by omega)] at q2
        omega
    exact loop (w0 w) 0 (by omega)
  · have e : rc w = ([], vc w) := by unfold rc; rw [if_neg hv]
    rw [e]; exact Tl.neg hv Tl.now
/-- The greatest of the first numbers, and 0. -/
def mxs (l : List Int) : Nat → Int
  | 0 => 0
  | i + 1 => max (mxs l i) (rd l (i : Int))
end Rsd
open Rsd
theorem ChargeResidues : ∀ (x0 : List Int), ((∀ y ∈ x0, (Lit.int .i64 y).wf = true) ∧ x0.length ≤ maxLen) → ∃ k, diaphonelaw07_ChargeResidues.f k x0 = some true := by
  intro w _
  refine Tl.ex (g := fun k => diaphonelaw07_ChargeResidues.f k w) ?_
  unfold diaphonelaw07_ChargeResidues.f
  refine by_long (fun hl => ?_)
  have jt : ∀ (l : List Int) (v : Int), Tl (fun k => diaphonelaw07_ChargeResidues.j1 k w l v true) true := by
    intro l v
    refine Tl.succ ?_
    simp only [diaphonelaw07_ChargeResidues.j1]
    exact Tl.pos trivial ev_sane'
  have hrc : (rc w).1.length ≤ 1000 := by
    unfold rc
    by_cases hv : vc w = 0
    · rw [if_pos hv]
      have := w0_range (vc_ok.1 hv)
      show (rl w (w0 w)).length ≤ 1000
      rw [rl_length]; omega
    · rw [if_neg hv]; simp
  refine Tl.bind (ev_Residues w) (Tl.bind (ev_rResidues w) (Tl.bind (ev_SameInts hrc) (Tl.pos rfl (Tl.succ ?_))))
  simp only [diaphonelaw07_ChargeResidues.j0]
  refine Tl.neg (by simp) ?_
  by_cases hs : sc w = 0
  · obtain ⟨ok, h1⟩ := sc_ok.1 hs
    have hw := w0_range ok
    have hlen := ok.1
    have e : rc w = (rl w (w0 w), 0) := by unfold rc; rw [if_pos (vc_ok.2 ok)]
    obtain ⟨L, hL⟩ : ∃ L, L = rl w (w0 w) := ⟨_, rfl⟩
    have hLl : L.length = w0 w := by rw [hL, rl_length]
    have hLr : ∀ r : Nat, r < w0 w → rd L (r : Int) = res w r := fun r hr => by rw [hL, rl_rd hr]
    have mle : ∀ i r : Nat, r < i → i ≤ w0 w → res w r ≤ mxs L i := by
      intro i
      induction i with
      | zero => intro r hr; omega
      | succ i ih =>
        intro r hr hi
        show _ ≤ max (mxs L i) (rd L (i : Int))
        by_cases z : r = i
        · subst z; rw [hLr r (by omega)]; omega
        · have := ih r (by omega) (by omega); omega
    have mis : ∀ i : Nat, i ≤ w0 w → mxs L i = 0 ∨ ∃ r, r < w0 w ∧ mxs L i = res w r := by
      intro i
      induction i with
      | zero => intro _; exact .inl rfl
      | succ i ih =>
        intro hi
        show max (mxs L i) (rd L (i : Int)) = 0 ∨ ∃ r, r < w0 w ∧ max (mxs L i) (rd L (i : Int)) = res w r
        rw [hLr i (by omega)]
        rcases Int.le_total (mxs L i) (res w i) with q | q
        · rw [Int.max_eq_right q]; exact .inr ⟨i, by omega, rfl⟩
        · rw [Int.max_eq_left q]; exact ih (by omega)
    have zero : res w 0 = 0 := res_unique (res_is w 0) (.inr ⟨0, rfl, Nat.zero_mod _, made_zero w, fun n' _ _ => Nat.zero_le _⟩)
    obtain ⟨r0, hr0, er0⟩ : ∃ r, r < w0 w ∧ mxs L (w0 w) = res w r := by
      rcases mis (w0 w) (Nat.le_refl _) with q | q
      · exact ⟨0, by omega, by rw [q, zero]⟩
      · exact q
    have hrng : 0 ≤ mxs L (w0 w) ∧ mxs L (w0 w) ≤ 870 := by
      have := mle (w0 w) 0 (by omega) (Nat.le_refl _)
      have := res_le ok r0
      omega
    have hv : Gt w (mxs L (w0 w) - (w0 w : Int)) := by
      have hlow : ∀ r : Nat, r < w0 w → (r : Int) ≤ res w r := by
        intro r hr
        rcases res_is w r with ⟨q1, q2⟩ | ⟨n, q1, q2, q3, q4⟩
        · obtain ⟨m, m1, m2⟩ := Go.Proofs.Ytgndhijhcliegaa.Gp.cover ok h1 r
          rw [Nat.mod_eq_of_lt hr] at m2
          exact absurd m1 (q2 m m2)
        · have := Nat.mod_le n (w0 w)
          omega
      refine ⟨?_, ?_, ?_⟩
      · have h2 := hlow (w0 w - 1) (by omega)
        have h3 := mle (w0 w) (w0 w - 1) (by omega) (Nat.le_refl _)
        omega
      · intro n hn
        rw [res_ge ok h1]
        have hr := Nat.mod_lt n (show w0 w > 0 by omega)
        have h3 := mle (w0 w) (n % w0 w) hr (Nat.le_refl _)
        rcases res_is w (n % w0 w) with ⟨q1, q2⟩ | ⟨q, q1, q2, q3, q4⟩
        · omega
        · rcases Int.lt_or_le (n : Int) (res w (n % w0 w)) with c | c
          · exfalso
            rw [q1] at c h3
            have a1 := Nat.mod_add_div q (w0 w)
            have a2 := Nat.mod_add_div n (w0 w)
            have a3 : n / w0 w < q / w0 w := by
              rcases Nat.lt_or_ge (n / w0 w) (q / w0 w) with z | z
              · exact z
              · have := Nat.mul_le_mul_left (w0 w) z
                omega
            have := Nat.mul_le_mul_left (w0 w) (show n / w0 w + 1 ≤ q / w0 w from a3)
            rw [Nat.mul_add] at this
            omega
          · exact c
      · intro h0 hm
        rw [er0] at h0 hm
        rcases res_is w r0 with ⟨q1, q2⟩ | ⟨q, q1, q2, q3, q4⟩
        · omega
        · have := q4 (res w r0 - (w0 w : Int)).toNat (by
            rw [q1]
            have e2 : ((q : Int) - (w0 w : Int)).toNat = q - w0 w := by omega
            rw [e2, ← Nat.mod_eq_sub_mod (by omega)]
            exact q2) hm
          omega
    rw [e]
    refine Tl.bind (ev_Greatest hs hv) (Tl.pos rfl (Tl.succ ?_))
    simp only [diaphonelaw07_ChargeResidues.j1]
    rw [← hL]
    refine Tl.neg (by simp) ?_
    have mrange : ∀ i : Nat, i ≤ w0 w → 0 ≤ mxs L i := by
      intro i
      induction i with
      | zero => intro _; exact Int.le_refl 0
      | succ i ih =>
        intro hi
        have := ih (by omega)
        show 0 ≤ max (mxs L i) (rd L (i : Int))
        omega
    have loop : ∀ d i : Nat, i + d = w0 w → Tl (fun k => diaphonelaw07_ChargeResidues.l0 k w L (mxs L (w0 w) - (w0 w : Int)) (mxs L i) (i : Int)) true := by
      intro d
      induction d with
      | zero =>
        intro i h
        obtain rfl : i = w0 w := by omega
        refine Tl.succ ?_
        simp only [diaphonelaw07_ChargeResidues.l0]
        rw [hw.2.2, w64 (x := mxs L (w0 w) - (w0 w : Int)) (by omega) (by omega)]
        exact Tl.neg (by omega) (Tl.pos (by omega) (Tl.pos rfl ev_sane'))
      | succ d ih =>
        intro i h
        have next := ih (i + 1) (by omega)
        refine Tl.succ ?_
        simp only [diaphonelaw07_ChargeResidues.l0]
        rw [mx_eq, w64 (x := (i : Int) + 1) (by omega) (by omega)]
        exact Tl.pos (by omega) (Tl.pos (by omega) next)
    exact loop (w0 w) 0 (by omega)
  · refine Tl.bind (ev_Greatest_no hs) ?_
    by_cases hz : (rc w).2 = 0
    · refine Tl.pos hz ?_
      show Tl (fun k => diaphonelaw07_ChargeResidues.j1 k w (rc w).1 0 (sc w != 0)) true
      rw [show (sc w != 0) = true from bne_iff_ne.2 hs]
      exact jt _ _
    · exact Tl.neg hz (jt _ _)
end Go.Proofs.Ytgndhijhcliegaa.Pure
