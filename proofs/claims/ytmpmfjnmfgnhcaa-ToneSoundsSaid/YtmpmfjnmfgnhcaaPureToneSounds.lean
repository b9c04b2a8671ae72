/- Proved here: for every list, how much of a tone sounds and its longest silence are as the document says; it holds under no condition. -/
import Derived.Test.YtmpmfjnmfgnhcaaVa
import Derived.Test.YtmpmfjnmfgnhcaaPx19
import Derived.Test.YtmpmfjnmfgnhcaaPx19
import Derived.Test.YtmpmfjnmfgnhcaaPx19
import Derived.Test.YtmpmfjnmfgnhcaaPx19
import Derived.Test.YtmpmfjnmfgnhcaaPx47
set_option linter.unusedVariables false
namespace Go.Proofs.Ytmpmfjnmfgnhcaa.Pure
open Go.RowKit Go.Proofs.Ytmpmfjnmfgnhcaa.P Go.Proofs.Ytmpmfjnmfgnhcaa.E Go.Proofs.Ytmpmfjnmfgnhcaa.Va Go.Proofs.YtmpmfjnmfgnhcaaW.PrintMore
open Go.Proofs.YtmpmfjnmfgnhcaaW.PrintWords
namespace Sou
def su (t : List Int) : Nat → Int
  | 0 => 0
  | n + 1 => su t n + rd t (n : Int)
theorem su_bd {t : List Int} (ok : Ok t) {n : Nat} (hn : n ≤ t.length) : 0 ≤ su t n ∧ su t n ≤ n := by
  induction n with
  | zero => simp [su]
  | succ n ih =>
    have := ih (by omega)
    have := ok.2.2 n (by omega)
    simp only [su]
    omega
theorem p_loop {t : List Int} (ok : Ok t) (d : Nat) : ∀ i : Nat, i ≤ t.length → t.length - i = d → Tl (fun k => tone_sounding.l0 k (su t i) t (t.length : Int) (i : Int)) (su t t.length) := by
  have hlen := ok.2.1
  induction d with
  | zero =>
    intro i h1 h2
    obtain rfl : i = t.length := by omega
    refine Tl.succ ?_
    simp only [tone_sounding.l0]
    exact Tl.neg (by omega) Tl.now
  | succ d ih =>
    intro i h1 h2
    have hlt : i < t.length := by omega
    have next := ih (i + 1) (by omega) (by omega)
    have b := su_bd ok (show i ≤ t.length by omega)
    have r := ok.2.2 i hlt
    rw [show ((i + 1 : Nat) : Int) = (i : Int) + 1 by omega] at next
    simp only [su] at next
    refine Tl.succ ?_
    simp only [tone_sounding.l0]
    rw [w64 (x := su t i + rd t (i : Int)) (by omega) (by omega), w64 (x := (i : Int) + 1) (by omega) (by omega)]
    exact Tl.pos (by omega) (Tl.pos (by omega) (Tl.pos (by omega) next))
theorem r_loop {t : List Int} (ok : Ok t) (d : Nat) : ∀ i : Nat, i ≤ t.length → t.length - i = d → Tl (fun k => diaphoneref01_Sounding.l0 k t (su t i) (i : Int)) (su t t.length, 0) := by
  have hlen := ok.2.1
  induction d with
  | zero =>
    intro i h1 h2
    obtain rfl : i = t.length := by omega
    refine Tl.succ ?_
    simp only [diaphoneref01_Sounding.l0]
    exact Tl.neg (by omega) Tl.now
  | succ d ih =>
    intro i h1 h2
    have hlt : i < t.length := by omega
    have next := ih (i + 1) (by omega) (by omega)
    have b := su_bd ok (show i ≤ t.length by omega)
    have r := ok.2.2 i hlt
    rw [show ((i + 1 : Nat) : Int) = (i : Int) + 1 by omega] at next
    simp only [su] at next
    refine Tl.succ ?_
    simp only [diaphoneref01_Sounding.l0]
    rw [w64 (x := su t i + rd t (i : Int)) (by omega) (by omega), w64 (x := (i : Int) + 1) (by omega) (by omega)]
    exact Tl.pos (by omega) (Tl.pos (by omega) next)
theorem ev_sounding {t : List Int} (ok : Ok t) : Tl (fun k => tone_sounding.f k t) (su t t.length) := p_loop ok t.length 0 (by omega) (by omega)
def so (t : List Int) : Int × Int := if vc t = 0 then (su t t.length, 0) else (0, vc t)
theorem ev_Sounding {t : List Int} (hl : t.length ≤ 1000) : Tl (fun k => tone_Sounding.f k t) (so t) := by
  unfold tone_Sounding.f
  refine Tl.bind (ev_Validate hl) ?_
  by_cases hk : vc t = 0
  · exact Tl.to (Tl.pos hk (Tl.bind (ev_sounding (vc_ok.1 hk)) Tl.now)) (by simp only [so, if_pos hk])
  · exact Tl.to (Tl.neg hk Tl.now) (by simp only [so, if_neg hk])
theorem ev_rSounding {t : List Int} (hl : t.length ≤ 1000) : Tl (fun k => diaphoneref01_Sounding.f k t) (so t) := by
  unfold diaphoneref01_Sounding.f
  refine Tl.bind (ev_rValidate hl) ?_
  by_cases hk : vc t = 0
  · exact Tl.to (Tl.pos hk (r_loop (vc_ok.1 hk) t.length 0 (by omega) (by omega))) (by simp only [so, if_pos hk])
  · exact Tl.to (Tl.neg hk Tl.now) (by simp only [so, if_neg hk])
/-- The longest silence: both programs go the same way. -/
theorem sil {t : List Int} (ok : Ok t) (d : Nat) : ∀ (i : Nat) (b r : Int), i ≤ 2 * t.length → 2 * t.length - i = d → 0 ≤ b → b ≤ i → 0 ≤ r → r ≤ i →
    ∃ z : Int, Tl (fun k => tone_Silence.l0 k t b r (wrap64 (2 * (t.length : Int))) (i : Int)) (z, true, 0) ∧ Tl (fun k => diaphoneref01_Silence.l0 k t b r (i : Int)) (z, true, 0) := by
  have hlen := ok.2.1
  have hpos := ok.1
  rw [w64 (x := 2 * (t.length : Int)) (by omega) (by omega)]
  induction d with
  | zero =>
    intro i b r h1 h2 _ _ _ _
    refine ⟨b, Tl.succ ?_, Tl.succ ?_⟩
    · simp only [tone_Silence.l0]
      exact Tl.neg (by omega) Tl.now
    · simp only [diaphoneref01_Silence.l0]
      rw [w64 (x := 2 * (t.length : Int)) (by omega) (by omega)]
      exact Tl.neg (by omega) Tl.now
  | succ d ih =>
    intro i b r h1 h2 b1 b2 r1 r2
    have ei : ((i + 1 : Nat) : Int) = (i : Int) + 1 := by omega
    by_cases c : sec t (i : Int) = 1
    · obtain ⟨z, n1, n2⟩ := ih (i + 1) (mx b 0) 0 (by omega) (by omega) (by rw [mx_eq]; omega) (by rw [mx_eq]; omega) (by omega) (by omega)
      rw [ei] at n1 n2
      refine ⟨z, Tl.succ ?_, Tl.succ ?_⟩
      · simp only [tone_Silence.l0]
        rw [w64 (x := (i : Int) + 1) (by omega) (by omega)]
        exact Tl.pos (by omega) (Tl.bind' (at_eq (by omega) (by omega) _) (Tl.pos c n1))
      · simp only [diaphoneref01_Silence.l0]
        rw [w64 (x := 2 * (t.length : Int)) (by omega) (by omega), w64 (x := (i : Int) + 1) (by omega) (by omega)]
        exact Tl.pos (by omega) (Tl.bind' (rat_eq (by omega) (by omega) _) (Tl.pos c n2))
    · obtain ⟨z, n1, n2⟩ := ih (i + 1) (mx b (r + 1)) (r + 1) (by omega) (by omega) (by rw [mx_eq]; omega) (by rw [mx_eq]; omega) (by omega) (by omega)
      rw [ei] at n1 n2
      refine ⟨z, Tl.succ ?_, Tl.succ ?_⟩
      · simp only [tone_Silence.l0]
        rw [w64 (x := (i : Int) + 1) (by omega) (by omega), w64 (x := r + 1) (by omega) (by omega)]
        exact Tl.pos (by omega) (Tl.bind' (at_eq (by omega) (by omega) _) (Tl.neg c n1))
      · simp only [diaphoneref01_Silence.l0]
        rw [w64 (x := 2 * (t.length : Int)) (by omega) (by omega), w64 (x := (i : Int) + 1) (by omega) (by omega), w64 (x := r + 1) (by omega) (by omega)]
        exact Tl.pos (by omega) (Tl.bind' (rat_eq (by omega) (by omega) _) (Tl.neg c n2))
theorem ev_Silence {t : List Int} (hl : t.length ≤ 1000) : ∃ z, Tl (fun k => tone_Silence.f k t) z ∧ Tl (fun k => diaphoneref01_Silence.f k t) z := by
  by_cases hk : vc t = 0
  · have ok := vc_ok.1 hk
    have e : so t = (su t t.length, 0) := by simp only [so, if_pos hk]
    by_cases h0 : su t t.length = 0
    · refine ⟨(0, false, 0), ?_, ?_⟩
      · unfold tone_Silence.f
        exact Tl.bind (ev_Validate hl) (Tl.pos hk (Tl.bind (ev_sounding ok) (Tl.pos h0 Tl.now)))
      · unfold diaphoneref01_Silence.f
        refine Tl.bind (ev_rSounding hl) ?_
        rw [e]
        refine Tl.pos rfl (Tl.succ ?_)
        simp only [diaphoneref01_Silence.j0]
        exact Tl.pos (by simp [h0]) Tl.now
    · obtain ⟨z, n1, n2⟩ := sil ok (2 * t.length) 0 0 0 (by omega) (by omega) (by omega) (by omega) (by omega) (by omega)
      refine ⟨(z, true, 0), ?_, ?_⟩
      · unfold tone_Silence.f
        exact Tl.bind (ev_Validate hl) (Tl.pos hk (Tl.bind (ev_sounding ok) (Tl.neg h0 n1)))
      · unfold diaphoneref01_Silence.f
        refine Tl.bind (ev_rSounding hl) ?_
        rw [e]
        refine Tl.pos rfl (Tl.succ ?_)
        simp only [diaphoneref01_Silence.j0]
        exact Tl.neg (by simp [h0]) n2
  · have e : so t = (0, vc t) := by simp only [so, if_neg hk]
    refine ⟨(0, false, vc t), ?_, ?_⟩
    · unfold tone_Silence.f
      exact Tl.bind (ev_Validate hl) (Tl.neg hk Tl.now)
    · unfold diaphoneref01_Silence.f
      refine Tl.bind (ev_rSounding hl) ?_
      rw [e]
      refine Tl.neg hk (Tl.succ ?_)
      simp only [diaphoneref01_Silence.j0]
      exact Tl.pos trivial Tl.now
end Sou
open Sou
theorem ToneSounds : ∀ (x0 : List Int), ((∀ y ∈ x0, (Lit.int .i64 y).wf = true) ∧ x0.length ≤ maxLen) → ∃ k, diaphonelaw01_ToneSounds.f k x0 = some true := by
  intro t _
  refine Tl.ex (g := fun k => diaphonelaw01_ToneSounds.f k t) ?_
  unfold diaphonelaw01_ToneSounds.f
  refine by_long (fun hl => ?_)
  obtain ⟨z, n1, n2⟩ := ev_Silence (t := t) (by omega)
  exact Tl.bind (ev_Sounding (by omega)) (Tl.bind (ev_rSounding (by omega)) (Tl.bind n1 (Tl.bind n2 (Tl.pos rfl (Tl.pos rfl (Tl.pos rfl (Tl.pos (by simp) (Tl.pos rfl ev_known'))))))))
end Go.Proofs.Ytmpmfjnmfgnhcaa.Pure
