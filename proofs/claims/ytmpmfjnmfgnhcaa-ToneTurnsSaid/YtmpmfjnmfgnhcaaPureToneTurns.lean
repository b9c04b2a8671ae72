/- Proved here: for every list and number, the tone that begins with another second is the document's, in new memory, and it has the same name; it holds under no condition. -/
import Derived.Test.YtmpmfjnmfgnhcaaTn
import Derived.Test.YtmpmfjnmfgnhcaaPx35
import Derived.Test.YtmpmfjnmfgnhcaaPx39
import Derived.Test.YtmpmfjnmfgnhcaaPx7
import Derived.Test.YtmpmfjnmfgnhcaaPx40
set_option linter.unusedVariables false
namespace Go.Proofs.Ytmpmfjnmfgnhcaa.Pure
open Go.RowKit Go.Proofs.Ytmpmfjnmfgnhcaa.P Go.Proofs.Ytmpmfjnmfgnhcaa.E Go.Proofs.Ytmpmfjnmfgnhcaa.Va Go.Proofs.Ytmpmfjnmfgnhcaa.Pe Go.Proofs.Ytmpmfjnmfgnhcaa.Nm Go.Proofs.Ytmpmfjnmfgnhcaa.Tn Go.Proofs.YtmpmfjnmfgnhcaaW.PrintMore
open Go.Proofs.YtmpmfjnmfgnhcaaW.PrintWords
namespace Tur
theorem loop {t : List Int} (hl : t.length ≤ 1000) (d : Nat) : ∀ (i : Nat) (a : List Int), a.length ≤ 1000 → i ≤ a.length → a.length - i = d → Tl (fun k => diaphonelaw01_ToneTurns.l0 k t t a true (i : Int)) true := by
  induction d with
  | zero =>
    intro i a h1 h2 h3
    refine Tl.succ ?_
    simp only [diaphonelaw01_ToneTurns.l0]
    exact Tl.neg (by omega) (Tl.pos trivial (Tl.bind (ev_SameInts t hl) (Tl.pos rfl ev_known')))
  | succ d ih =>
    intro i a h1 h2 h3
    have next := ih (i + 1) (a.set i (-1)) (by simp; omega) (by simp; omega) (by simp; omega)
    rw [show ((i + 1 : Nat) : Int) = (i : Int) + 1 by omega] at next
    refine Tl.succ ?_
    simp only [diaphonelaw01_ToneTurns.l0]
    rw [w64 (x := (i : Int) + 1) (by omega) (by omega), Int.toNat_natCast]
    exact Tl.pos (by omega) (Tl.pos (by omega) next)
end Tur
open Tur
theorem ToneTurns : ∀ (x0 : List Int) (x1 : Int), ((∀ y ∈ x0, (Lit.int .i64 y).wf = true) ∧ x0.length ≤ maxLen) → ((Lit.int .i64 x1).wf = true) → ∃ k, diaphonelaw01_ToneTurns.f k x0 x1 = some true := by
  intro t by_ _ _
  refine Tl.ex (g := fun k => diaphonelaw01_ToneTurns.f k t by_) ?_
  unfold diaphonelaw01_ToneTurns.f
  refine by_long (fun hl => ?_)
  simp only [Option.bind_some, List.length_nil, List.nil_append]
  refine Tl.pos (by omega) ?_
  have v1 := ev_Validate (t := t) (by omega)
  have v2 := ev_rValidate (t := t) (by omega)
  by_cases hk : vc t = 0
  · have ok := vc_ok.1 hk
    have h0 := ok.1
    have hn : (0 : Int) < t.length := by omega
    have m1 := Int.emod_nonneg by_ (show (t.length : Int) ≠ 0 by omega)
    have m2 := Int.emod_lt_of_pos by_ hn
    obtain ⟨b, hb⟩ : ∃ b : Nat, by_ % (t.length : Int) = b := ⟨(by_ % (t.length : Int)).toNat, by omega⟩
    have hbl : b ≤ t.length := by omega
    have e1 : Tl (fun k => tone_Turn.f k t by_) (rot t b, 0) := by
      unfold tone_Turn.f
      refine Tl.bind v1 (Tl.pos hk (Tl.bind' (turn_eq h0 (by omega) by_) ?_))
      rw [hb, Int.toNat_natCast]
      exact Tl.now
    have hpc : pc t (Int.tmod by_ (t.length : Int)) t.length = rot t b := by
      refine List.ext_getElem? (fun j => ?_)
      by_cases hj : j < t.length
      · rw [rot_get hbl hj, List.getElem?_eq_getElem (by rw [pc_length]; omega)]
        congr 1
        simp only [pc, List.getElem_map, List.getElem_range]
        rcases tmod_cases hn by_ with e | ⟨_, e⟩
        · rw [e, hb]; congr 1; omega
        · rw [← per_len t (Int.tmod by_ (t.length : Int) + (j : Int))]; congr 1; omega
      · rw [List.getElem?_eq_none (by rw [pc_length]; omega), List.getElem?_eq_none (by rw [rot_length hbl]; omega)]
    have e2 : Tl (fun k => diaphoneref01_Turn.f k t by_) (rot t b, 0) := by
      unfold diaphoneref01_Turn.f
      have hc := tmod_cases hn by_
      have := ev_piece h0 (show t.length ≤ 1000 by omega) (f := Int.tmod by_ (t.length : Int)) (by omega) (show t.length ≤ 1000 by omega)
      rw [hpc] at this
      exact Tl.bind v2 (Tl.pos hk (Tl.neg (by omega) (Tl.bind this Tl.now)))
    have hrl := rot_length hbl
    obtain ⟨p, hp, _⟩ := ev_period h0 (show t.length ≤ 1000 by omega)
    obtain ⟨r, hrlen, hr, n1, _⟩ := ev_name h0 (show t.length ≤ 1000 by omega) hp
    obtain ⟨s, hslen, hs, n2, _⟩ := ev_name (t := rot t b) (by omega) (by omega) (isper_rot h0 hbl hp)
    obtain rfl := name_rot h0 hbl hp hr hs
    have h2 := hp.2.1
    have e3 : Tl (fun k => tone_Name.f k t) (r, 0) := by
      unfold tone_Name.f
      exact Tl.bind v1 (Tl.pos hk (Tl.bind n1 Tl.now))
    have e4 : Tl (fun k => tone_Name.f k (rot t b)) (r, 0) := by
      unfold tone_Name.f
      exact Tl.bind (ev_Validate (by omega)) (Tl.pos (vc_ok.2 (ok_rot ok hbl)) (Tl.bind n2 Tl.now))
    refine Tl.bind e1 (Tl.bind e2 (Tl.bind (ev_SameInts (rot t b) (by omega)) (Tl.pos rfl (Tl.succ ?_))))
    simp only [diaphonelaw01_ToneTurns.j0]
    refine Tl.neg (by simp) (Tl.bind e3 (Tl.bind e4 (Tl.pos trivial (Tl.pos rfl (Tl.pos rfl (Tl.bind (ev_SameInts r (by omega)) (Tl.succ ?_)))))))
    simp only [diaphonelaw01_ToneTurns.j1]
    exact loop (by omega) (rot t b).length 0 (rot t b) (by omega) (by omega) (by omega)
  · have e1 : Tl (fun k => tone_Turn.f k t by_) ([], vc t) := by
      unfold tone_Turn.f
      exact Tl.bind v1 (Tl.neg hk Tl.now)
    have e2 : Tl (fun k => diaphoneref01_Turn.f k t by_) ([], vc t) := by
      unfold diaphoneref01_Turn.f
      exact Tl.bind v2 (Tl.neg hk Tl.now)
    have e3 : Tl (fun k => tone_Name.f k t) ([], vc t) := by
      unfold tone_Name.f
      exact Tl.bind v1 (Tl.neg hk Tl.now)
    have e4 : Tl (fun k => tone_Name.f k []) ([], vc []) := by
      unfold tone_Name.f
      exact Tl.bind (ev_Validate (by simp)) (Tl.neg (by simp [vc]) Tl.now)
    refine Tl.bind e1 (Tl.bind e2 (Tl.bind (ev_SameInts [] (by simp)) (Tl.pos rfl (Tl.succ ?_))))
    simp only [diaphonelaw01_ToneTurns.j0]
    refine Tl.neg (by simp) (Tl.bind e3 (Tl.bind e4 (Tl.neg hk (Tl.succ ?_))))
    simp only [diaphonelaw01_ToneTurns.j1]
    exact loop (by omega) 0 0 [] (by simp) (by simp) (by simp)
end Go.Proofs.Ytmpmfjnmfgnhcaa.Pure
