/- Proved here: for every list of readings, the program's blocks are the document's, and each one has the mean of its hours; it holds under no condition. -/
import Derived.Test.YtgdhbeccpicdcaaRl
import Derived.Test.YtgdhbeccpicdcaaMe
import Derived.Test.YtgdhbeccpicdcaaPx35
import Derived.Test.YtgdhbeccpicdcaaPx51
set_option linter.unusedVariables false
namespace Go.Proofs.Ytgdhbeccpicdcaa.Pure
open Go.RowKit Go.Proofs.Ytgdhbeccpicdcaa.P Go.Proofs.Ytgdhbeccpicdcaa.E Go.Proofs.Ytgdhbeccpicdcaa.Fr Go.Proofs.Ytgdhbeccpicdcaa.Sd Go.Proofs.Ytgdhbeccpicdcaa.Bl Go.Proofs.Ytgdhbeccpicdcaa.Va Go.Proofs.Ytgdhbeccpicdcaa.Be Go.Proofs.Ytgdhbeccpicdcaa.Kn Go.Proofs.Ytgdhbeccpicdcaa.Rl Go.Proofs.Ytgdhbeccpicdcaa.Me Go.Proofs.YtgdhbeccpicdcaaW.PrintMore
open Go.Proofs.YtgdhbeccpicdcaaW.PrintWords
namespace Blo
theorem p_loop {h : List S31} (ok : Ok h) {l : List (Nat × Nat)} (hc : Ch (sv h) (sw h) l h.length) (d : Nat) : ∀ i : Nat, i ≤ l.length → l.length - i = d →
    Tl (fun k => haze_Blocks.l0 k ((l.take i).map (b59 h)) (l.map (bk h)) (l.length : Int) (i : Int)) (l.map (b59 h), 0) := by
  have hlen := ok.2.1
  have hll := Ch.len hc
  induction d with
  | zero =>
    intro i hi hd
    obtain rfl : i = l.length := by omega
    refine Tl.succ ?_
    simp only [haze_Blocks.l0]
    exact Tl.to (Tl.neg (by omega) Tl.now) (by simp)
  | succ d ih =>
    intro i hi hd
    have hlt : i < l.length := by omega
    have hin := hc.in l[i] (List.getElem_mem hlt)
    have s := ok.small hin.1 (show l[i].2 ≤ h.length by omega)
    have next := ih (i + 1) (by omega) (by omega)
    rw [show ((i + 1 : Nat) : Int) = (i : Int) + 1 by omega, List.take_succ_eq_append_getElem hlt, List.map_append] at next
    refine Tl.succ ?_
    simp only [haze_Blocks.l0]
    rw [rd75 (by simpa using hlt), List.getElem_map, w64 (x := (i : Int) + 1) (by omega) (by omega)]
    refine Tl.pos (by omega) (Tl.pos (by omega) (Tl.pos (by simp; omega) ?_))
    refine Tl.bind (ev_block_mean (by simp only [bk]; omega) (by simp only [bk]; omega) (by simp only [bk]; omega) (by simp only [bk]; omega)) (Tl.pos (by simp; omega) ?_)
    exact next
theorem loop {h : List S31} (ok : Ok h) {l : List (Nat × Nat)} (hc : Ch (sv h) (sw h) l h.length) (d : Nat) : ∀ i : Nat, i ≤ l.length → l.length - i = d →
    Tl (fun k => diaphonelaw02_HazeBlocks.l0 k h (l.map (b59 h)) (l.map (b59 h)) (i : Int)) true := by
  have hlen := ok.2.1
  have hll := Ch.len hc
  induction d with
  | zero =>
    intro i hi hd
    refine Tl.succ ?_
    simp only [diaphonelaw02_HazeBlocks.l0]
    exact Tl.neg (by simp; omega) ev_known'
  | succ d ih =>
    intro i hi hd
    have hlt : i < l.length := by omega
    have hin := hc.in l[i] (List.getElem_mem hlt)
    have next := ih (i + 1) (by omega) (by omega)
    rw [show ((i + 1 : Nat) : Int) = (i : Int) + 1 by omega] at next
    refine Tl.succ ?_
    simp only [diaphonelaw02_HazeBlocks.l0]
    rw [rd59 (by simpa using hlt), List.getElem_map, w64 (x := (i : Int) + 1) (by omega) (by omega)]
    have em : mc h (b59 h l[i]).f0 (b59 h l[i]).f1 = ((M h l[i].1 l[i].2).1, (M h l[i].1 l[i].2).2, 0) := by
      have e0 : Me.hc h (b59 h l[i]).f0 (b59 h l[i]).f1 = 0 := by
        unfold Me.hc
        rw [if_pos (vc_ok.2 ok), if_pos]
        simp only [inn, b59]
        omega
      unfold mc
      rw [if_pos e0, if_neg (by simp only [b59]; omega)]
      simp only [b59]
      rw [Int.toNat_natCast, show ((l[i].2 : Int) - 1).toNat + 1 = l[i].2 by omega]
    have ev := ev_Mean (h := h) (by omega) (b59 h l[i]).f0 (b59 h l[i]).f1
    rw [em] at ev
    refine Tl.pos (by simp; omega) (Tl.pos (by omega) (Tl.bind ev (Tl.pos (by simp; omega) (Tl.neg (by simp) (Tl.pos rfl (Tl.neg (by simp [b59, rat]) next))))))
end Blo
open Blo
theorem HazeBlocks : ∀ (x0 : List (S31)), ((∀ y ∈ x0, ((Lit.int .i64 y.f0).wf = true) ∧ ((Lit.int .i64 y.f1).wf = true)) ∧ x0.length ≤ maxLen) → ∃ k, diaphonelaw02_HazeBlocks.f k x0 = some true := by
  intro h _
  refine Tl.ex (g := fun k => diaphonelaw02_HazeBlocks.f k h) ?_
  unfold diaphonelaw02_HazeBlocks.f
  refine by_long (fun hl => ?_)
  by_cases hk : vc h = 0
  · have ok := vc_ok.1 hk
    obtain ⟨l, hc, hb⟩ := ev_blocks ok
    have e1 : Tl (fun k => haze_Blocks.f k h) (l.map (b59 h), 0) := by
      unfold haze_Blocks.f
      have := p_loop ok hc l.length 0 (by omega) (by omega)
      exact Tl.bind (ev_Validate (by omega)) (Tl.pos hk (Tl.bind hb (by simpa using this)))
    refine Tl.bind e1 (Tl.bind (ev_rBlocks ok hc) (Tl.pos rfl (Tl.succ ?_)))
    simp only [diaphonelaw02_HazeBlocks.j0]
    exact Tl.neg (by simp) (loop ok hc l.length 0 (by omega) (by omega))
  · have e1 : Tl (fun k => haze_Blocks.f k h) ([], vc h) := by
      unfold haze_Blocks.f
      exact Tl.bind (ev_Validate (by omega)) (Tl.neg hk Tl.now)
    have e2 : Tl (fun k => diaphoneref02_Blocks.f k h) ([], vc h) := by
      unfold diaphoneref02_Blocks.f
      exact Tl.bind (ev_rValidate (by omega)) (Tl.neg hk Tl.now)
    refine Tl.bind e1 (Tl.bind e2 (Tl.pos rfl (Tl.succ ?_)))
    simp only [diaphonelaw02_HazeBlocks.j0]
    refine Tl.neg (by simp) (Tl.succ ?_)
    simp only [diaphonelaw02_HazeBlocks.l0]
    exact Tl.neg (by simp) ev_known'
end Go.Proofs.Ytgdhbeccpicdcaa.Pure
