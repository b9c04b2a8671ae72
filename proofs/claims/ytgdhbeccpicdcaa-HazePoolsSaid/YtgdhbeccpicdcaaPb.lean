/- The best row as the program counts it. -/
import Derived.Test.YtgdhbeccpicdcaaBe
import Derived.Test.YtgdhbeccpicdcaaPx7
import Derived.Test.YtgdhbeccpicdcaaPx7
set_option linter.unusedVariables false
namespace Go.Proofs.Ytgdhbeccpicdcaa.Be
open Go.RowKit Go.Proofs.Ytgdhbeccpicdcaa.P Go.Proofs.Ytgdhbeccpicdcaa.E Go.Proofs.Ytgdhbeccpicdcaa.Fr Go.Proofs.Ytgdhbeccpicdcaa.Sd Go.Proofs.Ytgdhbeccpicdcaa.Bl Go.Proofs.Ytgdhbeccpicdcaa.Va Go.Proofs.YtgdhbeccpicdcaaW.PrintMore
open Go.Proofs.YtgdhbeccpicdcaaW.PrintWords

theorem best_loop {h : List S31} (ok : Ok h) {l : List (Nat × Nat)} {e : Nat} (hc : Ch (sv h) (sw h) l e) (he : e ≤ h.length) (hl : l.length ≤ 12) (d : Nat) : ∀ (i : Nat) (acc : List S33), i ≤ l.length → l.length - i = d → acc.length ≤ 12 * i →
    Tl (fun k => haze_best.l0 k acc (l.map (bk h)) (l.length : Int) (i : Int)) (acc ++ row h (l.drop i)) := by
  induction d with
  | zero =>
    intro i acc hi hd _
    obtain rfl : i = l.length := by omega
    refine Tl.succ ?_
    simp only [haze_best.l0, List.drop_length]
    refine Tl.neg (by omega) ?_
    simpa [row] using Tl.now (r := acc)
  | succ d ih =>
    intro i acc hi hd ha
    have hlt : i < l.length := by omega
    have hin := hc.in l[i] (List.getElem_mem hlt)
    have hlen := ok.2.1
    have s := ok.small hin.1 (show l[i].2 ≤ h.length by omega)
    refine Tl.succ ?_
    simp only [haze_best.l0]
    rw [rd75 (by simpa using hlt), List.getElem_map]
    refine Tl.pos (by omega) (Tl.pos (by omega) (Tl.pos (by simp; omega) ?_))
    refine Tl.bind (ev_block_mean (by simp only [bk]; omega) (by simp only [bk]; omega) (by simp only [bk]; omega) (by simp only [bk]; omega)) ?_
    have hrep : api_Rat.f ([(⟨(Rt (bk h l[i]).f3 (bk h l[i]).f2).1, (Rt (bk h l[i]).f3 (bk h l[i]).f2).2⟩ : S33)] : List S33) (wrap64 ((wrap64 ((bk h l[i]).f1 - (bk h l[i]).f0)) + 1)) = some (List.replicate (l[i].2 - l[i].1) (rat (M h l[i].1 l[i].2))) := by
      have e1 : wrap64 ((wrap64 ((bk h l[i]).f1 - (bk h l[i]).f0)) + 1) = ((l[i].2 - l[i].1 : Nat) : Int) := by
        simp only [bk]
        rw [w64 (x := (l[i].2 : Int) - 1 - l[i].1) (by omega) (by omega), w64 (by omega) (by omega)]
        omega
      rw [e1]
      unfold api_Rat.f
      rw [if_pos (by simp), if_pos (by simp), if_pos (by omega), if_pos (by omega)]
      congr 1
      rw [Int.toNat_natCast]
      have : ∀ (n : Nat) (x : S33), (List.replicate n [x]).flatten = List.replicate n x := by
        intro n x
        induction n with
        | zero => rfl
        | succ n ih => rw [List.replicate_succ, List.flatten_cons, ih, List.replicate_succ]; rfl
      rw [this]
      rfl
    refine Tl.bind' hrep (Tl.pos (by simp; omega) ?_)
    rw [w64 (by omega) (by omega)]
    have := ih (i + 1) (acc ++ List.replicate (l[i].2 - l[i].1) (rat (M h l[i].1 l[i].2))) (by omega) (by omega) (by simp; omega)
    refine this.to ?_
    rw [List.append_assoc, drop_cons hlt]
    rfl
theorem ev_best {h : List S31} (ok : Ok h) : ∃ l, IsBest h l ∧ Tl (fun k => haze_best.f k h) l := by
  obtain ⟨l, hc, hr⟩ := ev_blocks ok
  refine ⟨row h l, Ch.row_best ok hc, ?_⟩
  unfold haze_best.f
  refine Tl.bind hr ?_
  have hl := Ch.len hc
  have := best_loop ok hc (Nat.le_refl _) (by have := ok.2.1; omega) l.length 0 [] (by omega) (by omega) (by simp)
  simpa using this
theorem ev_Best_bad {h : List S31} (hl : h.length ≤ 1000) (hv : vc h ≠ 0) : Tl (fun k => haze_Best.f k h) ([], vc h) := by
  unfold haze_Best.f
  exact Tl.bind (ev_Validate hl) (Tl.neg hv Tl.now)
theorem ev_Best {h : List S31} (ok : Ok h) {l : List S33} (hb : IsBest h l) : Tl (fun k => haze_Best.f k h) (l, 0) := by
  obtain ⟨l', hb', hr⟩ := ev_best ok
  obtain rfl := hb.unique ok hb'
  unfold haze_Best.f
  have := ev_Validate (h := h) (by have := ok.2.1; omega)
  rw [vc_ok.2 ok] at this
  exact Tl.bind this (Tl.pos rfl (Tl.bind hr Tl.now))
end Go.Proofs.Ytgdhbeccpicdcaa.Be
