/- Plans: what the program says of their stock. -/
import Derived.Test.YtboefcikdfjfmaaPb
import Derived.Test.YtboefcikdfjfmaaPx35
import Derived.Test.YtboefcikdfjfmaaPx36
import Derived.Test.YtboefcikdfjfmaaPx37
set_option linter.unusedVariables false
namespace Go.Proofs.Ytboefcikdfjfmaa.Pn
open Go.RowKit Go.Proofs.Ytboefcikdfjfmaa.P Go.Proofs.Ytboefcikdfjfmaa.E Go.Proofs.Ytboefcikdfjfmaa.Am Go.Proofs.Ytboefcikdfjfmaa.Va Go.Proofs.Ytboefcikdfjfmaa.Fi Go.Proofs.YtboefcikdfjfmaaW.PrintMore Go.Proofs.YtboefcikdfjfmaaW.PrintWords
variable {a0 a1 : Int} {c d x : List Int}
theorem stock_loop (ok : Ok a0 a1 c d) (hx : Small x) (hl : x.length = d.length) (e : Nat) : ∀ i : Nat, i ≤ d.length → d.length - i = e →
    Tl (fun k => air_stock.l0 k (stl d x i) (sk d x i) x (x.length : Int) (i : Int) a0 a1 c d) (stl d x d.length) := by
  have := ok.n2
  induction e with
  | zero =>
    intro i h1 h2
    obtain rfl : i = d.length := by omega
    refine Tl.succ ?_
    simp only [air_stock.l0]
    exact Tl.neg (by omega) Tl.now
  | succ e ih =>
    intro i h1 h2
    refine Tl.succ ?_
    simp only [air_stock.l0]
    have hll := stl_len d x i
    refine Tl.pos (by omega) (Tl.pos (by omega) (Tl.pos (by omega) (Tl.pos (by omega) (Tl.pos (by omega) ?_))))
    rw [rd_fl, rd_fl, stock_val ok hx (by omega), w64 (by omega) (by omega), ← stl_succ]
    exact ih (i + 1) (by omega) (by omega)
theorem ev_stock (ok : Ok a0 a1 c d) (hx : Small x) (hl : x.length = d.length) : Tl (fun k => air_stock.f k a0 a1 c d x) (stl d x d.length) := by
  unfold air_stock.f
  exact stock_loop ok hx hl d.length 0 (by omega) (by omega)
theorem mn_mq (l : List Int) (n : Nat) : slices_Min_int_int.mn l n = mq (fl l) n := by
  induction n with
  | zero => simp only [slices_Min_int_int.mn, mq]; exact rd_fl l 0
  | succ n ih => simp only [slices_Min_int_int.mn, mq, ih, rd_fl]
theorem ev_planned (ok : Ok a0 a1 c d) (hl : x.length ≤ 1000) {r : Int} (hr : Pe d x r) : Tl (fun k => air_planned.f k a0 a1 c d x) r := by
  unfold air_planned.f
  obtain ⟨h1, h2, h3⟩ := hr
  have hn1 := ok.n1
  have hn2 := ok.n2
  refine Tl.bind' (ev_Validate (by have := ok.cl; omega) (by omega)) (Tl.pos (vc_ok.2 ok) (Tl.bind' (ev_all hl _ _) ?_))
  by_cases c1 : allb x d.length 600 = true
  · obtain ⟨hx, hxl⟩ := small_of c1
    have hll := stl_len d x d.length
    have em : slices_Min_int_int.f (stl d x d.length) = some (mq (fl (stl d x d.length)) (d.length - 1)) := by
      unfold slices_Min_int_int.f
      rw [if_pos (by omega), mn_mq, hll]
    refine Tl.pos c1 (Tl.bind (ev_stock ok hx hxl) (Tl.bind' em ?_))
    by_cases c2 : mq (fl (stl d x d.length)) (d.length - 1) < 0
    · refine (Tl.pos c2 Tl.now).to (h3 c1 (fun q => ?_)).symm
      obtain ⟨s, g1, g2⟩ := mq_ex (fl (stl d x d.length)) (d.length - 1)
      rw [stl_fl d x (by omega)] at g2
      have := q.1 s (by omega)
      omega
    · refine Tl.neg c2 ?_
      rw [last_val ok, rd_fl, last_fl ok]
      refine Tl.pos (by omega) (Tl.pos (by omega) ?_)
      by_cases c3 : sk d x d.length = 0
      · refine (Tl.pos c3 Tl.now).to (h2 c1 ⟨fun i hi => ?_, c3⟩).symm
        have := mq_le (fl (stl d x d.length)) (d.length - 1) i (by omega)
        rw [stl_fl d x hi] at this
        omega
      · exact (Tl.neg c3 Tl.now).to (h3 c1 (fun q => c3 q.2)).symm
  · exact (Tl.neg c1 Tl.now).to (h1 (by simpa using c1)).symm
theorem ev_planned_no (h1 : c.length ≤ 1000) (h2 : d.length ≤ 1000) (no : vc a0 a1 c d ≠ 0) (x : List Int) : Tl (fun k => air_planned.f k a0 a1 c d x) (vc a0 a1 c d) := by
  unfold air_planned.f
  exact Tl.bind' (ev_Validate h1 h2) (Tl.neg no Tl.now)
end Go.Proofs.Ytboefcikdfjfmaa.Pn
/- Plans: what the program says of their cost. -/
set_option linter.unusedVariables false
namespace Go.Proofs.Ytboefcikdfjfmaa.Pn
open Go.RowKit Go.Proofs.Ytboefcikdfjfmaa.P Go.Proofs.Ytboefcikdfjfmaa.E Go.Proofs.Ytboefcikdfjfmaa.Am Go.Proofs.Ytboefcikdfjfmaa.Va Go.Proofs.Ytboefcikdfjfmaa.Fi Go.Proofs.YtboefcikdfjfmaaW.PrintMore Go.Proofs.YtboefcikdfjfmaaW.PrintWords
variable {a0 a1 : Int} {c d x : List Int}
theorem cost_loop (ok : Ok a0 a1 c d) (hx : Small x) (hl : x.length = d.length) (e : Nat) : ∀ i : Nat, i ≤ d.length → d.length - i = e →
    Tl (fun k => air_cost.l0 k x (cs a0 a1 c d x i) (stl d x d.length) ((stl d x d.length).length : Int) (i : Int) a0 a1 c d) (cs a0 a1 c d x d.length) := by
  have := ok.n2
  have hll := stl_len d x d.length
  have hcl := ok.cl
  induction e with
  | zero =>
    intro i h1 h2
    obtain rfl : i = d.length := by omega
    refine Tl.succ ?_
    simp only [air_cost.l0]
    exact Tl.neg (by omega) Tl.now
  | succ e ih =>
    intro i h1 h2
    have hi : i < d.length := by omega
    refine Tl.succ ?_
    simp only [air_cost.l0]
    refine Tl.pos (by omega) (Tl.pos (by omega) (Tl.pos (by omega) (Tl.pos (by omega) ?_)))
    rw [rd_fl, rd_fl, rd_fl, stl_fl d x hi, w64 (x := (i : Int) + 1) (by omega) (by omega)]
    by_cases h3 : 0 < fl x i
    · refine Tl.pos h3 (Tl.pos (by omega) ?_)
      rw [cost_val1 ok hx hi h3]
      exact ih (i + 1) (by omega) (by omega)
    · refine Tl.neg h3 (Tl.pos (by omega) ?_)
      rw [cost_val2 ok hx hi h3]
      exact ih (i + 1) (by omega) (by omega)
theorem ev_cost (ok : Ok a0 a1 c d) (hx : Small x) (hl : x.length = d.length) : Tl (fun k => air_cost.f k a0 a1 c d x) (cs a0 a1 c d x d.length) := by
  unfold air_cost.f
  exact Tl.bind (ev_stock ok hx hl) (cost_loop ok hx hl d.length 0 (by omega) (by omega))
end Go.Proofs.Ytboefcikdfjfmaa.Pn
