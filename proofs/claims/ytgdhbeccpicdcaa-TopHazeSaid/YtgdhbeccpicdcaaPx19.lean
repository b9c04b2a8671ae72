-- laid by a program of this session (wip/tools): plain functions of the Go code and their contracts
-- thinned3
-- thinned
import Derived.Test.YtgdhbeccpicdcaaPx0
namespace Go.Proofs.Ytgdhbeccpicdcaa.P
open Go.RowKit Go.Proofs.YtgdhbeccpicdcaaW.PrintWords Go.Proofs.YtgdhbeccpicdcaaW.PrintLast Go.Proofs.YtgdhbeccpicdcaaW.PrintMore
attribute [local go_sem] max2_int min2_int max_two min_two max_three min_three max_four min_four   -- for this text's walks alone
set_option linter.unusedVariables false
set_option linter.unusedSimpArgs false

/-! ### haze_copied: function 66 -/
def haze_copied.f (l0 : List (S31)) : Option (List (S31)) := if 0 < l0.length then (if l0.length ≤ 1000000 then (some l0) else none) else none
set_option maxHeartbeats 8000000 in
set_option maxRecDepth 100000 in
theorem haze_copied.calls (A0 : Option Addr) (c0 : Nat) (l0 : List (S31)) (r : List (S31)) (w : World) (hr0 : Kd.C k31 w A0 l0.length l0) (hc0 : l0.length ≤ c0) (h : haze_copied.f l0 = some r) :
  Calls Try.prog 66 #[.slice A0 l0.length c0] w fun e w' => ∃ v0_ : Value, e = .returned (v0_) ∧ Kd.R k31 31 w' w.heap.size (fun _ => True) v0_ r ∧ Below w.heap.size w w' := by
 have H1 : Hid (0 < l0.length) := by
  (unfold haze_copied.f at h; split at h); (assumption); (cases h)
 have H2 : Hid (l0.length ≤ 1000000) := by
  (unfold haze_copied.f at h; rw [if_pos H1.out] at h; split at h); (assumption); (cases h)
 obtain rfl : l0 = r := by
  unfold haze_copied.f at h; rw [if_pos H1.out, if_pos H2.out] at h; exact Option.some.inj h
 clear h; have HR0 := XB hr0; have HC0 := XB hc0; clear hr0 hc0; have HF : Go.Proofs.YtgdhbeccpicdcaaW.PrintHand.Flat k31 := by
  exact Go.Proofs.YtgdhbeccpicdcaaW.PrintHand.flat_pair_2
 (((go_enter Try.func66, Try.ntmps66); go_wp2_with (first | ((with_reducible refine gate_dst (N := 6) rfl ?_); refine Kd.R_make k31 _ 31 rfl (N := 6) rfl 22 _ _ rfl (l0.length : Int) rfl rfl Try.underlying22 (.agg #[(.int .i64 0), (.int .i64 0)]) 16 info31 rfl (by decide) (by omega) z31 (ok := fun _ => True) (okp := fun _ => True) (k31_mkM _ _ _ z31) (fun _ hk => hk) trivial (by omega) (by have := H2.out; omega) (Below.refl _ _) (Nat.le_refl _) ?_; intro v1 w1 ho hb hg hnew; have HO := XB ho; have HB := XB hb; clear ho hb hg hnew) | (refine Go.Proofs.YtgdhbeccpicdcaaW.PrintHand.R_copy HF rfl (.tmp 7) (.tmp 8) 22 22 rfl 31 Try.underlying22 (by have := info31; revert this; cases Try.prog.info? 31 with | none => (intro h_; cases h_) | some i_ => (intro h_; simp only [Option.map_some, Option.some.injEq, Prod.mk.injEq] at h_; exact congrArg some h_.2.1)) rfl rfl HO.out (Xu HR0.out HB.out) (by simp) H1.out HB.out HB.out.size ?_; intro w2 ho2 hb2; have HO2 := XB ho2; have HB2 := XB hb2; clear ho2 hb2))); go_ret); exact ⟨_, rfl, HO2.out, HB2.out⟩


end Go.Proofs.Ytgdhbeccpicdcaa.P
