-- laid by a program of this session (wip/tools): plain functions of the Go code and their contracts
-- thinned
import Derived.Test.YtboefcikdfjfmaaPx0
import Derived.Test.YtboefcikdfjfmaaPx1
import Derived.Test.YtboefcikdfjfmaaPx2
import Derived.Test.YtboefcikdfjfmaaPx6
import Derived.Test.YtboefcikdfjfmaaPx14
import Derived.Test.YtboefcikdfjfmaaPx38
import Derived.Test.YtboefcikdfjfmaaPx45
import Derived.Test.YtboefcikdfjfmaaPx51
namespace Go.Proofs.Ytboefcikdfjfmaa.P
open Go.RowKit Go.Proofs.YtboefcikdfjfmaaW.PrintWords Go.Proofs.YtboefcikdfjfmaaW.PrintLast Go.Proofs.YtboefcikdfjfmaaW.PrintMore
attribute [local go_sem] max2_int min2_int max_two min_two max_three min_three max_four min_four   -- for this text's walks alone
set_option linter.unusedVariables false
set_option linter.unusedSimpArgs false

/-! ### diaphonelaw03_AirSets: function 15 -/
mutual
def diaphonelaw03_AirSets.j0 : Nat → List Int → Bool → Int → Int → List Int → List Int → Option (Bool)
 | 0, _, _, _, _, _, _ => none
 | k + 1, x1, x20, x102000, x102001, x102002, x102003 => if x20 = true then ((diaphonelaw03_known.f k).bind fun t104 => (some t104)) else ((air_At.f k x102000 x102001 x102002 x102003 x1).bind fun bt105 => ((diaphoneref03_At.f k x102000 x102001 x102002 x102003 x1).bind fun bt110 => ((diaphoneref01_SameInts.f k bt105.1 bt110.1).bind fun t115 => (if t115 = true then (if (bt105.2.1 != bt110.2.1) = true then (diaphonelaw03_AirSets.j1 k bt105.1 bt105.2.1 true x102000 x102001 x102002 x102003) else (diaphonelaw03_AirSets.j1 k bt105.1 bt105.2.1 (bt105.2.2 != bt110.2.2) x102000 x102001 x102002 x102003)) else (diaphonelaw03_AirSets.j1 k bt105.1 bt105.2.1 true x102000 x102001 x102002 x102003)))))
def diaphonelaw03_AirSets.j1 : Nat → List Int → Bool → Bool → Int → Int → List Int → List Int → Option (Bool)
 | 0, _, _, _, _, _, _, _ => none
 | k + 1, x5, x6, x49, x102000, x102001, x102002, x102003 => if x49 = true then (none) else (if x6 = true then ((air_CheckPlan.f k x102000 x102001 x102002 x102003 x5).bind fun bt116 => ((air_Least.f k x102000 x102001 x102002 x102003).bind fun bt118 => (if bt116.2 = 0 then (if bt118.2 = 0 then (if bt116.1 ≥ bt118.1 then ((diaphonelaw03_known.f k).bind fun t120 => (some t120)) else (none)) else (none)) else (none)))) else ((diaphonelaw03_known.f k).bind fun t121 => (some t121)))
end
def diaphonelaw03_AirSets.f (k : Nat) (a0_0 : Int) (a0_1 : Int) (l0_2 : List Int) (l0_3 : List Int) (l1 : List Int) : Option (Bool) := (diaphonelaw03_Long.f a0_0 a0_1 l0_2 l0_3).bind fun t102 => (if t102 = true then (diaphonelaw03_AirSets.j0 k l1 true a0_0 a0_1 l0_2 l0_3) else ((diaphonelaw03_large.f l1).bind fun t103 => (diaphonelaw03_AirSets.j0 k l1 t103 a0_0 a0_1 l0_2 l0_3)))
theorem diaphonelaw03_AirSets.mono_l : ∀ k, (∀ y0 y1 y2 y3 y4 y5, LeO (diaphonelaw03_AirSets.j0 k y0 y1 y2 y3 y4 y5) (diaphonelaw03_AirSets.j0 (k + 1) y0 y1 y2 y3 y4 y5)) ∧ (∀ y0 y1 y2 y3 y4 y5 y6, LeO (diaphonelaw03_AirSets.j1 k y0 y1 y2 y3 y4 y5 y6) (diaphonelaw03_AirSets.j1 (k + 1) y0 y1 y2 y3 y4 y5 y6))
 | 0 => ⟨fun _ _ _ _ _ _ r h => by simp [diaphonelaw03_AirSets.j0] at h, fun _ _ _ _ _ _ _ r h => by simp [diaphonelaw03_AirSets.j1] at h⟩
 | k + 1 => by
  obtain ⟨ih0, ih1⟩ := diaphonelaw03_AirSets.mono_l k; refine ⟨?_, ?_⟩
  ·intro y0 y1 y2 y3 y4 y5; unfold diaphonelaw03_AirSets.j0; repeat' first
   | (with_reducible exact ih0 _ _ _ _ _ _)
   | (with_reducible exact ih1 _ _ _ _ _ _ _)
   | (with_reducible exact air_At.mono _ _ _ _ _ _)
   | (with_reducible exact air_CheckPlan.mono _ _ _ _ _ _)
   | (with_reducible exact air_Least.mono _ _ _ _ _)
   | (with_reducible exact diaphonelaw03_known.mono _)
   | (with_reducible exact diaphoneref01_SameInts.mono _ _ _)
   | (with_reducible exact diaphoneref03_At.mono _ _ _ _ _ _)
   | (with_reducible exact LeO.refl _)
   | (with_reducible exact LeO.none _)
   | (with_reducible refine LeO.ite ?_ ?_)
   | (with_reducible refine LeO.bind ?_ (fun _ => ?_))
   | exact ih0 _ _ _ _ _ _
   | exact ih1 _ _ _ _ _ _ _
   | exact air_At.mono _ _ _ _ _ _
   | exact air_CheckPlan.mono _ _ _ _ _ _
   | exact air_Least.mono _ _ _ _ _
   | exact diaphonelaw03_known.mono _
   | exact diaphoneref01_SameInts.mono _ _ _
   | exact diaphoneref03_At.mono _ _ _ _ _ _
   | exact LeO.none _
   | refine LeO.ite ?_ ?_
   | refine LeO.bind ?_ (fun _ => ?_)
  ·intro y0 y1 y2 y3 y4 y5 y6; unfold diaphonelaw03_AirSets.j1; repeat' first
   | (with_reducible exact ih0 _ _ _ _ _ _)
   | (with_reducible exact ih1 _ _ _ _ _ _ _)
   | (with_reducible exact air_At.mono _ _ _ _ _ _)
   | (with_reducible exact air_CheckPlan.mono _ _ _ _ _ _)
   | (with_reducible exact air_Least.mono _ _ _ _ _)
   | (with_reducible exact diaphonelaw03_known.mono _)
   | (with_reducible exact diaphoneref01_SameInts.mono _ _ _)
   | (with_reducible exact diaphoneref03_At.mono _ _ _ _ _ _)
   | (with_reducible exact LeO.refl _)
   | (with_reducible exact LeO.none _)
   | (with_reducible refine LeO.ite ?_ ?_)
   | (with_reducible refine LeO.bind ?_ (fun _ => ?_))
   | exact ih0 _ _ _ _ _ _
   | exact ih1 _ _ _ _ _ _ _
   | exact air_At.mono _ _ _ _ _ _
   | exact air_CheckPlan.mono _ _ _ _ _ _
   | exact air_Least.mono _ _ _ _ _
   | exact diaphonelaw03_known.mono _
   | exact diaphoneref01_SameInts.mono _ _ _
   | exact diaphoneref03_At.mono _ _ _ _ _ _
   | exact LeO.none _
   | refine LeO.ite ?_ ?_
   | refine LeO.bind ?_ (fun _ => ?_)
theorem diaphonelaw03_AirSets.mono : ∀ a0 a1 a2 a3 a4 k, LeO (diaphonelaw03_AirSets.f k a0 a1 a2 a3 a4) (diaphonelaw03_AirSets.f (k + 1) a0 a1 a2 a3 a4) := by
 intro a0 a1 a2 a3 a4 k; obtain ⟨ih0, ih1⟩ := diaphonelaw03_AirSets.mono_l k; unfold diaphonelaw03_AirSets.f; repeat' first
   | (with_reducible exact ih0 _ _ _ _ _ _)
   | (with_reducible exact ih1 _ _ _ _ _ _ _)
   | (with_reducible exact air_At.mono _ _ _ _ _ _)
   | (with_reducible exact air_CheckPlan.mono _ _ _ _ _ _)
   | (with_reducible exact air_Least.mono _ _ _ _ _)
   | (with_reducible exact diaphonelaw03_known.mono _)
   | (with_reducible exact diaphoneref01_SameInts.mono _ _ _)
   | (with_reducible exact diaphoneref03_At.mono _ _ _ _ _ _)
   | (with_reducible exact LeO.refl _)
   | (with_reducible exact LeO.none _)
   | (with_reducible refine LeO.ite ?_ ?_)
   | (with_reducible refine LeO.bind ?_ (fun _ => ?_))
   | exact ih0 _ _ _ _ _ _
   | exact ih1 _ _ _ _ _ _ _
   | exact air_At.mono _ _ _ _ _ _
   | exact air_CheckPlan.mono _ _ _ _ _ _
   | exact air_Least.mono _ _ _ _ _
   | exact diaphonelaw03_known.mono _
   | exact diaphoneref01_SameInts.mono _ _ _
   | exact diaphoneref03_At.mono _ _ _ _ _ _
   | exact LeO.none _
   | refine LeO.ite ?_ ?_
   | refine LeO.bind ?_ (fun _ => ?_)
set_option maxHeartbeats 8000000 in
set_option maxRecDepth 100000 in
theorem diaphonelaw03_AirSets.calls (k : Nat) (a0_0 : Int) (a0_1 : Int) (A0_2 : Option Addr) (c0_2 : Nat) (l0_2 : List Int) (A0_3 : Option Addr) (c0_3 : Nat) (l0_3 : List Int) (A1 : Option Addr) (c1 : Nat) (l1 : List Int) (r : Bool) (w : World) (hr0_2 : Kd.C (Kd.int .i64) w A0_2 l0_2.length l0_2) (hc0_2 : l0_2.length ≤ c0_2) (hr0_3 : Kd.C (Kd.int .i64) w A0_3 l0_3.length l0_3) (hc0_3 : l0_3.length ≤ c0_3) (hr1 : Kd.C (Kd.int .i64) w A1 l1.length l1) (hc1 : l1.length ≤ c1) (h : diaphonelaw03_AirSets.f k a0_0 a0_1 l0_2 l0_3 l1 = some r) :
  Calls Try.prog 15 #[.agg #[.int .i64 a0_0, .int .i64 a0_1, .slice A0_2 l0_2.length c0_2, .slice A0_3 l0_3.length c0_3], .slice A1 l1.length c1] w fun e w' => e = .returned (.bool r) ∧ Below w.heap.size w w' := by
 have hu24 := Try.underlying24; have HR0_2 := XB hr0_2; have HC0_2 := XB hc0_2; clear hr0_2 hc0_2; have HR0_3 := XB hr0_3; have HC0_3 := XB hc0_3; clear hr0_3 hc0_3; have HR1 := XB hr1; have HC1 := XB hc1; clear hr1 hc1; have HB := XB (Below.refl w.heap.size w); have H : ((diaphonelaw03_Long.f a0_0 a0_1 l0_2 l0_3).bind fun t102 => (if t102 = true then (diaphonelaw03_AirSets.j0 k l1 true a0_0 a0_1 l0_2 l0_3) else ((diaphonelaw03_large.f l1).bind fun t103 => (diaphonelaw03_AirSets.j0 k l1 t103 a0_0 a0_1 l0_2 l0_3)))) = some r := h; clear h; have HC3 := XB H; clear H; go_enter Try.func15, Try.ntmps15
 go_upto_region 1 with (first | ((with_reducible refine gate_dst (N := 2) rfl ?_); refine box_event ?hg (N := 2) ?hd (cs := #[.int .i64 a0_0, .int .i64 a0_1, .slice A0_2 l0_2.length c0_2, .slice A0_3 l0_3.length c0_3]) (t := 24) ?hr ?_; (case hd => rfl); (case hg => rfl); (case hr => first | (go_simp; done) | (go_simp; rfl)); intro gb101 hg w4 hbox hb; have n0_ := XB (Xz (by repeat (first | (with_reducible first | exact HB.out | apply Xc | apply Xa | apply Xb) | exact HB.out)) hb); have n1_ := XB (hbox); have n2_ := XB ((by rw [hg]; exact (XC (by repeat (first | (with_reducible first | exact HB.out | apply Xc | apply Xa | apply Xb) | exact HB.out))) : w.heap.size ≤ gb101)); have n3_ := XB ((by rw [hg]; exact (XC (by repeat (first | (with_reducible first | exact HB.out | apply Xc | apply Xa | apply Xb) | exact HB.out))) : w.heap.size ≤ gb101)); clear HB; have HB := n0_; have J101 := n1_; have GW101 := n2_; have E101 := n3_; clear n0_ n1_ n2_ n3_; clear hb hbox hg))
 (try simp only [Act.put, Xj, Xk, Xl])
 go_cut [20] (fun v20 wc => ∃ (kq : Nat) (x20_2 : Bool), v20 = .bool x20_2 ∧ Aside0 (diaphonelaw03_AirSets.j0 kq l1 x20_2 a0_0 a0_1 l0_2 l0_3 = some r) ∧ Aside0 (kq ≤ k) ∧ Aside0 (wc.heap[gb101]? = some (.cells #[.int .i64 a0_0, .int .i64 a0_1, (.slice A0_2 l0_2.length c0_2), (.slice A0_3 l0_3.length c0_3)] 24 (0, 0))) ∧ Aside0 (Below w.heap.size w wc))
 case first =>
  have H := HC3.out; clear HC3; replace H := Option.bind_eq_some_iff.mp H; obtain ⟨t102, A50, H⟩ := H; replace H : (if t102 = true then (diaphonelaw03_AirSets.j0 k l1 true a0_0 a0_1 l0_2 l0_3) else ((diaphonelaw03_large.f l1).bind fun t103 => (diaphonelaw03_AirSets.j0 k l1 t103 a0_0 a0_1 l0_2 l0_3))) = some r := H; have A5 := XB A50; clear A50; by_cases c6 : t102 = true
  ·subst c6; have H1 : (diaphonelaw03_AirSets.j0 k l1 true a0_0 a0_1 l0_2 l0_3) = some r := by rw [if_pos rfl] at H; exact H
   clear H; have H := H1; clear H1; have H' := XB H; clear H; have hcz7_0 : w4.cell? ⟨gb101, 0, none⟩ = some (.int .i64 a0_0) := (Xi J101.out 0).trans rfl; have hcz7_1 : w4.cell? ⟨gb101, 1, none⟩ = some (.int .i64 a0_1) := (Xi J101.out 1).trans rfl; have hcz7_2 : w4.cell? ⟨gb101, 2, none⟩ = some (.slice A0_2 l0_2.length c0_2) := (Xi J101.out 2).trans rfl; have hcz7_3 : w4.cell? ⟨gb101, 3, none⟩ = some (.slice A0_3 l0_3.length c0_3) := (Xi J101.out 3).trans rfl; have hfz7_0 := Xh J101.out 0; have hfz7_1 := Xh J101.out 1; have hfz7_2 := Xh J101.out 2; have hfz7_3 := Xh J101.out 3; go_wp2_with (first | ((with_reducible refine gate_callee (f := 17) rfl ?_); refine goesL_ (some 16) rfl rfl Try.func17 (by kernel_rfl) rfl #[.agg #[.int .i64 a0_0, .int .i64 a0_1, .slice A0_2 l0_2.length c0_2, .slice A0_3 l0_3.length c0_3]] rfl (by (try simp only [Xm, Xn, Xo]); first | done | rfl | (simp only [Xp, Xq]; rfl)) ?_; (with_reducible refine (diaphonelaw03_Long.calls a0_0 a0_1 _ _ l0_2 _ _ l0_3 true _ ?side1 ?side2 ?side3 ?side4 A5.out).mono ?_); (case side1 => repeat (first | exact (Xu HR0_2.out HB.out) | (with_reducible refine Xr ?_ _) | (with_reducible refine Xs ?_ _) | (with_reducible refine Xt ?_))); (case side2 => exact HC0_2.out); (case side3 => repeat (first | exact (Xu HR0_3.out HB.out) | (with_reducible refine Xr ?_ _) | (with_reducible refine Xs ?_ _) | (with_reducible refine Xt ?_))); (case side4 => exact HC0_3.out); rintro e w8 ⟨rfl, hb⟩; refine ⟨_, rfl, ?_⟩; have n0_ := XB (XA (g := gb101) (o := .cells #[.int .i64 a0_0, .int .i64 a0_1, .slice A0_2 l0_2.length c0_2, .slice A0_3 l0_3.length c0_3] 24 (0, 0)) (by (with_reducible repeat (first | refine Xf ?_ _ | refine Xg ?_ | refine Xe ?_ _)); exact J101.out) hb); have n1_ := XB (Xz (by repeat (first | (with_reducible first | exact HB.out | apply Xc | apply Xa | apply Xb | refine Xd ?_ E101.out) | exact HB.out)) hb); clear J101; clear HB; have J101 := n0_; have HB := n1_; clear n0_ n1_; (try clear hb); (try clear hb2); (try clear hk); (try clear hi)))
   go_meet
   case rel => exact ⟨_, (true), (by first | rfl | (simp; done) | (simp [*]; done)), H', ⟨by first | omega | exact Nat.le_refl _⟩, ⟨by (with_reducible repeat (first | refine Xf ?_ _ | refine Xg ?_ | refine Xe ?_ _)); exact J101.out⟩, ⟨by repeat (first | (with_reducible first | exact HB.out | apply Xc | apply Xa | apply Xb | refine Xd ?_ E101.out) | exact HB.out)⟩⟩
  ·replace c6 := Bool.eq_false_iff.mpr c6; subst c6; have H1 : ((diaphonelaw03_large.f l1).bind fun t103 => (diaphonelaw03_AirSets.j0 k l1 t103 a0_0 a0_1 l0_2 l0_3)) = some r := by rw [if_neg (show ¬ (false = true) by decide)] at H; exact H
   clear H; have H := H1; clear H1; replace H := Option.bind_eq_some_iff.mp H; obtain ⟨t103, A90, H⟩ := H; replace H : (diaphonelaw03_AirSets.j0 k l1 t103 a0_0 a0_1 l0_2 l0_3) = some r := H; have A9 := XB A90; clear A90; have H' := XB H; clear H; have hcz10_0 : w4.cell? ⟨gb101, 0, none⟩ = some (.int .i64 a0_0) := (Xi J101.out 0).trans rfl; have hcz10_1 : w4.cell? ⟨gb101, 1, none⟩ = some (.int .i64 a0_1) := (Xi J101.out 1).trans rfl; have hcz10_2 : w4.cell? ⟨gb101, 2, none⟩ = some (.slice A0_2 l0_2.length c0_2) := (Xi J101.out 2).trans rfl; have hcz10_3 : w4.cell? ⟨gb101, 3, none⟩ = some (.slice A0_3 l0_3.length c0_3) := (Xi J101.out 3).trans rfl; have hfz10_0 := Xh J101.out 0; have hfz10_1 := Xh J101.out 1; have hfz10_2 := Xh J101.out 2; have hfz10_3 := Xh J101.out 3; go_wp2_with (first | ((with_reducible refine gate_callee (f := 17) rfl ?_); refine goesL_ (some 16) rfl rfl Try.func17 (by kernel_rfl) rfl #[.agg #[.int .i64 a0_0, .int .i64 a0_1, .slice A0_2 l0_2.length c0_2, .slice A0_3 l0_3.length c0_3]] rfl (by (try simp only [Xm, Xn, Xo]); first | done | rfl | (simp only [Xp, Xq]; rfl)) ?_; (with_reducible refine (diaphonelaw03_Long.calls a0_0 a0_1 _ _ l0_2 _ _ l0_3 false _ ?side1 ?side2 ?side3 ?side4 A5.out).mono ?_); (case side1 => repeat (first | exact (Xu HR0_2.out HB.out) | (with_reducible refine Xr ?_ _) | (with_reducible refine Xs ?_ _) | (with_reducible refine Xt ?_))); (case side2 => exact HC0_2.out); (case side3 => repeat (first | exact (Xu HR0_3.out HB.out) | (with_reducible refine Xr ?_ _) | (with_reducible refine Xs ?_ _) | (with_reducible refine Xt ?_))); (case side4 => exact HC0_3.out); rintro e w11 ⟨rfl, hb⟩; refine ⟨_, rfl, ?_⟩; have n0_ := XB (XA (g := gb101) (o := .cells #[.int .i64 a0_0, .int .i64 a0_1, .slice A0_2 l0_2.length c0_2, .slice A0_3 l0_3.length c0_3] 24 (0, 0)) (by (with_reducible repeat (first | refine Xf ?_ _ | refine Xg ?_ | refine Xe ?_ _)); exact J101.out) hb); have n1_ := XB (Xz (by repeat (first | (with_reducible first | exact HB.out | apply Xc | apply Xa | apply Xb | refine Xd ?_ E101.out) | exact HB.out)) hb); clear J101; clear HB; have J101 := n0_; have HB := n1_; clear n0_ n1_; (try clear hb); (try clear hb2); (try clear hk); (try clear hi)) | (go_at_call 27; (with_reducible refine (diaphonelaw03_large.calls _ _ l1 t103 _ ?side1 ?side2 A9.out).mono ?_); (case side1 => repeat (first | exact (Xu HR1.out HB.out) | (with_reducible refine Xr ?_ _) | (with_reducible refine Xs ?_ _) | (with_reducible refine Xt ?_))); (case side2 => exact HC1.out); rintro e w' ⟨rfl, ⟨nd, rfl⟩⟩))
   go_meet
   case rel => exact ⟨_, (t103), (by first | rfl | (simp; done) | (simp [*]; done)), H', ⟨by first | omega | exact Nat.le_refl _⟩, ⟨by (with_reducible repeat (first | refine Xf ?_ _ | refine Xg ?_ | refine Xe ?_ _)); exact J101.out⟩, ⟨by repeat (first | (with_reducible first | exact HB.out | apply Xc | apply Xa | apply Xb | refine Xd ?_ E101.out) | exact HB.out)⟩⟩
 case rest =>
  clear HC3; try clear c1
  try clear p2
  try clear c6
  try clear hcz10_0
  try clear hcz10_1
  try clear hcz10_2
  try clear hcz10_3
  try clear hcz7_0
  try clear hcz7_1
  try clear hcz7_2
  try clear hcz7_3
  try clear hfz10_0
  try clear hfz10_1
  try clear hfz10_2
  try clear hfz10_3
  try clear hfz7_0
  try clear hfz7_1
  try clear hfz7_2
  try clear hfz7_3
  obtain ⟨kq, x20_2, rfl, HA, HJ2, J101, HB⟩ := hcut
  cases kq with
  | zero => exact absurd HA.out (by simp [diaphonelaw03_AirSets.j0])
  | succ kj2 =>
   have H := HA.out; clear HA; simp only [diaphonelaw03_AirSets.j0] at H; by_cases c12 : x20_2 = true
   ·subst c12; have H1 : ((diaphonelaw03_known.f kj2).bind fun t104 => (some t104)) = some r := by rw [if_pos rfl] at H; exact H
    clear H; have H := H1; clear H1; replace H := Option.bind_eq_some_iff.mp H; obtain ⟨t104, A130, H⟩ := H; replace H : (some t104) = some r := H; have A13 := XB A130; clear A130; obtain rfl := Option.some.inj H; go_wp2_with (first | ((with_reducible refine gate_callee (f := 18) rfl ?_); refine goesL_ (some 21) rfl rfl Try.func18 (by kernel_rfl) rfl #[] rfl (by (try simp only [Xm, Xn, Xo]); first | done | rfl | (simp only [Xp, Xq]; rfl)) ?_; (with_reducible refine (diaphonelaw03_known.calls kj2  t104 _ A13.out).mono ?_); rintro e w14 ⟨rfl, hb⟩; refine ⟨_, rfl, ?_⟩; have n0_ := XB (XA (g := gb101) (o := .cells #[.int .i64 a0_0, .int .i64 a0_1, .slice A0_2 l0_2.length c0_2, .slice A0_3 l0_3.length c0_3] 24 (0, 0)) (by (with_reducible repeat (first | refine Xf ?_ _ | refine Xg ?_ | refine Xe ?_ _)); exact J101.out) hb); have n1_ := XB (Xz (by repeat (first | (with_reducible first | exact HB.out | apply Xc | apply Xa | apply Xb | refine Xd ?_ E101.out) | exact HB.out)) hb); clear J101; clear HB; have J101 := n0_; have HB := n1_; clear n0_ n1_; (try clear hb); (try clear hb2); (try clear hk); (try clear hi)))
    go_ret
    exact ⟨by first | rfl | (simp [errW_none, errW_some] <;> rfl) | (simp [*, errW_none, errW_some] <;> rfl), by repeat (first | (with_reducible first | exact HB.out | apply Xc | apply Xa | apply Xb | refine Xd ?_ E101.out) | exact HB.out)⟩
   ·replace c12 := Bool.eq_false_iff.mpr c12; subst c12; have H1 : ((air_At.f kj2 a0_0 a0_1 l0_2 l0_3 l1).bind fun bt105 => ((diaphoneref03_At.f kj2 a0_0 a0_1 l0_2 l0_3 l1).bind fun bt110 => ((diaphoneref01_SameInts.f kj2 bt105.1 bt110.1).bind fun t115 => (if t115 = true then (if (bt105.2.1 != bt110.2.1) = true then (diaphonelaw03_AirSets.j1 kj2 bt105.1 bt105.2.1 true a0_0 a0_1 l0_2 l0_3) else (diaphonelaw03_AirSets.j1 kj2 bt105.1 bt105.2.1 (bt105.2.2 != bt110.2.2) a0_0 a0_1 l0_2 l0_3)) else (diaphonelaw03_AirSets.j1 kj2 bt105.1 bt105.2.1 true a0_0 a0_1 l0_2 l0_3))))) = some r := by rw [if_neg (show ¬ (false = true) by decide)] at H; exact H
    clear H; have H := H1; clear H1; replace H := Option.bind_eq_some_iff.mp H; obtain ⟨⟨t105, t108, t109⟩, A150, H⟩ := H; replace H : ((diaphoneref03_At.f kj2 a0_0 a0_1 l0_2 l0_3 l1).bind fun bt110 => ((diaphoneref01_SameInts.f kj2 t105 bt110.1).bind fun t115 => (if t115 = true then (if (t108 != bt110.2.1) = true then (diaphonelaw03_AirSets.j1 kj2 t105 t108 true a0_0 a0_1 l0_2 l0_3) else (diaphonelaw03_AirSets.j1 kj2 t105 t108 (t109 != bt110.2.2) a0_0 a0_1 l0_2 l0_3)) else (diaphonelaw03_AirSets.j1 kj2 t105 t108 true a0_0 a0_1 l0_2 l0_3)))) = some r := H; have A15 := XB A150; clear A150; replace H := Option.bind_eq_some_iff.mp H; obtain ⟨⟨t110, t113, t114⟩, A160, H⟩ := H; replace H : ((diaphoneref01_SameInts.f kj2 t105 t110).bind fun t115 => (if t115 = true then (if (t108 != t113) = true then (diaphonelaw03_AirSets.j1 kj2 t105 t108 true a0_0 a0_1 l0_2 l0_3) else (diaphonelaw03_AirSets.j1 kj2 t105 t108 (t109 != t114) a0_0 a0_1 l0_2 l0_3)) else (diaphonelaw03_AirSets.j1 kj2 t105 t108 true a0_0 a0_1 l0_2 l0_3))) = some r := H; have A16 := XB A160; clear A160; have HC17 := XB H; clear H; have hcz18_0 : wc.cell? ⟨gb101, 0, none⟩ = some (.int .i64 a0_0) := (Xi J101.out 0).trans rfl; have hcz18_1 : wc.cell? ⟨gb101, 1, none⟩ = some (.int .i64 a0_1) := (Xi J101.out 1).trans rfl; have hcz18_2 : wc.cell? ⟨gb101, 2, none⟩ = some (.slice A0_2 l0_2.length c0_2) := (Xi J101.out 2).trans rfl; have hcz18_3 : wc.cell? ⟨gb101, 3, none⟩ = some (.slice A0_3 l0_3.length c0_3) := (Xi J101.out 3).trans rfl
    have hfz18_0 := Xh J101.out 0; have hfz18_1 := Xh J101.out 1; have hfz18_2 := Xh J101.out 2; have hfz18_3 := Xh J101.out 3; go_upto_region 5 with (first | ((with_reducible refine gate_callee (f := 47) rfl ?_); refine goesL_ (some 25) rfl rfl Try.func47 (by kernel_rfl) rfl #[.agg #[.int .i64 a0_0, .int .i64 a0_1, .slice A0_2 l0_2.length c0_2, .slice A0_3 l0_3.length c0_3], .slice A1 l1.length c1] rfl (by (try simp only [Xm, Xn, Xo]); first | done | rfl | (simp only [Xp, Xq]; rfl)) ?_; (with_reducible refine (air_At.calls kj2 a0_0 a0_1 _ _ l0_2 _ _ l0_3 _ _ l1 t105 t108 t109 _ ?side1 ?side2 ?side3 ?side4 ?side5 ?side6 A15.out).mono ?_); (case side1 => repeat (first | exact (Xu HR0_2.out HB.out) | (with_reducible refine Xr ?_ _) | (with_reducible refine Xs ?_ _) | (with_reducible refine Xt ?_))); (case side2 => exact HC0_2.out); (case side3 => repeat (first | exact (Xu HR0_3.out HB.out) | (with_reducible refine Xr ?_ _) | (with_reducible refine Xs ?_ _) | (with_reducible refine Xt ?_))); (case side4 => exact HC0_3.out); (case side5 => repeat (first | exact (Xu HR1.out HB.out) | (with_reducible refine Xr ?_ _) | (with_reducible refine Xs ?_ _) | (with_reducible refine Xt ?_))); (case side6 => exact HC1.out); rintro e w19 ⟨v106, rfl, ho0, hb⟩; refine ⟨_, rfl, ?_⟩; have n0_ := XB (Kd.R_lower ho0 (XC (by repeat (first | (with_reducible first | exact HB.out | apply Xc | apply Xa | apply Xb | refine Xd ?_ E101.out) | exact HB.out)))); have n1_ := XB (XA (g := gb101) (o := .cells #[.int .i64 a0_0, .int .i64 a0_1, .slice A0_2 l0_2.length c0_2, .slice A0_3 l0_3.length c0_3] 24 (0, 0)) (by (with_reducible repeat (first | refine Xf ?_ _ | refine Xg ?_ | refine Xe ?_ _)); exact J101.out) hb); have n2_ := XB (Xz (by repeat (first | (with_reducible first | exact HB.out | apply Xc | apply Xa | apply Xb | refine Xd ?_ E101.out) | exact HB.out)) hb); clear J101; clear HB; have HO107 := n0_; have J101 := n1_; have HB := n2_; clear n0_ n1_ n2_; (try clear hb); (try clear hb2); (try clear hk); (try clear hi); (try clear ho0); have hcz20_0 : w19.cell? ⟨gb101, 0, none⟩ = some (.int .i64 a0_0) := (Xi J101.out 0).trans rfl; have hcz20_1 : w19.cell? ⟨gb101, 1, none⟩ = some (.int .i64 a0_1) := (Xi J101.out 1).trans rfl; have hcz20_2 : w19.cell? ⟨gb101, 2, none⟩ = some (.slice A0_2 l0_2.length c0_2) := (Xi J101.out 2).trans rfl; have hcz20_3 : w19.cell? ⟨gb101, 3, none⟩ = some (.slice A0_3 l0_3.length c0_3) := (Xi J101.out 3).trans rfl; have hfz20_0 := Xh J101.out 0; have hfz20_1 := Xh J101.out 1; have hfz20_2 := Xh J101.out 2; have hfz20_3 := Xh J101.out 3) | ((with_reducible refine gate_callee (f := 53) rfl ?_); refine goesL_ (some 32) rfl rfl Try.func53 (by kernel_rfl) rfl #[.agg #[.int .i64 a0_0, .int .i64 a0_1, .slice A0_2 l0_2.length c0_2, .slice A0_3 l0_3.length c0_3], .slice A1 l1.length c1] rfl (by (try simp only [Xm, Xn, Xo]); first | done | rfl | (simp only [Xp, Xq]; rfl)) ?_; (with_reducible refine (diaphoneref03_At.calls kj2 a0_0 a0_1 _ _ l0_2 _ _ l0_3 _ _ l1 t110 t113 t114 _ ?side1 ?side2 ?side3 ?side4 ?side5 ?side6 A16.out).mono ?_); (case side1 => repeat (first | exact (Xu HR0_2.out HB.out) | (with_reducible refine Xr ?_ _) | (with_reducible refine Xs ?_ _) | (with_reducible refine Xt ?_))); (case side2 => exact HC0_2.out); (case side3 => repeat (first | exact (Xu HR0_3.out HB.out) | (with_reducible refine Xr ?_ _) | (with_reducible refine Xs ?_ _) | (with_reducible refine Xt ?_))); (case side4 => exact HC0_3.out); (case side5 => repeat (first | exact (Xu HR1.out HB.out) | (with_reducible refine Xr ?_ _) | (with_reducible refine Xs ?_ _) | (with_reducible refine Xt ?_))); (case side6 => exact HC1.out); rintro e w21 ⟨v111, rfl, ho0, hb⟩; refine ⟨_, rfl, ?_⟩; have n0_ := XB (Kd.R_elder' (by (with_reducible repeat (first | apply Xv | apply Xw | apply Xx)); exact HO107.out) (Kd.R_base ho0) hb); have n1_ := XB (Kd.R_lower (Kd.R_new' ho0 (Kd.R_lt (by (with_reducible repeat (first | apply Xv | apply Xw | apply Xx)); exact HO107.out))) (XC (by repeat (first | (with_reducible first | exact HB.out | apply Xc | apply Xa | apply Xb | refine Xd ?_ E101.out) | exact HB.out)))); have n2_ := XB (XA (g := gb101) (o := .cells #[.int .i64 a0_0, .int .i64 a0_1, .slice A0_2 l0_2.length c0_2, .slice A0_3 l0_3.length c0_3] 24 (0, 0)) (by (with_reducible repeat (first | refine Xf ?_ _ | refine Xg ?_ | refine Xe ?_ _)); exact J101.out) hb); have n3_ := XB (Xz (by repeat (first | (with_reducible first | exact HB.out | apply Xc | apply Xa | apply Xb | refine Xd ?_ E101.out) | exact HB.out)) hb); clear HO107; clear J101; clear HB; have HO107 := n0_; have HO112 := n1_; have J101 := n2_; have HB := n3_; clear n0_ n1_ n2_ n3_; (try clear hb); (try clear hb2); (try clear hk); (try clear hi); (try clear ho0)))
    (try simp only [Act.put, Xj, Xk, Xl])
    go_cut [49] (fun v49 wc => ∃ (kq : Nat) (x49_16 : Bool), v49 = .bool x49_16 ∧ Aside0 (diaphonelaw03_AirSets.j1 kq t105 t108 x49_16 a0_0 a0_1 l0_2 l0_3 = some r) ∧ Aside0 (kq ≤ kj2) ∧ Aside0 (Kd.R (Kd.int .i64) 3 wc w.heap.size (fun _ => True) v106 t105) ∧ Aside0 (wc.heap[gb101]? = some (.cells #[.int .i64 a0_0, .int .i64 a0_1, (.slice A0_2 l0_2.length c0_2), (.slice A0_3 l0_3.length c0_3)] 24 (0, 0))) ∧ Aside0 (Below w.heap.size w wc))
    case first =>
     have H := HC17.out; clear HC17; replace H := Option.bind_eq_some_iff.mp H; obtain ⟨t115, A220, H⟩ := H; replace H : (if t115 = true then (if (t108 != t113) = true then (diaphonelaw03_AirSets.j1 kj2 t105 t108 true a0_0 a0_1 l0_2 l0_3) else (diaphonelaw03_AirSets.j1 kj2 t105 t108 (t109 != t114) a0_0 a0_1 l0_2 l0_3)) else (diaphonelaw03_AirSets.j1 kj2 t105 t108 true a0_0 a0_1 l0_2 l0_3)) = some r := H; have A22 := XB A220; clear A220; by_cases c23 : t115 = true
     ·subst c23; have H1 : (if (t108 != t113) = true then (diaphonelaw03_AirSets.j1 kj2 t105 t108 true a0_0 a0_1 l0_2 l0_3) else (diaphonelaw03_AirSets.j1 kj2 t105 t108 (t109 != t114) a0_0 a0_1 l0_2 l0_3)) = some r := by rw [if_pos rfl] at H; exact H
      clear H; have H := H1; clear H1; by_cases c24 : (t108 != t113) = true
      ·rw [if_pos c24] at H; have c24b0 : (t108 != t113) = true := c24; (try (have c24b1 : decide (t108 = t113) = false := by simpa using c24))
       (try (have c24b2 : (t108 == t113) = false := by simpa using c24))
       (try (have c24b3 : ¬ (t108 = t113) := by simpa using c24))
       clear c24; (first | rw [c24b0] | (simp only [i64_w, i32_w]; rw [c24b0]) | skip)
       have H' := XB H; clear H; obtain ⟨Ao25, co25, eo25⟩ := Kd.R_slice HO107.out; subst eo25; obtain ⟨Ao26, co26, eo26⟩ := Kd.R_slice HO112.out; subst eo26; go_wp2_with (first | ((with_reducible refine gate_callee (f := 21) rfl ?_); refine goesL_ (some 38) rfl rfl Try.func21 (by kernel_rfl) rfl #[.slice Ao25 t105.length co25, .slice Ao26 t110.length co26] rfl (by (try simp only [Xm, Xn, Xo]); first | done | rfl | (simp only [Xp, Xq]; rfl)) ?_; (with_reducible refine (diaphoneref01_SameInts.calls kj2 _ _ t105 _ _ t110 true _ ?side1 ?side2 ?side3 ?side4 A22.out).mono ?_); (case side1 => repeat (first | exact (XD HO107.out).2.2 | (with_reducible refine Xr ?_ _) | (with_reducible refine Xs ?_ _) | (with_reducible refine Xt ?_))); (case side2 => exact (XD HO107.out).2.1); (case side3 => repeat (first | exact (XD HO112.out).2.2 | (with_reducible refine Xr ?_ _) | (with_reducible refine Xs ?_ _) | (with_reducible refine Xt ?_))); (case side4 => exact (XD HO112.out).2.1); rintro e w' ⟨rfl, ⟨nd, rfl⟩⟩; refine ⟨_, rfl, ?_⟩))
       go_meet
       case rel => exact ⟨_, (true), (by first | rfl | (simp; done) | (simp [*]; done)), H', ⟨by have := HJ2.out; first | omega | exact Nat.le_refl _⟩, ⟨by (with_reducible repeat (first | apply Xv | apply Xw | apply Xx)); exact Kd.R_mono HO107.out (fun _ hk => trivial)⟩, ⟨by (with_reducible repeat (first | refine Xf ?_ _ | refine Xg ?_ | refine Xe ?_ _)); exact J101.out⟩, ⟨by repeat (first | (with_reducible first | exact HB.out | apply Xc | apply Xa | apply Xb | refine Xd ?_ E101.out) | exact HB.out)⟩⟩
      ·rw [if_neg c24] at H; have c24b0 : (t108 != t113) = false := by simpa using c24
       (try (have c24b1 : decide (t108 = t113) = true := by simpa using c24))
       (try (have c24b2 : (t108 == t113) = true := by simpa using c24))
       clear c24; (first | rw [c24b0] | (simp only [i64_w, i32_w]; rw [c24b0]) | skip)
       have H' := XB H; clear H; obtain ⟨Ao27, co27, eo27⟩ := Kd.R_slice HO107.out; subst eo27; obtain ⟨Ao28, co28, eo28⟩ := Kd.R_slice HO112.out; subst eo28; go_wp2_with (first | ((with_reducible refine gate_callee (f := 21) rfl ?_); refine goesL_ (some 38) rfl rfl Try.func21 (by kernel_rfl) rfl #[.slice Ao27 t105.length co27, .slice Ao28 t110.length co28] rfl (by (try simp only [Xm, Xn, Xo]); first | done | rfl | (simp only [Xp, Xq]; rfl)) ?_; (with_reducible refine (diaphoneref01_SameInts.calls kj2 _ _ t105 _ _ t110 true _ ?side1 ?side2 ?side3 ?side4 A22.out).mono ?_); (case side1 => repeat (first | exact (XD HO107.out).2.2 | (with_reducible refine Xr ?_ _) | (with_reducible refine Xs ?_ _) | (with_reducible refine Xt ?_))); (case side2 => exact (XD HO107.out).2.1); (case side3 => repeat (first | exact (XD HO112.out).2.2 | (with_reducible refine Xr ?_ _) | (with_reducible refine Xs ?_ _) | (with_reducible refine Xt ?_))); (case side4 => exact (XD HO112.out).2.1); rintro e w' ⟨rfl, ⟨nd, rfl⟩⟩; refine ⟨_, rfl, ?_⟩))
       go_meet
       case rel => exact ⟨_, ((t109 != t114)), (by first | rfl | (simp; done) | (simp [*]; done)), H', ⟨by have := HJ2.out; first | omega | exact Nat.le_refl _⟩, ⟨by (with_reducible repeat (first | apply Xv | apply Xw | apply Xx)); exact Kd.R_mono HO107.out (fun _ hk => trivial)⟩, ⟨by (with_reducible repeat (first | refine Xf ?_ _ | refine Xg ?_ | refine Xe ?_ _)); exact J101.out⟩, ⟨by repeat (first | (with_reducible first | exact HB.out | apply Xc | apply Xa | apply Xb | refine Xd ?_ E101.out) | exact HB.out)⟩⟩
     ·replace c23 := Bool.eq_false_iff.mpr c23; subst c23; have H1 : (diaphonelaw03_AirSets.j1 kj2 t105 t108 true a0_0 a0_1 l0_2 l0_3) = some r := by rw [if_neg (show ¬ (false = true) by decide)] at H; exact H
      clear H; have H := H1; clear H1; have H' := XB H; clear H; obtain ⟨Ao29, co29, eo29⟩ := Kd.R_slice HO107.out; subst eo29; obtain ⟨Ao30, co30, eo30⟩ := Kd.R_slice HO112.out; subst eo30; go_wp2_with (first | ((with_reducible refine gate_callee (f := 21) rfl ?_); refine goesL_ (some 38) rfl rfl Try.func21 (by kernel_rfl) rfl #[.slice Ao29 t105.length co29, .slice Ao30 t110.length co30] rfl (by (try simp only [Xm, Xn, Xo]); first | done | rfl | (simp only [Xp, Xq]; rfl)) ?_; (with_reducible refine (diaphoneref01_SameInts.calls kj2 _ _ t105 _ _ t110 false _ ?side1 ?side2 ?side3 ?side4 A22.out).mono ?_); (case side1 => repeat (first | exact (XD HO107.out).2.2 | (with_reducible refine Xr ?_ _) | (with_reducible refine Xs ?_ _) | (with_reducible refine Xt ?_))); (case side2 => exact (XD HO107.out).2.1); (case side3 => repeat (first | exact (XD HO112.out).2.2 | (with_reducible refine Xr ?_ _) | (with_reducible refine Xs ?_ _) | (with_reducible refine Xt ?_))); (case side4 => exact (XD HO112.out).2.1); rintro e w' ⟨rfl, ⟨nd, rfl⟩⟩; refine ⟨_, rfl, ?_⟩))
      go_meet
      case rel => exact ⟨_, (true), (by first | rfl | (simp; done) | (simp [*]; done)), H', ⟨by have := HJ2.out; first | omega | exact Nat.le_refl _⟩, ⟨by (with_reducible repeat (first | apply Xv | apply Xw | apply Xx)); exact Kd.R_mono HO107.out (fun _ hk => trivial)⟩, ⟨by (with_reducible repeat (first | refine Xf ?_ _ | refine Xg ?_ | refine Xe ?_ _)); exact J101.out⟩, ⟨by repeat (first | (with_reducible first | exact HB.out | apply Xc | apply Xa | apply Xb | refine Xd ?_ E101.out) | exact HB.out)⟩⟩
    case rest =>
     clear HC17; try clear c1
     try clear c2
     try clear p2
     try clear c4
     try clear c5
     try clear c6
     try clear c12
     try clear c15
     try clear c17
     try clear c18
     try clear c21
     try clear c23
     try clear c24
     try clear c24b0
     try clear c24b1
     try clear c24b2
     try clear hcz10_0
     try clear hcz10_1
     try clear hcz10_2
     try clear hcz10_3
     try clear hcz18_0
     try clear hcz18_1
     try clear hcz18_2
     try clear hcz18_3
     try clear hcz20_0
     try clear hcz20_1
     try clear hcz20_2
     try clear hcz20_3
     try clear hcz7_0
     try clear hcz7_1
     try clear hcz7_2
     try clear hcz7_3
     try clear hfz10_0
     try clear hfz10_1
     try clear hfz10_2
     try clear hfz10_3
     try clear hfz18_0
     try clear hfz18_1
     try clear hfz18_2
     try clear hfz18_3
     try clear hfz20_0
     try clear hfz20_1
     try clear hfz20_2
     try clear hfz20_3
     try clear hfz7_0
     try clear hfz7_1
     try clear hfz7_2
     try clear hfz7_3
     try clear p2
     obtain ⟨kq, x49_16, rfl, HA, HJ16, HO_5, J101, HB⟩ := hcut
     cases kq with
     | zero => exact absurd HA.out (by simp [diaphonelaw03_AirSets.j1])
     | succ kj16 =>
      have H := HA.out; clear HA; simp only [diaphonelaw03_AirSets.j1] at H; by_cases c31 : x49_16 = true
      ·subst c31; have H1 : (none) = some r := by rw [if_pos rfl] at H; exact H
       exact absurd H1 (by simp)
      ·replace c31 := Bool.eq_false_iff.mpr c31; subst c31; have H1 : (if t108 = true then ((air_CheckPlan.f kj16 a0_0 a0_1 l0_2 l0_3 t105).bind fun bt116 => ((air_Least.f kj16 a0_0 a0_1 l0_2 l0_3).bind fun bt118 => (if bt116.2 = 0 then (if bt118.2 = 0 then (if bt116.1 ≥ bt118.1 then ((diaphonelaw03_known.f kj16).bind fun t120 => (some t120)) else (none)) else (none)) else (none)))) else ((diaphonelaw03_known.f kj16).bind fun t121 => (some t121))) = some r := by rw [if_neg (show ¬ (false = true) by decide)] at H; exact H
       clear H; have H := H1; clear H1; by_cases c32 : t108 = true
       ·subst c32; have H1 : ((air_CheckPlan.f kj16 a0_0 a0_1 l0_2 l0_3 t105).bind fun bt116 => ((air_Least.f kj16 a0_0 a0_1 l0_2 l0_3).bind fun bt118 => (if bt116.2 = 0 then (if bt118.2 = 0 then (if bt116.1 ≥ bt118.1 then ((diaphonelaw03_known.f kj16).bind fun t120 => (some t120)) else (none)) else (none)) else (none)))) = some r := by rw [if_pos rfl] at H; exact H
        clear H; have H := H1; clear H1; replace H := Option.bind_eq_some_iff.mp H; obtain ⟨⟨t116, t117⟩, A330, H⟩ := H; replace H : ((air_Least.f kj16 a0_0 a0_1 l0_2 l0_3).bind fun bt118 => (if t117 = 0 then (if bt118.2 = 0 then (if t116 ≥ bt118.1 then ((diaphonelaw03_known.f kj16).bind fun t120 => (some t120)) else (none)) else (none)) else (none))) = some r := H; have A33 := XB A330; clear A330; replace H := Option.bind_eq_some_iff.mp H; obtain ⟨⟨t118, t119⟩, A340, H⟩ := H; replace H : (if t117 = 0 then (if t119 = 0 then (if t116 ≥ t118 then ((diaphonelaw03_known.f kj16).bind fun t120 => (some t120)) else (none)) else (none)) else (none)) = some r := H; have A34 := XB A340; clear A340; by_cases c35 : t117 = 0
        ·rw [if_pos c35] at H; have c35b0 : (t117 == 0) = true := beq_iff_eq.mpr c35; have c35b1 : (t117 != 0) = false := bne_eq_false_iff_eq.mpr c35; clear c35; by_cases c36 : t119 = 0
         ·rw [if_pos c36] at H; have c36b0 : (t119 == 0) = true := beq_iff_eq.mpr c36; have c36b1 : (t119 != 0) = false := bne_eq_false_iff_eq.mpr c36; clear c36; by_cases c37 : t116 ≥ t118
          ·rw [if_pos c37] at H; have c37b0 : decide (t118 ≤ t116) = true := decide_eq_true c37; clear c37; replace H := Option.bind_eq_some_iff.mp H; obtain ⟨t120, A380, H⟩ := H; replace H : (some t120) = some r := H; have A38 := XB A380; clear A380; obtain rfl := Option.some.inj H; have hcz39_0 : wc.cell? ⟨gb101, 0, none⟩ = some (.int .i64 a0_0) := (Xi J101.out 0).trans rfl; have hcz39_1 : wc.cell? ⟨gb101, 1, none⟩ = some (.int .i64 a0_1) := (Xi J101.out 1).trans rfl; have hcz39_2 : wc.cell? ⟨gb101, 2, none⟩ = some (.slice A0_2 l0_2.length c0_2) := (Xi J101.out 2).trans rfl; have hcz39_3 : wc.cell? ⟨gb101, 3, none⟩ = some (.slice A0_3 l0_3.length c0_3) := (Xi J101.out 3).trans rfl; have hfz39_0 := Xh J101.out 0; have hfz39_1 := Xh J101.out 1; have hfz39_2 := Xh J101.out 2; have hfz39_3 := Xh J101.out 3; obtain ⟨Ao40, co40, eo40⟩ := Kd.R_slice HO_5.out; subst eo40; go_wp2_with (first | ((with_reducible refine gate_callee (f := 41) rfl ?_); refine goesL_ (some 56) rfl rfl Try.func41 (by kernel_rfl) rfl #[.agg #[.int .i64 a0_0, .int .i64 a0_1, .slice A0_2 l0_2.length c0_2, .slice A0_3 l0_3.length c0_3], .slice Ao40 t105.length co40] rfl (by (try simp only [Xm, Xn, Xo]); first | done | rfl | (simp only [Xp, Xq]; rfl)) ?_; (with_reducible refine (air_CheckPlan.calls kj16 a0_0 a0_1 _ _ l0_2 _ _ l0_3 _ _ t105 t116 t117 _ ?side1 ?side2 ?side3 ?side4 ?side5 ?side6 A33.out).mono ?_); (case side1 => repeat (first | exact (Xu HR0_2.out HB.out) | (with_reducible refine Xr ?_ _) | (with_reducible refine Xs ?_ _) | (with_reducible refine Xt ?_))); (case side2 => exact HC0_2.out); (case side3 => repeat (first | exact (Xu HR0_3.out HB.out) | (with_reducible refine Xr ?_ _) | (with_reducible refine Xs ?_ _) | (with_reducible refine Xt ?_))); (case side4 => exact HC0_3.out); (case side5 => repeat (first | exact (XD HO_5.out).2.2 | (with_reducible refine Xr ?_ _) | (with_reducible refine Xs ?_ _) | (with_reducible refine Xt ?_))); (case side6 => exact (XD HO_5.out).2.1); rintro e w41 ⟨rfl, hb⟩; refine ⟨_, rfl, ?_⟩; have n0_ := XB (Xy (by (with_reducible repeat (first | apply Xv | apply Xw | apply Xx)); exact HO_5.out) hb); have n1_ := XB (XA (g := gb101) (o := .cells #[.int .i64 a0_0, .int .i64 a0_1, .slice A0_2 l0_2.length c0_2, .slice A0_3 l0_3.length c0_3] 24 (0, 0)) (by (with_reducible repeat (first | refine Xf ?_ _ | refine Xg ?_ | refine Xe ?_ _)); exact J101.out) hb); have n2_ := XB (Xz (by repeat (first | (with_reducible first | exact HB.out | apply Xc | apply Xa | apply Xb | refine Xd ?_ E101.out) | exact HB.out)) hb); clear HO_5; clear J101; clear HB; have HO_5 := n0_; have J101 := n1_; have HB := n2_; clear n0_ n1_ n2_; (try clear hb); (try clear hb2); (try clear hk); (try clear hi); have hcz42_0 : w41.cell? ⟨gb101, 0, none⟩ = some (.int .i64 a0_0) := (Xi J101.out 0).trans rfl; have hcz42_1 : w41.cell? ⟨gb101, 1, none⟩ = some (.int .i64 a0_1) := (Xi J101.out 1).trans rfl; have hcz42_2 : w41.cell? ⟨gb101, 2, none⟩ = some (.slice A0_2 l0_2.length c0_2) := (Xi J101.out 2).trans rfl; have hcz42_3 : w41.cell? ⟨gb101, 3, none⟩ = some (.slice A0_3 l0_3.length c0_3) := (Xi J101.out 3).trans rfl; have hfz42_0 := Xh J101.out 0; have hfz42_1 := Xh J101.out 1; have hfz42_2 := Xh J101.out 2; have hfz42_3 := Xh J101.out 3) | ((with_reducible refine gate_callee (f := 22) rfl ?_); refine goesL_ (some 61) rfl rfl Try.func22 (by kernel_rfl) rfl #[.agg #[.int .i64 a0_0, .int .i64 a0_1, .slice A0_2 l0_2.length c0_2, .slice A0_3 l0_3.length c0_3]] rfl (by (try simp only [Xm, Xn, Xo]); first | done | rfl | (simp only [Xp, Xq]; rfl)) ?_; (with_reducible refine (air_Least.calls kj16 a0_0 a0_1 _ _ l0_2 _ _ l0_3 t118 t119 _ ?side1 ?side2 ?side3 ?side4 A34.out).mono ?_); (case side1 => repeat (first | exact (Xu HR0_2.out HB.out) | (with_reducible refine Xr ?_ _) | (with_reducible refine Xs ?_ _) | (with_reducible refine Xt ?_))); (case side2 => exact HC0_2.out); (case side3 => repeat (first | exact (Xu HR0_3.out HB.out) | (with_reducible refine Xr ?_ _) | (with_reducible refine Xs ?_ _) | (with_reducible refine Xt ?_))); (case side4 => exact HC0_3.out); rintro e w43 ⟨rfl, hb⟩; refine ⟨_, rfl, ?_⟩; have n0_ := XB (Xy (by (with_reducible repeat (first | apply Xv | apply Xw | apply Xx)); exact HO_5.out) hb); have n1_ := XB (XA (g := gb101) (o := .cells #[.int .i64 a0_0, .int .i64 a0_1, .slice A0_2 l0_2.length c0_2, .slice A0_3 l0_3.length c0_3] 24 (0, 0)) (by (with_reducible repeat (first | refine Xf ?_ _ | refine Xg ?_ | refine Xe ?_ _)); exact J101.out) hb); have n2_ := XB (Xz (by repeat (first | (with_reducible first | exact HB.out | apply Xc | apply Xa | apply Xb | refine Xd ?_ E101.out) | exact HB.out)) hb); clear HO_5; clear J101; clear HB; have HO_5 := n0_; have J101 := n1_; have HB := n2_; clear n0_ n1_ n2_; (try clear hb); (try clear hb2); (try clear hk); (try clear hi)) | (go_at_call 18; (with_reducible refine (diaphonelaw03_known.calls kj16  t120 _ A38.out).mono ?_); rintro e w44 ⟨rfl, hb⟩; have n0_ := XB (Xy (by (with_reducible repeat (first | apply Xv | apply Xw | apply Xx)); exact HO_5.out) hb); have n1_ := XB (XA (g := gb101) (o := .cells #[.int .i64 a0_0, .int .i64 a0_1, .slice A0_2 l0_2.length c0_2, .slice A0_3 l0_3.length c0_3] 24 (0, 0)) (by (with_reducible repeat (first | refine Xf ?_ _ | refine Xg ?_ | refine Xe ?_ _)); exact J101.out) hb); have n2_ := XB (Xz (by repeat (first | (with_reducible first | exact HB.out | apply Xc | apply Xa | apply Xb | refine Xd ?_ E101.out) | exact HB.out)) hb); clear HO_5; clear J101; clear HB; have HO_5 := n0_; have J101 := n1_; have HB := n2_; clear n0_ n1_ n2_; (try clear hb); (try clear hb2); (try clear hk); (try clear hi)))
           go_ret
           exact ⟨by first | rfl | (simp [errW_none, errW_some] <;> rfl) | (simp [*, errW_none, errW_some] <;> rfl), by repeat (first | (with_reducible first | exact HB.out | apply Xc | apply Xa | apply Xb | refine Xd ?_ E101.out) | exact HB.out)⟩
          ·rw [if_neg c37] at H; exact absurd H (by simp)
         ·rw [if_neg c36] at H; exact absurd H (by simp)
        ·rw [if_neg c35] at H; exact absurd H (by simp)
       ·replace c32 := Bool.eq_false_iff.mpr c32; subst c32; have H1 : ((diaphonelaw03_known.f kj16).bind fun t121 => (some t121)) = some r := by rw [if_neg (show ¬ (false = true) by decide)] at H; exact H
        clear H; have H := H1; clear H1; replace H := Option.bind_eq_some_iff.mp H; obtain ⟨t121, A600, H⟩ := H; replace H : (some t121) = some r := H; have A60 := XB A600; clear A600; obtain rfl := Option.some.inj H; go_wp2_with (first | ((with_reducible refine gate_callee (f := 18) rfl ?_); refine goesL_ (some 52) rfl rfl Try.func18 (by kernel_rfl) rfl #[] rfl (by (try simp only [Xm, Xn, Xo]); first | done | rfl | (simp only [Xp, Xq]; rfl)) ?_; (with_reducible refine (diaphonelaw03_known.calls kj16  t121 _ A60.out).mono ?_); rintro e w61 ⟨rfl, hb⟩; refine ⟨_, rfl, ?_⟩; have n0_ := XB (Xy (by (with_reducible repeat (first | apply Xv | apply Xw | apply Xx)); exact HO_5.out) hb); have n1_ := XB (XA (g := gb101) (o := .cells #[.int .i64 a0_0, .int .i64 a0_1, .slice A0_2 l0_2.length c0_2, .slice A0_3 l0_3.length c0_3] 24 (0, 0)) (by (with_reducible repeat (first | refine Xf ?_ _ | refine Xg ?_ | refine Xe ?_ _)); exact J101.out) hb); have n2_ := XB (Xz (by repeat (first | (with_reducible first | exact HB.out | apply Xc | apply Xa | apply Xb | refine Xd ?_ E101.out) | exact HB.out)) hb); clear HO_5; clear J101; clear HB; have HO_5 := n0_; have J101 := n1_; have HB := n2_; clear n0_ n1_ n2_; (try clear hb); (try clear hb2); (try clear hk); (try clear hi)))
        go_ret
        exact ⟨by first | rfl | (simp [errW_none, errW_some] <;> rfl) | (simp [*, errW_none, errW_some] <;> rfl), by repeat (first | (with_reducible first | exact HB.out | apply Xc | apply Xa | apply Xb | refine Xd ?_ E101.out) | exact HB.out)⟩

end Go.Proofs.Ytboefcikdfjfmaa.P
