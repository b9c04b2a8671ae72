-- laid by a program of this session (wip/tools): plain functions of the Go code and their contracts
-- thinned
import Derived.Test.YtboefcikdfjfmaaPx0
import Derived.Test.YtboefcikdfjfmaaPx1
import Derived.Test.YtboefcikdfjfmaaPx2
import Derived.Test.YtboefcikdfjfmaaPx5
import Derived.Test.YtboefcikdfjfmaaPx6
import Derived.Test.YtboefcikdfjfmaaPx19
import Derived.Test.YtboefcikdfjfmaaPx20
namespace Go.Proofs.Ytboefcikdfjfmaa.P
open Go.RowKit Go.Proofs.YtboefcikdfjfmaaW.PrintWords Go.Proofs.YtboefcikdfjfmaaW.PrintLast Go.Proofs.YtboefcikdfjfmaaW.PrintMore
attribute [local go_sem] max2_int min2_int max_two min_two max_three min_three max_four min_four   -- for this text's walks alone
set_option linter.unusedVariables false
set_option linter.unusedSimpArgs false

/-! ### diaphonelaw03_AirPrices: function 5 -/
mutual
def diaphonelaw03_AirPrices.j0 : Nat → List Int → Bool → Int → Int → List Int → List Int → Option (Bool)
 | 0, _, _, _, _, _, _ => none
 | k + 1, x1, x20, x102000, x102001, x102002, x102003 => if x20 = true then ((diaphonelaw03_known.f k).bind fun t104 => (some t104)) else ((air_CheckPrices.f k x102000 x102001 x102002 x102003 x1).bind fun bt105 => ((diaphoneref03_CheckPrices.f k x102000 x102001 x102002 x102003 x1).bind fun bt107 => (if bt105.1 = bt107.1 then (diaphonelaw03_AirPrices.j1 k (bt105.2 != bt107.2) x102000 x102001 x102002 x102003) else (diaphonelaw03_AirPrices.j1 k true x102000 x102001 x102002 x102003))))
def diaphonelaw03_AirPrices.j1 : Nat → Bool → Int → Int → List Int → List Int → Option (Bool)
 | 0, _, _, _, _, _ => none
 | k + 1, x41, x102000, x102001, x102002, x102003 => if x41 = true then (none) else ((air_Prices.f k x102000 x102001 x102002 x102003).bind fun bt109 => ((air_Least.f k x102000 x102001 x102002 x102003).bind fun bt113 => (if bt109.2 = bt113.2 then (if bt109.2 = 0 then ((diaphoneref03_CheckPrices.f k x102000 x102001 x102002 x102003 bt109.1).bind fun bt115 => (if bt115.2 = 0 then (if bt115.1 = bt113.1 then ((diaphonelaw03_known.f k).bind fun t117 => (some t117)) else (none)) else (none))) else (if (bt109.1.length : Int) = 0 then ((diaphonelaw03_known.f k).bind fun t118 => (some t118)) else (none))) else (none))))
end
def diaphonelaw03_AirPrices.f (k : Nat) (a0_0 : Int) (a0_1 : Int) (l0_2 : List Int) (l0_3 : List Int) (l1 : List Int) : Option (Bool) := (diaphonelaw03_Long.f a0_0 a0_1 l0_2 l0_3).bind fun t102 => (if t102 = true then (diaphonelaw03_AirPrices.j0 k l1 true a0_0 a0_1 l0_2 l0_3) else ((diaphonelaw03_large.f l1).bind fun t103 => (diaphonelaw03_AirPrices.j0 k l1 t103 a0_0 a0_1 l0_2 l0_3)))
theorem diaphonelaw03_AirPrices.mono_l : ∀ k, (∀ y0 y1 y2 y3 y4 y5, LeO (diaphonelaw03_AirPrices.j0 k y0 y1 y2 y3 y4 y5) (diaphonelaw03_AirPrices.j0 (k + 1) y0 y1 y2 y3 y4 y5)) ∧ (∀ y0 y1 y2 y3 y4, LeO (diaphonelaw03_AirPrices.j1 k y0 y1 y2 y3 y4) (diaphonelaw03_AirPrices.j1 (k + 1) y0 y1 y2 y3 y4))
 | 0 => ⟨fun _ _ _ _ _ _ r h => by simp [diaphonelaw03_AirPrices.j0] at h, fun _ _ _ _ _ r h => by simp [diaphonelaw03_AirPrices.j1] at h⟩
 | k + 1 => by
  obtain ⟨ih0, ih1⟩ := diaphonelaw03_AirPrices.mono_l k; refine ⟨?_, ?_⟩
  ·intro y0 y1 y2 y3 y4 y5; unfold diaphonelaw03_AirPrices.j0; repeat' first
   | (with_reducible exact ih0 _ _ _ _ _ _)
   | (with_reducible exact ih1 _ _ _ _ _)
   | (with_reducible exact air_CheckPrices.mono _ _ _ _ _ _)
   | (with_reducible exact air_Least.mono _ _ _ _ _)
   | (with_reducible exact air_Prices.mono _ _ _ _ _)
   | (with_reducible exact diaphonelaw03_known.mono _)
   | (with_reducible exact diaphoneref03_CheckPrices.mono _ _ _ _ _ _)
   | (with_reducible exact LeO.refl _)
   | (with_reducible exact LeO.none _)
   | (with_reducible refine LeO.ite ?_ ?_)
   | (with_reducible refine LeO.bind ?_ (fun _ => ?_))
   | exact ih0 _ _ _ _ _ _
   | exact ih1 _ _ _ _ _
   | exact air_CheckPrices.mono _ _ _ _ _ _
   | exact air_Least.mono _ _ _ _ _
   | exact air_Prices.mono _ _ _ _ _
   | exact diaphonelaw03_known.mono _
   | exact diaphoneref03_CheckPrices.mono _ _ _ _ _ _
   | exact LeO.none _
   | refine LeO.ite ?_ ?_
   | refine LeO.bind ?_ (fun _ => ?_)
  ·intro y0 y1 y2 y3 y4; unfold diaphonelaw03_AirPrices.j1; repeat' first
   | (with_reducible exact ih0 _ _ _ _ _ _)
   | (with_reducible exact ih1 _ _ _ _ _)
   | (with_reducible exact air_CheckPrices.mono _ _ _ _ _ _)
   | (with_reducible exact air_Least.mono _ _ _ _ _)
   | (with_reducible exact air_Prices.mono _ _ _ _ _)
   | (with_reducible exact diaphonelaw03_known.mono _)
   | (with_reducible exact diaphoneref03_CheckPrices.mono _ _ _ _ _ _)
   | (with_reducible exact LeO.refl _)
   | (with_reducible exact LeO.none _)
   | (with_reducible refine LeO.ite ?_ ?_)
   | (with_reducible refine LeO.bind ?_ (fun _ => ?_))
   | exact ih0 _ _ _ _ _ _
   | exact ih1 _ _ _ _ _
   | exact air_CheckPrices.mono _ _ _ _ _ _
   | exact air_Least.mono _ _ _ _ _
   | exact air_Prices.mono _ _ _ _ _
   | exact diaphonelaw03_known.mono _
   | exact diaphoneref03_CheckPrices.mono _ _ _ _ _ _
   | exact LeO.none _
   | refine LeO.ite ?_ ?_
   | refine LeO.bind ?_ (fun _ => ?_)
theorem diaphonelaw03_AirPrices.mono : ∀ a0 a1 a2 a3 a4 k, LeO (diaphonelaw03_AirPrices.f k a0 a1 a2 a3 a4) (diaphonelaw03_AirPrices.f (k + 1) a0 a1 a2 a3 a4) := by
 intro a0 a1 a2 a3 a4 k; obtain ⟨ih0, ih1⟩ := diaphonelaw03_AirPrices.mono_l k; unfold diaphonelaw03_AirPrices.f; repeat' first
   | (with_reducible exact ih0 _ _ _ _ _ _)
   | (with_reducible exact ih1 _ _ _ _ _)
   | (with_reducible exact air_CheckPrices.mono _ _ _ _ _ _)
   | (with_reducible exact air_Least.mono _ _ _ _ _)
   | (with_reducible exact air_Prices.mono _ _ _ _ _)
   | (with_reducible exact diaphonelaw03_known.mono _)
   | (with_reducible exact diaphoneref03_CheckPrices.mono _ _ _ _ _ _)
   | (with_reducible exact LeO.refl _)
   | (with_reducible exact LeO.none _)
   | (with_reducible refine LeO.ite ?_ ?_)
   | (with_reducible refine LeO.bind ?_ (fun _ => ?_))
   | exact ih0 _ _ _ _ _ _
   | exact ih1 _ _ _ _ _
   | exact air_CheckPrices.mono _ _ _ _ _ _
   | exact air_Least.mono _ _ _ _ _
   | exact air_Prices.mono _ _ _ _ _
   | exact diaphonelaw03_known.mono _
   | exact diaphoneref03_CheckPrices.mono _ _ _ _ _ _
   | exact LeO.none _
   | refine LeO.ite ?_ ?_
   | refine LeO.bind ?_ (fun _ => ?_)
set_option maxHeartbeats 8000000 in
set_option maxRecDepth 100000 in
theorem diaphonelaw03_AirPrices.calls (k : Nat) (a0_0 : Int) (a0_1 : Int) (A0_2 : Option Addr) (c0_2 : Nat) (l0_2 : List Int) (A0_3 : Option Addr) (c0_3 : Nat) (l0_3 : List Int) (A1 : Option Addr) (c1 : Nat) (l1 : List Int) (r : Bool) (w : World) (hr0_2 : Kd.C (Kd.int .i64) w A0_2 l0_2.length l0_2) (hc0_2 : l0_2.length ≤ c0_2) (hr0_3 : Kd.C (Kd.int .i64) w A0_3 l0_3.length l0_3) (hc0_3 : l0_3.length ≤ c0_3) (hr1 : Kd.C (Kd.int .i64) w A1 l1.length l1) (hc1 : l1.length ≤ c1) (h : diaphonelaw03_AirPrices.f k a0_0 a0_1 l0_2 l0_3 l1 = some r) :
  Calls Try.prog 5 #[.agg #[.int .i64 a0_0, .int .i64 a0_1, .slice A0_2 l0_2.length c0_2, .slice A0_3 l0_3.length c0_3], .slice A1 l1.length c1] w fun e w' => e = .returned (.bool r) ∧ Below w.heap.size w w' := by
 have hu24 := Try.underlying24; have HR0_2 := XB hr0_2; have HC0_2 := XB hc0_2; clear hr0_2 hc0_2; have HR0_3 := XB hr0_3; have HC0_3 := XB hc0_3; clear hr0_3 hc0_3; have HR1 := XB hr1; have HC1 := XB hc1; clear hr1 hc1; have HB := XB (Below.refl w.heap.size w); have H : ((diaphonelaw03_Long.f a0_0 a0_1 l0_2 l0_3).bind fun t102 => (if t102 = true then (diaphonelaw03_AirPrices.j0 k l1 true a0_0 a0_1 l0_2 l0_3) else ((diaphonelaw03_large.f l1).bind fun t103 => (diaphonelaw03_AirPrices.j0 k l1 t103 a0_0 a0_1 l0_2 l0_3)))) = some r := h; clear h; have HC3 := XB H; clear H; go_enter Try.func5, Try.ntmps5
 go_upto_region 1 with (first | ((with_reducible refine gate_dst (N := 2) rfl ?_); refine box_event ?hg (N := 2) ?hd (cs := #[.int .i64 a0_0, .int .i64 a0_1, .slice A0_2 l0_2.length c0_2, .slice A0_3 l0_3.length c0_3]) (t := 24) ?hr ?_; (case hd => rfl); (case hg => rfl); (case hr => first | (go_simp; done) | (go_simp; rfl)); intro gb101 hg w4 hbox hb; have n0_ := XB (Xz (by repeat (first | (with_reducible first | exact HB.out | apply Xc | apply Xa | apply Xb) | exact HB.out)) hb); have n1_ := XB (hbox); have n2_ := XB ((by rw [hg]; exact (XC (by repeat (first | (with_reducible first | exact HB.out | apply Xc | apply Xa | apply Xb) | exact HB.out))) : w.heap.size ≤ gb101)); have n3_ := XB ((by rw [hg]; exact (XC (by repeat (first | (with_reducible first | exact HB.out | apply Xc | apply Xa | apply Xb) | exact HB.out))) : w.heap.size ≤ gb101)); clear HB; have HB := n0_; have J101 := n1_; have GW101 := n2_; have E101 := n3_; clear n0_ n1_ n2_ n3_; clear hb hbox hg))
 (try simp only [Act.put, Xj, Xk, Xl])
 go_cut [20] (fun v20 wc => ∃ (kq : Nat) (x20_2 : Bool), v20 = .bool x20_2 ∧ Aside0 (diaphonelaw03_AirPrices.j0 kq l1 x20_2 a0_0 a0_1 l0_2 l0_3 = some r) ∧ Aside0 (kq ≤ k) ∧ Aside0 (wc.heap[gb101]? = some (.cells #[.int .i64 a0_0, .int .i64 a0_1, (.slice A0_2 l0_2.length c0_2), (.slice A0_3 l0_3.length c0_3)] 24 (0, 0))) ∧ Aside0 (Below w.heap.size w wc))
 case first =>
  have H := HC3.out; clear HC3; replace H := Option.bind_eq_some_iff.mp H; obtain ⟨t102, A50, H⟩ := H; replace H : (if t102 = true then (diaphonelaw03_AirPrices.j0 k l1 true a0_0 a0_1 l0_2 l0_3) else ((diaphonelaw03_large.f l1).bind fun t103 => (diaphonelaw03_AirPrices.j0 k l1 t103 a0_0 a0_1 l0_2 l0_3))) = some r := H; have A5 := XB A50; clear A50; by_cases c6 : t102 = true
  ·subst c6; have H1 : (diaphonelaw03_AirPrices.j0 k l1 true a0_0 a0_1 l0_2 l0_3) = some r := by rw [if_pos rfl] at H; exact H
   clear H; have H := H1; clear H1; have H' := XB H; clear H; have hcz7_0 : w4.cell? ⟨gb101, 0, none⟩ = some (.int .i64 a0_0) := (Xi J101.out 0).trans rfl; have hcz7_1 : w4.cell? ⟨gb101, 1, none⟩ = some (.int .i64 a0_1) := (Xi J101.out 1).trans rfl; have hcz7_2 : w4.cell? ⟨gb101, 2, none⟩ = some (.slice A0_2 l0_2.length c0_2) := (Xi J101.out 2).trans rfl; have hcz7_3 : w4.cell? ⟨gb101, 3, none⟩ = some (.slice A0_3 l0_3.length c0_3) := (Xi J101.out 3).trans rfl; have hfz7_0 := Xh J101.out 0; have hfz7_1 := Xh J101.out 1; have hfz7_2 := Xh J101.out 2; have hfz7_3 := Xh J101.out 3; go_wp2_with (first | ((with_reducible refine gate_callee (f := 17) rfl ?_); refine goesL_ (some 16) rfl rfl Try.func17 (by kernel_rfl) rfl #[.agg #[.int .i64 a0_0, .int .i64 a0_1, .slice A0_2 l0_2.length c0_2, .slice A0_3 l0_3.length c0_3]] rfl (by (try simp only [Xm, Xn, Xo]); first | done | rfl | (simp only [Xp, Xq]; rfl)) ?_; (with_reducible refine (diaphonelaw03_Long.calls a0_0 a0_1 _ _ l0_2 _ _ l0_3 true _ ?side1 ?side2 ?side3 ?side4 A5.out).mono ?_); (case side1 => repeat (first | exact (Xu HR0_2.out HB.out) | (with_reducible refine Xr ?_ _) | (with_reducible refine Xs ?_ _) | (with_reducible refine Xt ?_))); (case side2 => exact HC0_2.out); (case side3 => repeat (first | exact (Xu HR0_3.out HB.out) | (with_reducible refine Xr ?_ _) | (with_reducible refine Xs ?_ _) | (with_reducible refine Xt ?_))); (case side4 => exact HC0_3.out); rintro e w8 ⟨rfl, hb⟩; refine ⟨_, rfl, ?_⟩; have n0_ := XB (XA (g := gb101) (o := .cells #[.int .i64 a0_0, .int .i64 a0_1, .slice A0_2 l0_2.length c0_2, .slice A0_3 l0_3.length c0_3] 24 (0, 0)) (by (with_reducible repeat (first | refine Xf ?_ _ | refine Xg ?_ | refine Xe ?_ _)); exact J101.out) hb); have n1_ := XB (Xz (by repeat (first | (with_reducible first | exact HB.out | apply Xc | apply Xa | apply Xb | refine Xd ?_ E101.out) | exact HB.out)) hb); clear J101; clear HB; have J101 := n0_; have HB := n1_; clear n0_ n1_; (try clear hb); (try clear hb2); (try clear hk); (try clear hi)))
   go_meet
   case rel => exact ⟨_, (true), (by first | rfl | (simp; done) | (simp [*]; done)), H', ⟨by first | omega | exact Nat.le_refl _⟩, ⟨by (with_reducible repeat (first | refine Xf ?_ _ | refine Xg ?_ | refine Xe ?_ _)); exact J101.out⟩, ⟨by repeat (first | (with_reducible first | exact HB.out | apply Xc | apply Xa | apply Xb | refine Xd ?_ E101.out) | exact HB.out)⟩⟩
  ·replace c6 := Bool.eq_false_iff.mpr c6; subst c6; have H1 : ((diaphonelaw03_large.f l1).bind fun t103 => (diaphonelaw03_AirPrices.j0 k l1 t103 a0_0 a0_1 l0_2 l0_3)) = some r := by rw [if_neg (show ¬ (false = true) by decide)] at H; exact H
   clear H; have H := H1; clear H1; replace H := Option.bind_eq_some_iff.mp H; obtain ⟨t103, A90, H⟩ := H; replace H : (diaphonelaw03_AirPrices.j0 k l1 t103 a0_0 a0_1 l0_2 l0_3) = some r := H; have A9 := XB A90; clear A90; have H' := XB H; clear H; have hcz10_0 : w4.cell? ⟨gb101, 0, none⟩ = some (.int .i64 a0_0) := (Xi J101.out 0).trans rfl; have hcz10_1 : w4.cell? ⟨gb101, 1, none⟩ = some (.int .i64 a0_1) := (Xi J101.out 1).trans rfl; have hcz10_2 : w4.cell? ⟨gb101, 2, none⟩ = some (.slice A0_2 l0_2.length c0_2) := (Xi J101.out 2).trans rfl; have hcz10_3 : w4.cell? ⟨gb101, 3, none⟩ = some (.slice A0_3 l0_3.length c0_3) := (Xi J101.out 3).trans rfl; have hfz10_0 := Xh J101.out 0; have hfz10_1 := Xh J101.out 1; have hfz10_2 := Xh J101.out 2; have hfz10_3 := Xh J101.out 3; go_wp2_with (first | ((with_reducible refine gate_callee (f := 17) rfl ?_); refine goesL_ (some 16) rfl rfl Try.func17 (by kernel_rfl) rfl #[.agg #[.int .i64 a0_0, .int .i64 a0_1, .slice A0_2 l0_2.length c0_2, .slice A0_3 l0_3.length c0_3]] rfl (by (try simp only [Xm, Xn, Xo]); first | done | rfl | (simp only [Xp, Xq]; rfl)) ?_; (with_reducible refine (diaphonelaw03_Long.calls a0_0 a0_1 _ _ l0_2 _ _ l0_3 false _ ?side1 ?side2 ?side3 ?side4 A5.out).mono ?_); (case side1 => repeat (first | exact (Xu HR0_2.out HB.out) | (with_reducible refine Xr ?_ _) | (with_reducible refine Xs ?_ _) | (with_reducible refine Xt ?_))); (case side2 => exact HC0_2.out); (case side3 => repeat (first | exact (Xu HR0_3.out HB.out) | (with_reducible refine Xr ?_ _) | (with_reducible refine Xs ?_ _) | (with_reducible refine Xt ?_))); (case side4 => exact HC0_3.out); rintro e w11 ⟨rfl, hb⟩; refine ⟨_, rfl, ?_⟩; have n0_ := XB (XA (g := gb101) (o := .cells #[.int .i64 a0_0, .int .i64 a0_1, .slice A0_2 l0_2.length c0_2, .slice A0_3 l0_3.length c0_3] 24 (0, 0)) (by (with_reducible repeat (first | refine Xf ?_ _ | refine Xg ?_ | refine Xe ?_ _)); exact J101.out) hb); have n1_ := XB (Xz (by repeat (first | (with_reducible first | exact HB.out | apply Xc | apply Xa | apply Xb | refine Xd ?_ E101.out) | exact HB.out)) hb); clear J101; clear HB; have J101 := n0_; have HB := n1_; clear n0_ n1_; (try clear hb); (try clear hb2); (try clear hk); (try clear hi)) | (go_at_call 27; (with_reducible refine (diaphonelaw03_large.calls _ _ l1 t103 _ ?side1 ?side2 A9.out).mono ?_); (case side1 => repeat (first | exact (Xu HR1.out HB.out) | (with_reducible refine Xr ?_ _) | (with_reducible refine Xs ?_ _) | (with_reducible refine Xt ?_))); (case side2 => exact HC1.out); rintro e w' ⟨rfl, ⟨nd, rfl⟩⟩))
   go_meet
   case rel => exact ⟨_, (t103), (by first | rfl | (simp; done) | (simp [*]; done)), H', ⟨by first | omega | exact Nat.le_refl _⟩, ⟨by (with_reducible repeat (first | refine Xf ?_ _ | refine Xg ?_ | refine Xe ?_ _)); exact J101.out⟩, ⟨by repeat (first | (with_reducible first | exact HB.out | apply Xc | apply Xa | apply Xb | refine Xd ?_ E101.out) | exact HB.out)⟩⟩
 case rest =>
  clear HC3; try clear c1
  try clear p2
  try clear c5
  try clear c6
  try clear hcz10_0
  try clear hcz10_1
  try clear hcz10_2
  try clear hcz10_3
  try clear hcz7_0
  try clear hcz7_1
  try clear hcz7_2
  try clear hcz7_3
  try clear hfz10_0
  try clear hfz10_1
  try clear hfz10_2
  try clear hfz10_3
  try clear hfz7_0
  try clear hfz7_1
  try clear hfz7_2
  try clear hfz7_3
  obtain ⟨kq, x20_2, rfl, HA, HJ2, J101, HB⟩ := hcut
  cases kq with
  | zero => exact absurd HA.out (by simp [diaphonelaw03_AirPrices.j0])
  | succ kj2 =>
   have H := HA.out; clear HA; simp only [diaphonelaw03_AirPrices.j0] at H; by_cases c12 : x20_2 = true
   ·subst c12; have H1 : ((diaphonelaw03_known.f kj2).bind fun t104 => (some t104)) = some r := by rw [if_pos rfl] at H; exact H
    clear H; have H := H1; clear H1; replace H := Option.bind_eq_some_iff.mp H; obtain ⟨t104, A130, H⟩ := H; replace H : (some t104) = some r := H; have A13 := XB A130; clear A130; obtain rfl := Option.some.inj H; go_wp2_with (first | ((with_reducible refine gate_callee (f := 18) rfl ?_); refine goesL_ (some 21) rfl rfl Try.func18 (by kernel_rfl) rfl #[] rfl (by (try simp only [Xm, Xn, Xo]); first | done | rfl | (simp only [Xp, Xq]; rfl)) ?_; (with_reducible refine (diaphonelaw03_known.calls kj2  t104 _ A13.out).mono ?_); rintro e w14 ⟨rfl, hb⟩; refine ⟨_, rfl, ?_⟩; have n0_ := XB (XA (g := gb101) (o := .cells #[.int .i64 a0_0, .int .i64 a0_1, .slice A0_2 l0_2.length c0_2, .slice A0_3 l0_3.length c0_3] 24 (0, 0)) (by (with_reducible repeat (first | refine Xf ?_ _ | refine Xg ?_ | refine Xe ?_ _)); exact J101.out) hb); have n1_ := XB (Xz (by repeat (first | (with_reducible first | exact HB.out | apply Xc | apply Xa | apply Xb | refine Xd ?_ E101.out) | exact HB.out)) hb); clear J101; clear HB; have J101 := n0_; have HB := n1_; clear n0_ n1_; (try clear hb); (try clear hb2); (try clear hk); (try clear hi)))
    go_ret
    exact ⟨by first | rfl | (simp [errW_none, errW_some] <;> rfl) | (simp [*, errW_none, errW_some] <;> rfl), by repeat (first | (with_reducible first | exact HB.out | apply Xc | apply Xa | apply Xb | refine Xd ?_ E101.out) | exact HB.out)⟩
   ·replace c12 := Bool.eq_false_iff.mpr c12; subst c12; have H1 : ((air_CheckPrices.f kj2 a0_0 a0_1 l0_2 l0_3 l1).bind fun bt105 => ((diaphoneref03_CheckPrices.f kj2 a0_0 a0_1 l0_2 l0_3 l1).bind fun bt107 => (if bt105.1 = bt107.1 then (diaphonelaw03_AirPrices.j1 kj2 (bt105.2 != bt107.2) a0_0 a0_1 l0_2 l0_3) else (diaphonelaw03_AirPrices.j1 kj2 true a0_0 a0_1 l0_2 l0_3)))) = some r := by rw [if_neg (show ¬ (false = true) by decide)] at H; exact H
    clear H; have H := H1; clear H1; replace H := Option.bind_eq_some_iff.mp H; obtain ⟨⟨t105, t106⟩, A150, H⟩ := H; replace H : ((diaphoneref03_CheckPrices.f kj2 a0_0 a0_1 l0_2 l0_3 l1).bind fun bt107 => (if t105 = bt107.1 then (diaphonelaw03_AirPrices.j1 kj2 (t106 != bt107.2) a0_0 a0_1 l0_2 l0_3) else (diaphonelaw03_AirPrices.j1 kj2 true a0_0 a0_1 l0_2 l0_3))) = some r := H; have A15 := XB A150; clear A150; replace H := Option.bind_eq_some_iff.mp H; obtain ⟨⟨t107, t108⟩, A160, H⟩ := H; replace H : (if t105 = t107 then (diaphonelaw03_AirPrices.j1 kj2 (t106 != t108) a0_0 a0_1 l0_2 l0_3) else (diaphonelaw03_AirPrices.j1 kj2 true a0_0 a0_1 l0_2 l0_3)) = some r := H; have A16 := XB A160; clear A160; have HC17 := XB H; clear H; have hcz18_0 : wc.cell? ⟨gb101, 0, none⟩ = some (.int .i64 a0_0) := (Xi J101.out 0).trans rfl; have hcz18_1 : wc.cell? ⟨gb101, 1, none⟩ = some (.int .i64 a0_1) := (Xi J101.out 1).trans rfl; have hcz18_2 : wc.cell? ⟨gb101, 2, none⟩ = some (.slice A0_2 l0_2.length c0_2) := (Xi J101.out 2).trans rfl; have hcz18_3 : wc.cell? ⟨gb101, 3, none⟩ = some (.slice A0_3 l0_3.length c0_3) := (Xi J101.out 3).trans rfl; have hfz18_0 := Xh J101.out 0; have hfz18_1 := Xh J101.out 1; have hfz18_2 := Xh J101.out 2; have hfz18_3 := Xh J101.out 3; go_upto_region 5 with (first | ((with_reducible refine gate_callee (f := 28) rfl ?_); refine goesL_ (some 25) rfl rfl Try.func28 (by kernel_rfl) rfl #[.agg #[.int .i64 a0_0, .int .i64 a0_1, .slice A0_2 l0_2.length c0_2, .slice A0_3 l0_3.length c0_3], .slice A1 l1.length c1] rfl (by (try simp only [Xm, Xn, Xo]); first | done | rfl | (simp only [Xp, Xq]; rfl)) ?_; (with_reducible refine (air_CheckPrices.calls kj2 a0_0 a0_1 _ _ l0_2 _ _ l0_3 _ _ l1 t105 t106 _ ?side1 ?side2 ?side3 ?side4 ?side5 ?side6 A15.out).mono ?_); (case side1 => repeat (first | exact (Xu HR0_2.out HB.out) | (with_reducible refine Xr ?_ _) | (with_reducible refine Xs ?_ _) | (with_reducible refine Xt ?_))); (case side2 => exact HC0_2.out); (case side3 => repeat (first | exact (Xu HR0_3.out HB.out) | (with_reducible refine Xr ?_ _) | (with_reducible refine Xs ?_ _) | (with_reducible refine Xt ?_))); (case side4 => exact HC0_3.out); (case side5 => repeat (first | exact (Xu HR1.out HB.out) | (with_reducible refine Xr ?_ _) | (with_reducible refine Xs ?_ _) | (with_reducible refine Xt ?_))); (case side6 => exact HC1.out); rintro e w19 ⟨rfl, hb⟩; refine ⟨_, rfl, ?_⟩; have n0_ := XB (XA (g := gb101) (o := .cells #[.int .i64 a0_0, .int .i64 a0_1, .slice A0_2 l0_2.length c0_2, .slice A0_3 l0_3.length c0_3] 24 (0, 0)) (by (with_reducible repeat (first | refine Xf ?_ _ | refine Xg ?_ | refine Xe ?_ _)); exact J101.out) hb); have n1_ := XB (Xz (by repeat (first | (with_reducible first | exact HB.out | apply Xc | apply Xa | apply Xb | refine Xd ?_ E101.out) | exact HB.out)) hb); clear J101; clear HB; have J101 := n0_; have HB := n1_; clear n0_ n1_; (try clear hb); (try clear hb2); (try clear hk); (try clear hi); have hcz20_0 : w19.cell? ⟨gb101, 0, none⟩ = some (.int .i64 a0_0) := (Xi J101.out 0).trans rfl; have hcz20_1 : w19.cell? ⟨gb101, 1, none⟩ = some (.int .i64 a0_1) := (Xi J101.out 1).trans rfl; have hcz20_2 : w19.cell? ⟨gb101, 2, none⟩ = some (.slice A0_2 l0_2.length c0_2) := (Xi J101.out 2).trans rfl; have hcz20_3 : w19.cell? ⟨gb101, 3, none⟩ = some (.slice A0_3 l0_3.length c0_3) := (Xi J101.out 3).trans rfl; have hfz20_0 := Xh J101.out 0; have hfz20_1 := Xh J101.out 1; have hfz20_2 := Xh J101.out 2; have hfz20_3 := Xh J101.out 3) | ((with_reducible refine gate_callee (f := 29) rfl ?_); refine goesL_ (some 31) rfl rfl Try.func29 (by kernel_rfl) rfl #[.agg #[.int .i64 a0_0, .int .i64 a0_1, .slice A0_2 l0_2.length c0_2, .slice A0_3 l0_3.length c0_3], .slice A1 l1.length c1] rfl (by (try simp only [Xm, Xn, Xo]); first | done | rfl | (simp only [Xp, Xq]; rfl)) ?_; (with_reducible refine (diaphoneref03_CheckPrices.calls kj2 a0_0 a0_1 _ _ l0_2 _ _ l0_3 _ _ l1 t107 t108 _ ?side1 ?side2 ?side3 ?side4 ?side5 ?side6 A16.out).mono ?_); (case side1 => repeat (first | exact (Xu HR0_2.out HB.out) | (with_reducible refine Xr ?_ _) | (with_reducible refine Xs ?_ _) | (with_reducible refine Xt ?_))); (case side2 => exact HC0_2.out); (case side3 => repeat (first | exact (Xu HR0_3.out HB.out) | (with_reducible refine Xr ?_ _) | (with_reducible refine Xs ?_ _) | (with_reducible refine Xt ?_))); (case side4 => exact HC0_3.out); (case side5 => repeat (first | exact (Xu HR1.out HB.out) | (with_reducible refine Xr ?_ _) | (with_reducible refine Xs ?_ _) | (with_reducible refine Xt ?_))); (case side6 => exact HC1.out); rintro e w21 ⟨rfl, hb⟩; refine ⟨_, rfl, ?_⟩; have n0_ := XB (XA (g := gb101) (o := .cells #[.int .i64 a0_0, .int .i64 a0_1, .slice A0_2 l0_2.length c0_2, .slice A0_3 l0_3.length c0_3] 24 (0, 0)) (by (with_reducible repeat (first | refine Xf ?_ _ | refine Xg ?_ | refine Xe ?_ _)); exact J101.out) hb); have n1_ := XB (Xz (by repeat (first | (with_reducible first | exact HB.out | apply Xc | apply Xa | apply Xb | refine Xd ?_ E101.out) | exact HB.out)) hb); clear J101; clear HB; have J101 := n0_; have HB := n1_; clear n0_ n1_; (try clear hb); (try clear hb2); (try clear hk); (try clear hi)))
    (try simp only [Act.put, Xj, Xk, Xl])
    go_cut [41] (fun v41 wc => ∃ (kq : Nat) (x41_16 : Bool), v41 = .bool x41_16 ∧ Aside0 (diaphonelaw03_AirPrices.j1 kq x41_16 a0_0 a0_1 l0_2 l0_3 = some r) ∧ Aside0 (kq ≤ kj2) ∧ Aside0 (wc.heap[gb101]? = some (.cells #[.int .i64 a0_0, .int .i64 a0_1, (.slice A0_2 l0_2.length c0_2), (.slice A0_3 l0_3.length c0_3)] 24 (0, 0))) ∧ Aside0 (Below w.heap.size w wc))
    case first =>
     have H := HC17.out; clear HC17; by_cases c22 : t105 = t107
     ·rw [if_pos c22] at H; have c22b0 : (t105 == t107) = true := beq_iff_eq.mpr c22; have c22b1 : (t105 != t107) = false := bne_eq_false_iff_eq.mpr c22; clear c22; (first | rw [c22b0] | (simp only [i64_w, i32_w]; rw [c22b0]) | skip)
      have H' := XB H; clear H; go_wp2
      go_meet
      case rel => exact ⟨_, ((t106 != t108)), (by first | rfl | (simp; done) | (simp [*]; done)), H', ⟨by have := HJ2.out; first | omega | exact Nat.le_refl _⟩, ⟨by (with_reducible repeat (first | refine Xf ?_ _ | refine Xg ?_ | refine Xe ?_ _)); exact J101.out⟩, ⟨by repeat (first | (with_reducible first | exact HB.out | apply Xc | apply Xa | apply Xb | refine Xd ?_ E101.out) | exact HB.out)⟩⟩
     ·rw [if_neg c22] at H; have c22b0 : (t105 == t107) = false := beq_eq_false_iff_ne.mpr c22; have c22b1 : (t105 != t107) = true := bne_iff_ne.mpr c22; (first | rw [c22b0] | (simp only [i64_w, i32_w]; rw [c22b0]) | skip)
      have H' := XB H; clear H; go_wp2
      go_meet
      case rel => exact ⟨_, (true), (by first | rfl | (simp; done) | (simp [*]; done)), H', ⟨by have := HJ2.out; first | omega | exact Nat.le_refl _⟩, ⟨by (with_reducible repeat (first | refine Xf ?_ _ | refine Xg ?_ | refine Xe ?_ _)); exact J101.out⟩, ⟨by repeat (first | (with_reducible first | exact HB.out | apply Xc | apply Xa | apply Xb | refine Xd ?_ E101.out) | exact HB.out)⟩⟩
    case rest =>
     clear HC17; try clear c1
     try clear c2
     try clear p2
     try clear c5
     try clear c6
     try clear c12
     try clear c17
     try clear c18
     try clear c22
     try clear c22b0
     try clear c22b1
     try clear hcz10_0
     try clear hcz10_1
     try clear hcz10_2
     try clear hcz10_3
     try clear hcz18_0
     try clear hcz18_1
     try clear hcz18_2
     try clear hcz18_3
     try clear hcz20_0
     try clear hcz20_1
     try clear hcz20_2
     try clear hcz20_3
     try clear hcz7_0
     try clear hcz7_1
     try clear hcz7_2
     try clear hcz7_3
     try clear hfz10_0
     try clear hfz10_1
     try clear hfz10_2
     try clear hfz10_3
     try clear hfz18_0
     try clear hfz18_1
     try clear hfz18_2
     try clear hfz18_3
     try clear hfz20_0
     try clear hfz20_1
     try clear hfz20_2
     try clear hfz20_3
     try clear hfz7_0
     try clear hfz7_1
     try clear hfz7_2
     try clear hfz7_3
     try clear p2
     obtain ⟨kq, x41_16, rfl, HA, HJ16, J101, HB⟩ := hcut
     cases kq with
     | zero => exact absurd HA.out (by simp [diaphonelaw03_AirPrices.j1])
     | succ kj16 =>
      have H := HA.out; clear HA; simp only [diaphonelaw03_AirPrices.j1] at H; by_cases c23 : x41_16 = true
      ·subst c23; have H1 : (none) = some r := by rw [if_pos rfl] at H; exact H
       exact absurd H1 (by simp)
      ·replace c23 := Bool.eq_false_iff.mpr c23; subst c23; have H1 : ((air_Prices.f kj16 a0_0 a0_1 l0_2 l0_3).bind fun bt109 => ((air_Least.f kj16 a0_0 a0_1 l0_2 l0_3).bind fun bt113 => (if bt109.2 = bt113.2 then (if bt109.2 = 0 then ((diaphoneref03_CheckPrices.f kj16 a0_0 a0_1 l0_2 l0_3 bt109.1).bind fun bt115 => (if bt115.2 = 0 then (if bt115.1 = bt113.1 then ((diaphonelaw03_known.f kj16).bind fun t117 => (some t117)) else (none)) else (none))) else (if (bt109.1.length : Int) = 0 then ((diaphonelaw03_known.f kj16).bind fun t118 => (some t118)) else (none))) else (none)))) = some r := by rw [if_neg (show ¬ (false = true) by decide)] at H; exact H
       clear H; have H := H1; clear H1; replace H := Option.bind_eq_some_iff.mp H; obtain ⟨⟨t109, t112⟩, A240, H⟩ := H; replace H : ((air_Least.f kj16 a0_0 a0_1 l0_2 l0_3).bind fun bt113 => (if t112 = bt113.2 then (if t112 = 0 then ((diaphoneref03_CheckPrices.f kj16 a0_0 a0_1 l0_2 l0_3 t109).bind fun bt115 => (if bt115.2 = 0 then (if bt115.1 = bt113.1 then ((diaphonelaw03_known.f kj16).bind fun t117 => (some t117)) else (none)) else (none))) else (if (t109.length : Int) = 0 then ((diaphonelaw03_known.f kj16).bind fun t118 => (some t118)) else (none))) else (none))) = some r := H; have A24 := XB A240; clear A240; replace H := Option.bind_eq_some_iff.mp H; obtain ⟨⟨t113, t114⟩, A250, H⟩ := H; replace H : (if t112 = t114 then (if t112 = 0 then ((diaphoneref03_CheckPrices.f kj16 a0_0 a0_1 l0_2 l0_3 t109).bind fun bt115 => (if bt115.2 = 0 then (if bt115.1 = t113 then ((diaphonelaw03_known.f kj16).bind fun t117 => (some t117)) else (none)) else (none))) else (if (t109.length : Int) = 0 then ((diaphonelaw03_known.f kj16).bind fun t118 => (some t118)) else (none))) else (none)) = some r := H; have A25 := XB A250; clear A250; by_cases c26 : t112 = t114
       ·rw [if_pos c26] at H; have c26b0 : (t112 == t114) = true := beq_iff_eq.mpr c26; have c26b1 : (t112 != t114) = false := bne_eq_false_iff_eq.mpr c26; clear c26; by_cases c27 : t112 = 0
        ·rw [if_pos c27] at H; have c27b0 : (t112 == 0) = true := beq_iff_eq.mpr c27; have c27b1 : (t112 != 0) = false := bne_eq_false_iff_eq.mpr c27; clear c27; replace H := Option.bind_eq_some_iff.mp H; obtain ⟨⟨t115, t116⟩, A280, H⟩ := H; replace H : (if t116 = 0 then (if t115 = t113 then ((diaphonelaw03_known.f kj16).bind fun t117 => (some t117)) else (none)) else (none)) = some r := H; have A28 := XB A280; clear A280; by_cases c29 : t116 = 0
         ·rw [if_pos c29] at H; have c29b0 : (t116 == 0) = true := beq_iff_eq.mpr c29; have c29b1 : (t116 != 0) = false := bne_eq_false_iff_eq.mpr c29; clear c29; by_cases c30 : t115 = t113
          ·rw [if_pos c30] at H; have c30b0 : (t115 == t113) = true := beq_iff_eq.mpr c30; have c30b1 : (t115 != t113) = false := bne_eq_false_iff_eq.mpr c30; clear c30; replace H := Option.bind_eq_some_iff.mp H; obtain ⟨t117, A310, H⟩ := H; replace H : (some t117) = some r := H; have A31 := XB A310; clear A310; obtain rfl := Option.some.inj H; have hcz32_0 : wc.cell? ⟨gb101, 0, none⟩ = some (.int .i64 a0_0) := (Xi J101.out 0).trans rfl; have hcz32_1 : wc.cell? ⟨gb101, 1, none⟩ = some (.int .i64 a0_1) := (Xi J101.out 1).trans rfl; have hcz32_2 : wc.cell? ⟨gb101, 2, none⟩ = some (.slice A0_2 l0_2.length c0_2) := (Xi J101.out 2).trans rfl; have hcz32_3 : wc.cell? ⟨gb101, 3, none⟩ = some (.slice A0_3 l0_3.length c0_3) := (Xi J101.out 3).trans rfl; have hfz32_0 := Xh J101.out 0; have hfz32_1 := Xh J101.out 1; have hfz32_2 := Xh J101.out 2; have hfz32_3 := Xh J101.out 3; go_wp2_with (first | ((with_reducible refine gate_callee (f := 30) rfl ?_); refine goesL_ (some 44) rfl rfl Try.func30 (by kernel_rfl) rfl #[.agg #[.int .i64 a0_0, .int .i64 a0_1, .slice A0_2 l0_2.length c0_2, .slice A0_3 l0_3.length c0_3]] rfl (by (try simp only [Xm, Xn, Xo]); first | done | rfl | (simp only [Xp, Xq]; rfl)) ?_; (with_reducible refine (air_Prices.calls kj16 a0_0 a0_1 _ _ l0_2 _ _ l0_3 t109 t112 _ ?side1 ?side2 ?side3 ?side4 A24.out).mono ?_); (case side1 => repeat (first | exact (Xu HR0_2.out HB.out) | (with_reducible refine Xr ?_ _) | (with_reducible refine Xs ?_ _) | (with_reducible refine Xt ?_))); (case side2 => exact HC0_2.out); (case side3 => repeat (first | exact (Xu HR0_3.out HB.out) | (with_reducible refine Xr ?_ _) | (with_reducible refine Xs ?_ _) | (with_reducible refine Xt ?_))); (case side4 => exact HC0_3.out); rintro e w33 ⟨v110, rfl, ho0, hb⟩; refine ⟨_, rfl, ?_⟩; have n0_ := XB (Kd.R_lower ho0 (XC (by repeat (first | (with_reducible first | exact HB.out | apply Xc | apply Xa | apply Xb | refine Xd ?_ E101.out) | exact HB.out)))); have n1_ := XB (XA (g := gb101) (o := .cells #[.int .i64 a0_0, .int .i64 a0_1, .slice A0_2 l0_2.length c0_2, .slice A0_3 l0_3.length c0_3] 24 (0, 0)) (by (with_reducible repeat (first | refine Xf ?_ _ | refine Xg ?_ | refine Xe ?_ _)); exact J101.out) hb); have n2_ := XB (Xz (by repeat (first | (with_reducible first | exact HB.out | apply Xc | apply Xa | apply Xb | refine Xd ?_ E101.out) | exact HB.out)) hb); clear J101; clear HB; have HO111 := n0_; have J101 := n1_; have HB := n2_; clear n0_ n1_ n2_; (try clear hb); (try clear hb2); (try clear hk); (try clear hi); (try clear ho0); have hcz34_0 : w33.cell? ⟨gb101, 0, none⟩ = some (.int .i64 a0_0) := (Xi J101.out 0).trans rfl; have hcz34_1 : w33.cell? ⟨gb101, 1, none⟩ = some (.int .i64 a0_1) := (Xi J101.out 1).trans rfl; have hcz34_2 : w33.cell? ⟨gb101, 2, none⟩ = some (.slice A0_2 l0_2.length c0_2) := (Xi J101.out 2).trans rfl; have hcz34_3 : w33.cell? ⟨gb101, 3, none⟩ = some (.slice A0_3 l0_3.length c0_3) := (Xi J101.out 3).trans rfl; have hfz34_0 := Xh J101.out 0; have hfz34_1 := Xh J101.out 1; have hfz34_2 := Xh J101.out 2; have hfz34_3 := Xh J101.out 3) | ((with_reducible refine gate_callee (f := 22) rfl ?_); refine goesL_ (some 49) rfl rfl Try.func22 (by kernel_rfl) rfl #[.agg #[.int .i64 a0_0, .int .i64 a0_1, .slice A0_2 l0_2.length c0_2, .slice A0_3 l0_3.length c0_3]] rfl (by (try simp only [Xm, Xn, Xo]); first | done | rfl | (simp only [Xp, Xq]; rfl)) ?_; (with_reducible refine (air_Least.calls kj16 a0_0 a0_1 _ _ l0_2 _ _ l0_3 t113 t114 _ ?side1 ?side2 ?side3 ?side4 A25.out).mono ?_); (case side1 => repeat (first | exact (Xu HR0_2.out HB.out) | (with_reducible refine Xr ?_ _) | (with_reducible refine Xs ?_ _) | (with_reducible refine Xt ?_))); (case side2 => exact HC0_2.out); (case side3 => repeat (first | exact (Xu HR0_3.out HB.out) | (with_reducible refine Xr ?_ _) | (with_reducible refine Xs ?_ _) | (with_reducible refine Xt ?_))); (case side4 => exact HC0_3.out); rintro e w35 ⟨rfl, hb⟩; refine ⟨_, rfl, ?_⟩; have n0_ := XB (Xy (by (with_reducible repeat (first | apply Xv | apply Xw | apply Xx)); exact HO111.out) hb); have n1_ := XB (XA (g := gb101) (o := .cells #[.int .i64 a0_0, .int .i64 a0_1, .slice A0_2 l0_2.length c0_2, .slice A0_3 l0_3.length c0_3] 24 (0, 0)) (by (with_reducible repeat (first | refine Xf ?_ _ | refine Xg ?_ | refine Xe ?_ _)); exact J101.out) hb); have n2_ := XB (Xz (by repeat (first | (with_reducible first | exact HB.out | apply Xc | apply Xa | apply Xb | refine Xd ?_ E101.out) | exact HB.out)) hb); clear HO111; clear J101; clear HB; have HO111 := n0_; have J101 := n1_; have HB := n2_; clear n0_ n1_ n2_; (try clear hb); (try clear hb2); (try clear hk); (try clear hi); have hcz36_0 : w35.cell? ⟨gb101, 0, none⟩ = some (.int .i64 a0_0) := (Xi J101.out 0).trans rfl; have hcz36_1 : w35.cell? ⟨gb101, 1, none⟩ = some (.int .i64 a0_1) := (Xi J101.out 1).trans rfl; have hcz36_2 : w35.cell? ⟨gb101, 2, none⟩ = some (.slice A0_2 l0_2.length c0_2) := (Xi J101.out 2).trans rfl; have hcz36_3 : w35.cell? ⟨gb101, 3, none⟩ = some (.slice A0_3 l0_3.length c0_3) := (Xi J101.out 3).trans rfl; have hfz36_0 := Xh J101.out 0; have hfz36_1 := Xh J101.out 1; have hfz36_2 := Xh J101.out 2; have hfz36_3 := Xh J101.out 3; obtain ⟨Ao37, co37, eo37⟩ := Kd.R_slice HO111.out; subst eo37) | ((with_reducible refine gate_callee (f := 29) rfl ?_); refine goesL_ (some 66) rfl rfl Try.func29 (by kernel_rfl) rfl #[.agg #[.int .i64 a0_0, .int .i64 a0_1, .slice A0_2 l0_2.length c0_2, .slice A0_3 l0_3.length c0_3], .slice Ao37 t109.length co37] rfl (by (try simp only [Xm, Xn, Xo]); first | done | rfl | (simp only [Xp, Xq]; rfl)) ?_; (with_reducible refine (diaphoneref03_CheckPrices.calls kj16 a0_0 a0_1 _ _ l0_2 _ _ l0_3 _ _ t109 t115 t116 _ ?side1 ?side2 ?side3 ?side4 ?side5 ?side6 A28.out).mono ?_); (case side1 => repeat (first | exact (Xu HR0_2.out HB.out) | (with_reducible refine Xr ?_ _) | (with_reducible refine Xs ?_ _) | (with_reducible refine Xt ?_))); (case side2 => exact HC0_2.out); (case side3 => repeat (first | exact (Xu HR0_3.out HB.out) | (with_reducible refine Xr ?_ _) | (with_reducible refine Xs ?_ _) | (with_reducible refine Xt ?_))); (case side4 => exact HC0_3.out); (case side5 => repeat (first | exact (XD HO111.out).2.2 | (with_reducible refine Xr ?_ _) | (with_reducible refine Xs ?_ _) | (with_reducible refine Xt ?_))); (case side6 => exact (XD HO111.out).2.1); rintro e w38 ⟨rfl, hb⟩; refine ⟨_, rfl, ?_⟩; have n0_ := XB (Xy (by (with_reducible repeat (first | apply Xv | apply Xw | apply Xx)); exact HO111.out) hb); have n1_ := XB (XA (g := gb101) (o := .cells #[.int .i64 a0_0, .int .i64 a0_1, .slice A0_2 l0_2.length c0_2, .slice A0_3 l0_3.length c0_3] 24 (0, 0)) (by (with_reducible repeat (first | refine Xf ?_ _ | refine Xg ?_ | refine Xe ?_ _)); exact J101.out) hb); have n2_ := XB (Xz (by repeat (first | (with_reducible first | exact HB.out | apply Xc | apply Xa | apply Xb | refine Xd ?_ E101.out) | exact HB.out)) hb); clear HO111; clear J101; clear HB; have HO111 := n0_; have J101 := n1_; have HB := n2_; clear n0_ n1_ n2_; (try clear hb); (try clear hb2); (try clear hk); (try clear hi)) | (go_at_call 18; (with_reducible refine (diaphonelaw03_known.calls kj16  t117 _ A31.out).mono ?_); rintro e w39 ⟨rfl, hb⟩; have n0_ := XB (Xy (by (with_reducible repeat (first | apply Xv | apply Xw | apply Xx)); exact HO111.out) hb); have n1_ := XB (XA (g := gb101) (o := .cells #[.int .i64 a0_0, .int .i64 a0_1, .slice A0_2 l0_2.length c0_2, .slice A0_3 l0_3.length c0_3] 24 (0, 0)) (by (with_reducible repeat (first | refine Xf ?_ _ | refine Xg ?_ | refine Xe ?_ _)); exact J101.out) hb); have n2_ := XB (Xz (by repeat (first | (with_reducible first | exact HB.out | apply Xc | apply Xa | apply Xb | refine Xd ?_ E101.out) | exact HB.out)) hb); clear HO111; clear J101; clear HB; have HO111 := n0_; have J101 := n1_; have HB := n2_; clear n0_ n1_ n2_; (try clear hb); (try clear hb2); (try clear hk); (try clear hi)))
           go_ret
           exact ⟨by first | rfl | (simp [errW_none, errW_some] <;> rfl) | (simp [*, errW_none, errW_some] <;> rfl), by repeat (first | (with_reducible first | exact HB.out | apply Xc | apply Xa | apply Xb | refine Xd ?_ E101.out) | exact HB.out)⟩
          ·rw [if_neg c30] at H; exact absurd H (by simp)
         ·rw [if_neg c29] at H; exact absurd H (by simp)
        ·rw [if_neg c27] at H; have c27b0 : (t112 == 0) = false := beq_eq_false_iff_ne.mpr c27; have c27b1 : (t112 != 0) = true := bne_iff_ne.mpr c27; by_cases c54 : (t109.length : Int) = 0
         ·rw [if_pos c54] at H; have c54b0 : ((t109.length : Int) == 0) = true := beq_iff_eq.mpr c54; have c54b1 : ((t109.length : Int) != 0) = false := bne_eq_false_iff_eq.mpr c54; clear c54; replace H := Option.bind_eq_some_iff.mp H; obtain ⟨t118, A550, H⟩ := H; replace H : (some t118) = some r := H; have A55 := XB A550; clear A550; obtain rfl := Option.some.inj H; have hcz56_0 : wc.cell? ⟨gb101, 0, none⟩ = some (.int .i64 a0_0) := (Xi J101.out 0).trans rfl; have hcz56_1 : wc.cell? ⟨gb101, 1, none⟩ = some (.int .i64 a0_1) := (Xi J101.out 1).trans rfl; have hcz56_2 : wc.cell? ⟨gb101, 2, none⟩ = some (.slice A0_2 l0_2.length c0_2) := (Xi J101.out 2).trans rfl; have hcz56_3 : wc.cell? ⟨gb101, 3, none⟩ = some (.slice A0_3 l0_3.length c0_3) := (Xi J101.out 3).trans rfl; have hfz56_0 := Xh J101.out 0; have hfz56_1 := Xh J101.out 1; have hfz56_2 := Xh J101.out 2; have hfz56_3 := Xh J101.out 3; go_wp2_with (first | ((with_reducible refine gate_callee (f := 30) rfl ?_); refine goesL_ (some 44) rfl rfl Try.func30 (by kernel_rfl) rfl #[.agg #[.int .i64 a0_0, .int .i64 a0_1, .slice A0_2 l0_2.length c0_2, .slice A0_3 l0_3.length c0_3]] rfl (by (try simp only [Xm, Xn, Xo]); first | done | rfl | (simp only [Xp, Xq]; rfl)) ?_; (with_reducible refine (air_Prices.calls kj16 a0_0 a0_1 _ _ l0_2 _ _ l0_3 t109 t112 _ ?side1 ?side2 ?side3 ?side4 A24.out).mono ?_); (case side1 => repeat (first | exact (Xu HR0_2.out HB.out) | (with_reducible refine Xr ?_ _) | (with_reducible refine Xs ?_ _) | (with_reducible refine Xt ?_))); (case side2 => exact HC0_2.out); (case side3 => repeat (first | exact (Xu HR0_3.out HB.out) | (with_reducible refine Xr ?_ _) | (with_reducible refine Xs ?_ _) | (with_reducible refine Xt ?_))); (case side4 => exact HC0_3.out); rintro e w57 ⟨v110, rfl, ho0, hb⟩; refine ⟨_, rfl, ?_⟩; have n0_ := XB (Kd.R_lower ho0 (XC (by repeat (first | (with_reducible first | exact HB.out | apply Xc | apply Xa | apply Xb | refine Xd ?_ E101.out) | exact HB.out)))); have n1_ := XB (XA (g := gb101) (o := .cells #[.int .i64 a0_0, .int .i64 a0_1, .slice A0_2 l0_2.length c0_2, .slice A0_3 l0_3.length c0_3] 24 (0, 0)) (by (with_reducible repeat (first | refine Xf ?_ _ | refine Xg ?_ | refine Xe ?_ _)); exact J101.out) hb); have n2_ := XB (Xz (by repeat (first | (with_reducible first | exact HB.out | apply Xc | apply Xa | apply Xb | refine Xd ?_ E101.out) | exact HB.out)) hb); clear J101; clear HB; have HO111 := n0_; have J101 := n1_; have HB := n2_; clear n0_ n1_ n2_; (try clear hb); (try clear hb2); (try clear hk); (try clear hi); (try clear ho0); have hcz58_0 : w57.cell? ⟨gb101, 0, none⟩ = some (.int .i64 a0_0) := (Xi J101.out 0).trans rfl; have hcz58_1 : w57.cell? ⟨gb101, 1, none⟩ = some (.int .i64 a0_1) := (Xi J101.out 1).trans rfl; have hcz58_2 : w57.cell? ⟨gb101, 2, none⟩ = some (.slice A0_2 l0_2.length c0_2) := (Xi J101.out 2).trans rfl; have hcz58_3 : w57.cell? ⟨gb101, 3, none⟩ = some (.slice A0_3 l0_3.length c0_3) := (Xi J101.out 3).trans rfl; have hfz58_0 := Xh J101.out 0; have hfz58_1 := Xh J101.out 1; have hfz58_2 := Xh J101.out 2; have hfz58_3 := Xh J101.out 3) | ((with_reducible refine gate_callee (f := 22) rfl ?_); refine goesL_ (some 49) rfl rfl Try.func22 (by kernel_rfl) rfl #[.agg #[.int .i64 a0_0, .int .i64 a0_1, .slice A0_2 l0_2.length c0_2, .slice A0_3 l0_3.length c0_3]] rfl (by (try simp only [Xm, Xn, Xo]); first | done | rfl | (simp only [Xp, Xq]; rfl)) ?_; (with_reducible refine (air_Least.calls kj16 a0_0 a0_1 _ _ l0_2 _ _ l0_3 t113 t114 _ ?side1 ?side2 ?side3 ?side4 A25.out).mono ?_); (case side1 => repeat (first | exact (Xu HR0_2.out HB.out) | (with_reducible refine Xr ?_ _) | (with_reducible refine Xs ?_ _) | (with_reducible refine Xt ?_))); (case side2 => exact HC0_2.out); (case side3 => repeat (first | exact (Xu HR0_3.out HB.out) | (with_reducible refine Xr ?_ _) | (with_reducible refine Xs ?_ _) | (with_reducible refine Xt ?_))); (case side4 => exact HC0_3.out); rintro e w59 ⟨rfl, hb⟩; refine ⟨_, rfl, ?_⟩; have n0_ := XB (Xy (by (with_reducible repeat (first | apply Xv | apply Xw | apply Xx)); exact HO111.out) hb); have n1_ := XB (XA (g := gb101) (o := .cells #[.int .i64 a0_0, .int .i64 a0_1, .slice A0_2 l0_2.length c0_2, .slice A0_3 l0_3.length c0_3] 24 (0, 0)) (by (with_reducible repeat (first | refine Xf ?_ _ | refine Xg ?_ | refine Xe ?_ _)); exact J101.out) hb); have n2_ := XB (Xz (by repeat (first | (with_reducible first | exact HB.out | apply Xc | apply Xa | apply Xb | refine Xd ?_ E101.out) | exact HB.out)) hb); clear HO111; clear J101; clear HB; have HO111 := n0_; have J101 := n1_; have HB := n2_; clear n0_ n1_ n2_; (try clear hb); (try clear hb2); (try clear hk); (try clear hi); obtain ⟨Ao60, co60, eo60⟩ := Kd.R_slice HO111.out; subst eo60) | (go_at_call 18; (with_reducible refine (diaphonelaw03_known.calls kj16  t118 _ A55.out).mono ?_); rintro e w61 ⟨rfl, hb⟩; have n0_ := XB (Xy (by (with_reducible repeat (first | apply Xv | apply Xw | apply Xx)); exact HO111.out) hb); have n1_ := XB (XA (g := gb101) (o := .cells #[.int .i64 a0_0, .int .i64 a0_1, .slice A0_2 l0_2.length c0_2, .slice A0_3 l0_3.length c0_3] 24 (0, 0)) (by (with_reducible repeat (first | refine Xf ?_ _ | refine Xg ?_ | refine Xe ?_ _)); exact J101.out) hb); have n2_ := XB (Xz (by repeat (first | (with_reducible first | exact HB.out | apply Xc | apply Xa | apply Xb | refine Xd ?_ E101.out) | exact HB.out)) hb); clear HO111; clear J101; clear HB; have HO111 := n0_; have J101 := n1_; have HB := n2_; clear n0_ n1_ n2_; (try clear hb); (try clear hb2); (try clear hk); (try clear hi)))
          go_ret
          exact ⟨by first | rfl | (simp [errW_none, errW_some] <;> rfl) | (simp [*, errW_none, errW_some] <;> rfl), by repeat (first | (with_reducible first | exact HB.out | apply Xc | apply Xa | apply Xb | refine Xd ?_ E101.out) | exact HB.out)⟩
         ·rw [if_neg c54] at H; exact absurd H (by simp)
       ·rw [if_neg c26] at H; exact absurd H (by simp)

end Go.Proofs.Ytboefcikdfjfmaa.P
