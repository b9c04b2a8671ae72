-- laid by a program of this session (wip/tools): plain functions of the Go code and their contracts
-- thinned
import Derived.Test.YtcbepmdnhjojdaaPx0
import Derived.Test.YtcbepmdnhjojdaaPx2
import Derived.Test.YtcbepmdnhjojdaaPx3
import Derived.Test.YtcbepmdnhjojdaaPx4
import Derived.Test.YtcbepmdnhjojdaaPx5
import Derived.Test.YtcbepmdnhjojdaaPx13
import Derived.Test.YtcbepmdnhjojdaaPx32
import Derived.Test.YtcbepmdnhjojdaaPx62
namespace Go.Proofs.Ytcbepmdnhjojdaa.P
open Go.RowKit Go.Proofs.YtcbepmdnhjojdaaW.PrintWords Go.Proofs.YtcbepmdnhjojdaaW.PrintLast Go.Proofs.YtcbepmdnhjojdaaW.PrintMore
attribute [local go_sem] max2_int min2_int max_two min_two max_three min_three max_four min_four   -- for this text's walks alone
set_option linter.unusedVariables false
set_option linter.unusedSimpArgs false

/-! ### diaphonelaw06_LogPairs: function 7 -/
def diaphonelaw06_LogPairs.j0 : Nat → List (S65) → Bool → List Int → List Int → Int → Int → Int → Option (Bool)
 | 0, _, _, _, _, _, _, _ => none
 | k + 1, x1, x15, x102000, x102001, x102002, x102003, x102004 => if x15 = true then ((diaphonelaw06_known.f k).bind fun t103 => (some t103)) else ((log_CheckPairs.f k x102000 x102001 x102002 x102003 x102004 x1).bind fun bt104 => ((diaphoneref06_CheckPairs.f k x102000 x102001 x102002 x102003 x102004 x1).bind fun bt106 => ((log_Validate.f k x102000).bind fun t108 => ((diaphoneref06_Validate.f k x102000).bind fun t109 => (if t108 = t109 then ((log_ValidateCosts.f x102002 x102003 x102004).bind fun t110 => ((diaphoneref06_ValidateCosts.f x102002 x102003 x102004).bind fun t111 => (if t110 = t111 then (if bt104.1 = bt106.1 then (if bt104.2 = bt106.2 then ((diaphonelaw06_known.f k).bind fun t112 => (some t112)) else (some false)) else (some false)) else (some false)))) else (some false))))))
def diaphonelaw06_LogPairs.f (k : Nat) (l0_0 : List Int) (l0_1 : List Int) (a0_2 : Int) (a0_3 : Int) (a0_4 : Int) (l1 : List (S65)) : Option (Bool) := (diaphonelaw06_Long.f l0_0 l0_1 a0_2 a0_3 a0_4).bind fun t102 => (if t102 = true then (diaphonelaw06_LogPairs.j0 k l1 true l0_0 l0_1 a0_2 a0_3 a0_4) else (diaphonelaw06_LogPairs.j0 k l1 (decide ((l1.length : Int) > 100)) l0_0 l0_1 a0_2 a0_3 a0_4))
theorem diaphonelaw06_LogPairs.mono_l : ∀ k, (∀ y0 y1 y2 y3 y4 y5 y6, LeO (diaphonelaw06_LogPairs.j0 k y0 y1 y2 y3 y4 y5 y6) (diaphonelaw06_LogPairs.j0 (k + 1) y0 y1 y2 y3 y4 y5 y6))
 | 0 => fun _ _ _ _ _ _ _ r h => by simp [diaphonelaw06_LogPairs.j0] at h
 | k + 1 => by
  have ih0 := diaphonelaw06_LogPairs.mono_l k
  ·intro y0 y1 y2 y3 y4 y5 y6; unfold diaphonelaw06_LogPairs.j0; repeat' first
   | (with_reducible exact ih0 _ _ _ _ _ _ _)
   | (with_reducible exact diaphonelaw06_known.mono _)
   | (with_reducible exact diaphoneref06_CheckPairs.mono _ _ _ _ _ _ _)
   | (with_reducible exact diaphoneref06_Validate.mono _ _)
   | (with_reducible exact log_CheckPairs.mono _ _ _ _ _ _ _)
   | (with_reducible exact log_Validate.mono _ _)
   | (with_reducible exact LeO.refl _)
   | (with_reducible exact LeO.none _)
   | (with_reducible refine LeO.ite ?_ ?_)
   | (with_reducible refine LeO.bind ?_ (fun _ => ?_))
   | exact ih0 _ _ _ _ _ _ _
   | exact diaphonelaw06_known.mono _
   | exact diaphoneref06_CheckPairs.mono _ _ _ _ _ _ _
   | exact diaphoneref06_Validate.mono _ _
   | exact log_CheckPairs.mono _ _ _ _ _ _ _
   | exact log_Validate.mono _ _
   | exact LeO.none _
   | refine LeO.ite ?_ ?_
   | refine LeO.bind ?_ (fun _ => ?_)
theorem diaphonelaw06_LogPairs.mono : ∀ a0 a1 a2 a3 a4 a5 k, LeO (diaphonelaw06_LogPairs.f k a0 a1 a2 a3 a4 a5) (diaphonelaw06_LogPairs.f (k + 1) a0 a1 a2 a3 a4 a5) := by
 intro a0 a1 a2 a3 a4 a5 k; have ih0 := diaphonelaw06_LogPairs.mono_l k; unfold diaphonelaw06_LogPairs.f; repeat' first
   | (with_reducible exact ih0 _ _ _ _ _ _ _)
   | (with_reducible exact diaphonelaw06_known.mono _)
   | (with_reducible exact diaphoneref06_CheckPairs.mono _ _ _ _ _ _ _)
   | (with_reducible exact diaphoneref06_Validate.mono _ _)
   | (with_reducible exact log_CheckPairs.mono _ _ _ _ _ _ _)
   | (with_reducible exact log_Validate.mono _ _)
   | (with_reducible exact LeO.refl _)
   | (with_reducible exact LeO.none _)
   | (with_reducible refine LeO.ite ?_ ?_)
   | (with_reducible refine LeO.bind ?_ (fun _ => ?_))
   | exact ih0 _ _ _ _ _ _ _
   | exact diaphonelaw06_known.mono _
   | exact diaphoneref06_CheckPairs.mono _ _ _ _ _ _ _
   | exact diaphoneref06_Validate.mono _ _
   | exact log_CheckPairs.mono _ _ _ _ _ _ _
   | exact log_Validate.mono _ _
   | exact LeO.none _
   | refine LeO.ite ?_ ?_
   | refine LeO.bind ?_ (fun _ => ?_)
def diaphonelaw06_LogPairs.T5 : Bool × List (List Nat × List Nat) := (true, [([], []), ([0], [0]), ([1], [1]), ([], []), ([3], [3]), ([4, 2], [4]), ([2, 5], [2, 5]), ([6, 5], [6]), ([7], [7]), ([8, 7], [7, 8]), ([9, 7, 7], [7, 9]), ([7], [7]), ([11, 7], [7, 11]), ([12, 10, 7], [7, 12]), ([10, 13, 7], [7, 10, 13]), ([7, 14], [7, 14]), ([15, 13], [15]), ([16], [16]), ([16], [16]), ([17, 18, 16], [16, 17, 18]), ([16, 19], [16, 19]), ([20, 16], [20]), ([21], [21]), ([21], [21]), ([22, 23, 21], [21, 22, 23]), ([21, 24], [21, 24]), ([25, 21], [25]), ([26, 26], [26]), ([26, 27], [26, 27]), ([28, 27, 0, 1, 2, 3, 4, 5, 6, 7, 8, 9, 10, 11, 12, 13, 14, 15, 16, 17, 18, 19, 20, 21, 22, 23, 24, 25, 26, 27, 28], [28])])
def diaphonelaw06_LogPairs.B5 : List Nat := [0, 1, 3, 0, 8, 31, 63, 127, 255, 511, 1023, 255, 2303, 8191, 16383, 32767, 65535, 131071, 131071, 524287, 1048575, 2097151, 4194303, 4194303, 16777215, 33554431, 67108863, 134217727, 268435455, 536870911]
theorem diaphonelaw06_LogPairs.tab5 : rtab .any (opsOf Try.f7 5) = diaphonelaw06_LogPairs.T5 := by kernel_rfl
theorem diaphonelaw06_LogPairs.bits5 : waitsOk diaphonelaw06_LogPairs.T5.2 diaphonelaw06_LogPairs.B5 = true := by kernel_rfl
set_option maxHeartbeats 8000000 in
set_option maxRecDepth 100000 in
theorem diaphonelaw06_LogPairs.calls (k : Nat) (A0_0 : Option Addr) (c0_0 : Nat) (l0_0 : List Int) (A0_1 : Option Addr) (c0_1 : Nat) (l0_1 : List Int) (a0_2 : Int) (a0_3 : Int) (a0_4 : Int) (A1 : Option Addr) (c1 : Nat) (l1 : List (S65)) (r : Bool) (w : World) (hr0_0 : Kd.C (Kd.int .i64) w A0_0 l0_0.length l0_0) (hc0_0 : l0_0.length ≤ c0_0) (hr0_1 : Kd.C (Kd.int .i64) w A0_1 l0_1.length l0_1) (hc0_1 : l0_1.length ≤ c0_1) (hr1 : Kd.C k65 w A1 l1.length l1) (hc1 : l1.length ≤ c1) (h : diaphonelaw06_LogPairs.f k l0_0 l0_1 a0_2 a0_3 a0_4 l1 = some r) :
  Calls Try.prog 7 #[.agg #[.slice A0_0 l0_0.length c0_0, .slice A0_1 l0_1.length c0_1, .int .i64 a0_2, .int .i64 a0_3, .int .i64 a0_4], .slice A1 l1.length c1] w fun e w' => e = .returned (.bool r) ∧ Below w.heap.size w w' := by
 have hu26 := Try.underlying26; have hu24 := Try.underlying24; have HR0_0 := XB hr0_0; have HC0_0 := XB hc0_0; clear hr0_0 hc0_0; have HR0_1 := XB hr0_1; have HC0_1 := XB hc0_1; clear hr0_1 hc0_1; have HR1 := XB hr1; have HC1 := XB hc1; clear hr1 hc1; have HB := XB (Below.refl w.heap.size w); have H : ((diaphonelaw06_Long.f l0_0 l0_1 a0_2 a0_3 a0_4).bind fun t102 => (if t102 = true then (diaphonelaw06_LogPairs.j0 k l1 true l0_0 l0_1 a0_2 a0_3 a0_4) else (diaphonelaw06_LogPairs.j0 k l1 (decide ((l1.length : Int) > 100)) l0_0 l0_1 a0_2 a0_3 a0_4))) = some r := h; clear h; have HC3 := XB H; clear H; go_enter Try.func7, Try.ntmps7
 go_upto_region 1 with (first | ((with_reducible refine gate_dst (N := 2) rfl ?_); (try (refine gate_guard (by rfl) ?_; dsimp only)); refine box_event ?hg (N := 2) ?hd (cs := #[.slice A0_0 l0_0.length c0_0, .slice A0_1 l0_1.length c0_1, .int .i64 a0_2, .int .i64 a0_3, .int .i64 a0_4]) (t := 26) ?hr ?_; (case hd => rfl); (case hg => rfl); (case hr => first | (go_simp; done) | (go_simp; rfl)); intro gb101 hg w4 hbox hb; have n0_ := XB (Xz (by repeat (first | (with_reducible first | exact HB.out | apply Xc | apply Xa | apply Xb) | exact HB.out)) hb); have n1_ := XB (hbox); have n2_ := XB ((by rw [hg]; exact (XC (by repeat (first | (with_reducible first | exact HB.out | apply Xc | apply Xa | apply Xb) | exact HB.out))) : w.heap.size ≤ gb101)); have n3_ := XB ((by rw [hg]; exact (XC (by repeat (first | (with_reducible first | exact HB.out | apply Xc | apply Xa | apply Xb) | exact HB.out))) : w.heap.size ≤ gb101)); clear HB; have HB := n0_; have J101 := n1_; have GW101 := n2_; have E101 := n3_; clear n0_ n1_ n2_ n3_; clear hb hbox hg))
 (try simp only [Act.put, Xj, Xk, Xl])
 go_cut [15] (fun v15 wc => ∃ (kq : Nat) (x15_2 : Bool), v15 = .bool x15_2 ∧ Aside0 (diaphonelaw06_LogPairs.j0 kq l1 x15_2 l0_0 l0_1 a0_2 a0_3 a0_4 = some r) ∧ Aside0 (kq ≤ k) ∧ Aside0 (wc.heap[gb101]? = some (.cells #[(.slice A0_0 l0_0.length c0_0), (.slice A0_1 l0_1.length c0_1), .int .i64 a0_2, .int .i64 a0_3, .int .i64 a0_4] 26 (0, 0))) ∧ Aside0 (Below w.heap.size w wc))
 case first =>
  have H := HC3.out; clear HC3; replace H := Option.bind_eq_some_iff.mp H; obtain ⟨t102, A50, H⟩ := H; replace H : (if t102 = true then (diaphonelaw06_LogPairs.j0 k l1 true l0_0 l0_1 a0_2 a0_3 a0_4) else (diaphonelaw06_LogPairs.j0 k l1 (decide ((l1.length : Int) > 100)) l0_0 l0_1 a0_2 a0_3 a0_4)) = some r := H; have A5 := XB A50; clear A50; by_cases c6 : t102 = true
  ·subst c6; have H1 : (diaphonelaw06_LogPairs.j0 k l1 true l0_0 l0_1 a0_2 a0_3 a0_4) = some r := by rw [if_pos rfl] at H; exact H
   clear H; have H := H1; clear H1; have H' := XB H; clear H; have hcz7_0 : w4.cell? ⟨gb101, 0, none⟩ = some (.slice A0_0 l0_0.length c0_0) := (Xi J101.out 0).trans rfl; have hcz7_1 : w4.cell? ⟨gb101, 1, none⟩ = some (.slice A0_1 l0_1.length c0_1) := (Xi J101.out 1).trans rfl; have hcz7_2 : w4.cell? ⟨gb101, 2, none⟩ = some (.int .i64 a0_2) := (Xi J101.out 2).trans rfl; have hcz7_3 : w4.cell? ⟨gb101, 3, none⟩ = some (.int .i64 a0_3) := (Xi J101.out 3).trans rfl; have hcz7_4 : w4.cell? ⟨gb101, 4, none⟩ = some (.int .i64 a0_4) := (Xi J101.out 4).trans rfl; have hfz7_0 := Xh J101.out 0; have hfz7_1 := Xh J101.out 1; have hfz7_2 := Xh J101.out 2; have hfz7_3 := Xh J101.out 3; have hfz7_4 := Xh J101.out 4; go_wp2_with (first | ((with_reducible refine gate_callee (f := 18) rfl ?_); refine goesL_ (some 10) rfl rfl Try.func18 (by kernel_rfl) rfl #[.agg #[.slice A0_0 l0_0.length c0_0, .slice A0_1 l0_1.length c0_1, .int .i64 a0_2, .int .i64 a0_3, .int .i64 a0_4]] rfl (by (try simp only [Xm, Xn, Xo]); first | done | rfl | (simp only [Xp, Xq]; rfl)) ?_; (with_reducible refine (diaphonelaw06_Long.calls _ _ l0_0 _ _ l0_1 a0_2 a0_3 a0_4 true _ ?side1 ?side2 ?side3 ?side4 A5.out).mono ?_); (case side1 => repeat (first | exact (Xu HR0_0.out HB.out) | (with_reducible refine Xr ?_ _) | (with_reducible refine Xs ?_ _) | (with_reducible refine Xt ?_))); (case side2 => exact HC0_0.out); (case side3 => repeat (first | exact (Xu HR0_1.out HB.out) | (with_reducible refine Xr ?_ _) | (with_reducible refine Xs ?_ _) | (with_reducible refine Xt ?_))); (case side4 => exact HC0_1.out); rintro e w8 ⟨rfl, hb⟩; refine ⟨_, rfl, ?_⟩; have n0_ := XB (XA (g := gb101) (o := .cells #[.slice A0_0 l0_0.length c0_0, .slice A0_1 l0_1.length c0_1, .int .i64 a0_2, .int .i64 a0_3, .int .i64 a0_4] 26 (0, 0)) (by (with_reducible repeat (first | refine Xf ?_ _ | refine Xg ?_ | refine Xe ?_ _)); exact J101.out) hb); have n1_ := XB (Xz (by repeat (first | (with_reducible first | exact HB.out | apply Xc | apply Xa | apply Xb | refine Xd ?_ E101.out) | exact HB.out)) hb); clear J101; clear HB; have J101 := n0_; have HB := n1_; clear n0_ n1_; (try clear hb); (try clear hb2); (try clear hk); (try clear hi)))
   go_meet
   case rel => exact ⟨_, (true), (by first | rfl | (simp; done) | (simp [*]; done)), H', ⟨by first | omega | exact Nat.le_refl _⟩, ⟨by (with_reducible repeat (first | refine Xf ?_ _ | refine Xg ?_ | refine Xe ?_ _)); exact J101.out⟩, ⟨by repeat (first | (with_reducible first | exact HB.out | apply Xc | apply Xa | apply Xb | refine Xd ?_ E101.out) | exact HB.out)⟩⟩
  ·replace c6 := Bool.eq_false_iff.mpr c6; subst c6; have H1 : (diaphonelaw06_LogPairs.j0 k l1 (decide ((l1.length : Int) > 100)) l0_0 l0_1 a0_2 a0_3 a0_4) = some r := by rw [if_neg (show ¬ (false = true) by decide)] at H; exact H
   clear H; have H := H1; clear H1; have H' := XB H; clear H; have hcz9_0 : w4.cell? ⟨gb101, 0, none⟩ = some (.slice A0_0 l0_0.length c0_0) := (Xi J101.out 0).trans rfl; have hcz9_1 : w4.cell? ⟨gb101, 1, none⟩ = some (.slice A0_1 l0_1.length c0_1) := (Xi J101.out 1).trans rfl; have hcz9_2 : w4.cell? ⟨gb101, 2, none⟩ = some (.int .i64 a0_2) := (Xi J101.out 2).trans rfl; have hcz9_3 : w4.cell? ⟨gb101, 3, none⟩ = some (.int .i64 a0_3) := (Xi J101.out 3).trans rfl; have hcz9_4 : w4.cell? ⟨gb101, 4, none⟩ = some (.int .i64 a0_4) := (Xi J101.out 4).trans rfl; have hfz9_0 := Xh J101.out 0; have hfz9_1 := Xh J101.out 1; have hfz9_2 := Xh J101.out 2; have hfz9_3 := Xh J101.out 3; have hfz9_4 := Xh J101.out 4; go_wp2_with (first | ((with_reducible refine gate_callee (f := 18) rfl ?_); refine goesL_ (some 10) rfl rfl Try.func18 (by kernel_rfl) rfl #[.agg #[.slice A0_0 l0_0.length c0_0, .slice A0_1 l0_1.length c0_1, .int .i64 a0_2, .int .i64 a0_3, .int .i64 a0_4]] rfl (by (try simp only [Xm, Xn, Xo]); first | done | rfl | (simp only [Xp, Xq]; rfl)) ?_; (with_reducible refine (diaphonelaw06_Long.calls _ _ l0_0 _ _ l0_1 a0_2 a0_3 a0_4 false _ ?side1 ?side2 ?side3 ?side4 A5.out).mono ?_); (case side1 => repeat (first | exact (Xu HR0_0.out HB.out) | (with_reducible refine Xr ?_ _) | (with_reducible refine Xs ?_ _) | (with_reducible refine Xt ?_))); (case side2 => exact HC0_0.out); (case side3 => repeat (first | exact (Xu HR0_1.out HB.out) | (with_reducible refine Xr ?_ _) | (with_reducible refine Xs ?_ _) | (with_reducible refine Xt ?_))); (case side4 => exact HC0_1.out); rintro e w10 ⟨rfl, hb⟩; refine ⟨_, rfl, ?_⟩; have n0_ := XB (XA (g := gb101) (o := .cells #[.slice A0_0 l0_0.length c0_0, .slice A0_1 l0_1.length c0_1, .int .i64 a0_2, .int .i64 a0_3, .int .i64 a0_4] 26 (0, 0)) (by (with_reducible repeat (first | refine Xf ?_ _ | refine Xg ?_ | refine Xe ?_ _)); exact J101.out) hb); have n1_ := XB (Xz (by repeat (first | (with_reducible first | exact HB.out | apply Xc | apply Xa | apply Xb | refine Xd ?_ E101.out) | exact HB.out)) hb); clear J101; clear HB; have J101 := n0_; have HB := n1_; clear n0_ n1_; (try clear hb); (try clear hb2); (try clear hk); (try clear hi)))
   go_meet
   case rel => exact ⟨_, (decide ((l1.length : Int) > 100)), (by first | rfl | (simp; done) | (simp [*]; done)), H', ⟨by first | omega | exact Nat.le_refl _⟩, ⟨by (with_reducible repeat (first | refine Xf ?_ _ | refine Xg ?_ | refine Xe ?_ _)); exact J101.out⟩, ⟨by repeat (first | (with_reducible first | exact HB.out | apply Xc | apply Xa | apply Xb | refine Xd ?_ E101.out) | exact HB.out)⟩⟩
 case rest =>
  clear HC3; try clear c1
  try clear p2
  try clear c6
  try clear c7
  try clear hcz7_0
  try clear hcz7_1
  try clear hcz7_2
  try clear hcz7_3
  try clear hcz7_4
  try clear hcz9_0
  try clear hcz9_1
  try clear hcz9_2
  try clear hcz9_3
  try clear hcz9_4
  try clear hfz7_0
  try clear hfz7_1
  try clear hfz7_2
  try clear hfz7_3
  try clear hfz7_4
  try clear hfz9_0
  try clear hfz9_1
  try clear hfz9_2
  try clear hfz9_3
  try clear hfz9_4
  obtain ⟨kq, x15_2, rfl, HA, HJ2, J101, HB⟩ := hcut
  cases kq with
  | zero => exact absurd HA.out (by simp [diaphonelaw06_LogPairs.j0])
  | succ kj2 =>
   have H := HA.out; clear HA; simp only [diaphonelaw06_LogPairs.j0] at H; by_cases c11 : x15_2 = true
   ·subst c11; have H1 : ((diaphonelaw06_known.f kj2).bind fun t103 => (some t103)) = some r := by rw [if_pos rfl] at H; exact H
    clear H; have H := H1; clear H1; replace H := Option.bind_eq_some_iff.mp H; obtain ⟨t103, A120, H⟩ := H; replace H : (some t103) = some r := H; have A12 := XB A120; clear A120; obtain rfl := Option.some.inj H; go_wp2_with (first | ((with_reducible refine gate_callee (f := 19) rfl ?_); refine goesL_ (some 16) rfl rfl Try.func19 (by kernel_rfl) rfl #[] rfl (by (try simp only [Xm, Xn, Xo]); first | done | rfl | (simp only [Xp, Xq]; rfl)) ?_; (with_reducible refine (diaphonelaw06_known.calls kj2  t103 _ A12.out).mono ?_); rintro e w13 ⟨rfl, hb⟩; refine ⟨_, rfl, ?_⟩; have n0_ := XB (XA (g := gb101) (o := .cells #[.slice A0_0 l0_0.length c0_0, .slice A0_1 l0_1.length c0_1, .int .i64 a0_2, .int .i64 a0_3, .int .i64 a0_4] 26 (0, 0)) (by (with_reducible repeat (first | refine Xf ?_ _ | refine Xg ?_ | refine Xe ?_ _)); exact J101.out) hb); have n1_ := XB (Xz (by repeat (first | (with_reducible first | exact HB.out | apply Xc | apply Xa | apply Xb | refine Xd ?_ E101.out) | exact HB.out)) hb); clear J101; clear HB; have J101 := n0_; have HB := n1_; clear n0_ n1_; (try clear hb); (try clear hb2); (try clear hk); (try clear hi)))
    go_ret
    exact ⟨by first | rfl | (simp [errW_none, errW_some] <;> rfl) | (simp [*, errW_none, errW_some] <;> rfl), by repeat (first | (with_reducible first | exact HB.out | apply Xc | apply Xa | apply Xb | refine Xd ?_ E101.out) | exact HB.out)⟩
   ·replace c11 := Bool.eq_false_iff.mpr c11; subst c11; have H1 : ((log_CheckPairs.f kj2 l0_0 l0_1 a0_2 a0_3 a0_4 l1).bind fun bt104 => ((diaphoneref06_CheckPairs.f kj2 l0_0 l0_1 a0_2 a0_3 a0_4 l1).bind fun bt106 => ((log_Validate.f kj2 l0_0).bind fun t108 => ((diaphoneref06_Validate.f kj2 l0_0).bind fun t109 => (if t108 = t109 then ((log_ValidateCosts.f a0_2 a0_3 a0_4).bind fun t110 => ((diaphoneref06_ValidateCosts.f a0_2 a0_3 a0_4).bind fun t111 => (if t110 = t111 then (if bt104.1 = bt106.1 then (if bt104.2 = bt106.2 then ((diaphonelaw06_known.f kj2).bind fun t112 => (some t112)) else (some false)) else (some false)) else (some false)))) else (some false)))))) = some r := by rw [if_neg (show ¬ (false = true) by decide)] at H; exact H
    clear H; have H := H1; clear H1; replace H := Option.bind_eq_some_iff.mp H; obtain ⟨⟨t104, t105⟩, A140, H⟩ := H; replace H : ((diaphoneref06_CheckPairs.f kj2 l0_0 l0_1 a0_2 a0_3 a0_4 l1).bind fun bt106 => ((log_Validate.f kj2 l0_0).bind fun t108 => ((diaphoneref06_Validate.f kj2 l0_0).bind fun t109 => (if t108 = t109 then ((log_ValidateCosts.f a0_2 a0_3 a0_4).bind fun t110 => ((diaphoneref06_ValidateCosts.f a0_2 a0_3 a0_4).bind fun t111 => (if t110 = t111 then (if t104 = bt106.1 then (if t105 = bt106.2 then ((diaphonelaw06_known.f kj2).bind fun t112 => (some t112)) else (some false)) else (some false)) else (some false)))) else (some false))))) = some r := H; have A14 := XB A140; clear A140; replace H := Option.bind_eq_some_iff.mp H; obtain ⟨⟨t106, t107⟩, A150, H⟩ := H; replace H : ((log_Validate.f kj2 l0_0).bind fun t108 => ((diaphoneref06_Validate.f kj2 l0_0).bind fun t109 => (if t108 = t109 then ((log_ValidateCosts.f a0_2 a0_3 a0_4).bind fun t110 => ((diaphoneref06_ValidateCosts.f a0_2 a0_3 a0_4).bind fun t111 => (if t110 = t111 then (if t104 = t106 then (if t105 = t107 then ((diaphonelaw06_known.f kj2).bind fun t112 => (some t112)) else (some false)) else (some false)) else (some false)))) else (some false)))) = some r := H; have A15 := XB A150; clear A150; replace H := Option.bind_eq_some_iff.mp H; obtain ⟨t108, A160, H⟩ := H; replace H : ((diaphoneref06_Validate.f kj2 l0_0).bind fun t109 => (if t108 = t109 then ((log_ValidateCosts.f a0_2 a0_3 a0_4).bind fun t110 => ((diaphoneref06_ValidateCosts.f a0_2 a0_3 a0_4).bind fun t111 => (if t110 = t111 then (if t104 = t106 then (if t105 = t107 then ((diaphonelaw06_known.f kj2).bind fun t112 => (some t112)) else (some false)) else (some false)) else (some false)))) else (some false))) = some r := H
    have A16 := XB A160; clear A160; replace H := Option.bind_eq_some_iff.mp H; obtain ⟨t109, A170, H⟩ := H; replace H : (if t108 = t109 then ((log_ValidateCosts.f a0_2 a0_3 a0_4).bind fun t110 => ((diaphoneref06_ValidateCosts.f a0_2 a0_3 a0_4).bind fun t111 => (if t110 = t111 then (if t104 = t106 then (if t105 = t107 then ((diaphonelaw06_known.f kj2).bind fun t112 => (some t112)) else (some false)) else (some false)) else (some false)))) else (some false)) = some r := H; have A17 := XB A170; clear A170; by_cases c18 : t108 = t109
    ·rw [if_pos c18] at H; have c18b0 : (t108 == t109) = true := beq_iff_eq.mpr c18; have c18b1 : (t108 != t109) = false := bne_eq_false_iff_eq.mpr c18; clear c18; replace H := Option.bind_eq_some_iff.mp H; obtain ⟨t110, A190, H⟩ := H; replace H : ((diaphoneref06_ValidateCosts.f a0_2 a0_3 a0_4).bind fun t111 => (if t110 = t111 then (if t104 = t106 then (if t105 = t107 then ((diaphonelaw06_known.f kj2).bind fun t112 => (some t112)) else (some false)) else (some false)) else (some false))) = some r := H; have A19 := XB A190; clear A190; replace H := Option.bind_eq_some_iff.mp H; obtain ⟨t111, A200, H⟩ := H; replace H : (if t110 = t111 then (if t104 = t106 then (if t105 = t107 then ((diaphonelaw06_known.f kj2).bind fun t112 => (some t112)) else (some false)) else (some false)) else (some false)) = some r := H; have A20 := XB A200; clear A200; by_cases c21 : t110 = t111
     ·rw [if_pos c21] at H; have c21b0 : (t110 == t111) = true := beq_iff_eq.mpr c21; have c21b1 : (t110 != t111) = false := bne_eq_false_iff_eq.mpr c21; clear c21; by_cases c22 : t104 = t106
      ·rw [if_pos c22] at H; have c22b0 : (t104 == t106) = true := beq_iff_eq.mpr c22; have c22b1 : (t104 != t106) = false := bne_eq_false_iff_eq.mpr c22; clear c22; by_cases c23 : t105 = t107
       ·rw [if_pos c23] at H; have c23b0 : (t105 == t107) = true := beq_iff_eq.mpr c23; have c23b1 : (t105 != t107) = false := bne_eq_false_iff_eq.mpr c23; clear c23; replace H := Option.bind_eq_some_iff.mp H; obtain ⟨t112, A240, H⟩ := H; replace H : (some t112) = some r := H; have A24 := XB A240; clear A240; obtain rfl := Option.some.inj H; have hcz25_0 : wc.cell? ⟨gb101, 0, none⟩ = some (.slice A0_0 l0_0.length c0_0) := (Xi J101.out 0).trans rfl; have hcz25_1 : wc.cell? ⟨gb101, 1, none⟩ = some (.slice A0_1 l0_1.length c0_1) := (Xi J101.out 1).trans rfl; have hcz25_2 : wc.cell? ⟨gb101, 2, none⟩ = some (.int .i64 a0_2) := (Xi J101.out 2).trans rfl; have hcz25_3 : wc.cell? ⟨gb101, 3, none⟩ = some (.int .i64 a0_3) := (Xi J101.out 3).trans rfl; have hcz25_4 : wc.cell? ⟨gb101, 4, none⟩ = some (.int .i64 a0_4) := (Xi J101.out 4).trans rfl; have hfz25_0 := Xh J101.out 0; have hfz25_1 := Xh J101.out 1; have hfz25_2 := Xh J101.out 2; have hfz25_3 := Xh J101.out 3; have hfz25_4 := Xh J101.out 4; try go_wp2_with (first | ((with_reducible refine gate_callee (f := 29) rfl ?_); refine goesL_ (some 25) rfl rfl Try.func29 (by kernel_rfl) rfl #[.slice A0_0 l0_0.length c0_0, .slice A0_1 l0_1.length c0_1, .agg #[.int .i64 a0_2, .int .i64 a0_3, .int .i64 a0_4], .slice A1 l1.length c1] rfl (by (try simp only [Xm, Xn, Xo]); first | done | rfl | (simp only [Xp, Xq]; rfl)) ?_; (with_reducible refine (log_CheckPairs.calls kj2 _ _ l0_0 _ _ l0_1 a0_2 a0_3 a0_4 _ _ l1 t104 t105 _ ?side1 ?side2 ?side3 ?side4 ?side5 ?side6 A14.out).mono ?_); (case side1 => repeat (first | exact (Xu HR0_0.out HB.out) | (with_reducible refine Xr ?_ _) | (with_reducible refine Xs ?_ _) | (with_reducible refine Xt ?_))); (case side2 => exact HC0_0.out); (case side3 => repeat (first | exact (Xu HR0_1.out HB.out) | (with_reducible refine Xr ?_ _) | (with_reducible refine Xs ?_ _) | (with_reducible refine Xt ?_))); (case side4 => exact HC0_1.out); (case side5 => repeat (first | exact (Xu HR1.out HB.out) | (with_reducible refine Xr ?_ _) | (with_reducible refine Xs ?_ _) | (with_reducible refine Xt ?_))); (case side6 => exact HC1.out); rintro e w26 ⟨rfl, hb⟩; refine ⟨_, rfl, ?_⟩; have n0_ := XB (XA (g := gb101) (o := .cells #[.slice A0_0 l0_0.length c0_0, .slice A0_1 l0_1.length c0_1, .int .i64 a0_2, .int .i64 a0_3, .int .i64 a0_4] 26 (0, 0)) (by (with_reducible repeat (first | refine Xf ?_ _ | refine Xg ?_ | refine Xe ?_ _)); exact J101.out) hb); have n1_ := XB (Xz (by repeat (first | (with_reducible first | exact HB.out | apply Xc | apply Xa | apply Xb | refine Xd ?_ E101.out) | exact HB.out)) hb); clear J101; clear HB; have J101 := n0_; have HB := n1_; clear n0_ n1_; (try clear hb); (try clear hb2); (try clear hk); (try clear hi); have hcz27_0 : w26.cell? ⟨gb101, 0, none⟩ = some (.slice A0_0 l0_0.length c0_0) := (Xi J101.out 0).trans rfl; have hcz27_1 : w26.cell? ⟨gb101, 1, none⟩ = some (.slice A0_1 l0_1.length c0_1) := (Xi J101.out 1).trans rfl; have hcz27_2 : w26.cell? ⟨gb101, 2, none⟩ = some (.int .i64 a0_2) := (Xi J101.out 2).trans rfl; have hcz27_3 : w26.cell? ⟨gb101, 3, none⟩ = some (.int .i64 a0_3) := (Xi J101.out 3).trans rfl; have hcz27_4 : w26.cell? ⟨gb101, 4, none⟩ = some (.int .i64 a0_4) := (Xi J101.out 4).trans rfl; have hfz27_0 := Xh J101.out 0; have hfz27_1 := Xh J101.out 1; have hfz27_2 := Xh J101.out 2; have hfz27_3 := Xh J101.out 3; have hfz27_4 := Xh J101.out 4) | ((with_reducible refine gate_callee (f := 30) rfl ?_); refine goesL_ (some 36) rfl rfl Try.func30 (by kernel_rfl) rfl #[.slice A0_0 l0_0.length c0_0, .slice A0_1 l0_1.length c0_1, .agg #[.int .i64 a0_2, .int .i64 a0_3, .int .i64 a0_4], .slice A1 l1.length c1] rfl (by (try simp only [Xm, Xn, Xo]); first | done | rfl | (simp only [Xp, Xq]; rfl)) ?_; (with_reducible refine (diaphoneref06_CheckPairs.calls kj2 _ _ l0_0 _ _ l0_1 a0_2 a0_3 a0_4 _ _ l1 t106 t107 _ ?side1 ?side2 ?side3 ?side4 ?side5 ?side6 A15.out).mono ?_); (case side1 => repeat (first | exact (Xu HR0_0.out HB.out) | (with_reducible refine Xr ?_ _) | (with_reducible refine Xs ?_ _) | (with_reducible refine Xt ?_))); (case side2 => exact HC0_0.out); (case side3 => repeat (first | exact (Xu HR0_1.out HB.out) | (with_reducible refine Xr ?_ _) | (with_reducible refine Xs ?_ _) | (with_reducible refine Xt ?_))); (case side4 => exact HC0_1.out); (case side5 => repeat (first | exact (Xu HR1.out HB.out) | (with_reducible refine Xr ?_ _) | (with_reducible refine Xs ?_ _) | (with_reducible refine Xt ?_))); (case side6 => exact HC1.out); rintro e w28 ⟨rfl, hb⟩; refine ⟨_, rfl, ?_⟩; have n0_ := XB (XA (g := gb101) (o := .cells #[.slice A0_0 l0_0.length c0_0, .slice A0_1 l0_1.length c0_1, .int .i64 a0_2, .int .i64 a0_3, .int .i64 a0_4] 26 (0, 0)) (by (with_reducible repeat (first | refine Xf ?_ _ | refine Xg ?_ | refine Xe ?_ _)); exact J101.out) hb); have n1_ := XB (Xz (by repeat (first | (with_reducible first | exact HB.out | apply Xc | apply Xa | apply Xb | refine Xd ?_ E101.out) | exact HB.out)) hb); clear J101; clear HB; have J101 := n0_; have HB := n1_; clear n0_ n1_; (try clear hb); (try clear hb2); (try clear hk); (try clear hi)))
        have n0_ := XB (Xg J101.out); have n1_ := XB (Xb HB.out); clear J101; clear HB; have J101 := n0_; have HB := n1_; clear n0_ n1_; refine start_ (n := 30) (S := fun w' => w'.cell? ⟨gb101, 0, none⟩ = some (.slice A0_0 l0_0.length c0_0) ∧ w'.cell? ⟨gb101, 1, none⟩ = some (.slice A0_1 l0_1.length c0_1) ∧ w'.cell? ⟨gb101, 2, none⟩ = some (.int .i64 a0_2) ∧ w'.cell? ⟨gb101, 3, none⟩ = some (.int .i64 a0_3) ∧ w'.cell? ⟨gb101, 4, none⟩ = some (.int .i64 a0_4)) (ds := []) #[false, false, false, false, false, false, false, false, false, false, false, false, false, false, false, false, false, false, false, false, false, false, false, false, false, false, false, false, false, false] (by kernel_rfl) rfl rfl ⟨(Xi J101.out 0).trans rfl, (Xi J101.out 1).trans rfl, (Xi J101.out 2).trans rfl, (Xi J101.out 3).trans rfl, (Xi J101.out 4).trans rfl⟩ (fun hHeld => ?_); refine with_tabW diaphonelaw06_LogPairs.tab5 diaphonelaw06_LogPairs.bits5 (fun HT_ HW_ => ?_); generalize w28.drew = w29 at J101 HB hHeld ⊢
        refine pure_ (i := 0) (N := some 39) (v := ?_) (a' := ?_) (Bq 30 1) rfl rfl (any_of HT_.out (by kernel_rfl)) (fun _ _ _ h => h) (Or.inl ⟨by rfl, ?_⟩) ?_ ?_; rotate_left
        ·intro w'; go_simp; with_reducible rfl
        rotate_left
        ·simp only [Act.put, Xj, Xk, Xl, i64_w, i32_w]; rfl
        refine pure_ (i := 3) (N := some 42) (v := ?_) (a' := ?_) (Bq 30 9) rfl rfl (any_of HT_.out (by kernel_rfl)) (fun _ _ _ h => h) (Or.inl ⟨by rfl, ?_⟩) ?_ ?_; rotate_left
        ·intro w'; go_simp; with_reducible rfl
        rotate_left
        ·simp only [Act.put, Xj, Xk, Xl, i64_w, i32_w]; rfl
        refine take_ (i := 1) (N := some 40) (v := ?_) (a' := ?_) (Bq 30 11) rfl rfl (take_ofW HT_.out HW_.out (by kernel_rfl)) (fun _ _ _ h => h) (Or.inl ⟨by rfl, ?_⟩) hHeld ?_ ?_; rotate_left
        ·rintro w' ⟨s0, s1, s2, s3, s4⟩; go_simp; with_reducible rfl
        rotate_left
        ·simp only [Act.put, Xj, Xk, Xl, i64_w, i32_w]; rfl
        refine take_ (i := 4) (N := some 43) (v := ?_) (a' := ?_) (Bq 30 27) rfl rfl (take_ofW HT_.out HW_.out (by kernel_rfl)) (fun _ _ _ h => h) (Or.inl ⟨by rfl, ?_⟩) hHeld ?_ ?_; rotate_left
        ·rintro w' ⟨s0, s1, s2, s3, s4⟩; go_simp; with_reducible rfl
        rotate_left
        ·simp only [Act.put, Xj, Xk, Xl, i64_w, i32_w]; rfl
        refine one_ (i := 2) (N := some 41) (Bq 30 31) rfl rfl (one_of HT_.out (by kernel_rfl)) (by decide) (fun K hK => ?_); refine goes_ Try.func31 (by kernel_rfl) rfl #[.slice A0_0 l0_0.length c0_0] (by rfl) rfl rfl (by (try simp only [Xm, Xn, Xo]); first | done | rfl | (simp only [Xp, Xq]; rfl)) ?_; with_reducible refine (log_Validate.calls kj2 _ _ l0_0 t108 _ ?side1 ?side2 A16.out).mono ?_
        (case side1 => repeat (first | exact (Xu HR0_0.out HB.out) | (with_reducible refine Xr ?_ _) | (with_reducible refine Xs ?_ _) | (with_reducible refine Xt ?_)))
        (case side2 => exact HC0_0.out)
        rintro e w' ⟨rfl, ⟨nd, rfl⟩⟩; refine ⟨_, rfl, ?_⟩; refine hK.out _ _ ⟨(Xi J101.out 0).trans rfl, (Xi J101.out 1).trans rfl, (Xi J101.out 2).trans rfl, (Xi J101.out 3).trans rfl, (Xi J101.out 4).trans rfl⟩ (fun hHeld => ?_); clear hK K; refine norm_ (a' := ?_) ?_ ?_; rotate_left
        ·show Act.put _ (some 41) _ = _
         simp only [Act.put, Xj, Xk, Xl, i64_w, i32_w]; rfl
        refine one_ (i := 5) (N := some 44) (Bq 30 63) rfl rfl (one_of HT_.out (by kernel_rfl)) (by decide) (fun K hK => ?_); refine goes_ Try.func32 (by kernel_rfl) rfl #[.slice A0_0 l0_0.length c0_0] (by rfl) rfl rfl (by (try simp only [Xm, Xn, Xo]); first | done | rfl | (simp only [Xp, Xq]; rfl)) ?_; with_reducible refine (diaphoneref06_Validate.calls kj2 _ _ l0_0 t109 _ ?side1 ?side2 A17.out).mono ?_
        (case side1 => repeat (first | exact (Xu HR0_0.out (by repeat (first | (with_reducible first | exact HB.out | apply Xc | apply Xa | apply Xb | refine Xd ?_ E101.out) | exact HB.out))) | (with_reducible refine Xr ?_ _) | (with_reducible refine Xs ?_ _) | (with_reducible refine Xt ?_)))
        (case side2 => exact HC0_0.out)
        rintro e w' ⟨rfl, ⟨nd, rfl⟩⟩; refine ⟨_, rfl, ?_⟩; refine hK.out _ _ ⟨(Xi J101.out 0).trans rfl, (Xi J101.out 1).trans rfl, (Xi J101.out 2).trans rfl, (Xi J101.out 3).trans rfl, (Xi J101.out 4).trans rfl⟩ (fun hHeld => ?_); clear hK K; refine norm_ (a' := ?_) ?_ ?_; rotate_left
        ·show Act.put _ (some 44) _ = _
         simp only [Act.put, Xj, Xk, Xl, i64_w, i32_w]; rfl
        refine pure_ (i := 6) (N := some 45) (v := ?_) (a' := ?_) (Bq 30 127) rfl rfl (any_of HT_.out (by kernel_rfl)) (fun _ _ _ h => h) (Or.inl ⟨by rfl, ?_⟩) ?_ ?_; rotate_left
        ·intro w'; go_simp; with_reducible rfl
        rotate_left
        ·simp only [Act.put, Xj, Xk, Xl, i64_w, i32_w]; rfl
        refine pure_ (i := 7) (N := some 46) (v := ?_) (a' := ?_) (Bq 30 255) rfl rfl (any_of HT_.out (by kernel_rfl)) (fun _ _ _ h => h) (Or.inl ⟨by rfl, ?_⟩) ?_ ?_; rotate_left
        ·intro w'; go_simp; with_reducible rfl
        rotate_left
        ·simp only [Act.put, Xj, Xk, Xl, i64_w, i32_w]; rfl
        refine pure_ (i := 8) (N := some 47) (v := ?_) (a' := ?_) (Bq 30 511) rfl rfl (any_of HT_.out (by kernel_rfl)) (fun _ _ _ h => h) (Or.inl ⟨by rfl, ?_⟩) ?_ ?_; rotate_left
        ·intro w'; go_simp; with_reducible rfl
        rotate_left
        ·simp only [Act.put, Xj, Xk, Xl, i64_w, i32_w]; rfl
        refine pure_ (i := 11) (N := some 50) (v := ?_) (a' := ?_) (Bq 30 2559) rfl rfl (any_of HT_.out (by kernel_rfl)) (fun _ _ _ h => h) (Or.inl ⟨by rfl, ?_⟩) ?_ ?_; rotate_left
        ·intro w'; go_simp; with_reducible rfl
        rotate_left
        ·simp only [Act.put, Xj, Xk, Xl, i64_w, i32_w]; rfl
        refine take_ (i := 9) (N := some 48) (v := ?_) (a' := ?_) (Bq 30 3071) rfl rfl (take_ofW HT_.out HW_.out (by kernel_rfl)) (fun _ _ _ h => h) (Or.inl ⟨by rfl, ?_⟩) hHeld ?_ ?_; rotate_left
        ·rintro w' ⟨s0, s1, s2, s3, s4⟩; go_simp; with_reducible rfl
        rotate_left
        ·simp only [Act.put, Xj, Xk, Xl, i64_w, i32_w]; rfl
        refine take_ (i := 12) (N := some 51) (v := ?_) (a' := ?_) (Bq 30 7167) rfl rfl (take_ofW HT_.out HW_.out (by kernel_rfl)) (fun _ _ _ h => h) (Or.inl ⟨by rfl, ?_⟩) hHeld ?_ ?_; rotate_left
        ·rintro w' ⟨s0, s1, s2, s3, s4⟩; go_simp; with_reducible rfl
        rotate_left
        ·simp only [Act.put, Xj, Xk, Xl, i64_w, i32_w]; rfl
        refine one_ (i := 10) (N := some 49) (Bq 30 8191) rfl rfl (one_of HT_.out (by kernel_rfl)) (by decide) (fun K hK => ?_); refine goes_ Try.func33 (by kernel_rfl) rfl #[.agg #[.int .i64 a0_2, .int .i64 a0_3, .int .i64 a0_4]] (by rfl) rfl rfl (by (try simp only [Xm, Xn, Xo]); first | done | rfl | (simp only [Xp, Xq]; rfl)) ?_; with_reducible refine (log_ValidateCosts.calls a0_2 a0_3 a0_4 t110 _ A19.out).mono ?_
        rintro e w30 ⟨rfl, hb⟩; refine ⟨_, rfl, ?_⟩; have n0_ := XB (XA (g := gb101) (o := .cells #[.slice A0_0 l0_0.length c0_0, .slice A0_1 l0_1.length c0_1, .int .i64 a0_2, .int .i64 a0_3, .int .i64 a0_4] 26 (0, 0)) (by (with_reducible repeat (first | refine Xf ?_ _ | refine Xg ?_ | refine Xe ?_ _)); exact J101.out) hb); have n1_ := XB (Xz (by repeat (first | (with_reducible first | exact HB.out | apply Xc | apply Xa | apply Xb | refine Xd ?_ E101.out) | exact HB.out)) hb); clear J101; clear HB; have J101 := n0_; have HB := n1_; clear n0_ n1_; (try clear hb)
        (try clear hb2)
        (try clear hk)
        (try clear hi)
        refine hK.out _ _ ⟨(Xi J101.out 0).trans rfl, (Xi J101.out 1).trans rfl, (Xi J101.out 2).trans rfl, (Xi J101.out 3).trans rfl, (Xi J101.out 4).trans rfl⟩ (fun hHeld => ?_); clear hK K; refine norm_ (a' := ?_) ?_ ?_; rotate_left
        ·show Act.put _ (some 49) _ = _
         simp only [Act.put, Xj, Xk, Xl, i64_w, i32_w]; rfl
        refine one_ (i := 13) (N := some 52) (Bq 30 16383) rfl rfl (one_of HT_.out (by kernel_rfl)) (by decide) (fun K hK => ?_); refine goes_ Try.func34 (by kernel_rfl) rfl #[.agg #[.int .i64 a0_2, .int .i64 a0_3, .int .i64 a0_4]] (by rfl) rfl rfl (by (try simp only [Xm, Xn, Xo]); first | done | rfl | (simp only [Xp, Xq]; rfl)) ?_; with_reducible refine (diaphoneref06_ValidateCosts.calls a0_2 a0_3 a0_4 t111 _ A20.out).mono ?_
        rintro e w31 ⟨rfl, hb⟩; refine ⟨_, rfl, ?_⟩; have n0_ := XB (XA (g := gb101) (o := .cells #[.slice A0_0 l0_0.length c0_0, .slice A0_1 l0_1.length c0_1, .int .i64 a0_2, .int .i64 a0_3, .int .i64 a0_4] 26 (0, 0)) (by (with_reducible repeat (first | refine Xf ?_ _ | refine Xg ?_ | refine Xe ?_ _)); exact J101.out) hb); have n1_ := XB (Xz (by repeat (first | (with_reducible first | exact HB.out | apply Xc | apply Xa | apply Xb | refine Xd ?_ E101.out) | exact HB.out)) hb); clear J101; clear HB; have J101 := n0_; have HB := n1_; clear n0_ n1_; (try clear hb)
        (try clear hb2)
        (try clear hk)
        (try clear hi)
        refine hK.out _ _ ⟨(Xi J101.out 0).trans rfl, (Xi J101.out 1).trans rfl, (Xi J101.out 2).trans rfl, (Xi J101.out 3).trans rfl, (Xi J101.out 4).trans rfl⟩ (fun hHeld => ?_); clear hK K; refine norm_ (a' := ?_) ?_ ?_; rotate_left
        ·show Act.put _ (some 52) _ = _
         simp only [Act.put, Xj, Xk, Xl, i64_w, i32_w]; rfl
        refine pure_ (i := 14) (N := some 53) (v := ?_) (a' := ?_) (Bq 30 32767) rfl rfl (any_of HT_.out (by kernel_rfl)) (fun _ _ _ h => h) (Or.inl ⟨by rfl, ?_⟩) ?_ ?_; rotate_left
        ·intro w'; go_simp; with_reducible rfl
        rotate_left
        ·simp only [Act.put, Xj, Xk, Xl, i64_w, i32_w]; rfl
        refine pure_ (i := 15) (N := some 54) (v := ?_) (a' := ?_) (Bq 30 65535) rfl rfl (any_of HT_.out (by kernel_rfl)) (fun _ _ _ h => h) (Or.inl ⟨by rfl, ?_⟩) ?_ ?_; rotate_left
        ·intro w'; go_simp; with_reducible rfl
        rotate_left
        ·simp only [Act.put, Xj, Xk, Xl, i64_w, i32_w]; rfl
        refine pure_ (i := 16) (N := some 55) (v := ?_) (a' := ?_) (Bq 30 131071) rfl rfl (any_of HT_.out (by kernel_rfl)) (fun _ _ _ h => h) (Or.inl ⟨by rfl, ?_⟩) ?_ ?_; rotate_left
        ·intro w'; go_simp; with_reducible rfl
        rotate_left
        ·simp only [Act.put, Xj, Xk, Xl, i64_w, i32_w]; rfl
        refine pure_ (i := 17) (N := some 56) (v := ?_) (a' := ?_) (Bq 30 262143) rfl rfl (any_of HT_.out (by kernel_rfl)) (fun _ _ _ h => h) (Or.inl ⟨by rfl, ?_⟩) ?_ ?_; rotate_left
        ·intro w'; go_simp; with_reducible rfl
        rotate_left
        ·simp only [Act.put, Xj, Xk, Xl, i64_w, i32_w]; rfl
        refine pure_ (i := 18) (N := some 57) (v := ?_) (a' := ?_) (Bq 30 524287) rfl rfl (any_of HT_.out (by kernel_rfl)) (fun _ _ _ h => h) (Or.inl ⟨by rfl, ?_⟩) ?_ ?_; rotate_left
        ·intro w'; go_simp; with_reducible rfl
        rotate_left
        ·simp only [Act.put, Xj, Xk, Xl, i64_w, i32_w]; rfl
        refine pure_ (i := 19) (N := some 58) (v := ?_) (a' := ?_) (Bq 30 1048575) rfl rfl (any_of HT_.out (by kernel_rfl)) (fun _ _ _ h => h) (Or.inl ⟨by rfl, ?_⟩) ?_ ?_; rotate_left
        ·intro w'; go_simp; with_reducible rfl
        rotate_left
        ·simp only [Act.put, Xj, Xk, Xl, i64_w, i32_w]; rfl
        refine pure_ (i := 20) (N := some 59) (v := ?_) (a' := ?_) (Bq 30 2097151) rfl rfl (any_of HT_.out (by kernel_rfl)) (fun _ _ _ h => h) (Or.inl ⟨by rfl, ?_⟩) ?_ ?_; rotate_left
        ·intro w'; go_simp; with_reducible rfl
        rotate_left
        ·simp only [Act.put, Xj, Xk, Xl, i64_w, i32_w]; rfl
        refine pure_ (i := 21) (N := some 60) (v := ?_) (a' := ?_) (Bq 30 4194303) rfl rfl (any_of HT_.out (by kernel_rfl)) (fun _ _ _ h => h) (Or.inl ⟨by rfl, ?_⟩) ?_ ?_; rotate_left
        ·intro w'; go_simp; with_reducible rfl
        rotate_left
        ·simp only [Act.put, Xj, Xk, Xl, i64_w, i32_w]; rfl
        refine pure_ (i := 22) (N := some 61) (v := ?_) (a' := ?_) (Bq 30 8388607) rfl rfl (any_of HT_.out (by kernel_rfl)) (fun _ _ _ h => h) (Or.inl ⟨by rfl, ?_⟩) ?_ ?_; rotate_left
        ·intro w'; go_simp; with_reducible rfl
        rotate_left
        ·simp only [Act.put, Xj, Xk, Xl, i64_w, i32_w]; rfl
        refine pure_ (i := 23) (N := some 62) (v := ?_) (a' := ?_) (Bq 30 16777215) rfl rfl (any_of HT_.out (by kernel_rfl)) (fun _ _ _ h => h) (Or.inl ⟨by rfl, ?_⟩) ?_ ?_; rotate_left
        ·intro w'; go_simp; with_reducible rfl
        rotate_left
        ·simp only [Act.put, Xj, Xk, Xl, i64_w, i32_w]; rfl
        refine pure_ (i := 24) (N := some 63) (v := ?_) (a' := ?_) (Bq 30 33554431) rfl rfl (any_of HT_.out (by kernel_rfl)) (fun _ _ _ h => h) (Or.inl ⟨by rfl, ?_⟩) ?_ ?_; rotate_left
        ·intro w'; go_simp; with_reducible rfl
        rotate_left
        ·simp only [Act.put, Xj, Xk, Xl, i64_w, i32_w]; rfl
        refine pure_ (i := 25) (N := some 64) (v := ?_) (a' := ?_) (Bq 30 67108863) rfl rfl (any_of HT_.out (by kernel_rfl)) (fun _ _ _ h => h) (Or.inl ⟨by rfl, ?_⟩) ?_ ?_; rotate_left
        ·intro w'; go_simp; with_reducible rfl
        rotate_left
        ·simp only [Act.put, Xj, Xk, Xl, i64_w, i32_w]; rfl
        refine pure_ (i := 26) (N := some 65) (v := ?_) (a' := ?_) (Bq 30 134217727) rfl rfl (any_of HT_.out (by kernel_rfl)) (fun _ _ _ h => h) (Or.inl ⟨by rfl, ?_⟩) ?_ ?_; rotate_left
        ·intro w'; go_simp; with_reducible rfl
        rotate_left
        ·simp only [Act.put, Xj, Xk, Xl, i64_w, i32_w]; rfl
        refine one_ (i := 27) (N := some 66) (Bq 30 268435455) rfl rfl (one_of HT_.out (by kernel_rfl)) (by decide) (fun K hK => ?_); refine goes_ Try.func19 (by kernel_rfl) rfl #[] (by rfl) rfl rfl (by (try simp only [Xm, Xn, Xo]); first | done | rfl | (simp only [Xp, Xq]; rfl)) ?_; with_reducible refine (diaphonelaw06_known.calls kj2  t112 _ A24.out).mono ?_
        rintro e w32 ⟨rfl, hb⟩; refine ⟨_, rfl, ?_⟩; have n0_ := XB (XA (g := gb101) (o := .cells #[.slice A0_0 l0_0.length c0_0, .slice A0_1 l0_1.length c0_1, .int .i64 a0_2, .int .i64 a0_3, .int .i64 a0_4] 26 (0, 0)) (by (with_reducible repeat (first | refine Xf ?_ _ | refine Xg ?_ | refine Xe ?_ _)); exact J101.out) hb); have n1_ := XB (Xz (by repeat (first | (with_reducible first | exact HB.out | apply Xc | apply Xa | apply Xb | refine Xd ?_ E101.out) | exact HB.out)) hb); clear J101; clear HB; have J101 := n0_; have HB := n1_; clear n0_ n1_; (try clear hb)
        (try clear hb2)
        (try clear hk)
        (try clear hi)
        refine hK.out _ _ ⟨(Xi J101.out 0).trans rfl, (Xi J101.out 1).trans rfl, (Xi J101.out 2).trans rfl, (Xi J101.out 3).trans rfl, (Xi J101.out 4).trans rfl⟩ (fun hHeld => ?_); clear hK K; refine norm_ (a' := ?_) ?_ ?_; rotate_left
        ·show Act.put _ (some 66) _ = _
         simp only [Act.put, Xj, Xk, Xl, i64_w, i32_w]; rfl
        refine pure_ (i := 28) (N := some 67) (v := ?_) (a' := ?_) (Bq 30 536870911) rfl rfl (any_of HT_.out (by kernel_rfl)) (fun _ _ _ h => h) (Or.inl ⟨by rfl, ?_⟩) ?_ ?_; rotate_left
        ·intro w'; go_simp; with_reducible rfl
        rotate_left
        ·simp only [Act.put, Xj, Xk, Xl, i64_w, i32_w]; rfl
        refine pure_ (i := 29) (N := some 4) (v := ?_) (a' := ?_) (Bq 30 1073741823) rfl rfl (any_of HT_.out (by kernel_rfl)) (fun _ _ _ h => h) (Or.inl ⟨by rfl, ?_⟩) ?_ ?_; rotate_left
        ·intro w'; go_simp; with_reducible rfl
        rotate_left
        ·simp only [Act.put, Xj, Xk, Xl, i64_w, i32_w]; rfl
        refine done_ (done_of HT_.out (by kernel_rfl)) ?_; try go_wp2
        go_ret
        exact ⟨by first | rfl | (simp [errW_none, errW_some] <;> rfl) | (simp [*, errW_none, errW_some] <;> rfl), by repeat (first | (with_reducible first | exact HB.out | apply Xc | apply Xa | apply Xb | refine Xd ?_ E101.out) | exact HB.out)⟩
       ·rw [if_neg c23] at H; have c23b0 : (t105 == t107) = false := beq_eq_false_iff_ne.mpr c23; have c23b1 : (t105 != t107) = true := bne_iff_ne.mpr c23; obtain rfl := Option.some.inj H; have hcz33_0 : wc.cell? ⟨gb101, 0, none⟩ = some (.slice A0_0 l0_0.length c0_0) := (Xi J101.out 0).trans rfl; have hcz33_1 : wc.cell? ⟨gb101, 1, none⟩ = some (.slice A0_1 l0_1.length c0_1) := (Xi J101.out 1).trans rfl; have hcz33_2 : wc.cell? ⟨gb101, 2, none⟩ = some (.int .i64 a0_2) := (Xi J101.out 2).trans rfl; have hcz33_3 : wc.cell? ⟨gb101, 3, none⟩ = some (.int .i64 a0_3) := (Xi J101.out 3).trans rfl; have hcz33_4 : wc.cell? ⟨gb101, 4, none⟩ = some (.int .i64 a0_4) := (Xi J101.out 4).trans rfl; have hfz33_0 := Xh J101.out 0; have hfz33_1 := Xh J101.out 1; have hfz33_2 := Xh J101.out 2; have hfz33_3 := Xh J101.out 3; have hfz33_4 := Xh J101.out 4; try go_wp2_with (first | ((with_reducible refine gate_callee (f := 29) rfl ?_); refine goesL_ (some 25) rfl rfl Try.func29 (by kernel_rfl) rfl #[.slice A0_0 l0_0.length c0_0, .slice A0_1 l0_1.length c0_1, .agg #[.int .i64 a0_2, .int .i64 a0_3, .int .i64 a0_4], .slice A1 l1.length c1] rfl (by (try simp only [Xm, Xn, Xo]); first | done | rfl | (simp only [Xp, Xq]; rfl)) ?_; (with_reducible refine (log_CheckPairs.calls kj2 _ _ l0_0 _ _ l0_1 a0_2 a0_3 a0_4 _ _ l1 t104 t105 _ ?side1 ?side2 ?side3 ?side4 ?side5 ?side6 A14.out).mono ?_); (case side1 => repeat (first | exact (Xu HR0_0.out HB.out) | (with_reducible refine Xr ?_ _) | (with_reducible refine Xs ?_ _) | (with_reducible refine Xt ?_))); (case side2 => exact HC0_0.out); (case side3 => repeat (first | exact (Xu HR0_1.out HB.out) | (with_reducible refine Xr ?_ _) | (with_reducible refine Xs ?_ _) | (with_reducible refine Xt ?_))); (case side4 => exact HC0_1.out); (case side5 => repeat (first | exact (Xu HR1.out HB.out) | (with_reducible refine Xr ?_ _) | (with_reducible refine Xs ?_ _) | (with_reducible refine Xt ?_))); (case side6 => exact HC1.out); rintro e w34 ⟨rfl, hb⟩; refine ⟨_, rfl, ?_⟩; have n0_ := XB (XA (g := gb101) (o := .cells #[.slice A0_0 l0_0.length c0_0, .slice A0_1 l0_1.length c0_1, .int .i64 a0_2, .int .i64 a0_3, .int .i64 a0_4] 26 (0, 0)) (by (with_reducible repeat (first | refine Xf ?_ _ | refine Xg ?_ | refine Xe ?_ _)); exact J101.out) hb); have n1_ := XB (Xz (by repeat (first | (with_reducible first | exact HB.out | apply Xc | apply Xa | apply Xb | refine Xd ?_ E101.out) | exact HB.out)) hb); clear J101; clear HB; have J101 := n0_; have HB := n1_; clear n0_ n1_; (try clear hb); (try clear hb2); (try clear hk); (try clear hi); have hcz35_0 : w34.cell? ⟨gb101, 0, none⟩ = some (.slice A0_0 l0_0.length c0_0) := (Xi J101.out 0).trans rfl; have hcz35_1 : w34.cell? ⟨gb101, 1, none⟩ = some (.slice A0_1 l0_1.length c0_1) := (Xi J101.out 1).trans rfl; have hcz35_2 : w34.cell? ⟨gb101, 2, none⟩ = some (.int .i64 a0_2) := (Xi J101.out 2).trans rfl; have hcz35_3 : w34.cell? ⟨gb101, 3, none⟩ = some (.int .i64 a0_3) := (Xi J101.out 3).trans rfl; have hcz35_4 : w34.cell? ⟨gb101, 4, none⟩ = some (.int .i64 a0_4) := (Xi J101.out 4).trans rfl; have hfz35_0 := Xh J101.out 0; have hfz35_1 := Xh J101.out 1; have hfz35_2 := Xh J101.out 2; have hfz35_3 := Xh J101.out 3; have hfz35_4 := Xh J101.out 4) | ((with_reducible refine gate_callee (f := 30) rfl ?_); refine goesL_ (some 36) rfl rfl Try.func30 (by kernel_rfl) rfl #[.slice A0_0 l0_0.length c0_0, .slice A0_1 l0_1.length c0_1, .agg #[.int .i64 a0_2, .int .i64 a0_3, .int .i64 a0_4], .slice A1 l1.length c1] rfl (by (try simp only [Xm, Xn, Xo]); first | done | rfl | (simp only [Xp, Xq]; rfl)) ?_; (with_reducible refine (diaphoneref06_CheckPairs.calls kj2 _ _ l0_0 _ _ l0_1 a0_2 a0_3 a0_4 _ _ l1 t106 t107 _ ?side1 ?side2 ?side3 ?side4 ?side5 ?side6 A15.out).mono ?_); (case side1 => repeat (first | exact (Xu HR0_0.out HB.out) | (with_reducible refine Xr ?_ _) | (with_reducible refine Xs ?_ _) | (with_reducible refine Xt ?_))); (case side2 => exact HC0_0.out); (case side3 => repeat (first | exact (Xu HR0_1.out HB.out) | (with_reducible refine Xr ?_ _) | (with_reducible refine Xs ?_ _) | (with_reducible refine Xt ?_))); (case side4 => exact HC0_1.out); (case side5 => repeat (first | exact (Xu HR1.out HB.out) | (with_reducible refine Xr ?_ _) | (with_reducible refine Xs ?_ _) | (with_reducible refine Xt ?_))); (case side6 => exact HC1.out); rintro e w36 ⟨rfl, hb⟩; refine ⟨_, rfl, ?_⟩; have n0_ := XB (XA (g := gb101) (o := .cells #[.slice A0_0 l0_0.length c0_0, .slice A0_1 l0_1.length c0_1, .int .i64 a0_2, .int .i64 a0_3, .int .i64 a0_4] 26 (0, 0)) (by (with_reducible repeat (first | refine Xf ?_ _ | refine Xg ?_ | refine Xe ?_ _)); exact J101.out) hb); have n1_ := XB (Xz (by repeat (first | (with_reducible first | exact HB.out | apply Xc | apply Xa | apply Xb | refine Xd ?_ E101.out) | exact HB.out)) hb); clear J101; clear HB; have J101 := n0_; have HB := n1_; clear n0_ n1_; (try clear hb); (try clear hb2); (try clear hk); (try clear hi)))
        have n0_ := XB (Xg J101.out); have n1_ := XB (Xb HB.out); clear J101; clear HB; have J101 := n0_; have HB := n1_; clear n0_ n1_; refine start_ (n := 30) (S := fun w' => w'.cell? ⟨gb101, 0, none⟩ = some (.slice A0_0 l0_0.length c0_0) ∧ w'.cell? ⟨gb101, 1, none⟩ = some (.slice A0_1 l0_1.length c0_1) ∧ w'.cell? ⟨gb101, 2, none⟩ = some (.int .i64 a0_2) ∧ w'.cell? ⟨gb101, 3, none⟩ = some (.int .i64 a0_3) ∧ w'.cell? ⟨gb101, 4, none⟩ = some (.int .i64 a0_4)) (ds := []) #[false, false, false, false, false, false, false, false, false, false, false, false, false, false, false, false, false, false, false, false, false, false, false, false, false, false, false, false, false, false] (by kernel_rfl) rfl rfl ⟨(Xi J101.out 0).trans rfl, (Xi J101.out 1).trans rfl, (Xi J101.out 2).trans rfl, (Xi J101.out 3).trans rfl, (Xi J101.out 4).trans rfl⟩ (fun hHeld => ?_); refine with_tabW diaphonelaw06_LogPairs.tab5 diaphonelaw06_LogPairs.bits5 (fun HT_ HW_ => ?_); generalize w36.drew = w37 at J101 HB hHeld ⊢
        refine pure_ (i := 0) (N := some 39) (v := ?_) (a' := ?_) (Bq 30 1) rfl rfl (any_of HT_.out (by kernel_rfl)) (fun _ _ _ h => h) (Or.inl ⟨by rfl, ?_⟩) ?_ ?_; rotate_left
        ·intro w'; go_simp; with_reducible rfl
        rotate_left
        ·simp only [Act.put, Xj, Xk, Xl, i64_w, i32_w]; rfl
        refine pure_ (i := 3) (N := some 42) (v := ?_) (a' := ?_) (Bq 30 9) rfl rfl (any_of HT_.out (by kernel_rfl)) (fun _ _ _ h => h) (Or.inl ⟨by rfl, ?_⟩) ?_ ?_; rotate_left
        ·intro w'; go_simp; with_reducible rfl
        rotate_left
        ·simp only [Act.put, Xj, Xk, Xl, i64_w, i32_w]; rfl
        refine take_ (i := 1) (N := some 40) (v := ?_) (a' := ?_) (Bq 30 11) rfl rfl (take_ofW HT_.out HW_.out (by kernel_rfl)) (fun _ _ _ h => h) (Or.inl ⟨by rfl, ?_⟩) hHeld ?_ ?_; rotate_left
        ·rintro w' ⟨s0, s1, s2, s3, s4⟩; go_simp; with_reducible rfl
        rotate_left
        ·simp only [Act.put, Xj, Xk, Xl, i64_w, i32_w]; rfl
        refine take_ (i := 4) (N := some 43) (v := ?_) (a' := ?_) (Bq 30 27) rfl rfl (take_ofW HT_.out HW_.out (by kernel_rfl)) (fun _ _ _ h => h) (Or.inl ⟨by rfl, ?_⟩) hHeld ?_ ?_; rotate_left
        ·rintro w' ⟨s0, s1, s2, s3, s4⟩; go_simp; with_reducible rfl
        rotate_left
        ·simp only [Act.put, Xj, Xk, Xl, i64_w, i32_w]; rfl
        refine one_ (i := 2) (N := some 41) (Bq 30 31) rfl rfl (one_of HT_.out (by kernel_rfl)) (by decide) (fun K hK => ?_); refine goes_ Try.func31 (by kernel_rfl) rfl #[.slice A0_0 l0_0.length c0_0] (by rfl) rfl rfl (by (try simp only [Xm, Xn, Xo]); first | done | rfl | (simp only [Xp, Xq]; rfl)) ?_; with_reducible refine (log_Validate.calls kj2 _ _ l0_0 t108 _ ?side1 ?side2 A16.out).mono ?_
        (case side1 => repeat (first | exact (Xu HR0_0.out HB.out) | (with_reducible refine Xr ?_ _) | (with_reducible refine Xs ?_ _) | (with_reducible refine Xt ?_)))
        (case side2 => exact HC0_0.out)
        rintro e w' ⟨rfl, ⟨nd, rfl⟩⟩; refine ⟨_, rfl, ?_⟩; refine hK.out _ _ ⟨(Xi J101.out 0).trans rfl, (Xi J101.out 1).trans rfl, (Xi J101.out 2).trans rfl, (Xi J101.out 3).trans rfl, (Xi J101.out 4).trans rfl⟩ (fun hHeld => ?_); clear hK K; refine norm_ (a' := ?_) ?_ ?_; rotate_left
        ·show Act.put _ (some 41) _ = _
         simp only [Act.put, Xj, Xk, Xl, i64_w, i32_w]; rfl
        refine one_ (i := 5) (N := some 44) (Bq 30 63) rfl rfl (one_of HT_.out (by kernel_rfl)) (by decide) (fun K hK => ?_); refine goes_ Try.func32 (by kernel_rfl) rfl #[.slice A0_0 l0_0.length c0_0] (by rfl) rfl rfl (by (try simp only [Xm, Xn, Xo]); first | done | rfl | (simp only [Xp, Xq]; rfl)) ?_; with_reducible refine (diaphoneref06_Validate.calls kj2 _ _ l0_0 t109 _ ?side1 ?side2 A17.out).mono ?_
        (case side1 => repeat (first | exact (Xu HR0_0.out (by repeat (first | (with_reducible first | exact HB.out | apply Xc | apply Xa | apply Xb | refine Xd ?_ E101.out) | exact HB.out))) | (with_reducible refine Xr ?_ _) | (with_reducible refine Xs ?_ _) | (with_reducible refine Xt ?_)))
        (case side2 => exact HC0_0.out)
        rintro e w' ⟨rfl, ⟨nd, rfl⟩⟩; refine ⟨_, rfl, ?_⟩; refine hK.out _ _ ⟨(Xi J101.out 0).trans rfl, (Xi J101.out 1).trans rfl, (Xi J101.out 2).trans rfl, (Xi J101.out 3).trans rfl, (Xi J101.out 4).trans rfl⟩ (fun hHeld => ?_); clear hK K; refine norm_ (a' := ?_) ?_ ?_; rotate_left
        ·show Act.put _ (some 44) _ = _
         simp only [Act.put, Xj, Xk, Xl, i64_w, i32_w]; rfl
        refine pure_ (i := 6) (N := some 45) (v := ?_) (a' := ?_) (Bq 30 127) rfl rfl (any_of HT_.out (by kernel_rfl)) (fun _ _ _ h => h) (Or.inl ⟨by rfl, ?_⟩) ?_ ?_; rotate_left
        ·intro w'; go_simp; with_reducible rfl
        rotate_left
        ·simp only [Act.put, Xj, Xk, Xl, i64_w, i32_w]; rfl
        refine pure_ (i := 7) (N := some 46) (v := ?_) (a' := ?_) (Bq 30 255) rfl rfl (any_of HT_.out (by kernel_rfl)) (fun _ _ _ h => h) (Or.inl ⟨by rfl, ?_⟩) ?_ ?_; rotate_left
        ·intro w'; go_simp; with_reducible rfl
        rotate_left
        ·simp only [Act.put, Xj, Xk, Xl, i64_w, i32_w]; rfl
        refine pure_ (i := 8) (N := some 47) (v := ?_) (a' := ?_) (Bq 30 511) rfl rfl (any_of HT_.out (by kernel_rfl)) (fun _ _ _ h => h) (Or.inl ⟨by rfl, ?_⟩) ?_ ?_; rotate_left
        ·intro w'; go_simp; with_reducible rfl
        rotate_left
        ·simp only [Act.put, Xj, Xk, Xl, i64_w, i32_w]; rfl
        refine pure_ (i := 11) (N := some 50) (v := ?_) (a' := ?_) (Bq 30 2559) rfl rfl (any_of HT_.out (by kernel_rfl)) (fun _ _ _ h => h) (Or.inl ⟨by rfl, ?_⟩) ?_ ?_; rotate_left
        ·intro w'; go_simp; with_reducible rfl
        rotate_left
        ·simp only [Act.put, Xj, Xk, Xl, i64_w, i32_w]; rfl
        refine take_ (i := 9) (N := some 48) (v := ?_) (a' := ?_) (Bq 30 3071) rfl rfl (take_ofW HT_.out HW_.out (by kernel_rfl)) (fun _ _ _ h => h) (Or.inl ⟨by rfl, ?_⟩) hHeld ?_ ?_; rotate_left
        ·rintro w' ⟨s0, s1, s2, s3, s4⟩; go_simp; with_reducible rfl
        rotate_left
        ·simp only [Act.put, Xj, Xk, Xl, i64_w, i32_w]; rfl
        refine take_ (i := 12) (N := some 51) (v := ?_) (a' := ?_) (Bq 30 7167) rfl rfl (take_ofW HT_.out HW_.out (by kernel_rfl)) (fun _ _ _ h => h) (Or.inl ⟨by rfl, ?_⟩) hHeld ?_ ?_; rotate_left
        ·rintro w' ⟨s0, s1, s2, s3, s4⟩; go_simp; with_reducible rfl
        rotate_left
        ·simp only [Act.put, Xj, Xk, Xl, i64_w, i32_w]; rfl
        refine one_ (i := 10) (N := some 49) (Bq 30 8191) rfl rfl (one_of HT_.out (by kernel_rfl)) (by decide) (fun K hK => ?_); refine goes_ Try.func33 (by kernel_rfl) rfl #[.agg #[.int .i64 a0_2, .int .i64 a0_3, .int .i64 a0_4]] (by rfl) rfl rfl (by (try simp only [Xm, Xn, Xo]); first | done | rfl | (simp only [Xp, Xq]; rfl)) ?_; with_reducible refine (log_ValidateCosts.calls a0_2 a0_3 a0_4 t110 _ A19.out).mono ?_
        rintro e w38 ⟨rfl, hb⟩; refine ⟨_, rfl, ?_⟩; have n0_ := XB (XA (g := gb101) (o := .cells #[.slice A0_0 l0_0.length c0_0, .slice A0_1 l0_1.length c0_1, .int .i64 a0_2, .int .i64 a0_3, .int .i64 a0_4] 26 (0, 0)) (by (with_reducible repeat (first | refine Xf ?_ _ | refine Xg ?_ | refine Xe ?_ _)); exact J101.out) hb); have n1_ := XB (Xz (by repeat (first | (with_reducible first | exact HB.out | apply Xc | apply Xa | apply Xb | refine Xd ?_ E101.out) | exact HB.out)) hb); clear J101; clear HB; have J101 := n0_; have HB := n1_; clear n0_ n1_; (try clear hb)
        (try clear hb2)
        (try clear hk)
        (try clear hi)
        refine hK.out _ _ ⟨(Xi J101.out 0).trans rfl, (Xi J101.out 1).trans rfl, (Xi J101.out 2).trans rfl, (Xi J101.out 3).trans rfl, (Xi J101.out 4).trans rfl⟩ (fun hHeld => ?_); clear hK K; refine norm_ (a' := ?_) ?_ ?_; rotate_left
        ·show Act.put _ (some 49) _ = _
         simp only [Act.put, Xj, Xk, Xl, i64_w, i32_w]; rfl
        refine one_ (i := 13) (N := some 52) (Bq 30 16383) rfl rfl (one_of HT_.out (by kernel_rfl)) (by decide) (fun K hK => ?_); refine goes_ Try.func34 (by kernel_rfl) rfl #[.agg #[.int .i64 a0_2, .int .i64 a0_3, .int .i64 a0_4]] (by rfl) rfl rfl (by (try simp only [Xm, Xn, Xo]); first | done | rfl | (simp only [Xp, Xq]; rfl)) ?_; with_reducible refine (diaphoneref06_ValidateCosts.calls a0_2 a0_3 a0_4 t111 _ A20.out).mono ?_
        rintro e w39 ⟨rfl, hb⟩; refine ⟨_, rfl, ?_⟩; have n0_ := XB (XA (g := gb101) (o := .cells #[.slice A0_0 l0_0.length c0_0, .slice A0_1 l0_1.length c0_1, .int .i64 a0_2, .int .i64 a0_3, .int .i64 a0_4] 26 (0, 0)) (by (with_reducible repeat (first | refine Xf ?_ _ | refine Xg ?_ | refine Xe ?_ _)); exact J101.out) hb); have n1_ := XB (Xz (by repeat (first | (with_reducible first | exact HB.out | apply Xc | apply Xa | apply Xb | refine Xd ?_ E101.out) | exact HB.out)) hb); clear J101; clear HB; have J101 := n0_; have HB := n1_; clear n0_ n1_; (try clear hb)
        (try clear hb2)
        (try clear hk)
        (try clear hi)
        refine hK.out _ _ ⟨(Xi J101.out 0).trans rfl, (Xi J101.out 1).trans rfl, (Xi J101.out 2).trans rfl, (Xi J101.out 3).trans rfl, (Xi J101.out 4).trans rfl⟩ (fun hHeld => ?_); clear hK K; refine norm_ (a' := ?_) ?_ ?_; rotate_left
        ·show Act.put _ (some 52) _ = _
         simp only [Act.put, Xj, Xk, Xl, i64_w, i32_w]; rfl
        refine pure_ (i := 14) (N := some 53) (v := ?_) (a' := ?_) (Bq 30 32767) rfl rfl (any_of HT_.out (by kernel_rfl)) (fun _ _ _ h => h) (Or.inl ⟨by rfl, ?_⟩) ?_ ?_; rotate_left
        ·intro w'; go_simp; with_reducible rfl
        rotate_left
        ·simp only [Act.put, Xj, Xk, Xl, i64_w, i32_w]; rfl
        refine pure_ (i := 15) (N := some 54) (v := ?_) (a' := ?_) (Bq 30 65535) rfl rfl (any_of HT_.out (by kernel_rfl)) (fun _ _ _ h => h) (Or.inl ⟨by rfl, ?_⟩) ?_ ?_; rotate_left
        ·intro w'; go_simp; with_reducible rfl
        rotate_left
        ·simp only [Act.put, Xj, Xk, Xl, i64_w, i32_w]; rfl
        refine pure_ (i := 16) (N := some 55) (v := ?_) (a' := ?_) (Bq 30 131071) rfl rfl (any_of HT_.out (by kernel_rfl)) (fun _ _ _ h => h) (Or.inl ⟨by rfl, ?_⟩) ?_ ?_; rotate_left
        ·intro w'; go_simp; with_reducible rfl
        rotate_left
        ·simp only [Act.put, Xj, Xk, Xl, i64_w, i32_w]; rfl
        refine pure_ (i := 17) (N := some 56) (v := ?_) (a' := ?_) (Bq 30 262143) rfl rfl (any_of HT_.out (by kernel_rfl)) (fun _ _ _ h => h) (Or.inl ⟨by rfl, ?_⟩) ?_ ?_; rotate_left
        ·intro w'; go_simp; with_reducible rfl
        rotate_left
        ·simp only [Act.put, Xj, Xk, Xl, i64_w, i32_w]; rfl
        refine pure_ (i := 18) (N := some 57) (v := ?_) (a' := ?_) (Bq 30 524287) rfl rfl (any_of HT_.out (by kernel_rfl)) (fun _ _ _ h => h) (Or.inl ⟨by rfl, ?_⟩) ?_ ?_; rotate_left
        ·intro w'; go_simp; with_reducible rfl
        rotate_left
        ·simp only [Act.put, Xj, Xk, Xl, i64_w, i32_w]; rfl
        refine pure_ (i := 19) (N := some 58) (v := ?_) (a' := ?_) (Bq 30 1048575) rfl rfl (any_of HT_.out (by kernel_rfl)) (fun _ _ _ h => h) (Or.inl ⟨by rfl, ?_⟩) ?_ ?_; rotate_left
        ·intro w'; go_simp; with_reducible rfl
        rotate_left
        ·simp only [Act.put, Xj, Xk, Xl, i64_w, i32_w]; rfl
        refine pure_ (i := 20) (N := some 59) (v := ?_) (a' := ?_) (Bq 30 2097151) rfl rfl (any_of HT_.out (by kernel_rfl)) (fun _ _ _ h => h) (Or.inl ⟨by rfl, ?_⟩) ?_ ?_; rotate_left
        ·intro w'; go_simp; with_reducible rfl
        rotate_left
        ·simp only [Act.put, Xj, Xk, Xl, i64_w, i32_w]; rfl
        refine pure_ (i := 21) (N := some 60) (v := ?_) (a' := ?_) (Bq 30 4194303) rfl rfl (any_of HT_.out (by kernel_rfl)) (fun _ _ _ h => h) (Or.inl ⟨by rfl, ?_⟩) ?_ ?_; rotate_left
        ·intro w'; go_simp; with_reducible rfl
        rotate_left
        ·simp only [Act.put, Xj, Xk, Xl, i64_w, i32_w]; rfl
        refine pure_ (i := 22) (N := some 61) (v := ?_) (a' := ?_) (Bq 30 8388607) rfl rfl (any_of HT_.out (by kernel_rfl)) (fun _ _ _ h => h) (Or.inl ⟨by rfl, ?_⟩) ?_ ?_; rotate_left
        ·intro w'; go_simp; with_reducible rfl
        rotate_left
        ·simp only [Act.put, Xj, Xk, Xl, i64_w, i32_w]; rfl
        refine pure_ (i := 23) (N := some 62) (v := ?_) (a' := ?_) (Bq 30 16777215) rfl rfl (any_of HT_.out (by kernel_rfl)) (fun _ _ _ h => h) (Or.inl ⟨by rfl, ?_⟩) ?_ ?_; rotate_left
        ·intro w'; go_simp; with_reducible rfl
        rotate_left
        ·simp only [Act.put, Xj, Xk, Xl, i64_w, i32_w]; rfl
        refine pure_ (i := 24) (N := some 63) (v := ?_) (a' := ?_) (Bq 30 33554431) rfl rfl (any_of HT_.out (by kernel_rfl)) (fun _ _ _ h => h) (Or.inl ⟨by rfl, ?_⟩) ?_ ?_; rotate_left
        ·intro w'; go_simp; with_reducible rfl
        rotate_left
        ·simp only [Act.put, Xj, Xk, Xl, i64_w, i32_w]; rfl
        refine pure_ (i := 25) (N := some 64) (v := ?_) (a' := ?_) (Bq 30 67108863) rfl rfl (any_of HT_.out (by kernel_rfl)) (fun _ _ _ h => h) (Or.inl ⟨by rfl, ?_⟩) ?_ ?_; rotate_left
        ·intro w'; go_simp; with_reducible rfl
        rotate_left
        ·simp only [Act.put, Xj, Xk, Xl, i64_w, i32_w]; rfl
        refine pure_ (i := 26) (N := some 65) (v := ?_) (a' := ?_) (Bq 30 134217727) rfl rfl (any_of HT_.out (by kernel_rfl)) (fun _ _ _ h => h) (Or.inl ⟨by rfl, ?_⟩) ?_ ?_; rotate_left
        ·intro w'; go_simp; with_reducible rfl
        rotate_left
        ·simp only [Act.put, Xj, Xk, Xl, i64_w, i32_w]; rfl
        refine pure_ (i := 27) (N := some 66) (v := undef) (a' := ?_) (Bq 30 268435455) rfl rfl (any_of HT_.out (by kernel_rfl)) (fun _ _ _ h => h) (Or.inr ⟨by rfl, rfl⟩) ?_ ?_; rotate_left
        ·simp only [Act.put, Xj, Xk, Xl, i64_w, i32_w]; rfl
        refine pure_ (i := 28) (N := some 67) (v := ?_) (a' := ?_) (Bq 30 536870911) rfl rfl (any_of HT_.out (by kernel_rfl)) (fun _ _ _ h => h) (Or.inl ⟨by rfl, ?_⟩) ?_ ?_; rotate_left
        ·intro w'; go_simp; with_reducible rfl
        rotate_left
        ·simp only [Act.put, Xj, Xk, Xl, i64_w, i32_w]; rfl
        refine pure_ (i := 29) (N := some 4) (v := ?_) (a' := ?_) (Bq 30 1073741823) rfl rfl (any_of HT_.out (by kernel_rfl)) (fun _ _ _ h => h) (Or.inl ⟨by rfl, ?_⟩) ?_ ?_; rotate_left
        ·intro w'; go_simp; with_reducible rfl
        rotate_left
        ·simp only [Act.put, Xj, Xk, Xl, i64_w, i32_w]; rfl
        refine done_ (done_of HT_.out (by kernel_rfl)) ?_; try go_wp2
        go_ret
        exact ⟨by first | rfl | (simp [errW_none, errW_some] <;> rfl) | (simp [*, errW_none, errW_some] <;> rfl), by repeat (first | (with_reducible first | exact HB.out | apply Xc | apply Xa | apply Xb | refine Xd ?_ E101.out) | exact HB.out)⟩
      ·rw [if_neg c22] at H; have c22b0 : (t104 == t106) = false := beq_eq_false_iff_ne.mpr c22; have c22b1 : (t104 != t106) = true := bne_iff_ne.mpr c22; obtain rfl := Option.some.inj H; have hcz40_0 : wc.cell? ⟨gb101, 0, none⟩ = some (.slice A0_0 l0_0.length c0_0) := (Xi J101.out 0).trans rfl; have hcz40_1 : wc.cell? ⟨gb101, 1, none⟩ = some (.slice A0_1 l0_1.length c0_1) := (Xi J101.out 1).trans rfl; have hcz40_2 : wc.cell? ⟨gb101, 2, none⟩ = some (.int .i64 a0_2) := (Xi J101.out 2).trans rfl; have hcz40_3 : wc.cell? ⟨gb101, 3, none⟩ = some (.int .i64 a0_3) := (Xi J101.out 3).trans rfl; have hcz40_4 : wc.cell? ⟨gb101, 4, none⟩ = some (.int .i64 a0_4) := (Xi J101.out 4).trans rfl; have hfz40_0 := Xh J101.out 0; have hfz40_1 := Xh J101.out 1; have hfz40_2 := Xh J101.out 2; have hfz40_3 := Xh J101.out 3; have hfz40_4 := Xh J101.out 4; try go_wp2_with (first | ((with_reducible refine gate_callee (f := 29) rfl ?_); refine goesL_ (some 25) rfl rfl Try.func29 (by kernel_rfl) rfl #[.slice A0_0 l0_0.length c0_0, .slice A0_1 l0_1.length c0_1, .agg #[.int .i64 a0_2, .int .i64 a0_3, .int .i64 a0_4], .slice A1 l1.length c1] rfl (by (try simp only [Xm, Xn, Xo]); first | done | rfl | (simp only [Xp, Xq]; rfl)) ?_; (with_reducible refine (log_CheckPairs.calls kj2 _ _ l0_0 _ _ l0_1 a0_2 a0_3 a0_4 _ _ l1 t104 t105 _ ?side1 ?side2 ?side3 ?side4 ?side5 ?side6 A14.out).mono ?_); (case side1 => repeat (first | exact (Xu HR0_0.out HB.out) | (with_reducible refine Xr ?_ _) | (with_reducible refine Xs ?_ _) | (with_reducible refine Xt ?_))); (case side2 => exact HC0_0.out); (case side3 => repeat (first | exact (Xu HR0_1.out HB.out) | (with_reducible refine Xr ?_ _) | (with_reducible refine Xs ?_ _) | (with_reducible refine Xt ?_))); (case side4 => exact HC0_1.out); (case side5 => repeat (first | exact (Xu HR1.out HB.out) | (with_reducible refine Xr ?_ _) | (with_reducible refine Xs ?_ _) | (with_reducible refine Xt ?_))); (case side6 => exact HC1.out); rintro e w41 ⟨rfl, hb⟩; refine ⟨_, rfl, ?_⟩; have n0_ := XB (XA (g := gb101) (o := .cells #[.slice A0_0 l0_0.length c0_0, .slice A0_1 l0_1.length c0_1, .int .i64 a0_2, .int .i64 a0_3, .int .i64 a0_4] 26 (0, 0)) (by (with_reducible repeat (first | refine Xf ?_ _ | refine Xg ?_ | refine Xe ?_ _)); exact J101.out) hb); have n1_ := XB (Xz (by repeat (first | (with_reducible first | exact HB.out | apply Xc | apply Xa | apply Xb | refine Xd ?_ E101.out) | exact HB.out)) hb); clear J101; clear HB; have J101 := n0_; have HB := n1_; clear n0_ n1_; (try clear hb); (try clear hb2); (try clear hk); (try clear hi); have hcz42_0 : w41.cell? ⟨gb101, 0, none⟩ = some (.slice A0_0 l0_0.length c0_0) := (Xi J101.out 0).trans rfl; have hcz42_1 : w41.cell? ⟨gb101, 1, none⟩ = some (.slice A0_1 l0_1.length c0_1) := (Xi J101.out 1).trans rfl; have hcz42_2 : w41.cell? ⟨gb101, 2, none⟩ = some (.int .i64 a0_2) := (Xi J101.out 2).trans rfl; have hcz42_3 : w41.cell? ⟨gb101, 3, none⟩ = some (.int .i64 a0_3) := (Xi J101.out 3).trans rfl; have hcz42_4 : w41.cell? ⟨gb101, 4, none⟩ = some (.int .i64 a0_4) := (Xi J101.out 4).trans rfl; have hfz42_0 := Xh J101.out 0; have hfz42_1 := Xh J101.out 1; have hfz42_2 := Xh J101.out 2; have hfz42_3 := Xh J101.out 3; have hfz42_4 := Xh J101.out 4) | ((with_reducible refine gate_callee (f := 30) rfl ?_); refine goesL_ (some 36) rfl rfl Try.func30 (by kernel_rfl) rfl #[.slice A0_0 l0_0.length c0_0, .slice A0_1 l0_1.length c0_1, .agg #[.int .i64 a0_2, .int .i64 a0_3, .int .i64 a0_4], .slice A1 l1.length c1] rfl (by (try simp only [Xm, Xn, Xo]); first | done | rfl | (simp only [Xp, Xq]; rfl)) ?_; (with_reducible refine (diaphoneref06_CheckPairs.calls kj2 _ _ l0_0 _ _ l0_1 a0_2 a0_3 a0_4 _ _ l1 t106 t107 _ ?side1 ?side2 ?side3 ?side4 ?side5 ?side6 A15.out).mono ?_); (case side1 => repeat (first | exact (Xu HR0_0.out HB.out) | (with_reducible refine Xr ?_ _) | (with_reducible refine Xs ?_ _) | (with_reducible refine Xt ?_))); (case side2 => exact HC0_0.out); (case side3 => repeat (first | exact (Xu HR0_1.out HB.out) | (with_reducible refine Xr ?_ _) | (with_reducible refine Xs ?_ _) | (with_reducible refine Xt ?_))); (case side4 => exact HC0_1.out); (case side5 => repeat (first | exact (Xu HR1.out HB.out) | (with_reducible refine Xr ?_ _) | (with_reducible refine Xs ?_ _) | (with_reducible refine Xt ?_))); (case side6 => exact HC1.out); rintro e w43 ⟨rfl, hb⟩; refine ⟨_, rfl, ?_⟩; have n0_ := XB (XA (g := gb101) (o := .cells #[.slice A0_0 l0_0.length c0_0, .slice A0_1 l0_1.length c0_1, .int .i64 a0_2, .int .i64 a0_3, .int .i64 a0_4] 26 (0, 0)) (by (with_reducible repeat (first | refine Xf ?_ _ | refine Xg ?_ | refine Xe ?_ _)); exact J101.out) hb); have n1_ := XB (Xz (by repeat (first | (with_reducible first | exact HB.out | apply Xc | apply Xa | apply Xb | refine Xd ?_ E101.out) | exact HB.out)) hb); clear J101; clear HB; have J101 := n0_; have HB := n1_; clear n0_ n1_; (try clear hb); (try clear hb2); (try clear hk); (try clear hi)))
       have n0_ := XB (Xg J101.out); have n1_ := XB (Xb HB.out); clear J101; clear HB; have J101 := n0_; have HB := n1_; clear n0_ n1_; refine start_ (n := 30) (S := fun w' => w'.cell? ⟨gb101, 0, none⟩ = some (.slice A0_0 l0_0.length c0_0) ∧ w'.cell? ⟨gb101, 1, none⟩ = some (.slice A0_1 l0_1.length c0_1) ∧ w'.cell? ⟨gb101, 2, none⟩ = some (.int .i64 a0_2) ∧ w'.cell? ⟨gb101, 3, none⟩ = some (.int .i64 a0_3) ∧ w'.cell? ⟨gb101, 4, none⟩ = some (.int .i64 a0_4)) (ds := []) #[false, false, false, false, false, false, false, false, false, false, false, false, false, false, false, false, false, false, false, false, false, false, false, false, false, false, false, false, false, false] (by kernel_rfl) rfl rfl ⟨(Xi J101.out 0).trans rfl, (Xi J101.out 1).trans rfl, (Xi J101.out 2).trans rfl, (Xi J101.out 3).trans rfl, (Xi J101.out 4).trans rfl⟩ (fun hHeld => ?_); refine with_tabW diaphonelaw06_LogPairs.tab5 diaphonelaw06_LogPairs.bits5 (fun HT_ HW_ => ?_); generalize w43.drew = w44 at J101 HB hHeld ⊢
       refine pure_ (i := 0) (N := some 39) (v := ?_) (a' := ?_) (Bq 30 1) rfl rfl (any_of HT_.out (by kernel_rfl)) (fun _ _ _ h => h) (Or.inl ⟨by rfl, ?_⟩) ?_ ?_; rotate_left
       ·intro w'; go_simp; with_reducible rfl
       rotate_left
       ·simp only [Act.put, Xj, Xk, Xl, i64_w, i32_w]; rfl
       refine pure_ (i := 3) (N := some 42) (v := ?_) (a' := ?_) (Bq 30 9) rfl rfl (any_of HT_.out (by kernel_rfl)) (fun _ _ _ h => h) (Or.inl ⟨by rfl, ?_⟩) ?_ ?_; rotate_left
       ·intro w'; go_simp; with_reducible rfl
       rotate_left
       ·simp only [Act.put, Xj, Xk, Xl, i64_w, i32_w]; rfl
       refine take_ (i := 1) (N := some 40) (v := ?_) (a' := ?_) (Bq 30 11) rfl rfl (take_ofW HT_.out HW_.out (by kernel_rfl)) (fun _ _ _ h => h) (Or.inl ⟨by rfl, ?_⟩) hHeld ?_ ?_; rotate_left
       ·rintro w' ⟨s0, s1, s2, s3, s4⟩; go_simp; with_reducible rfl
       rotate_left
       ·simp only [Act.put, Xj, Xk, Xl, i64_w, i32_w]; rfl
       refine take_ (i := 4) (N := some 43) (v := ?_) (a' := ?_) (Bq 30 27) rfl rfl (take_ofW HT_.out HW_.out (by kernel_rfl)) (fun _ _ _ h => h) (Or.inl ⟨by rfl, ?_⟩) hHeld ?_ ?_; rotate_left
       ·rintro w' ⟨s0, s1, s2, s3, s4⟩; go_simp; with_reducible rfl
       rotate_left
       ·simp only [Act.put, Xj, Xk, Xl, i64_w, i32_w]; rfl
       refine one_ (i := 2) (N := some 41) (Bq 30 31) rfl rfl (one_of HT_.out (by kernel_rfl)) (by decide) (fun K hK => ?_); refine goes_ Try.func31 (by kernel_rfl) rfl #[.slice A0_0 l0_0.length c0_0] (by rfl) rfl rfl (by (try simp only [Xm, Xn, Xo]); first | done | rfl | (simp only [Xp, Xq]; rfl)) ?_; with_reducible refine (log_Validate.calls kj2 _ _ l0_0 t108 _ ?side1 ?side2 A16.out).mono ?_
       (case side1 => repeat (first | exact (Xu HR0_0.out HB.out) | (with_reducible refine Xr ?_ _) | (with_reducible refine Xs ?_ _) | (with_reducible refine Xt ?_)))
       (case side2 => exact HC0_0.out)
       rintro e w' ⟨rfl, ⟨nd, rfl⟩⟩; refine ⟨_, rfl, ?_⟩; refine hK.out _ _ ⟨(Xi J101.out 0).trans rfl, (Xi J101.out 1).trans rfl, (Xi J101.out 2).trans rfl, (Xi J101.out 3).trans rfl, (Xi J101.out 4).trans rfl⟩ (fun hHeld => ?_); clear hK K; refine norm_ (a' := ?_) ?_ ?_; rotate_left
       ·show Act.put _ (some 41) _ = _
        simp only [Act.put, Xj, Xk, Xl, i64_w, i32_w]; rfl
       refine one_ (i := 5) (N := some 44) (Bq 30 63) rfl rfl (one_of HT_.out (by kernel_rfl)) (by decide) (fun K hK => ?_); refine goes_ Try.func32 (by kernel_rfl) rfl #[.slice A0_0 l0_0.length c0_0] (by rfl) rfl rfl (by (try simp only [Xm, Xn, Xo]); first | done | rfl | (simp only [Xp, Xq]; rfl)) ?_; with_reducible refine (diaphoneref06_Validate.calls kj2 _ _ l0_0 t109 _ ?side1 ?side2 A17.out).mono ?_
       (case side1 => repeat (first | exact (Xu HR0_0.out (by repeat (first | (with_reducible first | exact HB.out | apply Xc | apply Xa | apply Xb | refine Xd ?_ E101.out) | exact HB.out))) | (with_reducible refine Xr ?_ _) | (with_reducible refine Xs ?_ _) | (with_reducible refine Xt ?_)))
       (case side2 => exact HC0_0.out)
       rintro e w' ⟨rfl, ⟨nd, rfl⟩⟩; refine ⟨_, rfl, ?_⟩; refine hK.out _ _ ⟨(Xi J101.out 0).trans rfl, (Xi J101.out 1).trans rfl, (Xi J101.out 2).trans rfl, (Xi J101.out 3).trans rfl, (Xi J101.out 4).trans rfl⟩ (fun hHeld => ?_); clear hK K; refine norm_ (a' := ?_) ?_ ?_; rotate_left
       ·show Act.put _ (some 44) _ = _
        simp only [Act.put, Xj, Xk, Xl, i64_w, i32_w]; rfl
       refine pure_ (i := 6) (N := some 45) (v := ?_) (a' := ?_) (Bq 30 127) rfl rfl (any_of HT_.out (by kernel_rfl)) (fun _ _ _ h => h) (Or.inl ⟨by rfl, ?_⟩) ?_ ?_; rotate_left
       ·intro w'; go_simp; with_reducible rfl
       rotate_left
       ·simp only [Act.put, Xj, Xk, Xl, i64_w, i32_w]; rfl
       refine pure_ (i := 7) (N := some 46) (v := ?_) (a' := ?_) (Bq 30 255) rfl rfl (any_of HT_.out (by kernel_rfl)) (fun _ _ _ h => h) (Or.inl ⟨by rfl, ?_⟩) ?_ ?_; rotate_left
       ·intro w'; go_simp; with_reducible rfl
       rotate_left
       ·simp only [Act.put, Xj, Xk, Xl, i64_w, i32_w]; rfl
       refine pure_ (i := 8) (N := some 47) (v := ?_) (a' := ?_) (Bq 30 511) rfl rfl (any_of HT_.out (by kernel_rfl)) (fun _ _ _ h => h) (Or.inl ⟨by rfl, ?_⟩) ?_ ?_; rotate_left
       ·intro w'; go_simp; with_reducible rfl
       rotate_left
       ·simp only [Act.put, Xj, Xk, Xl, i64_w, i32_w]; rfl
       refine pure_ (i := 11) (N := some 50) (v := ?_) (a' := ?_) (Bq 30 2559) rfl rfl (any_of HT_.out (by kernel_rfl)) (fun _ _ _ h => h) (Or.inl ⟨by rfl, ?_⟩) ?_ ?_; rotate_left
       ·intro w'; go_simp; with_reducible rfl
       rotate_left
       ·simp only [Act.put, Xj, Xk, Xl, i64_w, i32_w]; rfl
       refine take_ (i := 9) (N := some 48) (v := ?_) (a' := ?_) (Bq 30 3071) rfl rfl (take_ofW HT_.out HW_.out (by kernel_rfl)) (fun _ _ _ h => h) (Or.inl ⟨by rfl, ?_⟩) hHeld ?_ ?_; rotate_left
       ·rintro w' ⟨s0, s1, s2, s3, s4⟩; go_simp; with_reducible rfl
       rotate_left
       ·simp only [Act.put, Xj, Xk, Xl, i64_w, i32_w]; rfl
       refine take_ (i := 12) (N := some 51) (v := ?_) (a' := ?_) (Bq 30 7167) rfl rfl (take_ofW HT_.out HW_.out (by kernel_rfl)) (fun _ _ _ h => h) (Or.inl ⟨by rfl, ?_⟩) hHeld ?_ ?_; rotate_left
       ·rintro w' ⟨s0, s1, s2, s3, s4⟩; go_simp; with_reducible rfl
       rotate_left
       ·simp only [Act.put, Xj, Xk, Xl, i64_w, i32_w]; rfl
       refine one_ (i := 10) (N := some 49) (Bq 30 8191) rfl rfl (one_of HT_.out (by kernel_rfl)) (by decide) (fun K hK => ?_); refine goes_ Try.func33 (by kernel_rfl) rfl #[.agg #[.int .i64 a0_2, .int .i64 a0_3, .int .i64 a0_4]] (by rfl) rfl rfl (by (try simp only [Xm, Xn, Xo]); first | done | rfl | (simp only [Xp, Xq]; rfl)) ?_; with_reducible refine (log_ValidateCosts.calls a0_2 a0_3 a0_4 t110 _ A19.out).mono ?_
       rintro e w45 ⟨rfl, hb⟩; refine ⟨_, rfl, ?_⟩; have n0_ := XB (XA (g := gb101) (o := .cells #[.slice A0_0 l0_0.length c0_0, .slice A0_1 l0_1.length c0_1, .int .i64 a0_2, .int .i64 a0_3, .int .i64 a0_4] 26 (0, 0)) (by (with_reducible repeat (first | refine Xf ?_ _ | refine Xg ?_ | refine Xe ?_ _)); exact J101.out) hb); have n1_ := XB (Xz (by repeat (first | (with_reducible first | exact HB.out | apply Xc | apply Xa | apply Xb | refine Xd ?_ E101.out) | exact HB.out)) hb); clear J101; clear HB; have J101 := n0_; have HB := n1_; clear n0_ n1_; (try clear hb)
       (try clear hb2)
       (try clear hk)
       (try clear hi)
       refine hK.out _ _ ⟨(Xi J101.out 0).trans rfl, (Xi J101.out 1).trans rfl, (Xi J101.out 2).trans rfl, (Xi J101.out 3).trans rfl, (Xi J101.out 4).trans rfl⟩ (fun hHeld => ?_); clear hK K; refine norm_ (a' := ?_) ?_ ?_; rotate_left
       ·show Act.put _ (some 49) _ = _
        simp only [Act.put, Xj, Xk, Xl, i64_w, i32_w]; rfl
       refine one_ (i := 13) (N := some 52) (Bq 30 16383) rfl rfl (one_of HT_.out (by kernel_rfl)) (by decide) (fun K hK => ?_); refine goes_ Try.func34 (by kernel_rfl) rfl #[.agg #[.int .i64 a0_2, .int .i64 a0_3, .int .i64 a0_4]] (by rfl) rfl rfl (by (try simp only [Xm, Xn, Xo]); first | done | rfl | (simp only [Xp, Xq]; rfl)) ?_; with_reducible refine (diaphoneref06_ValidateCosts.calls a0_2 a0_3 a0_4 t111 _ A20.out).mono ?_
       rintro e w46 ⟨rfl, hb⟩; refine ⟨_, rfl, ?_⟩; have n0_ := XB (XA (g := gb101) (o := .cells #[.slice A0_0 l0_0.length c0_0, .slice A0_1 l0_1.length c0_1, .int .i64 a0_2, .int .i64 a0_3, .int .i64 a0_4] 26 (0, 0)) (by (with_reducible repeat (first | refine Xf ?_ _ | refine Xg ?_ | refine Xe ?_ _)); exact J101.out) hb); have n1_ := XB (Xz (by repeat (first | (with_reducible first | exact HB.out | apply Xc | apply Xa | apply Xb | refine Xd ?_ E101.out) | exact HB.out)) hb); clear J101; clear HB; have J101 := n0_; have HB := n1_; clear n0_ n1_; (try clear hb)
       (try clear hb2)
       (try clear hk)
       (try clear hi)
       refine hK.out _ _ ⟨(Xi J101.out 0).trans rfl, (Xi J101.out 1).trans rfl, (Xi J101.out 2).trans rfl, (Xi J101.out 3).trans rfl, (Xi J101.out 4).trans rfl⟩ (fun hHeld => ?_); clear hK K; refine norm_ (a' := ?_) ?_ ?_; rotate_left
       ·show Act.put _ (some 52) _ = _
        simp only [Act.put, Xj, Xk, Xl, i64_w, i32_w]; rfl
       refine pure_ (i := 14) (N := some 53) (v := ?_) (a' := ?_) (Bq 30 32767) rfl rfl (any_of HT_.out (by kernel_rfl)) (fun _ _ _ h => h) (Or.inl ⟨by rfl, ?_⟩) ?_ ?_; rotate_left
       ·intro w'; go_simp; with_reducible rfl
       rotate_left
       ·simp only [Act.put, Xj, Xk, Xl, i64_w, i32_w]; rfl
       refine pure_ (i := 15) (N := some 54) (v := ?_) (a' := ?_) (Bq 30 65535) rfl rfl (any_of HT_.out (by kernel_rfl)) (fun _ _ _ h => h) (Or.inl ⟨by rfl, ?_⟩) ?_ ?_; rotate_left
       ·intro w'; go_simp; with_reducible rfl
       rotate_left
       ·simp only [Act.put, Xj, Xk, Xl, i64_w, i32_w]; rfl
       refine pure_ (i := 16) (N := some 55) (v := ?_) (a' := ?_) (Bq 30 131071) rfl rfl (any_of HT_.out (by kernel_rfl)) (fun _ _ _ h => h) (Or.inl ⟨by rfl, ?_⟩) ?_ ?_; rotate_left
       ·intro w'; go_simp; with_reducible rfl
       rotate_left
       ·simp only [Act.put, Xj, Xk, Xl, i64_w, i32_w]; rfl
       refine pure_ (i := 17) (N := some 56) (v := ?_) (a' := ?_) (Bq 30 262143) rfl rfl (any_of HT_.out (by kernel_rfl)) (fun _ _ _ h => h) (Or.inl ⟨by rfl, ?_⟩) ?_ ?_; rotate_left
       ·intro w'; go_simp; with_reducible rfl
       rotate_left
       ·simp only [Act.put, Xj, Xk, Xl, i64_w, i32_w]; rfl
       refine pure_ (i := 18) (N := some 57) (v := ?_) (a' := ?_) (Bq 30 524287) rfl rfl (any_of HT_.out (by kernel_rfl)) (fun _ _ _ h => h) (Or.inl ⟨by rfl, ?_⟩) ?_ ?_; rotate_left
       ·intro w'; go_simp; with_reducible rfl
       rotate_left
       ·simp only [Act.put, Xj, Xk, Xl, i64_w, i32_w]; rfl
       refine pure_ (i := 19) (N := some 58) (v := ?_) (a' := ?_) (Bq 30 1048575) rfl rfl (any_of HT_.out (by kernel_rfl)) (fun _ _ _ h => h) (Or.inl ⟨by rfl, ?_⟩) ?_ ?_; rotate_left
       ·intro w'; go_simp; with_reducible rfl
       rotate_left
       ·simp only [Act.put, Xj, Xk, Xl, i64_w, i32_w]; rfl
       refine pure_ (i := 20) (N := some 59) (v := ?_) (a' := ?_) (Bq 30 2097151) rfl rfl (any_of HT_.out (by kernel_rfl)) (fun _ _ _ h => h) (Or.inl ⟨by rfl, ?_⟩) ?_ ?_; rotate_left
       ·intro w'; go_simp; with_reducible rfl
       rotate_left
       ·simp only [Act.put, Xj, Xk, Xl, i64_w, i32_w]; rfl
       refine pure_ (i := 21) (N := some 60) (v := ?_) (a' := ?_) (Bq 30 4194303) rfl rfl (any_of HT_.out (by kernel_rfl)) (fun _ _ _ h => h) (Or.inl ⟨by rfl, ?_⟩) ?_ ?_; rotate_left
       ·intro w'; go_simp; with_reducible rfl
       rotate_left
       ·simp only [Act.put, Xj, Xk, Xl, i64_w, i32_w]; rfl
       refine pure_ (i := 22) (N := some 61) (v := undef) (a' := ?_) (Bq 30 8388607) rfl rfl (any_of HT_.out (by kernel_rfl)) (fun _ _ _ h => h) (Or.inr ⟨by rfl, rfl⟩) ?_ ?_; rotate_left
       ·simp only [Act.put, Xj, Xk, Xl, i64_w, i32_w]; rfl
       refine pure_ (i := 23) (N := some 62) (v := undef) (a' := ?_) (Bq 30 16777215) rfl rfl (any_of HT_.out (by kernel_rfl)) (fun _ _ _ h => h) (Or.inr ⟨by rfl, rfl⟩) ?_ ?_; rotate_left
       ·simp only [Act.put, Xj, Xk, Xl, i64_w, i32_w]; rfl
       refine pure_ (i := 24) (N := some 63) (v := undef) (a' := ?_) (Bq 30 33554431) rfl rfl (any_of HT_.out (by kernel_rfl)) (fun _ _ _ h => h) (Or.inr ⟨by rfl, rfl⟩) ?_ ?_; rotate_left
       ·simp only [Act.put, Xj, Xk, Xl, i64_w, i32_w]; rfl
       refine pure_ (i := 25) (N := some 64) (v := ?_) (a' := ?_) (Bq 30 67108863) rfl rfl (any_of HT_.out (by kernel_rfl)) (fun _ _ _ h => h) (Or.inl ⟨by rfl, ?_⟩) ?_ ?_; rotate_left
       ·intro w'; go_simp; with_reducible rfl
       rotate_left
       ·simp only [Act.put, Xj, Xk, Xl, i64_w, i32_w]; rfl
       refine pure_ (i := 26) (N := some 65) (v := ?_) (a' := ?_) (Bq 30 134217727) rfl rfl (any_of HT_.out (by kernel_rfl)) (fun _ _ _ h => h) (Or.inl ⟨by rfl, ?_⟩) ?_ ?_; rotate_left
       ·intro w'; go_simp; with_reducible rfl
       rotate_left
       ·simp only [Act.put, Xj, Xk, Xl, i64_w, i32_w]; rfl
       refine pure_ (i := 27) (N := some 66) (v := undef) (a' := ?_) (Bq 30 268435455) rfl rfl (any_of HT_.out (by kernel_rfl)) (fun _ _ _ h => h) (Or.inr ⟨by rfl, rfl⟩) ?_ ?_; rotate_left
       ·simp only [Act.put, Xj, Xk, Xl, i64_w, i32_w]; rfl
       refine pure_ (i := 28) (N := some 67) (v := ?_) (a' := ?_) (Bq 30 536870911) rfl rfl (any_of HT_.out (by kernel_rfl)) (fun _ _ _ h => h) (Or.inl ⟨by rfl, ?_⟩) ?_ ?_; rotate_left
       ·intro w'; go_simp; with_reducible rfl
       rotate_left
       ·simp only [Act.put, Xj, Xk, Xl, i64_w, i32_w]; rfl
       refine pure_ (i := 29) (N := some 4) (v := ?_) (a' := ?_) (Bq 30 1073741823) rfl rfl (any_of HT_.out (by kernel_rfl)) (fun _ _ _ h => h) (Or.inl ⟨by rfl, ?_⟩) ?_ ?_; rotate_left
       ·intro w'; go_simp; with_reducible rfl
       rotate_left
       ·simp only [Act.put, Xj, Xk, Xl, i64_w, i32_w]; rfl
       refine done_ (done_of HT_.out (by kernel_rfl)) ?_; try go_wp2
       go_ret
       exact ⟨by first | rfl | (simp [errW_none, errW_some] <;> rfl) | (simp [*, errW_none, errW_some] <;> rfl), by repeat (first | (with_reducible first | exact HB.out | apply Xc | apply Xa | apply Xb | refine Xd ?_ E101.out) | exact HB.out)⟩
     ·rw [if_neg c21] at H; have c21b0 : (t110 == t111) = false := beq_eq_false_iff_ne.mpr c21; have c21b1 : (t110 != t111) = true := bne_iff_ne.mpr c21; obtain rfl := Option.some.inj H; have hcz47_0 : wc.cell? ⟨gb101, 0, none⟩ = some (.slice A0_0 l0_0.length c0_0) := (Xi J101.out 0).trans rfl; have hcz47_1 : wc.cell? ⟨gb101, 1, none⟩ = some (.slice A0_1 l0_1.length c0_1) := (Xi J101.out 1).trans rfl; have hcz47_2 : wc.cell? ⟨gb101, 2, none⟩ = some (.int .i64 a0_2) := (Xi J101.out 2).trans rfl; have hcz47_3 : wc.cell? ⟨gb101, 3, none⟩ = some (.int .i64 a0_3) := (Xi J101.out 3).trans rfl; have hcz47_4 : wc.cell? ⟨gb101, 4, none⟩ = some (.int .i64 a0_4) := (Xi J101.out 4).trans rfl; have hfz47_0 := Xh J101.out 0; have hfz47_1 := Xh J101.out 1; have hfz47_2 := Xh J101.out 2; have hfz47_3 := Xh J101.out 3; have hfz47_4 := Xh J101.out 4; try go_wp2_with (first | ((with_reducible refine gate_callee (f := 29) rfl ?_); refine goesL_ (some 25) rfl rfl Try.func29 (by kernel_rfl) rfl #[.slice A0_0 l0_0.length c0_0, .slice A0_1 l0_1.length c0_1, .agg #[.int .i64 a0_2, .int .i64 a0_3, .int .i64 a0_4], .slice A1 l1.length c1] rfl (by (try simp only [Xm, Xn, Xo]); first | done | rfl | (simp only [Xp, Xq]; rfl)) ?_; (with_reducible refine (log_CheckPairs.calls kj2 _ _ l0_0 _ _ l0_1 a0_2 a0_3 a0_4 _ _ l1 t104 t105 _ ?side1 ?side2 ?side3 ?side4 ?side5 ?side6 A14.out).mono ?_); (case side1 => repeat (first | exact (Xu HR0_0.out HB.out) | (with_reducible refine Xr ?_ _) | (with_reducible refine Xs ?_ _) | (with_reducible refine Xt ?_))); (case side2 => exact HC0_0.out); (case side3 => repeat (first | exact (Xu HR0_1.out HB.out) | (with_reducible refine Xr ?_ _) | (with_reducible refine Xs ?_ _) | (with_reducible refine Xt ?_))); (case side4 => exact HC0_1.out); (case side5 => repeat (first | exact (Xu HR1.out HB.out) | (with_reducible refine Xr ?_ _) | (with_reducible refine Xs ?_ _) | (with_reducible refine Xt ?_))); (case side6 => exact HC1.out); rintro e w48 ⟨rfl, hb⟩; refine ⟨_, rfl, ?_⟩; have n0_ := XB (XA (g := gb101) (o := .cells #[.slice A0_0 l0_0.length c0_0, .slice A0_1 l0_1.length c0_1, .int .i64 a0_2, .int .i64 a0_3, .int .i64 a0_4] 26 (0, 0)) (by (with_reducible repeat (first | refine Xf ?_ _ | refine Xg ?_ | refine Xe ?_ _)); exact J101.out) hb); have n1_ := XB (Xz (by repeat (first | (with_reducible first | exact HB.out | apply Xc | apply Xa | apply Xb | refine Xd ?_ E101.out) | exact HB.out)) hb); clear J101; clear HB; have J101 := n0_; have HB := n1_; clear n0_ n1_; (try clear hb); (try clear hb2); (try clear hk); (try clear hi); have hcz49_0 : w48.cell? ⟨gb101, 0, none⟩ = some (.slice A0_0 l0_0.length c0_0) := (Xi J101.out 0).trans rfl; have hcz49_1 : w48.cell? ⟨gb101, 1, none⟩ = some (.slice A0_1 l0_1.length c0_1) := (Xi J101.out 1).trans rfl; have hcz49_2 : w48.cell? ⟨gb101, 2, none⟩ = some (.int .i64 a0_2) := (Xi J101.out 2).trans rfl; have hcz49_3 : w48.cell? ⟨gb101, 3, none⟩ = some (.int .i64 a0_3) := (Xi J101.out 3).trans rfl; have hcz49_4 : w48.cell? ⟨gb101, 4, none⟩ = some (.int .i64 a0_4) := (Xi J101.out 4).trans rfl; have hfz49_0 := Xh J101.out 0; have hfz49_1 := Xh J101.out 1; have hfz49_2 := Xh J101.out 2; have hfz49_3 := Xh J101.out 3; have hfz49_4 := Xh J101.out 4) | ((with_reducible refine gate_callee (f := 30) rfl ?_); refine goesL_ (some 36) rfl rfl Try.func30 (by kernel_rfl) rfl #[.slice A0_0 l0_0.length c0_0, .slice A0_1 l0_1.length c0_1, .agg #[.int .i64 a0_2, .int .i64 a0_3, .int .i64 a0_4], .slice A1 l1.length c1] rfl (by (try simp only [Xm, Xn, Xo]); first | done | rfl | (simp only [Xp, Xq]; rfl)) ?_; (with_reducible refine (diaphoneref06_CheckPairs.calls kj2 _ _ l0_0 _ _ l0_1 a0_2 a0_3 a0_4 _ _ l1 t106 t107 _ ?side1 ?side2 ?side3 ?side4 ?side5 ?side6 A15.out).mono ?_); (case side1 => repeat (first | exact (Xu HR0_0.out HB.out) | (with_reducible refine Xr ?_ _) | (with_reducible refine Xs ?_ _) | (with_reducible refine Xt ?_))); (case side2 => exact HC0_0.out); (case side3 => repeat (first | exact (Xu HR0_1.out HB.out) | (with_reducible refine Xr ?_ _) | (with_reducible refine Xs ?_ _) | (with_reducible refine Xt ?_))); (case side4 => exact HC0_1.out); (case side5 => repeat (first | exact (Xu HR1.out HB.out) | (with_reducible refine Xr ?_ _) | (with_reducible refine Xs ?_ _) | (with_reducible refine Xt ?_))); (case side6 => exact HC1.out); rintro e w50 ⟨rfl, hb⟩; refine ⟨_, rfl, ?_⟩; have n0_ := XB (XA (g := gb101) (o := .cells #[.slice A0_0 l0_0.length c0_0, .slice A0_1 l0_1.length c0_1, .int .i64 a0_2, .int .i64 a0_3, .int .i64 a0_4] 26 (0, 0)) (by (with_reducible repeat (first | refine Xf ?_ _ | refine Xg ?_ | refine Xe ?_ _)); exact J101.out) hb); have n1_ := XB (Xz (by repeat (first | (with_reducible first | exact HB.out | apply Xc | apply Xa | apply Xb | refine Xd ?_ E101.out) | exact HB.out)) hb); clear J101; clear HB; have J101 := n0_; have HB := n1_; clear n0_ n1_; (try clear hb); (try clear hb2); (try clear hk); (try clear hi)))
      have n0_ := XB (Xg J101.out); have n1_ := XB (Xb HB.out); clear J101; clear HB; have J101 := n0_; have HB := n1_; clear n0_ n1_; refine start_ (n := 30) (S := fun w' => w'.cell? ⟨gb101, 0, none⟩ = some (.slice A0_0 l0_0.length c0_0) ∧ w'.cell? ⟨gb101, 1, none⟩ = some (.slice A0_1 l0_1.length c0_1) ∧ w'.cell? ⟨gb101, 2, none⟩ = some (.int .i64 a0_2) ∧ w'.cell? ⟨gb101, 3, none⟩ = some (.int .i64 a0_3) ∧ w'.cell? ⟨gb101, 4, none⟩ = some (.int .i64 a0_4)) (ds := []) #[false, false, false, false, false, false, false, false, false, false, false, false, false, false, false, false, false, false, false, false, false, false, false, false, false, false, false, false, false, false] (by kernel_rfl) rfl rfl ⟨(Xi J101.out 0).trans rfl, (Xi J101.out 1).trans rfl, (Xi J101.out 2).trans rfl, (Xi J101.out 3).trans rfl, (Xi J101.out 4).trans rfl⟩ (fun hHeld => ?_); refine with_tabW diaphonelaw06_LogPairs.tab5 diaphonelaw06_LogPairs.bits5 (fun HT_ HW_ => ?_); generalize w50.drew = w51 at J101 HB hHeld ⊢
      refine pure_ (i := 0) (N := some 39) (v := ?_) (a' := ?_) (Bq 30 1) rfl rfl (any_of HT_.out (by kernel_rfl)) (fun _ _ _ h => h) (Or.inl ⟨by rfl, ?_⟩) ?_ ?_; rotate_left
      ·intro w'; go_simp; with_reducible rfl
      rotate_left
      ·simp only [Act.put, Xj, Xk, Xl, i64_w, i32_w]; rfl
      refine pure_ (i := 3) (N := some 42) (v := ?_) (a' := ?_) (Bq 30 9) rfl rfl (any_of HT_.out (by kernel_rfl)) (fun _ _ _ h => h) (Or.inl ⟨by rfl, ?_⟩) ?_ ?_; rotate_left
      ·intro w'; go_simp; with_reducible rfl
      rotate_left
      ·simp only [Act.put, Xj, Xk, Xl, i64_w, i32_w]; rfl
      refine take_ (i := 1) (N := some 40) (v := ?_) (a' := ?_) (Bq 30 11) rfl rfl (take_ofW HT_.out HW_.out (by kernel_rfl)) (fun _ _ _ h => h) (Or.inl ⟨by rfl, ?_⟩) hHeld ?_ ?_; rotate_left
      ·rintro w' ⟨s0, s1, s2, s3, s4⟩; go_simp; with_reducible rfl
      rotate_left
      ·simp only [Act.put, Xj, Xk, Xl, i64_w, i32_w]; rfl
      refine take_ (i := 4) (N := some 43) (v := ?_) (a' := ?_) (Bq 30 27) rfl rfl (take_ofW HT_.out HW_.out (by kernel_rfl)) (fun _ _ _ h => h) (Or.inl ⟨by rfl, ?_⟩) hHeld ?_ ?_; rotate_left
      ·rintro w' ⟨s0, s1, s2, s3, s4⟩; go_simp; with_reducible rfl
      rotate_left
      ·simp only [Act.put, Xj, Xk, Xl, i64_w, i32_w]; rfl
      refine one_ (i := 2) (N := some 41) (Bq 30 31) rfl rfl (one_of HT_.out (by kernel_rfl)) (by decide) (fun K hK => ?_); refine goes_ Try.func31 (by kernel_rfl) rfl #[.slice A0_0 l0_0.length c0_0] (by rfl) rfl rfl (by (try simp only [Xm, Xn, Xo]); first | done | rfl | (simp only [Xp, Xq]; rfl)) ?_; with_reducible refine (log_Validate.calls kj2 _ _ l0_0 t108 _ ?side1 ?side2 A16.out).mono ?_
      (case side1 => repeat (first | exact (Xu HR0_0.out HB.out) | (with_reducible refine Xr ?_ _) | (with_reducible refine Xs ?_ _) | (with_reducible refine Xt ?_)))
      (case side2 => exact HC0_0.out)
      rintro e w' ⟨rfl, ⟨nd, rfl⟩⟩; refine ⟨_, rfl, ?_⟩; refine hK.out _ _ ⟨(Xi J101.out 0).trans rfl, (Xi J101.out 1).trans rfl, (Xi J101.out 2).trans rfl, (Xi J101.out 3).trans rfl, (Xi J101.out 4).trans rfl⟩ (fun hHeld => ?_); clear hK K; refine norm_ (a' := ?_) ?_ ?_; rotate_left
      ·show Act.put _ (some 41) _ = _
       simp only [Act.put, Xj, Xk, Xl, i64_w, i32_w]; rfl
      refine one_ (i := 5) (N := some 44) (Bq 30 63) rfl rfl (one_of HT_.out (by kernel_rfl)) (by decide) (fun K hK => ?_); refine goes_ Try.func32 (by kernel_rfl) rfl #[.slice A0_0 l0_0.length c0_0] (by rfl) rfl rfl (by (try simp only [Xm, Xn, Xo]); first | done | rfl | (simp only [Xp, Xq]; rfl)) ?_; with_reducible refine (diaphoneref06_Validate.calls kj2 _ _ l0_0 t109 _ ?side1 ?side2 A17.out).mono ?_
      (case side1 => repeat (first | exact (Xu HR0_0.out (by repeat (first | (with_reducible first | exact HB.out | apply Xc | apply Xa | apply Xb | refine Xd ?_ E101.out) | exact HB.out))) | (with_reducible refine Xr ?_ _) | (with_reducible refine Xs ?_ _) | (with_reducible refine Xt ?_)))
      (case side2 => exact HC0_0.out)
      rintro e w' ⟨rfl, ⟨nd, rfl⟩⟩; refine ⟨_, rfl, ?_⟩; refine hK.out _ _ ⟨(Xi J101.out 0).trans rfl, (Xi J101.out 1).trans rfl, (Xi J101.out 2).trans rfl, (Xi J101.out 3).trans rfl, (Xi J101.out 4).trans rfl⟩ (fun hHeld => ?_); clear hK K; refine norm_ (a' := ?_) ?_ ?_; rotate_left
      ·show Act.put _ (some 44) _ = _
       simp only [Act.put, Xj, Xk, Xl, i64_w, i32_w]; rfl
      refine pure_ (i := 6) (N := some 45) (v := ?_) (a' := ?_) (Bq 30 127) rfl rfl (any_of HT_.out (by kernel_rfl)) (fun _ _ _ h => h) (Or.inl ⟨by rfl, ?_⟩) ?_ ?_; rotate_left
      ·intro w'; go_simp; with_reducible rfl
      rotate_left
      ·simp only [Act.put, Xj, Xk, Xl, i64_w, i32_w]; rfl
      refine pure_ (i := 7) (N := some 46) (v := ?_) (a' := ?_) (Bq 30 255) rfl rfl (any_of HT_.out (by kernel_rfl)) (fun _ _ _ h => h) (Or.inl ⟨by rfl, ?_⟩) ?_ ?_; rotate_left
      ·intro w'; go_simp; with_reducible rfl
      rotate_left
      ·simp only [Act.put, Xj, Xk, Xl, i64_w, i32_w]; rfl
      refine pure_ (i := 8) (N := some 47) (v := ?_) (a' := ?_) (Bq 30 511) rfl rfl (any_of HT_.out (by kernel_rfl)) (fun _ _ _ h => h) (Or.inl ⟨by rfl, ?_⟩) ?_ ?_; rotate_left
      ·intro w'; go_simp; with_reducible rfl
      rotate_left
      ·simp only [Act.put, Xj, Xk, Xl, i64_w, i32_w]; rfl
      refine pure_ (i := 11) (N := some 50) (v := ?_) (a' := ?_) (Bq 30 2559) rfl rfl (any_of HT_.out (by kernel_rfl)) (fun _ _ _ h => h) (Or.inl ⟨by rfl, ?_⟩) ?_ ?_; rotate_left
      ·intro w'; go_simp; with_reducible rfl
      rotate_left
      ·simp only [Act.put, Xj, Xk, Xl, i64_w, i32_w]; rfl
      refine take_ (i := 9) (N := some 48) (v := ?_) (a' := ?_) (Bq 30 3071) rfl rfl (take_ofW HT_.out HW_.out (by kernel_rfl)) (fun _ _ _ h => h) (Or.inl ⟨by rfl, ?_⟩) hHeld ?_ ?_; rotate_left
      ·rintro w' ⟨s0, s1, s2, s3, s4⟩; go_simp; with_reducible rfl
      rotate_left
      ·simp only [Act.put, Xj, Xk, Xl, i64_w, i32_w]; rfl
      refine take_ (i := 12) (N := some 51) (v := ?_) (a' := ?_) (Bq 30 7167) rfl rfl (take_ofW HT_.out HW_.out (by kernel_rfl)) (fun _ _ _ h => h) (Or.inl ⟨by rfl, ?_⟩) hHeld ?_ ?_; rotate_left
      ·rintro w' ⟨s0, s1, s2, s3, s4⟩; go_simp; with_reducible rfl
      rotate_left
      ·simp only [Act.put, Xj, Xk, Xl, i64_w, i32_w]; rfl
      refine one_ (i := 10) (N := some 49) (Bq 30 8191) rfl rfl (one_of HT_.out (by kernel_rfl)) (by decide) (fun K hK => ?_); refine goes_ Try.func33 (by kernel_rfl) rfl #[.agg #[.int .i64 a0_2, .int .i64 a0_3, .int .i64 a0_4]] (by rfl) rfl rfl (by (try simp only [Xm, Xn, Xo]); first | done | rfl | (simp only [Xp, Xq]; rfl)) ?_; with_reducible refine (log_ValidateCosts.calls a0_2 a0_3 a0_4 t110 _ A19.out).mono ?_
      rintro e w52 ⟨rfl, hb⟩; refine ⟨_, rfl, ?_⟩; have n0_ := XB (XA (g := gb101) (o := .cells #[.slice A0_0 l0_0.length c0_0, .slice A0_1 l0_1.length c0_1, .int .i64 a0_2, .int .i64 a0_3, .int .i64 a0_4] 26 (0, 0)) (by (with_reducible repeat (first | refine Xf ?_ _ | refine Xg ?_ | refine Xe ?_ _)); exact J101.out) hb); have n1_ := XB (Xz (by repeat (first | (with_reducible first | exact HB.out | apply Xc | apply Xa | apply Xb | refine Xd ?_ E101.out) | exact HB.out)) hb); clear J101; clear HB; have J101 := n0_; have HB := n1_; clear n0_ n1_; (try clear hb)
      (try clear hb2)
      (try clear hk)
      (try clear hi)
      refine hK.out _ _ ⟨(Xi J101.out 0).trans rfl, (Xi J101.out 1).trans rfl, (Xi J101.out 2).trans rfl, (Xi J101.out 3).trans rfl, (Xi J101.out 4).trans rfl⟩ (fun hHeld => ?_); clear hK K; refine norm_ (a' := ?_) ?_ ?_; rotate_left
      ·show Act.put _ (some 49) _ = _
       simp only [Act.put, Xj, Xk, Xl, i64_w, i32_w]; rfl
      refine one_ (i := 13) (N := some 52) (Bq 30 16383) rfl rfl (one_of HT_.out (by kernel_rfl)) (by decide) (fun K hK => ?_); refine goes_ Try.func34 (by kernel_rfl) rfl #[.agg #[.int .i64 a0_2, .int .i64 a0_3, .int .i64 a0_4]] (by rfl) rfl rfl (by (try simp only [Xm, Xn, Xo]); first | done | rfl | (simp only [Xp, Xq]; rfl)) ?_; with_reducible refine (diaphoneref06_ValidateCosts.calls a0_2 a0_3 a0_4 t111 _ A20.out).mono ?_
      rintro e w53 ⟨rfl, hb⟩; refine ⟨_, rfl, ?_⟩; have n0_ := XB (XA (g := gb101) (o := .cells #[.slice A0_0 l0_0.length c0_0, .slice A0_1 l0_1.length c0_1, .int .i64 a0_2, .int .i64 a0_3, .int .i64 a0_4] 26 (0, 0)) (by (with_reducible repeat (first | refine Xf ?_ _ | refine Xg ?_ | refine Xe ?_ _)); exact J101.out) hb); have n1_ := XB (Xz (by repeat (first | (with_reducible first | exact HB.out | apply Xc | apply Xa | apply Xb | refine Xd ?_ E101.out) | exact HB.out)) hb); clear J101; clear HB; have J101 := n0_; have HB := n1_; clear n0_ n1_; (try clear hb)
      (try clear hb2)
      (try clear hk)
      (try clear hi)
      refine hK.out _ _ ⟨(Xi J101.out 0).trans rfl, (Xi J101.out 1).trans rfl, (Xi J101.out 2).trans rfl, (Xi J101.out 3).trans rfl, (Xi J101.out 4).trans rfl⟩ (fun hHeld => ?_); clear hK K; refine norm_ (a' := ?_) ?_ ?_; rotate_left
      ·show Act.put _ (some 52) _ = _
       simp only [Act.put, Xj, Xk, Xl, i64_w, i32_w]; rfl
      refine pure_ (i := 14) (N := some 53) (v := ?_) (a' := ?_) (Bq 30 32767) rfl rfl (any_of HT_.out (by kernel_rfl)) (fun _ _ _ h => h) (Or.inl ⟨by rfl, ?_⟩) ?_ ?_; rotate_left
      ·intro w'; go_simp; with_reducible rfl
      rotate_left
      ·simp only [Act.put, Xj, Xk, Xl, i64_w, i32_w]; rfl
      refine pure_ (i := 15) (N := some 54) (v := ?_) (a' := ?_) (Bq 30 65535) rfl rfl (any_of HT_.out (by kernel_rfl)) (fun _ _ _ h => h) (Or.inl ⟨by rfl, ?_⟩) ?_ ?_; rotate_left
      ·intro w'; go_simp; with_reducible rfl
      rotate_left
      ·simp only [Act.put, Xj, Xk, Xl, i64_w, i32_w]; rfl
      refine pure_ (i := 16) (N := some 55) (v := ?_) (a' := ?_) (Bq 30 131071) rfl rfl (any_of HT_.out (by kernel_rfl)) (fun _ _ _ h => h) (Or.inl ⟨by rfl, ?_⟩) ?_ ?_; rotate_left
      ·intro w'; go_simp; with_reducible rfl
      rotate_left
      ·simp only [Act.put, Xj, Xk, Xl, i64_w, i32_w]; rfl
      refine pure_ (i := 17) (N := some 56) (v := undef) (a' := ?_) (Bq 30 262143) rfl rfl (any_of HT_.out (by kernel_rfl)) (fun _ _ _ h => h) (Or.inr ⟨by rfl, rfl⟩) ?_ ?_; rotate_left
      ·simp only [Act.put, Xj, Xk, Xl, i64_w, i32_w]; rfl
      refine pure_ (i := 18) (N := some 57) (v := undef) (a' := ?_) (Bq 30 524287) rfl rfl (any_of HT_.out (by kernel_rfl)) (fun _ _ _ h => h) (Or.inr ⟨by rfl, rfl⟩) ?_ ?_; rotate_left
      ·simp only [Act.put, Xj, Xk, Xl, i64_w, i32_w]; rfl
      refine pure_ (i := 19) (N := some 58) (v := undef) (a' := ?_) (Bq 30 1048575) rfl rfl (any_of HT_.out (by kernel_rfl)) (fun _ _ _ h => h) (Or.inr ⟨by rfl, rfl⟩) ?_ ?_; rotate_left
      ·simp only [Act.put, Xj, Xk, Xl, i64_w, i32_w]; rfl
      refine pure_ (i := 20) (N := some 59) (v := ?_) (a' := ?_) (Bq 30 2097151) rfl rfl (any_of HT_.out (by kernel_rfl)) (fun _ _ _ h => h) (Or.inl ⟨by rfl, ?_⟩) ?_ ?_; rotate_left
      ·intro w'; go_simp; with_reducible rfl
      rotate_left
      ·simp only [Act.put, Xj, Xk, Xl, i64_w, i32_w]; rfl
      refine pure_ (i := 21) (N := some 60) (v := ?_) (a' := ?_) (Bq 30 4194303) rfl rfl (any_of HT_.out (by kernel_rfl)) (fun _ _ _ h => h) (Or.inl ⟨by rfl, ?_⟩) ?_ ?_; rotate_left
      ·intro w'; go_simp; with_reducible rfl
      rotate_left
      ·simp only [Act.put, Xj, Xk, Xl, i64_w, i32_w]; rfl
      refine pure_ (i := 22) (N := some 61) (v := undef) (a' := ?_) (Bq 30 8388607) rfl rfl (any_of HT_.out (by kernel_rfl)) (fun _ _ _ h => h) (Or.inr ⟨by rfl, rfl⟩) ?_ ?_; rotate_left
      ·simp only [Act.put, Xj, Xk, Xl, i64_w, i32_w]; rfl
      refine pure_ (i := 23) (N := some 62) (v := undef) (a' := ?_) (Bq 30 16777215) rfl rfl (any_of HT_.out (by kernel_rfl)) (fun _ _ _ h => h) (Or.inr ⟨by rfl, rfl⟩) ?_ ?_; rotate_left
      ·simp only [Act.put, Xj, Xk, Xl, i64_w, i32_w]; rfl
      refine pure_ (i := 24) (N := some 63) (v := undef) (a' := ?_) (Bq 30 33554431) rfl rfl (any_of HT_.out (by kernel_rfl)) (fun _ _ _ h => h) (Or.inr ⟨by rfl, rfl⟩) ?_ ?_; rotate_left
      ·simp only [Act.put, Xj, Xk, Xl, i64_w, i32_w]; rfl
      refine pure_ (i := 25) (N := some 64) (v := ?_) (a' := ?_) (Bq 30 67108863) rfl rfl (any_of HT_.out (by kernel_rfl)) (fun _ _ _ h => h) (Or.inl ⟨by rfl, ?_⟩) ?_ ?_; rotate_left
      ·intro w'; go_simp; with_reducible rfl
      rotate_left
      ·simp only [Act.put, Xj, Xk, Xl, i64_w, i32_w]; rfl
      refine pure_ (i := 26) (N := some 65) (v := ?_) (a' := ?_) (Bq 30 134217727) rfl rfl (any_of HT_.out (by kernel_rfl)) (fun _ _ _ h => h) (Or.inl ⟨by rfl, ?_⟩) ?_ ?_; rotate_left
      ·intro w'; go_simp; with_reducible rfl
      rotate_left
      ·simp only [Act.put, Xj, Xk, Xl, i64_w, i32_w]; rfl
      refine pure_ (i := 27) (N := some 66) (v := undef) (a' := ?_) (Bq 30 268435455) rfl rfl (any_of HT_.out (by kernel_rfl)) (fun _ _ _ h => h) (Or.inr ⟨by rfl, rfl⟩) ?_ ?_; rotate_left
      ·simp only [Act.put, Xj, Xk, Xl, i64_w, i32_w]; rfl
      refine pure_ (i := 28) (N := some 67) (v := ?_) (a' := ?_) (Bq 30 536870911) rfl rfl (any_of HT_.out (by kernel_rfl)) (fun _ _ _ h => h) (Or.inl ⟨by rfl, ?_⟩) ?_ ?_; rotate_left
      ·intro w'; go_simp; with_reducible rfl
      rotate_left
      ·simp only [Act.put, Xj, Xk, Xl, i64_w, i32_w]; rfl
      refine pure_ (i := 29) (N := some 4) (v := ?_) (a' := ?_) (Bq 30 1073741823) rfl rfl (any_of HT_.out (by kernel_rfl)) (fun _ _ _ h => h) (Or.inl ⟨by rfl, ?_⟩) ?_ ?_; rotate_left
      ·intro w'; go_simp; with_reducible rfl
      rotate_left
      ·simp only [Act.put, Xj, Xk, Xl, i64_w, i32_w]; rfl
      refine done_ (done_of HT_.out (by kernel_rfl)) ?_; try go_wp2
      go_ret
      exact ⟨by first | rfl | (simp [errW_none, errW_some] <;> rfl) | (simp [*, errW_none, errW_some] <;> rfl), by repeat (first | (with_reducible first | exact HB.out | apply Xc | apply Xa | apply Xb | refine Xd ?_ E101.out) | exact HB.out)⟩
    ·rw [if_neg c18] at H; have c18b0 : (t108 == t109) = false := beq_eq_false_iff_ne.mpr c18; have c18b1 : (t108 != t109) = true := bne_iff_ne.mpr c18; obtain rfl := Option.some.inj H; have hcz54_0 : wc.cell? ⟨gb101, 0, none⟩ = some (.slice A0_0 l0_0.length c0_0) := (Xi J101.out 0).trans rfl; have hcz54_1 : wc.cell? ⟨gb101, 1, none⟩ = some (.slice A0_1 l0_1.length c0_1) := (Xi J101.out 1).trans rfl; have hcz54_2 : wc.cell? ⟨gb101, 2, none⟩ = some (.int .i64 a0_2) := (Xi J101.out 2).trans rfl; have hcz54_3 : wc.cell? ⟨gb101, 3, none⟩ = some (.int .i64 a0_3) := (Xi J101.out 3).trans rfl; have hcz54_4 : wc.cell? ⟨gb101, 4, none⟩ = some (.int .i64 a0_4) := (Xi J101.out 4).trans rfl; have hfz54_0 := Xh J101.out 0; have hfz54_1 := Xh J101.out 1; have hfz54_2 := Xh J101.out 2; have hfz54_3 := Xh J101.out 3; have hfz54_4 := Xh J101.out 4; try go_wp2_with (first | ((with_reducible refine gate_callee (f := 29) rfl ?_); refine goesL_ (some 25) rfl rfl Try.func29 (by kernel_rfl) rfl #[.slice A0_0 l0_0.length c0_0, .slice A0_1 l0_1.length c0_1, .agg #[.int .i64 a0_2, .int .i64 a0_3, .int .i64 a0_4], .slice A1 l1.length c1] rfl (by (try simp only [Xm, Xn, Xo]); first | done | rfl | (simp only [Xp, Xq]; rfl)) ?_; (with_reducible refine (log_CheckPairs.calls kj2 _ _ l0_0 _ _ l0_1 a0_2 a0_3 a0_4 _ _ l1 t104 t105 _ ?side1 ?side2 ?side3 ?side4 ?side5 ?side6 A14.out).mono ?_); (case side1 => repeat (first | exact (Xu HR0_0.out HB.out) | (with_reducible refine Xr ?_ _) | (with_reducible refine Xs ?_ _) | (with_reducible refine Xt ?_))); (case side2 => exact HC0_0.out); (case side3 => repeat (first | exact (Xu HR0_1.out HB.out) | (with_reducible refine Xr ?_ _) | (with_reducible refine Xs ?_ _) | (with_reducible refine Xt ?_))); (case side4 => exact HC0_1.out); (case side5 => repeat (first | exact (Xu HR1.out HB.out) | (with_reducible refine Xr ?_ _) | (with_reducible refine Xs ?_ _) | (with_reducible refine Xt ?_))); (case side6 => exact HC1.out); rintro e w55 ⟨rfl, hb⟩; refine ⟨_, rfl, ?_⟩; have n0_ := XB (XA (g := gb101) (o := .cells #[.slice A0_0 l0_0.length c0_0, .slice A0_1 l0_1.length c0_1, .int .i64 a0_2, .int .i64 a0_3, .int .i64 a0_4] 26 (0, 0)) (by (with_reducible repeat (first | refine Xf ?_ _ | refine Xg ?_ | refine Xe ?_ _)); exact J101.out) hb); have n1_ := XB (Xz (by repeat (first | (with_reducible first | exact HB.out | apply Xc | apply Xa | apply Xb | refine Xd ?_ E101.out) | exact HB.out)) hb); clear J101; clear HB; have J101 := n0_; have HB := n1_; clear n0_ n1_; (try clear hb); (try clear hb2); (try clear hk); (try clear hi); have hcz56_0 : w55.cell? ⟨gb101, 0, none⟩ = some (.slice A0_0 l0_0.length c0_0) := (Xi J101.out 0).trans rfl; have hcz56_1 : w55.cell? ⟨gb101, 1, none⟩ = some (.slice A0_1 l0_1.length c0_1) := (Xi J101.out 1).trans rfl; have hcz56_2 : w55.cell? ⟨gb101, 2, none⟩ = some (.int .i64 a0_2) := (Xi J101.out 2).trans rfl; have hcz56_3 : w55.cell? ⟨gb101, 3, none⟩ = some (.int .i64 a0_3) := (Xi J101.out 3).trans rfl; have hcz56_4 : w55.cell? ⟨gb101, 4, none⟩ = some (.int .i64 a0_4) := (Xi J101.out 4).trans rfl; have hfz56_0 := Xh J101.out 0; have hfz56_1 := Xh J101.out 1; have hfz56_2 := Xh J101.out 2; have hfz56_3 := Xh J101.out 3; have hfz56_4 := Xh J101.out 4) | ((with_reducible refine gate_callee (f := 30) rfl ?_); refine goesL_ (some 36) rfl rfl Try.func30 (by kernel_rfl) rfl #[.slice A0_0 l0_0.length c0_0, .slice A0_1 l0_1.length c0_1, .agg #[.int .i64 a0_2, .int .i64 a0_3, .int .i64 a0_4], .slice A1 l1.length c1] rfl (by (try simp only [Xm, Xn, Xo]); first | done | rfl | (simp only [Xp, Xq]; rfl)) ?_; (with_reducible refine (diaphoneref06_CheckPairs.calls kj2 _ _ l0_0 _ _ l0_1 a0_2 a0_3 a0_4 _ _ l1 t106 t107 _ ?side1 ?side2 ?side3 ?side4 ?side5 ?side6 A15.out).mono ?_); (case side1 => repeat (first | exact (Xu HR0_0.out HB.out) | (with_reducible refine Xr ?_ _) | (with_reducible refine Xs ?_ _) | (with_reducible refine Xt ?_))); (case side2 => exact HC0_0.out); (case side3 => repeat (first | exact (Xu HR0_1.out HB.out) | (with_reducible refine Xr ?_ _) | (with_reducible refine Xs ?_ _) | (with_reducible refine Xt ?_))); (case side4 => exact HC0_1.out); (case side5 => repeat (first | exact (Xu HR1.out HB.out) | (with_reducible refine Xr ?_ _) | (with_reducible refine Xs ?_ _) | (with_reducible refine Xt ?_))); (case side6 => exact HC1.out); rintro e w57 ⟨rfl, hb⟩; refine ⟨_, rfl, ?_⟩; have n0_ := XB (XA (g := gb101) (o := .cells #[.slice A0_0 l0_0.length c0_0, .slice A0_1 l0_1.length c0_1, .int .i64 a0_2, .int .i64 a0_3, .int .i64 a0_4] 26 (0, 0)) (by (with_reducible repeat (first | refine Xf ?_ _ | refine Xg ?_ | refine Xe ?_ _)); exact J101.out) hb); have n1_ := XB (Xz (by repeat (first | (with_reducible first | exact HB.out | apply Xc | apply Xa | apply Xb | refine Xd ?_ E101.out) | exact HB.out)) hb); clear J101; clear HB; have J101 := n0_; have HB := n1_; clear n0_ n1_; (try clear hb); (try clear hb2); (try clear hk); (try clear hi)))
     have n0_ := XB (Xg J101.out); have n1_ := XB (Xb HB.out); clear J101; clear HB; have J101 := n0_; have HB := n1_; clear n0_ n1_; refine start_ (n := 30) (S := fun w' => w'.cell? ⟨gb101, 0, none⟩ = some (.slice A0_0 l0_0.length c0_0) ∧ w'.cell? ⟨gb101, 1, none⟩ = some (.slice A0_1 l0_1.length c0_1) ∧ w'.cell? ⟨gb101, 2, none⟩ = some (.int .i64 a0_2) ∧ w'.cell? ⟨gb101, 3, none⟩ = some (.int .i64 a0_3) ∧ w'.cell? ⟨gb101, 4, none⟩ = some (.int .i64 a0_4)) (ds := []) #[false, false, false, false, false, false, false, false, false, false, false, false, false, false, false, false, false, false, false, false, false, false, false, false, false, false, false, false, false, false] (by kernel_rfl) rfl rfl ⟨(Xi J101.out 0).trans rfl, (Xi J101.out 1).trans rfl, (Xi J101.out 2).trans rfl, (Xi J101.out 3).trans rfl, (Xi J101.out 4).trans rfl⟩ (fun hHeld => ?_); refine with_tabW diaphonelaw06_LogPairs.tab5 diaphonelaw06_LogPairs.bits5 (fun HT_ HW_ => ?_); generalize w57.drew = w58 at J101 HB hHeld ⊢
     refine pure_ (i := 0) (N := some 39) (v := ?_) (a' := ?_) (Bq 30 1) rfl rfl (any_of HT_.out (by kernel_rfl)) (fun _ _ _ h => h) (Or.inl ⟨by rfl, ?_⟩) ?_ ?_; rotate_left
     ·intro w'; go_simp; with_reducible rfl
     rotate_left
     ·simp only [Act.put, Xj, Xk, Xl, i64_w, i32_w]; rfl
     refine pure_ (i := 3) (N := some 42) (v := ?_) (a' := ?_) (Bq 30 9) rfl rfl (any_of HT_.out (by kernel_rfl)) (fun _ _ _ h => h) (Or.inl ⟨by rfl, ?_⟩) ?_ ?_; rotate_left
     ·intro w'; go_simp; with_reducible rfl
     rotate_left
     ·simp only [Act.put, Xj, Xk, Xl, i64_w, i32_w]; rfl
     refine take_ (i := 1) (N := some 40) (v := ?_) (a' := ?_) (Bq 30 11) rfl rfl (take_ofW HT_.out HW_.out (by kernel_rfl)) (fun _ _ _ h => h) (Or.inl ⟨by rfl, ?_⟩) hHeld ?_ ?_; rotate_left
     ·rintro w' ⟨s0, s1, s2, s3, s4⟩; go_simp; with_reducible rfl
     rotate_left
     ·simp only [Act.put, Xj, Xk, Xl, i64_w, i32_w]; rfl
     refine take_ (i := 4) (N := some 43) (v := ?_) (a' := ?_) (Bq 30 27) rfl rfl (take_ofW HT_.out HW_.out (by kernel_rfl)) (fun _ _ _ h => h) (Or.inl ⟨by rfl, ?_⟩) hHeld ?_ ?_; rotate_left
     ·rintro w' ⟨s0, s1, s2, s3, s4⟩; go_simp; with_reducible rfl
     rotate_left
     ·simp only [Act.put, Xj, Xk, Xl, i64_w, i32_w]; rfl
     refine one_ (i := 2) (N := some 41) (Bq 30 31) rfl rfl (one_of HT_.out (by kernel_rfl)) (by decide) (fun K hK => ?_); refine goes_ Try.func31 (by kernel_rfl) rfl #[.slice A0_0 l0_0.length c0_0] (by rfl) rfl rfl (by (try simp only [Xm, Xn, Xo]); first | done | rfl | (simp only [Xp, Xq]; rfl)) ?_; with_reducible refine (log_Validate.calls kj2 _ _ l0_0 t108 _ ?side1 ?side2 A16.out).mono ?_
     (case side1 => repeat (first | exact (Xu HR0_0.out HB.out) | (with_reducible refine Xr ?_ _) | (with_reducible refine Xs ?_ _) | (with_reducible refine Xt ?_)))
     (case side2 => exact HC0_0.out)
     rintro e w' ⟨rfl, ⟨nd, rfl⟩⟩; refine ⟨_, rfl, ?_⟩; refine hK.out _ _ ⟨(Xi J101.out 0).trans rfl, (Xi J101.out 1).trans rfl, (Xi J101.out 2).trans rfl, (Xi J101.out 3).trans rfl, (Xi J101.out 4).trans rfl⟩ (fun hHeld => ?_); clear hK K; refine norm_ (a' := ?_) ?_ ?_; rotate_left
     ·show Act.put _ (some 41) _ = _
      simp only [Act.put, Xj, Xk, Xl, i64_w, i32_w]; rfl
     refine one_ (i := 5) (N := some 44) (Bq 30 63) rfl rfl (one_of HT_.out (by kernel_rfl)) (by decide) (fun K hK => ?_); refine goes_ Try.func32 (by kernel_rfl) rfl #[.slice A0_0 l0_0.length c0_0] (by rfl) rfl rfl (by (try simp only [Xm, Xn, Xo]); first | done | rfl | (simp only [Xp, Xq]; rfl)) ?_; with_reducible refine (diaphoneref06_Validate.calls kj2 _ _ l0_0 t109 _ ?side1 ?side2 A17.out).mono ?_
     (case side1 => repeat (first | exact (Xu HR0_0.out (by repeat (first | (with_reducible first | exact HB.out | apply Xc | apply Xa | apply Xb | refine Xd ?_ E101.out) | exact HB.out))) | (with_reducible refine Xr ?_ _) | (with_reducible refine Xs ?_ _) | (with_reducible refine Xt ?_)))
     (case side2 => exact HC0_0.out)
     rintro e w' ⟨rfl, ⟨nd, rfl⟩⟩; refine ⟨_, rfl, ?_⟩; refine hK.out _ _ ⟨(Xi J101.out 0).trans rfl, (Xi J101.out 1).trans rfl, (Xi J101.out 2).trans rfl, (Xi J101.out 3).trans rfl, (Xi J101.out 4).trans rfl⟩ (fun hHeld => ?_); clear hK K; refine norm_ (a' := ?_) ?_ ?_; rotate_left
     ·show Act.put _ (some 44) _ = _
      simp only [Act.put, Xj, Xk, Xl, i64_w, i32_w]; rfl
     refine pure_ (i := 6) (N := some 45) (v := ?_) (a' := ?_) (Bq 30 127) rfl rfl (any_of HT_.out (by kernel_rfl)) (fun _ _ _ h => h) (Or.inl ⟨by rfl, ?_⟩) ?_ ?_; rotate_left
     ·intro w'; go_simp; with_reducible rfl
     rotate_left
     ·simp only [Act.put, Xj, Xk, Xl, i64_w, i32_w]; rfl
     refine pure_ (i := 7) (N := some 46) (v := ?_) (a' := ?_) (Bq 30 255) rfl rfl (any_of HT_.out (by kernel_rfl)) (fun _ _ _ h => h) (Or.inl ⟨by rfl, ?_⟩) ?_ ?_; rotate_left
     ·intro w'; go_simp; with_reducible rfl
     rotate_left
     ·simp only [Act.put, Xj, Xk, Xl, i64_w, i32_w]; rfl
     refine pure_ (i := 8) (N := some 47) (v := undef) (a' := ?_) (Bq 30 511) rfl rfl (any_of HT_.out (by kernel_rfl)) (fun _ _ _ h => h) (Or.inr ⟨by rfl, rfl⟩) ?_ ?_; rotate_left
     ·simp only [Act.put, Xj, Xk, Xl, i64_w, i32_w]; rfl
     refine pure_ (i := 9) (N := some 48) (v := undef) (a' := ?_) (Bq 30 1023) rfl rfl (any_of HT_.out (by kernel_rfl)) (fun _ _ _ h => h) (Or.inr ⟨by rfl, rfl⟩) ?_ ?_; rotate_left
     ·simp only [Act.put, Xj, Xk, Xl, i64_w, i32_w]; rfl
     refine pure_ (i := 10) (N := some 49) (v := undef) (a' := ?_) (Bq 30 2047) rfl rfl (any_of HT_.out (by kernel_rfl)) (fun _ _ _ h => h) (Or.inr ⟨by rfl, rfl⟩) ?_ ?_; rotate_left
     ·simp only [Act.put, Xj, Xk, Xl, i64_w, i32_w]; rfl
     refine pure_ (i := 11) (N := some 50) (v := undef) (a' := ?_) (Bq 30 4095) rfl rfl (any_of HT_.out (by kernel_rfl)) (fun _ _ _ h => h) (Or.inr ⟨by rfl, rfl⟩) ?_ ?_; rotate_left
     ·simp only [Act.put, Xj, Xk, Xl, i64_w, i32_w]; rfl
     refine pure_ (i := 12) (N := some 51) (v := undef) (a' := ?_) (Bq 30 8191) rfl rfl (any_of HT_.out (by kernel_rfl)) (fun _ _ _ h => h) (Or.inr ⟨by rfl, rfl⟩) ?_ ?_; rotate_left
     ·simp only [Act.put, Xj, Xk, Xl, i64_w, i32_w]; rfl
     refine pure_ (i := 13) (N := some 52) (v := undef) (a' := ?_) (Bq 30 16383) rfl rfl (any_of HT_.out (by kernel_rfl)) (fun _ _ _ h => h) (Or.inr ⟨by rfl, rfl⟩) ?_ ?_; rotate_left
     ·simp only [Act.put, Xj, Xk, Xl, i64_w, i32_w]; rfl
     refine pure_ (i := 14) (N := some 53) (v := undef) (a' := ?_) (Bq 30 32767) rfl rfl (any_of HT_.out (by kernel_rfl)) (fun _ _ _ h => h) (Or.inr ⟨by rfl, rfl⟩) ?_ ?_; rotate_left
     ·simp only [Act.put, Xj, Xk, Xl, i64_w, i32_w]; rfl
     refine pure_ (i := 15) (N := some 54) (v := ?_) (a' := ?_) (Bq 30 65535) rfl rfl (any_of HT_.out (by kernel_rfl)) (fun _ _ _ h => h) (Or.inl ⟨by rfl, ?_⟩) ?_ ?_; rotate_left
     ·intro w'; go_simp; with_reducible rfl
     rotate_left
     ·simp only [Act.put, Xj, Xk, Xl, i64_w, i32_w]; rfl
     refine pure_ (i := 16) (N := some 55) (v := ?_) (a' := ?_) (Bq 30 131071) rfl rfl (any_of HT_.out (by kernel_rfl)) (fun _ _ _ h => h) (Or.inl ⟨by rfl, ?_⟩) ?_ ?_; rotate_left
     ·intro w'; go_simp; with_reducible rfl
     rotate_left
     ·simp only [Act.put, Xj, Xk, Xl, i64_w, i32_w]; rfl
     refine pure_ (i := 17) (N := some 56) (v := undef) (a' := ?_) (Bq 30 262143) rfl rfl (any_of HT_.out (by kernel_rfl)) (fun _ _ _ h => h) (Or.inr ⟨by rfl, rfl⟩) ?_ ?_; rotate_left
     ·simp only [Act.put, Xj, Xk, Xl, i64_w, i32_w]; rfl
     refine pure_ (i := 18) (N := some 57) (v := undef) (a' := ?_) (Bq 30 524287) rfl rfl (any_of HT_.out (by kernel_rfl)) (fun _ _ _ h => h) (Or.inr ⟨by rfl, rfl⟩) ?_ ?_; rotate_left
     ·simp only [Act.put, Xj, Xk, Xl, i64_w, i32_w]; rfl
     refine pure_ (i := 19) (N := some 58) (v := undef) (a' := ?_) (Bq 30 1048575) rfl rfl (any_of HT_.out (by kernel_rfl)) (fun _ _ _ h => h) (Or.inr ⟨by rfl, rfl⟩) ?_ ?_; rotate_left
     ·simp only [Act.put, Xj, Xk, Xl, i64_w, i32_w]; rfl
     refine pure_ (i := 20) (N := some 59) (v := ?_) (a' := ?_) (Bq 30 2097151) rfl rfl (any_of HT_.out (by kernel_rfl)) (fun _ _ _ h => h) (Or.inl ⟨by rfl, ?_⟩) ?_ ?_; rotate_left
     ·intro w'; go_simp; with_reducible rfl
     rotate_left
     ·simp only [Act.put, Xj, Xk, Xl, i64_w, i32_w]; rfl
     refine pure_ (i := 21) (N := some 60) (v := ?_) (a' := ?_) (Bq 30 4194303) rfl rfl (any_of HT_.out (by kernel_rfl)) (fun _ _ _ h => h) (Or.inl ⟨by rfl, ?_⟩) ?_ ?_; rotate_left
     ·intro w'; go_simp; with_reducible rfl
     rotate_left
     ·simp only [Act.put, Xj, Xk, Xl, i64_w, i32_w]; rfl
     refine pure_ (i := 22) (N := some 61) (v := undef) (a' := ?_) (Bq 30 8388607) rfl rfl (any_of HT_.out (by kernel_rfl)) (fun _ _ _ h => h) (Or.inr ⟨by rfl, rfl⟩) ?_ ?_; rotate_left
     ·simp only [Act.put, Xj, Xk, Xl, i64_w, i32_w]; rfl
     refine pure_ (i := 23) (N := some 62) (v := undef) (a' := ?_) (Bq 30 16777215) rfl rfl (any_of HT_.out (by kernel_rfl)) (fun _ _ _ h => h) (Or.inr ⟨by rfl, rfl⟩) ?_ ?_; rotate_left
     ·simp only [Act.put, Xj, Xk, Xl, i64_w, i32_w]; rfl
     refine pure_ (i := 24) (N := some 63) (v := undef) (a' := ?_) (Bq 30 33554431) rfl rfl (any_of HT_.out (by kernel_rfl)) (fun _ _ _ h => h) (Or.inr ⟨by rfl, rfl⟩) ?_ ?_; rotate_left
     ·simp only [Act.put, Xj, Xk, Xl, i64_w, i32_w]; rfl
     refine pure_ (i := 25) (N := some 64) (v := ?_) (a' := ?_) (Bq 30 67108863) rfl rfl (any_of HT_.out (by kernel_rfl)) (fun _ _ _ h => h) (Or.inl ⟨by rfl, ?_⟩) ?_ ?_; rotate_left
     ·intro w'; go_simp; with_reducible rfl
     rotate_left
     ·simp only [Act.put, Xj, Xk, Xl, i64_w, i32_w]; rfl
     refine pure_ (i := 26) (N := some 65) (v := ?_) (a' := ?_) (Bq 30 134217727) rfl rfl (any_of HT_.out (by kernel_rfl)) (fun _ _ _ h => h) (Or.inl ⟨by rfl, ?_⟩) ?_ ?_; rotate_left
     ·intro w'; go_simp; with_reducible rfl
     rotate_left
     ·simp only [Act.put, Xj, Xk, Xl, i64_w, i32_w]; rfl
     refine pure_ (i := 27) (N := some 66) (v := undef) (a' := ?_) (Bq 30 268435455) rfl rfl (any_of HT_.out (by kernel_rfl)) (fun _ _ _ h => h) (Or.inr ⟨by rfl, rfl⟩) ?_ ?_; rotate_left
     ·simp only [Act.put, Xj, Xk, Xl, i64_w, i32_w]; rfl
     refine pure_ (i := 28) (N := some 67) (v := ?_) (a' := ?_) (Bq 30 536870911) rfl rfl (any_of HT_.out (by kernel_rfl)) (fun _ _ _ h => h) (Or.inl ⟨by rfl, ?_⟩) ?_ ?_; rotate_left
     ·intro w'; go_simp; with_reducible rfl
     rotate_left
     ·simp only [Act.put, Xj, Xk, Xl, i64_w, i32_w]; rfl
     refine pure_ (i := 29) (N := some 4) (v := ?_) (a' := ?_) (Bq 30 1073741823) rfl rfl (any_of HT_.out (by kernel_rfl)) (fun _ _ _ h => h) (Or.inl ⟨by rfl, ?_⟩) ?_ ?_; rotate_left
     ·intro w'; go_simp; with_reducible rfl
     rotate_left
     ·simp only [Act.put, Xj, Xk, Xl, i64_w, i32_w]; rfl
     refine done_ (done_of HT_.out (by kernel_rfl)) ?_; try go_wp2
     go_ret
     exact ⟨by first | rfl | (simp [errW_none, errW_some] <;> rfl) | (simp [*, errW_none, errW_some] <;> rfl), by repeat (first | (with_reducible first | exact HB.out | apply Xc | apply Xa | apply Xb | refine Xd ?_ E101.out) | exact HB.out)⟩

end Go.Proofs.Ytcbepmdnhjojdaa.P
