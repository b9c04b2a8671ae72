-- laid by a program of this session (wip/tools): plain functions of the Go code and their contracts
-- thinned
import Derived.Test.YtcbepmdnhjojdaaPx0
import Derived.Test.YtcbepmdnhjojdaaPx4
import Derived.Test.YtcbepmdnhjojdaaPx7
import Derived.Test.YtcbepmdnhjojdaaPx8
namespace Go.Proofs.Ytcbepmdnhjojdaa.P
open Go.RowKit Go.Proofs.YtcbepmdnhjojdaaW.PrintWords Go.Proofs.YtcbepmdnhjojdaaW.PrintLast Go.Proofs.YtcbepmdnhjojdaaW.PrintMore
attribute [local go_sem] max2_int min2_int max_two min_two max_three min_three max_four min_four   -- for this text's walks alone
set_option linter.unusedVariables false
set_option linter.unusedSimpArgs false

/-! ### diaphoneref06_CheckPairs: function 30 -/
mutual
def diaphoneref06_CheckPairs.l0 : Nat → List Int → List Int → List (S65) → Int → Int → Int → Int → Option (Int × Int)
 | 0, _, _, _, _, _, _, _ => none
 | k + 1, x0, x1, x3, x11, x102000, x102001, x102002 => if x11 < (x3.length : Int) then (if 0 ≤ x11 then ((diaphoneref06_within.f ((rd_T65 x3 x11).f0) 0 (wrap64 ((x0.length : Int) - 1))).bind fun t104 => (if t104 = true then ((diaphoneref06_within.f ((rd_T65 x3 x11).f1) 0 (wrap64 ((x1.length : Int) - 1))).bind fun t106 => (if t106 = true then (diaphoneref06_CheckPairs.l0 k x0 x1 x3 (wrap64 (x11 + 1)) x102000 x102001 x102002) else (some (0, 1)))) else (some (0, 1)))) else (none)) else (diaphoneref06_CheckPairs.l1 k x0 x1 x3 1 x102000 x102001 x102002)
def diaphoneref06_CheckPairs.l1 : Nat → List Int → List Int → List (S65) → Int → Int → Int → Int → Option (Int × Int)
 | 0, _, _, _, _, _, _, _ => none
 | k + 1, x0, x1, x3, x12, x102000, x102001, x102002 => if x12 < (x3.length : Int) then (if 0 ≤ x12 then (if 0 ≤ (wrap64 (x12 - 1)) then (if (wrap64 (x12 - 1)) < (x3.length : Int) then (if ((rd_T65 x3 x12).f0) ≤ ((rd_T65 x3 (wrap64 (x12 - 1))).f0) then (some (0, 6)) else (if ((rd_T65 x3 x12).f1) ≤ ((rd_T65 x3 (wrap64 (x12 - 1))).f1) then (some (0, 6)) else (diaphoneref06_CheckPairs.l1 k x0 x1 x3 (wrap64 (x12 + 1)) x102000 x102001 x102002))) else (none)) else (none)) else (none)) else (diaphoneref06_CheckPairs.l2 k x0 x1 x3 (wrap64 ((wrap64 (x102000 * (wrap64 ((x0.length : Int) - (x3.length : Int))))) + (wrap64 (x102001 * (wrap64 ((x1.length : Int) - (x3.length : Int))))))) 0 x102000 x102001 x102002)
def diaphoneref06_CheckPairs.l2 : Nat → List Int → List Int → List (S65) → Int → Int → Int → Int → Int → Option (Int × Int)
 | 0, _, _, _, _, _, _, _, _ => none
 | k + 1, x0, x1, x3, x13, x14, x102000, x102001, x102002 => if x14 < (x3.length : Int) then (if 0 ≤ x14 then (if 0 ≤ ((rd_T65 x3 x14).f0) then (if ((rd_T65 x3 x14).f0) < (x0.length : Int) then (if 0 ≤ ((rd_T65 x3 x14).f1) then (if ((rd_T65 x3 x14).f1) < (x1.length : Int) then ((diaphoneref06_change.f (rd x0 ((rd_T65 x3 x14).f0)) (rd x1 ((rd_T65 x3 x14).f1)) x102000 x102001 x102002).bind fun t115 => (diaphoneref06_CheckPairs.l2 k x0 x1 x3 (wrap64 (x13 + t115)) (wrap64 (x14 + 1)) x102000 x102001 x102002)) else (none)) else (none)) else (none)) else (none)) else (none)) else (some (x13, 0))
end
def diaphoneref06_CheckPairs.f (k : Nat) (l0 : List Int) (l1 : List Int) (a2_0 : Int) (a2_1 : Int) (a2_2 : Int) (l3 : List (S65)) : Option (Int × Int) := (diaphoneref06_costed.f k l0 l1 a2_0 a2_1 a2_2).bind fun t102 => (if t102 = 0 then (diaphoneref06_CheckPairs.l0 k l0 l1 l3 0 a2_0 a2_1 a2_2) else (some (0, t102)))
theorem diaphoneref06_CheckPairs.mono_l : ∀ k, (∀ y0 y1 y2 y3 y4 y5 y6, LeO (diaphoneref06_CheckPairs.l0 k y0 y1 y2 y3 y4 y5 y6) (diaphoneref06_CheckPairs.l0 (k + 1) y0 y1 y2 y3 y4 y5 y6)) ∧ (∀ y0 y1 y2 y3 y4 y5 y6, LeO (diaphoneref06_CheckPairs.l1 k y0 y1 y2 y3 y4 y5 y6) (diaphoneref06_CheckPairs.l1 (k + 1) y0 y1 y2 y3 y4 y5 y6)) ∧ (∀ y0 y1 y2 y3 y4 y5 y6 y7, LeO (diaphoneref06_CheckPairs.l2 k y0 y1 y2 y3 y4 y5 y6 y7) (diaphoneref06_CheckPairs.l2 (k + 1) y0 y1 y2 y3 y4 y5 y6 y7))
 | 0 => ⟨fun _ _ _ _ _ _ _ r h => by simp [diaphoneref06_CheckPairs.l0] at h, fun _ _ _ _ _ _ _ r h => by simp [diaphoneref06_CheckPairs.l1] at h, fun _ _ _ _ _ _ _ _ r h => by simp [diaphoneref06_CheckPairs.l2] at h⟩
 | k + 1 => by
  obtain ⟨ih0, ih1, ih2⟩ := diaphoneref06_CheckPairs.mono_l k; refine ⟨?_, ?_, ?_⟩
  ·intro y0 y1 y2 y3 y4 y5 y6; unfold diaphoneref06_CheckPairs.l0; repeat' first
   | (with_reducible exact ih0 _ _ _ _ _ _ _)
   | (with_reducible exact ih1 _ _ _ _ _ _ _)
   | (with_reducible exact ih2 _ _ _ _ _ _ _ _)
   | (with_reducible exact diaphoneref06_costed.mono _ _ _ _ _ _)
   | (with_reducible exact LeO.refl _)
   | (with_reducible exact LeO.none _)
   | (with_reducible refine LeO.ite ?_ ?_)
   | (with_reducible refine LeO.bind ?_ (fun _ => ?_))
   | exact ih0 _ _ _ _ _ _ _
   | exact ih1 _ _ _ _ _ _ _
   | exact ih2 _ _ _ _ _ _ _ _
   | exact diaphoneref06_costed.mono _ _ _ _ _ _
   | exact LeO.none _
   | refine LeO.ite ?_ ?_
   | refine LeO.bind ?_ (fun _ => ?_)
  ·intro y0 y1 y2 y3 y4 y5 y6; unfold diaphoneref06_CheckPairs.l1; repeat' first
   | (with_reducible exact ih0 _ _ _ _ _ _ _)
   | (with_reducible exact ih1 _ _ _ _ _ _ _)
   | (with_reducible exact ih2 _ _ _ _ _ _ _ _)
   | (with_reducible exact diaphoneref06_costed.mono _ _ _ _ _ _)
   | (with_reducible exact LeO.refl _)
   | (with_reducible exact LeO.none _)
   | (with_reducible refine LeO.ite ?_ ?_)
   | (with_reducible refine LeO.bind ?_ (fun _ => ?_))
   | exact ih0 _ _ _ _ _ _ _
   | exact ih1 _ _ _ _ _ _ _
   | exact ih2 _ _ _ _ _ _ _ _
   | exact diaphoneref06_costed.mono _ _ _ _ _ _
   | exact LeO.none _
   | refine LeO.ite ?_ ?_
   | refine LeO.bind ?_ (fun _ => ?_)
  ·intro y0 y1 y2 y3 y4 y5 y6 y7; unfold diaphoneref06_CheckPairs.l2; repeat' first
   | (with_reducible exact ih0 _ _ _ _ _ _ _)
   | (with_reducible exact ih1 _ _ _ _ _ _ _)
   | (with_reducible exact ih2 _ _ _ _ _ _ _ _)
   | (with_reducible exact diaphoneref06_costed.mono _ _ _ _ _ _)
   | (with_reducible exact LeO.refl _)
   | (with_reducible exact LeO.none _)
   | (with_reducible refine LeO.ite ?_ ?_)
   | (with_reducible refine LeO.bind ?_ (fun _ => ?_))
   | exact ih0 _ _ _ _ _ _ _
   | exact ih1 _ _ _ _ _ _ _
   | exact ih2 _ _ _ _ _ _ _ _
   | exact diaphoneref06_costed.mono _ _ _ _ _ _
   | exact LeO.none _
   | refine LeO.ite ?_ ?_
   | refine LeO.bind ?_ (fun _ => ?_)
theorem diaphoneref06_CheckPairs.mono : ∀ a0 a1 a2 a3 a4 a5 k, LeO (diaphoneref06_CheckPairs.f k a0 a1 a2 a3 a4 a5) (diaphoneref06_CheckPairs.f (k + 1) a0 a1 a2 a3 a4 a5) := by
 intro a0 a1 a2 a3 a4 a5 k; obtain ⟨ih0, ih1, ih2⟩ := diaphoneref06_CheckPairs.mono_l k; unfold diaphoneref06_CheckPairs.f; repeat' first
   | (with_reducible exact ih0 _ _ _ _ _ _ _)
   | (with_reducible exact ih1 _ _ _ _ _ _ _)
   | (with_reducible exact ih2 _ _ _ _ _ _ _ _)
   | (with_reducible exact diaphoneref06_costed.mono _ _ _ _ _ _)
   | (with_reducible exact LeO.refl _)
   | (with_reducible exact LeO.none _)
   | (with_reducible refine LeO.ite ?_ ?_)
   | (with_reducible refine LeO.bind ?_ (fun _ => ?_))
   | exact ih0 _ _ _ _ _ _ _
   | exact ih1 _ _ _ _ _ _ _
   | exact ih2 _ _ _ _ _ _ _ _
   | exact diaphoneref06_costed.mono _ _ _ _ _ _
   | exact LeO.none _
   | refine LeO.ite ?_ ?_
   | refine LeO.bind ?_ (fun _ => ?_)
def diaphoneref06_CheckPairs.T12 : Bool × List (List Nat × List Nat) := (true, [([], []), ([], []), ([0, 1], [0, 1]), ([2], [2]), ([3], [3]), ([], []), ([], []), ([6], [6]), ([5, 7], [5, 7]), ([8], [8]), ([9], [9]), ([4, 10], [4, 10]), ([11], [11]), ([12], [12]), ([12], [12]), ([13, 14, 12], [12, 13, 14]), ([15, 12], [12, 15]), ([16, 12], [12, 16]), ([12], [12]), ([12], [12]), ([19, 12], [12, 19]), ([18, 20, 12], [12, 18, 20]), ([21, 12], [12, 21]), ([22, 12], [12, 22]), ([17, 23, 12], [12, 17, 23]), ([12, 24], [12, 24])])
def diaphoneref06_CheckPairs.B12 : List Nat := [0, 0, 3, 7, 15, 0, 0, 64, 224, 480, 992, 2047, 4095, 8191, 8191, 32767, 65535, 131071, 8191, 8191, 532479, 1843199, 3940351, 8134655, 16777215, 33554431]
theorem diaphoneref06_CheckPairs.tab12 : rtab .any (opsOf Try.f30 12) = diaphoneref06_CheckPairs.T12 := by kernel_rfl
theorem diaphoneref06_CheckPairs.bits12 : waitsOk diaphoneref06_CheckPairs.T12.2 diaphoneref06_CheckPairs.B12 = true := by kernel_rfl
def diaphoneref06_CheckPairs.T18 : Bool × List (List Nat × List Nat) := (true, [([], []), ([], []), ([], []), ([], []), ([2, 3], [2, 3]), ([4], [4]), ([5], [5]), ([1, 6], [1, 6]), ([7], [7]), ([], []), ([], []), ([], []), ([10, 11], [10, 11]), ([12], [12]), ([13], [13]), ([9, 14], [9, 14]), ([15], [15]), ([], []), ([8, 16, 17], [8, 16, 17]), ([0, 18], [0, 18]), ([19, 18, 0, 1, 2, 3, 4, 5, 6, 7, 8, 9, 10, 11, 12, 13, 14, 15, 16, 17, 18, 19], [0, 19])])
def diaphoneref06_CheckPairs.B18 : List Nat := [0, 0, 0, 0, 12, 28, 60, 126, 254, 0, 0, 0, 3072, 7168, 15360, 32256, 65024, 0, 262142, 524287, 1048575]
theorem diaphoneref06_CheckPairs.tab18 : rtab .any (opsOf Try.f30 18) = diaphoneref06_CheckPairs.T18 := by kernel_rfl
theorem diaphoneref06_CheckPairs.bits18 : waitsOk diaphoneref06_CheckPairs.T18.2 diaphoneref06_CheckPairs.B18 = true := by kernel_rfl
set_option maxHeartbeats 8000000 in
set_option maxRecDepth 100000 in
theorem diaphoneref06_CheckPairs.calls (k : Nat) (A0 : Option Addr) (c0 : Nat) (l0 : List Int) (A1 : Option Addr) (c1 : Nat) (l1 : List Int) (a2_0 : Int) (a2_1 : Int) (a2_2 : Int) (A3 : Option Addr) (c3 : Nat) (l3 : List (S65)) (r1 : Int) (r2 : Int) (w : World) (hr0 : Kd.C (Kd.int .i64) w A0 l0.length l0) (hc0 : l0.length ≤ c0) (hr1 : Kd.C (Kd.int .i64) w A1 l1.length l1) (hc1 : l1.length ≤ c1) (hr3 : Kd.C k65 w A3 l3.length l3) (hc3 : l3.length ≤ c3) (h : diaphoneref06_CheckPairs.f k l0 l1 a2_0 a2_1 a2_2 l3 = some (r1, r2)) :
  Calls Try.prog 30 #[.slice A0 l0.length c0, .slice A1 l1.length c1, .agg #[.int .i64 a2_0, .int .i64 a2_1, .int .i64 a2_2], .slice A3 l3.length c3] w fun e w' => e = .returned (.tuple #[.int .i64 r1, .int .i64 r2]) ∧ Below w.heap.size w w' := by
 have hu24 := Try.underlying24; have HR0 := XB hr0; have HC0 := XB hc0; clear hr0 hc0; have HR1 := XB hr1; have HC1 := XB hc1; clear hr1 hc1; have HR3 := XB hr3; have HC3 := XB hc3; clear hr3 hc3; have HB := XB (Below.refl w.heap.size w); have H : ((diaphoneref06_costed.f k l0 l1 a2_0 a2_1 a2_2).bind fun t102 => (if t102 = 0 then (diaphoneref06_CheckPairs.l0 k l0 l1 l3 0 a2_0 a2_1 a2_2) else (some (0, t102)))) = some (r1, r2) := h; clear h; replace H := Option.bind_eq_some_iff.mp H; obtain ⟨t102, A50, H⟩ := H; replace H : (if t102 = 0 then (diaphoneref06_CheckPairs.l0 k l0 l1 l3 0 a2_0 a2_1 a2_2) else (some (0, t102))) = some (r1, r2) := H; have A5 := XB A50; clear A50; by_cases c6 : t102 = 0
 ·rw [if_pos c6] at H; have c6b0 : (t102 == 0) = true := beq_iff_eq.mpr c6; have c6b1 : (t102 != 0) = false := bne_eq_false_iff_eq.mpr c6; clear c6; have H' := XB H; clear H; go_enter Try.func30, Try.ntmps30
  go_wp2_with (first | ((with_reducible refine gate_dst (N := 6) rfl ?_); (try (refine gate_guard (by rfl) ?_; dsimp only)); refine box_event ?hg (N := 6) ?hd (cs := #[.int .i64 a2_0, .int .i64 a2_1, .int .i64 a2_2]) (t := 24) ?hr ?_; (case hd => rfl); (case hg => rfl); (case hr => first | (go_simp; done) | (go_simp; rfl)); intro gb101 hg w7 hbox hb; have n0_ := XB (Xz (by repeat (first | (with_reducible first | exact HB.out | apply Xc | apply Xa | apply Xb) | exact HB.out)) hb); have n1_ := XB (hbox); have n2_ := XB ((by rw [hg]; exact (XC (by repeat (first | (with_reducible first | exact HB.out | apply Xc | apply Xa | apply Xb) | exact HB.out))) : w.heap.size ≤ gb101)); have n3_ := XB ((by rw [hg]; exact (XC (by repeat (first | (with_reducible first | exact HB.out | apply Xc | apply Xa | apply Xb) | exact HB.out))) : w.heap.size ≤ gb101)); clear HB; have HB := n0_; have J101 := n1_; have GW101 := n2_; have E101 := n3_; clear n0_ n1_ n2_ n3_; clear hb hbox hg; have hcz8_0 : w7.cell? ⟨gb101, 0, none⟩ = some (.int .i64 a2_0) := (Xi J101.out 0).trans rfl; have hcz8_1 : w7.cell? ⟨gb101, 1, none⟩ = some (.int .i64 a2_1) := (Xi J101.out 1).trans rfl; have hcz8_2 : w7.cell? ⟨gb101, 2, none⟩ = some (.int .i64 a2_2) := (Xi J101.out 2).trans rfl; have hfz8_0 := Xh J101.out 0; have hfz8_1 := Xh J101.out 1; have hfz8_2 := Xh J101.out 2) | ((with_reducible refine gate_callee (f := 59) rfl ?_); refine goesL_ (some 18) rfl rfl Try.func59 (by kernel_rfl) rfl #[.slice A0 l0.length c0, .slice A1 l1.length c1, .agg #[.int .i64 a2_0, .int .i64 a2_1, .int .i64 a2_2]] rfl (by (try simp only [Xm, Xn, Xo]); first | done | rfl | (simp only [Xp, Xq]; rfl)) ?_; (with_reducible refine (diaphoneref06_costed.calls k _ _ l0 _ _ l1 a2_0 a2_1 a2_2 t102 _ ?side1 ?side2 ?side3 ?side4 A5.out).mono ?_); (case side1 => repeat (first | exact (Xu HR0.out HB.out) | (with_reducible refine Xr ?_ _) | (with_reducible refine Xs ?_ _) | (with_reducible refine Xt ?_))); (case side2 => exact HC0.out); (case side3 => repeat (first | exact (Xu HR1.out HB.out) | (with_reducible refine Xr ?_ _) | (with_reducible refine Xs ?_ _) | (with_reducible refine Xt ?_))); (case side4 => exact HC1.out); rintro e w9 ⟨rfl, hb⟩; refine ⟨_, rfl, ?_⟩; have n0_ := XB (XA (g := gb101) (o := .cells #[.int .i64 a2_0, .int .i64 a2_1, .int .i64 a2_2] 24 (0, 0)) (by (with_reducible repeat (first | refine Xf ?_ _ | refine Xg ?_ | refine Xe ?_ _)); exact J101.out) hb); have n1_ := XB (Xz (by repeat (first | (with_reducible first | exact HB.out | apply Xc | apply Xa | apply Xb | refine Xd ?_ E101.out) | exact HB.out)) hb); clear J101; clear HB; have J101 := n0_; have HB := n1_; clear n0_ n1_; (try clear hb); (try clear hb2); (try clear hk); (try clear hi)))
  go_loopg [11] k (fun kq v11 w' => ∃ (x11_1 : Int), v11 = .int .i64 x11_1 ∧ Aside0 (diaphoneref06_CheckPairs.l0 kq l0 l1 l3 x11_1 a2_0 a2_1 a2_2 = some (r1, r2)) ∧ Aside0 (kq ≤ k) ∧ Aside0 (w'.heap[gb101]? = some (.cells #[.int .i64 a2_0, .int .i64 a2_1, .int .i64 a2_2] 24 (0, 0))) ∧ Aside0 (Below w.heap.size w w'))
  case atStart => exact ⟨(0), (by first | rfl | (simp; done) | (simp [*]; done)), H', ⟨Nat.le_refl _⟩, ⟨by (with_reducible repeat (first | refine Xf ?_ _ | refine Xg ?_ | refine Xe ?_ _)); exact J101.out⟩, ⟨by repeat (first | (with_reducible first | exact HB.out | apply Xc | apply Xa | apply Xb | refine Xd ?_ E101.out) | exact HB.out)⟩⟩
  case round =>
   clear H'; try clear c1
   try clear p2
   try clear c3
   try clear c5
   try clear c6
   try clear c6b0
   try clear c6b1
   try clear hcz8_0
   try clear hcz8_1
   try clear hcz8_2
   try clear hfz8_0
   try clear hfz8_1
   try clear hfz8_2
   obtain ⟨x11_1, rfl, HA, HK1, J101, HB⟩ := hrel
   cases gk with
   | zero => exact absurd HA.out (by simp [diaphoneref06_CheckPairs.l0])
   | succ k1 =>
    have H := HA.out; clear HA; simp only [diaphoneref06_CheckPairs.l0] at H; by_cases c10 : x11_1 < (l3.length : Int)
    ·rw [if_pos c10] at H; have c10b0 : decide (x11_1 < (l3.length : Int)) = true := decide_eq_true c10; clear c10; by_cases c11 : 0 ≤ x11_1
     ·rw [if_pos c11] at H; have c11b0 : decide (0 ≤ x11_1) = true := decide_eq_true c11; clear c11; replace H := Option.bind_eq_some_iff.mp H; obtain ⟨t104, A120, H⟩ := H; replace H : (if t104 = true then ((diaphoneref06_within.f ((rd_T65 l3 x11_1).f1) 0 (wrap64 ((l1.length : Int) - 1))).bind fun t106 => (if t106 = true then (diaphoneref06_CheckPairs.l0 k1 l0 l1 l3 (wrap64 (x11_1 + 1)) a2_0 a2_1 a2_2) else (some (0, 1)))) else (some (0, 1))) = some (r1, r2) := H; have A12 := XB A120; clear A120; by_cases c13 : t104 = true
      ·subst c13; have H1 : ((diaphoneref06_within.f ((rd_T65 l3 x11_1).f1) 0 (wrap64 ((l1.length : Int) - 1))).bind fun t106 => (if t106 = true then (diaphoneref06_CheckPairs.l0 k1 l0 l1 l3 (wrap64 (x11_1 + 1)) a2_0 a2_1 a2_2) else (some (0, 1)))) = some (r1, r2) := by rw [if_pos rfl] at H; exact H
       clear H; have H := H1; clear H1; replace H := Option.bind_eq_some_iff.mp H; obtain ⟨t106, A140, H⟩ := H; replace H : (if t106 = true then (diaphoneref06_CheckPairs.l0 k1 l0 l1 l3 (wrap64 (x11_1 + 1)) a2_0 a2_1 a2_2) else (some (0, 1))) = some (r1, r2) := H; have A14 := XB A140; clear A140; by_cases c15 : t106 = true
       ·subst c15; have H1 : (diaphoneref06_CheckPairs.l0 k1 l0 l1 l3 (wrap64 (x11_1 + 1)) a2_0 a2_1 a2_2) = some (r1, r2) := by rw [if_pos rfl] at H; exact H
        clear H; have H := H1; clear H1; have H' := XB H; clear H; have p103 : 0 ≤ (x11_1 : Int) := of_decide_eq_true (by first | (with_reducible assumption) | assumption); have q103 : x11_1 < (l3.length : Int) := of_decide_eq_true (by first | (with_reducible assumption) | assumption); obtain ⟨ad103, e103, hx103_0, hx103_1⟩ := at_T65 HR3.out x11_1 p103 q103
        cases e103
        replace hx103_0 := (HB.out.cell (World.block_lt_of_cell? w _ hx103_0)).trans hx103_0; replace hx103_1 := (HB.out.cell (World.block_lt_of_cell? w _ hx103_1)).trans hx103_1; replace p103 := eq_true p103; replace q103 := eq_true q103; go_wp2_with (first | ((with_reducible refine gate_callee (f := 67) rfl ?_); refine goesL_ (some 36) rfl rfl Try.func67 (by kernel_rfl) rfl #[.int .i64 ((rd_T65 l3 x11_1).f0), .int .i64 0, .int .i64 (wrap64 ((l0.length : Int) - 1))] rfl (by (try simp only [Xm, Xn, Xo]); first | done | rfl | (simp only [Xp, Xq]; rfl)) ?_; (with_reducible refine (diaphoneref06_within.calls ((rd_T65 l3 x11_1).f0) 0 (wrap64 ((l0.length : Int) - 1)) true _ A12.out).mono ?_); rintro e w' ⟨rfl, ⟨nd, rfl⟩⟩; refine ⟨_, rfl, ?_⟩; have p105 : 0 ≤ (x11_1 : Int) := of_decide_eq_true (by first | (with_reducible assumption) | assumption); have q105 : x11_1 < (l3.length : Int) := of_decide_eq_true (by first | (with_reducible assumption) | assumption); obtain ⟨ad105, e105, hx105_0, hx105_1⟩ := at_T65 HR3.out x11_1 p105 q105; obtain rfl : ad103 = ad105 := (by injection e105); replace hx105_0 := (HB.out.cell (World.block_lt_of_cell? w _ hx105_0)).trans hx105_0; replace hx105_1 := (HB.out.cell (World.block_lt_of_cell? w _ hx105_1)).trans hx105_1; replace p105 := eq_true p105; replace q105 := eq_true q105) | (go_at_call 67; (with_reducible refine (diaphoneref06_within.calls ((rd_T65 l3 x11_1).f1) 0 (wrap64 ((l1.length : Int) - 1)) true _ A14.out).mono ?_); rintro e w' ⟨rfl, ⟨nd, rfl⟩⟩))
        go_roundg k1
        case measure => have := HK1.out; omega
        case rel => exact ⟨(wrap64 (x11_1 + 1)), (by first | rfl | (simp; done) | (simp [*]; done)), H', ⟨by have := HK1.out; omega⟩, ⟨by (with_reducible repeat (first | refine Xf ?_ _ | refine Xg ?_ | refine Xe ?_ _)); exact J101.out⟩, ⟨by repeat (first | (with_reducible first | exact HB.out | apply Xc | apply Xa | apply Xb | refine Xd ?_ E101.out) | exact HB.out)⟩⟩
       ·replace c15 := Bool.eq_false_iff.mpr c15; subst c15; have H1 : (some (0, 1)) = some (r1, r2) := by rw [if_neg (show ¬ (false = true) by decide)] at H; exact H
        clear H; have H := H1; clear H1; simp only [Option.some.injEq, Prod.mk.injEq] at H; obtain ⟨rfl, rfl⟩ := H; have p103 : 0 ≤ (x11_1 : Int) := of_decide_eq_true (by first | (with_reducible assumption) | assumption); have q103 : x11_1 < (l3.length : Int) := of_decide_eq_true (by first | (with_reducible assumption) | assumption); obtain ⟨ad103, e103, hx103_0, hx103_1⟩ := at_T65 HR3.out x11_1 p103 q103
        cases e103
        replace hx103_0 := (HB.out.cell (World.block_lt_of_cell? w _ hx103_0)).trans hx103_0; replace hx103_1 := (HB.out.cell (World.block_lt_of_cell? w _ hx103_1)).trans hx103_1; replace p103 := eq_true p103; replace q103 := eq_true q103; go_wp2_with (first | ((with_reducible refine gate_callee (f := 67) rfl ?_); refine goesL_ (some 36) rfl rfl Try.func67 (by kernel_rfl) rfl #[.int .i64 ((rd_T65 l3 x11_1).f0), .int .i64 0, .int .i64 (wrap64 ((l0.length : Int) - 1))] rfl (by (try simp only [Xm, Xn, Xo]); first | done | rfl | (simp only [Xp, Xq]; rfl)) ?_; (with_reducible refine (diaphoneref06_within.calls ((rd_T65 l3 x11_1).f0) 0 (wrap64 ((l0.length : Int) - 1)) true _ A12.out).mono ?_); rintro e w' ⟨rfl, ⟨nd, rfl⟩⟩; refine ⟨_, rfl, ?_⟩; have p105 : 0 ≤ (x11_1 : Int) := of_decide_eq_true (by first | (with_reducible assumption) | assumption); have q105 : x11_1 < (l3.length : Int) := of_decide_eq_true (by first | (with_reducible assumption) | assumption); obtain ⟨ad105, e105, hx105_0, hx105_1⟩ := at_T65 HR3.out x11_1 p105 q105; obtain rfl : ad103 = ad105 := (by injection e105); replace hx105_0 := (HB.out.cell (World.block_lt_of_cell? w _ hx105_0)).trans hx105_0; replace hx105_1 := (HB.out.cell (World.block_lt_of_cell? w _ hx105_1)).trans hx105_1; replace p105 := eq_true p105; replace q105 := eq_true q105) | (go_at_call 67; (with_reducible refine (diaphoneref06_within.calls ((rd_T65 l3 x11_1).f1) 0 (wrap64 ((l1.length : Int) - 1)) false _ A14.out).mono ?_); rintro e w' ⟨rfl, ⟨nd, rfl⟩⟩))
        go_ret2
        exact ⟨by first | rfl | (simp [errW_none, errW_some] <;> rfl) | (simp [*, errW_none, errW_some] <;> rfl), by repeat (first | (with_reducible first | exact HB.out | apply Xc | apply Xa | apply Xb | refine Xd ?_ E101.out) | exact HB.out)⟩
      ·replace c13 := Bool.eq_false_iff.mpr c13; subst c13; have H1 : (some (0, 1)) = some (r1, r2) := by rw [if_neg (show ¬ (false = true) by decide)] at H; exact H
       clear H; have H := H1; clear H1; simp only [Option.some.injEq, Prod.mk.injEq] at H; obtain ⟨rfl, rfl⟩ := H; have p103 : 0 ≤ (x11_1 : Int) := of_decide_eq_true (by first | (with_reducible assumption) | assumption); have q103 : x11_1 < (l3.length : Int) := of_decide_eq_true (by first | (with_reducible assumption) | assumption); obtain ⟨ad103, e103, hx103_0, hx103_1⟩ := at_T65 HR3.out x11_1 p103 q103
       cases e103
       replace hx103_0 := (HB.out.cell (World.block_lt_of_cell? w _ hx103_0)).trans hx103_0; replace hx103_1 := (HB.out.cell (World.block_lt_of_cell? w _ hx103_1)).trans hx103_1; replace p103 := eq_true p103; replace q103 := eq_true q103; go_wp2_with (first | ((with_reducible refine gate_callee (f := 67) rfl ?_); refine goesL_ (some 36) rfl rfl Try.func67 (by kernel_rfl) rfl #[.int .i64 ((rd_T65 l3 x11_1).f0), .int .i64 0, .int .i64 (wrap64 ((l0.length : Int) - 1))] rfl (by (try simp only [Xm, Xn, Xo]); first | done | rfl | (simp only [Xp, Xq]; rfl)) ?_; (with_reducible refine (diaphoneref06_within.calls ((rd_T65 l3 x11_1).f0) 0 (wrap64 ((l0.length : Int) - 1)) false _ A12.out).mono ?_); rintro e w' ⟨rfl, ⟨nd, rfl⟩⟩; refine ⟨_, rfl, ?_⟩))
       go_ret2
       exact ⟨by first | rfl | (simp [errW_none, errW_some] <;> rfl) | (simp [*, errW_none, errW_some] <;> rfl), by repeat (first | (with_reducible first | exact HB.out | apply Xc | apply Xa | apply Xb | refine Xd ?_ E101.out) | exact HB.out)⟩
     ·rw [if_neg c11] at H; exact absurd H (by simp)
    ·rw [if_neg c10] at H; have c10b0 : decide (x11_1 < (l3.length : Int)) = false := decide_eq_false c10; clear c10; have H' := XB H; clear H; go_wp2
     go_loopg [12] k1 (fun kq v12 w' => ∃ (x12_2 : Int), v12 = .int .i64 x12_2 ∧ Aside0 (diaphoneref06_CheckPairs.l1 kq l0 l1 l3 x12_2 a2_0 a2_1 a2_2 = some (r1, r2)) ∧ Aside0 (kq ≤ k1) ∧ Aside0 (w'.heap[gb101]? = some (.cells #[.int .i64 a2_0, .int .i64 a2_1, .int .i64 a2_2] 24 (0, 0))) ∧ Aside0 (Below w.heap.size w w'))
     case atStart => exact ⟨(1), (by first | rfl | (simp; done) | (simp [*]; done)), H', ⟨Nat.le_refl _⟩, ⟨by (with_reducible repeat (first | refine Xf ?_ _ | refine Xg ?_ | refine Xe ?_ _)); exact J101.out⟩, ⟨by repeat (first | (with_reducible first | exact HB.out | apply Xc | apply Xa | apply Xb | refine Xd ?_ E101.out) | exact HB.out)⟩⟩
     case round =>
      clear H'; try clear c1
      try clear p1
      try clear q1
      try clear hx1
      try clear p2
      try clear c3
      try clear c5
      try clear c6
      try clear c6b0
      try clear c6b1
      try clear p6
      try clear c10
      try clear c10b0
      try clear p10
      try clear q10
      try clear hx10
      try clear c11
      try clear c11b0
      try clear c13
      try clear c15
      try clear hcz8_0
      try clear hcz8_1
      try clear hcz8_2
      try clear hfz8_0
      try clear hfz8_1
      try clear hfz8_2
      try clear hx103_0
      try clear hx103_1
      try clear hx105_0
      try clear hx105_1
      try clear p103
      try clear p105
      try clear p2
      try clear q103
      try clear q105
      obtain ⟨x12_2, rfl, HA, HK2, J101, HB⟩ := hrel
      cases gk with
      | zero => exact absurd HA.out (by simp [diaphoneref06_CheckPairs.l1])
      | succ k2 =>
       have H := HA.out; clear HA; simp only [diaphoneref06_CheckPairs.l1] at H; by_cases c16 : x12_2 < (l3.length : Int)
       ·rw [if_pos c16] at H; have c16b0 : decide (x12_2 < (l3.length : Int)) = true := decide_eq_true c16; clear c16; by_cases c17 : 0 ≤ x12_2
        ·rw [if_pos c17] at H; have c17b0 : decide (0 ≤ x12_2) = true := decide_eq_true c17; clear c17; obtain ⟨ji18, hji18⟩ : ∃ j_ : Int, (wrap64 (x12_2 - 1)) = j_ := ⟨_, rfl⟩
         replace H : (if 0 ≤ (ji18) then (if (ji18) < (l3.length : Int) then (if ((rd_T65 l3 x12_2).f0) ≤ ((rd_T65 l3 (ji18)).f0) then (some (0, 6)) else (if ((rd_T65 l3 x12_2).f1) ≤ ((rd_T65 l3 (ji18)).f1) then (some (0, 6)) else (diaphoneref06_CheckPairs.l1 k2 l0 l1 l3 (wrap64 (x12_2 + 1)) a2_0 a2_1 a2_2))) else (none)) else (none)) = some (r1, r2) := by first | (rw [hji18] at H; exact H) | (simp only [hji18] at H ⊢; exact H)
         have hji18w : (IntKind.i64.wrap (x12_2 - 1)) = ji18 := (i64_w _).trans hji18; by_cases c19 : 0 ≤ (ji18)
         ·rw [if_pos c19] at H; have c19b0 : decide (0 ≤ (ji18)) = true := decide_eq_true c19; clear c19; by_cases c20 : (ji18) < (l3.length : Int)
          ·rw [if_pos c20] at H; have c20b0 : decide ((ji18) < (l3.length : Int)) = true := decide_eq_true c20; clear c20; by_cases c21 : ((rd_T65 l3 x12_2).f0) ≤ ((rd_T65 l3 (ji18)).f0)
           ·rw [if_pos c21] at H; have c21b0 : decide (((rd_T65 l3 x12_2).f0) ≤ ((rd_T65 l3 (ji18)).f0)) = true := decide_eq_true c21; clear c21; simp only [Option.some.injEq, Prod.mk.injEq] at H; obtain ⟨rfl, rfl⟩ := H; try go_wp2
            have n0_ := XB (Xg J101.out); have n1_ := XB (Xb HB.out); clear J101; clear HB; have J101 := n0_; have HB := n1_; clear n0_ n1_; have p107 : 0 ≤ (x12_2 : Int) := of_decide_eq_true (by first | (with_reducible assumption) | assumption); have q107 : x12_2 < (l3.length : Int) := of_decide_eq_true (by first | (with_reducible assumption) | assumption); obtain ⟨ad107, e107, hx107_0, hx107_1⟩ := at_T65 HR3.out x12_2 p107 q107; have hw107_1 := hx107_1; have hw107_0 := hx107_0
            cases e107
            replace hx107_0 := (HB.out.cell (World.block_lt_of_cell? w _ hx107_0)).trans hx107_0; replace hx107_1 := (HB.out.cell (World.block_lt_of_cell? w _ hx107_1)).trans hx107_1; replace p107 := eq_true p107; replace q107 := eq_true q107; have p108 : 0 ≤ ((ji18) : Int) := of_decide_eq_true (by first | (with_reducible assumption) | assumption); have q108 : (ji18) < (l3.length : Int) := of_decide_eq_true (by first | (with_reducible assumption) | assumption); obtain ⟨ad108, e108, hx108_0, hx108_1⟩ := at_T65 HR3.out (ji18) p108 q108; have hw108_1 := hx108_1; have hw108_0 := hx108_0; obtain rfl : ad107 = ad108 := (by injection e108); replace hx108_0 := (HB.out.cell (World.block_lt_of_cell? w _ hx108_0)).trans hx108_0; replace hx108_1 := (HB.out.cell (World.block_lt_of_cell? w _ hx108_1)).trans hx108_1; replace p108 := eq_true p108; replace q108 := eq_true q108; refine start_ (n := 26) (S := fun w' => w'.cell? (ad107.add ((x12_2).toNat * 2)) = some (.int .i64 ((rd_T65 l3 x12_2).f0)) ∧ w'.cell? ⟨(ad107.add ((x12_2).toNat * 2)).block, (ad107.add ((x12_2).toNat * 2)).off + 1, none⟩ = some (.int .i64 ((rd_T65 l3 x12_2).f1)) ∧ w'.cell? (ad107.add (((ji18)).toNat * 2)) = some (.int .i64 ((rd_T65 l3 (ji18)).f0)) ∧ w'.cell? ⟨(ad107.add (((ji18)).toNat * 2)).block, (ad107.add (((ji18)).toNat * 2)).off + 1, none⟩ = some (.int .i64 ((rd_T65 l3 (ji18)).f1))) (ds := []) #[false, false, false, false, false, false, false, false, false, false, false, false, false, false, false, false, false, false, false, false, false, false, false, false, false, false] (by kernel_rfl) rfl rfl ⟨((HB.out.cell (World.block_lt_of_cell? w _ hw107_0)).trans hw107_0), ((HB.out.cell (World.block_lt_of_cell? w _ hw107_1)).trans hw107_1), ((HB.out.cell (World.block_lt_of_cell? w _ hw108_0)).trans hw108_0), ((HB.out.cell (World.block_lt_of_cell? w _ hw108_1)).trans hw108_1)⟩ (fun hHeld => ?_); refine with_tabW diaphoneref06_CheckPairs.tab12 diaphoneref06_CheckPairs.bits12 (fun HT_ HW_ => ?_)
            generalize wr.drew = w22 at J101 HB hx107_0 hx107_1 hx108_0 hx108_1 hHeld ⊢
            refine pure_ (i := 0) (N := some 56) (v := ?_) (a' := ?_) (Bq 26 1) rfl rfl (any_of HT_.out (by kernel_rfl)) (fun _ _ _ h => h) (Or.inl ⟨by rfl, ?_⟩) ?_ ?_; rotate_left
            ·intro w'; go_simp; with_reducible rfl
            rotate_left
            ·simp only [Act.put, Xj, Xk, Xl, i64_w, i32_w]; rfl
            refine pure_ (i := 1) (N := some 57) (v := ?_) (a' := ?_) (Bq 26 3) rfl rfl (any_of HT_.out (by kernel_rfl)) (fun _ _ _ h => h) (Or.inl ⟨by rfl, ?_⟩) ?_ ?_; rotate_left
            ·intro w'; go_simp; with_reducible rfl
            rotate_left
            ·simp only [Act.put, Xj, Xk, Xl, i64_w, i32_w]; rfl
            refine pure_ (i := 2) (N := some 58) (v := ?_) (a' := ?_) (Bq 26 7) rfl rfl (any_of HT_.out (by kernel_rfl)) (fun _ _ _ h => h) (Or.inl ⟨by rfl, ?_⟩) ?_ ?_; rotate_left
            ·intro w'; go_simp; with_reducible rfl
            rotate_left
            ·simp only [Act.put, Xj, Xk, Xl, i64_w, i32_w]; rfl
            refine pure_ (i := 3) (N := some 59) (v := ?_) (a' := ?_) (Bq 26 15) rfl rfl (any_of HT_.out (by kernel_rfl)) (fun _ _ _ h => h) (Or.inl ⟨by rfl, ?_⟩) ?_ ?_; rotate_left
            ·intro w'; go_simp; with_reducible rfl
            rotate_left
            ·simp only [Act.put, Xj, Xk, Xl, i64_w, i32_w]; rfl
            refine pure_ (i := 5) (N := some 61) (v := ?_) (a' := ?_) (Bq 26 47) rfl rfl (any_of HT_.out (by kernel_rfl)) (fun _ _ _ h => h) (Or.inl ⟨by rfl, ?_⟩) ?_ ?_; rotate_left
            ·intro w'; go_simp; with_reducible rfl
            rotate_left
            ·simp only [Act.put, Xj, Xk, Xl, i64_w, i32_w]; rfl
            refine pure_ (i := 6) (N := some 62) (v := ?_) (a' := ?_) (Bq 26 111) rfl rfl (any_of HT_.out (by kernel_rfl)) (fun _ _ _ h => h) (Or.inl ⟨by rfl, ?_⟩) ?_ ?_; rotate_left
            ·intro w'; go_simp; with_reducible rfl
            rotate_left
            ·simp only [Act.put, Xj, Xk, Xl, i64_w, i32_w]; rfl
            refine pure_ (i := 7) (N := some 63) (v := ?_) (a' := ?_) (Bq 26 239) rfl rfl (any_of HT_.out (by kernel_rfl)) (fun _ _ _ h => h) (Or.inl ⟨by rfl, ?_⟩) ?_ ?_; rotate_left
            ·intro w'; go_simp; with_reducible rfl
            rotate_left
            ·simp only [Act.put, Xj, Xk, Xl, i64_w, i32_w]; rfl
            refine pure_ (i := 8) (N := some 64) (v := ?_) (a' := ?_) (Bq 26 495) rfl rfl (any_of HT_.out (by kernel_rfl)) (fun _ _ _ h => h) (Or.inl ⟨by rfl, ?_⟩) ?_ ?_; rotate_left
            ·intro w'; go_simp; with_reducible rfl
            rotate_left
            ·simp only [Act.put, Xj, Xk, Xl, i64_w, i32_w]; rfl
            refine pure_ (i := 9) (N := some 65) (v := ?_) (a' := ?_) (Bq 26 1007) rfl rfl (any_of HT_.out (by kernel_rfl)) (fun _ _ _ h => h) (Or.inl ⟨by rfl, ?_⟩) ?_ ?_; rotate_left
            ·intro w'; go_simp; with_reducible rfl
            rotate_left
            ·simp only [Act.put, Xj, Xk, Xl, i64_w, i32_w]; rfl
            refine take_ (i := 4) (N := some 60) (v := ?_) (a' := ?_) (Bq 26 1023) rfl rfl (take_ofW HT_.out HW_.out (by kernel_rfl)) (fun _ _ _ h => h) (Or.inl ⟨by rfl, ?_⟩) hHeld ?_ ?_; rotate_left
            ·rintro w' ⟨s0, s1, s2, s3⟩; go_simp; with_reducible rfl
            rotate_left
            ·simp only [Act.put, Xj, Xk, Xl, i64_w, i32_w]; rfl
            refine take_ (i := 10) (N := some 66) (v := ?_) (a' := ?_) (Bq 26 2047) rfl rfl (take_ofW HT_.out HW_.out (by kernel_rfl)) (fun _ _ _ h => h) (Or.inl ⟨by rfl, ?_⟩) hHeld ?_ ?_; rotate_left
            ·rintro w' ⟨s0, s1, s2, s3⟩; go_simp; with_reducible rfl
            rotate_left
            ·simp only [Act.put, Xj, Xk, Xl, i64_w, i32_w]; rfl
            refine pure_ (i := 11) (N := some 67) (v := ?_) (a' := ?_) (Bq 26 4095) rfl rfl (any_of HT_.out (by kernel_rfl)) (fun _ _ _ h => h) (Or.inl ⟨by rfl, ?_⟩) ?_ ?_; rotate_left
            ·intro w'; go_simp; with_reducible rfl
            rotate_left
            ·simp only [Act.put, Xj, Xk, Xl, i64_w, i32_w]; rfl
            refine pure_ (i := 12) (N := some 68) (v := ?_) (a' := ?_) (Bq 26 8191) rfl rfl (any_of HT_.out (by kernel_rfl)) (fun _ _ _ h => h) (Or.inl ⟨by rfl, ?_⟩) ?_ ?_; rotate_left
            ·intro w'; go_simp; with_reducible rfl
            rotate_left
            ·simp only [Act.put, Xj, Xk, Xl, i64_w, i32_w]; rfl
            refine pure_ (i := 13) (N := some 69) (v := undef) (a' := ?_) (Bq 26 16383) rfl rfl (any_of HT_.out (by kernel_rfl)) (fun _ _ _ h => h) (Or.inr ⟨by rfl, rfl⟩) ?_ ?_; rotate_left
            ·simp only [Act.put, Xj, Xk, Xl, i64_w, i32_w]; rfl
            refine pure_ (i := 14) (N := some 70) (v := undef) (a' := ?_) (Bq 26 32767) rfl rfl (any_of HT_.out (by kernel_rfl)) (fun _ _ _ h => h) (Or.inr ⟨by rfl, rfl⟩) ?_ ?_; rotate_left
            ·simp only [Act.put, Xj, Xk, Xl, i64_w, i32_w]; rfl
            refine pure_ (i := 15) (N := some 71) (v := undef) (a' := ?_) (Bq 26 65535) rfl rfl (any_of HT_.out (by kernel_rfl)) (fun _ _ _ h => h) (Or.inr ⟨by rfl, rfl⟩) ?_ ?_; rotate_left
            ·simp only [Act.put, Xj, Xk, Xl, i64_w, i32_w]; rfl
            refine pure_ (i := 16) (N := some 72) (v := undef) (a' := ?_) (Bq 26 131071) rfl rfl (any_of HT_.out (by kernel_rfl)) (fun _ _ _ h => h) (Or.inr ⟨by rfl, rfl⟩) ?_ ?_; rotate_left
            ·simp only [Act.put, Xj, Xk, Xl, i64_w, i32_w]; rfl
            refine pure_ (i := 17) (N := some 73) (v := undef) (a' := ?_) (Bq 26 262143) rfl rfl (any_of HT_.out (by kernel_rfl)) (fun _ _ _ h => h) (Or.inr ⟨by rfl, rfl⟩) ?_ ?_; rotate_left
            ·simp only [Act.put, Xj, Xk, Xl, i64_w, i32_w]; rfl
            refine pure_ (i := 18) (N := some 74) (v := undef) (a' := ?_) (Bq 26 524287) rfl rfl (any_of HT_.out (by kernel_rfl)) (fun _ _ _ h => h) (Or.inr ⟨by rfl, rfl⟩) ?_ ?_; rotate_left
            ·simp only [Act.put, Xj, Xk, Xl, i64_w, i32_w]; rfl
            refine pure_ (i := 19) (N := some 75) (v := undef) (a' := ?_) (Bq 26 1048575) rfl rfl (any_of HT_.out (by kernel_rfl)) (fun _ _ _ h => h) (Or.inr ⟨by rfl, rfl⟩) ?_ ?_; rotate_left
            ·simp only [Act.put, Xj, Xk, Xl, i64_w, i32_w]; rfl
            refine pure_ (i := 20) (N := some 76) (v := undef) (a' := ?_) (Bq 26 2097151) rfl rfl (any_of HT_.out (by kernel_rfl)) (fun _ _ _ h => h) (Or.inr ⟨by rfl, rfl⟩) ?_ ?_; rotate_left
            ·simp only [Act.put, Xj, Xk, Xl, i64_w, i32_w]; rfl
            refine pure_ (i := 21) (N := some 77) (v := undef) (a' := ?_) (Bq 26 4194303) rfl rfl (any_of HT_.out (by kernel_rfl)) (fun _ _ _ h => h) (Or.inr ⟨by rfl, rfl⟩) ?_ ?_; rotate_left
            ·simp only [Act.put, Xj, Xk, Xl, i64_w, i32_w]; rfl
            refine pure_ (i := 22) (N := some 78) (v := undef) (a' := ?_) (Bq 26 8388607) rfl rfl (any_of HT_.out (by kernel_rfl)) (fun _ _ _ h => h) (Or.inr ⟨by rfl, rfl⟩) ?_ ?_; rotate_left
            ·simp only [Act.put, Xj, Xk, Xl, i64_w, i32_w]; rfl
            refine pure_ (i := 23) (N := some 79) (v := undef) (a' := ?_) (Bq 26 16777215) rfl rfl (any_of HT_.out (by kernel_rfl)) (fun _ _ _ h => h) (Or.inr ⟨by rfl, rfl⟩) ?_ ?_; rotate_left
            ·simp only [Act.put, Xj, Xk, Xl, i64_w, i32_w]; rfl
            refine pure_ (i := 24) (N := some 80) (v := undef) (a' := ?_) (Bq 26 33554431) rfl rfl (any_of HT_.out (by kernel_rfl)) (fun _ _ _ h => h) (Or.inr ⟨by rfl, rfl⟩) ?_ ?_; rotate_left
            ·simp only [Act.put, Xj, Xk, Xl, i64_w, i32_w]; rfl
            refine pure_ (i := 25) (N := some 81) (v := ?_) (a' := ?_) (Bq 26 67108863) rfl rfl (any_of HT_.out (by kernel_rfl)) (fun _ _ _ h => h) (Or.inl ⟨by rfl, ?_⟩) ?_ ?_; rotate_left
            ·intro w'; go_simp; with_reducible rfl
            rotate_left
            ·simp only [Act.put, Xj, Xk, Xl, i64_w, i32_w]; rfl
            refine done_ (done_of HT_.out (by kernel_rfl)) ?_; try go_wp2
            go_ret2
            exact ⟨by first | rfl | (simp [errW_none, errW_some] <;> rfl) | (simp only [← hji18]; first | rfl | (simp [errW_none, errW_some] <;> rfl)) | (simp [*, errW_none, errW_some] <;> rfl), by repeat (first | (with_reducible first | exact HB.out | apply Xc | apply Xa | apply Xb | refine Xd ?_ E101.out) | exact HB.out)⟩
           ·rw [if_neg c21] at H; have c21b0 : decide (((rd_T65 l3 x12_2).f0) ≤ ((rd_T65 l3 (ji18)).f0)) = false := decide_eq_false c21; clear c21; by_cases c23 : ((rd_T65 l3 x12_2).f1) ≤ ((rd_T65 l3 (ji18)).f1)
            ·rw [if_pos c23] at H; have c23b0 : decide (((rd_T65 l3 x12_2).f1) ≤ ((rd_T65 l3 (ji18)).f1)) = true := decide_eq_true c23; clear c23; simp only [Option.some.injEq, Prod.mk.injEq] at H; obtain ⟨rfl, rfl⟩ := H; try go_wp2
             have n0_ := XB (Xg J101.out); have n1_ := XB (Xb HB.out); clear J101; clear HB; have J101 := n0_; have HB := n1_; clear n0_ n1_; have p107 : 0 ≤ (x12_2 : Int) := of_decide_eq_true (by first | (with_reducible assumption) | assumption); have q107 : x12_2 < (l3.length : Int) := of_decide_eq_true (by first | (with_reducible assumption) | assumption); obtain ⟨ad107, e107, hx107_0, hx107_1⟩ := at_T65 HR3.out x12_2 p107 q107; have hw107_1 := hx107_1; have hw107_0 := hx107_0
             cases e107
             replace hx107_0 := (HB.out.cell (World.block_lt_of_cell? w _ hx107_0)).trans hx107_0; replace hx107_1 := (HB.out.cell (World.block_lt_of_cell? w _ hx107_1)).trans hx107_1; replace p107 := eq_true p107; replace q107 := eq_true q107; have p108 : 0 ≤ ((ji18) : Int) := of_decide_eq_true (by first | (with_reducible assumption) | assumption); have q108 : (ji18) < (l3.length : Int) := of_decide_eq_true (by first | (with_reducible assumption) | assumption); obtain ⟨ad108, e108, hx108_0, hx108_1⟩ := at_T65 HR3.out (ji18) p108 q108; have hw108_1 := hx108_1; have hw108_0 := hx108_0; obtain rfl : ad107 = ad108 := (by injection e108); replace hx108_0 := (HB.out.cell (World.block_lt_of_cell? w _ hx108_0)).trans hx108_0; replace hx108_1 := (HB.out.cell (World.block_lt_of_cell? w _ hx108_1)).trans hx108_1; replace p108 := eq_true p108; replace q108 := eq_true q108; have p109 : 0 ≤ (x12_2 : Int) := of_decide_eq_true (by first | (with_reducible assumption) | assumption); have q109 : x12_2 < (l3.length : Int) := of_decide_eq_true (by first | (with_reducible assumption) | assumption); obtain ⟨ad109, e109, hx109_0, hx109_1⟩ := at_T65 HR3.out x12_2 p109 q109; have hw109_1 := hx109_1; have hw109_0 := hx109_0; obtain rfl : ad107 = ad109 := (by injection e109); replace hx109_0 := (HB.out.cell (World.block_lt_of_cell? w _ hx109_0)).trans hx109_0; replace hx109_1 := (HB.out.cell (World.block_lt_of_cell? w _ hx109_1)).trans hx109_1; replace p109 := eq_true p109; replace q109 := eq_true q109; have p110 : 0 ≤ ((ji18) : Int) := of_decide_eq_true (by first | (with_reducible assumption) | assumption)
             have q110 : (ji18) < (l3.length : Int) := of_decide_eq_true (by first | (with_reducible assumption) | assumption); obtain ⟨ad110, e110, hx110_0, hx110_1⟩ := at_T65 HR3.out (ji18) p110 q110; have hw110_1 := hx110_1; have hw110_0 := hx110_0; obtain rfl : ad107 = ad110 := (by injection e110); replace hx110_0 := (HB.out.cell (World.block_lt_of_cell? w _ hx110_0)).trans hx110_0; replace hx110_1 := (HB.out.cell (World.block_lt_of_cell? w _ hx110_1)).trans hx110_1; replace p110 := eq_true p110; replace q110 := eq_true q110; refine start_ (n := 26) (S := fun w' => w'.cell? (ad107.add ((x12_2).toNat * 2)) = some (.int .i64 ((rd_T65 l3 x12_2).f0)) ∧ w'.cell? ⟨(ad107.add ((x12_2).toNat * 2)).block, (ad107.add ((x12_2).toNat * 2)).off + 1, none⟩ = some (.int .i64 ((rd_T65 l3 x12_2).f1)) ∧ w'.cell? (ad107.add (((ji18)).toNat * 2)) = some (.int .i64 ((rd_T65 l3 (ji18)).f0)) ∧ w'.cell? ⟨(ad107.add (((ji18)).toNat * 2)).block, (ad107.add (((ji18)).toNat * 2)).off + 1, none⟩ = some (.int .i64 ((rd_T65 l3 (ji18)).f1)) ∧ w'.cell? (ad107.add ((x12_2).toNat * 2)) = some (.int .i64 ((rd_T65 l3 x12_2).f0)) ∧ w'.cell? ⟨(ad107.add ((x12_2).toNat * 2)).block, (ad107.add ((x12_2).toNat * 2)).off + 1, none⟩ = some (.int .i64 ((rd_T65 l3 x12_2).f1)) ∧ w'.cell? (ad107.add (((ji18)).toNat * 2)) = some (.int .i64 ((rd_T65 l3 (ji18)).f0)) ∧ w'.cell? ⟨(ad107.add (((ji18)).toNat * 2)).block, (ad107.add (((ji18)).toNat * 2)).off + 1, none⟩ = some (.int .i64 ((rd_T65 l3 (ji18)).f1))) (ds := []) #[false, false, false, false, false, false, false, false, false, false, false, false, false, false, false, false, false, false, false, false, false, false, false, false, false, false] (by kernel_rfl) rfl rfl ⟨((HB.out.cell (World.block_lt_of_cell? w _ hw107_0)).trans hw107_0), ((HB.out.cell (World.block_lt_of_cell? w _ hw107_1)).trans hw107_1), ((HB.out.cell (World.block_lt_of_cell? w _ hw108_0)).trans hw108_0), ((HB.out.cell (World.block_lt_of_cell? w _ hw108_1)).trans hw108_1), ((HB.out.cell (World.block_lt_of_cell? w _ hw109_0)).trans hw109_0), ((HB.out.cell (World.block_lt_of_cell? w _ hw109_1)).trans hw109_1), ((HB.out.cell (World.block_lt_of_cell? w _ hw110_0)).trans hw110_0), ((HB.out.cell (World.block_lt_of_cell? w _ hw110_1)).trans hw110_1)⟩ (fun hHeld => ?_); refine with_tabW diaphoneref06_CheckPairs.tab12 diaphoneref06_CheckPairs.bits12 (fun HT_ HW_ => ?_)
             generalize wr.drew = w24 at J101 HB hx107_0 hx107_1 hx108_0 hx108_1 hx109_0 hx109_1 hx110_0 hx110_1 hHeld ⊢
             refine pure_ (i := 0) (N := some 56) (v := ?_) (a' := ?_) (Bq 26 1) rfl rfl (any_of HT_.out (by kernel_rfl)) (fun _ _ _ h => h) (Or.inl ⟨by rfl, ?_⟩) ?_ ?_; rotate_left
             ·intro w'; go_simp; with_reducible rfl
             rotate_left
             ·simp only [Act.put, Xj, Xk, Xl, i64_w, i32_w]; rfl
             refine pure_ (i := 1) (N := some 57) (v := ?_) (a' := ?_) (Bq 26 3) rfl rfl (any_of HT_.out (by kernel_rfl)) (fun _ _ _ h => h) (Or.inl ⟨by rfl, ?_⟩) ?_ ?_; rotate_left
             ·intro w'; go_simp; with_reducible rfl
             rotate_left
             ·simp only [Act.put, Xj, Xk, Xl, i64_w, i32_w]; rfl
             refine pure_ (i := 2) (N := some 58) (v := ?_) (a' := ?_) (Bq 26 7) rfl rfl (any_of HT_.out (by kernel_rfl)) (fun _ _ _ h => h) (Or.inl ⟨by rfl, ?_⟩) ?_ ?_; rotate_left
             ·intro w'; go_simp; with_reducible rfl
             rotate_left
             ·simp only [Act.put, Xj, Xk, Xl, i64_w, i32_w]; rfl
             refine pure_ (i := 3) (N := some 59) (v := ?_) (a' := ?_) (Bq 26 15) rfl rfl (any_of HT_.out (by kernel_rfl)) (fun _ _ _ h => h) (Or.inl ⟨by rfl, ?_⟩) ?_ ?_; rotate_left
             ·intro w'; go_simp; with_reducible rfl
             rotate_left
             ·simp only [Act.put, Xj, Xk, Xl, i64_w, i32_w]; rfl
             refine pure_ (i := 5) (N := some 61) (v := ?_) (a' := ?_) (Bq 26 47) rfl rfl (any_of HT_.out (by kernel_rfl)) (fun _ _ _ h => h) (Or.inl ⟨by rfl, ?_⟩) ?_ ?_; rotate_left
             ·intro w'; go_simp; with_reducible rfl
             rotate_left
             ·simp only [Act.put, Xj, Xk, Xl, i64_w, i32_w]; rfl
             refine pure_ (i := 6) (N := some 62) (v := ?_) (a' := ?_) (Bq 26 111) rfl rfl (any_of HT_.out (by kernel_rfl)) (fun _ _ _ h => h) (Or.inl ⟨by rfl, ?_⟩) ?_ ?_; rotate_left
             ·intro w'; go_simp; with_reducible rfl
             rotate_left
             ·simp only [Act.put, Xj, Xk, Xl, i64_w, i32_w]; rfl
             refine pure_ (i := 7) (N := some 63) (v := ?_) (a' := ?_) (Bq 26 239) rfl rfl (any_of HT_.out (by kernel_rfl)) (fun _ _ _ h => h) (Or.inl ⟨by rfl, ?_⟩) ?_ ?_; rotate_left
             ·intro w'; go_simp; with_reducible rfl
             rotate_left
             ·simp only [Act.put, Xj, Xk, Xl, i64_w, i32_w]; rfl
             refine pure_ (i := 8) (N := some 64) (v := ?_) (a' := ?_) (Bq 26 495) rfl rfl (any_of HT_.out (by kernel_rfl)) (fun _ _ _ h => h) (Or.inl ⟨by rfl, ?_⟩) ?_ ?_; rotate_left
             ·intro w'; go_simp; with_reducible rfl
             rotate_left
             ·simp only [Act.put, Xj, Xk, Xl, i64_w, i32_w]; rfl
             refine pure_ (i := 9) (N := some 65) (v := ?_) (a' := ?_) (Bq 26 1007) rfl rfl (any_of HT_.out (by kernel_rfl)) (fun _ _ _ h => h) (Or.inl ⟨by rfl, ?_⟩) ?_ ?_; rotate_left
             ·intro w'; go_simp; with_reducible rfl
             rotate_left
             ·simp only [Act.put, Xj, Xk, Xl, i64_w, i32_w]; rfl
             refine take_ (i := 4) (N := some 60) (v := ?_) (a' := ?_) (Bq 26 1023) rfl rfl (take_ofW HT_.out HW_.out (by kernel_rfl)) (fun _ _ _ h => h) (Or.inl ⟨by rfl, ?_⟩) hHeld ?_ ?_; rotate_left
             ·rintro w' ⟨s0, s1, s2, s3, s4, s5, s6, s7⟩; go_simp; with_reducible rfl
             rotate_left
             ·simp only [Act.put, Xj, Xk, Xl, i64_w, i32_w]; rfl
             refine take_ (i := 10) (N := some 66) (v := ?_) (a' := ?_) (Bq 26 2047) rfl rfl (take_ofW HT_.out HW_.out (by kernel_rfl)) (fun _ _ _ h => h) (Or.inl ⟨by rfl, ?_⟩) hHeld ?_ ?_; rotate_left
             ·rintro w' ⟨s0, s1, s2, s3, s4, s5, s6, s7⟩; go_simp; with_reducible rfl
             rotate_left
             ·simp only [Act.put, Xj, Xk, Xl, i64_w, i32_w]; rfl
             refine pure_ (i := 11) (N := some 67) (v := ?_) (a' := ?_) (Bq 26 4095) rfl rfl (any_of HT_.out (by kernel_rfl)) (fun _ _ _ h => h) (Or.inl ⟨by rfl, ?_⟩) ?_ ?_; rotate_left
             ·intro w'; go_simp; with_reducible rfl
             rotate_left
             ·simp only [Act.put, Xj, Xk, Xl, i64_w, i32_w]; rfl
             refine pure_ (i := 12) (N := some 68) (v := ?_) (a' := ?_) (Bq 26 8191) rfl rfl (any_of HT_.out (by kernel_rfl)) (fun _ _ _ h => h) (Or.inl ⟨by rfl, ?_⟩) ?_ ?_; rotate_left
             ·intro w'; go_simp; with_reducible rfl
             rotate_left
             ·simp only [Act.put, Xj, Xk, Xl, i64_w, i32_w]; rfl
             refine pure_ (i := 13) (N := some 69) (v := ?_) (a' := ?_) (Bq 26 16383) rfl rfl (any_of HT_.out (by kernel_rfl)) (fun _ _ _ h => h) (Or.inl ⟨by rfl, ?_⟩) ?_ ?_; rotate_left
             ·intro w'; go_simp; with_reducible rfl
             rotate_left
             ·simp only [Act.put, Xj, Xk, Xl, i64_w, i32_w]; rfl
             refine pure_ (i := 14) (N := some 70) (v := ?_) (a' := ?_) (Bq 26 32767) rfl rfl (any_of HT_.out (by kernel_rfl)) (fun _ _ _ h => h) (Or.inl ⟨by rfl, ?_⟩) ?_ ?_; rotate_left
             ·intro w'; go_simp; with_reducible rfl
             rotate_left
             ·simp only [Act.put, Xj, Xk, Xl, i64_w, i32_w]; rfl
             refine pure_ (i := 15) (N := some 71) (v := ?_) (a' := ?_) (Bq 26 65535) rfl rfl (any_of HT_.out (by kernel_rfl)) (fun _ _ _ h => h) (Or.inl ⟨by rfl, ?_⟩) ?_ ?_; rotate_left
             ·intro w'; go_simp; with_reducible rfl
             rotate_left
             ·simp only [Act.put, Xj, Xk, Xl, i64_w, i32_w]; rfl
             refine pure_ (i := 16) (N := some 72) (v := ?_) (a' := ?_) (Bq 26 131071) rfl rfl (any_of HT_.out (by kernel_rfl)) (fun _ _ _ h => h) (Or.inl ⟨by rfl, ?_⟩) ?_ ?_; rotate_left
             ·intro w'; go_simp; with_reducible rfl
             rotate_left
             ·simp only [Act.put, Xj, Xk, Xl, i64_w, i32_w]; rfl
             refine pure_ (i := 18) (N := some 74) (v := ?_) (a' := ?_) (Bq 26 393215) rfl rfl (any_of HT_.out (by kernel_rfl)) (fun _ _ _ h => h) (Or.inl ⟨by rfl, ?_⟩) ?_ ?_; rotate_left
             ·intro w'; go_simp; with_reducible rfl
             rotate_left
             ·simp only [Act.put, Xj, Xk, Xl, i64_w, i32_w]; rfl
             refine pure_ (i := 19) (N := some 75) (v := ?_) (a' := ?_) (Bq 26 917503) rfl rfl (any_of HT_.out (by kernel_rfl)) (fun _ _ _ h => h) (Or.inl ⟨by rfl, ?_⟩) ?_ ?_; rotate_left
             ·intro w'; go_simp; with_reducible rfl
             rotate_left
             ·simp only [Act.put, Xj, Xk, Xl, i64_w, i32_w]; rfl
             refine pure_ (i := 20) (N := some 76) (v := ?_) (a' := ?_) (Bq 26 1966079) rfl rfl (any_of HT_.out (by kernel_rfl)) (fun _ _ _ h => h) (Or.inl ⟨by rfl, ?_⟩) ?_ ?_; rotate_left
             ·intro w'; go_simp; with_reducible rfl
             rotate_left
             ·simp only [Act.put, Xj, Xk, Xl, i64_w, i32_w]; rfl
             refine pure_ (i := 21) (N := some 77) (v := ?_) (a' := ?_) (Bq 26 4063231) rfl rfl (any_of HT_.out (by kernel_rfl)) (fun _ _ _ h => h) (Or.inl ⟨by rfl, ?_⟩) ?_ ?_; rotate_left
             ·intro w'; go_simp; with_reducible rfl
             rotate_left
             ·simp only [Act.put, Xj, Xk, Xl, i64_w, i32_w]; rfl
             refine pure_ (i := 22) (N := some 78) (v := ?_) (a' := ?_) (Bq 26 8257535) rfl rfl (any_of HT_.out (by kernel_rfl)) (fun _ _ _ h => h) (Or.inl ⟨by rfl, ?_⟩) ?_ ?_; rotate_left
             ·intro w'; go_simp; with_reducible rfl
             rotate_left
             ·simp only [Act.put, Xj, Xk, Xl, i64_w, i32_w]; rfl
             refine take_ (i := 17) (N := some 73) (v := ?_) (a' := ?_) (Bq 26 8388607) rfl rfl (take_ofW HT_.out HW_.out (by kernel_rfl)) (fun _ _ _ h => h) (Or.inl ⟨by rfl, ?_⟩) hHeld ?_ ?_; rotate_left
             ·rintro w' ⟨s0, s1, s2, s3, s4, s5, s6, s7⟩; go_simp; with_reducible rfl
             rotate_left
             ·simp only [Act.put, Xj, Xk, Xl, i64_w, i32_w]; rfl
             refine take_ (i := 23) (N := some 79) (v := ?_) (a' := ?_) (Bq 26 16777215) rfl rfl (take_ofW HT_.out HW_.out (by kernel_rfl)) (fun _ _ _ h => h) (Or.inl ⟨by rfl, ?_⟩) hHeld ?_ ?_; rotate_left
             ·rintro w' ⟨s0, s1, s2, s3, s4, s5, s6, s7⟩; go_simp; with_reducible rfl
             rotate_left
             ·simp only [Act.put, Xj, Xk, Xl, i64_w, i32_w]; rfl
             refine pure_ (i := 24) (N := some 80) (v := ?_) (a' := ?_) (Bq 26 33554431) rfl rfl (any_of HT_.out (by kernel_rfl)) (fun _ _ _ h => h) (Or.inl ⟨by rfl, ?_⟩) ?_ ?_; rotate_left
             ·intro w'; go_simp; with_reducible rfl
             rotate_left
             ·simp only [Act.put, Xj, Xk, Xl, i64_w, i32_w]; rfl
             refine pure_ (i := 25) (N := some 81) (v := ?_) (a' := ?_) (Bq 26 67108863) rfl rfl (any_of HT_.out (by kernel_rfl)) (fun _ _ _ h => h) (Or.inl ⟨by rfl, ?_⟩) ?_ ?_; rotate_left
             ·intro w'; go_simp; with_reducible rfl
             rotate_left
             ·simp only [Act.put, Xj, Xk, Xl, i64_w, i32_w]; rfl
             refine done_ (done_of HT_.out (by kernel_rfl)) ?_; try go_wp2
             go_ret2
             exact ⟨by first | rfl | (simp [errW_none, errW_some] <;> rfl) | (simp only [← hji18]; first | rfl | (simp [errW_none, errW_some] <;> rfl)) | (simp [*, errW_none, errW_some] <;> rfl), by repeat (first | (with_reducible first | exact HB.out | apply Xc | apply Xa | apply Xb | refine Xd ?_ E101.out) | exact HB.out)⟩
            ·rw [if_neg c23] at H; have c23b0 : decide (((rd_T65 l3 x12_2).f1) ≤ ((rd_T65 l3 (ji18)).f1)) = false := decide_eq_false c23; clear c23; have H' := XB H; clear H; try go_wp2
             have n0_ := XB (Xg J101.out); have n1_ := XB (Xb HB.out); clear J101; clear HB; have J101 := n0_; have HB := n1_; clear n0_ n1_; have p107 : 0 ≤ (x12_2 : Int) := of_decide_eq_true (by first | (with_reducible assumption) | assumption); have q107 : x12_2 < (l3.length : Int) := of_decide_eq_true (by first | (with_reducible assumption) | assumption); obtain ⟨ad107, e107, hx107_0, hx107_1⟩ := at_T65 HR3.out x12_2 p107 q107; have hw107_1 := hx107_1; have hw107_0 := hx107_0
             cases e107
             replace hx107_0 := (HB.out.cell (World.block_lt_of_cell? w _ hx107_0)).trans hx107_0; replace hx107_1 := (HB.out.cell (World.block_lt_of_cell? w _ hx107_1)).trans hx107_1; replace p107 := eq_true p107; replace q107 := eq_true q107; have p108 : 0 ≤ ((ji18) : Int) := of_decide_eq_true (by first | (with_reducible assumption) | assumption); have q108 : (ji18) < (l3.length : Int) := of_decide_eq_true (by first | (with_reducible assumption) | assumption); obtain ⟨ad108, e108, hx108_0, hx108_1⟩ := at_T65 HR3.out (ji18) p108 q108; have hw108_1 := hx108_1; have hw108_0 := hx108_0; obtain rfl : ad107 = ad108 := (by injection e108); replace hx108_0 := (HB.out.cell (World.block_lt_of_cell? w _ hx108_0)).trans hx108_0; replace hx108_1 := (HB.out.cell (World.block_lt_of_cell? w _ hx108_1)).trans hx108_1; replace p108 := eq_true p108; replace q108 := eq_true q108; have p109 : 0 ≤ (x12_2 : Int) := of_decide_eq_true (by first | (with_reducible assumption) | assumption); have q109 : x12_2 < (l3.length : Int) := of_decide_eq_true (by first | (with_reducible assumption) | assumption); obtain ⟨ad109, e109, hx109_0, hx109_1⟩ := at_T65 HR3.out x12_2 p109 q109; have hw109_1 := hx109_1; have hw109_0 := hx109_0; obtain rfl : ad107 = ad109 := (by injection e109); replace hx109_0 := (HB.out.cell (World.block_lt_of_cell? w _ hx109_0)).trans hx109_0; replace hx109_1 := (HB.out.cell (World.block_lt_of_cell? w _ hx109_1)).trans hx109_1; replace p109 := eq_true p109; replace q109 := eq_true q109; have p110 : 0 ≤ ((ji18) : Int) := of_decide_eq_true (by first | (with_reducible assumption) | assumption)
             have q110 : (ji18) < (l3.length : Int) := of_decide_eq_true (by first | (with_reducible assumption) | assumption); obtain ⟨ad110, e110, hx110_0, hx110_1⟩ := at_T65 HR3.out (ji18) p110 q110; have hw110_1 := hx110_1; have hw110_0 := hx110_0; obtain rfl : ad107 = ad110 := (by injection e110); replace hx110_0 := (HB.out.cell (World.block_lt_of_cell? w _ hx110_0)).trans hx110_0; replace hx110_1 := (HB.out.cell (World.block_lt_of_cell? w _ hx110_1)).trans hx110_1; replace p110 := eq_true p110; replace q110 := eq_true q110; refine start_ (n := 26) (S := fun w' => w'.cell? (ad107.add ((x12_2).toNat * 2)) = some (.int .i64 ((rd_T65 l3 x12_2).f0)) ∧ w'.cell? ⟨(ad107.add ((x12_2).toNat * 2)).block, (ad107.add ((x12_2).toNat * 2)).off + 1, none⟩ = some (.int .i64 ((rd_T65 l3 x12_2).f1)) ∧ w'.cell? (ad107.add (((ji18)).toNat * 2)) = some (.int .i64 ((rd_T65 l3 (ji18)).f0)) ∧ w'.cell? ⟨(ad107.add (((ji18)).toNat * 2)).block, (ad107.add (((ji18)).toNat * 2)).off + 1, none⟩ = some (.int .i64 ((rd_T65 l3 (ji18)).f1)) ∧ w'.cell? (ad107.add ((x12_2).toNat * 2)) = some (.int .i64 ((rd_T65 l3 x12_2).f0)) ∧ w'.cell? ⟨(ad107.add ((x12_2).toNat * 2)).block, (ad107.add ((x12_2).toNat * 2)).off + 1, none⟩ = some (.int .i64 ((rd_T65 l3 x12_2).f1)) ∧ w'.cell? (ad107.add (((ji18)).toNat * 2)) = some (.int .i64 ((rd_T65 l3 (ji18)).f0)) ∧ w'.cell? ⟨(ad107.add (((ji18)).toNat * 2)).block, (ad107.add (((ji18)).toNat * 2)).off + 1, none⟩ = some (.int .i64 ((rd_T65 l3 (ji18)).f1))) (ds := []) #[false, false, false, false, false, false, false, false, false, false, false, false, false, false, false, false, false, false, false, false, false, false, false, false, false, false] (by kernel_rfl) rfl rfl ⟨((HB.out.cell (World.block_lt_of_cell? w _ hw107_0)).trans hw107_0), ((HB.out.cell (World.block_lt_of_cell? w _ hw107_1)).trans hw107_1), ((HB.out.cell (World.block_lt_of_cell? w _ hw108_0)).trans hw108_0), ((HB.out.cell (World.block_lt_of_cell? w _ hw108_1)).trans hw108_1), ((HB.out.cell (World.block_lt_of_cell? w _ hw109_0)).trans hw109_0), ((HB.out.cell (World.block_lt_of_cell? w _ hw109_1)).trans hw109_1), ((HB.out.cell (World.block_lt_of_cell? w _ hw110_0)).trans hw110_0), ((HB.out.cell (World.block_lt_of_cell? w _ hw110_1)).trans hw110_1)⟩ (fun hHeld => ?_); refine with_tabW diaphoneref06_CheckPairs.tab12 diaphoneref06_CheckPairs.bits12 (fun HT_ HW_ => ?_)
             generalize wr.drew = w25 at J101 HB hx107_0 hx107_1 hx108_0 hx108_1 hx109_0 hx109_1 hx110_0 hx110_1 hHeld ⊢
             refine pure_ (i := 0) (N := some 56) (v := ?_) (a' := ?_) (Bq 26 1) rfl rfl (any_of HT_.out (by kernel_rfl)) (fun _ _ _ h => h) (Or.inl ⟨by rfl, ?_⟩) ?_ ?_; rotate_left
             ·intro w'; go_simp; with_reducible rfl
             rotate_left
             ·simp only [Act.put, Xj, Xk, Xl, i64_w, i32_w]; rfl
             refine pure_ (i := 1) (N := some 57) (v := ?_) (a' := ?_) (Bq 26 3) rfl rfl (any_of HT_.out (by kernel_rfl)) (fun _ _ _ h => h) (Or.inl ⟨by rfl, ?_⟩) ?_ ?_; rotate_left
             ·intro w'; go_simp; with_reducible rfl
             rotate_left
             ·simp only [Act.put, Xj, Xk, Xl, i64_w, i32_w]; rfl
             refine pure_ (i := 2) (N := some 58) (v := ?_) (a' := ?_) (Bq 26 7) rfl rfl (any_of HT_.out (by kernel_rfl)) (fun _ _ _ h => h) (Or.inl ⟨by rfl, ?_⟩) ?_ ?_; rotate_left
             ·intro w'; go_simp; with_reducible rfl
             rotate_left
             ·simp only [Act.put, Xj, Xk, Xl, i64_w, i32_w]; rfl
             refine pure_ (i := 3) (N := some 59) (v := ?_) (a' := ?_) (Bq 26 15) rfl rfl (any_of HT_.out (by kernel_rfl)) (fun _ _ _ h => h) (Or.inl ⟨by rfl, ?_⟩) ?_ ?_; rotate_left
             ·intro w'; go_simp; with_reducible rfl
             rotate_left
             ·simp only [Act.put, Xj, Xk, Xl, i64_w, i32_w]; rfl
             refine pure_ (i := 5) (N := some 61) (v := ?_) (a' := ?_) (Bq 26 47) rfl rfl (any_of HT_.out (by kernel_rfl)) (fun _ _ _ h => h) (Or.inl ⟨by rfl, ?_⟩) ?_ ?_; rotate_left
             ·intro w'; go_simp; with_reducible rfl
             rotate_left
             ·simp only [Act.put, Xj, Xk, Xl, i64_w, i32_w]; rfl
             refine pure_ (i := 6) (N := some 62) (v := ?_) (a' := ?_) (Bq 26 111) rfl rfl (any_of HT_.out (by kernel_rfl)) (fun _ _ _ h => h) (Or.inl ⟨by rfl, ?_⟩) ?_ ?_; rotate_left
             ·intro w'; go_simp; with_reducible rfl
             rotate_left
             ·simp only [Act.put, Xj, Xk, Xl, i64_w, i32_w]; rfl
             refine pure_ (i := 7) (N := some 63) (v := ?_) (a' := ?_) (Bq 26 239) rfl rfl (any_of HT_.out (by kernel_rfl)) (fun _ _ _ h => h) (Or.inl ⟨by rfl, ?_⟩) ?_ ?_; rotate_left
             ·intro w'; go_simp; with_reducible rfl
             rotate_left
             ·simp only [Act.put, Xj, Xk, Xl, i64_w, i32_w]; rfl
             refine pure_ (i := 8) (N := some 64) (v := ?_) (a' := ?_) (Bq 26 495) rfl rfl (any_of HT_.out (by kernel_rfl)) (fun _ _ _ h => h) (Or.inl ⟨by rfl, ?_⟩) ?_ ?_; rotate_left
             ·intro w'; go_simp; with_reducible rfl
             rotate_left
             ·simp only [Act.put, Xj, Xk, Xl, i64_w, i32_w]; rfl
             refine pure_ (i := 9) (N := some 65) (v := ?_) (a' := ?_) (Bq 26 1007) rfl rfl (any_of HT_.out (by kernel_rfl)) (fun _ _ _ h => h) (Or.inl ⟨by rfl, ?_⟩) ?_ ?_; rotate_left
             ·intro w'; go_simp; with_reducible rfl
             rotate_left
             ·simp only [Act.put, Xj, Xk, Xl, i64_w, i32_w]; rfl
             refine take_ (i := 4) (N := some 60) (v := ?_) (a' := ?_) (Bq 26 1023) rfl rfl (take_ofW HT_.out HW_.out (by kernel_rfl)) (fun _ _ _ h => h) (Or.inl ⟨by rfl, ?_⟩) hHeld ?_ ?_; rotate_left
             ·rintro w' ⟨s0, s1, s2, s3, s4, s5, s6, s7⟩; go_simp; with_reducible rfl
             rotate_left
             ·simp only [Act.put, Xj, Xk, Xl, i64_w, i32_w]; rfl
             refine take_ (i := 10) (N := some 66) (v := ?_) (a' := ?_) (Bq 26 2047) rfl rfl (take_ofW HT_.out HW_.out (by kernel_rfl)) (fun _ _ _ h => h) (Or.inl ⟨by rfl, ?_⟩) hHeld ?_ ?_; rotate_left
             ·rintro w' ⟨s0, s1, s2, s3, s4, s5, s6, s7⟩; go_simp; with_reducible rfl
             rotate_left
             ·simp only [Act.put, Xj, Xk, Xl, i64_w, i32_w]; rfl
             refine pure_ (i := 11) (N := some 67) (v := ?_) (a' := ?_) (Bq 26 4095) rfl rfl (any_of HT_.out (by kernel_rfl)) (fun _ _ _ h => h) (Or.inl ⟨by rfl, ?_⟩) ?_ ?_; rotate_left
             ·intro w'; go_simp; with_reducible rfl
             rotate_left
             ·simp only [Act.put, Xj, Xk, Xl, i64_w, i32_w]; rfl
             refine pure_ (i := 12) (N := some 68) (v := ?_) (a' := ?_) (Bq 26 8191) rfl rfl (any_of HT_.out (by kernel_rfl)) (fun _ _ _ h => h) (Or.inl ⟨by rfl, ?_⟩) ?_ ?_; rotate_left
             ·intro w'; go_simp; with_reducible rfl
             rotate_left
             ·simp only [Act.put, Xj, Xk, Xl, i64_w, i32_w]; rfl
             refine pure_ (i := 13) (N := some 69) (v := ?_) (a' := ?_) (Bq 26 16383) rfl rfl (any_of HT_.out (by kernel_rfl)) (fun _ _ _ h => h) (Or.inl ⟨by rfl, ?_⟩) ?_ ?_; rotate_left
             ·intro w'; go_simp; with_reducible rfl
             rotate_left
             ·simp only [Act.put, Xj, Xk, Xl, i64_w, i32_w]; rfl
             refine pure_ (i := 14) (N := some 70) (v := ?_) (a' := ?_) (Bq 26 32767) rfl rfl (any_of HT_.out (by kernel_rfl)) (fun _ _ _ h => h) (Or.inl ⟨by rfl, ?_⟩) ?_ ?_; rotate_left
             ·intro w'; go_simp; with_reducible rfl
             rotate_left
             ·simp only [Act.put, Xj, Xk, Xl, i64_w, i32_w]; rfl
             refine pure_ (i := 15) (N := some 71) (v := ?_) (a' := ?_) (Bq 26 65535) rfl rfl (any_of HT_.out (by kernel_rfl)) (fun _ _ _ h => h) (Or.inl ⟨by rfl, ?_⟩) ?_ ?_; rotate_left
             ·intro w'; go_simp; with_reducible rfl
             rotate_left
             ·simp only [Act.put, Xj, Xk, Xl, i64_w, i32_w]; rfl
             refine pure_ (i := 16) (N := some 72) (v := ?_) (a' := ?_) (Bq 26 131071) rfl rfl (any_of HT_.out (by kernel_rfl)) (fun _ _ _ h => h) (Or.inl ⟨by rfl, ?_⟩) ?_ ?_; rotate_left
             ·intro w'; go_simp; with_reducible rfl
             rotate_left
             ·simp only [Act.put, Xj, Xk, Xl, i64_w, i32_w]; rfl
             refine pure_ (i := 18) (N := some 74) (v := ?_) (a' := ?_) (Bq 26 393215) rfl rfl (any_of HT_.out (by kernel_rfl)) (fun _ _ _ h => h) (Or.inl ⟨by rfl, ?_⟩) ?_ ?_; rotate_left
             ·intro w'; go_simp; with_reducible rfl
             rotate_left
             ·simp only [Act.put, Xj, Xk, Xl, i64_w, i32_w]; rfl
             refine pure_ (i := 19) (N := some 75) (v := ?_) (a' := ?_) (Bq 26 917503) rfl rfl (any_of HT_.out (by kernel_rfl)) (fun _ _ _ h => h) (Or.inl ⟨by rfl, ?_⟩) ?_ ?_; rotate_left
             ·intro w'; go_simp; with_reducible rfl
             rotate_left
             ·simp only [Act.put, Xj, Xk, Xl, i64_w, i32_w]; rfl
             refine pure_ (i := 20) (N := some 76) (v := ?_) (a' := ?_) (Bq 26 1966079) rfl rfl (any_of HT_.out (by kernel_rfl)) (fun _ _ _ h => h) (Or.inl ⟨by rfl, ?_⟩) ?_ ?_; rotate_left
             ·intro w'; go_simp; with_reducible rfl
             rotate_left
             ·simp only [Act.put, Xj, Xk, Xl, i64_w, i32_w]; rfl
             refine pure_ (i := 21) (N := some 77) (v := ?_) (a' := ?_) (Bq 26 4063231) rfl rfl (any_of HT_.out (by kernel_rfl)) (fun _ _ _ h => h) (Or.inl ⟨by rfl, ?_⟩) ?_ ?_; rotate_left
             ·intro w'; go_simp; with_reducible rfl
             rotate_left
             ·simp only [Act.put, Xj, Xk, Xl, i64_w, i32_w]; rfl
             refine pure_ (i := 22) (N := some 78) (v := ?_) (a' := ?_) (Bq 26 8257535) rfl rfl (any_of HT_.out (by kernel_rfl)) (fun _ _ _ h => h) (Or.inl ⟨by rfl, ?_⟩) ?_ ?_; rotate_left
             ·intro w'; go_simp; with_reducible rfl
             rotate_left
             ·simp only [Act.put, Xj, Xk, Xl, i64_w, i32_w]; rfl
             refine take_ (i := 17) (N := some 73) (v := ?_) (a' := ?_) (Bq 26 8388607) rfl rfl (take_ofW HT_.out HW_.out (by kernel_rfl)) (fun _ _ _ h => h) (Or.inl ⟨by rfl, ?_⟩) hHeld ?_ ?_; rotate_left
             ·rintro w' ⟨s0, s1, s2, s3, s4, s5, s6, s7⟩; go_simp; with_reducible rfl
             rotate_left
             ·simp only [Act.put, Xj, Xk, Xl, i64_w, i32_w]; rfl
             refine take_ (i := 23) (N := some 79) (v := ?_) (a' := ?_) (Bq 26 16777215) rfl rfl (take_ofW HT_.out HW_.out (by kernel_rfl)) (fun _ _ _ h => h) (Or.inl ⟨by rfl, ?_⟩) hHeld ?_ ?_; rotate_left
             ·rintro w' ⟨s0, s1, s2, s3, s4, s5, s6, s7⟩; go_simp; with_reducible rfl
             rotate_left
             ·simp only [Act.put, Xj, Xk, Xl, i64_w, i32_w]; rfl
             refine pure_ (i := 24) (N := some 80) (v := ?_) (a' := ?_) (Bq 26 33554431) rfl rfl (any_of HT_.out (by kernel_rfl)) (fun _ _ _ h => h) (Or.inl ⟨by rfl, ?_⟩) ?_ ?_; rotate_left
             ·intro w'; go_simp; with_reducible rfl
             rotate_left
             ·simp only [Act.put, Xj, Xk, Xl, i64_w, i32_w]; rfl
             refine pure_ (i := 25) (N := some 81) (v := ?_) (a' := ?_) (Bq 26 67108863) rfl rfl (any_of HT_.out (by kernel_rfl)) (fun _ _ _ h => h) (Or.inl ⟨by rfl, ?_⟩) ?_ ?_; rotate_left
             ·intro w'; go_simp; with_reducible rfl
             rotate_left
             ·simp only [Act.put, Xj, Xk, Xl, i64_w, i32_w]; rfl
             refine done_ (done_of HT_.out (by kernel_rfl)) ?_; try go_wp2
             go_roundg k2
             case measure => have := HK1.out; have := HK2.out; omega
             case rel => exact ⟨(wrap64 (x12_2 + 1)), (by first | rfl | (simp; done) | (simp [*]; done)), H', ⟨by have := HK1.out; have := HK2.out; omega⟩, ⟨by (with_reducible repeat (first | refine Xf ?_ _ | refine Xg ?_ | refine Xe ?_ _)); exact J101.out⟩, ⟨by repeat (first | (with_reducible first | exact HB.out | apply Xc | apply Xa | apply Xb | refine Xd ?_ E101.out) | exact HB.out)⟩⟩
          ·rw [if_neg c20] at H; exact absurd H (by simp)
         ·rw [if_neg c19] at H; exact absurd H (by simp)
        ·rw [if_neg c17] at H; exact absurd H (by simp)
       ·rw [if_neg c16] at H; have c16b0 : decide (x12_2 < (l3.length : Int)) = false := decide_eq_false c16; clear c16; have H' := XB H; clear H; have hcz26_0 : wr.cell? ⟨gb101, 0, none⟩ = some (.int .i64 a2_0) := (Xi J101.out 0).trans rfl; have hcz26_1 : wr.cell? ⟨gb101, 1, none⟩ = some (.int .i64 a2_1) := (Xi J101.out 1).trans rfl; have hcz26_2 : wr.cell? ⟨gb101, 2, none⟩ = some (.int .i64 a2_2) := (Xi J101.out 2).trans rfl; have hfz26_0 := Xh J101.out 0; have hfz26_1 := Xh J101.out 1; have hfz26_2 := Xh J101.out 2; go_wp2
        go_loopg [13, 14] k2 (fun kq v13 v14 w' => ∃ (x13_3 : Int) (x14_3 : Int), v13 = .int .i64 x13_3 ∧ v14 = .int .i64 x14_3 ∧ Aside0 (diaphoneref06_CheckPairs.l2 kq l0 l1 l3 x13_3 x14_3 a2_0 a2_1 a2_2 = some (r1, r2)) ∧ Aside0 (kq ≤ k2) ∧ Aside0 (w'.heap[gb101]? = some (.cells #[.int .i64 a2_0, .int .i64 a2_1, .int .i64 a2_2] 24 (0, 0))) ∧ Aside0 (Below w.heap.size w w'))
        case atStart => exact ⟨(wrap64 ((wrap64 (a2_0 * (wrap64 ((l0.length : Int) - (l3.length : Int))))) + (wrap64 (a2_1 * (wrap64 ((l1.length : Int) - (l3.length : Int))))))), (0), (by first | rfl | (simp; done) | (simp [*]; done)), (by first | rfl | (simp; done) | (simp [*]; done)), H', ⟨Nat.le_refl _⟩, ⟨by (with_reducible repeat (first | refine Xf ?_ _ | refine Xg ?_ | refine Xe ?_ _)); exact J101.out⟩, ⟨by repeat (first | (with_reducible first | exact HB.out | apply Xc | apply Xa | apply Xb | refine Xd ?_ E101.out) | exact HB.out)⟩⟩
        case round =>
         clear H'; try clear c1
         try clear p1
         try clear q1
         try clear hx1
         try clear c2
         try clear p2
         try clear p6
         try clear p10
         try clear q10
         try clear hx10
         try clear p11
         try clear q11
         try clear hx11
         try clear c16
         try clear c16b0
         try clear c17
         try clear c19
         try clear c20
         try clear c21
         try clear c21b0
         try clear c23
         try clear c23b0
         try clear hcz26_0
         try clear hcz26_1
         try clear hcz26_2
         try clear hfz26_0
         try clear hfz26_1
         try clear hfz26_2
         try clear hx107_0
         try clear hx107_1
         try clear hx108_0
         try clear hx108_1
         try clear hx109_0
         try clear hx109_1
         try clear hx110_0
         try clear hx110_1
         try clear p107
         try clear p108
         try clear p109
         try clear p110
         try clear q107
         try clear q108
         try clear q109
         try clear q110
         obtain ⟨x13_3, x14_3, rfl, rfl, HA, HK3, J101, HB⟩ := hrel
         cases gk with
         | zero => exact absurd HA.out (by simp [diaphoneref06_CheckPairs.l2])
         | succ k3 =>
          have H := HA.out; clear HA; simp only [diaphoneref06_CheckPairs.l2] at H; by_cases c27 : x14_3 < (l3.length : Int)
          ·rw [if_pos c27] at H; have c27b0 : decide (x14_3 < (l3.length : Int)) = true := decide_eq_true c27; clear c27; by_cases c28 : 0 ≤ x14_3
           ·rw [if_pos c28] at H; have c28b0 : decide (0 ≤ x14_3) = true := decide_eq_true c28; clear c28; by_cases c29 : 0 ≤ ((rd_T65 l3 x14_3).f0)
            ·rw [if_pos c29] at H; have c29b0 : decide (0 ≤ ((rd_T65 l3 x14_3).f0)) = true := decide_eq_true c29; clear c29; by_cases c30 : ((rd_T65 l3 x14_3).f0) < (l0.length : Int)
             ·rw [if_pos c30] at H; have c30b0 : decide (((rd_T65 l3 x14_3).f0) < (l0.length : Int)) = true := decide_eq_true c30; clear c30; by_cases c31 : 0 ≤ ((rd_T65 l3 x14_3).f1)
              ·rw [if_pos c31] at H; have c31b0 : decide (0 ≤ ((rd_T65 l3 x14_3).f1)) = true := decide_eq_true c31; clear c31; by_cases c32 : ((rd_T65 l3 x14_3).f1) < (l1.length : Int)
               ·rw [if_pos c32] at H; have c32b0 : decide (((rd_T65 l3 x14_3).f1) < (l1.length : Int)) = true := decide_eq_true c32; clear c32; replace H := Option.bind_eq_some_iff.mp H; obtain ⟨t115, A330, H⟩ := H; replace H : (diaphoneref06_CheckPairs.l2 k3 l0 l1 l3 (wrap64 (x13_3 + t115)) (wrap64 (x14_3 + 1)) a2_0 a2_1 a2_2) = some (r1, r2) := H; have A33 := XB A330; clear A330; have H' := XB H; clear H; try go_wp2
                have n0_ := XB (Xg J101.out); have n1_ := XB (Xb HB.out); clear J101; clear HB; have J101 := n0_; have HB := n1_; clear n0_ n1_; have p111 : 0 ≤ (x14_3 : Int) := of_decide_eq_true (by first | (with_reducible assumption) | assumption); have q111 : x14_3 < (l3.length : Int) := of_decide_eq_true (by first | (with_reducible assumption) | assumption); obtain ⟨ad111, e111, hx111_0, hx111_1⟩ := at_T65 HR3.out x14_3 p111 q111; have hw111_1 := hx111_1; have hw111_0 := hx111_0
                cases e111
                replace hx111_0 := (HB.out.cell (World.block_lt_of_cell? w _ hx111_0)).trans hx111_0; replace hx111_1 := (HB.out.cell (World.block_lt_of_cell? w _ hx111_1)).trans hx111_1; replace p111 := eq_true p111; replace q111 := eq_true q111; have p112 : 0 ≤ (((rd_T65 l3 x14_3).f0) : Int) := of_decide_eq_true (by first | (with_reducible assumption) | assumption); have q112 : ((rd_T65 l3 x14_3).f0) < (l0.length : Int) := of_decide_eq_true (by first | (with_reducible assumption) | assumption); obtain ⟨ad112, e112, hx112_0⟩ := Kd.at_int HR0.out ((rd_T65 l3 x14_3).f0) p112 q112; have hw112_0 := hx112_0
                cases e112
                replace hx112_0 := (HB.out.cell (World.block_lt_of_cell? w _ hx112_0)).trans hx112_0; replace p112 := eq_true p112; replace q112 := eq_true q112; have p113 : 0 ≤ (x14_3 : Int) := of_decide_eq_true (by first | (with_reducible assumption) | assumption); have q113 : x14_3 < (l3.length : Int) := of_decide_eq_true (by first | (with_reducible assumption) | assumption); obtain ⟨ad113, e113, hx113_0, hx113_1⟩ := at_T65 HR3.out x14_3 p113 q113; have hw113_1 := hx113_1; have hw113_0 := hx113_0; obtain rfl : ad111 = ad113 := (by injection e113); replace hx113_0 := (HB.out.cell (World.block_lt_of_cell? w _ hx113_0)).trans hx113_0; replace hx113_1 := (HB.out.cell (World.block_lt_of_cell? w _ hx113_1)).trans hx113_1; replace p113 := eq_true p113; replace q113 := eq_true q113; have p114 : 0 ≤ (((rd_T65 l3 x14_3).f1) : Int) := of_decide_eq_true (by first | (with_reducible assumption) | assumption); have q114 : ((rd_T65 l3 x14_3).f1) < (l1.length : Int) := of_decide_eq_true (by first | (with_reducible assumption) | assumption); obtain ⟨ad114, e114, hx114_0⟩ := Kd.at_int HR1.out ((rd_T65 l3 x14_3).f1) p114 q114; have hw114_0 := hx114_0
                cases e114
                replace hx114_0 := (HB.out.cell (World.block_lt_of_cell? w _ hx114_0)).trans hx114_0; replace p114 := eq_true p114; replace q114 := eq_true q114; refine start_ (n := 21) (S := fun w' => w'.cell? ⟨gb101, 0, none⟩ = some (.int .i64 a2_0) ∧ w'.cell? ⟨gb101, 1, none⟩ = some (.int .i64 a2_1) ∧ w'.cell? ⟨gb101, 2, none⟩ = some (.int .i64 a2_2) ∧ w'.cell? (ad111.add ((x14_3).toNat * 2)) = some (.int .i64 ((rd_T65 l3 x14_3).f0)) ∧ w'.cell? ⟨(ad111.add ((x14_3).toNat * 2)).block, (ad111.add ((x14_3).toNat * 2)).off + 1, none⟩ = some (.int .i64 ((rd_T65 l3 x14_3).f1)) ∧ w'.cell? (ad112.add (((rd_T65 l3 x14_3).f0)).toNat) = some (.int .i64 (rd l0 ((rd_T65 l3 x14_3).f0))) ∧ w'.cell? (ad111.add ((x14_3).toNat * 2)) = some (.int .i64 ((rd_T65 l3 x14_3).f0)) ∧ w'.cell? ⟨(ad111.add ((x14_3).toNat * 2)).block, (ad111.add ((x14_3).toNat * 2)).off + 1, none⟩ = some (.int .i64 ((rd_T65 l3 x14_3).f1)) ∧ w'.cell? (ad114.add (((rd_T65 l3 x14_3).f1)).toNat) = some (.int .i64 (rd l1 ((rd_T65 l3 x14_3).f1)))) (ds := []) #[false, false, false, false, false, false, false, false, false, false, false, false, false, false, false, false, false, false, false, false, false] (by kernel_rfl) rfl rfl ⟨(Xi J101.out 0).trans rfl, (Xi J101.out 1).trans rfl, (Xi J101.out 2).trans rfl, ((HB.out.cell (World.block_lt_of_cell? w _ hw111_0)).trans hw111_0), ((HB.out.cell (World.block_lt_of_cell? w _ hw111_1)).trans hw111_1), ((HB.out.cell (World.block_lt_of_cell? w _ hw112_0)).trans hw112_0), ((HB.out.cell (World.block_lt_of_cell? w _ hw113_0)).trans hw113_0), ((HB.out.cell (World.block_lt_of_cell? w _ hw113_1)).trans hw113_1), ((HB.out.cell (World.block_lt_of_cell? w _ hw114_0)).trans hw114_0)⟩ (fun hHeld => ?_); refine with_tabW diaphoneref06_CheckPairs.tab18 diaphoneref06_CheckPairs.bits18 (fun HT_ HW_ => ?_)
                generalize wr.drew = w34 at J101 HB hx111_0 hx111_1 hx112_0 hx113_0 hx113_1 hx114_0 hHeld ⊢
                refine pure_ (i := 0) (N := some 105) (v := ?_) (a' := ?_) (Bq 21 1) rfl rfl (any_of HT_.out (by kernel_rfl)) (fun _ _ _ h => h) (Or.inl ⟨by rfl, ?_⟩) ?_ ?_; rotate_left
                ·intro w'; go_simp; with_reducible rfl
                rotate_left
                ·simp only [Act.put, Xj, Xk, Xl, i64_w, i32_w]; rfl
                refine pure_ (i := 1) (N := some 106) (v := ?_) (a' := ?_) (Bq 21 3) rfl rfl (any_of HT_.out (by kernel_rfl)) (fun _ _ _ h => h) (Or.inl ⟨by rfl, ?_⟩) ?_ ?_; rotate_left
                ·intro w'; go_simp; with_reducible rfl
                rotate_left
                ·simp only [Act.put, Xj, Xk, Xl, i64_w, i32_w]; rfl
                refine pure_ (i := 2) (N := some 107) (v := ?_) (a' := ?_) (Bq 21 7) rfl rfl (any_of HT_.out (by kernel_rfl)) (fun _ _ _ h => h) (Or.inl ⟨by rfl, ?_⟩) ?_ ?_; rotate_left
                ·intro w'; go_simp; with_reducible rfl
                rotate_left
                ·simp only [Act.put, Xj, Xk, Xl, i64_w, i32_w]; rfl
                refine pure_ (i := 3) (N := some 108) (v := ?_) (a' := ?_) (Bq 21 15) rfl rfl (any_of HT_.out (by kernel_rfl)) (fun _ _ _ h => h) (Or.inl ⟨by rfl, ?_⟩) ?_ ?_; rotate_left
                ·intro w'; go_simp; with_reducible rfl
                rotate_left
                ·simp only [Act.put, Xj, Xk, Xl, i64_w, i32_w]; rfl
                refine pure_ (i := 4) (N := some 109) (v := ?_) (a' := ?_) (Bq 21 31) rfl rfl (any_of HT_.out (by kernel_rfl)) (fun _ _ _ h => h) (Or.inl ⟨by rfl, ?_⟩) ?_ ?_; rotate_left
                ·intro w'; go_simp; with_reducible rfl
                rotate_left
                ·simp only [Act.put, Xj, Xk, Xl, i64_w, i32_w]; rfl
                refine pure_ (i := 5) (N := some 110) (v := ?_) (a' := ?_) (Bq 21 63) rfl rfl (any_of HT_.out (by kernel_rfl)) (fun _ _ _ h => h) (Or.inl ⟨by rfl, ?_⟩) ?_ ?_; rotate_left
                ·intro w'; go_simp; with_reducible rfl
                rotate_left
                ·simp only [Act.put, Xj, Xk, Xl, i64_w, i32_w]; rfl
                refine pure_ (i := 9) (N := some 114) (v := ?_) (a' := ?_) (Bq 21 575) rfl rfl (any_of HT_.out (by kernel_rfl)) (fun _ _ _ h => h) (Or.inl ⟨by rfl, ?_⟩) ?_ ?_; rotate_left
                ·intro w'; go_simp; with_reducible rfl
                rotate_left
                ·simp only [Act.put, Xj, Xk, Xl, i64_w, i32_w]; rfl
                refine pure_ (i := 10) (N := some 115) (v := ?_) (a' := ?_) (Bq 21 1599) rfl rfl (any_of HT_.out (by kernel_rfl)) (fun _ _ _ h => h) (Or.inl ⟨by rfl, ?_⟩) ?_ ?_; rotate_left
                ·intro w'; go_simp; with_reducible rfl
                rotate_left
                ·simp only [Act.put, Xj, Xk, Xl, i64_w, i32_w]; rfl
                refine pure_ (i := 11) (N := some 116) (v := ?_) (a' := ?_) (Bq 21 3647) rfl rfl (any_of HT_.out (by kernel_rfl)) (fun _ _ _ h => h) (Or.inl ⟨by rfl, ?_⟩) ?_ ?_; rotate_left
                ·intro w'; go_simp; with_reducible rfl
                rotate_left
                ·simp only [Act.put, Xj, Xk, Xl, i64_w, i32_w]; rfl
                refine pure_ (i := 12) (N := some 117) (v := ?_) (a' := ?_) (Bq 21 7743) rfl rfl (any_of HT_.out (by kernel_rfl)) (fun _ _ _ h => h) (Or.inl ⟨by rfl, ?_⟩) ?_ ?_; rotate_left
                ·intro w'; go_simp; with_reducible rfl
                rotate_left
                ·simp only [Act.put, Xj, Xk, Xl, i64_w, i32_w]; rfl
                refine pure_ (i := 13) (N := some 118) (v := ?_) (a' := ?_) (Bq 21 15935) rfl rfl (any_of HT_.out (by kernel_rfl)) (fun _ _ _ h => h) (Or.inl ⟨by rfl, ?_⟩) ?_ ?_; rotate_left
                ·intro w'; go_simp; with_reducible rfl
                rotate_left
                ·simp only [Act.put, Xj, Xk, Xl, i64_w, i32_w]; rfl
                refine take_ (i := 6) (N := some 111) (v := ?_) (a' := ?_) (Bq 21 15999) rfl rfl (take_ofW HT_.out HW_.out (by kernel_rfl)) (fun _ _ _ h => h) (Or.inl ⟨by rfl, ?_⟩) hHeld ?_ ?_; rotate_left
                ·rintro w' ⟨s0, s1, s2, s3, s4, s5, s6, s7, s8⟩; go_simp; with_reducible rfl
                rotate_left
                ·simp only [Act.put, Xj, Xk, Xl, i64_w, i32_w]; rfl
                refine pure_ (i := 7) (N := some 112) (v := ?_) (a' := ?_) (Bq 21 16127) rfl rfl (any_of HT_.out (by kernel_rfl)) (fun _ _ _ h => h) (Or.inl ⟨by rfl, ?_⟩) ?_ ?_; rotate_left
                ·intro w'; go_simp; with_reducible rfl
                rotate_left
                ·simp only [Act.put, Xj, Xk, Xl, i64_w, i32_w]; rfl
                refine take_ (i := 8) (N := some 113) (v := ?_) (a' := ?_) (Bq 21 16383) rfl rfl (take_ofW HT_.out HW_.out (by kernel_rfl)) (fun _ _ _ h => h) (Or.inl ⟨by rfl, ?_⟩) hHeld ?_ ?_; rotate_left
                ·rintro w' ⟨s0, s1, s2, s3, s4, s5, s6, s7, s8⟩; go_simp; with_reducible rfl
                rotate_left
                ·simp only [Act.put, Xj, Xk, Xl, i64_w, i32_w]; rfl
                refine take_ (i := 14) (N := some 119) (v := ?_) (a' := ?_) (Bq 21 32767) rfl rfl (take_ofW HT_.out HW_.out (by kernel_rfl)) (fun _ _ _ h => h) (Or.inl ⟨by rfl, ?_⟩) hHeld ?_ ?_; rotate_left
                ·rintro w' ⟨s0, s1, s2, s3, s4, s5, s6, s7, s8⟩; go_simp; with_reducible rfl
                rotate_left
                ·simp only [Act.put, Xj, Xk, Xl, i64_w, i32_w]; rfl
                refine pure_ (i := 15) (N := some 120) (v := ?_) (a' := ?_) (Bq 21 65535) rfl rfl (any_of HT_.out (by kernel_rfl)) (fun _ _ _ h => h) (Or.inl ⟨by rfl, ?_⟩) ?_ ?_; rotate_left
                ·intro w'; go_simp; with_reducible rfl
                rotate_left
                ·simp only [Act.put, Xj, Xk, Xl, i64_w, i32_w]; rfl
                refine take_ (i := 16) (N := some 121) (v := ?_) (a' := ?_) (Bq 21 131071) rfl rfl (take_ofW HT_.out HW_.out (by kernel_rfl)) (fun _ _ _ h => h) (Or.inl ⟨by rfl, ?_⟩) hHeld ?_ ?_; rotate_left
                ·rintro w' ⟨s0, s1, s2, s3, s4, s5, s6, s7, s8⟩; go_simp; with_reducible rfl
                rotate_left
                ·simp only [Act.put, Xj, Xk, Xl, i64_w, i32_w]; rfl
                refine take_ (i := 17) (N := some 122) (v := ?_) (a' := ?_) (Bq 21 262143) rfl rfl (take_ofW HT_.out HW_.out (by kernel_rfl)) (fun _ _ _ h => h) (Or.inl ⟨by rfl, ?_⟩) hHeld ?_ ?_; rotate_left
                ·rintro w' ⟨s0, s1, s2, s3, s4, s5, s6, s7, s8⟩; go_simp; with_reducible rfl
                rotate_left
                ·simp only [Act.put, Xj, Xk, Xl, i64_w, i32_w]; rfl
                refine one_ (i := 18) (N := some 123) (Bq 21 524287) rfl rfl (one_of HT_.out (by kernel_rfl)) (by decide) (fun K hK => ?_); refine goes_ Try.func68 (by kernel_rfl) rfl #[.int .i64 (rd l0 ((rd_T65 l3 x14_3).f0)), .int .i64 (rd l1 ((rd_T65 l3 x14_3).f1)), .agg #[.int .i64 a2_0, .int .i64 a2_1, .int .i64 a2_2]] (by rfl) rfl rfl (by (try simp only [Xm, Xn, Xo]); first | done | rfl | (simp only [Xp, Xq]; rfl)) ?_; with_reducible refine (diaphoneref06_change.calls (rd l0 ((rd_T65 l3 x14_3).f0)) (rd l1 ((rd_T65 l3 x14_3).f1)) a2_0 a2_1 a2_2 t115 _ A33.out).mono ?_
                rintro e w35 ⟨rfl, hb⟩; refine ⟨_, rfl, ?_⟩; have n0_ := XB (XA (g := gb101) (o := .cells #[.int .i64 a2_0, .int .i64 a2_1, .int .i64 a2_2] 24 (0, 0)) (by (with_reducible repeat (first | refine Xf ?_ _ | refine Xg ?_ | refine Xe ?_ _)); exact J101.out) hb); have n1_ := XB (Xz (by repeat (first | (with_reducible first | exact HB.out | apply Xc | apply Xa | apply Xb | refine Xd ?_ E101.out) | exact HB.out)) hb); clear J101; clear HB; have J101 := n0_; have HB := n1_; clear n0_ n1_; (try clear hb)
                (try clear hb2)
                (try clear hk)
                (try clear hi)
                refine hK.out _ _ ⟨(Xi J101.out 0).trans rfl, (Xi J101.out 1).trans rfl, (Xi J101.out 2).trans rfl, ((HB.out.cell (World.block_lt_of_cell? w _ hw111_0)).trans hw111_0), ((HB.out.cell (World.block_lt_of_cell? w _ hw111_1)).trans hw111_1), ((HB.out.cell (World.block_lt_of_cell? w _ hw112_0)).trans hw112_0), ((HB.out.cell (World.block_lt_of_cell? w _ hw113_0)).trans hw113_0), ((HB.out.cell (World.block_lt_of_cell? w _ hw113_1)).trans hw113_1), ((HB.out.cell (World.block_lt_of_cell? w _ hw114_0)).trans hw114_0)⟩ (fun hHeld => ?_); clear hK K; refine norm_ (a' := ?_) ?_ ?_; rotate_left
                ·show Act.put _ (some 123) _ = _
                 simp only [Act.put, Xj, Xk, Xl, i64_w, i32_w]; rfl
                refine pure_ (i := 19) (N := some 124) (v := ?_) (a' := ?_) (Bq 21 1048575) rfl rfl (any_of HT_.out (by kernel_rfl)) (fun _ _ _ h => h) (Or.inl ⟨by rfl, ?_⟩) ?_ ?_; rotate_left
                ·intro w'; go_simp; with_reducible rfl
                rotate_left
                ·simp only [Act.put, Xj, Xk, Xl, i64_w, i32_w]; rfl
                refine pure_ (i := 20) (N := some 13) (v := ?_) (a' := ?_) (Bq 21 2097151) rfl rfl (any_of HT_.out (by kernel_rfl)) (fun _ _ _ h => h) (Or.inl ⟨by rfl, ?_⟩) ?_ ?_; rotate_left
                ·intro w'; go_simp; with_reducible rfl
                rotate_left
                ·simp only [Act.put, Xj, Xk, Xl, i64_w, i32_w]; rfl
                refine done_ (done_of HT_.out (by kernel_rfl)) ?_; try go_wp2
                go_roundg k3
                case measure => have := HK1.out; have := HK2.out; have := HK3.out; omega
                case rel => exact ⟨(wrap64 (x13_3 + t115)), (wrap64 (x14_3 + 1)), (by first | rfl | (simp; done) | (simp [*]; done)), (by first | rfl | (simp; done) | (simp [*]; done)), H', ⟨by have := HK1.out; have := HK2.out; have := HK3.out; omega⟩, ⟨by (with_reducible repeat (first | refine Xf ?_ _ | refine Xg ?_ | refine Xe ?_ _)); exact J101.out⟩, ⟨by repeat (first | (with_reducible first | exact HB.out | apply Xc | apply Xa | apply Xb | refine Xd ?_ E101.out) | exact HB.out)⟩⟩
               ·rw [if_neg c32] at H; exact absurd H (by simp)
              ·rw [if_neg c31] at H; exact absurd H (by simp)
             ·rw [if_neg c30] at H; exact absurd H (by simp)
            ·rw [if_neg c29] at H; exact absurd H (by simp)
           ·rw [if_neg c28] at H; exact absurd H (by simp)
          ·rw [if_neg c27] at H; have c27b0 : decide (x14_3 < (l3.length : Int)) = false := decide_eq_false c27; clear c27; simp only [Option.some.injEq, Prod.mk.injEq] at H; obtain ⟨rfl, rfl⟩ := H; go_wp2
           go_ret2
           exact ⟨by first | rfl | (simp [errW_none, errW_some] <;> rfl) | (simp [*, errW_none, errW_some] <;> rfl), by repeat (first | (with_reducible first | exact HB.out | apply Xc | apply Xa | apply Xb | refine Xd ?_ E101.out) | exact HB.out)⟩
 ·rw [if_neg c6] at H; have c6b0 : (t102 == 0) = false := beq_eq_false_iff_ne.mpr c6; have c6b1 : (t102 != 0) = true := bne_iff_ne.mpr c6; simp only [Option.some.injEq, Prod.mk.injEq] at H; obtain ⟨rfl, rfl⟩ := H; go_enter Try.func30, Try.ntmps30
  go_wp2_with (first | ((with_reducible refine gate_dst (N := 6) rfl ?_); (try (refine gate_guard (by rfl) ?_; dsimp only)); refine box_event ?hg (N := 6) ?hd (cs := #[.int .i64 a2_0, .int .i64 a2_1, .int .i64 a2_2]) (t := 24) ?hr ?_; (case hd => rfl); (case hg => rfl); (case hr => first | (go_simp; done) | (go_simp; rfl)); intro gb101 hg w36 hbox hb; have n0_ := XB (Xz (by repeat (first | (with_reducible first | exact HB.out | apply Xc | apply Xa | apply Xb) | exact HB.out)) hb); have n1_ := XB (hbox); have n2_ := XB ((by rw [hg]; exact (XC (by repeat (first | (with_reducible first | exact HB.out | apply Xc | apply Xa | apply Xb) | exact HB.out))) : w.heap.size ≤ gb101)); have n3_ := XB ((by rw [hg]; exact (XC (by repeat (first | (with_reducible first | exact HB.out | apply Xc | apply Xa | apply Xb) | exact HB.out))) : w.heap.size ≤ gb101)); clear HB; have HB := n0_; have J101 := n1_; have GW101 := n2_; have E101 := n3_; clear n0_ n1_ n2_ n3_; clear hb hbox hg; have hcz37_0 : w36.cell? ⟨gb101, 0, none⟩ = some (.int .i64 a2_0) := (Xi J101.out 0).trans rfl; have hcz37_1 : w36.cell? ⟨gb101, 1, none⟩ = some (.int .i64 a2_1) := (Xi J101.out 1).trans rfl; have hcz37_2 : w36.cell? ⟨gb101, 2, none⟩ = some (.int .i64 a2_2) := (Xi J101.out 2).trans rfl; have hfz37_0 := Xh J101.out 0; have hfz37_1 := Xh J101.out 1; have hfz37_2 := Xh J101.out 2) | ((with_reducible refine gate_callee (f := 59) rfl ?_); refine goesL_ (some 18) rfl rfl Try.func59 (by kernel_rfl) rfl #[.slice A0 l0.length c0, .slice A1 l1.length c1, .agg #[.int .i64 a2_0, .int .i64 a2_1, .int .i64 a2_2]] rfl (by (try simp only [Xm, Xn, Xo]); first | done | rfl | (simp only [Xp, Xq]; rfl)) ?_; (with_reducible refine (diaphoneref06_costed.calls k _ _ l0 _ _ l1 a2_0 a2_1 a2_2 t102 _ ?side1 ?side2 ?side3 ?side4 A5.out).mono ?_); (case side1 => repeat (first | exact (Xu HR0.out HB.out) | (with_reducible refine Xr ?_ _) | (with_reducible refine Xs ?_ _) | (with_reducible refine Xt ?_))); (case side2 => exact HC0.out); (case side3 => repeat (first | exact (Xu HR1.out HB.out) | (with_reducible refine Xr ?_ _) | (with_reducible refine Xs ?_ _) | (with_reducible refine Xt ?_))); (case side4 => exact HC1.out); rintro e w38 ⟨rfl, hb⟩; refine ⟨_, rfl, ?_⟩; have n0_ := XB (XA (g := gb101) (o := .cells #[.int .i64 a2_0, .int .i64 a2_1, .int .i64 a2_2] 24 (0, 0)) (by (with_reducible repeat (first | refine Xf ?_ _ | refine Xg ?_ | refine Xe ?_ _)); exact J101.out) hb); have n1_ := XB (Xz (by repeat (first | (with_reducible first | exact HB.out | apply Xc | apply Xa | apply Xb | refine Xd ?_ E101.out) | exact HB.out)) hb); clear J101; clear HB; have J101 := n0_; have HB := n1_; clear n0_ n1_; (try clear hb); (try clear hb2); (try clear hk); (try clear hi)))
  go_ret2
  exact ⟨by first | rfl | (simp [errW_none, errW_some] <;> rfl) | (simp [*, errW_none, errW_some] <;> rfl), by repeat (first | (with_reducible first | exact HB.out | apply Xc | apply Xa | apply Xb | refine Xd ?_ E101.out) | exact HB.out)⟩

end Go.Proofs.Ytcbepmdnhjojdaa.P
