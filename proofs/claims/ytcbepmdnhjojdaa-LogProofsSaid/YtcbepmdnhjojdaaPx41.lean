-- laid by a program of this session (wip/tools): plain functions of the Go code and their contracts
-- thinned
import Derived.Test.YtcbepmdnhjojdaaPx0
import Derived.Test.YtcbepmdnhjojdaaPx8
namespace Go.Proofs.Ytcbepmdnhjojdaa.P
open Go.RowKit Go.Proofs.YtcbepmdnhjojdaaW.PrintWords Go.Proofs.YtcbepmdnhjojdaaW.PrintLast Go.Proofs.YtcbepmdnhjojdaaW.PrintMore
attribute [local go_sem] max2_int min2_int max_two min_two max_three min_three max_four min_four   -- for this text's walks alone
set_option linter.unusedVariables false
set_option linter.unusedSimpArgs false

/-! ### diaphoneref06_ends: function 60 -/
mutual
def diaphoneref06_ends.l0 : Nat → List Int → List Int → List (List Int) → List (List Int) → Int → Int → Int → Int → Option ((List (List Int)) × (List (List Int)))
 | 0, _, _, _, _, _, _, _, _ => none
 | k + 1, x0, x1, x8, x9, x10, x102000, x102001, x102002 => if x10 ≤ (x0.length : Int) then (if 0 ≤ (wrap64 ((x1.length : Int) + 1)) then (if (wrap64 ((x1.length : Int) + 1) : Int).toNat ≤ 35184372088832 then (if x8.length < 5864062014805 then (if x9.length < 5864062014805 then (diaphoneref06_ends.l0 k x0 x1 (x8 ++ [(List.replicate (wrap64 ((x1.length : Int) + 1) : Int).toNat 0)]) (x9 ++ [(List.replicate (wrap64 ((x1.length : Int) + 1) : Int).toNat 0)]) (wrap64 (x10 + 1)) x102000 x102001 x102002) else (none)) else (none)) else (none)) else (none)) else (diaphoneref06_ends.l1 k x0 x1 x8 x9 (x0.length : Int) x102000 x102001 x102002)
def diaphoneref06_ends.l1 : Nat → List Int → List Int → List (List Int) → List (List Int) → Int → Int → Int → Int → Option ((List (List Int)) × (List (List Int)))
 | 0, _, _, _, _, _, _, _, _ => none
 | k + 1, x0, x1, x8, x9, x11, x102000, x102001, x102002 => if x11 ≥ 0 then (diaphoneref06_ends.l2 k x0 x1 x8 x9 x11 (x1.length : Int) x102000 x102001 x102002) else (some (x8, x9))
def diaphoneref06_ends.l2 : Nat → List Int → List Int → List (List Int) → List (List Int) → Int → Int → Int → Int → Int → Option ((List (List Int)) × (List (List Int)))
 | 0, _, _, _, _, _, _, _, _, _ => none
 | k + 1, x0, x1, x8, x9, x11, x12, x102000, x102001, x102002 => if x12 ≥ 0 then (diaphoneref06_ends.l3 k x0 x1 x8 x9 x11 x12 (wrap64 ((wrap64 (x102000 * (wrap64 ((x0.length : Int) - x11)))) + (wrap64 (x102001 * (wrap64 ((x1.length : Int) - x12)))))) 1 x11 x102000 x102001 x102002) else (diaphoneref06_ends.l1 k x0 x1 x8 x9 (wrap64 (x11 - 1)) x102000 x102001 x102002)
def diaphoneref06_ends.l3 : Nat → List Int → List Int → List (List Int) → List (List Int) → Int → Int → Int → Int → Int → Int → Int → Int → Option ((List (List Int)) × (List (List Int)))
 | 0, _, _, _, _, _, _, _, _, _, _, _, _ => none
 | k + 1, x0, x1, x8, x9, x11, x12, x13, x14, x15, x102000, x102001, x102002 => if x15 < (x0.length : Int) then (diaphoneref06_ends.l4 k x0 x1 x8 x9 x11 x12 x13 x14 x15 x12 x102000 x102001 x102002) else (if 0 ≤ x11 then (if x11 < (x8.length : Int) then (if 0 ≤ x12 then (if x12 < ((rd_L1 x8 x11).length : Int) then (if x11 < (x9.length : Int) then (if x12 < ((rd_L1 x9 x11).length : Int) then (diaphoneref06_ends.l2 k x0 x1 (x8.set (x11 : Int).toNat ((rd_L1 x8 x11).set (x12 : Int).toNat x13)) (x9.set (x11 : Int).toNat ((rd_L1 x9 x11).set (x12 : Int).toNat x14)) x11 (wrap64 (x12 - 1)) x102000 x102001 x102002) else (none)) else (none)) else (none)) else (none)) else (none)) else (none))
def diaphoneref06_ends.l4 : Nat → List Int → List Int → List (List Int) → List (List Int) → Int → Int → Int → Int → Int → Int → Int → Int → Int → Option ((List (List Int)) × (List (List Int)))
 | 0, _, _, _, _, _, _, _, _, _, _, _, _, _ => none
 | k + 1, x0, x1, x8, x9, x11, x12, x13, x14, x15, x16, x102000, x102001, x102002 => if x16 < (x1.length : Int) then (if 0 ≤ x15 then (if x15 < (x0.length : Int) then (if 0 ≤ x16 then ((diaphoneref06_change.f (rd x0 x15) (rd x1 x16) x102000 x102001 x102002).bind fun t124 => (if 0 ≤ (wrap64 (x15 + 1)) then (if (wrap64 (x15 + 1)) < (x8.length : Int) then (if 0 ≤ (wrap64 (x16 + 1)) then (if (wrap64 (x16 + 1)) < ((rd_L1 x8 (wrap64 (x15 + 1))).length : Int) then (if (wrap64 ((wrap64 ((wrap64 ((wrap64 (x102000 * (wrap64 (x15 - x11)))) + (wrap64 (x102001 * (wrap64 (x16 - x12)))))) + t124)) + (rd (rd_L1 x8 (wrap64 (x15 + 1))) (wrap64 (x16 + 1))))) < x13 then (if (wrap64 ((wrap64 ((wrap64 ((wrap64 (x102000 * (wrap64 (x15 - x11)))) + (wrap64 (x102001 * (wrap64 (x16 - x12)))))) + t124)) + (rd (rd_L1 x8 (wrap64 (x15 + 1))) (wrap64 (x16 + 1))))) = (wrap64 ((wrap64 ((wrap64 ((wrap64 (x102000 * (wrap64 (x15 - x11)))) + (wrap64 (x102001 * (wrap64 (x16 - x12)))))) + t124)) + (rd (rd_L1 x8 (wrap64 (x15 + 1))) (wrap64 (x16 + 1))))) then (if (wrap64 (x15 + 1)) < (x9.length : Int) then (if (wrap64 (x16 + 1)) < ((rd_L1 x9 (wrap64 (x15 + 1))).length : Int) then (diaphoneref06_ends.l4 k x0 x1 x8 x9 x11 x12 (wrap64 ((wrap64 ((wrap64 ((wrap64 (x102000 * (wrap64 (x15 - x11)))) + (wrap64 (x102001 * (wrap64 (x16 - x12)))))) + t124)) + (rd (rd_L1 x8 (wrap64 (x15 + 1))) (wrap64 (x16 + 1))))) (wrap64 (0 + (rd (rd_L1 x9 (wrap64 (x15 + 1))) (wrap64 (x16 + 1))))) x15 (wrap64 (x16 + 1)) x102000 x102001 x102002) else (none)) else (none)) else (diaphoneref06_ends.l4 k x0 x1 x8 x9 x11 x12 (wrap64 ((wrap64 ((wrap64 ((wrap64 (x102000 * (wrap64 (x15 - x11)))) + (wrap64 (x102001 * (wrap64 (x16 - x12)))))) + t124)) + (rd (rd_L1 x8 (wrap64 (x15 + 1))) (wrap64 (x16 + 1))))) 0 x15 (wrap64 (x16 + 1)) x102000 x102001 x102002)) else (if (wrap64 ((wrap64 ((wrap64 ((wrap64 (x102000 * (wrap64 (x15 - x11)))) + (wrap64 (x102001 * (wrap64 (x16 - x12)))))) + t124)) + (rd (rd_L1 x8 (wrap64 (x15 + 1))) (wrap64 (x16 + 1))))) = x13 then (if (wrap64 (x15 + 1)) < (x9.length : Int) then (if (wrap64 (x16 + 1)) < ((rd_L1 x9 (wrap64 (x15 + 1))).length : Int) then (diaphoneref06_ends.l4 k x0 x1 x8 x9 x11 x12 x13 (wrap64 (x14 + (rd (rd_L1 x9 (wrap64 (x15 + 1))) (wrap64 (x16 + 1))))) x15 (wrap64 (x16 + 1)) x102000 x102001 x102002) else (none)) else (none)) else (diaphoneref06_ends.l4 k x0 x1 x8 x9 x11 x12 x13 x14 x15 (wrap64 (x16 + 1)) x102000 x102001 x102002))) else (none)) else (none)) else (none)) else (none))) else (none)) else (none)) else (none)) else (diaphoneref06_ends.l3 k x0 x1 x8 x9 x11 x12 x13 x14 (wrap64 (x15 + 1)) x102000 x102001 x102002)
end
def diaphoneref06_ends.f (k : Nat) (l0 : List Int) (l1 : List Int) (a2_0 : Int) (a2_1 : Int) (a2_2 : Int) : Option ((List (List Int)) × (List (List Int))) := diaphoneref06_ends.l0 k l0 l1 ([] : List (List Int)) ([] : List (List Int)) 0 a2_0 a2_1 a2_2
theorem diaphoneref06_ends.mono_l : ∀ k, (∀ y0 y1 y2 y3 y4 y5 y6 y7, LeO (diaphoneref06_ends.l0 k y0 y1 y2 y3 y4 y5 y6 y7) (diaphoneref06_ends.l0 (k + 1) y0 y1 y2 y3 y4 y5 y6 y7)) ∧ (∀ y0 y1 y2 y3 y4 y5 y6 y7, LeO (diaphoneref06_ends.l1 k y0 y1 y2 y3 y4 y5 y6 y7) (diaphoneref06_ends.l1 (k + 1) y0 y1 y2 y3 y4 y5 y6 y7)) ∧ (∀ y0 y1 y2 y3 y4 y5 y6 y7 y8, LeO (diaphoneref06_ends.l2 k y0 y1 y2 y3 y4 y5 y6 y7 y8) (diaphoneref06_ends.l2 (k + 1) y0 y1 y2 y3 y4 y5 y6 y7 y8)) ∧ (∀ y0 y1 y2 y3 y4 y5 y6 y7 y8 y9 y10 y11, LeO (diaphoneref06_ends.l3 k y0 y1 y2 y3 y4 y5 y6 y7 y8 y9 y10 y11) (diaphoneref06_ends.l3 (k + 1) y0 y1 y2 y3 y4 y5 y6 y7 y8 y9 y10 y11)) ∧ (∀ y0 y1 y2 y3 y4 y5 y6 y7 y8 y9 y10 y11 y12, LeO (diaphoneref06_ends.l4 k y0 y1 y2 y3 y4 y5 y6 y7 y8 y9 y10 y11 y12) (diaphoneref06_ends.l4 (k + 1) y0 y1 y2 y3 y4 y5 y6 y7 y8 y9 y10 y11 y12))
 | 0 => ⟨fun _ _ _ _ _ _ _ _ r h => by simp [diaphoneref06_ends.l0] at h, fun _ _ _ _ _ _ _ _ r h => by simp [diaphoneref06_ends.l1] at h, fun _ _ _ _ _ _ _ _ _ r h => by simp [diaphoneref06_ends.l2] at h, fun _ _ _ _ _ _ _ _ _ _ _ _ r h => by simp [diaphoneref06_ends.l3] at h, fun _ _ _ _ _ _ _ _ _ _ _ _ _ r h => by simp [diaphoneref06_ends.l4] at h⟩
 | k + 1 => by
  obtain ⟨ih0, ih1, ih2, ih3, ih4⟩ := diaphoneref06_ends.mono_l k; refine ⟨?_, ?_, ?_, ?_, ?_⟩
  ·intro y0 y1 y2 y3 y4 y5 y6 y7; unfold diaphoneref06_ends.l0; repeat' first
   | (with_reducible exact ih0 _ _ _ _ _ _ _ _)
   | (with_reducible exact ih1 _ _ _ _ _ _ _ _)
   | (with_reducible exact ih2 _ _ _ _ _ _ _ _ _)
   | (with_reducible exact ih3 _ _ _ _ _ _ _ _ _ _ _ _)
   | (with_reducible exact ih4 _ _ _ _ _ _ _ _ _ _ _ _ _)
   | (with_reducible exact LeO.refl _)
   | (with_reducible exact LeO.none _)
   | (with_reducible refine LeO.ite ?_ ?_)
   | (with_reducible refine LeO.bind ?_ (fun _ => ?_))
   | exact ih0 _ _ _ _ _ _ _ _
   | exact ih1 _ _ _ _ _ _ _ _
   | exact ih2 _ _ _ _ _ _ _ _ _
   | exact ih3 _ _ _ _ _ _ _ _ _ _ _ _
   | exact ih4 _ _ _ _ _ _ _ _ _ _ _ _ _
   | exact LeO.none _
   | refine LeO.ite ?_ ?_
   | refine LeO.bind ?_ (fun _ => ?_)
  ·intro y0 y1 y2 y3 y4 y5 y6 y7; unfold diaphoneref06_ends.l1; repeat' first
   | (with_reducible exact ih0 _ _ _ _ _ _ _ _)
   | (with_reducible exact ih1 _ _ _ _ _ _ _ _)
   | (with_reducible exact ih2 _ _ _ _ _ _ _ _ _)
   | (with_reducible exact ih3 _ _ _ _ _ _ _ _ _ _ _ _)
   | (with_reducible exact ih4 _ _ _ _ _ _ _ _ _ _ _ _ _)
   | (with_reducible exact LeO.refl _)
   | (with_reducible exact LeO.none _)
   | (with_reducible refine LeO.ite ?_ ?_)
   | (with_reducible refine LeO.bind ?_ (fun _ => ?_))
   | exact ih0 _ _ _ _ _ _ _ _
   | exact ih1 _ _ _ _ _ _ _ _
   | exact ih2 _ _ _ _ _ _ _ _ _
   | exact ih3 _ _ _ _ _ _ _ _ _ _ _ _
   | exact ih4 _ _ _ _ _ _ _ _ _ _ _ _ _
   | exact LeO.none _
   | refine LeO.ite ?_ ?_
   | refine LeO.bind ?_ (fun _ => ?_)
  ·intro y0 y1 y2 y3 y4 y5 y6 y7 y8; unfold diaphoneref06_ends.l2; repeat' first
   | (with_reducible exact ih0 _ _ _ _ _ _ _ _)
   | (with_reducible exact ih1 _ _ _ _ _ _ _ _)
   | (with_reducible exact ih2 _ _ _ _ _ _ _ _ _)
   | (with_reducible exact ih3 _ _ _ _ _ _ _ _ _ _ _ _)
   | (with_reducible exact ih4 _ _ _ _ _ _ _ _ _ _ _ _ _)
   | (with_reducible exact LeO.refl _)
   | (with_reducible exact LeO.none _)
   | (with_reducible refine LeO.ite ?_ ?_)
   | (with_reducible refine LeO.bind ?_ (fun _ => ?_))
   | exact ih0 _ _ _ _ _ _ _ _
   | exact ih1 _ _ _ _ _ _ _ _
   | exact ih2 _ _ _ _ _ _ _ _ _
   | exact ih3 _ _ _ _ _ _ _ _ _ _ _ _
   | exact ih4 _ _ _ _ _ _ _ _ _ _ _ _ _
   | exact LeO.none _
   | refine LeO.ite ?_ ?_
   | refine LeO.bind ?_ (fun _ => ?_)
  ·intro y0 y1 y2 y3 y4 y5 y6 y7 y8 y9 y10 y11; unfold diaphoneref06_ends.l3; repeat' first
   | (with_reducible exact ih0 _ _ _ _ _ _ _ _)
   | (with_reducible exact ih1 _ _ _ _ _ _ _ _)
   | (with_reducible exact ih2 _ _ _ _ _ _ _ _ _)
   | (with_reducible exact ih3 _ _ _ _ _ _ _ _ _ _ _ _)
   | (with_reducible exact ih4 _ _ _ _ _ _ _ _ _ _ _ _ _)
   | (with_reducible exact LeO.refl _)
   | (with_reducible exact LeO.none _)
   | (with_reducible refine LeO.ite ?_ ?_)
   | (with_reducible refine LeO.bind ?_ (fun _ => ?_))
   | exact ih0 _ _ _ _ _ _ _ _
   | exact ih1 _ _ _ _ _ _ _ _
   | exact ih2 _ _ _ _ _ _ _ _ _
   | exact ih3 _ _ _ _ _ _ _ _ _ _ _ _
   | exact ih4 _ _ _ _ _ _ _ _ _ _ _ _ _
   | exact LeO.none _
   | refine LeO.ite ?_ ?_
   | refine LeO.bind ?_ (fun _ => ?_)
  ·intro y0 y1 y2 y3 y4 y5 y6 y7 y8 y9 y10 y11 y12; unfold diaphoneref06_ends.l4; repeat' first
   | (with_reducible exact ih0 _ _ _ _ _ _ _ _)
   | (with_reducible exact ih1 _ _ _ _ _ _ _ _)
   | (with_reducible exact ih2 _ _ _ _ _ _ _ _ _)
   | (with_reducible exact ih3 _ _ _ _ _ _ _ _ _ _ _ _)
   | (with_reducible exact ih4 _ _ _ _ _ _ _ _ _ _ _ _ _)
   | (with_reducible exact LeO.refl _)
   | (with_reducible exact LeO.none _)
   | (with_reducible refine LeO.ite ?_ ?_)
   | (with_reducible refine LeO.bind ?_ (fun _ => ?_))
   | exact ih0 _ _ _ _ _ _ _ _
   | exact ih1 _ _ _ _ _ _ _ _
   | exact ih2 _ _ _ _ _ _ _ _ _
   | exact ih3 _ _ _ _ _ _ _ _ _ _ _ _
   | exact ih4 _ _ _ _ _ _ _ _ _ _ _ _ _
   | exact LeO.none _
   | refine LeO.ite ?_ ?_
   | refine LeO.bind ?_ (fun _ => ?_)
theorem diaphoneref06_ends.mono : ∀ a0 a1 a2 a3 a4 k, LeO (diaphoneref06_ends.f k a0 a1 a2 a3 a4) (diaphoneref06_ends.f (k + 1) a0 a1 a2 a3 a4) := by
 intro a0 a1 a2 a3 a4 k; obtain ⟨ih0, ih1, ih2, ih3, ih4⟩ := diaphoneref06_ends.mono_l k; unfold diaphoneref06_ends.f; repeat' first
   | (with_reducible exact ih0 _ _ _ _ _ _ _ _)
   | (with_reducible exact ih1 _ _ _ _ _ _ _ _)
   | (with_reducible exact ih2 _ _ _ _ _ _ _ _ _)
   | (with_reducible exact ih3 _ _ _ _ _ _ _ _ _ _ _ _)
   | (with_reducible exact ih4 _ _ _ _ _ _ _ _ _ _ _ _ _)
   | (with_reducible exact LeO.refl _)
   | (with_reducible exact LeO.none _)
   | (with_reducible refine LeO.ite ?_ ?_)
   | (with_reducible refine LeO.bind ?_ (fun _ => ?_))
   | exact ih0 _ _ _ _ _ _ _ _
   | exact ih1 _ _ _ _ _ _ _ _
   | exact ih2 _ _ _ _ _ _ _ _ _
   | exact ih3 _ _ _ _ _ _ _ _ _ _ _ _
   | exact ih4 _ _ _ _ _ _ _ _ _ _ _ _ _
   | exact LeO.none _
   | refine LeO.ite ?_ ?_
   | refine LeO.bind ?_ (fun _ => ?_)
def diaphoneref06_ends.T20 : Bool × List (List Nat × List Nat) := (true, [([], []), ([0], [0]), ([], []), ([], []), ([2, 3], [2, 3]), ([1, 4], [1, 4]), ([], []), ([6], [6]), ([], []), ([], []), ([8, 9], [8, 9]), ([7, 10], [7, 10]), ([5, 11], [5, 11]), ([], []), ([], []), ([13, 14], [13, 14]), ([15], [15]), ([], []), ([], []), ([17, 18], [17, 18]), ([19], [19]), ([], []), ([16, 20, 21], [16, 20, 21]), ([12, 22], [12, 22]), ([], []), ([], []), ([25], [25]), ([24, 26], [24, 26]), ([27], [27]), ([], []), ([29], [29]), ([28, 30], [28, 30]), ([31], [31]), ([23, 32], [23, 32]), ([33, 22, 0, 1, 2, 3, 4, 5, 6, 7, 8, 9, 10, 11, 12, 13, 14, 15, 16, 17, 18, 19, 20, 21, 22, 23, 24, 25, 26, 27, 28, 29, 30, 31, 32, 33], [33])])
def diaphoneref06_ends.B20 : List Nat := [0, 1, 0, 0, 12, 31, 0, 64, 0, 0, 768, 1984, 4095, 0, 0, 24576, 57344, 0, 0, 393216, 917504, 0, 4186112, 8388607, 0, 0, 33554432, 117440512, 251658240, 0, 536870912, 2130706432, 4278190080, 8589934591, 17179869183]
theorem diaphoneref06_ends.tab20 : rtab .any (opsOf Try.f60 20) = diaphoneref06_ends.T20 := by kernel_rfl
theorem diaphoneref06_ends.bits20 : waitsOk diaphoneref06_ends.T20.2 diaphoneref06_ends.B20 = true := by kernel_rfl
set_option maxHeartbeats 8000000 in
set_option maxRecDepth 100000 in
theorem diaphoneref06_ends.calls (k : Nat) (A0 : Option Addr) (c0 : Nat) (l0 : List Int) (A1 : Option Addr) (c1 : Nat) (l1 : List Int) (a2_0 : Int) (a2_1 : Int) (a2_2 : Int) (r1 : List (List Int)) (r2 : List (List Int)) (w : World) (hr0 : Kd.C (Kd.int .i64) w A0 l0.length l0) (hc0 : l0.length ≤ c0) (hr1 : Kd.C (Kd.int .i64) w A1 l1.length l1) (hc1 : l1.length ≤ c1) (h : diaphoneref06_ends.f k l0 l1 a2_0 a2_1 a2_2 = some (r1, r2)) :
  Calls Try.prog 60 #[.slice A0 l0.length c0, .slice A1 l1.length c1, .agg #[.int .i64 a2_0, .int .i64 a2_1, .int .i64 a2_2]] w fun e w' => ∃ v0_ v1_ : Value, e = .returned (.tuple #[v0_, v1_]) ∧ Kd.S (Kd.slice 3 (Kd.int .i64)) 22 w' w.heap.size (fun _ => True) v0_ r1 ∧ Kd.S (Kd.slice 3 (Kd.int .i64)) 22 w' w.heap.size (fun _ => True) v1_ r2 ∧ Below w.heap.size w w' := by
 have hu24 := Try.underlying24; have HR0 := XB hr0; have HC0 := XB hc0; clear hr0 hc0; have HR1 := XB hr1; have HC1 := XB hc1; clear hr1 hc1; have HB := XB (Below.refl w.heap.size w); have H : (diaphoneref06_ends.l0 k l0 l1 ([] : List (List Int)) ([] : List (List Int)) 0 a2_0 a2_1 a2_2) = some (r1, r2) := h; clear h; have H' := XB H; clear H; go_enter Try.func60, Try.ntmps60
 go_wp2_with (first | ((with_reducible refine gate_dst (N := 5) rfl ?_); refine box_event ?hg (N := 5) ?hd (cs := #[.int .i64 a2_0, .int .i64 a2_1, .int .i64 a2_2]) (t := 24) ?hr ?_; (case hd => rfl); (case hg => rfl); (case hr => first | (go_simp; done) | (go_simp; rfl)); intro gb101 hg w4 hbox hb; have n0_ := XB (Xz (by repeat (first | (with_reducible first | exact HB.out | apply Xc | apply Xa | apply Xb) | exact HB.out)) hb); have n1_ := XB (hbox); have n2_ := XB ((by rw [hg]; exact (XC (by repeat (first | (with_reducible first | exact HB.out | apply Xc | apply Xa | apply Xb) | exact HB.out))) : w.heap.size ≤ gb101)); have n3_ := XB ((by rw [hg]; exact (XC (by repeat (first | (with_reducible first | exact HB.out | apply Xc | apply Xa | apply Xb) | exact HB.out))) : w.heap.size ≤ gb101)); clear HB; have HB := n0_; have J101 := n1_; have GW101 := n2_; have E101 := n3_; clear n0_ n1_ n2_ n3_; clear hb hbox hg))
 go_loopg [8, 9, 10] k (fun kq v8 v9 v10 w' => ∃ (P_ : Nat → Prop) (x8_1 : List (List Int)) (x9_1 : List (List Int)) (x10_1 : Int), v10 = .int .i64 x10_1 ∧ Aside0 (diaphoneref06_ends.l0 kq l0 l1 x8_1 x9_1 x10_1 a2_0 a2_1 a2_2 = some (r1, r2)) ∧ Aside0 (kq ≤ k) ∧ Aside0 (Kd.S (Kd.slice 3 (Kd.int .i64)) 22 w' w.heap.size P_ v8 x8_1) ∧ Aside0 (Kd.S (Kd.slice 3 (Kd.int .i64)) 22 w' w.heap.size (fun k_ => ¬ P_ k_) v9 x9_1) ∧ Aside0 (w'.heap[gb101]? = some (.cells #[.int .i64 a2_0, .int .i64 a2_1, .int .i64 a2_2] 24 (0, 0))) ∧ Aside0 (Below w.heap.size w w'))
 case atStart => exact ⟨(fun _ => False), (([] : List (List Int))), (([] : List (List Int))), (0), (by first | rfl | (simp; done) | (simp [*]; done)), H', ⟨Nat.le_refl _⟩, ⟨by first | exact Kd.S_nil _ _ _ _ _ | exact Kd.N_nil _ _ _ _ _ | exact Kd.V_nil _ _ _ _ _ | exact Kd.Q_nil _ _ _ _ _ | exact Kd.R_nil _ _ _ _ _⟩, ⟨by first | exact Kd.S_nil _ _ _ _ _ | exact Kd.N_nil _ _ _ _ _ | exact Kd.V_nil _ _ _ _ _ | exact Kd.Q_nil _ _ _ _ _ | exact Kd.R_nil _ _ _ _ _⟩, ⟨by (with_reducible repeat (first | refine Xf ?_ _ | refine Xg ?_ | refine Xe ?_ _)); exact J101.out⟩, ⟨by repeat (first | (with_reducible first | exact HB.out | apply Xc | apply Xa | apply Xb | refine Xd ?_ E101.out) | exact HB.out)⟩⟩
 case round =>
  clear H'; try clear c1
  try clear p2
  obtain ⟨P_, x8_1, x9_1, x10_1, rfl, HA, HK1, HO_8, HO_9, J101, HB⟩ := hrel
  cases gk with
  | zero => exact absurd HA.out (by simp [diaphoneref06_ends.l0])
  | succ k1 =>
   have H := HA.out; clear HA; simp only [diaphoneref06_ends.l0] at H; by_cases c5 : x10_1 ≤ (l0.length : Int)
   ·rw [if_pos c5] at H; have c5b0 : decide (x10_1 ≤ (l0.length : Int)) = true := decide_eq_true c5; clear c5; obtain ⟨ji6, hji6⟩ : ∃ j_ : Int, (wrap64 ((l1.length : Int) + 1)) = j_ := ⟨_, rfl⟩
    replace H : (if 0 ≤ (ji6) then (if (ji6 : Int).toNat ≤ 35184372088832 then (if x8_1.length < 5864062014805 then (if x9_1.length < 5864062014805 then (diaphoneref06_ends.l0 k1 l0 l1 (x8_1 ++ [(List.replicate (ji6 : Int).toNat 0)]) (x9_1 ++ [(List.replicate (ji6 : Int).toNat 0)]) (wrap64 (x10_1 + 1)) a2_0 a2_1 a2_2) else (none)) else (none)) else (none)) else (none)) = some (r1, r2) := by first | (rw [hji6] at H; exact H) | (simp only [hji6] at H ⊢; exact H)
    have hji6w : (IntKind.i64.wrap ((l1.length : Int) + 1)) = ji6 := (i64_w _).trans hji6; by_cases c7 : 0 ≤ (ji6)
    ·rw [if_pos c7] at H; have c7b0 := eq_true c7; have c7b1 : decide (0 ≤ (ji6)) = true := decide_eq_true c7; clear c7; by_cases c8 : (ji6 : Int).toNat ≤ 35184372088832
     ·rw [if_pos c8] at H; have c8b0 := eq_true c8; have c8b1 : decide ((ji6 : Int).toNat ≤ 35184372088832) = true := decide_eq_true c8; clear c8; obtain ⟨y102, hy102⟩ : ∃ y_ : List Int, y_ = (List.replicate (ji6 : Int).toNat 0) := ⟨_, rfl⟩
      replace H : (if x8_1.length < 5864062014805 then (if x9_1.length < 5864062014805 then (diaphoneref06_ends.l0 k1 l0 l1 (x8_1 ++ [y102]) (x9_1 ++ [(List.replicate (ji6 : Int).toNat 0)]) (wrap64 (x10_1 + 1)) a2_0 a2_1 a2_2) else (none)) else (none)) = some (r1, r2) := by first | (rw [hy102]; with_reducible exact H) | (have H2_ := (Option.bind_some _ _).symm.trans H; rw [hy102]; with_reducible exact H2_) | (have H2_ := (Option.bind_some _ _).symm.trans H; with_reducible exact H2_) | with_reducible exact H | (rw [hy102]; exact H) | exact H
      have Ny102 := XB hy102; clear hy102; by_cases c9 : x8_1.length < 5864062014805
      ·rw [if_pos c9] at H; have LMc9 := XB c9; clear c9; obtain ⟨y105, hy105⟩ : ∃ y_ : List (List Int), y_ = (x8_1 ++ [y102]) := ⟨_, rfl⟩
       replace H : (if x9_1.length < 5864062014805 then (diaphoneref06_ends.l0 k1 l0 l1 y105 (x9_1 ++ [(List.replicate (ji6 : Int).toNat 0)]) (wrap64 (x10_1 + 1)) a2_0 a2_1 a2_2) else (none)) = some (r1, r2) := by first | (rw [hy105]; with_reducible exact H) | (have H2_ := (Option.bind_some _ _).symm.trans H; rw [hy105]; with_reducible exact H2_) | (have H2_ := (Option.bind_some _ _).symm.trans H; with_reducible exact H2_) | with_reducible exact H | (rw [hy105]; exact H) | exact H
       have Ny105 := XB hy105; clear hy105; obtain ⟨y108, hy108⟩ : ∃ y_ : List Int, y_ = (List.replicate (ji6 : Int).toNat 0) := ⟨_, rfl⟩
       replace H : (if x9_1.length < 5864062014805 then (diaphoneref06_ends.l0 k1 l0 l1 y105 (x9_1 ++ [y108]) (wrap64 (x10_1 + 1)) a2_0 a2_1 a2_2) else (none)) = some (r1, r2) := by first | (rw [hy108]; with_reducible exact H) | (have H2_ := (Option.bind_some _ _).symm.trans H; rw [hy108]; with_reducible exact H2_) | (have H2_ := (Option.bind_some _ _).symm.trans H; with_reducible exact H2_) | with_reducible exact H | (rw [hy108]; exact H) | exact H
       have Ny108 := XB hy108; clear hy108; by_cases c10 : x9_1.length < 5864062014805
       ·rw [if_pos c10] at H; have LMc10 := XB c10; clear c10; obtain ⟨y111, hy111⟩ : ∃ y_ : List (List Int), y_ = (x9_1 ++ [y108]) := ⟨_, rfl⟩
        replace H : (diaphoneref06_ends.l0 k1 l0 l1 y105 y111 (wrap64 (x10_1 + 1)) a2_0 a2_1 a2_2) = some (r1, r2) := by first | (rw [hy111]; with_reducible exact H) | (have H2_ := (Option.bind_some _ _).symm.trans H; rw [hy111]; with_reducible exact H2_) | (have H2_ := (Option.bind_some _ _).symm.trans H; with_reducible exact H2_) | with_reducible exact H | (rw [hy111]; exact H) | exact H
        have Ny111 := XB hy111; clear hy111; have H' := XB H; clear H; go_wp2_with (first | ((with_reducible refine gate_dst (N := 28) rfl ?_); refine Kd.R_make (Kd.int .i64) _ 3 rfl (N := 28) rfl 22 _ _ rfl ji6 rfl rfl Try.underlying22 (.int .i64 0) 8 info3 rfl (by decide) (by omega) 0 (ok := fun k_ => wr.heap.size ≤ k_) (okp := fun k_ => wr.heap.size ≤ k_) rfl (fun _ hk => hk) (Nat.le_refl _) (of_decide_eq_true (by first | (with_reducible assumption) | assumption)) (Nat.le_trans (Nat.mul_le_mul_right _ (of_decide_eq_true (by first | (with_reducible assumption) | assumption) : ji6.toNat ≤ 35184372088832)) (by omega)) (Below.refl _ _) (Nat.le_refl _) ?_; intro v103 w11 ho12 hb hg_ hnew_; clear hg_ hnew_; (first | rw [← Ny102.out] at ho12 | (simp only [Int.reduceToNat] at ho12; rw [← Ny102.out] at ho12)); have n0_ := XB (Kd.S_elder' (by (with_reducible repeat (first | apply Kd.S_alloc | apply Kd.S_drewN | apply Kd.S_drew)); exact HO_8.out) (Kd.R_base ho12) hb); have nS0_ := XB (XC hb); have n1_ := XB (Kd.S_old (by (with_reducible repeat (first | apply Kd.S_alloc | apply Kd.S_drewN | apply Kd.S_drew)); exact HO_9.out) hb); have n2_ := XB (Kd.R_lower ho12 (XC (by repeat (first | (with_reducible first | exact HB.out | apply Xc | apply Xa | apply Xb | refine Xd ?_ E101.out) | exact HB.out)))); have n3_ := XB (XA (g := gb101) (o := .cells #[.int .i64 a2_0, .int .i64 a2_1, .int .i64 a2_2] 24 (0, 0)) (by (with_reducible repeat (first | refine Xf ?_ _ | refine Xg ?_ | refine Xe ?_ _)); exact J101.out) hb); have n4_ := XB (Xz (by repeat (first | (with_reducible first | exact HB.out | apply Xc | apply Xa | apply Xb | refine Xd ?_ E101.out) | exact HB.out)) hb); clear HO_8; clear HO_9; clear J101; clear HB; have HO_8 := n0_; have HO_9 := n1_; have HO104 := n2_; have J101 := n3_; have HB := n4_; clear n0_ n1_ n2_ n3_ n4_; clear hb ho12; obtain ⟨Ao14, co14, eo14⟩ := Kd.R_slice HO104.out; subst eo14) | ((with_reducible refine gate_builtin (b := .append) (xs := #[.tmp 24, .tmp 29]) rfl ?_); at_builtin; refine Kd.S_append (Kd.slice 3 (Kd.int .i64)) (w0 := w) w.heap.size rfl (.tmp 24) (.tmp 29) 44 22 (.slice none 0 0) 24 rfl Try.underlying44 info22 rfl (by decide) (by omega) u8 x8_1 y102 [.slice Ao14 y102.length co14] (fun k_ => P_ k_ ∨ wr.heap.size ≤ k_) (fun k_ => some k_ = (.slice Ao14 y102.length co14 : Value).ownBlock) rfl rfl ?aP (fun k_ hk_ => ⟨Or.inr (HO104.out.1 k_ hk_.symm), fun e_ => ((Kd.S_R HO_8.out).1 k_ e_.symm).2 hk_⟩) ?aF ?aO ?aB ?aS ?aL ?_; (case aP => exact Kd.M_row (Kd.R_tight rfl HO104.out)); (case aB => exact (by repeat (first | (with_reducible first | exact HB.out | apply Xc | apply Xa | apply Xb | refine Xd ?_ E101.out) | exact HB.out))); (case aF => exact (fun _ hk => Or.inr (Nat.le_trans nS0_.out hk))); (case aO => exact (by (with_reducible repeat (first | apply Kd.S_alloc | apply Kd.S_drewN | apply Kd.S_drew)); exact Kd.S_mono HO_8.out (fun k_ hk => ⟨Or.inl hk.1, fun e_ => hk.2 e_⟩))); (case aS => exact (XC (by repeat (first | (with_reducible first | exact HB.out | apply Xc | apply Xa | apply Xb | refine Xd ?_ E101.out) | exact HB.out)))); (case aL => have := LMc9.out; omega); intro v106 w13 ho hb hg hat; rw [← Ny105.out] at ho; have n0_ := XB (Kd.S_grown (ok := fun k_ => ¬ P_ k_ ∧ k_ < wr.heap.size) (by (with_reducible repeat (first | apply Kd.S_alloc | apply Kd.S_drewN | apply Kd.S_drew)); exact HO_9.out) hg (fun k_ hk e_ => hk.1 ((Kd.S_R HO_8.out).1 k_ e_.symm).1)); have n1_ := XB (blk_grown (g := gb101) (o := .cells #[.int .i64 a2_0, .int .i64 a2_1, .int .i64 a2_2] 24 (0, 0)) (by (with_reducible repeat (first | refine Xf ?_ _ | refine Xg ?_ | refine Xe ?_ _)); exact J101.out) hg (Kd.S_ne HO_8.out J101.out (by decide))); have n2_ := XB (hb); have n3_ := XB (ho); clear HO_9; clear J101; clear HB; clear HO_8; clear HO104; have HO_9 := n0_; have J101 := n1_; have HB := n2_; have HO107 := n3_; clear n0_ n1_ n2_ n3_; clear ho hb hg hat) | ((with_reducible refine gate_dst (N := 35) rfl ?_); refine Kd.R_make (Kd.int .i64) _ 3 rfl (N := 35) rfl 22 _ _ rfl ji6 rfl rfl Try.underlying22 (.int .i64 0) 8 info3 rfl (by decide) (by omega) 0 (ok := fun k_ => w13.heap.size ≤ k_) (okp := fun k_ => w13.heap.size ≤ k_) rfl (fun _ hk => hk) (Nat.le_refl _) (of_decide_eq_true (by first | (with_reducible assumption) | assumption)) (Nat.le_trans (Nat.mul_le_mul_right _ (of_decide_eq_true (by first | (with_reducible assumption) | assumption) : ji6.toNat ≤ 35184372088832)) (by omega)) (Below.refl _ _) (Nat.le_refl _) ?_; intro v109 w15 ho16 hb hg_ hnew_; clear hg_ hnew_; (first | rw [← Ny108.out] at ho16 | (simp only [Int.reduceToNat] at ho16; rw [← Ny108.out] at ho16)); have n0_ := XB (Kd.S_elder' (by (with_reducible repeat (first | apply Kd.S_alloc | apply Kd.S_drewN | apply Kd.S_drew)); exact HO_9.out) (Kd.R_base ho16) hb); have nS1_ := XB (XC hb); have n1_ := XB (Kd.S_old (by (with_reducible repeat (first | apply Kd.S_alloc | apply Kd.S_drewN | apply Kd.S_drew)); exact HO107.out) hb); have n2_ := XB (Kd.R_lower ho16 (XC (by repeat (first | (with_reducible first | exact HB.out | apply Xc | apply Xa | apply Xb | refine Xd ?_ E101.out) | exact HB.out)))); have n3_ := XB (XA (g := gb101) (o := .cells #[.int .i64 a2_0, .int .i64 a2_1, .int .i64 a2_2] 24 (0, 0)) (by (with_reducible repeat (first | refine Xf ?_ _ | refine Xg ?_ | refine Xe ?_ _)); exact J101.out) hb); have n4_ := XB (Xz (by repeat (first | (with_reducible first | exact HB.out | apply Xc | apply Xa | apply Xb | refine Xd ?_ E101.out) | exact HB.out)) hb); clear HO_9; clear HO107; clear J101; clear HB; have HO_9 := n0_; have HO107 := n1_; have HO110 := n2_; have J101 := n3_; have HB := n4_; clear n0_ n1_ n2_ n3_ n4_; clear hb ho16; obtain ⟨Ao18, co18, eo18⟩ := Kd.R_slice HO110.out; subst eo18) | ((with_reducible refine gate_builtin (b := .append) (xs := #[.tmp 31, .tmp 36]) rfl ?_); at_builtin; refine Kd.S_append (Kd.slice 3 (Kd.int .i64)) (w0 := w) w.heap.size rfl (.tmp 31) (.tmp 36) 44 22 (.slice none 0 0) 24 rfl Try.underlying44 info22 rfl (by decide) (by omega) u9 x9_1 y108 [.slice Ao18 y108.length co18] (fun k_ => (¬ P_ k_ ∧ k_ < wr.heap.size) ∨ w13.heap.size ≤ k_) (fun k_ => some k_ = (.slice Ao18 y108.length co18 : Value).ownBlock) rfl rfl ?aP (fun k_ hk_ => ⟨Or.inr (HO110.out.1 k_ hk_.symm), fun e_ => ((Kd.S_R HO_9.out).1 k_ e_.symm).2 hk_⟩) ?aF ?aO ?aB ?aS ?aL ?_; (case aP => exact Kd.M_row (Kd.R_tight rfl HO110.out)); (case aB => exact (by repeat (first | (with_reducible first | exact HB.out | apply Xc | apply Xa | apply Xb | refine Xd ?_ E101.out) | exact HB.out))); (case aF => exact (fun _ hk => Or.inr (Nat.le_trans nS1_.out hk))); (case aO => exact (by (with_reducible repeat (first | apply Kd.S_alloc | apply Kd.S_drewN | apply Kd.S_drew)); exact Kd.S_mono HO_9.out (fun k_ hk => ⟨Or.inl hk.1, fun e_ => hk.2 e_⟩))); (case aS => exact (XC (by repeat (first | (with_reducible first | exact HB.out | apply Xc | apply Xa | apply Xb | refine Xd ?_ E101.out) | exact HB.out)))); (case aL => have := LMc10.out; omega); intro v112 w17 ho hb hg hat; rw [← Ny111.out] at ho; have n0_ := XB (blk_grown (g := gb101) (o := .cells #[.int .i64 a2_0, .int .i64 a2_1, .int .i64 a2_2] 24 (0, 0)) (by (with_reducible repeat (first | refine Xf ?_ _ | refine Xg ?_ | refine Xe ?_ _)); exact J101.out) hg (Kd.S_ne HO_9.out J101.out (by decide))); have n1_ := XB (Kd.S_grown (ok := fun k_ => (P_ k_ ∨ wr.heap.size ≤ k_) ∧ k_ < w13.heap.size) (by (with_reducible repeat (first | apply Kd.S_alloc | apply Kd.S_drewN | apply Kd.S_drew)); exact HO107.out) hg (fun k_ hk e_ => hk.1.elim (fun h_ => ((Kd.S_R HO_9.out).1 k_ e_.symm).1.1 h_) (fun h_ => absurd ((Kd.S_R HO_9.out).1 k_ e_.symm).1.2 (Nat.not_lt.2 h_)))); have n2_ := XB (hb); have n3_ := XB (ho); clear J101; clear HO107; clear HB; clear HO_9; clear HO110; have J101 := n0_; have HO107 := n1_; have HB := n2_; have HO113 := n3_; clear n0_ n1_ n2_ n3_; clear ho hb hg hat))
        go_roundg k1
        case measure => have := HK1.out; omega
        case rel => exact ⟨(fun k_ => (P_ k_ ∨ wr.heap.size ≤ k_) ∧ k_ < w13.heap.size), (y105), (y111), (wrap64 (x10_1 + 1)), (by first | rfl | (simp; done) | (simp [*]; done)), H', ⟨by have := HK1.out; omega⟩, ⟨by (with_reducible repeat (first | apply Kd.S_alloc | apply Kd.S_drewN | apply Kd.S_drew)); exact HO107.out⟩, ⟨by (with_reducible repeat (first | apply Kd.S_alloc | apply Kd.S_drewN | apply Kd.S_drew)); exact Kd.S_mono HO113.out (fun k_ hk hn => hk.elim (fun h_ => hn.1.elim h_.1 (fun h2_ => absurd h_.2 (Nat.not_lt.2 h2_))) (fun h_ => absurd hn.2 (Nat.not_lt.2 h_)))⟩, ⟨by (with_reducible repeat (first | refine Xf ?_ _ | refine Xg ?_ | refine Xe ?_ _)); exact J101.out⟩, ⟨by repeat (first | (with_reducible first | exact HB.out | apply Xc | apply Xa | apply Xb | refine Xd ?_ E101.out) | exact HB.out)⟩⟩
       ·rw [if_neg c10] at H; exact absurd H (by simp)
      ·rw [if_neg c9] at H; exact absurd H (by simp)
     ·rw [if_neg c8] at H; exact absurd H (by simp)
    ·rw [if_neg c7] at H; exact absurd H (by simp)
   ·rw [if_neg c5] at H; have c5b0 : decide (x10_1 ≤ (l0.length : Int)) = false := decide_eq_false c5; clear c5; have H' := XB H; clear H; go_wp2
    go_loopg [11] k1 (fun kq v11 w' => ∃ (x8_2 : List (List Int)) (x9_2 : List (List Int)) (x11_2 : Int), v11 = .int .i64 x11_2 ∧ Aside0 (diaphoneref06_ends.l1 kq l0 l1 x8_2 x9_2 x11_2 a2_0 a2_1 a2_2 = some (r1, r2)) ∧ Aside0 (kq ≤ k1) ∧ Aside0 (Kd.S (Kd.slice 3 (Kd.int .i64)) 22 w' w.heap.size P_ u8 x8_2) ∧ Aside0 (Kd.S (Kd.slice 3 (Kd.int .i64)) 22 w' w.heap.size (fun k_ => ¬ P_ k_) u9 x9_2) ∧ Aside0 (w'.heap[gb101]? = some (.cells #[.int .i64 a2_0, .int .i64 a2_1, .int .i64 a2_2] 24 (0, 0))) ∧ Aside0 (Below w.heap.size w w'))
    case atStart => exact ⟨(x8_1), (x9_1), ((l0.length : Int)), (by first | rfl | (simp; done) | (simp [*]; done)), H', ⟨Nat.le_refl _⟩, ⟨by (with_reducible repeat (first | apply Kd.S_alloc | apply Kd.S_drewN | apply Kd.S_drew)); exact HO_8.out⟩, ⟨by (with_reducible repeat (first | apply Kd.S_alloc | apply Kd.S_drewN | apply Kd.S_drew)); exact HO_9.out⟩, ⟨by (with_reducible repeat (first | refine Xf ?_ _ | refine Xg ?_ | refine Xe ?_ _)); exact J101.out⟩, ⟨by repeat (first | (with_reducible first | exact HB.out | apply Xc | apply Xa | apply Xb | refine Xd ?_ E101.out) | exact HB.out)⟩⟩
    case round =>
     clear H'; try clear c1
     try clear p2
     try clear c5
     try clear c5b0
     try clear c6
     try clear p6
     try clear c7
     try clear c7b0
     try clear c7b1
     try clear c8
     try clear c8b0
     try clear c8b1
     try clear c9
     try clear c10
     try clear p2
     obtain ⟨x8_2, x9_2, x11_2, rfl, HA, HK2, HO_8, HO_9, J101, HB⟩ := hrel
     cases gk with
     | zero => exact absurd HA.out (by simp [diaphoneref06_ends.l1])
     | succ k2 =>
      have H := HA.out; clear HA; simp only [diaphoneref06_ends.l1] at H; by_cases c19 : x11_2 ≥ 0
      ·rw [if_pos c19] at H; have c19b0 : decide (0 ≤ x11_2) = true := decide_eq_true c19; clear c19; have H' := XB H; clear H; go_wp2
       go_loopg [12] k2 (fun kq v12 w' => ∃ (x8_3 : List (List Int)) (x9_3 : List (List Int)) (x12_3 : Int), v12 = .int .i64 x12_3 ∧ Aside0 (diaphoneref06_ends.l2 kq l0 l1 x8_3 x9_3 x11_2 x12_3 a2_0 a2_1 a2_2 = some (r1, r2)) ∧ Aside0 (kq ≤ k2) ∧ Aside0 (Kd.S (Kd.slice 3 (Kd.int .i64)) 22 w' w.heap.size P_ u8 x8_3) ∧ Aside0 (Kd.S (Kd.slice 3 (Kd.int .i64)) 22 w' w.heap.size (fun k_ => ¬ P_ k_) u9 x9_3) ∧ Aside0 (w'.heap[gb101]? = some (.cells #[.int .i64 a2_0, .int .i64 a2_1, .int .i64 a2_2] 24 (0, 0))) ∧ Aside0 (Below w.heap.size w w'))
       case atStart => exact ⟨(x8_2), (x9_2), ((l1.length : Int)), (by first | rfl | (simp; done) | (simp [*]; done)), H', ⟨Nat.le_refl _⟩, ⟨by (with_reducible repeat (first | apply Kd.S_alloc | apply Kd.S_drewN | apply Kd.S_drew)); exact HO_8.out⟩, ⟨by (with_reducible repeat (first | apply Kd.S_alloc | apply Kd.S_drewN | apply Kd.S_drew)); exact HO_9.out⟩, ⟨by (with_reducible repeat (first | refine Xf ?_ _ | refine Xg ?_ | refine Xe ?_ _)); exact J101.out⟩, ⟨by repeat (first | (with_reducible first | exact HB.out | apply Xc | apply Xa | apply Xb | refine Xd ?_ E101.out) | exact HB.out)⟩⟩
       case round =>
        clear H'; try clear c1
        try clear p2
        try clear c5
        try clear c5b0
        try clear c6
        try clear p6
        try clear c7
        try clear c7b0
        try clear c7b1
        try clear c8
        try clear c8b0
        try clear c8b1
        try clear c9
        try clear c10
        try clear c19
        try clear c19b0
        try clear p2
        try clear p6
        obtain ⟨x8_3, x9_3, x12_3, rfl, HA, HK3, HO_8, HO_9, J101, HB⟩ := hrel
        cases gk with
        | zero => exact absurd HA.out (by simp [diaphoneref06_ends.l2])
        | succ k3 =>
         have H := HA.out; clear HA; simp only [diaphoneref06_ends.l2] at H; by_cases c20 : x12_3 ≥ 0
         ·rw [if_pos c20] at H; have c20b0 : decide (0 ≤ x12_3) = true := decide_eq_true c20; clear c20; have H' := XB H; clear H; have hcz21_0 : wr.cell? ⟨gb101, 0, none⟩ = some (.int .i64 a2_0) := (Xi J101.out 0).trans rfl; have hcz21_1 : wr.cell? ⟨gb101, 1, none⟩ = some (.int .i64 a2_1) := (Xi J101.out 1).trans rfl; have hcz21_2 : wr.cell? ⟨gb101, 2, none⟩ = some (.int .i64 a2_2) := (Xi J101.out 2).trans rfl; have hfz21_0 := Xh J101.out 0; have hfz21_1 := Xh J101.out 1; have hfz21_2 := Xh J101.out 2; go_wp2
          go_loopg [13, 14, 15] k3 (fun kq v13 v14 v15 w' => ∃ (x13_4 : Int) (x14_4 : Int) (x15_4 : Int), v13 = .int .i64 x13_4 ∧ v14 = .int .i64 x14_4 ∧ v15 = .int .i64 x15_4 ∧ Aside0 (diaphoneref06_ends.l3 kq l0 l1 x8_3 x9_3 x11_2 x12_3 x13_4 x14_4 x15_4 a2_0 a2_1 a2_2 = some (r1, r2)) ∧ Aside0 (kq ≤ k3) ∧ Aside0 (Kd.S (Kd.slice 3 (Kd.int .i64)) 22 w' w.heap.size P_ u8 x8_3) ∧ Aside0 (Kd.S (Kd.slice 3 (Kd.int .i64)) 22 w' w.heap.size (fun k_ => ¬ P_ k_) u9 x9_3) ∧ Aside0 (w'.heap[gb101]? = some (.cells #[.int .i64 a2_0, .int .i64 a2_1, .int .i64 a2_2] 24 (0, 0))) ∧ Aside0 (Below w.heap.size w w'))
          case atStart => exact ⟨(wrap64 ((wrap64 (a2_0 * (wrap64 ((l0.length : Int) - x11_2)))) + (wrap64 (a2_1 * (wrap64 ((l1.length : Int) - x12_3)))))), (1), (x11_2), (by first | rfl | (simp; done) | (simp [*]; done)), (by first | rfl | (simp; done) | (simp [*]; done)), (by first | rfl | (simp; done) | (simp [*]; done)), H', ⟨Nat.le_refl _⟩, ⟨by (with_reducible repeat (first | apply Kd.S_alloc | apply Kd.S_drewN | apply Kd.S_drew)); exact HO_8.out⟩, ⟨by (with_reducible repeat (first | apply Kd.S_alloc | apply Kd.S_drewN | apply Kd.S_drew)); exact HO_9.out⟩, ⟨by (with_reducible repeat (first | refine Xf ?_ _ | refine Xg ?_ | refine Xe ?_ _)); exact J101.out⟩, ⟨by repeat (first | (with_reducible first | exact HB.out | apply Xc | apply Xa | apply Xb | refine Xd ?_ E101.out) | exact HB.out)⟩⟩
          case round =>
           clear H'; try clear c1
           try clear c2
           try clear p2
           try clear c5
           try clear c5b0
           try clear c6
           try clear p6
           try clear c7
           try clear c7b0
           try clear c7b1
           try clear c8
           try clear c8b0
           try clear c8b1
           try clear c9
           try clear c10
           try clear c19
           try clear c19b0
           try clear c20
           try clear c20b0
           try clear hcz21_0
           try clear hcz21_1
           try clear hcz21_2
           try clear hfz21_0
           try clear hfz21_1
           try clear hfz21_2
           try clear p2
           try clear p6
           obtain ⟨x13_4, x14_4, x15_4, rfl, rfl, rfl, HA, HK4, HO_8, HO_9, J101, HB⟩ := hrel
           cases gk with
           | zero => exact absurd HA.out (by simp [diaphoneref06_ends.l3])
           | succ k4 =>
            have H := HA.out; clear HA; simp only [diaphoneref06_ends.l3] at H; by_cases c22 : x15_4 < (l0.length : Int)
            ·rw [if_pos c22] at H; have c22b0 : decide (x15_4 < (l0.length : Int)) = true := decide_eq_true c22; clear c22; have H' := XB H; clear H; go_wp2
             go_loopg [13, 14, 16] k4 (fun kq v13 v14 v16 w' => ∃ (x13_5 : Int) (x14_5 : Int) (x16_5 : Int), v13 = .int .i64 x13_5 ∧ v14 = .int .i64 x14_5 ∧ v16 = .int .i64 x16_5 ∧ Aside0 (diaphoneref06_ends.l4 kq l0 l1 x8_3 x9_3 x11_2 x12_3 x13_5 x14_5 x15_4 x16_5 a2_0 a2_1 a2_2 = some (r1, r2)) ∧ Aside0 (kq ≤ k4) ∧ Aside0 (Kd.S (Kd.slice 3 (Kd.int .i64)) 22 w' w.heap.size P_ u8 x8_3) ∧ Aside0 (Kd.S (Kd.slice 3 (Kd.int .i64)) 22 w' w.heap.size (fun k_ => ¬ P_ k_) u9 x9_3) ∧ Aside0 (w'.heap[gb101]? = some (.cells #[.int .i64 a2_0, .int .i64 a2_1, .int .i64 a2_2] 24 (0, 0))) ∧ Aside0 (Below w.heap.size w w'))
             case atStart => exact ⟨(x13_4), (x14_4), (x12_3), (by first | rfl | (simp; done) | (simp [*]; done)), (by first | rfl | (simp; done) | (simp [*]; done)), (by first | rfl | (simp; done) | (simp [*]; done)), H', ⟨Nat.le_refl _⟩, ⟨by (with_reducible repeat (first | apply Kd.S_alloc | apply Kd.S_drewN | apply Kd.S_drew)); exact HO_8.out⟩, ⟨by (with_reducible repeat (first | apply Kd.S_alloc | apply Kd.S_drewN | apply Kd.S_drew)); exact HO_9.out⟩, ⟨by (with_reducible repeat (first | refine Xf ?_ _ | refine Xg ?_ | refine Xe ?_ _)); exact J101.out⟩, ⟨by repeat (first | (with_reducible first | exact HB.out | apply Xc | apply Xa | apply Xb | refine Xd ?_ E101.out) | exact HB.out)⟩⟩
             case round =>
              clear H'; try clear c1
              try clear c2
              try clear p2
              try clear c5
              try clear c5b0
              try clear c6
              try clear p6
              try clear c7
              try clear c7b0
              try clear c7b1
              try clear c8
              try clear c8b0
              try clear c8b1
              try clear c9
              try clear c10
              try clear c19
              try clear c19b0
              try clear c20
              try clear c20b0
              try clear c22
              try clear c22b0
              try clear hcz21_0
              try clear hcz21_1
              try clear hcz21_2
              try clear hfz21_0
              try clear hfz21_1
              try clear hfz21_2
              try clear p2
              try clear p6
              obtain ⟨x13_5, x14_5, x16_5, rfl, rfl, rfl, HA, HK5, HO_8, HO_9, J101, HB⟩ := hrel
              cases gk with
              | zero => exact absurd HA.out (by simp [diaphoneref06_ends.l4])
              | succ k5 =>
               have H := HA.out; clear HA; simp only [diaphoneref06_ends.l4] at H; by_cases c23 : x16_5 < (l1.length : Int)
               ·rw [if_pos c23] at H; have c23b0 : decide (x16_5 < (l1.length : Int)) = true := decide_eq_true c23; clear c23; by_cases c24 : 0 ≤ x15_4
                ·rw [if_pos c24] at H; have c24b0 : decide (0 ≤ x15_4) = true := decide_eq_true c24; clear c24; by_cases c25 : x15_4 < (l0.length : Int)
                 ·rw [if_pos c25] at H; have c25b0 : decide (x15_4 < (l0.length : Int)) = true := decide_eq_true c25; clear c25; by_cases c26 : 0 ≤ x16_5
                  ·rw [if_pos c26] at H; have c26b0 : decide (0 ≤ x16_5) = true := decide_eq_true c26; clear c26; replace H := Option.bind_eq_some_iff.mp H; obtain ⟨t124, A270, H⟩ := H; replace H : (if 0 ≤ (wrap64 (x15_4 + 1)) then (if (wrap64 (x15_4 + 1)) < (x8_3.length : Int) then (if 0 ≤ (wrap64 (x16_5 + 1)) then (if (wrap64 (x16_5 + 1)) < ((rd_L1 x8_3 (wrap64 (x15_4 + 1))).length : Int) then (if (wrap64 ((wrap64 ((wrap64 ((wrap64 (a2_0 * (wrap64 (x15_4 - x11_2)))) + (wrap64 (a2_1 * (wrap64 (x16_5 - x12_3)))))) + t124)) + (rd (rd_L1 x8_3 (wrap64 (x15_4 + 1))) (wrap64 (x16_5 + 1))))) < x13_5 then (if (wrap64 ((wrap64 ((wrap64 ((wrap64 (a2_0 * (wrap64 (x15_4 - x11_2)))) + (wrap64 (a2_1 * (wrap64 (x16_5 - x12_3)))))) + t124)) + (rd (rd_L1 x8_3 (wrap64 (x15_4 + 1))) (wrap64 (x16_5 + 1))))) = (wrap64 ((wrap64 ((wrap64 ((wrap64 (a2_0 * (wrap64 (x15_4 - x11_2)))) + (wrap64 (a2_1 * (wrap64 (x16_5 - x12_3)))))) + t124)) + (rd (rd_L1 x8_3 (wrap64 (x15_4 + 1))) (wrap64 (x16_5 + 1))))) then (if (wrap64 (x15_4 + 1)) < (x9_3.length : Int) then (if (wrap64 (x16_5 + 1)) < ((rd_L1 x9_3 (wrap64 (x15_4 + 1))).length : Int) then (diaphoneref06_ends.l4 k5 l0 l1 x8_3 x9_3 x11_2 x12_3 (wrap64 ((wrap64 ((wrap64 ((wrap64 (a2_0 * (wrap64 (x15_4 - x11_2)))) + (wrap64 (a2_1 * (wrap64 (x16_5 - x12_3)))))) + t124)) + (rd (rd_L1 x8_3 (wrap64 (x15_4 + 1))) (wrap64 (x16_5 + 1))))) (wrap64 (0 + (rd (rd_L1 x9_3 (wrap64 (x15_4 + 1))) (wrap64 (x16_5 + 1))))) x15_4 (wrap64 (x16_5 + 1)) a2_0 a2_1 a2_2) else (none)) else (none)) else (diaphoneref06_ends.l4 k5 l0 l1 x8_3 x9_3 x11_2 x12_3 (wrap64 ((wrap64 ((wrap64 ((wrap64 (a2_0 * (wrap64 (x15_4 - x11_2)))) + (wrap64 (a2_1 * (wrap64 (x16_5 - x12_3)))))) + t124)) + (rd (rd_L1 x8_3 (wrap64 (x15_4 + 1))) (wrap64 (x16_5 + 1))))) 0 x15_4 (wrap64 (x16_5 + 1)) a2_0 a2_1 a2_2)) else (if (wrap64 ((wrap64 ((wrap64 ((wrap64 (a2_0 * (wrap64 (x15_4 - x11_2)))) + (wrap64 (a2_1 * (wrap64 (x16_5 - x12_3)))))) + t124)) + (rd (rd_L1 x8_3 (wrap64 (x15_4 + 1))) (wrap64 (x16_5 + 1))))) = x13_5 then (if (wrap64 (x15_4 + 1)) < (x9_3.length : Int) then (if (wrap64 (x16_5 + 1)) < ((rd_L1 x9_3 (wrap64 (x15_4 + 1))).length : Int) then (diaphoneref06_ends.l4 k5 l0 l1 x8_3 x9_3 x11_2 x12_3 x13_5 (wrap64 (x14_5 + (rd (rd_L1 x9_3 (wrap64 (x15_4 + 1))) (wrap64 (x16_5 + 1))))) x15_4 (wrap64 (x16_5 + 1)) a2_0 a2_1 a2_2) else (none)) else (none)) else (diaphoneref06_ends.l4 k5 l0 l1 x8_3 x9_3 x11_2 x12_3 x13_5 x14_5 x15_4 (wrap64 (x16_5 + 1)) a2_0 a2_1 a2_2))) else (none)) else (none)) else (none)) else (none)) = some (r1, r2) := by first | with_reducible exact H | (have H2_ := H; simp only [eq_self_iff_true, if_true] at H2_ ⊢; exact H2_)
                   have A27 := XB A270; clear A270; obtain ⟨ji28, hji28⟩ : ∃ j_ : Int, (wrap64 (x15_4 + 1)) = j_ := ⟨_, rfl⟩
                   replace H : (if 0 ≤ (ji28) then (if (ji28) < (x8_3.length : Int) then (if 0 ≤ (wrap64 (x16_5 + 1)) then (if (wrap64 (x16_5 + 1)) < ((rd_L1 x8_3 (ji28)).length : Int) then (if (wrap64 ((wrap64 ((wrap64 ((wrap64 (a2_0 * (wrap64 (x15_4 - x11_2)))) + (wrap64 (a2_1 * (wrap64 (x16_5 - x12_3)))))) + t124)) + (rd (rd_L1 x8_3 (ji28)) (wrap64 (x16_5 + 1))))) < x13_5 then (if (wrap64 ((wrap64 ((wrap64 ((wrap64 (a2_0 * (wrap64 (x15_4 - x11_2)))) + (wrap64 (a2_1 * (wrap64 (x16_5 - x12_3)))))) + t124)) + (rd (rd_L1 x8_3 (ji28)) (wrap64 (x16_5 + 1))))) = (wrap64 ((wrap64 ((wrap64 ((wrap64 (a2_0 * (wrap64 (x15_4 - x11_2)))) + (wrap64 (a2_1 * (wrap64 (x16_5 - x12_3)))))) + t124)) + (rd (rd_L1 x8_3 (ji28)) (wrap64 (x16_5 + 1))))) then (if (ji28) < (x9_3.length : Int) then (if (wrap64 (x16_5 + 1)) < ((rd_L1 x9_3 (ji28)).length : Int) then (diaphoneref06_ends.l4 k5 l0 l1 x8_3 x9_3 x11_2 x12_3 (wrap64 ((wrap64 ((wrap64 ((wrap64 (a2_0 * (wrap64 (x15_4 - x11_2)))) + (wrap64 (a2_1 * (wrap64 (x16_5 - x12_3)))))) + t124)) + (rd (rd_L1 x8_3 (ji28)) (wrap64 (x16_5 + 1))))) (wrap64 (0 + (rd (rd_L1 x9_3 (ji28)) (wrap64 (x16_5 + 1))))) x15_4 (wrap64 (x16_5 + 1)) a2_0 a2_1 a2_2) else (none)) else (none)) else (diaphoneref06_ends.l4 k5 l0 l1 x8_3 x9_3 x11_2 x12_3 (wrap64 ((wrap64 ((wrap64 ((wrap64 (a2_0 * (wrap64 (x15_4 - x11_2)))) + (wrap64 (a2_1 * (wrap64 (x16_5 - x12_3)))))) + t124)) + (rd (rd_L1 x8_3 (ji28)) (wrap64 (x16_5 + 1))))) 0 x15_4 (wrap64 (x16_5 + 1)) a2_0 a2_1 a2_2)) else (if (wrap64 ((wrap64 ((wrap64 ((wrap64 (a2_0 * (wrap64 (x15_4 - x11_2)))) + (wrap64 (a2_1 * (wrap64 (x16_5 - x12_3)))))) + t124)) + (rd (rd_L1 x8_3 (ji28)) (wrap64 (x16_5 + 1))))) = x13_5 then (if (ji28) < (x9_3.length : Int) then (if (wrap64 (x16_5 + 1)) < ((rd_L1 x9_3 (ji28)).length : Int) then (diaphoneref06_ends.l4 k5 l0 l1 x8_3 x9_3 x11_2 x12_3 x13_5 (wrap64 (x14_5 + (rd (rd_L1 x9_3 (ji28)) (wrap64 (x16_5 + 1))))) x15_4 (wrap64 (x16_5 + 1)) a2_0 a2_1 a2_2) else (none)) else (none)) else (diaphoneref06_ends.l4 k5 l0 l1 x8_3 x9_3 x11_2 x12_3 x13_5 x14_5 x15_4 (wrap64 (x16_5 + 1)) a2_0 a2_1 a2_2))) else (none)) else (none)) else (none)) else (none)) = some (r1, r2) := by first | (rw [hji28] at H; exact H) | (simp only [hji28] at H ⊢; exact H)
                   (try rw [hji28] at A27)
                   have hji28w : (IntKind.i64.wrap (x15_4 + 1)) = ji28 := (i64_w _).trans hji28; by_cases c29 : 0 ≤ (ji28)
                   ·rw [if_pos c29] at H; have c29b0 : decide (0 ≤ (ji28)) = true := decide_eq_true c29; clear c29; by_cases c30 : (ji28) < (x8_3.length : Int)
                    ·rw [if_pos c30] at H; have c30b0 : decide ((ji28) < (x8_3.length : Int)) = true := decide_eq_true c30; clear c30; obtain ⟨ji31, hji31⟩ : ∃ j_ : Int, (wrap64 (x16_5 + 1)) = j_ := ⟨_, rfl⟩
                     replace H : (if 0 ≤ (ji31) then (if (ji31) < ((rd_L1 x8_3 (ji28)).length : Int) then (if (wrap64 ((wrap64 ((wrap64 ((wrap64 (a2_0 * (wrap64 (x15_4 - x11_2)))) + (wrap64 (a2_1 * (wrap64 (x16_5 - x12_3)))))) + t124)) + (rd (rd_L1 x8_3 (ji28)) (ji31)))) < x13_5 then (if (wrap64 ((wrap64 ((wrap64 ((wrap64 (a2_0 * (wrap64 (x15_4 - x11_2)))) + (wrap64 (a2_1 * (wrap64 (x16_5 - x12_3)))))) + t124)) + (rd (rd_L1 x8_3 (ji28)) (ji31)))) = (wrap64 ((wrap64 ((wrap64 ((wrap64 (a2_0 * (wrap64 (x15_4 - x11_2)))) + (wrap64 (a2_1 * (wrap64 (x16_5 - x12_3)))))) + t124)) + (rd (rd_L1 x8_3 (ji28)) (ji31)))) then (if (ji28) < (x9_3.length : Int) then (if (ji31) < ((rd_L1 x9_3 (ji28)).length : Int) then (diaphoneref06_ends.l4 k5 l0 l1 x8_3 x9_3 x11_2 x12_3 (wrap64 ((wrap64 ((wrap64 ((wrap64 (a2_0 * (wrap64 (x15_4 - x11_2)))) + (wrap64 (a2_1 * (wrap64 (x16_5 - x12_3)))))) + t124)) + (rd (rd_L1 x8_3 (ji28)) (ji31)))) (wrap64 (0 + (rd (rd_L1 x9_3 (ji28)) (ji31)))) x15_4 ji31 a2_0 a2_1 a2_2) else (none)) else (none)) else (diaphoneref06_ends.l4 k5 l0 l1 x8_3 x9_3 x11_2 x12_3 (wrap64 ((wrap64 ((wrap64 ((wrap64 (a2_0 * (wrap64 (x15_4 - x11_2)))) + (wrap64 (a2_1 * (wrap64 (x16_5 - x12_3)))))) + t124)) + (rd (rd_L1 x8_3 (ji28)) (ji31)))) 0 x15_4 ji31 a2_0 a2_1 a2_2)) else (if (wrap64 ((wrap64 ((wrap64 ((wrap64 (a2_0 * (wrap64 (x15_4 - x11_2)))) + (wrap64 (a2_1 * (wrap64 (x16_5 - x12_3)))))) + t124)) + (rd (rd_L1 x8_3 (ji28)) (ji31)))) = x13_5 then (if (ji28) < (x9_3.length : Int) then (if (ji31) < ((rd_L1 x9_3 (ji28)).length : Int) then (diaphoneref06_ends.l4 k5 l0 l1 x8_3 x9_3 x11_2 x12_3 x13_5 (wrap64 (x14_5 + (rd (rd_L1 x9_3 (ji28)) (ji31)))) x15_4 ji31 a2_0 a2_1 a2_2) else (none)) else (none)) else (diaphoneref06_ends.l4 k5 l0 l1 x8_3 x9_3 x11_2 x12_3 x13_5 x14_5 x15_4 ji31 a2_0 a2_1 a2_2))) else (none)) else (none)) = some (r1, r2) := by first | (rw [hji31] at H; exact H) | (simp only [hji31] at H ⊢; exact H)
                     (try rw [hji31] at A27)
                     have hji31w : (IntKind.i64.wrap (x16_5 + 1)) = ji31 := (i64_w _).trans hji31; by_cases c32 : 0 ≤ (ji31)
                     ·rw [if_pos c32] at H; have c32b0 : decide (0 ≤ (ji31)) = true := decide_eq_true c32; clear c32; by_cases c33 : (ji31) < ((rd_L1 x8_3 (ji28)).length : Int)
                      ·rw [if_pos c33] at H; have c33b0 : decide ((ji31) < ((rd_L1 x8_3 (ji28)).length : Int)) = true := decide_eq_true c33; clear c33; by_cases c34 : (wrap64 ((wrap64 ((wrap64 ((wrap64 (a2_0 * (wrap64 (x15_4 - x11_2)))) + (wrap64 (a2_1 * (wrap64 (x16_5 - x12_3)))))) + t124)) + (rd (rd_L1 x8_3 (ji28)) (ji31)))) < x13_5
                       ·rw [if_pos c34] at H; have c34b0 : decide ((wrap64 ((wrap64 ((wrap64 ((wrap64 (a2_0 * (wrap64 (x15_4 - x11_2)))) + (wrap64 (a2_1 * (wrap64 (x16_5 - x12_3)))))) + t124)) + (rd (rd_L1 x8_3 (ji28)) (ji31)))) < x13_5) = true := decide_eq_true c34; clear c34; by_cases c35 : (wrap64 ((wrap64 ((wrap64 ((wrap64 (a2_0 * (wrap64 (x15_4 - x11_2)))) + (wrap64 (a2_1 * (wrap64 (x16_5 - x12_3)))))) + t124)) + (rd (rd_L1 x8_3 (ji28)) (ji31)))) = (wrap64 ((wrap64 ((wrap64 ((wrap64 (a2_0 * (wrap64 (x15_4 - x11_2)))) + (wrap64 (a2_1 * (wrap64 (x16_5 - x12_3)))))) + t124)) + (rd (rd_L1 x8_3 (ji28)) (ji31))))
                        ·rw [if_pos c35] at H; have c35b0 : ((wrap64 ((wrap64 ((wrap64 ((wrap64 (a2_0 * (wrap64 (x15_4 - x11_2)))) + (wrap64 (a2_1 * (wrap64 (x16_5 - x12_3)))))) + t124)) + (rd (rd_L1 x8_3 (ji28)) (ji31)))) == (wrap64 ((wrap64 ((wrap64 ((wrap64 (a2_0 * (wrap64 (x15_4 - x11_2)))) + (wrap64 (a2_1 * (wrap64 (x16_5 - x12_3)))))) + t124)) + (rd (rd_L1 x8_3 (ji28)) (ji31))))) = true := beq_iff_eq.mpr c35; have c35b1 : ((wrap64 ((wrap64 ((wrap64 ((wrap64 (a2_0 * (wrap64 (x15_4 - x11_2)))) + (wrap64 (a2_1 * (wrap64 (x16_5 - x12_3)))))) + t124)) + (rd (rd_L1 x8_3 (ji28)) (ji31)))) != (wrap64 ((wrap64 ((wrap64 ((wrap64 (a2_0 * (wrap64 (x15_4 - x11_2)))) + (wrap64 (a2_1 * (wrap64 (x16_5 - x12_3)))))) + t124)) + (rd (rd_L1 x8_3 (ji28)) (ji31))))) = false := bne_eq_false_iff_eq.mpr c35; clear c35; by_cases c36 : (ji28) < (x9_3.length : Int)
                         ·rw [if_pos c36] at H; have c36b0 : decide ((ji28) < (x9_3.length : Int)) = true := decide_eq_true c36; clear c36; by_cases c37 : (ji31) < ((rd_L1 x9_3 (ji28)).length : Int)
                          ·rw [if_pos c37] at H; have c37b0 : decide ((ji31) < ((rd_L1 x9_3 (ji28)).length : Int)) = true := decide_eq_true c37; clear c37; have H' := XB H; clear H; try go_wp2
                           have n0_ := XB (Kd.S_drew HO_8.out); have n1_ := XB (Kd.S_drew HO_9.out); have n2_ := XB (Xg J101.out); have n3_ := XB (Xb HB.out); clear HO_8; clear HO_9; clear J101; clear HB; have HO_8 := n0_; have HO_9 := n1_; have J101 := n2_; have HB := n3_; clear n0_ n1_ n2_ n3_; have p122 : 0 ≤ (x15_4 : Int) := of_decide_eq_true (by first | (with_reducible assumption) | assumption); have q122 : x15_4 < (l0.length : Int) := of_decide_eq_true (by first | (with_reducible assumption) | assumption); obtain ⟨ad122, e122, hx122_0⟩ := Kd.at_int HR0.out x15_4 p122 q122; have hw122_0 := hx122_0
                           cases e122
                           replace hx122_0 := (HB.out.cell (World.block_lt_of_cell? w _ hx122_0)).trans hx122_0; replace p122 := eq_true p122; replace q122 := eq_true q122; have p123 : 0 ≤ (x16_5 : Int) := of_decide_eq_true (by first | (with_reducible assumption) | assumption); have q123 : x16_5 < (l1.length : Int) := of_decide_eq_true (by first | (with_reducible assumption) | assumption); obtain ⟨ad123, e123, hx123_0⟩ := Kd.at_int HR1.out x16_5 p123 q123; have hw123_0 := hx123_0
                           cases e123
                           replace hx123_0 := (HB.out.cell (World.block_lt_of_cell? w _ hx123_0)).trans hx123_0; replace p123 := eq_true p123; replace q123 := eq_true q123; obtain ⟨Ao39, co39, eo39⟩ := Kd.S_slice HO_8.out; (first | subst eo39 | (injection eo39 with f1_ f2_ f3_; have f4_ := f1_.symm; have f5_ := f3_.symm; clear f1_ f2_ f3_; subst f4_; subst f5_))
                           have p125 : 0 ≤ ((ji28) : Int) := of_decide_eq_true (by first | (with_reducible assumption) | assumption); have q125 : (ji28) < (x8_3.length : Int) := of_decide_eq_true (by first | (with_reducible assumption) | assumption); obtain ⟨ad125, A125_0, c125_0, e125, hx125_0, hl125_0, hi125_0⟩ := at_L1 (Kd.S_reads' HO_8.out).2.2 (ji28) p125 q125
                           cases e125
                           obtain ⟨ce125, hce125, hMe125, hcc125⟩ := Kd.S_get HO_8.out [] (ji28) p125 (by first | exact q125 | exact of_decide_eq_true (by first | (with_reducible assumption) | assumption) | (have e_ := (Kd.S_reads' HO_8.out).1; omega)); obtain ⟨ve125_0, rfl, ge125_0⟩ := hMe125; have hv125_0 := hcc125 0 _ rfl; rw [Nat.add_zero, show ((Kd.slice 3 (Kd.int .i64))).sz = 1 from rfl, Nat.mul_one] at hv125_0; replace hv125_0 := Option.some.inj (hv125_0.symm.trans hx125_0); rw [hv125_0] at ge125_0; have HL125_0 := XB (show Kd.R (Kd.int .i64) 3 _ _ _ _ (rd_L1 x8_3 (ji28)) from ge125_0); clear hv125_0 ge125_0; have HX125_0 := XB hx125_0; clear hcc125 hce125; have HR125_0 := XB hi125_0; have HC125_0 := XB hl125_0; clear hi125_0 hl125_0; replace p125 := eq_true p125; replace q125 := eq_true q125; have p126 : 0 ≤ ((ji31) : Int) := of_decide_eq_true (by first | (with_reducible assumption) | assumption); have q126 : (ji31) < ((rd_L1 x8_3 (ji28)).length : Int) := of_decide_eq_true (by first | (with_reducible assumption) | assumption); obtain ⟨ad126, e126, hx126_0⟩ := Kd.at_int (by repeat (first | (with_reducible exact HR125_0.out) | (with_reducible refine Xr ?_ _) | (with_reducible refine Xs ?_ _) | (with_reducible refine Xt ?_) | exact HR125_0.out)) (ji31) p126 q126
                           cases e126
                           replace p126 := eq_true p126; replace q126 := eq_true q126; refine start_ (n := 35) (S := fun w' => w'.cell? ⟨gb101, 0, none⟩ = some (.int .i64 a2_0) ∧ w'.cell? ⟨gb101, 1, none⟩ = some (.int .i64 a2_1) ∧ w'.cell? ⟨gb101, 2, none⟩ = some (.int .i64 a2_2) ∧ w'.cell? (ad122.add (x15_4).toNat) = some (.int .i64 (rd l0 x15_4)) ∧ w'.cell? (ad123.add (x16_5).toNat) = some (.int .i64 (rd l1 x16_5)) ∧ w'.cell? (ad125.add ((ji28)).toNat) = some (.slice (some ad126) (rd_L1 x8_3 (ji28)).length c125_0) ∧ w'.cell? (ad126.add ((ji31)).toNat) = some (.int .i64 (rd (rd_L1 x8_3 (ji28)) (ji31)))) (ds := []) #[false, false, false, false, false, false, false, false, false, false, false, false, false, false, false, false, false, false, false, false, false, false, false, false, false, false, false, false, false, false, false, false, false, false, false] (by kernel_rfl) rfl rfl ⟨(Xi J101.out 0).trans rfl, (Xi J101.out 1).trans rfl, (Xi J101.out 2).trans rfl, ((HB.out.cell (World.block_lt_of_cell? w _ hw122_0)).trans hw122_0), ((HB.out.cell (World.block_lt_of_cell? w _ hw123_0)).trans hw123_0), hx125_0, hx126_0⟩ (fun hHeld => ?_); refine with_tabW diaphoneref06_ends.tab20 diaphoneref06_ends.bits20 (fun HT_ HW_ => ?_); generalize wr.drew = w38 at HO_8 HO_9 J101 HB HL125_0 HR125_0 HX125_0 hx122_0 hx123_0 hx125_0 hx126_0 hHeld ⊢
                           refine pure_ (i := 0) (N := some 79) (v := ?_) (a' := ?_) (Bq 35 1) rfl rfl (any_of HT_.out (by kernel_rfl)) (fun _ _ _ h => h) (Or.inl ⟨by rfl, ?_⟩) ?_ ?_; rotate_left
                           ·intro w'; go_simp; with_reducible rfl
                           rotate_left
                           ·simp only [Act.put, Xj, Xk, Xl, i64_w, i32_w]; rfl
                           refine pure_ (i := 2) (N := some 81) (v := ?_) (a' := ?_) (Bq 35 5) rfl rfl (any_of HT_.out (by kernel_rfl)) (fun _ _ _ h => h) (Or.inl ⟨by rfl, ?_⟩) ?_ ?_; rotate_left
                           ·intro w'; go_simp; with_reducible rfl
                           rotate_left
                           ·simp only [Act.put, Xj, Xk, Xl, i64_w, i32_w]; rfl
                           refine pure_ (i := 3) (N := some 82) (v := ?_) (a' := ?_) (Bq 35 13) rfl rfl (any_of HT_.out (by kernel_rfl)) (fun _ _ _ h => h) (Or.inl ⟨by rfl, ?_⟩) ?_ ?_; rotate_left
                           ·intro w'; go_simp; with_reducible rfl
                           rotate_left
                           ·simp only [Act.put, Xj, Xk, Xl, i64_w, i32_w]; rfl
                           refine pure_ (i := 4) (N := some 83) (v := ?_) (a' := ?_) (Bq 35 29) rfl rfl (any_of HT_.out (by kernel_rfl)) (fun _ _ _ h => h) (Or.inl ⟨by rfl, ?_⟩) ?_ ?_; rotate_left
                           ·intro w'; go_simp; with_reducible rfl
                           rotate_left
                           ·simp only [Act.put, Xj, Xk, Xl, i64_w, i32_w]; rfl
                           refine pure_ (i := 6) (N := some 85) (v := ?_) (a' := ?_) (Bq 35 93) rfl rfl (any_of HT_.out (by kernel_rfl)) (fun _ _ _ h => h) (Or.inl ⟨by rfl, ?_⟩) ?_ ?_; rotate_left
                           ·intro w'; go_simp; with_reducible rfl
                           rotate_left
                           ·simp only [Act.put, Xj, Xk, Xl, i64_w, i32_w]; rfl
                           refine pure_ (i := 8) (N := some 87) (v := ?_) (a' := ?_) (Bq 35 349) rfl rfl (any_of HT_.out (by kernel_rfl)) (fun _ _ _ h => h) (Or.inl ⟨by rfl, ?_⟩) ?_ ?_; rotate_left
                           ·intro w'; go_simp; with_reducible rfl
                           rotate_left
                           ·simp only [Act.put, Xj, Xk, Xl, i64_w, i32_w]; rfl
                           refine pure_ (i := 9) (N := some 88) (v := ?_) (a' := ?_) (Bq 35 861) rfl rfl (any_of HT_.out (by kernel_rfl)) (fun _ _ _ h => h) (Or.inl ⟨by rfl, ?_⟩) ?_ ?_; rotate_left
                           ·intro w'; go_simp; with_reducible rfl
                           rotate_left
                           ·simp only [Act.put, Xj, Xk, Xl, i64_w, i32_w]; rfl
                           refine pure_ (i := 10) (N := some 89) (v := ?_) (a' := ?_) (Bq 35 1885) rfl rfl (any_of HT_.out (by kernel_rfl)) (fun _ _ _ h => h) (Or.inl ⟨by rfl, ?_⟩) ?_ ?_; rotate_left
                           ·intro w'; go_simp; with_reducible rfl
                           rotate_left
                           ·simp only [Act.put, Xj, Xk, Xl, i64_w, i32_w]; rfl
                           refine pure_ (i := 13) (N := some 92) (v := ?_) (a' := ?_) (Bq 35 10077) rfl rfl (any_of HT_.out (by kernel_rfl)) (fun _ _ _ h => h) (Or.inl ⟨by rfl, ?_⟩) ?_ ?_; rotate_left
                           ·intro w'; go_simp; with_reducible rfl
                           rotate_left
                           ·simp only [Act.put, Xj, Xk, Xl, i64_w, i32_w]; rfl
                           refine pure_ (i := 14) (N := some 93) (v := ?_) (a' := ?_) (Bq 35 26461) rfl rfl (any_of HT_.out (by kernel_rfl)) (fun _ _ _ h => h) (Or.inl ⟨by rfl, ?_⟩) ?_ ?_; rotate_left
                           ·intro w'; go_simp; with_reducible rfl
                           rotate_left
                           ·simp only [Act.put, Xj, Xk, Xl, i64_w, i32_w]; rfl
                           refine pure_ (i := 15) (N := some 94) (v := ?_) (a' := ?_) (Bq 35 59229) rfl rfl (any_of HT_.out (by kernel_rfl)) (fun _ _ _ h => h) (Or.inl ⟨by rfl, ?_⟩) ?_ ?_; rotate_left
                           ·intro w'; go_simp; with_reducible rfl
                           rotate_left
                           ·simp only [Act.put, Xj, Xk, Xl, i64_w, i32_w]; rfl
                           refine pure_ (i := 17) (N := some 96) (v := ?_) (a' := ?_) (Bq 35 190301) rfl rfl (any_of HT_.out (by kernel_rfl)) (fun _ _ _ h => h) (Or.inl ⟨by rfl, ?_⟩) ?_ ?_; rotate_left
                           ·intro w'; go_simp; with_reducible rfl
                           rotate_left
                           ·simp only [Act.put, Xj, Xk, Xl, i64_w, i32_w]; rfl
                           refine pure_ (i := 18) (N := some 97) (v := ?_) (a' := ?_) (Bq 35 452445) rfl rfl (any_of HT_.out (by kernel_rfl)) (fun _ _ _ h => h) (Or.inl ⟨by rfl, ?_⟩) ?_ ?_; rotate_left
                           ·intro w'; go_simp; with_reducible rfl
                           rotate_left
                           ·simp only [Act.put, Xj, Xk, Xl, i64_w, i32_w]; rfl
                           refine pure_ (i := 19) (N := some 98) (v := ?_) (a' := ?_) (Bq 35 976733) rfl rfl (any_of HT_.out (by kernel_rfl)) (fun _ _ _ h => h) (Or.inl ⟨by rfl, ?_⟩) ?_ ?_; rotate_left
                           ·intro w'; go_simp; with_reducible rfl
                           rotate_left
                           ·simp only [Act.put, Xj, Xk, Xl, i64_w, i32_w]; rfl
                           refine pure_ (i := 24) (N := some 103) (v := ?_) (a' := ?_) (Bq 35 17753949) rfl rfl (any_of HT_.out (by kernel_rfl)) (fun _ _ _ h => h) (Or.inl ⟨by rfl, ?_⟩) ?_ ?_; rotate_left
                           ·intro w'; go_simp; with_reducible rfl
                           rotate_left
                           ·simp only [Act.put, Xj, Xk, Xl, i64_w, i32_w]; rfl
                           refine pure_ (i := 25) (N := some 104) (v := ?_) (a' := ?_) (Bq 35 51308381) rfl rfl (any_of HT_.out (by kernel_rfl)) (fun _ _ _ h => h) (Or.inl ⟨by rfl, ?_⟩) ?_ ?_; rotate_left
                           ·intro w'; go_simp; with_reducible rfl
                           rotate_left
                           ·simp only [Act.put, Xj, Xk, Xl, i64_w, i32_w]; rfl
                           refine pure_ (i := 26) (N := some 105) (v := ?_) (a' := ?_) (Bq 35 118417245) rfl rfl (any_of HT_.out (by kernel_rfl)) (fun _ _ _ h => h) (Or.inl ⟨by rfl, ?_⟩) ?_ ?_; rotate_left
                           ·intro w'; go_simp; with_reducible rfl
                           rotate_left
                           ·simp only [Act.put, Xj, Xk, Xl, i64_w, i32_w]; rfl
                           refine pure_ (i := 27) (N := some 106) (v := ?_) (a' := ?_) (Bq 35 252634973) rfl rfl (any_of HT_.out (by kernel_rfl)) (fun _ _ _ h => h) (Or.inl ⟨by rfl, ?_⟩) ?_ ?_; rotate_left
                           ·intro w'; go_simp; with_reducible rfl
                           rotate_left
                           ·simp only [Act.put, Xj, Xk, Xl, i64_w, i32_w]; rfl
                           refine pure_ (i := 29) (N := some 108) (v := ?_) (a' := ?_) (Bq 35 789505885) rfl rfl (any_of HT_.out (by kernel_rfl)) (fun _ _ _ h => h) (Or.inl ⟨by rfl, ?_⟩) ?_ ?_; rotate_left
                           ·intro w'; go_simp; with_reducible rfl
                           rotate_left
                           ·simp only [Act.put, Xj, Xk, Xl, i64_w, i32_w]; rfl
                           refine pure_ (i := 30) (N := some 109) (v := ?_) (a' := ?_) (Bq 35 1863247709) rfl rfl (any_of HT_.out (by kernel_rfl)) (fun _ _ _ h => h) (Or.inl ⟨by rfl, ?_⟩) ?_ ?_; rotate_left
                           ·intro w'; go_simp; with_reducible rfl
                           rotate_left
                           ·simp only [Act.put, Xj, Xk, Xl, i64_w, i32_w]; rfl
                           refine take_ (i := 1) (N := some 80) (v := ?_) (a' := ?_) (Bq 35 1863247711) rfl rfl (take_ofW HT_.out HW_.out (by kernel_rfl)) (fun _ _ _ h => h) (Or.inl ⟨by rfl, ?_⟩) hHeld ?_ ?_; rotate_left
                           ·rintro w' ⟨s0, s1, s2, s3, s4, s5, s6⟩; go_simp; with_reducible rfl
                           rotate_left
                           ·simp only [Act.put, Xj, Xk, Xl, i64_w, i32_w]; rfl
                           refine pure_ (i := 5) (N := some 84) (v := ?_) (a' := ?_) (Bq 35 1863247743) rfl rfl (any_of HT_.out (by kernel_rfl)) (fun _ _ _ h => h) (Or.inl ⟨by rfl, ?_⟩) ?_ ?_; rotate_left
                           ·intro w'; go_simp; with_reducible rfl
                           rotate_left
                           ·simp only [Act.put, Xj, Xk, Xl, i64_w, i32_w]; rfl
                           refine take_ (i := 7) (N := some 86) (v := ?_) (a' := ?_) (Bq 35 1863247871) rfl rfl (take_ofW HT_.out HW_.out (by kernel_rfl)) (fun _ _ _ h => h) (Or.inl ⟨by rfl, ?_⟩) hHeld ?_ ?_; rotate_left
                           ·rintro w' ⟨s0, s1, s2, s3, s4, s5, s6⟩; go_simp; with_reducible rfl
                           rotate_left
                           ·simp only [Act.put, Xj, Xk, Xl, i64_w, i32_w]; rfl
                           refine pure_ (i := 11) (N := some 90) (v := ?_) (a' := ?_) (Bq 35 1863249919) rfl rfl (any_of HT_.out (by kernel_rfl)) (fun _ _ _ h => h) (Or.inl ⟨by rfl, ?_⟩) ?_ ?_; rotate_left
                           ·intro w'; go_simp; with_reducible rfl
                           rotate_left
                           ·simp only [Act.put, Xj, Xk, Xl, i64_w, i32_w]; rfl
                           refine pure_ (i := 12) (N := some 91) (v := ?_) (a' := ?_) (Bq 35 1863254015) rfl rfl (any_of HT_.out (by kernel_rfl)) (fun _ _ _ h => h) (Or.inl ⟨by rfl, ?_⟩) ?_ ?_; rotate_left
                           ·intro w'; go_simp; with_reducible rfl
                           rotate_left
                           ·simp only [Act.put, Xj, Xk, Xl, i64_w, i32_w]; rfl
                           refine take_ (i := 16) (N := some 95) (v := ?_) (a' := ?_) (Bq 35 1863319551) rfl rfl (take_ofW HT_.out HW_.out (by kernel_rfl)) (fun _ _ _ h => h) (Or.inl ⟨by rfl, ?_⟩) hHeld ?_ ?_; rotate_left
                           ·rintro w' ⟨s0, s1, s2, s3, s4, s5, s6⟩; go_simp; with_reducible rfl
                           rotate_left
                           ·simp only [Act.put, Xj, Xk, Xl, i64_w, i32_w]; rfl
                           refine take_ (i := 20) (N := some 99) (v := ?_) (a' := ?_) (Bq 35 1864368127) rfl rfl (take_ofW HT_.out HW_.out (by kernel_rfl)) (fun _ _ _ h => h) (Or.inl ⟨by rfl, ?_⟩) hHeld ?_ ?_; rotate_left
                           ·rintro w' ⟨s0, s1, s2, s3, s4, s5, s6⟩; go_simp; with_reducible rfl
                           rotate_left
                           ·simp only [Act.put, Xj, Xk, Xl, i64_w, i32_w]; rfl
                           refine take_ (i := 21) (N := some 100) (v := ?_) (a' := ?_) (Bq 35 1866465279) rfl rfl (take_ofW HT_.out HW_.out (by kernel_rfl)) (fun _ _ _ h => h) (Or.inl ⟨by rfl, ?_⟩) hHeld ?_ ?_; rotate_left
                           ·rintro w' ⟨s0, s1, s2, s3, s4, s5, s6⟩; go_simp; with_reducible rfl
                           rotate_left
                           ·simp only [Act.put, Xj, Xk, Xl, i64_w, i32_w]; rfl
                           refine take_ (i := 28) (N := some 107) (v := ?_) (a' := ?_) (Bq 35 2134900735) rfl rfl (take_ofW HT_.out HW_.out (by kernel_rfl)) (fun _ _ _ h => h) (Or.inl ⟨by rfl, ?_⟩) hHeld ?_ ?_; rotate_left
                           ·rintro w' ⟨s0, s1, s2, s3, s4, s5, s6⟩; go_simp; with_reducible rfl
                           rotate_left
                           ·simp only [Act.put, Xj, Xk, Xl, i64_w, i32_w]; rfl
                           refine pure_ (i := 31) (N := some 110) (v := ?_) (a' := ?_) (Bq 35 4282384383) rfl rfl (any_of HT_.out (by kernel_rfl)) (fun _ _ _ h => h) (Or.inl ⟨by rfl, ?_⟩) ?_ ?_; rotate_left
                           ·intro w'; go_simp; with_reducible rfl
                           rotate_left
                           ·simp only [Act.put, Xj, Xk, Xl, i64_w, i32_w]; rfl
                           refine take_ (i := 32) (N := some 111) (v := ?_) (a' := ?_) (Bq 35 8577351679) rfl rfl (take_ofW HT_.out HW_.out (by kernel_rfl)) (fun _ _ _ h => h) (Or.inl ⟨by rfl, ?_⟩) hHeld ?_ ?_; rotate_left
                           ·rintro w' ⟨s0, s1, s2, s3, s4, s5, s6⟩; go_simp; with_reducible rfl
                           rotate_left
                           ·simp only [Act.put, Xj, Xk, Xl, i64_w, i32_w]; rfl
                           refine one_ (i := 22) (N := some 101) (Bq 35 8581545983) rfl rfl (one_of HT_.out (by kernel_rfl)) (by decide) (fun K hK => ?_); refine goes_ Try.func68 (by kernel_rfl) rfl #[.int .i64 (rd l0 x15_4), .int .i64 (rd l1 x16_5), .agg #[.int .i64 a2_0, .int .i64 a2_1, .int .i64 a2_2]] (by rfl) rfl rfl (by (try simp only [Xm, Xn, Xo]); first | done | rfl | (simp only [Xp, Xq]; rfl)) ?_; with_reducible refine (diaphoneref06_change.calls (rd l0 x15_4) (rd l1 x16_5) a2_0 a2_1 a2_2 t124 _ A27.out).mono ?_
                           rintro e w40 ⟨rfl, hb⟩; have HS5_ := (hb.cell (World.block_lt_of_cell? _ _ (hHeld.2.2.2.2.2.1))).trans (hHeld.2.2.2.2.2.1); have HS6_ := (hb.cell (World.block_lt_of_cell? _ _ (hHeld.2.2.2.2.2.2))).trans (hHeld.2.2.2.2.2.2); refine ⟨_, rfl, ?_⟩; have n0_ := XB (Kd.S_below (by (with_reducible repeat (first | apply Kd.S_alloc | apply Kd.S_drewN | apply Kd.S_drew)); exact HO_8.out) hb); have n1_ := XB (Kd.S_below (by (with_reducible repeat (first | apply Kd.S_alloc | apply Kd.S_drewN | apply Kd.S_drew)); exact HO_9.out) hb); have n2_ := XB (Xy (by (with_reducible repeat (first | apply Xv | apply Xw | apply Xx)); exact HL125_0.out) hb); have n3_ := XB (XA (g := gb101) (o := .cells #[.int .i64 a2_0, .int .i64 a2_1, .int .i64 a2_2] 24 (0, 0)) (by (with_reducible repeat (first | refine Xf ?_ _ | refine Xg ?_ | refine Xe ?_ _)); exact J101.out) hb); have n4_ := XB (Xu (by repeat (first | (with_reducible exact HR125_0.out) | (with_reducible refine Xr ?_ _) | (with_reducible refine Xs ?_ _) | (with_reducible refine Xt ?_) | exact HR125_0.out)) hb); have n5_ := XB (pw_cell_below hb HX125_0.out); have n6_ := XB (Xz (by repeat (first | (with_reducible first | exact HB.out | apply Xc | apply Xa | apply Xb | refine Xd ?_ E101.out) | exact HB.out)) hb); clear HO_8; clear HO_9; clear HL125_0; clear J101; clear HR125_0; clear HX125_0; clear HB; have HO_8 := n0_; have HO_9 := n1_; have HL125_0 := n2_; have J101 := n3_; have HR125_0 := n4_; have HX125_0 := n5_; have HB := n6_; clear n0_ n1_ n2_ n3_ n4_ n5_ n6_
                           (try clear hb)
                           (try clear hb2)
                           (try clear hk)
                           (try clear hi)
                           refine hK.out _ _ ⟨(Xi J101.out 0).trans rfl, (Xi J101.out 1).trans rfl, (Xi J101.out 2).trans rfl, ((HB.out.cell (World.block_lt_of_cell? w _ hw122_0)).trans hw122_0), ((HB.out.cell (World.block_lt_of_cell? w _ hw123_0)).trans hw123_0), HS5_, HS6_⟩ (fun hHeld => ?_); clear hK K; refine norm_ (a' := ?_) ?_ ?_; rotate_left
                           ·show Act.put _ (some 101) _ = _
                            simp only [Act.put, Xj, Xk, Xl, i64_w, i32_w]; rfl
                           refine pure_ (i := 23) (N := some 102) (v := ?_) (a' := ?_) (Bq 35 8589934591) rfl rfl (any_of HT_.out (by kernel_rfl)) (fun _ _ _ h => h) (Or.inl ⟨by rfl, ?_⟩) ?_ ?_; rotate_left
                           ·intro w'; go_simp; with_reducible rfl
                           rotate_left
                           ·simp only [Act.put, Xj, Xk, Xl, i64_w, i32_w]; rfl
                           refine pure_ (i := 33) (N := some 112) (v := ?_) (a' := ?_) (Bq 35 17179869183) rfl rfl (any_of HT_.out (by kernel_rfl)) (fun _ _ _ h => h) (Or.inl ⟨by rfl, ?_⟩) ?_ ?_; rotate_left
                           ·intro w'; go_simp; with_reducible rfl
                           rotate_left
                           ·simp only [Act.put, Xj, Xk, Xl, i64_w, i32_w]; rfl
                           refine pure_ (i := 34) (N := some 17) (v := ?_) (a' := ?_) (Bq 35 34359738367) rfl rfl (any_of HT_.out (by kernel_rfl)) (fun _ _ _ h => h) (Or.inl ⟨by rfl, ?_⟩) ?_ ?_; rotate_left
                           ·intro w'; go_simp; with_reducible rfl
                           rotate_left
                           ·simp only [Act.put, Xj, Xk, Xl, i64_w, i32_w]; rfl
                           refine done_ (done_of HT_.out (by kernel_rfl)) ?_; obtain ⟨Ao41, co41, eo41⟩ := Kd.S_slice HO_9.out; subst eo41; have p127 : 0 ≤ ((ji28) : Int) := of_decide_eq_true (by first | (with_reducible assumption) | assumption); have q127 : (ji28) < (x9_3.length : Int) := of_decide_eq_true (by first | (with_reducible assumption) | assumption); obtain ⟨ad127, A127_0, c127_0, e127, hx127_0, hl127_0, hi127_0⟩ := at_L1 (Kd.S_reads' HO_9.out).2.2 (ji28) p127 q127
                           cases e127
                           obtain ⟨ce127, hce127, hMe127, hcc127⟩ := Kd.S_get HO_9.out [] (ji28) p127 (by first | exact q127 | exact of_decide_eq_true (by first | (with_reducible assumption) | assumption) | (have e_ := (Kd.S_reads' HO_9.out).1; omega)); obtain ⟨ve127_0, rfl, ge127_0⟩ := hMe127; have hv127_0 := hcc127 0 _ rfl; rw [Nat.add_zero, show ((Kd.slice 3 (Kd.int .i64))).sz = 1 from rfl, Nat.mul_one] at hv127_0; replace hv127_0 := Option.some.inj (hv127_0.symm.trans hx127_0); rw [hv127_0] at ge127_0; have HL127_0 := XB (show Kd.R (Kd.int .i64) 3 _ _ _ _ (rd_L1 x9_3 (ji28)) from ge127_0); clear hv127_0 ge127_0; have HX127_0 := XB hx127_0; clear hcc127 hce127; have HR127_0 := XB hi127_0; have HC127_0 := XB hl127_0; clear hi127_0 hl127_0; replace p127 := eq_true p127; replace q127 := eq_true q127; have p128 : 0 ≤ ((ji31) : Int) := of_decide_eq_true (by first | (with_reducible assumption) | assumption); have q128 : (ji31) < ((rd_L1 x9_3 (ji28)).length : Int) := of_decide_eq_true (by first | (with_reducible assumption) | assumption); obtain ⟨ad128, e128, hx128_0⟩ := Kd.at_int (by repeat (first | (with_reducible exact HR127_0.out) | (with_reducible refine Xr ?_ _) | (with_reducible refine Xs ?_ _) | (with_reducible refine Xt ?_) | exact HR127_0.out)) (ji31) p128 q128
                           cases e128
                           replace p128 := eq_true p128; replace q128 := eq_true q128; try go_wp2
                           go_roundg k5
                           case measure => have := HK1.out; have := HK2.out; have := HK3.out; have := HK4.out; have := HK5.out; omega
                           case rel => exact ⟨(wrap64 ((wrap64 ((wrap64 ((wrap64 (a2_0 * (wrap64 (x15_4 - x11_2)))) + (wrap64 (a2_1 * (wrap64 (x16_5 - x12_3)))))) + t124)) + (rd (rd_L1 x8_3 (ji28)) (ji31)))), (wrap64 (0 + (rd (rd_L1 x9_3 (ji28)) (ji31)))), (ji31), (by first | rfl | (simp; done) | (simp only [← hji28, ← hji31] <;> (first | rfl | simp)) | (simp [*]; done)), (by first | rfl | (simp; done) | (simp only [← hji28, ← hji31] <;> (first | rfl | simp)) | (simp [*]; done)), (by first | rfl | (simp; done) | (simp only [← hji31] <;> (first | rfl | simp)) | (simp [*]; done)), H', ⟨by have := HK1.out; have := HK2.out; have := HK3.out; have := HK4.out; have := HK5.out; omega⟩, ⟨by (with_reducible repeat (first | apply Kd.S_alloc | apply Kd.S_drewN | apply Kd.S_drew)); exact HO_8.out⟩, ⟨by (with_reducible repeat (first | apply Kd.S_alloc | apply Kd.S_drewN | apply Kd.S_drew)); exact HO_9.out⟩, ⟨by (with_reducible repeat (first | refine Xf ?_ _ | refine Xg ?_ | refine Xe ?_ _)); exact J101.out⟩, ⟨by repeat (first | (with_reducible first | exact HB.out | apply Xc | apply Xa | apply Xb | refine Xd ?_ E101.out) | exact HB.out)⟩⟩
                          ·rw [if_neg c37] at H; exact absurd H (by simp)
                         ·rw [if_neg c36] at H; exact absurd H (by simp)
                        ·exact absurd rfl c35
                       ·rw [if_neg c34] at H; have c34b0 : decide ((wrap64 ((wrap64 ((wrap64 ((wrap64 (a2_0 * (wrap64 (x15_4 - x11_2)))) + (wrap64 (a2_1 * (wrap64 (x16_5 - x12_3)))))) + t124)) + (rd (rd_L1 x8_3 (ji28)) (ji31)))) < x13_5) = false := decide_eq_false c34; clear c34; by_cases c45 : (wrap64 ((wrap64 ((wrap64 ((wrap64 (a2_0 * (wrap64 (x15_4 - x11_2)))) + (wrap64 (a2_1 * (wrap64 (x16_5 - x12_3)))))) + t124)) + (rd (rd_L1 x8_3 (ji28)) (ji31)))) = x13_5
                        ·rw [if_pos c45] at H; have c45b0 : ((wrap64 ((wrap64 ((wrap64 ((wrap64 (a2_0 * (wrap64 (x15_4 - x11_2)))) + (wrap64 (a2_1 * (wrap64 (x16_5 - x12_3)))))) + t124)) + (rd (rd_L1 x8_3 (ji28)) (ji31)))) == x13_5) = true := beq_iff_eq.mpr c45; have c45b1 : ((wrap64 ((wrap64 ((wrap64 ((wrap64 (a2_0 * (wrap64 (x15_4 - x11_2)))) + (wrap64 (a2_1 * (wrap64 (x16_5 - x12_3)))))) + t124)) + (rd (rd_L1 x8_3 (ji28)) (ji31)))) != x13_5) = false := bne_eq_false_iff_eq.mpr c45; clear c45; by_cases c46 : (ji28) < (x9_3.length : Int)
                         ·rw [if_pos c46] at H; have c46b0 : decide ((ji28) < (x9_3.length : Int)) = true := decide_eq_true c46; clear c46; by_cases c47 : (ji31) < ((rd_L1 x9_3 (ji28)).length : Int)
                          ·rw [if_pos c47] at H; have c47b0 : decide ((ji31) < ((rd_L1 x9_3 (ji28)).length : Int)) = true := decide_eq_true c47; clear c47; have H' := XB H; clear H; try go_wp2
                           have n0_ := XB (Kd.S_drew HO_8.out); have n1_ := XB (Kd.S_drew HO_9.out); have n2_ := XB (Xg J101.out); have n3_ := XB (Xb HB.out); clear HO_8; clear HO_9; clear J101; clear HB; have HO_8 := n0_; have HO_9 := n1_; have J101 := n2_; have HB := n3_; clear n0_ n1_ n2_ n3_; have p122 : 0 ≤ (x15_4 : Int) := of_decide_eq_true (by first | (with_reducible assumption) | assumption); have q122 : x15_4 < (l0.length : Int) := of_decide_eq_true (by first | (with_reducible assumption) | assumption); obtain ⟨ad122, e122, hx122_0⟩ := Kd.at_int HR0.out x15_4 p122 q122; have hw122_0 := hx122_0
                           cases e122
                           replace hx122_0 := (HB.out.cell (World.block_lt_of_cell? w _ hx122_0)).trans hx122_0; replace p122 := eq_true p122; replace q122 := eq_true q122; have p123 : 0 ≤ (x16_5 : Int) := of_decide_eq_true (by first | (with_reducible assumption) | assumption); have q123 : x16_5 < (l1.length : Int) := of_decide_eq_true (by first | (with_reducible assumption) | assumption); obtain ⟨ad123, e123, hx123_0⟩ := Kd.at_int HR1.out x16_5 p123 q123; have hw123_0 := hx123_0
                           cases e123
                           replace hx123_0 := (HB.out.cell (World.block_lt_of_cell? w _ hx123_0)).trans hx123_0; replace p123 := eq_true p123; replace q123 := eq_true q123; obtain ⟨Ao49, co49, eo49⟩ := Kd.S_slice HO_8.out; (first | subst eo49 | (injection eo49 with f1_ f2_ f3_; have f4_ := f1_.symm; have f5_ := f3_.symm; clear f1_ f2_ f3_; subst f4_; subst f5_))
                           have p125 : 0 ≤ ((ji28) : Int) := of_decide_eq_true (by first | (with_reducible assumption) | assumption); have q125 : (ji28) < (x8_3.length : Int) := of_decide_eq_true (by first | (with_reducible assumption) | assumption); obtain ⟨ad125, A125_0, c125_0, e125, hx125_0, hl125_0, hi125_0⟩ := at_L1 (Kd.S_reads' HO_8.out).2.2 (ji28) p125 q125
                           cases e125
                           obtain ⟨ce125, hce125, hMe125, hcc125⟩ := Kd.S_get HO_8.out [] (ji28) p125 (by first | exact q125 | exact of_decide_eq_true (by first | (with_reducible assumption) | assumption) | (have e_ := (Kd.S_reads' HO_8.out).1; omega)); obtain ⟨ve125_0, rfl, ge125_0⟩ := hMe125; have hv125_0 := hcc125 0 _ rfl; rw [Nat.add_zero, show ((Kd.slice 3 (Kd.int .i64))).sz = 1 from rfl, Nat.mul_one] at hv125_0; replace hv125_0 := Option.some.inj (hv125_0.symm.trans hx125_0); rw [hv125_0] at ge125_0; have HL125_0 := XB (show Kd.R (Kd.int .i64) 3 _ _ _ _ (rd_L1 x8_3 (ji28)) from ge125_0); clear hv125_0 ge125_0; have HX125_0 := XB hx125_0; clear hcc125 hce125; have HR125_0 := XB hi125_0; have HC125_0 := XB hl125_0; clear hi125_0 hl125_0; replace p125 := eq_true p125; replace q125 := eq_true q125; have p126 : 0 ≤ ((ji31) : Int) := of_decide_eq_true (by first | (with_reducible assumption) | assumption); have q126 : (ji31) < ((rd_L1 x8_3 (ji28)).length : Int) := of_decide_eq_true (by first | (with_reducible assumption) | assumption); obtain ⟨ad126, e126, hx126_0⟩ := Kd.at_int (by repeat (first | (with_reducible exact HR125_0.out) | (with_reducible refine Xr ?_ _) | (with_reducible refine Xs ?_ _) | (with_reducible refine Xt ?_) | exact HR125_0.out)) (ji31) p126 q126
                           cases e126
                           replace p126 := eq_true p126; replace q126 := eq_true q126; refine start_ (n := 35) (S := fun w' => w'.cell? ⟨gb101, 0, none⟩ = some (.int .i64 a2_0) ∧ w'.cell? ⟨gb101, 1, none⟩ = some (.int .i64 a2_1) ∧ w'.cell? ⟨gb101, 2, none⟩ = some (.int .i64 a2_2) ∧ w'.cell? (ad122.add (x15_4).toNat) = some (.int .i64 (rd l0 x15_4)) ∧ w'.cell? (ad123.add (x16_5).toNat) = some (.int .i64 (rd l1 x16_5)) ∧ w'.cell? (ad125.add ((ji28)).toNat) = some (.slice (some ad126) (rd_L1 x8_3 (ji28)).length c125_0) ∧ w'.cell? (ad126.add ((ji31)).toNat) = some (.int .i64 (rd (rd_L1 x8_3 (ji28)) (ji31)))) (ds := []) #[false, false, false, false, false, false, false, false, false, false, false, false, false, false, false, false, false, false, false, false, false, false, false, false, false, false, false, false, false, false, false, false, false, false, false] (by kernel_rfl) rfl rfl ⟨(Xi J101.out 0).trans rfl, (Xi J101.out 1).trans rfl, (Xi J101.out 2).trans rfl, ((HB.out.cell (World.block_lt_of_cell? w _ hw122_0)).trans hw122_0), ((HB.out.cell (World.block_lt_of_cell? w _ hw123_0)).trans hw123_0), hx125_0, hx126_0⟩ (fun hHeld => ?_); refine with_tabW diaphoneref06_ends.tab20 diaphoneref06_ends.bits20 (fun HT_ HW_ => ?_); generalize wr.drew = w48 at HO_8 HO_9 J101 HB HL125_0 HR125_0 HX125_0 hx122_0 hx123_0 hx125_0 hx126_0 hHeld ⊢
                           refine pure_ (i := 0) (N := some 79) (v := ?_) (a' := ?_) (Bq 35 1) rfl rfl (any_of HT_.out (by kernel_rfl)) (fun _ _ _ h => h) (Or.inl ⟨by rfl, ?_⟩) ?_ ?_; rotate_left
                           ·intro w'; go_simp; with_reducible rfl
                           rotate_left
                           ·simp only [Act.put, Xj, Xk, Xl, i64_w, i32_w]; rfl
                           refine pure_ (i := 2) (N := some 81) (v := ?_) (a' := ?_) (Bq 35 5) rfl rfl (any_of HT_.out (by kernel_rfl)) (fun _ _ _ h => h) (Or.inl ⟨by rfl, ?_⟩) ?_ ?_; rotate_left
                           ·intro w'; go_simp; with_reducible rfl
                           rotate_left
                           ·simp only [Act.put, Xj, Xk, Xl, i64_w, i32_w]; rfl
                           refine pure_ (i := 3) (N := some 82) (v := ?_) (a' := ?_) (Bq 35 13) rfl rfl (any_of HT_.out (by kernel_rfl)) (fun _ _ _ h => h) (Or.inl ⟨by rfl, ?_⟩) ?_ ?_; rotate_left
                           ·intro w'; go_simp; with_reducible rfl
                           rotate_left
                           ·simp only [Act.put, Xj, Xk, Xl, i64_w, i32_w]; rfl
                           refine pure_ (i := 4) (N := some 83) (v := ?_) (a' := ?_) (Bq 35 29) rfl rfl (any_of HT_.out (by kernel_rfl)) (fun _ _ _ h => h) (Or.inl ⟨by rfl, ?_⟩) ?_ ?_; rotate_left
                           ·intro w'; go_simp; with_reducible rfl
                           rotate_left
                           ·simp only [Act.put, Xj, Xk, Xl, i64_w, i32_w]; rfl
                           refine pure_ (i := 6) (N := some 85) (v := ?_) (a' := ?_) (Bq 35 93) rfl rfl (any_of HT_.out (by kernel_rfl)) (fun _ _ _ h => h) (Or.inl ⟨by rfl, ?_⟩) ?_ ?_; rotate_left
                           ·intro w'; go_simp; with_reducible rfl
                           rotate_left
                           ·simp only [Act.put, Xj, Xk, Xl, i64_w, i32_w]; rfl
                           refine pure_ (i := 8) (N := some 87) (v := ?_) (a' := ?_) (Bq 35 349) rfl rfl (any_of HT_.out (by kernel_rfl)) (fun _ _ _ h => h) (Or.inl ⟨by rfl, ?_⟩) ?_ ?_; rotate_left
                           ·intro w'; go_simp; with_reducible rfl
                           rotate_left
                           ·simp only [Act.put, Xj, Xk, Xl, i64_w, i32_w]; rfl
                           refine pure_ (i := 9) (N := some 88) (v := ?_) (a' := ?_) (Bq 35 861) rfl rfl (any_of HT_.out (by kernel_rfl)) (fun _ _ _ h => h) (Or.inl ⟨by rfl, ?_⟩) ?_ ?_; rotate_left
                           ·intro w'; go_simp; with_reducible rfl
                           rotate_left
                           ·simp only [Act.put, Xj, Xk, Xl, i64_w, i32_w]; rfl
                           refine pure_ (i := 10) (N := some 89) (v := ?_) (a' := ?_) (Bq 35 1885) rfl rfl (any_of HT_.out (by kernel_rfl)) (fun _ _ _ h => h) (Or.inl ⟨by rfl, ?_⟩) ?_ ?_; rotate_left
                           ·intro w'; go_simp; with_reducible rfl
                           rotate_left
                           ·simp only [Act.put, Xj, Xk, Xl, i64_w, i32_w]; rfl
                           refine pure_ (i := 13) (N := some 92) (v := ?_) (a' := ?_) (Bq 35 10077) rfl rfl (any_of HT_.out (by kernel_rfl)) (fun _ _ _ h => h) (Or.inl ⟨by rfl, ?_⟩) ?_ ?_; rotate_left
                           ·intro w'; go_simp; with_reducible rfl
                           rotate_left
                           ·simp only [Act.put, Xj, Xk, Xl, i64_w, i32_w]; rfl
                           refine pure_ (i := 14) (N := some 93) (v := ?_) (a' := ?_) (Bq 35 26461) rfl rfl (any_of HT_.out (by kernel_rfl)) (fun _ _ _ h => h) (Or.inl ⟨by rfl, ?_⟩) ?_ ?_; rotate_left
                           ·intro w'; go_simp; with_reducible rfl
                           rotate_left
                           ·simp only [Act.put, Xj, Xk, Xl, i64_w, i32_w]; rfl
                           refine pure_ (i := 15) (N := some 94) (v := ?_) (a' := ?_) (Bq 35 59229) rfl rfl (any_of HT_.out (by kernel_rfl)) (fun _ _ _ h => h) (Or.inl ⟨by rfl, ?_⟩) ?_ ?_; rotate_left
                           ·intro w'; go_simp; with_reducible rfl
                           rotate_left
                           ·simp only [Act.put, Xj, Xk, Xl, i64_w, i32_w]; rfl
                           refine pure_ (i := 17) (N := some 96) (v := ?_) (a' := ?_) (Bq 35 190301) rfl rfl (any_of HT_.out (by kernel_rfl)) (fun _ _ _ h => h) (Or.inl ⟨by rfl, ?_⟩) ?_ ?_; rotate_left
                           ·intro w'; go_simp; with_reducible rfl
                           rotate_left
                           ·simp only [Act.put, Xj, Xk, Xl, i64_w, i32_w]; rfl
                           refine pure_ (i := 18) (N := some 97) (v := ?_) (a' := ?_) (Bq 35 452445) rfl rfl (any_of HT_.out (by kernel_rfl)) (fun _ _ _ h => h) (Or.inl ⟨by rfl, ?_⟩) ?_ ?_; rotate_left
                           ·intro w'; go_simp; with_reducible rfl
                           rotate_left
                           ·simp only [Act.put, Xj, Xk, Xl, i64_w, i32_w]; rfl
                           refine pure_ (i := 19) (N := some 98) (v := ?_) (a' := ?_) (Bq 35 976733) rfl rfl (any_of HT_.out (by kernel_rfl)) (fun _ _ _ h => h) (Or.inl ⟨by rfl, ?_⟩) ?_ ?_; rotate_left
                           ·intro w'; go_simp; with_reducible rfl
                           rotate_left
                           ·simp only [Act.put, Xj, Xk, Xl, i64_w, i32_w]; rfl
                           refine pure_ (i := 24) (N := some 103) (v := ?_) (a' := ?_) (Bq 35 17753949) rfl rfl (any_of HT_.out (by kernel_rfl)) (fun _ _ _ h => h) (Or.inl ⟨by rfl, ?_⟩) ?_ ?_; rotate_left
                           ·intro w'; go_simp; with_reducible rfl
                           rotate_left
                           ·simp only [Act.put, Xj, Xk, Xl, i64_w, i32_w]; rfl
                           refine pure_ (i := 25) (N := some 104) (v := ?_) (a' := ?_) (Bq 35 51308381) rfl rfl (any_of HT_.out (by kernel_rfl)) (fun _ _ _ h => h) (Or.inl ⟨by rfl, ?_⟩) ?_ ?_; rotate_left
                           ·intro w'; go_simp; with_reducible rfl
                           rotate_left
                           ·simp only [Act.put, Xj, Xk, Xl, i64_w, i32_w]; rfl
                           refine pure_ (i := 26) (N := some 105) (v := ?_) (a' := ?_) (Bq 35 118417245) rfl rfl (any_of HT_.out (by kernel_rfl)) (fun _ _ _ h => h) (Or.inl ⟨by rfl, ?_⟩) ?_ ?_; rotate_left
                           ·intro w'; go_simp; with_reducible rfl
                           rotate_left
                           ·simp only [Act.put, Xj, Xk, Xl, i64_w, i32_w]; rfl
                           refine pure_ (i := 27) (N := some 106) (v := ?_) (a' := ?_) (Bq 35 252634973) rfl rfl (any_of HT_.out (by kernel_rfl)) (fun _ _ _ h => h) (Or.inl ⟨by rfl, ?_⟩) ?_ ?_; rotate_left
                           ·intro w'; go_simp; with_reducible rfl
                           rotate_left
                           ·simp only [Act.put, Xj, Xk, Xl, i64_w, i32_w]; rfl
                           refine pure_ (i := 29) (N := some 108) (v := ?_) (a' := ?_) (Bq 35 789505885) rfl rfl (any_of HT_.out (by kernel_rfl)) (fun _ _ _ h => h) (Or.inl ⟨by rfl, ?_⟩) ?_ ?_; rotate_left
                           ·intro w'; go_simp; with_reducible rfl
                           rotate_left
                           ·simp only [Act.put, Xj, Xk, Xl, i64_w, i32_w]; rfl
                           refine pure_ (i := 30) (N := some 109) (v := ?_) (a' := ?_) (Bq 35 1863247709) rfl rfl (any_of HT_.out (by kernel_rfl)) (fun _ _ _ h => h) (Or.inl ⟨by rfl, ?_⟩) ?_ ?_; rotate_left
                           ·intro w'; go_simp; with_reducible rfl
                           rotate_left
                           ·simp only [Act.put, Xj, Xk, Xl, i64_w, i32_w]; rfl
                           refine take_ (i := 1) (N := some 80) (v := ?_) (a' := ?_) (Bq 35 1863247711) rfl rfl (take_ofW HT_.out HW_.out (by kernel_rfl)) (fun _ _ _ h => h) (Or.inl ⟨by rfl, ?_⟩) hHeld ?_ ?_; rotate_left
                           ·rintro w' ⟨s0, s1, s2, s3, s4, s5, s6⟩; go_simp; with_reducible rfl
                           rotate_left
                           ·simp only [Act.put, Xj, Xk, Xl, i64_w, i32_w]; rfl
                           refine pure_ (i := 5) (N := some 84) (v := ?_) (a' := ?_) (Bq 35 1863247743) rfl rfl (any_of HT_.out (by kernel_rfl)) (fun _ _ _ h => h) (Or.inl ⟨by rfl, ?_⟩) ?_ ?_; rotate_left
                           ·intro w'; go_simp; with_reducible rfl
                           rotate_left
                           ·simp only [Act.put, Xj, Xk, Xl, i64_w, i32_w]; rfl
                           refine take_ (i := 7) (N := some 86) (v := ?_) (a' := ?_) (Bq 35 1863247871) rfl rfl (take_ofW HT_.out HW_.out (by kernel_rfl)) (fun _ _ _ h => h) (Or.inl ⟨by rfl, ?_⟩) hHeld ?_ ?_; rotate_left
                           ·rintro w' ⟨s0, s1, s2, s3, s4, s5, s6⟩; go_simp; with_reducible rfl
                           rotate_left
                           ·simp only [Act.put, Xj, Xk, Xl, i64_w, i32_w]; rfl
                           refine pure_ (i := 11) (N := some 90) (v := ?_) (a' := ?_) (Bq 35 1863249919) rfl rfl (any_of HT_.out (by kernel_rfl)) (fun _ _ _ h => h) (Or.inl ⟨by rfl, ?_⟩) ?_ ?_; rotate_left
                           ·intro w'; go_simp; with_reducible rfl
                           rotate_left
                           ·simp only [Act.put, Xj, Xk, Xl, i64_w, i32_w]; rfl
                           refine pure_ (i := 12) (N := some 91) (v := ?_) (a' := ?_) (Bq 35 1863254015) rfl rfl (any_of HT_.out (by kernel_rfl)) (fun _ _ _ h => h) (Or.inl ⟨by rfl, ?_⟩) ?_ ?_; rotate_left
                           ·intro w'; go_simp; with_reducible rfl
                           rotate_left
                           ·simp only [Act.put, Xj, Xk, Xl, i64_w, i32_w]; rfl
                           refine take_ (i := 16) (N := some 95) (v := ?_) (a' := ?_) (Bq 35 1863319551) rfl rfl (take_ofW HT_.out HW_.out (by kernel_rfl)) (fun _ _ _ h => h) (Or.inl ⟨by rfl, ?_⟩) hHeld ?_ ?_; rotate_left
                           ·rintro w' ⟨s0, s1, s2, s3, s4, s5, s6⟩; go_simp; with_reducible rfl
                           rotate_left
                           ·simp only [Act.put, Xj, Xk, Xl, i64_w, i32_w]; rfl
                           refine take_ (i := 20) (N := some 99) (v := ?_) (a' := ?_) (Bq 35 1864368127) rfl rfl (take_ofW HT_.out HW_.out (by kernel_rfl)) (fun _ _ _ h => h) (Or.inl ⟨by rfl, ?_⟩) hHeld ?_ ?_; rotate_left
                           ·rintro w' ⟨s0, s1, s2, s3, s4, s5, s6⟩; go_simp; with_reducible rfl
                           rotate_left
                           ·simp only [Act.put, Xj, Xk, Xl, i64_w, i32_w]; rfl
                           refine take_ (i := 21) (N := some 100) (v := ?_) (a' := ?_) (Bq 35 1866465279) rfl rfl (take_ofW HT_.out HW_.out (by kernel_rfl)) (fun _ _ _ h => h) (Or.inl ⟨by rfl, ?_⟩) hHeld ?_ ?_; rotate_left
                           ·rintro w' ⟨s0, s1, s2, s3, s4, s5, s6⟩; go_simp; with_reducible rfl
                           rotate_left
                           ·simp only [Act.put, Xj, Xk, Xl, i64_w, i32_w]; rfl
                           refine take_ (i := 28) (N := some 107) (v := ?_) (a' := ?_) (Bq 35 2134900735) rfl rfl (take_ofW HT_.out HW_.out (by kernel_rfl)) (fun _ _ _ h => h) (Or.inl ⟨by rfl, ?_⟩) hHeld ?_ ?_; rotate_left
                           ·rintro w' ⟨s0, s1, s2, s3, s4, s5, s6⟩; go_simp; with_reducible rfl
                           rotate_left
                           ·simp only [Act.put, Xj, Xk, Xl, i64_w, i32_w]; rfl
                           refine pure_ (i := 31) (N := some 110) (v := ?_) (a' := ?_) (Bq 35 4282384383) rfl rfl (any_of HT_.out (by kernel_rfl)) (fun _ _ _ h => h) (Or.inl ⟨by rfl, ?_⟩) ?_ ?_; rotate_left
                           ·intro w'; go_simp; with_reducible rfl
                           rotate_left
                           ·simp only [Act.put, Xj, Xk, Xl, i64_w, i32_w]; rfl
                           refine take_ (i := 32) (N := some 111) (v := ?_) (a' := ?_) (Bq 35 8577351679) rfl rfl (take_ofW HT_.out HW_.out (by kernel_rfl)) (fun _ _ _ h => h) (Or.inl ⟨by rfl, ?_⟩) hHeld ?_ ?_; rotate_left
                           ·rintro w' ⟨s0, s1, s2, s3, s4, s5, s6⟩; go_simp; with_reducible rfl
                           rotate_left
                           ·simp only [Act.put, Xj, Xk, Xl, i64_w, i32_w]; rfl
                           refine one_ (i := 22) (N := some 101) (Bq 35 8581545983) rfl rfl (one_of HT_.out (by kernel_rfl)) (by decide) (fun K hK => ?_); refine goes_ Try.func68 (by kernel_rfl) rfl #[.int .i64 (rd l0 x15_4), .int .i64 (rd l1 x16_5), .agg #[.int .i64 a2_0, .int .i64 a2_1, .int .i64 a2_2]] (by rfl) rfl rfl (by (try simp only [Xm, Xn, Xo]); first | done | rfl | (simp only [Xp, Xq]; rfl)) ?_; with_reducible refine (diaphoneref06_change.calls (rd l0 x15_4) (rd l1 x16_5) a2_0 a2_1 a2_2 t124 _ A27.out).mono ?_
                           rintro e w50 ⟨rfl, hb⟩; have HS5_ := (hb.cell (World.block_lt_of_cell? _ _ (hHeld.2.2.2.2.2.1))).trans (hHeld.2.2.2.2.2.1); have HS6_ := (hb.cell (World.block_lt_of_cell? _ _ (hHeld.2.2.2.2.2.2))).trans (hHeld.2.2.2.2.2.2); refine ⟨_, rfl, ?_⟩; have n0_ := XB (Kd.S_below (by (with_reducible repeat (first | apply Kd.S_alloc | apply Kd.S_drewN | apply Kd.S_drew)); exact HO_8.out) hb); have n1_ := XB (Kd.S_below (by (with_reducible repeat (first | apply Kd.S_alloc | apply Kd.S_drewN | apply Kd.S_drew)); exact HO_9.out) hb); have n2_ := XB (Xy (by (with_reducible repeat (first | apply Xv | apply Xw | apply Xx)); exact HL125_0.out) hb); have n3_ := XB (XA (g := gb101) (o := .cells #[.int .i64 a2_0, .int .i64 a2_1, .int .i64 a2_2] 24 (0, 0)) (by (with_reducible repeat (first | refine Xf ?_ _ | refine Xg ?_ | refine Xe ?_ _)); exact J101.out) hb); have n4_ := XB (Xu (by repeat (first | (with_reducible exact HR125_0.out) | (with_reducible refine Xr ?_ _) | (with_reducible refine Xs ?_ _) | (with_reducible refine Xt ?_) | exact HR125_0.out)) hb); have n5_ := XB (pw_cell_below hb HX125_0.out); have n6_ := XB (Xz (by repeat (first | (with_reducible first | exact HB.out | apply Xc | apply Xa | apply Xb | refine Xd ?_ E101.out) | exact HB.out)) hb); clear HO_8; clear HO_9; clear HL125_0; clear J101; clear HR125_0; clear HX125_0; clear HB; have HO_8 := n0_; have HO_9 := n1_; have HL125_0 := n2_; have J101 := n3_; have HR125_0 := n4_; have HX125_0 := n5_; have HB := n6_; clear n0_ n1_ n2_ n3_ n4_ n5_ n6_
                           (try clear hb)
                           (try clear hb2)
                           (try clear hk)
                           (try clear hi)
                           refine hK.out _ _ ⟨(Xi J101.out 0).trans rfl, (Xi J101.out 1).trans rfl, (Xi J101.out 2).trans rfl, ((HB.out.cell (World.block_lt_of_cell? w _ hw122_0)).trans hw122_0), ((HB.out.cell (World.block_lt_of_cell? w _ hw123_0)).trans hw123_0), HS5_, HS6_⟩ (fun hHeld => ?_); clear hK K; refine norm_ (a' := ?_) ?_ ?_; rotate_left
                           ·show Act.put _ (some 101) _ = _
                            simp only [Act.put, Xj, Xk, Xl, i64_w, i32_w]; rfl
                           refine pure_ (i := 23) (N := some 102) (v := ?_) (a' := ?_) (Bq 35 8589934591) rfl rfl (any_of HT_.out (by kernel_rfl)) (fun _ _ _ h => h) (Or.inl ⟨by rfl, ?_⟩) ?_ ?_; rotate_left
                           ·intro w'; go_simp; with_reducible rfl
                           rotate_left
                           ·simp only [Act.put, Xj, Xk, Xl, i64_w, i32_w]; rfl
                           refine pure_ (i := 33) (N := some 112) (v := ?_) (a' := ?_) (Bq 35 17179869183) rfl rfl (any_of HT_.out (by kernel_rfl)) (fun _ _ _ h => h) (Or.inl ⟨by rfl, ?_⟩) ?_ ?_; rotate_left
                           ·intro w'; go_simp; with_reducible rfl
                           rotate_left
                           ·simp only [Act.put, Xj, Xk, Xl, i64_w, i32_w]; rfl
                           refine pure_ (i := 34) (N := some 17) (v := ?_) (a' := ?_) (Bq 35 34359738367) rfl rfl (any_of HT_.out (by kernel_rfl)) (fun _ _ _ h => h) (Or.inl ⟨by rfl, ?_⟩) ?_ ?_; rotate_left
                           ·intro w'; go_simp; with_reducible rfl
                           rotate_left
                           ·simp only [Act.put, Xj, Xk, Xl, i64_w, i32_w]; rfl
                           refine done_ (done_of HT_.out (by kernel_rfl)) ?_; obtain ⟨Ao51, co51, eo51⟩ := Kd.S_slice HO_9.out; subst eo51; have p129 : 0 ≤ ((ji28) : Int) := of_decide_eq_true (by first | (with_reducible assumption) | assumption); have q129 : (ji28) < (x9_3.length : Int) := of_decide_eq_true (by first | (with_reducible assumption) | assumption); obtain ⟨ad129, A129_0, c129_0, e129, hx129_0, hl129_0, hi129_0⟩ := at_L1 (Kd.S_reads' HO_9.out).2.2 (ji28) p129 q129
                           cases e129
                           obtain ⟨ce129, hce129, hMe129, hcc129⟩ := Kd.S_get HO_9.out [] (ji28) p129 (by first | exact q129 | exact of_decide_eq_true (by first | (with_reducible assumption) | assumption) | (have e_ := (Kd.S_reads' HO_9.out).1; omega)); obtain ⟨ve129_0, rfl, ge129_0⟩ := hMe129; have hv129_0 := hcc129 0 _ rfl; rw [Nat.add_zero, show ((Kd.slice 3 (Kd.int .i64))).sz = 1 from rfl, Nat.mul_one] at hv129_0; replace hv129_0 := Option.some.inj (hv129_0.symm.trans hx129_0); rw [hv129_0] at ge129_0; have HL129_0 := XB (show Kd.R (Kd.int .i64) 3 _ _ _ _ (rd_L1 x9_3 (ji28)) from ge129_0); clear hv129_0 ge129_0; have HX129_0 := XB hx129_0; clear hcc129 hce129; have HR129_0 := XB hi129_0; have HC129_0 := XB hl129_0; clear hi129_0 hl129_0; replace p129 := eq_true p129; replace q129 := eq_true q129; have p130 : 0 ≤ ((ji31) : Int) := of_decide_eq_true (by first | (with_reducible assumption) | assumption); have q130 : (ji31) < ((rd_L1 x9_3 (ji28)).length : Int) := of_decide_eq_true (by first | (with_reducible assumption) | assumption); obtain ⟨ad130, e130, hx130_0⟩ := Kd.at_int (by repeat (first | (with_reducible exact HR129_0.out) | (with_reducible refine Xr ?_ _) | (with_reducible refine Xs ?_ _) | (with_reducible refine Xt ?_) | exact HR129_0.out)) (ji31) p130 q130
                           cases e130
                           replace p130 := eq_true p130; replace q130 := eq_true q130; try go_wp2
                           go_roundg k5
                           case measure => have := HK1.out; have := HK2.out; have := HK3.out; have := HK4.out; have := HK5.out; omega
                           case rel => exact ⟨(x13_5), (wrap64 (x14_5 + (rd (rd_L1 x9_3 (ji28)) (ji31)))), (ji31), (by first | rfl | (simp; done) | (simp [*]; done)), (by first | rfl | (simp; done) | (simp only [← hji28, ← hji31] <;> (first | rfl | simp)) | (simp [*]; done)), (by first | rfl | (simp; done) | (simp only [← hji31] <;> (first | rfl | simp)) | (simp [*]; done)), H', ⟨by have := HK1.out; have := HK2.out; have := HK3.out; have := HK4.out; have := HK5.out; omega⟩, ⟨by (with_reducible repeat (first | apply Kd.S_alloc | apply Kd.S_drewN | apply Kd.S_drew)); exact HO_8.out⟩, ⟨by (with_reducible repeat (first | apply Kd.S_alloc | apply Kd.S_drewN | apply Kd.S_drew)); exact HO_9.out⟩, ⟨by (with_reducible repeat (first | refine Xf ?_ _ | refine Xg ?_ | refine Xe ?_ _)); exact J101.out⟩, ⟨by repeat (first | (with_reducible first | exact HB.out | apply Xc | apply Xa | apply Xb | refine Xd ?_ E101.out) | exact HB.out)⟩⟩
                          ·rw [if_neg c47] at H; exact absurd H (by simp)
                         ·rw [if_neg c46] at H; exact absurd H (by simp)
                        ·rw [if_neg c45] at H; have c45b0 : ((wrap64 ((wrap64 ((wrap64 ((wrap64 (a2_0 * (wrap64 (x15_4 - x11_2)))) + (wrap64 (a2_1 * (wrap64 (x16_5 - x12_3)))))) + t124)) + (rd (rd_L1 x8_3 (ji28)) (ji31)))) == x13_5) = false := beq_eq_false_iff_ne.mpr c45; have c45b1 : ((wrap64 ((wrap64 ((wrap64 ((wrap64 (a2_0 * (wrap64 (x15_4 - x11_2)))) + (wrap64 (a2_1 * (wrap64 (x16_5 - x12_3)))))) + t124)) + (rd (rd_L1 x8_3 (ji28)) (ji31)))) != x13_5) = true := bne_iff_ne.mpr c45; have H' := XB H; clear H; try go_wp2
                         have n0_ := XB (Kd.S_drew HO_8.out); have n1_ := XB (Kd.S_drew HO_9.out); have n2_ := XB (Xg J101.out); have n3_ := XB (Xb HB.out); clear HO_8; clear HO_9; clear J101; clear HB; have HO_8 := n0_; have HO_9 := n1_; have J101 := n2_; have HB := n3_; clear n0_ n1_ n2_ n3_; have p122 : 0 ≤ (x15_4 : Int) := of_decide_eq_true (by first | (with_reducible assumption) | assumption); have q122 : x15_4 < (l0.length : Int) := of_decide_eq_true (by first | (with_reducible assumption) | assumption); obtain ⟨ad122, e122, hx122_0⟩ := Kd.at_int HR0.out x15_4 p122 q122; have hw122_0 := hx122_0
                         cases e122
                         replace hx122_0 := (HB.out.cell (World.block_lt_of_cell? w _ hx122_0)).trans hx122_0; replace p122 := eq_true p122; replace q122 := eq_true q122; have p123 : 0 ≤ (x16_5 : Int) := of_decide_eq_true (by first | (with_reducible assumption) | assumption); have q123 : x16_5 < (l1.length : Int) := of_decide_eq_true (by first | (with_reducible assumption) | assumption); obtain ⟨ad123, e123, hx123_0⟩ := Kd.at_int HR1.out x16_5 p123 q123; have hw123_0 := hx123_0
                         cases e123
                         replace hx123_0 := (HB.out.cell (World.block_lt_of_cell? w _ hx123_0)).trans hx123_0; replace p123 := eq_true p123; replace q123 := eq_true q123; obtain ⟨Ao53, co53, eo53⟩ := Kd.S_slice HO_8.out; (first | subst eo53 | (injection eo53 with f1_ f2_ f3_; have f4_ := f1_.symm; have f5_ := f3_.symm; clear f1_ f2_ f3_; subst f4_; subst f5_))
                         have p125 : 0 ≤ ((ji28) : Int) := of_decide_eq_true (by first | (with_reducible assumption) | assumption); have q125 : (ji28) < (x8_3.length : Int) := of_decide_eq_true (by first | (with_reducible assumption) | assumption); obtain ⟨ad125, A125_0, c125_0, e125, hx125_0, hl125_0, hi125_0⟩ := at_L1 (Kd.S_reads' HO_8.out).2.2 (ji28) p125 q125
                         cases e125
                         obtain ⟨ce125, hce125, hMe125, hcc125⟩ := Kd.S_get HO_8.out [] (ji28) p125 (by first | exact q125 | exact of_decide_eq_true (by first | (with_reducible assumption) | assumption) | (have e_ := (Kd.S_reads' HO_8.out).1; omega)); obtain ⟨ve125_0, rfl, ge125_0⟩ := hMe125; have hv125_0 := hcc125 0 _ rfl; rw [Nat.add_zero, show ((Kd.slice 3 (Kd.int .i64))).sz = 1 from rfl, Nat.mul_one] at hv125_0; replace hv125_0 := Option.some.inj (hv125_0.symm.trans hx125_0); rw [hv125_0] at ge125_0; have HL125_0 := XB (show Kd.R (Kd.int .i64) 3 _ _ _ _ (rd_L1 x8_3 (ji28)) from ge125_0); clear hv125_0 ge125_0; have HX125_0 := XB hx125_0; clear hcc125 hce125; have HR125_0 := XB hi125_0; have HC125_0 := XB hl125_0; clear hi125_0 hl125_0; replace p125 := eq_true p125; replace q125 := eq_true q125; have p126 : 0 ≤ ((ji31) : Int) := of_decide_eq_true (by first | (with_reducible assumption) | assumption); have q126 : (ji31) < ((rd_L1 x8_3 (ji28)).length : Int) := of_decide_eq_true (by first | (with_reducible assumption) | assumption); obtain ⟨ad126, e126, hx126_0⟩ := Kd.at_int (by repeat (first | (with_reducible exact HR125_0.out) | (with_reducible refine Xr ?_ _) | (with_reducible refine Xs ?_ _) | (with_reducible refine Xt ?_) | exact HR125_0.out)) (ji31) p126 q126
                         cases e126
                         replace p126 := eq_true p126; replace q126 := eq_true q126; refine start_ (n := 35) (S := fun w' => w'.cell? ⟨gb101, 0, none⟩ = some (.int .i64 a2_0) ∧ w'.cell? ⟨gb101, 1, none⟩ = some (.int .i64 a2_1) ∧ w'.cell? ⟨gb101, 2, none⟩ = some (.int .i64 a2_2) ∧ w'.cell? (ad122.add (x15_4).toNat) = some (.int .i64 (rd l0 x15_4)) ∧ w'.cell? (ad123.add (x16_5).toNat) = some (.int .i64 (rd l1 x16_5)) ∧ w'.cell? (ad125.add ((ji28)).toNat) = some (.slice (some ad126) (rd_L1 x8_3 (ji28)).length c125_0) ∧ w'.cell? (ad126.add ((ji31)).toNat) = some (.int .i64 (rd (rd_L1 x8_3 (ji28)) (ji31)))) (ds := []) #[false, false, false, false, false, false, false, false, false, false, false, false, false, false, false, false, false, false, false, false, false, false, false, false, false, false, false, false, false, false, false, false, false, false, false] (by kernel_rfl) rfl rfl ⟨(Xi J101.out 0).trans rfl, (Xi J101.out 1).trans rfl, (Xi J101.out 2).trans rfl, ((HB.out.cell (World.block_lt_of_cell? w _ hw122_0)).trans hw122_0), ((HB.out.cell (World.block_lt_of_cell? w _ hw123_0)).trans hw123_0), hx125_0, hx126_0⟩ (fun hHeld => ?_); refine with_tabW diaphoneref06_ends.tab20 diaphoneref06_ends.bits20 (fun HT_ HW_ => ?_); generalize wr.drew = w52 at HO_8 HO_9 J101 HB HL125_0 HR125_0 HX125_0 hx122_0 hx123_0 hx125_0 hx126_0 hHeld ⊢
                         refine pure_ (i := 0) (N := some 79) (v := ?_) (a' := ?_) (Bq 35 1) rfl rfl (any_of HT_.out (by kernel_rfl)) (fun _ _ _ h => h) (Or.inl ⟨by rfl, ?_⟩) ?_ ?_; rotate_left
                         ·intro w'; go_simp; with_reducible rfl
                         rotate_left
                         ·simp only [Act.put, Xj, Xk, Xl, i64_w, i32_w]; rfl
                         refine pure_ (i := 2) (N := some 81) (v := ?_) (a' := ?_) (Bq 35 5) rfl rfl (any_of HT_.out (by kernel_rfl)) (fun _ _ _ h => h) (Or.inl ⟨by rfl, ?_⟩) ?_ ?_; rotate_left
                         ·intro w'; go_simp; with_reducible rfl
                         rotate_left
                         ·simp only [Act.put, Xj, Xk, Xl, i64_w, i32_w]; rfl
                         refine pure_ (i := 3) (N := some 82) (v := ?_) (a' := ?_) (Bq 35 13) rfl rfl (any_of HT_.out (by kernel_rfl)) (fun _ _ _ h => h) (Or.inl ⟨by rfl, ?_⟩) ?_ ?_; rotate_left
                         ·intro w'; go_simp; with_reducible rfl
                         rotate_left
                         ·simp only [Act.put, Xj, Xk, Xl, i64_w, i32_w]; rfl
                         refine pure_ (i := 4) (N := some 83) (v := ?_) (a' := ?_) (Bq 35 29) rfl rfl (any_of HT_.out (by kernel_rfl)) (fun _ _ _ h => h) (Or.inl ⟨by rfl, ?_⟩) ?_ ?_; rotate_left
                         ·intro w'; go_simp; with_reducible rfl
                         rotate_left
                         ·simp only [Act.put, Xj, Xk, Xl, i64_w, i32_w]; rfl
                         refine pure_ (i := 6) (N := some 85) (v := ?_) (a' := ?_) (Bq 35 93) rfl rfl (any_of HT_.out (by kernel_rfl)) (fun _ _ _ h => h) (Or.inl ⟨by rfl, ?_⟩) ?_ ?_; rotate_left
                         ·intro w'; go_simp; with_reducible rfl
                         rotate_left
                         ·simp only [Act.put, Xj, Xk, Xl, i64_w, i32_w]; rfl
                         refine pure_ (i := 8) (N := some 87) (v := ?_) (a' := ?_) (Bq 35 349) rfl rfl (any_of HT_.out (by kernel_rfl)) (fun _ _ _ h => h) (Or.inl ⟨by rfl, ?_⟩) ?_ ?_; rotate_left
                         ·intro w'; go_simp; with_reducible rfl
                         rotate_left
                         ·simp only [Act.put, Xj, Xk, Xl, i64_w, i32_w]; rfl
                         refine pure_ (i := 9) (N := some 88) (v := ?_) (a' := ?_) (Bq 35 861) rfl rfl (any_of HT_.out (by kernel_rfl)) (fun _ _ _ h => h) (Or.inl ⟨by rfl, ?_⟩) ?_ ?_; rotate_left
                         ·intro w'; go_simp; with_reducible rfl
                         rotate_left
                         ·simp only [Act.put, Xj, Xk, Xl, i64_w, i32_w]; rfl
                         refine pure_ (i := 10) (N := some 89) (v := ?_) (a' := ?_) (Bq 35 1885) rfl rfl (any_of HT_.out (by kernel_rfl)) (fun _ _ _ h => h) (Or.inl ⟨by rfl, ?_⟩) ?_ ?_; rotate_left
                         ·intro w'; go_simp; with_reducible rfl
                         rotate_left
                         ·simp only [Act.put, Xj, Xk, Xl, i64_w, i32_w]; rfl
                         refine pure_ (i := 13) (N := some 92) (v := ?_) (a' := ?_) (Bq 35 10077) rfl rfl (any_of HT_.out (by kernel_rfl)) (fun _ _ _ h => h) (Or.inl ⟨by rfl, ?_⟩) ?_ ?_; rotate_left
                         ·intro w'; go_simp; with_reducible rfl
                         rotate_left
                         ·simp only [Act.put, Xj, Xk, Xl, i64_w, i32_w]; rfl
                         refine pure_ (i := 14) (N := some 93) (v := ?_) (a' := ?_) (Bq 35 26461) rfl rfl (any_of HT_.out (by kernel_rfl)) (fun _ _ _ h => h) (Or.inl ⟨by rfl, ?_⟩) ?_ ?_; rotate_left
                         ·intro w'; go_simp; with_reducible rfl
                         rotate_left
                         ·simp only [Act.put, Xj, Xk, Xl, i64_w, i32_w]; rfl
                         refine pure_ (i := 15) (N := some 94) (v := ?_) (a' := ?_) (Bq 35 59229) rfl rfl (any_of HT_.out (by kernel_rfl)) (fun _ _ _ h => h) (Or.inl ⟨by rfl, ?_⟩) ?_ ?_; rotate_left
                         ·intro w'; go_simp; with_reducible rfl
                         rotate_left
                         ·simp only [Act.put, Xj, Xk, Xl, i64_w, i32_w]; rfl
                         refine pure_ (i := 17) (N := some 96) (v := ?_) (a' := ?_) (Bq 35 190301) rfl rfl (any_of HT_.out (by kernel_rfl)) (fun _ _ _ h => h) (Or.inl ⟨by rfl, ?_⟩) ?_ ?_; rotate_left
                         ·intro w'; go_simp; with_reducible rfl
                         rotate_left
                         ·simp only [Act.put, Xj, Xk, Xl, i64_w, i32_w]; rfl
                         refine pure_ (i := 18) (N := some 97) (v := ?_) (a' := ?_) (Bq 35 452445) rfl rfl (any_of HT_.out (by kernel_rfl)) (fun _ _ _ h => h) (Or.inl ⟨by rfl, ?_⟩) ?_ ?_; rotate_left
                         ·intro w'; go_simp; with_reducible rfl
                         rotate_left
                         ·simp only [Act.put, Xj, Xk, Xl, i64_w, i32_w]; rfl
                         refine pure_ (i := 19) (N := some 98) (v := ?_) (a' := ?_) (Bq 35 976733) rfl rfl (any_of HT_.out (by kernel_rfl)) (fun _ _ _ h => h) (Or.inl ⟨by rfl, ?_⟩) ?_ ?_; rotate_left
                         ·intro w'; go_simp; with_reducible rfl
                         rotate_left
                         ·simp only [Act.put, Xj, Xk, Xl, i64_w, i32_w]; rfl
                         refine pure_ (i := 24) (N := some 103) (v := ?_) (a' := ?_) (Bq 35 17753949) rfl rfl (any_of HT_.out (by kernel_rfl)) (fun _ _ _ h => h) (Or.inl ⟨by rfl, ?_⟩) ?_ ?_; rotate_left
                         ·intro w'; go_simp; with_reducible rfl
                         rotate_left
                         ·simp only [Act.put, Xj, Xk, Xl, i64_w, i32_w]; rfl
                         refine pure_ (i := 25) (N := some 104) (v := ?_) (a' := ?_) (Bq 35 51308381) rfl rfl (any_of HT_.out (by kernel_rfl)) (fun _ _ _ h => h) (Or.inl ⟨by rfl, ?_⟩) ?_ ?_; rotate_left
                         ·intro w'; go_simp; with_reducible rfl
                         rotate_left
                         ·simp only [Act.put, Xj, Xk, Xl, i64_w, i32_w]; rfl
                         refine pure_ (i := 26) (N := some 105) (v := ?_) (a' := ?_) (Bq 35 118417245) rfl rfl (any_of HT_.out (by kernel_rfl)) (fun _ _ _ h => h) (Or.inl ⟨by rfl, ?_⟩) ?_ ?_; rotate_left
                         ·intro w'; go_simp; with_reducible rfl
                         rotate_left
                         ·simp only [Act.put, Xj, Xk, Xl, i64_w, i32_w]; rfl
                         refine pure_ (i := 27) (N := some 106) (v := ?_) (a' := ?_) (Bq 35 252634973) rfl rfl (any_of HT_.out (by kernel_rfl)) (fun _ _ _ h => h) (Or.inl ⟨by rfl, ?_⟩) ?_ ?_; rotate_left
                         ·intro w'; go_simp; with_reducible rfl
                         rotate_left
                         ·simp only [Act.put, Xj, Xk, Xl, i64_w, i32_w]; rfl
                         refine pure_ (i := 29) (N := some 108) (v := ?_) (a' := ?_) (Bq 35 789505885) rfl rfl (any_of HT_.out (by kernel_rfl)) (fun _ _ _ h => h) (Or.inl ⟨by rfl, ?_⟩) ?_ ?_; rotate_left
                         ·intro w'; go_simp; with_reducible rfl
                         rotate_left
                         ·simp only [Act.put, Xj, Xk, Xl, i64_w, i32_w]; rfl
                         refine pure_ (i := 30) (N := some 109) (v := ?_) (a' := ?_) (Bq 35 1863247709) rfl rfl (any_of HT_.out (by kernel_rfl)) (fun _ _ _ h => h) (Or.inl ⟨by rfl, ?_⟩) ?_ ?_; rotate_left
                         ·intro w'; go_simp; with_reducible rfl
                         rotate_left
                         ·simp only [Act.put, Xj, Xk, Xl, i64_w, i32_w]; rfl
                         refine take_ (i := 1) (N := some 80) (v := ?_) (a' := ?_) (Bq 35 1863247711) rfl rfl (take_ofW HT_.out HW_.out (by kernel_rfl)) (fun _ _ _ h => h) (Or.inl ⟨by rfl, ?_⟩) hHeld ?_ ?_; rotate_left
                         ·rintro w' ⟨s0, s1, s2, s3, s4, s5, s6⟩; go_simp; with_reducible rfl
                         rotate_left
                         ·simp only [Act.put, Xj, Xk, Xl, i64_w, i32_w]; rfl
                         refine pure_ (i := 5) (N := some 84) (v := ?_) (a' := ?_) (Bq 35 1863247743) rfl rfl (any_of HT_.out (by kernel_rfl)) (fun _ _ _ h => h) (Or.inl ⟨by rfl, ?_⟩) ?_ ?_; rotate_left
                         ·intro w'; go_simp; with_reducible rfl
                         rotate_left
                         ·simp only [Act.put, Xj, Xk, Xl, i64_w, i32_w]; rfl
                         refine take_ (i := 7) (N := some 86) (v := ?_) (a' := ?_) (Bq 35 1863247871) rfl rfl (take_ofW HT_.out HW_.out (by kernel_rfl)) (fun _ _ _ h => h) (Or.inl ⟨by rfl, ?_⟩) hHeld ?_ ?_; rotate_left
                         ·rintro w' ⟨s0, s1, s2, s3, s4, s5, s6⟩; go_simp; with_reducible rfl
                         rotate_left
                         ·simp only [Act.put, Xj, Xk, Xl, i64_w, i32_w]; rfl
                         refine pure_ (i := 11) (N := some 90) (v := ?_) (a' := ?_) (Bq 35 1863249919) rfl rfl (any_of HT_.out (by kernel_rfl)) (fun _ _ _ h => h) (Or.inl ⟨by rfl, ?_⟩) ?_ ?_; rotate_left
                         ·intro w'; go_simp; with_reducible rfl
                         rotate_left
                         ·simp only [Act.put, Xj, Xk, Xl, i64_w, i32_w]; rfl
                         refine pure_ (i := 12) (N := some 91) (v := ?_) (a' := ?_) (Bq 35 1863254015) rfl rfl (any_of HT_.out (by kernel_rfl)) (fun _ _ _ h => h) (Or.inl ⟨by rfl, ?_⟩) ?_ ?_; rotate_left
                         ·intro w'; go_simp; with_reducible rfl
                         rotate_left
                         ·simp only [Act.put, Xj, Xk, Xl, i64_w, i32_w]; rfl
                         refine take_ (i := 16) (N := some 95) (v := ?_) (a' := ?_) (Bq 35 1863319551) rfl rfl (take_ofW HT_.out HW_.out (by kernel_rfl)) (fun _ _ _ h => h) (Or.inl ⟨by rfl, ?_⟩) hHeld ?_ ?_; rotate_left
                         ·rintro w' ⟨s0, s1, s2, s3, s4, s5, s6⟩; go_simp; with_reducible rfl
                         rotate_left
                         ·simp only [Act.put, Xj, Xk, Xl, i64_w, i32_w]; rfl
                         refine take_ (i := 20) (N := some 99) (v := ?_) (a' := ?_) (Bq 35 1864368127) rfl rfl (take_ofW HT_.out HW_.out (by kernel_rfl)) (fun _ _ _ h => h) (Or.inl ⟨by rfl, ?_⟩) hHeld ?_ ?_; rotate_left
                         ·rintro w' ⟨s0, s1, s2, s3, s4, s5, s6⟩; go_simp; with_reducible rfl
                         rotate_left
                         ·simp only [Act.put, Xj, Xk, Xl, i64_w, i32_w]; rfl
                         refine take_ (i := 21) (N := some 100) (v := ?_) (a' := ?_) (Bq 35 1866465279) rfl rfl (take_ofW HT_.out HW_.out (by kernel_rfl)) (fun _ _ _ h => h) (Or.inl ⟨by rfl, ?_⟩) hHeld ?_ ?_; rotate_left
                         ·rintro w' ⟨s0, s1, s2, s3, s4, s5, s6⟩; go_simp; with_reducible rfl
                         rotate_left
                         ·simp only [Act.put, Xj, Xk, Xl, i64_w, i32_w]; rfl
                         refine take_ (i := 28) (N := some 107) (v := ?_) (a' := ?_) (Bq 35 2134900735) rfl rfl (take_ofW HT_.out HW_.out (by kernel_rfl)) (fun _ _ _ h => h) (Or.inl ⟨by rfl, ?_⟩) hHeld ?_ ?_; rotate_left
                         ·rintro w' ⟨s0, s1, s2, s3, s4, s5, s6⟩; go_simp; with_reducible rfl
                         rotate_left
                         ·simp only [Act.put, Xj, Xk, Xl, i64_w, i32_w]; rfl
                         refine pure_ (i := 31) (N := some 110) (v := ?_) (a' := ?_) (Bq 35 4282384383) rfl rfl (any_of HT_.out (by kernel_rfl)) (fun _ _ _ h => h) (Or.inl ⟨by rfl, ?_⟩) ?_ ?_; rotate_left
                         ·intro w'; go_simp; with_reducible rfl
                         rotate_left
                         ·simp only [Act.put, Xj, Xk, Xl, i64_w, i32_w]; rfl
                         refine take_ (i := 32) (N := some 111) (v := ?_) (a' := ?_) (Bq 35 8577351679) rfl rfl (take_ofW HT_.out HW_.out (by kernel_rfl)) (fun _ _ _ h => h) (Or.inl ⟨by rfl, ?_⟩) hHeld ?_ ?_; rotate_left
                         ·rintro w' ⟨s0, s1, s2, s3, s4, s5, s6⟩; go_simp; with_reducible rfl
                         rotate_left
                         ·simp only [Act.put, Xj, Xk, Xl, i64_w, i32_w]; rfl
                         refine one_ (i := 22) (N := some 101) (Bq 35 8581545983) rfl rfl (one_of HT_.out (by kernel_rfl)) (by decide) (fun K hK => ?_); refine goes_ Try.func68 (by kernel_rfl) rfl #[.int .i64 (rd l0 x15_4), .int .i64 (rd l1 x16_5), .agg #[.int .i64 a2_0, .int .i64 a2_1, .int .i64 a2_2]] (by rfl) rfl rfl (by (try simp only [Xm, Xn, Xo]); first | done | rfl | (simp only [Xp, Xq]; rfl)) ?_; with_reducible refine (diaphoneref06_change.calls (rd l0 x15_4) (rd l1 x16_5) a2_0 a2_1 a2_2 t124 _ A27.out).mono ?_
                         rintro e w54 ⟨rfl, hb⟩; have HS5_ := (hb.cell (World.block_lt_of_cell? _ _ (hHeld.2.2.2.2.2.1))).trans (hHeld.2.2.2.2.2.1); have HS6_ := (hb.cell (World.block_lt_of_cell? _ _ (hHeld.2.2.2.2.2.2))).trans (hHeld.2.2.2.2.2.2); refine ⟨_, rfl, ?_⟩; have n0_ := XB (Kd.S_below (by (with_reducible repeat (first | apply Kd.S_alloc | apply Kd.S_drewN | apply Kd.S_drew)); exact HO_8.out) hb); have n1_ := XB (Kd.S_below (by (with_reducible repeat (first | apply Kd.S_alloc | apply Kd.S_drewN | apply Kd.S_drew)); exact HO_9.out) hb); have n2_ := XB (Xy (by (with_reducible repeat (first | apply Xv | apply Xw | apply Xx)); exact HL125_0.out) hb); have n3_ := XB (XA (g := gb101) (o := .cells #[.int .i64 a2_0, .int .i64 a2_1, .int .i64 a2_2] 24 (0, 0)) (by (with_reducible repeat (first | refine Xf ?_ _ | refine Xg ?_ | refine Xe ?_ _)); exact J101.out) hb); have n4_ := XB (Xu (by repeat (first | (with_reducible exact HR125_0.out) | (with_reducible refine Xr ?_ _) | (with_reducible refine Xs ?_ _) | (with_reducible refine Xt ?_) | exact HR125_0.out)) hb); have n5_ := XB (pw_cell_below hb HX125_0.out); have n6_ := XB (Xz (by repeat (first | (with_reducible first | exact HB.out | apply Xc | apply Xa | apply Xb | refine Xd ?_ E101.out) | exact HB.out)) hb); clear HO_8; clear HO_9; clear HL125_0; clear J101; clear HR125_0; clear HX125_0; clear HB; have HO_8 := n0_; have HO_9 := n1_; have HL125_0 := n2_; have J101 := n3_; have HR125_0 := n4_; have HX125_0 := n5_; have HB := n6_; clear n0_ n1_ n2_ n3_ n4_ n5_ n6_
                         (try clear hb)
                         (try clear hb2)
                         (try clear hk)
                         (try clear hi)
                         refine hK.out _ _ ⟨(Xi J101.out 0).trans rfl, (Xi J101.out 1).trans rfl, (Xi J101.out 2).trans rfl, ((HB.out.cell (World.block_lt_of_cell? w _ hw122_0)).trans hw122_0), ((HB.out.cell (World.block_lt_of_cell? w _ hw123_0)).trans hw123_0), HS5_, HS6_⟩ (fun hHeld => ?_); clear hK K; refine norm_ (a' := ?_) ?_ ?_; rotate_left
                         ·show Act.put _ (some 101) _ = _
                          simp only [Act.put, Xj, Xk, Xl, i64_w, i32_w]; rfl
                         refine pure_ (i := 23) (N := some 102) (v := ?_) (a' := ?_) (Bq 35 8589934591) rfl rfl (any_of HT_.out (by kernel_rfl)) (fun _ _ _ h => h) (Or.inl ⟨by rfl, ?_⟩) ?_ ?_; rotate_left
                         ·intro w'; go_simp; with_reducible rfl
                         rotate_left
                         ·simp only [Act.put, Xj, Xk, Xl, i64_w, i32_w]; rfl
                         refine pure_ (i := 33) (N := some 112) (v := ?_) (a' := ?_) (Bq 35 17179869183) rfl rfl (any_of HT_.out (by kernel_rfl)) (fun _ _ _ h => h) (Or.inl ⟨by rfl, ?_⟩) ?_ ?_; rotate_left
                         ·intro w'; go_simp; with_reducible rfl
                         rotate_left
                         ·simp only [Act.put, Xj, Xk, Xl, i64_w, i32_w]; rfl
                         refine pure_ (i := 34) (N := some 17) (v := ?_) (a' := ?_) (Bq 35 34359738367) rfl rfl (any_of HT_.out (by kernel_rfl)) (fun _ _ _ h => h) (Or.inl ⟨by rfl, ?_⟩) ?_ ?_; rotate_left
                         ·intro w'; go_simp; with_reducible rfl
                         rotate_left
                         ·simp only [Act.put, Xj, Xk, Xl, i64_w, i32_w]; rfl
                         refine done_ (done_of HT_.out (by kernel_rfl)) ?_; try go_wp2
                         go_roundg k5
                         case measure => have := HK1.out; have := HK2.out; have := HK3.out; have := HK4.out; have := HK5.out; omega
                         case rel => exact ⟨(x13_5), (x14_5), (ji31), (by first | rfl | (simp; done) | (simp [*]; done)), (by first | rfl | (simp; done) | (simp [*]; done)), (by first | rfl | (simp; done) | (simp only [← hji31] <;> (first | rfl | simp)) | (simp [*]; done)), H', ⟨by have := HK1.out; have := HK2.out; have := HK3.out; have := HK4.out; have := HK5.out; omega⟩, ⟨by (with_reducible repeat (first | apply Kd.S_alloc | apply Kd.S_drewN | apply Kd.S_drew)); exact HO_8.out⟩, ⟨by (with_reducible repeat (first | apply Kd.S_alloc | apply Kd.S_drewN | apply Kd.S_drew)); exact HO_9.out⟩, ⟨by (with_reducible repeat (first | refine Xf ?_ _ | refine Xg ?_ | refine Xe ?_ _)); exact J101.out⟩, ⟨by repeat (first | (with_reducible first | exact HB.out | apply Xc | apply Xa | apply Xb | refine Xd ?_ E101.out) | exact HB.out)⟩⟩
                      ·rw [if_neg c33] at H; exact absurd H (by simp)
                     ·rw [if_neg c32] at H; exact absurd H (by simp)
                    ·rw [if_neg c30] at H; exact absurd H (by simp)
                   ·rw [if_neg c29] at H; exact absurd H (by simp)
                  ·rw [if_neg c26] at H; exact absurd H (by simp)
                 ·rw [if_neg c25] at H; exact absurd H (by simp)
                ·rw [if_neg c24] at H; exact absurd H (by simp)
               ·rw [if_neg c23] at H; have c23b0 : decide (x16_5 < (l1.length : Int)) = false := decide_eq_false c23; clear c23; have H' := XB H; clear H; go_wp2
                go_roundg k5
                case measure => have := HK1.out; have := HK2.out; have := HK3.out; have := HK4.out; have := HK5.out; omega
                case rel => exact ⟨(x13_5), (x14_5), (wrap64 (x15_4 + 1)), (by first | rfl | (simp; done) | (simp [*]; done)), (by first | rfl | (simp; done) | (simp [*]; done)), (by first | rfl | (simp; done) | (simp [*]; done)), H', ⟨by have := HK1.out; have := HK2.out; have := HK3.out; have := HK4.out; have := HK5.out; omega⟩, ⟨by (with_reducible repeat (first | apply Kd.S_alloc | apply Kd.S_drewN | apply Kd.S_drew)); exact HO_8.out⟩, ⟨by (with_reducible repeat (first | apply Kd.S_alloc | apply Kd.S_drewN | apply Kd.S_drew)); exact HO_9.out⟩, ⟨by (with_reducible repeat (first | refine Xf ?_ _ | refine Xg ?_ | refine Xe ?_ _)); exact J101.out⟩, ⟨by repeat (first | (with_reducible first | exact HB.out | apply Xc | apply Xa | apply Xb | refine Xd ?_ E101.out) | exact HB.out)⟩⟩
            ·rw [if_neg c22] at H; have c22b0 : decide (x15_4 < (l0.length : Int)) = false := decide_eq_false c22; clear c22; by_cases c55 : 0 ≤ x11_2
             ·rw [if_pos c55] at H; have c55b0 : decide (0 ≤ x11_2) = true := decide_eq_true c55; clear c55; by_cases c56 : x11_2 < (x8_3.length : Int)
              ·rw [if_pos c56] at H; have c56b0 : decide (x11_2 < (x8_3.length : Int)) = true := decide_eq_true c56; clear c56; by_cases c57 : 0 ≤ x12_3
               ·rw [if_pos c57] at H; have c57b0 : decide (0 ≤ x12_3) = true := decide_eq_true c57; clear c57; by_cases c58 : x12_3 < ((rd_L1 x8_3 x11_2).length : Int)
                ·rw [if_pos c58] at H; have c58b0 : decide (x12_3 < ((rd_L1 x8_3 x11_2).length : Int)) = true := decide_eq_true c58; clear c58; obtain ⟨y115, hy115⟩ : ∃ y_ : List Int, y_ = ((rd_L1 x8_3 x11_2).set (x12_3 : Int).toNat x13_4) := ⟨_, rfl⟩
                 replace H : (if x11_2 < (x9_3.length : Int) then (if x12_3 < ((rd_L1 x9_3 x11_2).length : Int) then (diaphoneref06_ends.l2 k4 l0 l1 (x8_3.set (x11_2 : Int).toNat y115) (x9_3.set (x11_2 : Int).toNat ((rd_L1 x9_3 x11_2).set (x12_3 : Int).toNat x14_4)) x11_2 (wrap64 (x12_3 - 1)) a2_0 a2_1 a2_2) else (none)) else (none)) = some (r1, r2) := by first | (rw [hy115]; with_reducible exact H) | (have H2_ := (Option.bind_some _ _).symm.trans H; rw [hy115]; with_reducible exact H2_) | (have H2_ := (Option.bind_some _ _).symm.trans H; with_reducible exact H2_) | with_reducible exact H | (rw [hy115]; exact H) | exact H
                 have Ny115 := XB hy115; clear hy115; obtain ⟨y117, hy117⟩ : ∃ y_ : List (List Int), y_ = (x8_3.set (x11_2 : Int).toNat y115) := ⟨_, rfl⟩
                 replace H : (if x11_2 < (x9_3.length : Int) then (if x12_3 < ((rd_L1 x9_3 x11_2).length : Int) then (diaphoneref06_ends.l2 k4 l0 l1 y117 (x9_3.set (x11_2 : Int).toNat ((rd_L1 x9_3 x11_2).set (x12_3 : Int).toNat x14_4)) x11_2 (wrap64 (x12_3 - 1)) a2_0 a2_1 a2_2) else (none)) else (none)) = some (r1, r2) := by first | (rw [hy117]; with_reducible exact H) | (have H2_ := (Option.bind_some _ _).symm.trans H; rw [hy117]; with_reducible exact H2_) | (have H2_ := (Option.bind_some _ _).symm.trans H; with_reducible exact H2_) | with_reducible exact H | (rw [hy117]; exact H) | exact H
                 have Ny117 := XB hy117; clear hy117; by_cases c60 : x11_2 < (x9_3.length : Int)
                 ·rw [if_pos c60] at H; have c60b0 : decide (x11_2 < (x9_3.length : Int)) = true := decide_eq_true c60; clear c60; by_cases c61 : x12_3 < ((rd_L1 x9_3 x11_2).length : Int)
                  ·rw [if_pos c61] at H; have c61b0 : decide (x12_3 < ((rd_L1 x9_3 x11_2).length : Int)) = true := decide_eq_true c61; clear c61; obtain ⟨y119, hy119⟩ : ∃ y_ : List Int, y_ = ((rd_L1 x9_3 x11_2).set (x12_3 : Int).toNat x14_4) := ⟨_, rfl⟩
                   replace H : (diaphoneref06_ends.l2 k4 l0 l1 y117 (x9_3.set (x11_2 : Int).toNat y119) x11_2 (wrap64 (x12_3 - 1)) a2_0 a2_1 a2_2) = some (r1, r2) := by first | (rw [hy119]; with_reducible exact H) | (have H2_ := (Option.bind_some _ _).symm.trans H; rw [hy119]; with_reducible exact H2_) | (have H2_ := (Option.bind_some _ _).symm.trans H; with_reducible exact H2_) | with_reducible exact H | (rw [hy119]; exact H) | exact H
                   have Ny119 := XB hy119; clear hy119; obtain ⟨y121, hy121⟩ : ∃ y_ : List (List Int), y_ = (x9_3.set (x11_2 : Int).toNat y119) := ⟨_, rfl⟩
                   replace H : (diaphoneref06_ends.l2 k4 l0 l1 y117 y121 x11_2 (wrap64 (x12_3 - 1)) a2_0 a2_1 a2_2) = some (r1, r2) := by first | (rw [hy121]; with_reducible exact H) | (have H2_ := (Option.bind_some _ _).symm.trans H; rw [hy121]; with_reducible exact H2_) | (have H2_ := (Option.bind_some _ _).symm.trans H; with_reducible exact H2_) | with_reducible exact H | (rw [hy121]; exact H) | exact H
                   have Ny121 := XB hy121; clear hy121; have H' := XB H; clear H; obtain ⟨Ao63, co63, eo63⟩ := Kd.S_slice HO_8.out; subst eo63; have p114 : 0 ≤ (x11_2 : Int) := of_decide_eq_true (by first | (with_reducible assumption) | assumption); have q114 : x11_2 < (x8_3.length : Int) := of_decide_eq_true (by first | (with_reducible assumption) | assumption); obtain ⟨ad114, A114_0, c114_0, e114, hx114_0, hl114_0, hi114_0⟩ := at_L1 (Kd.S_reads' HO_8.out).2.2 x11_2 p114 q114
                   cases e114
                   obtain ⟨ce114, hce114, hMe114, hcc114⟩ := Kd.S_get HO_8.out [] x11_2 p114 (by first | exact q114 | exact of_decide_eq_true (by first | (with_reducible assumption) | assumption) | (have e_ := (Kd.S_reads' HO_8.out).1; omega)); obtain ⟨ve114_0, rfl, ge114_0⟩ := hMe114; have hv114_0 := hcc114 0 _ rfl; rw [Nat.add_zero, show ((Kd.slice 3 (Kd.int .i64))).sz = 1 from rfl, Nat.mul_one] at hv114_0; replace hv114_0 := Option.some.inj (hv114_0.symm.trans hx114_0); rw [hv114_0] at ge114_0; have HL114_0 := XB (show Kd.R (Kd.int .i64) 3 _ _ _ _ (rd_L1 x8_3 x11_2) from ge114_0); clear hv114_0 ge114_0; have HX114_0 := XB hx114_0; clear hcc114 hce114; have HR114_0 := XB hi114_0; have HC114_0 := XB hl114_0; clear hi114_0 hl114_0; replace p114 := eq_true p114; replace q114 := eq_true q114; have p59 : 0 ≤ (x12_3 : Int) := of_decide_eq_true (by first | (with_reducible assumption) | assumption); have q59 : (x12_3 : Int) < (((rd_L1 x8_3 x11_2).length : Int) : Int) := of_decide_eq_true (by first | (with_reducible assumption) | assumption); obtain ⟨go59, co59, eo59, gb59, gl59, cl59, HG59⟩ := Kd.R_form HL114_0.out (by omega); (first | cases eo59 | (injection eo59 with ea_ en_ ec_; (first | subst ea_ | (injection ea_ with ea_; subst ea_)); subst ec_; clear en_))
                   have GB59 := XB gb59; have GG59 := XB HG59; clear gb59 gl59 HG59; obtain ⟨hx59_0, hf59_0⟩ := Kd.R_celln 0 HL114_0.out (x12_3 : Int) p59 q59; replace p59 := eq_true p59; replace q59 := eq_true q59; have hq64 : (x11_2 : Int) < (x8_3.length : Int) := (by have h_ : (x11_2 : Int) < ((x8_3.length : Int) : Int) := of_decide_eq_true (by first | (with_reducible assumption) | assumption); first | exact h_ | (have e_ := (Kd.S_reads' HO_8.out).1; omega) | simpa only [List.length_set, List.length_set] using h_); obtain ⟨oki64, ce64, hcl64, hM64, hcc64, hok64, hbk64⟩ := Kd.S_borrow HO_8.out [] (x11_2 : Int) (of_decide_eq_true (by first | (with_reducible assumption) | assumption)) hq64; obtain ⟨ve64_0, rfl, ge64_0⟩ := hM64; have hv64 := hcc64 0 _ rfl; rw [Nat.add_zero, show ((Kd.slice 3 (Kd.int .i64))).sz = 1 from rfl, Nat.mul_one] at hv64; replace hv64 := Option.some.inj (hv64.symm.trans HX114_0.out); subst hv64; clear hcc64 hcl64; replace ge64_0 := (show Kd.R (Kd.int .i64) 3 _ _ _ _ (rd_L1 x8_3 x11_2) from ge64_0); have HP64 := Kd.R_putg ge64_0 (x12_3 : Int) x13_4; go_wp2_with (first | ((with_reducible refine gate_store (t := 3) (p := 137) rfl ?_); refine store_event (t := 3) (p := 137) (v := ?vo_w65) (w1 := (wr.setCell ⟨go59, (x12_3 : Int).toNat, none⟩ (.int .i64 x13_4))) ?hg ?ho ?hn ?hr ?_; (case ho => rfl); (case hg => rfl); (case hn => rfl); (case hr => first | (go_simp; done) | (go_simp; rfl)); intro w65 hw; have hg : wr.grownBy w65 (some go59) := (by rw [hw]; exact HP64.2); have hz_ : Kd.R (Kd.int .i64) 3 w65 w.heap.size oki64 (.slice (some ⟨go59, 0, none⟩) (rd_L1 x8_3 x11_2).length c114_0) y115 := (by rw [hw, Ny115.out]; exact HP64.1); have hp_ : Kd.S (Kd.slice 3 (Kd.int .i64)) 22 w65 w.heap.size P_ (.slice (some ad114) x8_3.length co63) y117 := (by rw [Ny117.out]; exact hbk64 hg (fun k_ e_ => by injection e_ with e_; subst e_; exact ge64_0.1 _ rfl) (Kd.M_row hz_)); have hm_ := Kd.R_mono hz_ hok64; clear HP64 hbk64; have n0_ := XB (hp_); have n1_ := XB (Kd.S_grown (ok := fun k_ => ¬ P_ k_) (by (with_reducible repeat (first | apply Kd.S_alloc | apply Kd.S_drewN | apply Kd.S_drew)); exact HO_9.out) hg (fun k_ hk e_ => hk (HL114_0.out.1 k_ (by rw [e_]; rfl)).1)); have n2_ := XB (blk_grown (g := gb101) (o := .cells #[.int .i64 a2_0, .int .i64 a2_1, .int .i64 a2_2] 24 (0, 0)) (by (with_reducible repeat (first | refine Xf ?_ _ | refine Xg ?_ | refine Xe ?_ _)); exact J101.out) hg (Kd.R_ne HL114_0.out J101.out (by decide))); have n3_ := XB ((by rw [hw]; exact Xd (HB.out) GB59.out : Below w.heap.size w w65)); have n4_ := XB (hm_); have n5_ := XB ((XD hm_).2.1); clear HO_8; clear HO_9; clear J101; clear HB; clear HL114_0; have HO_8 := n0_; have HO_9 := n1_; have J101 := n2_; have HB := n3_; have HL131 := n4_; have HC116 := n5_; clear n0_ n1_ n2_ n3_ n4_ n5_; clear hg hw hp_ hz_ hm_ hok64; obtain ⟨Ao66, co66, eo66⟩ := Kd.S_slice HO_9.out; subst eo66; have p118 : 0 ≤ (x11_2 : Int) := of_decide_eq_true (by first | (with_reducible assumption) | assumption); have q118 : x11_2 < (x9_3.length : Int) := of_decide_eq_true (by first | (with_reducible assumption) | assumption); obtain ⟨ad118, A118_0, c118_0, e118, hx118_0, hl118_0, hi118_0⟩ := at_L1 (Kd.S_reads' HO_9.out).2.2 x11_2 p118 q118; cases e118; obtain ⟨ce118, hce118, hMe118, hcc118⟩ := Kd.S_get HO_9.out [] x11_2 p118 (by first | exact q118 | exact of_decide_eq_true (by first | (with_reducible assumption) | assumption) | (have e_ := (Kd.S_reads' HO_9.out).1; omega)); obtain ⟨ve118_0, rfl, ge118_0⟩ := hMe118; have hv118_0 := hcc118 0 _ rfl; rw [Nat.add_zero, show ((Kd.slice 3 (Kd.int .i64))).sz = 1 from rfl, Nat.mul_one] at hv118_0; replace hv118_0 := Option.some.inj (hv118_0.symm.trans hx118_0); rw [hv118_0] at ge118_0; have HL118_0 := XB (show Kd.R (Kd.int .i64) 3 _ _ _ _ (rd_L1 x9_3 x11_2) from ge118_0); clear hv118_0 ge118_0; have HX118_0 := XB hx118_0; clear hcc118 hce118; have HR118_0 := XB hi118_0; have HC118_0 := XB hl118_0; clear hi118_0 hl118_0; replace p118 := eq_true p118; replace q118 := eq_true q118; have p62 : 0 ≤ (x12_3 : Int) := of_decide_eq_true (by first | (with_reducible assumption) | assumption); have q62 : (x12_3 : Int) < (((rd_L1 x9_3 x11_2).length : Int) : Int) := of_decide_eq_true (by first | (with_reducible assumption) | assumption); obtain ⟨go62, co62, eo62, gb62, gl62, cl62, HG62⟩ := Kd.R_form HL118_0.out (by omega); (first | cases eo62 | (injection eo62 with ea_ en_ ec_; (first | subst ea_ | (injection ea_ with ea_; subst ea_)); subst ec_; clear en_)); have GB62 := XB gb62; have GG62 := XB HG62; clear gb62 gl62 HG62; obtain ⟨hx62_0, hf62_0⟩ := Kd.R_celln 0 HL118_0.out (x12_3 : Int) p62 q62; replace p62 := eq_true p62; replace q62 := eq_true q62; have hq67 : (x11_2 : Int) < (x9_3.length : Int) := (by have h_ : (x11_2 : Int) < ((x9_3.length : Int) : Int) := of_decide_eq_true (by first | (with_reducible assumption) | assumption); first | exact h_ | (have e_ := (Kd.S_reads' HO_9.out).1; omega) | simpa only [List.length_set, List.length_set] using h_); obtain ⟨oki67, ce67, hcl67, hM67, hcc67, hok67, hbk67⟩ := Kd.S_borrow HO_9.out [] (x11_2 : Int) (of_decide_eq_true (by first | (with_reducible assumption) | assumption)) hq67; obtain ⟨ve67_0, rfl, ge67_0⟩ := hM67; have hv67 := hcc67 0 _ rfl; rw [Nat.add_zero, show ((Kd.slice 3 (Kd.int .i64))).sz = 1 from rfl, Nat.mul_one] at hv67; replace hv67 := Option.some.inj (hv67.symm.trans HX118_0.out); subst hv67; clear hcc67 hcl67; replace ge67_0 := (show Kd.R (Kd.int .i64) 3 _ _ _ _ (rd_L1 x9_3 x11_2) from ge67_0); have HP67 := Kd.R_putg ge67_0 (x12_3 : Int) x14_4) | ((with_reducible refine gate_store (t := 3) (p := 144) rfl ?_); refine store_event (t := 3) (p := 144) (v := ?vo_w68) (w1 := (w65.setCell ⟨go62, (x12_3 : Int).toNat, none⟩ (.int .i64 x14_4))) ?hg ?ho ?hn ?hr ?_; (case ho => rfl); (case hg => rfl); (case hn => rfl); (case hr => first | (go_simp; done) | (go_simp; rfl)); intro w68 hw; have hg : w65.grownBy w68 (some go62) := (by rw [hw]; exact HP67.2); have hz_ : Kd.R (Kd.int .i64) 3 w68 w.heap.size oki67 (.slice (some ⟨go62, 0, none⟩) (rd_L1 x9_3 x11_2).length c118_0) y119 := (by rw [hw, Ny119.out]; exact HP67.1); have hp_ : Kd.S (Kd.slice 3 (Kd.int .i64)) 22 w68 w.heap.size (fun k_ => ¬ P_ k_) (.slice (some ad118) x9_3.length co66) y121 := (by rw [Ny121.out]; exact hbk67 hg (fun k_ e_ => by injection e_ with e_; subst e_; exact ge67_0.1 _ rfl) (Kd.M_row hz_)); have hm_ := Kd.R_mono hz_ hok67; clear HP67 hbk67; have n0_ := XB (Kd.S_grown (ok := P_) (by (with_reducible repeat (first | apply Kd.S_alloc | apply Kd.S_drewN | apply Kd.S_drew)); exact HO_8.out) hg (fun k_ hk e_ => (HL118_0.out.1 k_ (by rw [e_]; rfl)).1 hk)); have n1_ := XB (hp_); have n2_ := XB (blk_grown (g := gb101) (o := .cells #[.int .i64 a2_0, .int .i64 a2_1, .int .i64 a2_2] 24 (0, 0)) (by (with_reducible repeat (first | refine Xf ?_ _ | refine Xg ?_ | refine Xe ?_ _)); exact J101.out) hg (Kd.R_ne HL118_0.out J101.out (by decide))); have n3_ := XB ((by rw [hw]; exact Xd (HB.out) GB62.out : Below w.heap.size w w68)); have n4_ := XB (hm_); have n5_ := XB ((XD hm_).2.1); clear HO_8; clear HO_9; clear J101; clear HB; clear HL131; clear HL118_0; have HO_8 := n0_; have HO_9 := n1_; have J101 := n2_; have HB := n3_; have HL132 := n4_; have HC120 := n5_; clear n0_ n1_ n2_ n3_ n4_ n5_; clear hg hw hp_ hz_ hm_ hok67))
                   go_roundg k4
                   case measure => have := HK1.out; have := HK2.out; have := HK3.out; have := HK4.out; omega
                   case rel => exact ⟨(y117), (y121), (wrap64 (x12_3 - 1)), (by first | rfl | (simp; done) | (simp [*]; done)), H', ⟨by have := HK1.out; have := HK2.out; have := HK3.out; have := HK4.out; omega⟩, ⟨by (with_reducible repeat (first | apply Kd.S_alloc | apply Kd.S_drewN | apply Kd.S_drew)); exact HO_8.out⟩, ⟨by (with_reducible repeat (first | apply Kd.S_alloc | apply Kd.S_drewN | apply Kd.S_drew)); exact HO_9.out⟩, ⟨by (with_reducible repeat (first | refine Xf ?_ _ | refine Xg ?_ | refine Xe ?_ _)); exact J101.out⟩, ⟨by repeat (first | (with_reducible first | exact HB.out | apply Xc | apply Xa | apply Xb | refine Xd ?_ E101.out) | exact HB.out)⟩⟩
                  ·rw [if_neg c61] at H; exact absurd H (by simp)
                 ·rw [if_neg c60] at H; exact absurd H (by simp)
                ·rw [if_neg c58] at H; exact absurd H (by simp)
               ·rw [if_neg c57] at H; exact absurd H (by simp)
              ·rw [if_neg c56] at H; exact absurd H (by simp)
             ·rw [if_neg c55] at H; exact absurd H (by simp)
         ·rw [if_neg c20] at H; have c20b0 : decide (0 ≤ x12_3) = false := decide_eq_false c20; clear c20; have H' := XB H; clear H; go_wp2
          go_roundg k3
          case measure => have := HK1.out; have := HK2.out; have := HK3.out; omega
          case rel => exact ⟨(x8_3), (x9_3), (wrap64 (x11_2 - 1)), (by first | rfl | (simp; done) | (simp [*]; done)), H', ⟨by have := HK1.out; have := HK2.out; have := HK3.out; omega⟩, ⟨by (with_reducible repeat (first | apply Kd.S_alloc | apply Kd.S_drewN | apply Kd.S_drew)); exact HO_8.out⟩, ⟨by (with_reducible repeat (first | apply Kd.S_alloc | apply Kd.S_drewN | apply Kd.S_drew)); exact HO_9.out⟩, ⟨by (with_reducible repeat (first | refine Xf ?_ _ | refine Xg ?_ | refine Xe ?_ _)); exact J101.out⟩, ⟨by repeat (first | (with_reducible first | exact HB.out | apply Xc | apply Xa | apply Xb | refine Xd ?_ E101.out) | exact HB.out)⟩⟩
      ·rw [if_neg c19] at H; have c19b0 : decide (0 ≤ x11_2) = false := decide_eq_false c19; clear c19; simp only [Option.some.injEq, Prod.mk.injEq] at H; obtain ⟨rfl, rfl⟩ := H; go_wp2
       go_ret2
       exact ⟨_, _, by first | rfl | (simp [errW_none, errW_some] <;> rfl) | (simp [*, errW_none, errW_some] <;> rfl), by (with_reducible repeat (first | apply Kd.S_alloc | apply Kd.S_drewN | apply Kd.S_drew)); exact Kd.S_mono HO_8.out (fun _ _ => trivial), by (with_reducible repeat (first | apply Kd.S_alloc | apply Kd.S_drewN | apply Kd.S_drew)); exact Kd.S_mono HO_9.out (fun _ _ => trivial), by repeat (first | (with_reducible first | exact HB.out | apply Xc | apply Xa | apply Xb | refine Xd ?_ E101.out) | exact HB.out)⟩

end Go.Proofs.Ytcbepmdnhjojdaa.P
