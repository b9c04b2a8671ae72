-- laid by a program of this session (wip/tools): plain functions of the Go code and their contracts
-- thinned
import Derived.Test.YtcbepmdnhjojdaaPx0
import Derived.Test.YtcbepmdnhjojdaaPx2
import Derived.Test.YtcbepmdnhjojdaaPx14
import Derived.Test.YtcbepmdnhjojdaaPx55
namespace Go.Proofs.Ytcbepmdnhjojdaa.P
open Go.RowKit Go.Proofs.YtcbepmdnhjojdaaW.PrintWords Go.Proofs.YtcbepmdnhjojdaaW.PrintLast Go.Proofs.YtcbepmdnhjojdaaW.PrintMore
attribute [local go_sem] max2_int min2_int max_two min_two max_three min_three max_four min_four   -- for this text's walks alone
set_option linter.unusedVariables false
set_option linter.unusedSimpArgs false

/-! ### log_CheckTable: function 37 -/
mutual
def log_CheckTable.l0 : Nat → List Int → List Int → List (List Int) → List (List Int) → Int → Int → Int → Int → Int → Option (Int × Int)
 | 0, _, _, _, _, _, _, _, _, _ => none
 | k + 1, x0, x1, x3, x30, x31, x32, x102000, x102001, x102002 => if x32 < x31 then (if 0 ≤ x32 then (if x32 < (x30.length : Int) then (if ((rd_L1 x30 x32).length : Int) = (wrap64 ((x1.length : Int) + 1)) then ((slices_ContainsFunc_int_int_log_CheckTable_1.f k (rd_L1 x30 x32)).bind fun t104 => (if t104 = true then (some (0, 1)) else (log_CheckTable.l0 k x0 x1 x3 x30 x31 (wrap64 (x32 + 1)) x102000 x102001 x102002))) else (some (0, 1))) else (none)) else (none)) else (log_CheckTable.l1 k x0 x1 x3 x3 (x3.length : Int) 0 x102000 x102001 x102002)
def log_CheckTable.l1 : Nat → List Int → List Int → List (List Int) → List (List Int) → Int → Int → Int → Int → Int → Option (Int × Int)
 | 0, _, _, _, _, _, _, _, _, _ => none
 | k + 1, x0, x1, x3, x47, x48, x49, x102000, x102001, x102002 => if x49 < x48 then (if 0 ≤ x49 then (if x49 < (x47.length : Int) then (log_CheckTable.l2 k x0 x1 x3 x49 (rd_L1 x47 x49) x47 x48 x49 (rd_L1 x47 x49) ((rd_L1 x47 x49).length : Int) 0 x102000 x102001 x102002) else (none)) else (none)) else (if 0 ≤ (x0.length : Int) then (if (x0.length : Int) < (x3.length : Int) then (if 0 ≤ (x1.length : Int) then (if (x1.length : Int) < ((rd_L1 x3 (x0.length : Int)).length : Int) then (some (rd (rd_L1 x3 (x0.length : Int)) (x1.length : Int), 0)) else (none)) else (none)) else (none)) else (none))
def log_CheckTable.l2 : Nat → List Int → List Int → List (List Int) → Int → List Int → List (List Int) → Int → Int → List Int → Int → Int → Int → Int → Int → Option (Int × Int)
 | 0, _, _, _, _, _, _, _, _, _, _, _, _, _, _ => none
 | k + 1, x0, x1, x3, x13, x14, x47, x48, x49, x54, x55, x56, x102000, x102001, x102002 => if x56 < x55 then (if 0 ≤ x56 then (if x56 < (x54.length : Int) then (if x13 = 0 then (if x56 = 0 then (log_CheckTable.j3 k x0 x1 x3 x13 x14 x56 (rd x54 x56) x47 x48 x49 x54 x55 x56 ((rd x54 x56) != 0) x102000 x102001 x102002) else (log_CheckTable.j3 k x0 x1 x3 x13 x14 x56 (rd x54 x56) x47 x48 x49 x54 x55 x56 false x102000 x102001 x102002)) else (log_CheckTable.j3 k x0 x1 x3 x13 x14 x56 (rd x54 x56) x47 x48 x49 x54 x55 x56 false x102000 x102001 x102002)) else (none)) else (none)) else (log_CheckTable.l1 k x0 x1 x3 x47 x48 (wrap64 (x49 + 1)) x102000 x102001 x102002)
def log_CheckTable.j3 : Nat → List Int → List Int → List (List Int) → Int → List Int → Int → Int → List (List Int) → Int → Int → List Int → Int → Int → Bool → Int → Int → Int → Option (Int × Int)
 | 0, _, _, _, _, _, _, _, _, _, _, _, _, _, _, _, _, _ => none
 | k + 1, x0, x1, x3, x13, x14, x15, x16, x47, x48, x49, x54, x55, x56, x61, x102000, x102001, x102002 => if x61 = true then (some (0, 7)) else (if x13 > 0 then (if 0 ≤ (wrap64 (x13 - 1)) then (if (wrap64 (x13 - 1)) < (x3.length : Int) then (if 0 ≤ x15 then (if x15 < ((rd_L1 x3 (wrap64 (x13 - 1))).length : Int) then (log_CheckTable.j4 k x0 x1 x3 x13 x14 x15 x16 x47 x48 x49 x54 x55 x56 (decide (x16 > (wrap64 ((rd (rd_L1 x3 (wrap64 (x13 - 1))) x15) + x102000)))) x102000 x102001 x102002) else (none)) else (none)) else (none)) else (none)) else (log_CheckTable.j4 k x0 x1 x3 x13 x14 x15 x16 x47 x48 x49 x54 x55 x56 false x102000 x102001 x102002))
def log_CheckTable.j4 : Nat → List Int → List Int → List (List Int) → Int → List Int → Int → Int → List (List Int) → Int → Int → List Int → Int → Int → Bool → Int → Int → Int → Option (Int × Int)
 | 0, _, _, _, _, _, _, _, _, _, _, _, _, _, _, _, _, _ => none
 | k + 1, x0, x1, x3, x13, x14, x15, x16, x47, x48, x49, x54, x55, x56, x61, x102000, x102001, x102002 => if x61 = true then (some (0, 7)) else (if x15 > 0 then (if 0 ≤ (wrap64 (x15 - 1)) then (if (wrap64 (x15 - 1)) < (x14.length : Int) then (log_CheckTable.j5 k x0 x1 x3 x13 x14 x15 x16 x47 x48 x49 x54 x55 x56 (decide (x16 > (wrap64 ((rd x14 (wrap64 (x15 - 1))) + x102001)))) x102000 x102001 x102002) else (none)) else (none)) else (log_CheckTable.j5 k x0 x1 x3 x13 x14 x15 x16 x47 x48 x49 x54 x55 x56 false x102000 x102001 x102002))
def log_CheckTable.j5 : Nat → List Int → List Int → List (List Int) → Int → List Int → Int → Int → List (List Int) → Int → Int → List Int → Int → Int → Bool → Int → Int → Int → Option (Int × Int)
 | 0, _, _, _, _, _, _, _, _, _, _, _, _, _, _, _, _, _ => none
 | k + 1, x0, x1, x3, x13, x14, x15, x16, x47, x48, x49, x54, x55, x56, x61, x102000, x102001, x102002 => if x61 = true then (some (0, 7)) else (if x13 > 0 then (if x15 > 0 then (if 0 ≤ (wrap64 (x13 - 1)) then (if (wrap64 (x13 - 1)) < (x3.length : Int) then (if 0 ≤ (wrap64 (x15 - 1)) then (if (wrap64 (x15 - 1)) < ((rd_L1 x3 (wrap64 (x13 - 1))).length : Int) then (if (wrap64 (x13 - 1)) < (x0.length : Int) then (if (wrap64 (x15 - 1)) < (x1.length : Int) then ((log_costBoth.f x102000 x102001 x102002 (rd x0 (wrap64 (x13 - 1))) (rd x1 (wrap64 (x15 - 1)))).bind fun t116 => (if x16 > (wrap64 ((rd (rd_L1 x3 (wrap64 (x13 - 1))) (wrap64 (x15 - 1))) + t116)) then (some (0, 7)) else (log_CheckTable.l2 k x0 x1 x3 x13 x14 x47 x48 x49 x54 x55 (wrap64 (x56 + 1)) x102000 x102001 x102002))) else (none)) else (none)) else (none)) else (none)) else (none)) else (none)) else (log_CheckTable.l2 k x0 x1 x3 x13 x14 x47 x48 x49 x54 x55 (wrap64 (x56 + 1)) x102000 x102001 x102002)) else (log_CheckTable.l2 k x0 x1 x3 x13 x14 x47 x48 x49 x54 x55 (wrap64 (x56 + 1)) x102000 x102001 x102002))
end
def log_CheckTable.f (k : Nat) (l0 : List Int) (l1 : List Int) (a2_0 : Int) (a2_1 : Int) (a2_2 : Int) (l3 : List (List Int)) : Option (Int × Int) := (log_check.f k l0 l1 a2_0 a2_1 a2_2).bind fun t102 => (if t102 = 0 then (if (l3.length : Int) = (wrap64 ((l0.length : Int) + 1)) then (log_CheckTable.l0 k l0 l1 l3 l3 (l3.length : Int) 0 a2_0 a2_1 a2_2) else (some (0, 1))) else (some (0, t102)))
theorem log_CheckTable.mono_l : ∀ k, (∀ y0 y1 y2 y3 y4 y5 y6 y7 y8, LeO (log_CheckTable.l0 k y0 y1 y2 y3 y4 y5 y6 y7 y8) (log_CheckTable.l0 (k + 1) y0 y1 y2 y3 y4 y5 y6 y7 y8)) ∧ (∀ y0 y1 y2 y3 y4 y5 y6 y7 y8, LeO (log_CheckTable.l1 k y0 y1 y2 y3 y4 y5 y6 y7 y8) (log_CheckTable.l1 (k + 1) y0 y1 y2 y3 y4 y5 y6 y7 y8)) ∧ (∀ y0 y1 y2 y3 y4 y5 y6 y7 y8 y9 y10 y11 y12 y13, LeO (log_CheckTable.l2 k y0 y1 y2 y3 y4 y5 y6 y7 y8 y9 y10 y11 y12 y13) (log_CheckTable.l2 (k + 1) y0 y1 y2 y3 y4 y5 y6 y7 y8 y9 y10 y11 y12 y13)) ∧ (∀ y0 y1 y2 y3 y4 y5 y6 y7 y8 y9 y10 y11 y12 y13 y14 y15 y16, LeO (log_CheckTable.j3 k y0 y1 y2 y3 y4 y5 y6 y7 y8 y9 y10 y11 y12 y13 y14 y15 y16) (log_CheckTable.j3 (k + 1) y0 y1 y2 y3 y4 y5 y6 y7 y8 y9 y10 y11 y12 y13 y14 y15 y16)) ∧ (∀ y0 y1 y2 y3 y4 y5 y6 y7 y8 y9 y10 y11 y12 y13 y14 y15 y16, LeO (log_CheckTable.j4 k y0 y1 y2 y3 y4 y5 y6 y7 y8 y9 y10 y11 y12 y13 y14 y15 y16) (log_CheckTable.j4 (k + 1) y0 y1 y2 y3 y4 y5 y6 y7 y8 y9 y10 y11 y12 y13 y14 y15 y16)) ∧ (∀ y0 y1 y2 y3 y4 y5 y6 y7 y8 y9 y10 y11 y12 y13 y14 y15 y16, LeO (log_CheckTable.j5 k y0 y1 y2 y3 y4 y5 y6 y7 y8 y9 y10 y11 y12 y13 y14 y15 y16) (log_CheckTable.j5 (k + 1) y0 y1 y2 y3 y4 y5 y6 y7 y8 y9 y10 y11 y12 y13 y14 y15 y16))
 | 0 => ⟨fun _ _ _ _ _ _ _ _ _ r h => by simp [log_CheckTable.l0] at h, fun _ _ _ _ _ _ _ _ _ r h => by simp [log_CheckTable.l1] at h, fun _ _ _ _ _ _ _ _ _ _ _ _ _ _ r h => by simp [log_CheckTable.l2] at h, fun _ _ _ _ _ _ _ _ _ _ _ _ _ _ _ _ _ r h => by simp [log_CheckTable.j3] at h, fun _ _ _ _ _ _ _ _ _ _ _ _ _ _ _ _ _ r h => by simp [log_CheckTable.j4] at h, fun _ _ _ _ _ _ _ _ _ _ _ _ _ _ _ _ _ r h => by simp [log_CheckTable.j5] at h⟩
 | k + 1 => by
  obtain ⟨ih0, ih1, ih2, ih3, ih4, ih5⟩ := log_CheckTable.mono_l k; refine ⟨?_, ?_, ?_, ?_, ?_, ?_⟩
  ·intro y0 y1 y2 y3 y4 y5 y6 y7 y8; unfold log_CheckTable.l0; repeat' first
   | (with_reducible exact ih0 _ _ _ _ _ _ _ _ _)
   | (with_reducible exact ih1 _ _ _ _ _ _ _ _ _)
   | (with_reducible exact ih2 _ _ _ _ _ _ _ _ _ _ _ _ _ _)
   | (with_reducible exact ih3 _ _ _ _ _ _ _ _ _ _ _ _ _ _ _ _ _)
   | (with_reducible exact ih4 _ _ _ _ _ _ _ _ _ _ _ _ _ _ _ _ _)
   | (with_reducible exact ih5 _ _ _ _ _ _ _ _ _ _ _ _ _ _ _ _ _)
   | (with_reducible exact log_check.mono _ _ _ _ _ _)
   | (with_reducible exact slices_ContainsFunc_int_int_log_CheckTable_1.mono _ _)
   | (with_reducible exact LeO.refl _)
   | (with_reducible exact LeO.none _)
   | (with_reducible refine LeO.ite ?_ ?_)
   | (with_reducible refine LeO.bind ?_ (fun _ => ?_))
   | exact ih0 _ _ _ _ _ _ _ _ _
   | exact ih1 _ _ _ _ _ _ _ _ _
   | exact ih2 _ _ _ _ _ _ _ _ _ _ _ _ _ _
   | exact ih3 _ _ _ _ _ _ _ _ _ _ _ _ _ _ _ _ _
   | exact ih4 _ _ _ _ _ _ _ _ _ _ _ _ _ _ _ _ _
   | exact ih5 _ _ _ _ _ _ _ _ _ _ _ _ _ _ _ _ _
   | exact log_check.mono _ _ _ _ _ _
   | exact slices_ContainsFunc_int_int_log_CheckTable_1.mono _ _
   | exact LeO.none _
   | refine LeO.ite ?_ ?_
   | refine LeO.bind ?_ (fun _ => ?_)
  ·intro y0 y1 y2 y3 y4 y5 y6 y7 y8; unfold log_CheckTable.l1; repeat' first
   | (with_reducible exact ih0 _ _ _ _ _ _ _ _ _)
   | (with_reducible exact ih1 _ _ _ _ _ _ _ _ _)
   | (with_reducible exact ih2 _ _ _ _ _ _ _ _ _ _ _ _ _ _)
   | (with_reducible exact ih3 _ _ _ _ _ _ _ _ _ _ _ _ _ _ _ _ _)
   | (with_reducible exact ih4 _ _ _ _ _ _ _ _ _ _ _ _ _ _ _ _ _)
   | (with_reducible exact ih5 _ _ _ _ _ _ _ _ _ _ _ _ _ _ _ _ _)
   | (with_reducible exact log_check.mono _ _ _ _ _ _)
   | (with_reducible exact slices_ContainsFunc_int_int_log_CheckTable_1.mono _ _)
   | (with_reducible exact LeO.refl _)
   | (with_reducible exact LeO.none _)
   | (with_reducible refine LeO.ite ?_ ?_)
   | (with_reducible refine LeO.bind ?_ (fun _ => ?_))
   | exact ih0 _ _ _ _ _ _ _ _ _
   | exact ih1 _ _ _ _ _ _ _ _ _
   | exact ih2 _ _ _ _ _ _ _ _ _ _ _ _ _ _
   | exact ih3 _ _ _ _ _ _ _ _ _ _ _ _ _ _ _ _ _
   | exact ih4 _ _ _ _ _ _ _ _ _ _ _ _ _ _ _ _ _
   | exact ih5 _ _ _ _ _ _ _ _ _ _ _ _ _ _ _ _ _
   | exact log_check.mono _ _ _ _ _ _
   | exact slices_ContainsFunc_int_int_log_CheckTable_1.mono _ _
   | exact LeO.none _
   | refine LeO.ite ?_ ?_
   | refine LeO.bind ?_ (fun _ => ?_)
  ·intro y0 y1 y2 y3 y4 y5 y6 y7 y8 y9 y10 y11 y12 y13; unfold log_CheckTable.l2; repeat' first
   | (with_reducible exact ih0 _ _ _ _ _ _ _ _ _)
   | (with_reducible exact ih1 _ _ _ _ _ _ _ _ _)
   | (with_reducible exact ih2 _ _ _ _ _ _ _ _ _ _ _ _ _ _)
   | (with_reducible exact ih3 _ _ _ _ _ _ _ _ _ _ _ _ _ _ _ _ _)
   | (with_reducible exact ih4 _ _ _ _ _ _ _ _ _ _ _ _ _ _ _ _ _)
   | (with_reducible exact ih5 _ _ _ _ _ _ _ _ _ _ _ _ _ _ _ _ _)
   | (with_reducible exact log_check.mono _ _ _ _ _ _)
   | (with_reducible exact slices_ContainsFunc_int_int_log_CheckTable_1.mono _ _)
   | (with_reducible exact LeO.refl _)
   | (with_reducible exact LeO.none _)
   | (with_reducible refine LeO.ite ?_ ?_)
   | (with_reducible refine LeO.bind ?_ (fun _ => ?_))
   | exact ih0 _ _ _ _ _ _ _ _ _
   | exact ih1 _ _ _ _ _ _ _ _ _
   | exact ih2 _ _ _ _ _ _ _ _ _ _ _ _ _ _
   | exact ih3 _ _ _ _ _ _ _ _ _ _ _ _ _ _ _ _ _
   | exact ih4 _ _ _ _ _ _ _ _ _ _ _ _ _ _ _ _ _
   | exact ih5 _ _ _ _ _ _ _ _ _ _ _ _ _ _ _ _ _
   | exact log_check.mono _ _ _ _ _ _
   | exact slices_ContainsFunc_int_int_log_CheckTable_1.mono _ _
   | exact LeO.none _
   | refine LeO.ite ?_ ?_
   | refine LeO.bind ?_ (fun _ => ?_)
  ·intro y0 y1 y2 y3 y4 y5 y6 y7 y8 y9 y10 y11 y12 y13 y14 y15 y16; unfold log_CheckTable.j3; repeat' first
   | (with_reducible exact ih0 _ _ _ _ _ _ _ _ _)
   | (with_reducible exact ih1 _ _ _ _ _ _ _ _ _)
   | (with_reducible exact ih2 _ _ _ _ _ _ _ _ _ _ _ _ _ _)
   | (with_reducible exact ih3 _ _ _ _ _ _ _ _ _ _ _ _ _ _ _ _ _)
   | (with_reducible exact ih4 _ _ _ _ _ _ _ _ _ _ _ _ _ _ _ _ _)
   | (with_reducible exact ih5 _ _ _ _ _ _ _ _ _ _ _ _ _ _ _ _ _)
   | (with_reducible exact log_check.mono _ _ _ _ _ _)
   | (with_reducible exact slices_ContainsFunc_int_int_log_CheckTable_1.mono _ _)
   | (with_reducible exact LeO.refl _)
   | (with_reducible exact LeO.none _)
   | (with_reducible refine LeO.ite ?_ ?_)
   | (with_reducible refine LeO.bind ?_ (fun _ => ?_))
   | exact ih0 _ _ _ _ _ _ _ _ _
   | exact ih1 _ _ _ _ _ _ _ _ _
   | exact ih2 _ _ _ _ _ _ _ _ _ _ _ _ _ _
   | exact ih3 _ _ _ _ _ _ _ _ _ _ _ _ _ _ _ _ _
   | exact ih4 _ _ _ _ _ _ _ _ _ _ _ _ _ _ _ _ _
   | exact ih5 _ _ _ _ _ _ _ _ _ _ _ _ _ _ _ _ _
   | exact log_check.mono _ _ _ _ _ _
   | exact slices_ContainsFunc_int_int_log_CheckTable_1.mono _ _
   | exact LeO.none _
   | refine LeO.ite ?_ ?_
   | refine LeO.bind ?_ (fun _ => ?_)
  ·intro y0 y1 y2 y3 y4 y5 y6 y7 y8 y9 y10 y11 y12 y13 y14 y15 y16; unfold log_CheckTable.j4; repeat' first
   | (with_reducible exact ih0 _ _ _ _ _ _ _ _ _)
   | (with_reducible exact ih1 _ _ _ _ _ _ _ _ _)
   | (with_reducible exact ih2 _ _ _ _ _ _ _ _ _ _ _ _ _ _)
   | (with_reducible exact ih3 _ _ _ _ _ _ _ _ _ _ _ _ _ _ _ _ _)
   | (with_reducible exact ih4 _ _ _ _ _ _ _ _ _ _ _ _ _ _ _ _ _)
   | (with_reducible exact ih5 _ _ _ _ _ _ _ _ _ _ _ _ _ _ _ _ _)
   | (with_reducible exact log_check.mono _ _ _ _ _ _)
   | (with_reducible exact slices_ContainsFunc_int_int_log_CheckTable_1.mono _ _)
   | (with_reducible exact LeO.refl _)
   | (with_reducible exact LeO.none _)
   | (with_reducible refine LeO.ite ?_ ?_)
   | (with_reducible refine LeO.bind ?_ (fun _ => ?_))
   | exact ih0 _ _ _ _ _ _ _ _ _
   | exact ih1 _ _ _ _ _ _ _ _ _
   | exact ih2 _ _ _ _ _ _ _ _ _ _ _ _ _ _
   | exact ih3 _ _ _ _ _ _ _ _ _ _ _ _ _ _ _ _ _
   | exact ih4 _ _ _ _ _ _ _ _ _ _ _ _ _ _ _ _ _
   | exact ih5 _ _ _ _ _ _ _ _ _ _ _ _ _ _ _ _ _
   | exact log_check.mono _ _ _ _ _ _
   | exact slices_ContainsFunc_int_int_log_CheckTable_1.mono _ _
   | exact LeO.none _
   | refine LeO.ite ?_ ?_
   | refine LeO.bind ?_ (fun _ => ?_)
  ·intro y0 y1 y2 y3 y4 y5 y6 y7 y8 y9 y10 y11 y12 y13 y14 y15 y16; unfold log_CheckTable.j5; repeat' first
   | (with_reducible exact ih0 _ _ _ _ _ _ _ _ _)
   | (with_reducible exact ih1 _ _ _ _ _ _ _ _ _)
   | (with_reducible exact ih2 _ _ _ _ _ _ _ _ _ _ _ _ _ _)
   | (with_reducible exact ih3 _ _ _ _ _ _ _ _ _ _ _ _ _ _ _ _ _)
   | (with_reducible exact ih4 _ _ _ _ _ _ _ _ _ _ _ _ _ _ _ _ _)
   | (with_reducible exact ih5 _ _ _ _ _ _ _ _ _ _ _ _ _ _ _ _ _)
   | (with_reducible exact log_check.mono _ _ _ _ _ _)
   | (with_reducible exact slices_ContainsFunc_int_int_log_CheckTable_1.mono _ _)
   | (with_reducible exact LeO.refl _)
   | (with_reducible exact LeO.none _)
   | (with_reducible refine LeO.ite ?_ ?_)
   | (with_reducible refine LeO.bind ?_ (fun _ => ?_))
   | exact ih0 _ _ _ _ _ _ _ _ _
   | exact ih1 _ _ _ _ _ _ _ _ _
   | exact ih2 _ _ _ _ _ _ _ _ _ _ _ _ _ _
   | exact ih3 _ _ _ _ _ _ _ _ _ _ _ _ _ _ _ _ _
   | exact ih4 _ _ _ _ _ _ _ _ _ _ _ _ _ _ _ _ _
   | exact ih5 _ _ _ _ _ _ _ _ _ _ _ _ _ _ _ _ _
   | exact log_check.mono _ _ _ _ _ _
   | exact slices_ContainsFunc_int_int_log_CheckTable_1.mono _ _
   | exact LeO.none _
   | refine LeO.ite ?_ ?_
   | refine LeO.bind ?_ (fun _ => ?_)
theorem log_CheckTable.mono : ∀ a0 a1 a2 a3 a4 a5 k, LeO (log_CheckTable.f k a0 a1 a2 a3 a4 a5) (log_CheckTable.f (k + 1) a0 a1 a2 a3 a4 a5) := by
 intro a0 a1 a2 a3 a4 a5 k; obtain ⟨ih0, ih1, ih2, ih3, ih4, ih5⟩ := log_CheckTable.mono_l k; unfold log_CheckTable.f; repeat' first
   | (with_reducible exact ih0 _ _ _ _ _ _ _ _ _)
   | (with_reducible exact ih1 _ _ _ _ _ _ _ _ _)
   | (with_reducible exact ih2 _ _ _ _ _ _ _ _ _ _ _ _ _ _)
   | (with_reducible exact ih3 _ _ _ _ _ _ _ _ _ _ _ _ _ _ _ _ _)
   | (with_reducible exact ih4 _ _ _ _ _ _ _ _ _ _ _ _ _ _ _ _ _)
   | (with_reducible exact ih5 _ _ _ _ _ _ _ _ _ _ _ _ _ _ _ _ _)
   | (with_reducible exact log_check.mono _ _ _ _ _ _)
   | (with_reducible exact slices_ContainsFunc_int_int_log_CheckTable_1.mono _ _)
   | (with_reducible exact LeO.refl _)
   | (with_reducible exact LeO.none _)
   | (with_reducible refine LeO.ite ?_ ?_)
   | (with_reducible refine LeO.bind ?_ (fun _ => ?_))
   | exact ih0 _ _ _ _ _ _ _ _ _
   | exact ih1 _ _ _ _ _ _ _ _ _
   | exact ih2 _ _ _ _ _ _ _ _ _ _ _ _ _ _
   | exact ih3 _ _ _ _ _ _ _ _ _ _ _ _ _ _ _ _ _
   | exact ih4 _ _ _ _ _ _ _ _ _ _ _ _ _ _ _ _ _
   | exact ih5 _ _ _ _ _ _ _ _ _ _ _ _ _ _ _ _ _
   | exact log_check.mono _ _ _ _ _ _
   | exact slices_ContainsFunc_int_int_log_CheckTable_1.mono _ _
   | exact LeO.none _
   | refine LeO.ite ?_ ?_
   | refine LeO.bind ?_ (fun _ => ?_)
def log_CheckTable.T19 : Bool × List (List Nat × List Nat) := (true, [([], []), ([0], [0]), ([1], [1]), ([2], [2]), ([2], [2]), ([2], [2]), ([5, 2], [2, 5]), ([4, 6, 2], [2, 4, 6]), ([7, 2], [2, 7]), ([2], [2]), ([8, 9, 2], [2, 8, 9]), ([10, 2], [2, 10]), ([2], [2]), ([12, 2], [2, 12]), ([11, 13, 2], [2, 11, 13]), ([3, 14, 2], [2, 3, 14]), ([2, 15], [2, 15]), ([16, 2], [16])])
def log_CheckTable.B19 : List Nat := [0, 1, 3, 7, 7, 7, 39, 119, 247, 7, 1015, 2039, 7, 4103, 16375, 32767, 65535, 131071]
theorem log_CheckTable.tab19 : rtab .any (opsOf Try.f37 19) = log_CheckTable.T19 := by kernel_rfl
theorem log_CheckTable.bits19 : waitsOk log_CheckTable.T19.2 log_CheckTable.B19 = true := by kernel_rfl
def log_CheckTable.T20 : Bool × List (List Nat × List Nat) := (true, [([], []), ([0], [0]), ([1], [1]), ([2], [2]), ([2], [2]), ([2], [2]), ([5, 2], [2, 5]), ([4, 6, 2], [2, 4, 6]), ([7, 2], [2, 7]), ([2], [2]), ([9, 2], [2, 9]), ([8, 10, 2], [2, 8, 10]), ([3, 11, 2], [2, 3, 11]), ([2, 12], [2, 12]), ([13, 2], [13])])
def log_CheckTable.B20 : List Nat := [0, 1, 3, 7, 7, 7, 39, 119, 247, 7, 519, 2039, 4095, 8191, 16383]
theorem log_CheckTable.tab20 : rtab .any (opsOf Try.f37 20) = log_CheckTable.T20 := by kernel_rfl
theorem log_CheckTable.bits20 : waitsOk log_CheckTable.T20.2 log_CheckTable.B20 = true := by kernel_rfl
def log_CheckTable.T21 : Bool × List (List Nat × List Nat) := (true, [([], []), ([0], [0]), ([1], [1]), ([2], [2]), ([3, 2], [2, 3]), ([2, 4], [2, 4]), ([5, 2], [5]), ([6], [6]), ([6], [6]), ([6], [6]), ([9, 6], [6, 9]), ([8, 10, 6], [6, 8, 10]), ([11, 6], [6, 11]), ([6], [6]), ([13, 6], [6, 13]), ([12, 14, 6], [6, 12, 14]), ([15, 6], [6, 15]), ([6], [6]), ([6], [6]), ([6], [6]), ([19, 6], [6, 19]), ([18, 20, 6], [6, 18, 20]), ([21, 6], [6, 21]), ([6], [6]), ([6], [6]), ([24, 6], [6, 24]), ([23, 25, 6], [6, 23, 25]), ([26, 6], [6, 26]), ([22, 27, 6], [6, 22, 27]), ([28, 6], [6, 28]), ([17, 29, 6, 6], [6, 17, 29]), ([16, 30, 6], [6, 16, 30]), ([7, 31, 6], [6, 7, 31]), ([6, 32], [6, 32]), ([33, 30], [33])])
def log_CheckTable.B21 : List Nat := [0, 1, 3, 7, 15, 31, 63, 127, 127, 127, 639, 1919, 3967, 127, 8319, 32639, 65407, 127, 127, 127, 524415, 1835135, 3932287, 127, 127, 16777343, 58720383, 125829247, 268173439, 536608895, 1073610879, 2147483519, 4294967295, 8589934591, 17179869183]
theorem log_CheckTable.tab21 : rtab .any (opsOf Try.f37 21) = log_CheckTable.T21 := by kernel_rfl
theorem log_CheckTable.bits21 : waitsOk log_CheckTable.T21.2 log_CheckTable.B21 = true := by kernel_rfl
set_option maxHeartbeats 8000000 in
set_option maxRecDepth 100000 in
theorem log_CheckTable.calls (k : Nat) (A0 : Option Addr) (c0 : Nat) (l0 : List Int) (A1 : Option Addr) (c1 : Nat) (l1 : List Int) (a2_0 : Int) (a2_1 : Int) (a2_2 : Int) (A3 : Option Addr) (c3 : Nat) (l3 : List (List Int)) (r1 : Int) (r2 : Int) (w : World) (hr0 : Kd.C (Kd.int .i64) w A0 l0.length l0) (hc0 : l0.length ≤ c0) (hr1 : Kd.C (Kd.int .i64) w A1 l1.length l1) (hc1 : l1.length ≤ c1) (hr3 : Kd.C (Kd.slice 3 (Kd.int .i64)) w A3 l3.length l3) (hc3 : l3.length ≤ c3) (h : log_CheckTable.f k l0 l1 a2_0 a2_1 a2_2 l3 = some (r1, r2)) :
  Calls Try.prog 37 #[.slice A0 l0.length c0, .slice A1 l1.length c1, .agg #[.int .i64 a2_0, .int .i64 a2_1, .int .i64 a2_2], .slice A3 l3.length c3] w fun e w' => e = .returned (.tuple #[.int .i64 r1, .int .i64 r2]) ∧ Below w.heap.size w w' := by
 have hu24 := Try.underlying24; have HR0 := XB hr0; have HC0 := XB hc0; clear hr0 hc0; have HR1 := XB hr1; have HC1 := XB hc1; clear hr1 hc1; have HR3 := XB hr3; have HC3 := XB hc3; clear hr3 hc3; have HB := XB (Below.refl w.heap.size w); have H : ((log_check.f k l0 l1 a2_0 a2_1 a2_2).bind fun t102 => (if t102 = 0 then (if (l3.length : Int) = (wrap64 ((l0.length : Int) + 1)) then (log_CheckTable.l0 k l0 l1 l3 l3 (l3.length : Int) 0 a2_0 a2_1 a2_2) else (some (0, 1))) else (some (0, t102)))) = some (r1, r2) := h; clear h; replace H := Option.bind_eq_some_iff.mp H; obtain ⟨t102, A50, H⟩ := H; replace H : (if t102 = 0 then (if (l3.length : Int) = (wrap64 ((l0.length : Int) + 1)) then (log_CheckTable.l0 k l0 l1 l3 l3 (l3.length : Int) 0 a2_0 a2_1 a2_2) else (some (0, 1))) else (some (0, t102))) = some (r1, r2) := H; have A5 := XB A50; clear A50; by_cases c6 : t102 = 0
 ·rw [if_pos c6] at H; have c6b0 : (t102 == 0) = true := beq_iff_eq.mpr c6; have c6b1 : (t102 != 0) = false := bne_eq_false_iff_eq.mpr c6; clear c6; by_cases c7 : (l3.length : Int) = (wrap64 ((l0.length : Int) + 1))
  ·rw [if_pos c7] at H; have c7b0 : ((l3.length : Int) == (wrap64 ((l0.length : Int) + 1))) = true := beq_iff_eq.mpr c7; have c7b1 : ((l3.length : Int) != (wrap64 ((l0.length : Int) + 1))) = false := bne_eq_false_iff_eq.mpr c7; clear c7; have H' := XB H; clear H; go_enter Try.func37, Try.ntmps37
   go_wp2_with (first | ((with_reducible refine gate_dst (N := 6) rfl ?_); refine box_event ?hg (N := 6) ?hd (cs := #[.int .i64 a2_0, .int .i64 a2_1, .int .i64 a2_2]) (t := 24) ?hr ?_; (case hd => rfl); (case hg => rfl); (case hr => first | (go_simp; done) | (go_simp; rfl)); intro gb101 hg w8 hbox hb; have n0_ := XB (Xz (by repeat (first | (with_reducible first | exact HB.out | apply Xc | apply Xa | apply Xb) | exact HB.out)) hb); have n1_ := XB (hbox); have n2_ := XB ((by rw [hg]; exact (XC (by repeat (first | (with_reducible first | exact HB.out | apply Xc | apply Xa | apply Xb) | exact HB.out))) : w.heap.size ≤ gb101)); have n3_ := XB ((by rw [hg]; exact (XC (by repeat (first | (with_reducible first | exact HB.out | apply Xc | apply Xa | apply Xb) | exact HB.out))) : w.heap.size ≤ gb101)); clear HB; have HB := n0_; have J101 := n1_; have GW101 := n2_; have E101 := n3_; clear n0_ n1_ n2_ n3_; clear hb hbox hg; have hcz9_0 : w8.cell? ⟨gb101, 0, none⟩ = some (.int .i64 a2_0) := (Xi J101.out 0).trans rfl; have hcz9_1 : w8.cell? ⟨gb101, 1, none⟩ = some (.int .i64 a2_1) := (Xi J101.out 1).trans rfl; have hcz9_2 : w8.cell? ⟨gb101, 2, none⟩ = some (.int .i64 a2_2) := (Xi J101.out 2).trans rfl; have hfz9_0 := Xh J101.out 0; have hfz9_1 := Xh J101.out 1; have hfz9_2 := Xh J101.out 2) | ((with_reducible refine gate_callee (f := 55) rfl ?_); refine goesL_ (some 20) rfl rfl Try.func55 (by kernel_rfl) rfl #[.slice A0 l0.length c0, .slice A1 l1.length c1, .agg #[.int .i64 a2_0, .int .i64 a2_1, .int .i64 a2_2]] rfl (by (try simp only [Xm, Xn, Xo]); first | done | rfl | (simp only [Xp, Xq]; rfl)) ?_; (with_reducible refine (log_check.calls k _ _ l0 _ _ l1 a2_0 a2_1 a2_2 t102 _ ?side1 ?side2 ?side3 ?side4 A5.out).mono ?_); (case side1 => repeat (first | exact (Xu HR0.out HB.out) | (with_reducible refine Xr ?_ _) | (with_reducible refine Xs ?_ _) | (with_reducible refine Xt ?_))); (case side2 => exact HC0.out); (case side3 => repeat (first | exact (Xu HR1.out HB.out) | (with_reducible refine Xr ?_ _) | (with_reducible refine Xs ?_ _) | (with_reducible refine Xt ?_))); (case side4 => exact HC1.out); rintro e w10 ⟨rfl, hb⟩; refine ⟨_, rfl, ?_⟩; have n0_ := XB (XA (g := gb101) (o := .cells #[.int .i64 a2_0, .int .i64 a2_1, .int .i64 a2_2] 24 (0, 0)) (by (with_reducible repeat (first | refine Xf ?_ _ | refine Xg ?_ | refine Xe ?_ _)); exact J101.out) hb); have n1_ := XB (Xz (by repeat (first | (with_reducible first | exact HB.out | apply Xc | apply Xa | apply Xb | refine Xd ?_ E101.out) | exact HB.out)) hb); clear J101; clear HB; have J101 := n0_; have HB := n1_; clear n0_ n1_; (try clear hb); (try clear hb2); (try clear hk); (try clear hi)))
   go_loopg [32] k (fun kq v32 w' => ∃ (x32_1 : Int), v32 = .int .i64 x32_1 ∧ Aside0 (log_CheckTable.l0 kq l0 l1 l3 l3 (l3.length : Int) x32_1 a2_0 a2_1 a2_2 = some (r1, r2)) ∧ Aside0 (kq ≤ k) ∧ Aside0 (w'.heap[gb101]? = some (.cells #[.int .i64 a2_0, .int .i64 a2_1, .int .i64 a2_2] 24 (0, 0))) ∧ Aside0 (Below w.heap.size w w'))
   case atStart => exact ⟨(0), (by first | rfl | (simp; done) | (simp [*]; done)), H', ⟨Nat.le_refl _⟩, ⟨by (with_reducible repeat (first | refine Xf ?_ _ | refine Xg ?_ | refine Xe ?_ _)); exact J101.out⟩, ⟨by repeat (first | (with_reducible first | exact HB.out | apply Xc | apply Xa | apply Xb | refine Xd ?_ E101.out) | exact HB.out)⟩⟩
   case round =>
    clear H'; try clear c1
    try clear p2
    try clear c3
    try clear c5
    try clear c6
    try clear c6b0
    try clear c6b1
    try clear p6
    try clear c7
    try clear c7b0
    try clear c7b1
    try clear hcz9_0
    try clear hcz9_1
    try clear hcz9_2
    try clear hfz9_0
    try clear hfz9_1
    try clear hfz9_2
    obtain ⟨x32_1, rfl, HA, HK1, J101, HB⟩ := hrel
    cases gk with
    | zero => exact absurd HA.out (by simp [log_CheckTable.l0])
    | succ k1 =>
     have H := HA.out; clear HA; simp only [log_CheckTable.l0] at H; by_cases c11 : x32_1 < (l3.length : Int)
     ·rw [if_pos c11] at H; have c11b0 : decide (x32_1 < (l3.length : Int)) = true := decide_eq_true c11; clear c11; by_cases c12 : 0 ≤ x32_1
      ·rw [if_pos c12] at H; have c12b0 : decide (0 ≤ x32_1) = true := decide_eq_true c12; clear c12; by_cases c13 : x32_1 < (l3.length : Int)
       ·rw [if_pos c13] at H; have c13b0 : decide (x32_1 < (l3.length : Int)) = true := decide_eq_true c13; clear c13; by_cases c14 : ((rd_L1 l3 x32_1).length : Int) = (wrap64 ((l1.length : Int) + 1))
        ·rw [if_pos c14] at H; have c14b0 : (((rd_L1 l3 x32_1).length : Int) == (wrap64 ((l1.length : Int) + 1))) = true := beq_iff_eq.mpr c14; have c14b1 : (((rd_L1 l3 x32_1).length : Int) != (wrap64 ((l1.length : Int) + 1))) = false := bne_eq_false_iff_eq.mpr c14; clear c14; replace H := Option.bind_eq_some_iff.mp H; obtain ⟨t104, A150, H⟩ := H; replace H : (if t104 = true then (some (0, 1)) else (log_CheckTable.l0 k1 l0 l1 l3 l3 (l3.length : Int) (wrap64 (x32_1 + 1)) a2_0 a2_1 a2_2)) = some (r1, r2) := H; have A15 := XB A150; clear A150; by_cases c16 : t104 = true
         ·subst c16; have H1 : (some (0, 1)) = some (r1, r2) := by rw [if_pos rfl] at H; exact H
          clear H; have H := H1; clear H1; simp only [Option.some.injEq, Prod.mk.injEq] at H; obtain ⟨rfl, rfl⟩ := H; have p103 : 0 ≤ (x32_1 : Int) := of_decide_eq_true (by first | (with_reducible assumption) | assumption); have q103 : x32_1 < (l3.length : Int) := of_decide_eq_true (by first | (with_reducible assumption) | assumption); obtain ⟨ad103, A103_0, c103_0, e103, hx103_0, hl103_0, hi103_0⟩ := at_L1 HR3.out x32_1 p103 q103
          cases e103
          replace hx103_0 := (HB.out.cell (World.block_lt_of_cell? w _ hx103_0)).trans hx103_0; have HR103_0 := XB hi103_0; have HC103_0 := XB hl103_0; clear hi103_0 hl103_0; replace p103 := eq_true p103; replace q103 := eq_true q103; go_wp2_with (first | (go_at_call 69; (with_reducible refine (slices_ContainsFunc_int_int_log_CheckTable_1.calls k1 _ _ (rd_L1 l3 x32_1)  true _ ?side1 ?side2 A15.out).mono ?_); (case side1 => repeat (first | exact (Xu HR103_0.out HB.out) | (with_reducible refine Xr ?_ _) | (with_reducible refine Xs ?_ _) | (with_reducible refine Xt ?_))); (case side2 => exact HC103_0.out); rintro e w' ⟨rfl, ⟨nd, rfl⟩⟩))
          go_ret2
          exact ⟨by first | rfl | (simp [errW_none, errW_some] <;> rfl) | (simp [*, errW_none, errW_some] <;> rfl), by repeat (first | (with_reducible first | exact HB.out | apply Xc | apply Xa | apply Xb | refine Xd ?_ E101.out) | exact HB.out)⟩
         ·replace c16 := Bool.eq_false_iff.mpr c16; subst c16; have H1 : (log_CheckTable.l0 k1 l0 l1 l3 l3 (l3.length : Int) (wrap64 (x32_1 + 1)) a2_0 a2_1 a2_2) = some (r1, r2) := by rw [if_neg (show ¬ (false = true) by decide)] at H; exact H
          clear H; have H := H1; clear H1; have H' := XB H; clear H; have p103 : 0 ≤ (x32_1 : Int) := of_decide_eq_true (by first | (with_reducible assumption) | assumption); have q103 : x32_1 < (l3.length : Int) := of_decide_eq_true (by first | (with_reducible assumption) | assumption); obtain ⟨ad103, A103_0, c103_0, e103, hx103_0, hl103_0, hi103_0⟩ := at_L1 HR3.out x32_1 p103 q103
          cases e103
          replace hx103_0 := (HB.out.cell (World.block_lt_of_cell? w _ hx103_0)).trans hx103_0; have HR103_0 := XB hi103_0; have HC103_0 := XB hl103_0; clear hi103_0 hl103_0; replace p103 := eq_true p103; replace q103 := eq_true q103; go_wp2_with (first | (go_at_call 69; (with_reducible refine (slices_ContainsFunc_int_int_log_CheckTable_1.calls k1 _ _ (rd_L1 l3 x32_1)  false _ ?side1 ?side2 A15.out).mono ?_); (case side1 => repeat (first | exact (Xu HR103_0.out HB.out) | (with_reducible refine Xr ?_ _) | (with_reducible refine Xs ?_ _) | (with_reducible refine Xt ?_))); (case side2 => exact HC103_0.out); rintro e w' ⟨rfl, ⟨nd, rfl⟩⟩))
          go_roundg k1
          case measure => have := HK1.out; omega
          case rel => exact ⟨(wrap64 (x32_1 + 1)), (by first | rfl | (simp; done) | (simp [*]; done)), H', ⟨by have := HK1.out; omega⟩, ⟨by (with_reducible repeat (first | refine Xf ?_ _ | refine Xg ?_ | refine Xe ?_ _)); exact J101.out⟩, ⟨by repeat (first | (with_reducible first | exact HB.out | apply Xc | apply Xa | apply Xb | refine Xd ?_ E101.out) | exact HB.out)⟩⟩
        ·rw [if_neg c14] at H; have c14b0 : (((rd_L1 l3 x32_1).length : Int) == (wrap64 ((l1.length : Int) + 1))) = false := beq_eq_false_iff_ne.mpr c14; have c14b1 : (((rd_L1 l3 x32_1).length : Int) != (wrap64 ((l1.length : Int) + 1))) = true := bne_iff_ne.mpr c14; simp only [Option.some.injEq, Prod.mk.injEq] at H; obtain ⟨rfl, rfl⟩ := H; have p103 : 0 ≤ (x32_1 : Int) := of_decide_eq_true (by first | (with_reducible assumption) | assumption); have q103 : x32_1 < (l3.length : Int) := of_decide_eq_true (by first | (with_reducible assumption) | assumption); obtain ⟨ad103, A103_0, c103_0, e103, hx103_0, hl103_0, hi103_0⟩ := at_L1 HR3.out x32_1 p103 q103
         cases e103
         replace hx103_0 := (HB.out.cell (World.block_lt_of_cell? w _ hx103_0)).trans hx103_0; have HR103_0 := XB hi103_0; have HC103_0 := XB hl103_0; clear hi103_0 hl103_0; replace p103 := eq_true p103; replace q103 := eq_true q103; go_wp2
         go_ret2
         exact ⟨by first | rfl | (simp [errW_none, errW_some] <;> rfl) | (simp [*, errW_none, errW_some] <;> rfl), by repeat (first | (with_reducible first | exact HB.out | apply Xc | apply Xa | apply Xb | refine Xd ?_ E101.out) | exact HB.out)⟩
       ·rw [if_neg c13] at H; exact absurd H (by simp)
      ·rw [if_neg c12] at H; exact absurd H (by simp)
     ·rw [if_neg c11] at H; have c11b0 : decide (x32_1 < (l3.length : Int)) = false := decide_eq_false c11; clear c11; have H' := XB H; clear H; go_wp2
      go_loopg [49] k1 (fun kq v49 w' => ∃ (x49_2 : Int), v49 = .int .i64 x49_2 ∧ Aside0 (log_CheckTable.l1 kq l0 l1 l3 l3 (l3.length : Int) x49_2 a2_0 a2_1 a2_2 = some (r1, r2)) ∧ Aside0 (kq ≤ k1) ∧ Aside0 (w'.heap[gb101]? = some (.cells #[.int .i64 a2_0, .int .i64 a2_1, .int .i64 a2_2] 24 (0, 0))) ∧ Aside0 (Below w.heap.size w w'))
      case atStart => exact ⟨(0), (by first | rfl | (simp; done) | (simp [*]; done)), H', ⟨Nat.le_refl _⟩, ⟨by (with_reducible repeat (first | refine Xf ?_ _ | refine Xg ?_ | refine Xe ?_ _)); exact J101.out⟩, ⟨by repeat (first | (with_reducible first | exact HB.out | apply Xc | apply Xa | apply Xb | refine Xd ?_ E101.out) | exact HB.out)⟩⟩
      case round =>
       clear H'; try clear c1
       try clear p1
       try clear q1
       try clear hx1
       try clear p2
       try clear c3
       try clear c5
       try clear c6
       try clear c6b0
       try clear c6b1
       try clear p6
       try clear c7
       try clear c7b0
       try clear c7b1
       try clear c10
       try clear p10
       try clear q10
       try clear hx10
       try clear c11
       try clear c11b0
       try clear c12
       try clear c12b0
       try clear c13
       try clear c13b0
       try clear c14
       try clear c14b0
       try clear c14b1
       try clear c16
       try clear hcz9_0
       try clear hcz9_1
       try clear hcz9_2
       try clear hfz9_0
       try clear hfz9_1
       try clear hfz9_2
       try clear hx103_0
       try clear p103
       try clear p2
       try clear p6
       try clear q103
       obtain ⟨x49_2, rfl, HA, HK2, J101, HB⟩ := hrel
       cases gk with
       | zero => exact absurd HA.out (by simp [log_CheckTable.l1])
       | succ k2 =>
        have H := HA.out; clear HA; simp only [log_CheckTable.l1] at H; by_cases c17 : x49_2 < (l3.length : Int)
        ·rw [if_pos c17] at H; have c17b0 : decide (x49_2 < (l3.length : Int)) = true := decide_eq_true c17; clear c17; by_cases c18 : 0 ≤ x49_2
         ·rw [if_pos c18] at H; have c18b0 : decide (0 ≤ x49_2) = true := decide_eq_true c18; clear c18; by_cases c19 : x49_2 < (l3.length : Int)
          ·rw [if_pos c19] at H; have c19b0 : decide (x49_2 < (l3.length : Int)) = true := decide_eq_true c19; clear c19; have H' := XB H; clear H; have p107 : 0 ≤ (x49_2 : Int) := of_decide_eq_true (by first | (with_reducible assumption) | assumption); have q107 : x49_2 < (l3.length : Int) := of_decide_eq_true (by first | (with_reducible assumption) | assumption); obtain ⟨ad107, A107_0, c107_0, e107, hx107_0, hl107_0, hi107_0⟩ := at_L1 HR3.out x49_2 p107 q107
           cases e107
           replace hx107_0 := (HB.out.cell (World.block_lt_of_cell? w _ hx107_0)).trans hx107_0; have HR107_0 := XB hi107_0; have HC107_0 := XB hl107_0; clear hi107_0 hl107_0; replace p107 := eq_true p107; replace q107 := eq_true q107; go_wp2
           go_loopg [56] k2 (fun kq v56 w' => ∃ (x56_3 : Int), v56 = .int .i64 x56_3 ∧ Aside0 (log_CheckTable.l2 kq l0 l1 l3 x49_2 (rd_L1 l3 x49_2) l3 (l3.length : Int) x49_2 (rd_L1 l3 x49_2) ((rd_L1 l3 x49_2).length : Int) x56_3 a2_0 a2_1 a2_2 = some (r1, r2)) ∧ Aside0 (kq ≤ k2) ∧ Aside0 (w'.heap[gb101]? = some (.cells #[.int .i64 a2_0, .int .i64 a2_1, .int .i64 a2_2] 24 (0, 0))) ∧ Aside0 (Below w.heap.size w w'))
           case atStart => exact ⟨(0), (by first | rfl | (simp; done) | (simp [*]; done)), H', ⟨Nat.le_refl _⟩, ⟨by (with_reducible repeat (first | refine Xf ?_ _ | refine Xg ?_ | refine Xe ?_ _)); exact J101.out⟩, ⟨by repeat (first | (with_reducible first | exact HB.out | apply Xc | apply Xa | apply Xb | refine Xd ?_ E101.out) | exact HB.out)⟩⟩
           case round =>
            clear H'; try clear c1
            try clear p1
            try clear q1
            try clear hx1
            try clear p2
            try clear c3
            try clear c5
            try clear c6
            try clear c6b0
            try clear c6b1
            try clear p6
            try clear c7
            try clear c7b0
            try clear c7b1
            try clear c10
            try clear p10
            try clear q10
            try clear hx10
            try clear c11
            try clear c11b0
            try clear c12
            try clear c12b0
            try clear c13
            try clear c13b0
            try clear c14
            try clear c14b0
            try clear c14b1
            try clear c16
            try clear c17
            try clear c17b0
            try clear c18
            try clear c18b0
            try clear c19
            try clear c19b0
            try clear hcz9_0
            try clear hcz9_1
            try clear hcz9_2
            try clear hfz9_0
            try clear hfz9_1
            try clear hfz9_2
            try clear hx103_0
            try clear hx107_0
            try clear p1
            try clear p10
            try clear p103
            try clear p107
            try clear p2
            try clear p6
            try clear q1
            try clear q10
            try clear q103
            try clear q107
            obtain ⟨x56_3, rfl, HA, HK3, J101, HB⟩ := hrel
            cases gk with
            | zero => exact absurd HA.out (by simp [log_CheckTable.l2])
            | succ k3 =>
             have H := HA.out; clear HA; simp only [log_CheckTable.l2] at H; by_cases c20 : x56_3 < ((rd_L1 l3 x49_2).length : Int)
             ·rw [if_pos c20] at H; have c20b0 : decide (x56_3 < ((rd_L1 l3 x49_2).length : Int)) = true := decide_eq_true c20; clear c20; by_cases c21 : 0 ≤ x56_3
              ·rw [if_pos c21] at H; have c21b0 : decide (0 ≤ x56_3) = true := decide_eq_true c21; clear c21; by_cases c22 : x56_3 < ((rd_L1 l3 x49_2).length : Int)
               ·rw [if_pos c22] at H; have c22b0 : decide (x56_3 < ((rd_L1 l3 x49_2).length : Int)) = true := decide_eq_true c22; clear c22; have HC23 := XB H; clear H; have p108 : 0 ≤ (x56_3 : Int) := of_decide_eq_true (by first | (with_reducible assumption) | assumption); have q108 : x56_3 < ((rd_L1 l3 x49_2).length : Int) := of_decide_eq_true (by first | (with_reducible assumption) | assumption); obtain ⟨ad108, e108, hx108_0⟩ := Kd.at_int HR107_0.out x56_3 p108 q108
                cases e108
                replace hx108_0 := (HB.out.cell (World.block_lt_of_cell? w _ hx108_0)).trans hx108_0; replace p108 := eq_true p108; replace q108 := eq_true q108; go_upto_region 18 with (fail)
                go_cut [61] (fun v61 wc => ∃ (kq : Nat) (x61_22 : Bool), v61 = .bool x61_22 ∧ Aside0 (log_CheckTable.j3 kq l0 l1 l3 x49_2 (rd_L1 l3 x49_2) x56_3 (rd (rd_L1 l3 x49_2) x56_3) l3 (l3.length : Int) x49_2 (rd_L1 l3 x49_2) ((rd_L1 l3 x49_2).length : Int) x56_3 x61_22 a2_0 a2_1 a2_2 = some (r1, r2)) ∧ Aside0 (kq ≤ k3) ∧ Aside0 (wc.heap[gb101]? = some (.cells #[.int .i64 a2_0, .int .i64 a2_1, .int .i64 a2_2] 24 (0, 0))) ∧ Aside0 (Below w.heap.size w wc))
                case first =>
                 have H := HC23.out; clear HC23; by_cases c24 : x49_2 = 0
                 ·rw [if_pos c24] at H; have c24b0 : (x49_2 == 0) = true := beq_iff_eq.mpr c24; have c24b1 : (x49_2 != 0) = false := bne_eq_false_iff_eq.mpr c24; clear c24; (first | rw [c24b0] | (simp only [i64_w, i32_w]; rw [c24b0]) | skip)
                  by_cases c25 : x56_3 = 0
                  ·rw [if_pos c25] at H; have c25b0 : (x56_3 == 0) = true := beq_iff_eq.mpr c25; have c25b1 : (x56_3 != 0) = false := bne_eq_false_iff_eq.mpr c25; clear c25; have H' := XB H; clear H; go_wp2
                   go_meet
                   case rel => exact ⟨_, (((rd (rd_L1 l3 x49_2) x56_3) != 0)), (by first | rfl | (simp; done) | (simp [*]; done)), H', ⟨by have := HK1.out; have := HK2.out; have := HK3.out; first | omega | exact Nat.le_refl _⟩, ⟨by (with_reducible repeat (first | refine Xf ?_ _ | refine Xg ?_ | refine Xe ?_ _)); exact J101.out⟩, ⟨by repeat (first | (with_reducible first | exact HB.out | apply Xc | apply Xa | apply Xb | refine Xd ?_ E101.out) | exact HB.out)⟩⟩
                  ·rw [if_neg c25] at H; have c25b0 : (x56_3 == 0) = false := beq_eq_false_iff_ne.mpr c25; have c25b1 : (x56_3 != 0) = true := bne_iff_ne.mpr c25; have H' := XB H; clear H; go_wp2
                   go_meet
                   case rel => exact ⟨_, (false), (by first | rfl | (simp; done) | (simp [*]; done)), H', ⟨by have := HK1.out; have := HK2.out; have := HK3.out; first | omega | exact Nat.le_refl _⟩, ⟨by (with_reducible repeat (first | refine Xf ?_ _ | refine Xg ?_ | refine Xe ?_ _)); exact J101.out⟩, ⟨by repeat (first | (with_reducible first | exact HB.out | apply Xc | apply Xa | apply Xb | refine Xd ?_ E101.out) | exact HB.out)⟩⟩
                 ·rw [if_neg c24] at H; have c24b0 : (x49_2 == 0) = false := beq_eq_false_iff_ne.mpr c24; have c24b1 : (x49_2 != 0) = true := bne_iff_ne.mpr c24; (first | rw [c24b0] | (simp only [i64_w, i32_w]; rw [c24b0]) | skip)
                  have H' := XB H; clear H; go_wp2
                  go_meet
                  case rel => exact ⟨_, (false), (by first | rfl | (simp; done) | (simp [*]; done)), H', ⟨by have := HK1.out; have := HK2.out; have := HK3.out; first | omega | exact Nat.le_refl _⟩, ⟨by (with_reducible repeat (first | refine Xf ?_ _ | refine Xg ?_ | refine Xe ?_ _)); exact J101.out⟩, ⟨by repeat (first | (with_reducible first | exact HB.out | apply Xc | apply Xa | apply Xb | refine Xd ?_ E101.out) | exact HB.out)⟩⟩
                case rest =>
                 clear HC23; try clear c1
                 try clear p1
                 try clear q1
                 try clear hx1
                 try clear c2
                 try clear p2
                 try clear c3
                 try clear c5
                 try clear c6
                 try clear c6b0
                 try clear c6b1
                 try clear p6
                 try clear c7
                 try clear c7b0
                 try clear c7b1
                 try clear c10
                 try clear p10
                 try clear q10
                 try clear hx10
                 try clear c11
                 try clear c11b0
                 try clear c12
                 try clear c12b0
                 try clear c13
                 try clear c13b0
                 try clear c14
                 try clear c14b0
                 try clear c14b1
                 try clear c16
                 try clear c17
                 try clear c17b0
                 try clear c18
                 try clear c18b0
                 try clear c19
                 try clear c19b0
                 try clear c20
                 try clear c20b0
                 try clear c21
                 try clear c21b0
                 try clear c22
                 try clear c22b0
                 try clear c24
                 try clear c24b0
                 try clear c24b1
                 try clear c25
                 try clear c25b0
                 try clear c25b1
                 try clear hcz9_0
                 try clear hcz9_1
                 try clear hcz9_2
                 try clear hfz9_0
                 try clear hfz9_1
                 try clear hfz9_2
                 try clear hx103_0
                 try clear hx107_0
                 try clear hx108_0
                 try clear p1
                 try clear p10
                 try clear p103
                 try clear p107
                 try clear p108
                 try clear p2
                 try clear p6
                 try clear q1
                 try clear q10
                 try clear q103
                 try clear q107
                 try clear q108
                 obtain ⟨kq, x61_22, rfl, HA, HJ22, J101, HB⟩ := hcut
                 cases kq with
                 | zero => exact absurd HA.out (by simp [log_CheckTable.j3])
                 | succ kj22 =>
                  have H := HA.out; clear HA; simp only [log_CheckTable.j3] at H; by_cases c26 : x61_22 = true
                  ·subst c26; have H1 : (some (0, 7)) = some (r1, r2) := by rw [if_pos rfl] at H; exact H
                   clear H; have H := H1; clear H1; simp only [Option.some.injEq, Prod.mk.injEq] at H; obtain ⟨rfl, rfl⟩ := H; go_wp2
                   go_ret2
                   exact ⟨by first | rfl | (simp [errW_none, errW_some] <;> rfl) | (simp [*, errW_none, errW_some] <;> rfl), by repeat (first | (with_reducible first | exact HB.out | apply Xc | apply Xa | apply Xb | refine Xd ?_ E101.out) | exact HB.out)⟩
                  ·replace c26 := Bool.eq_false_iff.mpr c26; subst c26; have H1 : (if x49_2 > 0 then (if 0 ≤ (wrap64 (x49_2 - 1)) then (if (wrap64 (x49_2 - 1)) < (l3.length : Int) then (if 0 ≤ x56_3 then (if x56_3 < ((rd_L1 l3 (wrap64 (x49_2 - 1))).length : Int) then (log_CheckTable.j4 kj22 l0 l1 l3 x49_2 (rd_L1 l3 x49_2) x56_3 (rd (rd_L1 l3 x49_2) x56_3) l3 (l3.length : Int) x49_2 (rd_L1 l3 x49_2) ((rd_L1 l3 x49_2).length : Int) x56_3 (decide ((rd (rd_L1 l3 x49_2) x56_3) > (wrap64 ((rd (rd_L1 l3 (wrap64 (x49_2 - 1))) x56_3) + a2_0)))) a2_0 a2_1 a2_2) else (none)) else (none)) else (none)) else (none)) else (log_CheckTable.j4 kj22 l0 l1 l3 x49_2 (rd_L1 l3 x49_2) x56_3 (rd (rd_L1 l3 x49_2) x56_3) l3 (l3.length : Int) x49_2 (rd_L1 l3 x49_2) ((rd_L1 l3 x49_2).length : Int) x56_3 false a2_0 a2_1 a2_2)) = some (r1, r2) := by rw [if_neg (show ¬ (false = true) by decide)] at H; exact H
                   clear H; have H := H1; clear H1; have HC27 := XB H; clear H; go_upto_region 19 with (fail)
                   go_cut [61] (fun v61 wc => ∃ (kq : Nat) (x61_26 : Bool), v61 = .bool x61_26 ∧ Aside0 (log_CheckTable.j4 kq l0 l1 l3 x49_2 (rd_L1 l3 x49_2) x56_3 (rd (rd_L1 l3 x49_2) x56_3) l3 (l3.length : Int) x49_2 (rd_L1 l3 x49_2) ((rd_L1 l3 x49_2).length : Int) x56_3 x61_26 a2_0 a2_1 a2_2 = some (r1, r2)) ∧ Aside0 (kq ≤ kj22) ∧ Aside0 (wc.heap[gb101]? = some (.cells #[.int .i64 a2_0, .int .i64 a2_1, .int .i64 a2_2] 24 (0, 0))) ∧ Aside0 (Below w.heap.size w wc))
                   case first =>
                    have H := HC27.out; clear HC27; by_cases c28 : x49_2 > 0
                    ·rw [if_pos c28] at H; have c28b0 : decide (0 < x49_2) = true := decide_eq_true c28; clear c28; (first | rw [c28b0] | (simp only [i64_w, i32_w]; rw [c28b0]) | skip)
                     obtain ⟨ji29, hji29⟩ : ∃ j_ : Int, (wrap64 (x49_2 - 1)) = j_ := ⟨_, rfl⟩
                     replace H : (if 0 ≤ (ji29) then (if (ji29) < (l3.length : Int) then (if 0 ≤ x56_3 then (if x56_3 < ((rd_L1 l3 (ji29)).length : Int) then (log_CheckTable.j4 kj22 l0 l1 l3 x49_2 (rd_L1 l3 x49_2) x56_3 (rd (rd_L1 l3 x49_2) x56_3) l3 (l3.length : Int) x49_2 (rd_L1 l3 x49_2) ((rd_L1 l3 x49_2).length : Int) x56_3 (decide ((rd (rd_L1 l3 x49_2) x56_3) > (wrap64 ((rd (rd_L1 l3 (ji29)) x56_3) + a2_0)))) a2_0 a2_1 a2_2) else (none)) else (none)) else (none)) else (none)) = some (r1, r2) := by first | (rw [hji29] at H; exact H) | (simp only [hji29] at H ⊢; exact H)
                     have hji29w : (IntKind.i64.wrap (x49_2 - 1)) = ji29 := (i64_w _).trans hji29; by_cases c30 : 0 ≤ (ji29)
                     ·rw [if_pos c30] at H; have c30b0 : decide (0 ≤ (ji29)) = true := decide_eq_true c30; clear c30; by_cases c31 : (ji29) < (l3.length : Int)
                      ·rw [if_pos c31] at H; have c31b0 : decide ((ji29) < (l3.length : Int)) = true := decide_eq_true c31; clear c31; by_cases c32 : 0 ≤ x56_3
                       ·rw [if_pos c32] at H; have c32b0 : decide (0 ≤ x56_3) = true := decide_eq_true c32; clear c32; by_cases c33 : x56_3 < ((rd_L1 l3 (ji29)).length : Int)
                        ·rw [if_pos c33] at H; have c33b0 : decide (x56_3 < ((rd_L1 l3 (ji29)).length : Int)) = true := decide_eq_true c33; clear c33; have H' := XB H; clear H; try go_wp2
                         have n0_ := XB (Xg J101.out); have n1_ := XB (Xb HB.out); clear J101; clear HB; have J101 := n0_; have HB := n1_; clear n0_ n1_; have p109 : 0 ≤ ((ji29) : Int) := of_decide_eq_true (by first | (with_reducible assumption) | assumption); have q109 : (ji29) < (l3.length : Int) := of_decide_eq_true (by first | (with_reducible assumption) | assumption); obtain ⟨ad109, A109_0, c109_0, e109, hx109_0, hl109_0, hi109_0⟩ := at_L1 HR3.out (ji29) p109 q109; have hw109_0 := hx109_0; obtain rfl : ad107 = ad109 := (by injection e109); replace hx109_0 := (HB.out.cell (World.block_lt_of_cell? w _ hx109_0)).trans hx109_0; have HR109_0 := XB hi109_0; have HC109_0 := XB hl109_0; clear hi109_0 hl109_0; replace p109 := eq_true p109; replace q109 := eq_true q109; have p110 : 0 ≤ (x56_3 : Int) := of_decide_eq_true (by first | (with_reducible assumption) | assumption); have q110 : x56_3 < ((rd_L1 l3 (ji29)).length : Int) := of_decide_eq_true (by first | (with_reducible assumption) | assumption); obtain ⟨ad110, e110, hx110_0⟩ := Kd.at_int HR109_0.out x56_3 p110 q110; have hw110_0 := hx110_0
                         cases e110
                         replace hx110_0 := (HB.out.cell (World.block_lt_of_cell? w _ hx110_0)).trans hx110_0; replace p110 := eq_true p110; replace q110 := eq_true q110; refine start_ (n := 18) (S := fun w' => w'.cell? ⟨gb101, 0, none⟩ = some (.int .i64 a2_0) ∧ w'.cell? ⟨gb101, 1, none⟩ = some (.int .i64 a2_1) ∧ w'.cell? ⟨gb101, 2, none⟩ = some (.int .i64 a2_2) ∧ w'.cell? (ad107.add ((ji29)).toNat) = some (.slice (some ad110) (rd_L1 l3 (ji29)).length c109_0) ∧ w'.cell? (ad110.add (x56_3).toNat) = some (.int .i64 (rd (rd_L1 l3 (ji29)) x56_3))) (ds := []) #[false, false, false, false, false, false, false, false, false, false, false, false, false, false, false, false, false, false] (by kernel_rfl) rfl rfl ⟨(Xi J101.out 0).trans rfl, (Xi J101.out 1).trans rfl, (Xi J101.out 2).trans rfl, ((HB.out.cell (World.block_lt_of_cell? w _ hw109_0)).trans hw109_0), ((HB.out.cell (World.block_lt_of_cell? w _ hw110_0)).trans hw110_0)⟩ (fun hHeld => ?_); refine with_tabW log_CheckTable.tab19 log_CheckTable.bits19 (fun HT_ HW_ => ?_); generalize wc.drew = w34 at J101 HB HR109_0 hx109_0 hx110_0 hHeld ⊢
                         refine pure_ (i := 0) (N := some 72) (v := ?_) (a' := ?_) (Bq 18 1) rfl rfl (any_of HT_.out (by kernel_rfl)) (fun _ _ _ h => h) (Or.inl ⟨by rfl, ?_⟩) ?_ ?_; rotate_left
                         ·intro w'; go_simp; with_reducible rfl
                         rotate_left
                         ·simp only [Act.put, Xj, Xk, Xl, i64_w, i32_w]; rfl
                         refine pure_ (i := 1) (N := some 73) (v := ?_) (a' := ?_) (Bq 18 3) rfl rfl (any_of HT_.out (by kernel_rfl)) (fun _ _ _ h => h) (Or.inl ⟨by rfl, ?_⟩) ?_ ?_; rotate_left
                         ·intro w'; go_simp; with_reducible rfl
                         rotate_left
                         ·simp only [Act.put, Xj, Xk, Xl, i64_w, i32_w]; rfl
                         refine pure_ (i := 2) (N := some 74) (v := ?_) (a' := ?_) (Bq 18 7) rfl rfl (any_of HT_.out (by kernel_rfl)) (fun _ _ _ h => h) (Or.inl ⟨by rfl, ?_⟩) ?_ ?_; rotate_left
                         ·intro w'; go_simp; with_reducible rfl
                         rotate_left
                         ·simp only [Act.put, Xj, Xk, Xl, i64_w, i32_w]; rfl
                         refine pure_ (i := 3) (N := some 75) (v := ?_) (a' := ?_) (Bq 18 15) rfl rfl (any_of HT_.out (by kernel_rfl)) (fun _ _ _ h => h) (Or.inl ⟨by rfl, ?_⟩) ?_ ?_; rotate_left
                         ·intro w'; go_simp; with_reducible rfl
                         rotate_left
                         ·simp only [Act.put, Xj, Xk, Xl, i64_w, i32_w]; rfl
                         refine pure_ (i := 4) (N := some 76) (v := ?_) (a' := ?_) (Bq 18 31) rfl rfl (any_of HT_.out (by kernel_rfl)) (fun _ _ _ h => h) (Or.inl ⟨by rfl, ?_⟩) ?_ ?_; rotate_left
                         ·intro w'; go_simp; with_reducible rfl
                         rotate_left
                         ·simp only [Act.put, Xj, Xk, Xl, i64_w, i32_w]; rfl
                         refine pure_ (i := 5) (N := some 77) (v := ?_) (a' := ?_) (Bq 18 63) rfl rfl (any_of HT_.out (by kernel_rfl)) (fun _ _ _ h => h) (Or.inl ⟨by rfl, ?_⟩) ?_ ?_; rotate_left
                         ·intro w'; go_simp; with_reducible rfl
                         rotate_left
                         ·simp only [Act.put, Xj, Xk, Xl, i64_w, i32_w]; rfl
                         refine pure_ (i := 6) (N := some 78) (v := ?_) (a' := ?_) (Bq 18 127) rfl rfl (any_of HT_.out (by kernel_rfl)) (fun _ _ _ h => h) (Or.inl ⟨by rfl, ?_⟩) ?_ ?_; rotate_left
                         ·intro w'; go_simp; with_reducible rfl
                         rotate_left
                         ·simp only [Act.put, Xj, Xk, Xl, i64_w, i32_w]; rfl
                         refine pure_ (i := 7) (N := some 79) (v := ?_) (a' := ?_) (Bq 18 255) rfl rfl (any_of HT_.out (by kernel_rfl)) (fun _ _ _ h => h) (Or.inl ⟨by rfl, ?_⟩) ?_ ?_; rotate_left
                         ·intro w'; go_simp; with_reducible rfl
                         rotate_left
                         ·simp only [Act.put, Xj, Xk, Xl, i64_w, i32_w]; rfl
                         refine pure_ (i := 9) (N := some 81) (v := ?_) (a' := ?_) (Bq 18 767) rfl rfl (any_of HT_.out (by kernel_rfl)) (fun _ _ _ h => h) (Or.inl ⟨by rfl, ?_⟩) ?_ ?_; rotate_left
                         ·intro w'; go_simp; with_reducible rfl
                         rotate_left
                         ·simp only [Act.put, Xj, Xk, Xl, i64_w, i32_w]; rfl
                         refine pure_ (i := 12) (N := some 84) (v := ?_) (a' := ?_) (Bq 18 4863) rfl rfl (any_of HT_.out (by kernel_rfl)) (fun _ _ _ h => h) (Or.inl ⟨by rfl, ?_⟩) ?_ ?_; rotate_left
                         ·intro w'; go_simp; with_reducible rfl
                         rotate_left
                         ·simp only [Act.put, Xj, Xk, Xl, i64_w, i32_w]; rfl
                         refine take_ (i := 8) (N := some 80) (v := ?_) (a' := ?_) (Bq 18 5119) rfl rfl (take_ofW HT_.out HW_.out (by kernel_rfl)) (fun _ _ _ h => h) (Or.inl ⟨by rfl, ?_⟩) hHeld ?_ ?_; rotate_left
                         ·rintro w' ⟨s0, s1, s2, s3, s4⟩; go_simp; with_reducible rfl
                         rotate_left
                         ·simp only [Act.put, Xj, Xk, Xl, i64_w, i32_w]; rfl
                         refine pure_ (i := 10) (N := some 82) (v := ?_) (a' := ?_) (Bq 18 6143) rfl rfl (any_of HT_.out (by kernel_rfl)) (fun _ _ _ h => h) (Or.inl ⟨by rfl, ?_⟩) ?_ ?_; rotate_left
                         ·intro w'; go_simp; with_reducible rfl
                         rotate_left
                         ·simp only [Act.put, Xj, Xk, Xl, i64_w, i32_w]; rfl
                         refine take_ (i := 11) (N := some 83) (v := ?_) (a' := ?_) (Bq 18 8191) rfl rfl (take_ofW HT_.out HW_.out (by kernel_rfl)) (fun _ _ _ h => h) (Or.inl ⟨by rfl, ?_⟩) hHeld ?_ ?_; rotate_left
                         ·rintro w' ⟨s0, s1, s2, s3, s4⟩; go_simp; with_reducible rfl
                         rotate_left
                         ·simp only [Act.put, Xj, Xk, Xl, i64_w, i32_w]; rfl
                         refine take_ (i := 13) (N := some 85) (v := ?_) (a' := ?_) (Bq 18 16383) rfl rfl (take_ofW HT_.out HW_.out (by kernel_rfl)) (fun _ _ _ h => h) (Or.inl ⟨by rfl, ?_⟩) hHeld ?_ ?_; rotate_left
                         ·rintro w' ⟨s0, s1, s2, s3, s4⟩; go_simp; with_reducible rfl
                         rotate_left
                         ·simp only [Act.put, Xj, Xk, Xl, i64_w, i32_w]; rfl
                         refine pure_ (i := 14) (N := some 86) (v := ?_) (a' := ?_) (Bq 18 32767) rfl rfl (any_of HT_.out (by kernel_rfl)) (fun _ _ _ h => h) (Or.inl ⟨by rfl, ?_⟩) ?_ ?_; rotate_left
                         ·intro w'; go_simp; with_reducible rfl
                         rotate_left
                         ·simp only [Act.put, Xj, Xk, Xl, i64_w, i32_w]; rfl
                         refine pure_ (i := 15) (N := some 87) (v := ?_) (a' := ?_) (Bq 18 65535) rfl rfl (any_of HT_.out (by kernel_rfl)) (fun _ _ _ h => h) (Or.inl ⟨by rfl, ?_⟩) ?_ ?_; rotate_left
                         ·intro w'; go_simp; with_reducible rfl
                         rotate_left
                         ·simp only [Act.put, Xj, Xk, Xl, i64_w, i32_w]; rfl
                         refine pure_ (i := 16) (N := some 88) (v := ?_) (a' := ?_) (Bq 18 131071) rfl rfl (any_of HT_.out (by kernel_rfl)) (fun _ _ _ h => h) (Or.inl ⟨by rfl, ?_⟩) ?_ ?_; rotate_left
                         ·intro w'; go_simp; with_reducible rfl
                         rotate_left
                         ·simp only [Act.put, Xj, Xk, Xl, i64_w, i32_w]; rfl
                         refine pure_ (i := 17) (N := some 61) (v := ?_) (a' := ?_) (Bq 18 262143) rfl rfl (any_of HT_.out (by kernel_rfl)) (fun _ _ _ h => h) (Or.inl ⟨by rfl, ?_⟩) ?_ ?_; rotate_left
                         ·intro w'; go_simp; with_reducible rfl
                         rotate_left
                         ·simp only [Act.put, Xj, Xk, Xl, i64_w, i32_w]; rfl
                         refine done_ (done_of HT_.out (by kernel_rfl)) ?_; try go_wp2
                         go_meet
                         case rel => exact ⟨_, (decide ((rd (rd_L1 l3 x49_2) x56_3) > (wrap64 ((rd (rd_L1 l3 (ji29)) x56_3) + a2_0)))), (by first | rfl | (simp; done) | (simp only [← hji29] <;> (first | rfl | simp)) | (simp [*]; done)), H', ⟨by have := HK1.out; have := HK2.out; have := HK3.out; have := HJ22.out; first | omega | exact Nat.le_refl _⟩, ⟨by (with_reducible repeat (first | refine Xf ?_ _ | refine Xg ?_ | refine Xe ?_ _)); exact J101.out⟩, ⟨by repeat (first | (with_reducible first | exact HB.out | apply Xc | apply Xa | apply Xb | refine Xd ?_ E101.out) | exact HB.out)⟩⟩
                        ·rw [if_neg c33] at H; exact absurd H (by simp)
                       ·rw [if_neg c32] at H; exact absurd H (by simp)
                      ·rw [if_neg c31] at H; exact absurd H (by simp)
                     ·rw [if_neg c30] at H; exact absurd H (by simp)
                    ·rw [if_neg c28] at H; have c28b0 : decide (0 < x49_2) = false := decide_eq_false c28; clear c28; (first | rw [c28b0] | (simp only [i64_w, i32_w]; rw [c28b0]) | skip)
                     have H' := XB H; clear H; try go_wp2
                     have n0_ := XB (Xg J101.out); have n1_ := XB (Xb HB.out); clear J101; clear HB; have J101 := n0_; have HB := n1_; clear n0_ n1_; refine start_ (n := 18) (S := fun w' => True) (ds := []) #[false, false, false, false, false, false, false, false, false, false, false, false, false, false, false, false, false, false] (by kernel_rfl) rfl rfl trivial (fun hHeld => ?_); refine with_tabW log_CheckTable.tab19 log_CheckTable.bits19 (fun HT_ HW_ => ?_); generalize wc.drew = w35 at J101 HB hHeld ⊢
                     refine pure_ (i := 0) (N := some 72) (v := ?_) (a' := ?_) (Bq 18 1) rfl rfl (any_of HT_.out (by kernel_rfl)) (fun _ _ _ h => h) (Or.inl ⟨by rfl, ?_⟩) ?_ ?_; rotate_left
                     ·intro w'; go_simp; with_reducible rfl
                     rotate_left
                     ·simp only [Act.put, Xj, Xk, Xl, i64_w, i32_w]; rfl
                     refine pure_ (i := 1) (N := some 73) (v := ?_) (a' := ?_) (Bq 18 3) rfl rfl (any_of HT_.out (by kernel_rfl)) (fun _ _ _ h => h) (Or.inl ⟨by rfl, ?_⟩) ?_ ?_; rotate_left
                     ·intro w'; go_simp; with_reducible rfl
                     rotate_left
                     ·simp only [Act.put, Xj, Xk, Xl, i64_w, i32_w]; rfl
                     refine pure_ (i := 2) (N := some 74) (v := ?_) (a' := ?_) (Bq 18 7) rfl rfl (any_of HT_.out (by kernel_rfl)) (fun _ _ _ h => h) (Or.inl ⟨by rfl, ?_⟩) ?_ ?_; rotate_left
                     ·intro w'; go_simp; with_reducible rfl
                     rotate_left
                     ·simp only [Act.put, Xj, Xk, Xl, i64_w, i32_w]; rfl
                     refine pure_ (i := 3) (N := some 75) (v := undef) (a' := ?_) (Bq 18 15) rfl rfl (any_of HT_.out (by kernel_rfl)) (fun _ _ _ h => h) (Or.inr ⟨by rfl, rfl⟩) ?_ ?_; rotate_left
                     ·simp only [Act.put, Xj, Xk, Xl, i64_w, i32_w]; rfl
                     refine pure_ (i := 4) (N := some 76) (v := undef) (a' := ?_) (Bq 18 31) rfl rfl (any_of HT_.out (by kernel_rfl)) (fun _ _ _ h => h) (Or.inr ⟨by rfl, rfl⟩) ?_ ?_; rotate_left
                     ·simp only [Act.put, Xj, Xk, Xl, i64_w, i32_w]; rfl
                     refine pure_ (i := 5) (N := some 77) (v := undef) (a' := ?_) (Bq 18 63) rfl rfl (any_of HT_.out (by kernel_rfl)) (fun _ _ _ h => h) (Or.inr ⟨by rfl, rfl⟩) ?_ ?_; rotate_left
                     ·simp only [Act.put, Xj, Xk, Xl, i64_w, i32_w]; rfl
                     refine pure_ (i := 6) (N := some 78) (v := undef) (a' := ?_) (Bq 18 127) rfl rfl (any_of HT_.out (by kernel_rfl)) (fun _ _ _ h => h) (Or.inr ⟨by rfl, rfl⟩) ?_ ?_; rotate_left
                     ·simp only [Act.put, Xj, Xk, Xl, i64_w, i32_w]; rfl
                     refine pure_ (i := 7) (N := some 79) (v := undef) (a' := ?_) (Bq 18 255) rfl rfl (any_of HT_.out (by kernel_rfl)) (fun _ _ _ h => h) (Or.inr ⟨by rfl, rfl⟩) ?_ ?_; rotate_left
                     ·simp only [Act.put, Xj, Xk, Xl, i64_w, i32_w]; rfl
                     refine pure_ (i := 8) (N := some 80) (v := undef) (a' := ?_) (Bq 18 511) rfl rfl (any_of HT_.out (by kernel_rfl)) (fun _ _ _ h => h) (Or.inr ⟨by rfl, rfl⟩) ?_ ?_; rotate_left
                     ·simp only [Act.put, Xj, Xk, Xl, i64_w, i32_w]; rfl
                     refine pure_ (i := 9) (N := some 81) (v := undef) (a' := ?_) (Bq 18 1023) rfl rfl (any_of HT_.out (by kernel_rfl)) (fun _ _ _ h => h) (Or.inr ⟨by rfl, rfl⟩) ?_ ?_; rotate_left
                     ·simp only [Act.put, Xj, Xk, Xl, i64_w, i32_w]; rfl
                     refine pure_ (i := 10) (N := some 82) (v := undef) (a' := ?_) (Bq 18 2047) rfl rfl (any_of HT_.out (by kernel_rfl)) (fun _ _ _ h => h) (Or.inr ⟨by rfl, rfl⟩) ?_ ?_; rotate_left
                     ·simp only [Act.put, Xj, Xk, Xl, i64_w, i32_w]; rfl
                     refine pure_ (i := 11) (N := some 83) (v := undef) (a' := ?_) (Bq 18 4095) rfl rfl (any_of HT_.out (by kernel_rfl)) (fun _ _ _ h => h) (Or.inr ⟨by rfl, rfl⟩) ?_ ?_; rotate_left
                     ·simp only [Act.put, Xj, Xk, Xl, i64_w, i32_w]; rfl
                     refine pure_ (i := 12) (N := some 84) (v := undef) (a' := ?_) (Bq 18 8191) rfl rfl (any_of HT_.out (by kernel_rfl)) (fun _ _ _ h => h) (Or.inr ⟨by rfl, rfl⟩) ?_ ?_; rotate_left
                     ·simp only [Act.put, Xj, Xk, Xl, i64_w, i32_w]; rfl
                     refine pure_ (i := 13) (N := some 85) (v := undef) (a' := ?_) (Bq 18 16383) rfl rfl (any_of HT_.out (by kernel_rfl)) (fun _ _ _ h => h) (Or.inr ⟨by rfl, rfl⟩) ?_ ?_; rotate_left
                     ·simp only [Act.put, Xj, Xk, Xl, i64_w, i32_w]; rfl
                     refine pure_ (i := 14) (N := some 86) (v := undef) (a' := ?_) (Bq 18 32767) rfl rfl (any_of HT_.out (by kernel_rfl)) (fun _ _ _ h => h) (Or.inr ⟨by rfl, rfl⟩) ?_ ?_; rotate_left
                     ·simp only [Act.put, Xj, Xk, Xl, i64_w, i32_w]; rfl
                     refine pure_ (i := 15) (N := some 87) (v := undef) (a' := ?_) (Bq 18 65535) rfl rfl (any_of HT_.out (by kernel_rfl)) (fun _ _ _ h => h) (Or.inr ⟨by rfl, rfl⟩) ?_ ?_; rotate_left
                     ·simp only [Act.put, Xj, Xk, Xl, i64_w, i32_w]; rfl
                     refine pure_ (i := 16) (N := some 88) (v := ?_) (a' := ?_) (Bq 18 131071) rfl rfl (any_of HT_.out (by kernel_rfl)) (fun _ _ _ h => h) (Or.inl ⟨by rfl, ?_⟩) ?_ ?_; rotate_left
                     ·intro w'; go_simp; with_reducible rfl
                     rotate_left
                     ·simp only [Act.put, Xj, Xk, Xl, i64_w, i32_w]; rfl
                     refine pure_ (i := 17) (N := some 61) (v := ?_) (a' := ?_) (Bq 18 262143) rfl rfl (any_of HT_.out (by kernel_rfl)) (fun _ _ _ h => h) (Or.inl ⟨by rfl, ?_⟩) ?_ ?_; rotate_left
                     ·intro w'; go_simp; with_reducible rfl
                     rotate_left
                     ·simp only [Act.put, Xj, Xk, Xl, i64_w, i32_w]; rfl
                     refine done_ (done_of HT_.out (by kernel_rfl)) ?_; try go_wp2
                     go_meet
                     case rel => exact ⟨_, (false), (by first | rfl | (simp; done) | (simp [*]; done)), H', ⟨by have := HK1.out; have := HK2.out; have := HK3.out; have := HJ22.out; first | omega | exact Nat.le_refl _⟩, ⟨by (with_reducible repeat (first | refine Xf ?_ _ | refine Xg ?_ | refine Xe ?_ _)); exact J101.out⟩, ⟨by repeat (first | (with_reducible first | exact HB.out | apply Xc | apply Xa | apply Xb | refine Xd ?_ E101.out) | exact HB.out)⟩⟩
                   case rest =>
                    clear HC27; try clear c1
                    try clear p1
                    try clear q1
                    try clear hx1
                    try clear c2
                    try clear p2
                    try clear c3
                    try clear c5
                    try clear c6
                    try clear c6b0
                    try clear c6b1
                    try clear p6
                    try clear c7
                    try clear c7b0
                    try clear c7b1
                    try clear c10
                    try clear p10
                    try clear q10
                    try clear hx10
                    try clear c11
                    try clear c11b0
                    try clear p11
                    try clear q11
                    try clear hx11
                    try clear c12
                    try clear c12b0
                    try clear c13
                    try clear c13b0
                    try clear c14
                    try clear c14b0
                    try clear c14b1
                    try clear c16
                    try clear c17
                    try clear c17b0
                    try clear c18
                    try clear c18b0
                    try clear c19
                    try clear c19b0
                    try clear c20
                    try clear c20b0
                    try clear c21
                    try clear c21b0
                    try clear c22
                    try clear c22b0
                    try clear c24
                    try clear c24b0
                    try clear c24b1
                    try clear c25
                    try clear c25b0
                    try clear c25b1
                    try clear c26
                    try clear c28
                    try clear c28b0
                    try clear c30
                    try clear c30b0
                    try clear c31
                    try clear c31b0
                    try clear c32
                    try clear c32b0
                    try clear c33
                    try clear c33b0
                    try clear hcz9_0
                    try clear hcz9_1
                    try clear hcz9_2
                    try clear hfz9_0
                    try clear hfz9_1
                    try clear hfz9_2
                    try clear hx103_0
                    try clear hx107_0
                    try clear hx108_0
                    try clear hx109_0
                    try clear hx110_0
                    try clear p1
                    try clear p10
                    try clear p103
                    try clear p107
                    try clear p108
                    try clear p109
                    try clear p110
                    try clear p2
                    try clear p6
                    try clear q1
                    try clear q10
                    try clear q103
                    try clear q107
                    try clear q108
                    try clear q109
                    try clear q110
                    obtain ⟨kq, x61_26, rfl, HA, HJ26, J101, HB⟩ := hcut
                    cases kq with
                    | zero => exact absurd HA.out (by simp [log_CheckTable.j4])
                    | succ kj26 =>
                     have H := HA.out; clear HA; simp only [log_CheckTable.j4] at H; by_cases c36 : x61_26 = true
                     ·subst c36; have H1 : (some (0, 7)) = some (r1, r2) := by rw [if_pos rfl] at H; exact H
                      clear H; have H := H1; clear H1; simp only [Option.some.injEq, Prod.mk.injEq] at H; obtain ⟨rfl, rfl⟩ := H; go_wp2
                      go_ret2
                      exact ⟨by first | rfl | (simp [errW_none, errW_some] <;> rfl) | (simp [*, errW_none, errW_some] <;> rfl), by repeat (first | (with_reducible first | exact HB.out | apply Xc | apply Xa | apply Xb | refine Xd ?_ E101.out) | exact HB.out)⟩
                     ·replace c36 := Bool.eq_false_iff.mpr c36; subst c36; have H1 : (if x56_3 > 0 then (if 0 ≤ (wrap64 (x56_3 - 1)) then (if (wrap64 (x56_3 - 1)) < ((rd_L1 l3 x49_2).length : Int) then (log_CheckTable.j5 kj26 l0 l1 l3 x49_2 (rd_L1 l3 x49_2) x56_3 (rd (rd_L1 l3 x49_2) x56_3) l3 (l3.length : Int) x49_2 (rd_L1 l3 x49_2) ((rd_L1 l3 x49_2).length : Int) x56_3 (decide ((rd (rd_L1 l3 x49_2) x56_3) > (wrap64 ((rd (rd_L1 l3 x49_2) (wrap64 (x56_3 - 1))) + a2_1)))) a2_0 a2_1 a2_2) else (none)) else (none)) else (log_CheckTable.j5 kj26 l0 l1 l3 x49_2 (rd_L1 l3 x49_2) x56_3 (rd (rd_L1 l3 x49_2) x56_3) l3 (l3.length : Int) x49_2 (rd_L1 l3 x49_2) ((rd_L1 l3 x49_2).length : Int) x56_3 false a2_0 a2_1 a2_2)) = some (r1, r2) := by rw [if_neg (show ¬ (false = true) by decide)] at H; exact H
                      clear H; have H := H1; clear H1; have HC37 := XB H; clear H; go_upto_region 20 with (fail)
                      go_cut [61] (fun v61 wc => ∃ (kq : Nat) (x61_36 : Bool), v61 = .bool x61_36 ∧ Aside0 (log_CheckTable.j5 kq l0 l1 l3 x49_2 (rd_L1 l3 x49_2) x56_3 (rd (rd_L1 l3 x49_2) x56_3) l3 (l3.length : Int) x49_2 (rd_L1 l3 x49_2) ((rd_L1 l3 x49_2).length : Int) x56_3 x61_36 a2_0 a2_1 a2_2 = some (r1, r2)) ∧ Aside0 (kq ≤ kj26) ∧ Aside0 (wc.heap[gb101]? = some (.cells #[.int .i64 a2_0, .int .i64 a2_1, .int .i64 a2_2] 24 (0, 0))) ∧ Aside0 (Below w.heap.size w wc))
                      case first =>
                       have H := HC37.out; clear HC37; by_cases c38 : x56_3 > 0
                       ·rw [if_pos c38] at H; have c38b0 : decide (0 < x56_3) = true := decide_eq_true c38; clear c38; (first | rw [c38b0] | (simp only [i64_w, i32_w]; rw [c38b0]) | skip)
                        obtain ⟨ji39, hji39⟩ : ∃ j_ : Int, (wrap64 (x56_3 - 1)) = j_ := ⟨_, rfl⟩
                        replace H : (if 0 ≤ (ji39) then (if (ji39) < ((rd_L1 l3 x49_2).length : Int) then (log_CheckTable.j5 kj26 l0 l1 l3 x49_2 (rd_L1 l3 x49_2) x56_3 (rd (rd_L1 l3 x49_2) x56_3) l3 (l3.length : Int) x49_2 (rd_L1 l3 x49_2) ((rd_L1 l3 x49_2).length : Int) x56_3 (decide ((rd (rd_L1 l3 x49_2) x56_3) > (wrap64 ((rd (rd_L1 l3 x49_2) (ji39)) + a2_1)))) a2_0 a2_1 a2_2) else (none)) else (none)) = some (r1, r2) := by first | (rw [hji39] at H; exact H) | (simp only [hji39] at H ⊢; exact H)
                        have hji39w : (IntKind.i64.wrap (x56_3 - 1)) = ji39 := (i64_w _).trans hji39; by_cases c40 : 0 ≤ (ji39)
                        ·rw [if_pos c40] at H; have c40b0 : decide (0 ≤ (ji39)) = true := decide_eq_true c40; clear c40; by_cases c41 : (ji39) < ((rd_L1 l3 x49_2).length : Int)
                         ·rw [if_pos c41] at H; have c41b0 : decide ((ji39) < ((rd_L1 l3 x49_2).length : Int)) = true := decide_eq_true c41; clear c41; have H' := XB H; clear H; try go_wp2
                          have n0_ := XB (Xg J101.out); have n1_ := XB (Xb HB.out); clear J101; clear HB; have J101 := n0_; have HB := n1_; clear n0_ n1_; have p111 : 0 ≤ ((ji39) : Int) := of_decide_eq_true (by first | (with_reducible assumption) | assumption); have q111 : (ji39) < ((rd_L1 l3 x49_2).length : Int) := of_decide_eq_true (by first | (with_reducible assumption) | assumption); obtain ⟨ad111, e111, hx111_0⟩ := Kd.at_int HR107_0.out (ji39) p111 q111; have hw111_0 := hx111_0; obtain rfl : ad108 = ad111 := (by injection e111); replace hx111_0 := (HB.out.cell (World.block_lt_of_cell? w _ hx111_0)).trans hx111_0; replace p111 := eq_true p111; replace q111 := eq_true q111; refine start_ (n := 15) (S := fun w' => w'.cell? ⟨gb101, 0, none⟩ = some (.int .i64 a2_0) ∧ w'.cell? ⟨gb101, 1, none⟩ = some (.int .i64 a2_1) ∧ w'.cell? ⟨gb101, 2, none⟩ = some (.int .i64 a2_2) ∧ w'.cell? (ad108.add ((ji39)).toNat) = some (.int .i64 (rd (rd_L1 l3 x49_2) (ji39)))) (ds := []) #[false, false, false, false, false, false, false, false, false, false, false, false, false, false, false] (by kernel_rfl) rfl rfl ⟨(Xi J101.out 0).trans rfl, (Xi J101.out 1).trans rfl, (Xi J101.out 2).trans rfl, ((HB.out.cell (World.block_lt_of_cell? w _ hw111_0)).trans hw111_0)⟩ (fun hHeld => ?_); refine with_tabW log_CheckTable.tab20 log_CheckTable.bits20 (fun HT_ HW_ => ?_); generalize wc.drew = w42 at J101 HB hx111_0 hHeld ⊢
                          refine pure_ (i := 0) (N := some 89) (v := ?_) (a' := ?_) (Bq 15 1) rfl rfl (any_of HT_.out (by kernel_rfl)) (fun _ _ _ h => h) (Or.inl ⟨by rfl, ?_⟩) ?_ ?_; rotate_left
                          ·intro w'; go_simp; with_reducible rfl
                          rotate_left
                          ·simp only [Act.put, Xj, Xk, Xl, i64_w, i32_w]; rfl
                          refine pure_ (i := 1) (N := some 90) (v := ?_) (a' := ?_) (Bq 15 3) rfl rfl (any_of HT_.out (by kernel_rfl)) (fun _ _ _ h => h) (Or.inl ⟨by rfl, ?_⟩) ?_ ?_; rotate_left
                          ·intro w'; go_simp; with_reducible rfl
                          rotate_left
                          ·simp only [Act.put, Xj, Xk, Xl, i64_w, i32_w]; rfl
                          refine pure_ (i := 2) (N := some 91) (v := ?_) (a' := ?_) (Bq 15 7) rfl rfl (any_of HT_.out (by kernel_rfl)) (fun _ _ _ h => h) (Or.inl ⟨by rfl, ?_⟩) ?_ ?_; rotate_left
                          ·intro w'; go_simp; with_reducible rfl
                          rotate_left
                          ·simp only [Act.put, Xj, Xk, Xl, i64_w, i32_w]; rfl
                          refine pure_ (i := 3) (N := some 92) (v := ?_) (a' := ?_) (Bq 15 15) rfl rfl (any_of HT_.out (by kernel_rfl)) (fun _ _ _ h => h) (Or.inl ⟨by rfl, ?_⟩) ?_ ?_; rotate_left
                          ·intro w'; go_simp; with_reducible rfl
                          rotate_left
                          ·simp only [Act.put, Xj, Xk, Xl, i64_w, i32_w]; rfl
                          refine pure_ (i := 4) (N := some 93) (v := ?_) (a' := ?_) (Bq 15 31) rfl rfl (any_of HT_.out (by kernel_rfl)) (fun _ _ _ h => h) (Or.inl ⟨by rfl, ?_⟩) ?_ ?_; rotate_left
                          ·intro w'; go_simp; with_reducible rfl
                          rotate_left
                          ·simp only [Act.put, Xj, Xk, Xl, i64_w, i32_w]; rfl
                          refine pure_ (i := 5) (N := some 94) (v := ?_) (a' := ?_) (Bq 15 63) rfl rfl (any_of HT_.out (by kernel_rfl)) (fun _ _ _ h => h) (Or.inl ⟨by rfl, ?_⟩) ?_ ?_; rotate_left
                          ·intro w'; go_simp; with_reducible rfl
                          rotate_left
                          ·simp only [Act.put, Xj, Xk, Xl, i64_w, i32_w]; rfl
                          refine pure_ (i := 6) (N := some 95) (v := ?_) (a' := ?_) (Bq 15 127) rfl rfl (any_of HT_.out (by kernel_rfl)) (fun _ _ _ h => h) (Or.inl ⟨by rfl, ?_⟩) ?_ ?_; rotate_left
                          ·intro w'; go_simp; with_reducible rfl
                          rotate_left
                          ·simp only [Act.put, Xj, Xk, Xl, i64_w, i32_w]; rfl
                          refine pure_ (i := 7) (N := some 96) (v := ?_) (a' := ?_) (Bq 15 255) rfl rfl (any_of HT_.out (by kernel_rfl)) (fun _ _ _ h => h) (Or.inl ⟨by rfl, ?_⟩) ?_ ?_; rotate_left
                          ·intro w'; go_simp; with_reducible rfl
                          rotate_left
                          ·simp only [Act.put, Xj, Xk, Xl, i64_w, i32_w]; rfl
                          refine pure_ (i := 9) (N := some 98) (v := ?_) (a' := ?_) (Bq 15 767) rfl rfl (any_of HT_.out (by kernel_rfl)) (fun _ _ _ h => h) (Or.inl ⟨by rfl, ?_⟩) ?_ ?_; rotate_left
                          ·intro w'; go_simp; with_reducible rfl
                          rotate_left
                          ·simp only [Act.put, Xj, Xk, Xl, i64_w, i32_w]; rfl
                          refine take_ (i := 8) (N := some 97) (v := ?_) (a' := ?_) (Bq 15 1023) rfl rfl (take_ofW HT_.out HW_.out (by kernel_rfl)) (fun _ _ _ h => h) (Or.inl ⟨by rfl, ?_⟩) hHeld ?_ ?_; rotate_left
                          ·rintro w' ⟨s0, s1, s2, s3⟩; go_simp; with_reducible rfl
                          rotate_left
                          ·simp only [Act.put, Xj, Xk, Xl, i64_w, i32_w]; rfl
                          refine take_ (i := 10) (N := some 99) (v := ?_) (a' := ?_) (Bq 15 2047) rfl rfl (take_ofW HT_.out HW_.out (by kernel_rfl)) (fun _ _ _ h => h) (Or.inl ⟨by rfl, ?_⟩) hHeld ?_ ?_; rotate_left
                          ·rintro w' ⟨s0, s1, s2, s3⟩; go_simp; with_reducible rfl
                          rotate_left
                          ·simp only [Act.put, Xj, Xk, Xl, i64_w, i32_w]; rfl
                          refine pure_ (i := 11) (N := some 100) (v := ?_) (a' := ?_) (Bq 15 4095) rfl rfl (any_of HT_.out (by kernel_rfl)) (fun _ _ _ h => h) (Or.inl ⟨by rfl, ?_⟩) ?_ ?_; rotate_left
                          ·intro w'; go_simp; with_reducible rfl
                          rotate_left
                          ·simp only [Act.put, Xj, Xk, Xl, i64_w, i32_w]; rfl
                          refine pure_ (i := 12) (N := some 101) (v := ?_) (a' := ?_) (Bq 15 8191) rfl rfl (any_of HT_.out (by kernel_rfl)) (fun _ _ _ h => h) (Or.inl ⟨by rfl, ?_⟩) ?_ ?_; rotate_left
                          ·intro w'; go_simp; with_reducible rfl
                          rotate_left
                          ·simp only [Act.put, Xj, Xk, Xl, i64_w, i32_w]; rfl
                          refine pure_ (i := 13) (N := some 102) (v := ?_) (a' := ?_) (Bq 15 16383) rfl rfl (any_of HT_.out (by kernel_rfl)) (fun _ _ _ h => h) (Or.inl ⟨by rfl, ?_⟩) ?_ ?_; rotate_left
                          ·intro w'; go_simp; with_reducible rfl
                          rotate_left
                          ·simp only [Act.put, Xj, Xk, Xl, i64_w, i32_w]; rfl
                          refine pure_ (i := 14) (N := some 61) (v := ?_) (a' := ?_) (Bq 15 32767) rfl rfl (any_of HT_.out (by kernel_rfl)) (fun _ _ _ h => h) (Or.inl ⟨by rfl, ?_⟩) ?_ ?_; rotate_left
                          ·intro w'; go_simp; with_reducible rfl
                          rotate_left
                          ·simp only [Act.put, Xj, Xk, Xl, i64_w, i32_w]; rfl
                          refine done_ (done_of HT_.out (by kernel_rfl)) ?_; try go_wp2
                          go_meet
                          case rel => exact ⟨_, (decide ((rd (rd_L1 l3 x49_2) x56_3) > (wrap64 ((rd (rd_L1 l3 x49_2) (ji39)) + a2_1)))), (by first | rfl | (simp; done) | (simp only [← hji39] <;> (first | rfl | simp)) | (simp [*]; done)), H', ⟨by have := HK1.out; have := HK2.out; have := HK3.out; have := HJ22.out; have := HJ26.out; first | omega | exact Nat.le_refl _⟩, ⟨by (with_reducible repeat (first | refine Xf ?_ _ | refine Xg ?_ | refine Xe ?_ _)); exact J101.out⟩, ⟨by repeat (first | (with_reducible first | exact HB.out | apply Xc | apply Xa | apply Xb | refine Xd ?_ E101.out) | exact HB.out)⟩⟩
                         ·rw [if_neg c41] at H; exact absurd H (by simp)
                        ·rw [if_neg c40] at H; exact absurd H (by simp)
                       ·rw [if_neg c38] at H; have c38b0 : decide (0 < x56_3) = false := decide_eq_false c38; clear c38; (first | rw [c38b0] | (simp only [i64_w, i32_w]; rw [c38b0]) | skip)
                        have H' := XB H; clear H; try go_wp2
                        have n0_ := XB (Xg J101.out); have n1_ := XB (Xb HB.out); clear J101; clear HB; have J101 := n0_; have HB := n1_; clear n0_ n1_; refine start_ (n := 15) (S := fun w' => True) (ds := []) #[false, false, false, false, false, false, false, false, false, false, false, false, false, false, false] (by kernel_rfl) rfl rfl trivial (fun hHeld => ?_); refine with_tabW log_CheckTable.tab20 log_CheckTable.bits20 (fun HT_ HW_ => ?_); generalize wc.drew = w43 at J101 HB hHeld ⊢
                        refine pure_ (i := 0) (N := some 89) (v := ?_) (a' := ?_) (Bq 15 1) rfl rfl (any_of HT_.out (by kernel_rfl)) (fun _ _ _ h => h) (Or.inl ⟨by rfl, ?_⟩) ?_ ?_; rotate_left
                        ·intro w'; go_simp; with_reducible rfl
                        rotate_left
                        ·simp only [Act.put, Xj, Xk, Xl, i64_w, i32_w]; rfl
                        refine pure_ (i := 1) (N := some 90) (v := ?_) (a' := ?_) (Bq 15 3) rfl rfl (any_of HT_.out (by kernel_rfl)) (fun _ _ _ h => h) (Or.inl ⟨by rfl, ?_⟩) ?_ ?_; rotate_left
                        ·intro w'; go_simp; with_reducible rfl
                        rotate_left
                        ·simp only [Act.put, Xj, Xk, Xl, i64_w, i32_w]; rfl
                        refine pure_ (i := 2) (N := some 91) (v := ?_) (a' := ?_) (Bq 15 7) rfl rfl (any_of HT_.out (by kernel_rfl)) (fun _ _ _ h => h) (Or.inl ⟨by rfl, ?_⟩) ?_ ?_; rotate_left
                        ·intro w'; go_simp; with_reducible rfl
                        rotate_left
                        ·simp only [Act.put, Xj, Xk, Xl, i64_w, i32_w]; rfl
                        refine pure_ (i := 3) (N := some 92) (v := undef) (a' := ?_) (Bq 15 15) rfl rfl (any_of HT_.out (by kernel_rfl)) (fun _ _ _ h => h) (Or.inr ⟨by rfl, rfl⟩) ?_ ?_; rotate_left
                        ·simp only [Act.put, Xj, Xk, Xl, i64_w, i32_w]; rfl
                        refine pure_ (i := 4) (N := some 93) (v := undef) (a' := ?_) (Bq 15 31) rfl rfl (any_of HT_.out (by kernel_rfl)) (fun _ _ _ h => h) (Or.inr ⟨by rfl, rfl⟩) ?_ ?_; rotate_left
                        ·simp only [Act.put, Xj, Xk, Xl, i64_w, i32_w]; rfl
                        refine pure_ (i := 5) (N := some 94) (v := undef) (a' := ?_) (Bq 15 63) rfl rfl (any_of HT_.out (by kernel_rfl)) (fun _ _ _ h => h) (Or.inr ⟨by rfl, rfl⟩) ?_ ?_; rotate_left
                        ·simp only [Act.put, Xj, Xk, Xl, i64_w, i32_w]; rfl
                        refine pure_ (i := 6) (N := some 95) (v := undef) (a' := ?_) (Bq 15 127) rfl rfl (any_of HT_.out (by kernel_rfl)) (fun _ _ _ h => h) (Or.inr ⟨by rfl, rfl⟩) ?_ ?_; rotate_left
                        ·simp only [Act.put, Xj, Xk, Xl, i64_w, i32_w]; rfl
                        refine pure_ (i := 7) (N := some 96) (v := undef) (a' := ?_) (Bq 15 255) rfl rfl (any_of HT_.out (by kernel_rfl)) (fun _ _ _ h => h) (Or.inr ⟨by rfl, rfl⟩) ?_ ?_; rotate_left
                        ·simp only [Act.put, Xj, Xk, Xl, i64_w, i32_w]; rfl
                        refine pure_ (i := 8) (N := some 97) (v := undef) (a' := ?_) (Bq 15 511) rfl rfl (any_of HT_.out (by kernel_rfl)) (fun _ _ _ h => h) (Or.inr ⟨by rfl, rfl⟩) ?_ ?_; rotate_left
                        ·simp only [Act.put, Xj, Xk, Xl, i64_w, i32_w]; rfl
                        refine pure_ (i := 9) (N := some 98) (v := undef) (a' := ?_) (Bq 15 1023) rfl rfl (any_of HT_.out (by kernel_rfl)) (fun _ _ _ h => h) (Or.inr ⟨by rfl, rfl⟩) ?_ ?_; rotate_left
                        ·simp only [Act.put, Xj, Xk, Xl, i64_w, i32_w]; rfl
                        refine pure_ (i := 10) (N := some 99) (v := undef) (a' := ?_) (Bq 15 2047) rfl rfl (any_of HT_.out (by kernel_rfl)) (fun _ _ _ h => h) (Or.inr ⟨by rfl, rfl⟩) ?_ ?_; rotate_left
                        ·simp only [Act.put, Xj, Xk, Xl, i64_w, i32_w]; rfl
                        refine pure_ (i := 11) (N := some 100) (v := undef) (a' := ?_) (Bq 15 4095) rfl rfl (any_of HT_.out (by kernel_rfl)) (fun _ _ _ h => h) (Or.inr ⟨by rfl, rfl⟩) ?_ ?_; rotate_left
                        ·simp only [Act.put, Xj, Xk, Xl, i64_w, i32_w]; rfl
                        refine pure_ (i := 12) (N := some 101) (v := undef) (a' := ?_) (Bq 15 8191) rfl rfl (any_of HT_.out (by kernel_rfl)) (fun _ _ _ h => h) (Or.inr ⟨by rfl, rfl⟩) ?_ ?_; rotate_left
                        ·simp only [Act.put, Xj, Xk, Xl, i64_w, i32_w]; rfl
                        refine pure_ (i := 13) (N := some 102) (v := ?_) (a' := ?_) (Bq 15 16383) rfl rfl (any_of HT_.out (by kernel_rfl)) (fun _ _ _ h => h) (Or.inl ⟨by rfl, ?_⟩) ?_ ?_; rotate_left
                        ·intro w'; go_simp; with_reducible rfl
                        rotate_left
                        ·simp only [Act.put, Xj, Xk, Xl, i64_w, i32_w]; rfl
                        refine pure_ (i := 14) (N := some 61) (v := ?_) (a' := ?_) (Bq 15 32767) rfl rfl (any_of HT_.out (by kernel_rfl)) (fun _ _ _ h => h) (Or.inl ⟨by rfl, ?_⟩) ?_ ?_; rotate_left
                        ·intro w'; go_simp; with_reducible rfl
                        rotate_left
                        ·simp only [Act.put, Xj, Xk, Xl, i64_w, i32_w]; rfl
                        refine done_ (done_of HT_.out (by kernel_rfl)) ?_; try go_wp2
                        go_meet
                        case rel => exact ⟨_, (false), (by first | rfl | (simp; done) | (simp [*]; done)), H', ⟨by have := HK1.out; have := HK2.out; have := HK3.out; have := HJ22.out; have := HJ26.out; first | omega | exact Nat.le_refl _⟩, ⟨by (with_reducible repeat (first | refine Xf ?_ _ | refine Xg ?_ | refine Xe ?_ _)); exact J101.out⟩, ⟨by repeat (first | (with_reducible first | exact HB.out | apply Xc | apply Xa | apply Xb | refine Xd ?_ E101.out) | exact HB.out)⟩⟩
                      case rest =>
                       clear HC37; try clear c1
                       try clear p1
                       try clear q1
                       try clear hx1
                       try clear c2
                       try clear p2
                       try clear c3
                       try clear c4
                       try clear c5
                       try clear c6
                       try clear c6b0
                       try clear c6b1
                       try clear p6
                       try clear c7
                       try clear c7b0
                       try clear c7b1
                       try clear c10
                       try clear p10
                       try clear q10
                       try clear hx10
                       try clear c11
                       try clear c11b0
                       try clear p11
                       try clear q11
                       try clear hx11
                       try clear c12
                       try clear c12b0
                       try clear c13
                       try clear c13b0
                       try clear c14
                       try clear c14b0
                       try clear c14b1
                       try clear c16
                       try clear c17
                       try clear c17b0
                       try clear c18
                       try clear c18b0
                       try clear c19
                       try clear c19b0
                       try clear c20
                       try clear c20b0
                       try clear c21
                       try clear c21b0
                       try clear c22
                       try clear c22b0
                       try clear c24
                       try clear c24b0
                       try clear c24b1
                       try clear c25
                       try clear c25b0
                       try clear c25b1
                       try clear c26
                       try clear c28
                       try clear c28b0
                       try clear c30
                       try clear c30b0
                       try clear c31
                       try clear c31b0
                       try clear c32
                       try clear c32b0
                       try clear c33
                       try clear c33b0
                       try clear c36
                       try clear c38
                       try clear c38b0
                       try clear c40
                       try clear c40b0
                       try clear c41
                       try clear c41b0
                       try clear hcz9_0
                       try clear hcz9_1
                       try clear hcz9_2
                       try clear hfz9_0
                       try clear hfz9_1
                       try clear hfz9_2
                       try clear hx103_0
                       try clear hx107_0
                       try clear hx108_0
                       try clear hx109_0
                       try clear hx110_0
                       try clear hx111_0
                       try clear p1
                       try clear p10
                       try clear p103
                       try clear p107
                       try clear p108
                       try clear p109
                       try clear p11
                       try clear p110
                       try clear p111
                       try clear p2
                       try clear p6
                       try clear q1
                       try clear q10
                       try clear q103
                       try clear q107
                       try clear q108
                       try clear q109
                       try clear q11
                       try clear q110
                       try clear q111
                       obtain ⟨kq, x61_36, rfl, HA, HJ36, J101, HB⟩ := hcut
                       cases kq with
                       | zero => exact absurd HA.out (by simp [log_CheckTable.j5])
                       | succ kj36 =>
                        have H := HA.out; clear HA; simp only [log_CheckTable.j5] at H; by_cases c44 : x61_36 = true
                        ·subst c44; have H1 : (some (0, 7)) = some (r1, r2) := by rw [if_pos rfl] at H; exact H
                         clear H; have H := H1; clear H1; simp only [Option.some.injEq, Prod.mk.injEq] at H; obtain ⟨rfl, rfl⟩ := H; go_wp2
                         go_ret2
                         exact ⟨by first | rfl | (simp [errW_none, errW_some] <;> rfl) | (simp [*, errW_none, errW_some] <;> rfl), by repeat (first | (with_reducible first | exact HB.out | apply Xc | apply Xa | apply Xb | refine Xd ?_ E101.out) | exact HB.out)⟩
                        ·replace c44 := Bool.eq_false_iff.mpr c44; subst c44; have H1 : (if x49_2 > 0 then (if x56_3 > 0 then (if 0 ≤ (wrap64 (x49_2 - 1)) then (if (wrap64 (x49_2 - 1)) < (l3.length : Int) then (if 0 ≤ (wrap64 (x56_3 - 1)) then (if (wrap64 (x56_3 - 1)) < ((rd_L1 l3 (wrap64 (x49_2 - 1))).length : Int) then (if (wrap64 (x49_2 - 1)) < (l0.length : Int) then (if (wrap64 (x56_3 - 1)) < (l1.length : Int) then ((log_costBoth.f a2_0 a2_1 a2_2 (rd l0 (wrap64 (x49_2 - 1))) (rd l1 (wrap64 (x56_3 - 1)))).bind fun t116 => (if (rd (rd_L1 l3 x49_2) x56_3) > (wrap64 ((rd (rd_L1 l3 (wrap64 (x49_2 - 1))) (wrap64 (x56_3 - 1))) + t116)) then (some (0, 7)) else (log_CheckTable.l2 kj36 l0 l1 l3 x49_2 (rd_L1 l3 x49_2) l3 (l3.length : Int) x49_2 (rd_L1 l3 x49_2) ((rd_L1 l3 x49_2).length : Int) (wrap64 (x56_3 + 1)) a2_0 a2_1 a2_2))) else (none)) else (none)) else (none)) else (none)) else (none)) else (none)) else (log_CheckTable.l2 kj36 l0 l1 l3 x49_2 (rd_L1 l3 x49_2) l3 (l3.length : Int) x49_2 (rd_L1 l3 x49_2) ((rd_L1 l3 x49_2).length : Int) (wrap64 (x56_3 + 1)) a2_0 a2_1 a2_2)) else (log_CheckTable.l2 kj36 l0 l1 l3 x49_2 (rd_L1 l3 x49_2) l3 (l3.length : Int) x49_2 (rd_L1 l3 x49_2) ((rd_L1 l3 x49_2).length : Int) (wrap64 (x56_3 + 1)) a2_0 a2_1 a2_2)) = some (r1, r2) := by rw [if_neg (show ¬ (false = true) by decide)] at H; exact H
                         clear H; have H := H1; clear H1; by_cases c45 : x49_2 > 0
                         ·rw [if_pos c45] at H; have c45b0 : decide (0 < x49_2) = true := decide_eq_true c45; clear c45; by_cases c46 : x56_3 > 0
                          ·rw [if_pos c46] at H; have c46b0 : decide (0 < x56_3) = true := decide_eq_true c46; clear c46; obtain ⟨ji47, hji47⟩ : ∃ j_ : Int, (wrap64 (x49_2 - 1)) = j_ := ⟨_, rfl⟩
                           replace H : (if 0 ≤ (ji47) then (if (ji47) < (l3.length : Int) then (if 0 ≤ (wrap64 (x56_3 - 1)) then (if (wrap64 (x56_3 - 1)) < ((rd_L1 l3 (ji47)).length : Int) then (if (ji47) < (l0.length : Int) then (if (wrap64 (x56_3 - 1)) < (l1.length : Int) then ((log_costBoth.f a2_0 a2_1 a2_2 (rd l0 (ji47)) (rd l1 (wrap64 (x56_3 - 1)))).bind fun t116 => (if (rd (rd_L1 l3 x49_2) x56_3) > (wrap64 ((rd (rd_L1 l3 (ji47)) (wrap64 (x56_3 - 1))) + t116)) then (some (0, 7)) else (log_CheckTable.l2 kj36 l0 l1 l3 x49_2 (rd_L1 l3 x49_2) l3 (l3.length : Int) x49_2 (rd_L1 l3 x49_2) ((rd_L1 l3 x49_2).length : Int) (wrap64 (x56_3 + 1)) a2_0 a2_1 a2_2))) else (none)) else (none)) else (none)) else (none)) else (none)) else (none)) = some (r1, r2) := by first | (rw [hji47] at H; exact H) | (simp only [hji47] at H ⊢; exact H)
                           have hji47w : (IntKind.i64.wrap (x49_2 - 1)) = ji47 := (i64_w _).trans hji47; by_cases c48 : 0 ≤ (ji47)
                           ·rw [if_pos c48] at H; have c48b0 : decide (0 ≤ (ji47)) = true := decide_eq_true c48; clear c48; by_cases c49 : (ji47) < (l3.length : Int)
                            ·rw [if_pos c49] at H; have c49b0 : decide ((ji47) < (l3.length : Int)) = true := decide_eq_true c49; clear c49; obtain ⟨ji50, hji50⟩ : ∃ j_ : Int, (wrap64 (x56_3 - 1)) = j_ := ⟨_, rfl⟩
                             replace H : (if 0 ≤ (ji50) then (if (ji50) < ((rd_L1 l3 (ji47)).length : Int) then (if (ji47) < (l0.length : Int) then (if (ji50) < (l1.length : Int) then ((log_costBoth.f a2_0 a2_1 a2_2 (rd l0 (ji47)) (rd l1 (ji50))).bind fun t116 => (if (rd (rd_L1 l3 x49_2) x56_3) > (wrap64 ((rd (rd_L1 l3 (ji47)) (ji50)) + t116)) then (some (0, 7)) else (log_CheckTable.l2 kj36 l0 l1 l3 x49_2 (rd_L1 l3 x49_2) l3 (l3.length : Int) x49_2 (rd_L1 l3 x49_2) ((rd_L1 l3 x49_2).length : Int) (wrap64 (x56_3 + 1)) a2_0 a2_1 a2_2))) else (none)) else (none)) else (none)) else (none)) = some (r1, r2) := by first | (rw [hji50] at H; exact H) | (simp only [hji50] at H ⊢; exact H)
                             have hji50w : (IntKind.i64.wrap (x56_3 - 1)) = ji50 := (i64_w _).trans hji50; by_cases c51 : 0 ≤ (ji50)
                             ·rw [if_pos c51] at H; have c51b0 : decide (0 ≤ (ji50)) = true := decide_eq_true c51; clear c51; by_cases c52 : (ji50) < ((rd_L1 l3 (ji47)).length : Int)
                              ·rw [if_pos c52] at H; have c52b0 : decide ((ji50) < ((rd_L1 l3 (ji47)).length : Int)) = true := decide_eq_true c52; clear c52; by_cases c53 : (ji47) < (l0.length : Int)
                               ·rw [if_pos c53] at H; have c53b0 : decide ((ji47) < (l0.length : Int)) = true := decide_eq_true c53; clear c53; by_cases c54 : (ji50) < (l1.length : Int)
                                ·rw [if_pos c54] at H; have c54b0 : decide ((ji50) < (l1.length : Int)) = true := decide_eq_true c54; clear c54; replace H := Option.bind_eq_some_iff.mp H; obtain ⟨t116, A550, H⟩ := H; replace H : (if (rd (rd_L1 l3 x49_2) x56_3) > (wrap64 ((rd (rd_L1 l3 (ji47)) (ji50)) + t116)) then (some (0, 7)) else (log_CheckTable.l2 kj36 l0 l1 l3 x49_2 (rd_L1 l3 x49_2) l3 (l3.length : Int) x49_2 (rd_L1 l3 x49_2) ((rd_L1 l3 x49_2).length : Int) (wrap64 (x56_3 + 1)) a2_0 a2_1 a2_2)) = some (r1, r2) := H; have A55 := XB A550; clear A550; by_cases c56 : (rd (rd_L1 l3 x49_2) x56_3) > (wrap64 ((rd (rd_L1 l3 (ji47)) (ji50)) + t116))
                                 ·rw [if_pos c56] at H; have c56b0 : decide ((wrap64 ((rd (rd_L1 l3 (ji47)) (ji50)) + t116)) < (rd (rd_L1 l3 x49_2) x56_3)) = true := decide_eq_true c56; clear c56; simp only [Option.some.injEq, Prod.mk.injEq] at H; obtain ⟨rfl, rfl⟩ := H; try go_wp2
                                  have n0_ := XB (Xg J101.out); have n1_ := XB (Xb HB.out); clear J101; clear HB; have J101 := n0_; have HB := n1_; clear n0_ n1_; have p112 : 0 ≤ ((ji47) : Int) := of_decide_eq_true (by first | (with_reducible assumption) | assumption); have q112 : (ji47) < (l3.length : Int) := of_decide_eq_true (by first | (with_reducible assumption) | assumption); obtain ⟨ad112, A112_0, c112_0, e112, hx112_0, hl112_0, hi112_0⟩ := at_L1 HR3.out (ji47) p112 q112; have hw112_0 := hx112_0; obtain rfl : ad107 = ad112 := (by injection e112); replace hx112_0 := (HB.out.cell (World.block_lt_of_cell? w _ hx112_0)).trans hx112_0; have HR112_0 := XB hi112_0; have HC112_0 := XB hl112_0; clear hi112_0 hl112_0; replace p112 := eq_true p112; replace q112 := eq_true q112; have p113 : 0 ≤ ((ji50) : Int) := of_decide_eq_true (by first | (with_reducible assumption) | assumption); have q113 : (ji50) < ((rd_L1 l3 (ji47)).length : Int) := of_decide_eq_true (by first | (with_reducible assumption) | assumption); obtain ⟨ad113, e113, hx113_0⟩ := Kd.at_int HR112_0.out (ji50) p113 q113; have hw113_0 := hx113_0
                                  cases e113
                                  replace hx113_0 := (HB.out.cell (World.block_lt_of_cell? w _ hx113_0)).trans hx113_0; replace p113 := eq_true p113; replace q113 := eq_true q113; have p114 : 0 ≤ ((ji47) : Int) := of_decide_eq_true (by first | (with_reducible assumption) | assumption); have q114 : (ji47) < (l0.length : Int) := of_decide_eq_true (by first | (with_reducible assumption) | assumption); obtain ⟨ad114, e114, hx114_0⟩ := Kd.at_int HR0.out (ji47) p114 q114; have hw114_0 := hx114_0
                                  cases e114
                                  replace hx114_0 := (HB.out.cell (World.block_lt_of_cell? w _ hx114_0)).trans hx114_0; replace p114 := eq_true p114; replace q114 := eq_true q114; have p115 : 0 ≤ ((ji50) : Int) := of_decide_eq_true (by first | (with_reducible assumption) | assumption); have q115 : (ji50) < (l1.length : Int) := of_decide_eq_true (by first | (with_reducible assumption) | assumption); obtain ⟨ad115, e115, hx115_0⟩ := Kd.at_int HR1.out (ji50) p115 q115; have hw115_0 := hx115_0
                                  cases e115
                                  replace hx115_0 := (HB.out.cell (World.block_lt_of_cell? w _ hx115_0)).trans hx115_0; replace p115 := eq_true p115; replace q115 := eq_true q115; refine start_ (n := 35) (S := fun w' => w'.cell? ⟨gb101, 0, none⟩ = some (.int .i64 a2_0) ∧ w'.cell? ⟨gb101, 1, none⟩ = some (.int .i64 a2_1) ∧ w'.cell? ⟨gb101, 2, none⟩ = some (.int .i64 a2_2) ∧ w'.cell? (ad107.add ((ji47)).toNat) = some (.slice (some ad113) (rd_L1 l3 (ji47)).length c112_0) ∧ w'.cell? (ad113.add ((ji50)).toNat) = some (.int .i64 (rd (rd_L1 l3 (ji47)) (ji50))) ∧ w'.cell? (ad114.add ((ji47)).toNat) = some (.int .i64 (rd l0 (ji47))) ∧ w'.cell? (ad115.add ((ji50)).toNat) = some (.int .i64 (rd l1 (ji50)))) (ds := []) #[false, false, false, false, false, false, false, false, false, false, false, false, false, false, false, false, false, false, false, false, false, false, false, false, false, false, false, false, false, false, false, false, false, false, false] (by kernel_rfl) rfl rfl ⟨(Xi J101.out 0).trans rfl, (Xi J101.out 1).trans rfl, (Xi J101.out 2).trans rfl, ((HB.out.cell (World.block_lt_of_cell? w _ hw112_0)).trans hw112_0), ((HB.out.cell (World.block_lt_of_cell? w _ hw113_0)).trans hw113_0), ((HB.out.cell (World.block_lt_of_cell? w _ hw114_0)).trans hw114_0), ((HB.out.cell (World.block_lt_of_cell? w _ hw115_0)).trans hw115_0)⟩ (fun hHeld => ?_); refine with_tabW log_CheckTable.tab21 log_CheckTable.bits21 (fun HT_ HW_ => ?_); generalize wc.drew = w57 at J101 HB HR112_0 hx112_0 hx113_0 hx114_0 hx115_0 hHeld ⊢
                                  refine pure_ (i := 0) (N := some 103) (v := ?_) (a' := ?_) (Bq 35 1) rfl rfl (any_of HT_.out (by kernel_rfl)) (fun _ _ _ h => h) (Or.inl ⟨by rfl, ?_⟩) ?_ ?_; rotate_left
                                  ·intro w'; go_simp; with_reducible rfl
                                  rotate_left
                                  ·simp only [Act.put, Xj, Xk, Xl, i64_w, i32_w]; rfl
                                  refine pure_ (i := 1) (N := some 104) (v := ?_) (a' := ?_) (Bq 35 3) rfl rfl (any_of HT_.out (by kernel_rfl)) (fun _ _ _ h => h) (Or.inl ⟨by rfl, ?_⟩) ?_ ?_; rotate_left
                                  ·intro w'; go_simp; with_reducible rfl
                                  rotate_left
                                  ·simp only [Act.put, Xj, Xk, Xl, i64_w, i32_w]; rfl
                                  refine pure_ (i := 2) (N := some 105) (v := ?_) (a' := ?_) (Bq 35 7) rfl rfl (any_of HT_.out (by kernel_rfl)) (fun _ _ _ h => h) (Or.inl ⟨by rfl, ?_⟩) ?_ ?_; rotate_left
                                  ·intro w'; go_simp; with_reducible rfl
                                  rotate_left
                                  ·simp only [Act.put, Xj, Xk, Xl, i64_w, i32_w]; rfl
                                  refine pure_ (i := 3) (N := some 106) (v := ?_) (a' := ?_) (Bq 35 15) rfl rfl (any_of HT_.out (by kernel_rfl)) (fun _ _ _ h => h) (Or.inl ⟨by rfl, ?_⟩) ?_ ?_; rotate_left
                                  ·intro w'; go_simp; with_reducible rfl
                                  rotate_left
                                  ·simp only [Act.put, Xj, Xk, Xl, i64_w, i32_w]; rfl
                                  refine pure_ (i := 4) (N := some 107) (v := ?_) (a' := ?_) (Bq 35 31) rfl rfl (any_of HT_.out (by kernel_rfl)) (fun _ _ _ h => h) (Or.inl ⟨by rfl, ?_⟩) ?_ ?_; rotate_left
                                  ·intro w'; go_simp; with_reducible rfl
                                  rotate_left
                                  ·simp only [Act.put, Xj, Xk, Xl, i64_w, i32_w]; rfl
                                  refine pure_ (i := 5) (N := some 108) (v := ?_) (a' := ?_) (Bq 35 63) rfl rfl (any_of HT_.out (by kernel_rfl)) (fun _ _ _ h => h) (Or.inl ⟨by rfl, ?_⟩) ?_ ?_; rotate_left
                                  ·intro w'; go_simp; with_reducible rfl
                                  rotate_left
                                  ·simp only [Act.put, Xj, Xk, Xl, i64_w, i32_w]; rfl
                                  refine pure_ (i := 6) (N := some 109) (v := ?_) (a' := ?_) (Bq 35 127) rfl rfl (any_of HT_.out (by kernel_rfl)) (fun _ _ _ h => h) (Or.inl ⟨by rfl, ?_⟩) ?_ ?_; rotate_left
                                  ·intro w'; go_simp; with_reducible rfl
                                  rotate_left
                                  ·simp only [Act.put, Xj, Xk, Xl, i64_w, i32_w]; rfl
                                  refine pure_ (i := 7) (N := some 110) (v := ?_) (a' := ?_) (Bq 35 255) rfl rfl (any_of HT_.out (by kernel_rfl)) (fun _ _ _ h => h) (Or.inl ⟨by rfl, ?_⟩) ?_ ?_; rotate_left
                                  ·intro w'; go_simp; with_reducible rfl
                                  rotate_left
                                  ·simp only [Act.put, Xj, Xk, Xl, i64_w, i32_w]; rfl
                                  refine pure_ (i := 8) (N := some 111) (v := ?_) (a' := ?_) (Bq 35 511) rfl rfl (any_of HT_.out (by kernel_rfl)) (fun _ _ _ h => h) (Or.inl ⟨by rfl, ?_⟩) ?_ ?_; rotate_left
                                  ·intro w'; go_simp; with_reducible rfl
                                  rotate_left
                                  ·simp only [Act.put, Xj, Xk, Xl, i64_w, i32_w]; rfl
                                  refine pure_ (i := 9) (N := some 112) (v := ?_) (a' := ?_) (Bq 35 1023) rfl rfl (any_of HT_.out (by kernel_rfl)) (fun _ _ _ h => h) (Or.inl ⟨by rfl, ?_⟩) ?_ ?_; rotate_left
                                  ·intro w'; go_simp; with_reducible rfl
                                  rotate_left
                                  ·simp only [Act.put, Xj, Xk, Xl, i64_w, i32_w]; rfl
                                  refine pure_ (i := 10) (N := some 113) (v := ?_) (a' := ?_) (Bq 35 2047) rfl rfl (any_of HT_.out (by kernel_rfl)) (fun _ _ _ h => h) (Or.inl ⟨by rfl, ?_⟩) ?_ ?_; rotate_left
                                  ·intro w'; go_simp; with_reducible rfl
                                  rotate_left
                                  ·simp only [Act.put, Xj, Xk, Xl, i64_w, i32_w]; rfl
                                  refine pure_ (i := 11) (N := some 114) (v := ?_) (a' := ?_) (Bq 35 4095) rfl rfl (any_of HT_.out (by kernel_rfl)) (fun _ _ _ h => h) (Or.inl ⟨by rfl, ?_⟩) ?_ ?_; rotate_left
                                  ·intro w'; go_simp; with_reducible rfl
                                  rotate_left
                                  ·simp only [Act.put, Xj, Xk, Xl, i64_w, i32_w]; rfl
                                  refine pure_ (i := 13) (N := some 116) (v := ?_) (a' := ?_) (Bq 35 12287) rfl rfl (any_of HT_.out (by kernel_rfl)) (fun _ _ _ h => h) (Or.inl ⟨by rfl, ?_⟩) ?_ ?_; rotate_left
                                  ·intro w'; go_simp; with_reducible rfl
                                  rotate_left
                                  ·simp only [Act.put, Xj, Xk, Xl, i64_w, i32_w]; rfl
                                  refine pure_ (i := 14) (N := some 117) (v := ?_) (a' := ?_) (Bq 35 28671) rfl rfl (any_of HT_.out (by kernel_rfl)) (fun _ _ _ h => h) (Or.inl ⟨by rfl, ?_⟩) ?_ ?_; rotate_left
                                  ·intro w'; go_simp; with_reducible rfl
                                  rotate_left
                                  ·simp only [Act.put, Xj, Xk, Xl, i64_w, i32_w]; rfl
                                  refine pure_ (i := 18) (N := some 121) (v := ?_) (a' := ?_) (Bq 35 290815) rfl rfl (any_of HT_.out (by kernel_rfl)) (fun _ _ _ h => h) (Or.inl ⟨by rfl, ?_⟩) ?_ ?_; rotate_left
                                  ·intro w'; go_simp; with_reducible rfl
                                  rotate_left
                                  ·simp only [Act.put, Xj, Xk, Xl, i64_w, i32_w]; rfl
                                  refine pure_ (i := 19) (N := some 122) (v := ?_) (a' := ?_) (Bq 35 815103) rfl rfl (any_of HT_.out (by kernel_rfl)) (fun _ _ _ h => h) (Or.inl ⟨by rfl, ?_⟩) ?_ ?_; rotate_left
                                  ·intro w'; go_simp; with_reducible rfl
                                  rotate_left
                                  ·simp only [Act.put, Xj, Xk, Xl, i64_w, i32_w]; rfl
                                  refine pure_ (i := 20) (N := some 123) (v := ?_) (a' := ?_) (Bq 35 1863679) rfl rfl (any_of HT_.out (by kernel_rfl)) (fun _ _ _ h => h) (Or.inl ⟨by rfl, ?_⟩) ?_ ?_; rotate_left
                                  ·intro w'; go_simp; with_reducible rfl
                                  rotate_left
                                  ·simp only [Act.put, Xj, Xk, Xl, i64_w, i32_w]; rfl
                                  refine pure_ (i := 21) (N := some 124) (v := ?_) (a' := ?_) (Bq 35 3960831) rfl rfl (any_of HT_.out (by kernel_rfl)) (fun _ _ _ h => h) (Or.inl ⟨by rfl, ?_⟩) ?_ ?_; rotate_left
                                  ·intro w'; go_simp; with_reducible rfl
                                  rotate_left
                                  ·simp only [Act.put, Xj, Xk, Xl, i64_w, i32_w]; rfl
                                  refine pure_ (i := 23) (N := some 126) (v := ?_) (a' := ?_) (Bq 35 12349439) rfl rfl (any_of HT_.out (by kernel_rfl)) (fun _ _ _ h => h) (Or.inl ⟨by rfl, ?_⟩) ?_ ?_; rotate_left
                                  ·intro w'; go_simp; with_reducible rfl
                                  rotate_left
                                  ·simp only [Act.put, Xj, Xk, Xl, i64_w, i32_w]; rfl
                                  refine pure_ (i := 24) (N := some 127) (v := ?_) (a' := ?_) (Bq 35 29126655) rfl rfl (any_of HT_.out (by kernel_rfl)) (fun _ _ _ h => h) (Or.inl ⟨by rfl, ?_⟩) ?_ ?_; rotate_left
                                  ·intro w'; go_simp; with_reducible rfl
                                  rotate_left
                                  ·simp only [Act.put, Xj, Xk, Xl, i64_w, i32_w]; rfl
                                  refine pure_ (i := 25) (N := some 128) (v := ?_) (a' := ?_) (Bq 35 62681087) rfl rfl (any_of HT_.out (by kernel_rfl)) (fun _ _ _ h => h) (Or.inl ⟨by rfl, ?_⟩) ?_ ?_; rotate_left
                                  ·intro w'; go_simp; with_reducible rfl
                                  rotate_left
                                  ·simp only [Act.put, Xj, Xk, Xl, i64_w, i32_w]; rfl
                                  refine pure_ (i := 26) (N := some 129) (v := ?_) (a' := ?_) (Bq 35 129789951) rfl rfl (any_of HT_.out (by kernel_rfl)) (fun _ _ _ h => h) (Or.inl ⟨by rfl, ?_⟩) ?_ ?_; rotate_left
                                  ·intro w'; go_simp; with_reducible rfl
                                  rotate_left
                                  ·simp only [Act.put, Xj, Xk, Xl, i64_w, i32_w]; rfl
                                  refine take_ (i := 12) (N := some 115) (v := ?_) (a' := ?_) (Bq 35 129794047) rfl rfl (take_ofW HT_.out HW_.out (by kernel_rfl)) (fun _ _ _ h => h) (Or.inl ⟨by rfl, ?_⟩) hHeld ?_ ?_; rotate_left
                                  ·rintro w' ⟨s0, s1, s2, s3, s4, s5, s6⟩; go_simp; with_reducible rfl
                                  rotate_left
                                  ·simp only [Act.put, Xj, Xk, Xl, i64_w, i32_w]; rfl
                                  refine pure_ (i := 15) (N := some 118) (v := ?_) (a' := ?_) (Bq 35 129826815) rfl rfl (any_of HT_.out (by kernel_rfl)) (fun _ _ _ h => h) (Or.inl ⟨by rfl, ?_⟩) ?_ ?_; rotate_left
                                  ·intro w'; go_simp; with_reducible rfl
                                  rotate_left
                                  ·simp only [Act.put, Xj, Xk, Xl, i64_w, i32_w]; rfl
                                  refine take_ (i := 16) (N := some 119) (v := ?_) (a' := ?_) (Bq 35 129892351) rfl rfl (take_ofW HT_.out HW_.out (by kernel_rfl)) (fun _ _ _ h => h) (Or.inl ⟨by rfl, ?_⟩) hHeld ?_ ?_; rotate_left
                                  ·rintro w' ⟨s0, s1, s2, s3, s4, s5, s6⟩; go_simp; with_reducible rfl
                                  rotate_left
                                  ·simp only [Act.put, Xj, Xk, Xl, i64_w, i32_w]; rfl
                                  refine take_ (i := 17) (N := some 120) (v := ?_) (a' := ?_) (Bq 35 130023423) rfl rfl (take_ofW HT_.out HW_.out (by kernel_rfl)) (fun _ _ _ h => h) (Or.inl ⟨by rfl, ?_⟩) hHeld ?_ ?_; rotate_left
                                  ·rintro w' ⟨s0, s1, s2, s3, s4, s5, s6⟩; go_simp; with_reducible rfl
                                  rotate_left
                                  ·simp only [Act.put, Xj, Xk, Xl, i64_w, i32_w]; rfl
                                  refine take_ (i := 22) (N := some 125) (v := ?_) (a' := ?_) (Bq 35 134217727) rfl rfl (take_ofW HT_.out HW_.out (by kernel_rfl)) (fun _ _ _ h => h) (Or.inl ⟨by rfl, ?_⟩) hHeld ?_ ?_; rotate_left
                                  ·rintro w' ⟨s0, s1, s2, s3, s4, s5, s6⟩; go_simp; with_reducible rfl
                                  rotate_left
                                  ·simp only [Act.put, Xj, Xk, Xl, i64_w, i32_w]; rfl
                                  refine take_ (i := 27) (N := some 130) (v := ?_) (a' := ?_) (Bq 35 268435455) rfl rfl (take_ofW HT_.out HW_.out (by kernel_rfl)) (fun _ _ _ h => h) (Or.inl ⟨by rfl, ?_⟩) hHeld ?_ ?_; rotate_left
                                  ·rintro w' ⟨s0, s1, s2, s3, s4, s5, s6⟩; go_simp; with_reducible rfl
                                  rotate_left
                                  ·simp only [Act.put, Xj, Xk, Xl, i64_w, i32_w]; rfl
                                  refine pure_ (i := 28) (N := some 131) (v := ?_) (a' := ?_) (Bq 35 536870911) rfl rfl (any_of HT_.out (by kernel_rfl)) (fun _ _ _ h => h) (Or.inl ⟨by rfl, ?_⟩) ?_ ?_; rotate_left
                                  ·intro w'; go_simp; with_reducible rfl
                                  rotate_left
                                  ·simp only [Act.put, Xj, Xk, Xl, i64_w, i32_w]; rfl
                                  refine pure_ (i := 29) (N := some 132) (v := ?_) (a' := ?_) (Bq 35 1073741823) rfl rfl (any_of HT_.out (by kernel_rfl)) (fun _ _ _ h => h) (Or.inl ⟨by rfl, ?_⟩) ?_ ?_; rotate_left
                                  ·intro w'; go_simp; with_reducible rfl
                                  rotate_left
                                  ·simp only [Act.put, Xj, Xk, Xl, i64_w, i32_w]; rfl
                                  refine one_ (i := 30) (N := some 133) (Bq 35 2147483647) rfl rfl (one_of HT_.out (by kernel_rfl)) (by decide) (fun K hK => ?_); refine goes_ Try.func58 (by kernel_rfl) rfl #[.agg #[.int .i64 a2_0, .int .i64 a2_1, .int .i64 a2_2], .iface 70 (.agg #[.int .i64 (rd l0 (ji47)), .int .i64 (rd l1 (ji50))])] (by rfl) rfl rfl (by (try simp only [Xm, Xn, Xo]); first | done | (simp only [hji47, hji50]; rfl) | rfl | (simp only [Xp, Xq]; rfl)) ?_; with_reducible refine (log_costBoth.calls a2_0 a2_1 a2_2 (rd l0 (ji47)) (rd l1 (ji50)) t116 _ A55.out).mono ?_
                                  rintro e w58 ⟨rfl, hb⟩; refine ⟨_, rfl, ?_⟩; have n0_ := XB (XA (g := gb101) (o := .cells #[.int .i64 a2_0, .int .i64 a2_1, .int .i64 a2_2] 24 (0, 0)) (by (with_reducible repeat (first | refine Xf ?_ _ | refine Xg ?_ | refine Xe ?_ _)); exact J101.out) hb); have n1_ := XB (Xz (by repeat (first | (with_reducible first | exact HB.out | apply Xc | apply Xa | apply Xb | refine Xd ?_ E101.out) | exact HB.out)) hb); clear J101; clear HB; have J101 := n0_; have HB := n1_; clear n0_ n1_; (try clear hb)
                                  (try clear hb2)
                                  (try clear hk)
                                  (try clear hi)
                                  refine hK.out _ _ ⟨(Xi J101.out 0).trans rfl, (Xi J101.out 1).trans rfl, (Xi J101.out 2).trans rfl, ((HB.out.cell (World.block_lt_of_cell? w _ hw112_0)).trans hw112_0), ((HB.out.cell (World.block_lt_of_cell? w _ hw113_0)).trans hw113_0), ((HB.out.cell (World.block_lt_of_cell? w _ hw114_0)).trans hw114_0), ((HB.out.cell (World.block_lt_of_cell? w _ hw115_0)).trans hw115_0)⟩ (fun hHeld => ?_); clear hK K; refine norm_ (a' := ?_) ?_ ?_; rotate_left
                                  ·show Act.put _ (some 133) _ = _
                                   simp only [Act.put, Xj, Xk, Xl, i64_w, i32_w]; rfl
                                  refine pure_ (i := 31) (N := some 134) (v := ?_) (a' := ?_) (Bq 35 4294967295) rfl rfl (any_of HT_.out (by kernel_rfl)) (fun _ _ _ h => h) (Or.inl ⟨by rfl, ?_⟩) ?_ ?_; rotate_left
                                  ·intro w'; go_simp; with_reducible rfl
                                  rotate_left
                                  ·simp only [Act.put, Xj, Xk, Xl, i64_w, i32_w]; rfl
                                  refine pure_ (i := 32) (N := some 135) (v := ?_) (a' := ?_) (Bq 35 8589934591) rfl rfl (any_of HT_.out (by kernel_rfl)) (fun _ _ _ h => h) (Or.inl ⟨by rfl, ?_⟩) ?_ ?_; rotate_left
                                  ·intro w'; go_simp; with_reducible rfl
                                  rotate_left
                                  ·simp only [Act.put, Xj, Xk, Xl, i64_w, i32_w]; rfl
                                  refine pure_ (i := 33) (N := some 136) (v := ?_) (a' := ?_) (Bq 35 17179869183) rfl rfl (any_of HT_.out (by kernel_rfl)) (fun _ _ _ h => h) (Or.inl ⟨by rfl, ?_⟩) ?_ ?_; rotate_left
                                  ·intro w'; go_simp; with_reducible rfl
                                  rotate_left
                                  ·simp only [Act.put, Xj, Xk, Xl, i64_w, i32_w]; rfl
                                  refine pure_ (i := 34) (N := some 61) (v := ?_) (a' := ?_) (Bq 35 34359738367) rfl rfl (any_of HT_.out (by kernel_rfl)) (fun _ _ _ h => h) (Or.inl ⟨by rfl, ?_⟩) ?_ ?_; rotate_left
                                  ·intro w'; go_simp; with_reducible rfl
                                  rotate_left
                                  ·simp only [Act.put, Xj, Xk, Xl, i64_w, i32_w]; rfl
                                  refine done_ (done_of HT_.out (by kernel_rfl)) ?_; try go_wp2
                                  go_ret2
                                  exact ⟨by first | rfl | (simp [errW_none, errW_some] <;> rfl) | (simp only [← hji47, ← hji50]; first | rfl | (simp [errW_none, errW_some] <;> rfl)) | (simp [*, errW_none, errW_some] <;> rfl), by repeat (first | (with_reducible first | exact HB.out | apply Xc | apply Xa | apply Xb | refine Xd ?_ E101.out) | exact HB.out)⟩
                                 ·rw [if_neg c56] at H; have c56b0 : decide ((wrap64 ((rd (rd_L1 l3 (ji47)) (ji50)) + t116)) < (rd (rd_L1 l3 x49_2) x56_3)) = false := decide_eq_false c56; clear c56; have H' := XB H; clear H; try go_wp2
                                  have n0_ := XB (Xg J101.out); have n1_ := XB (Xb HB.out); clear J101; clear HB; have J101 := n0_; have HB := n1_; clear n0_ n1_; have p112 : 0 ≤ ((ji47) : Int) := of_decide_eq_true (by first | (with_reducible assumption) | assumption); have q112 : (ji47) < (l3.length : Int) := of_decide_eq_true (by first | (with_reducible assumption) | assumption); obtain ⟨ad112, A112_0, c112_0, e112, hx112_0, hl112_0, hi112_0⟩ := at_L1 HR3.out (ji47) p112 q112; have hw112_0 := hx112_0; obtain rfl : ad107 = ad112 := (by injection e112); replace hx112_0 := (HB.out.cell (World.block_lt_of_cell? w _ hx112_0)).trans hx112_0; have HR112_0 := XB hi112_0; have HC112_0 := XB hl112_0; clear hi112_0 hl112_0; replace p112 := eq_true p112; replace q112 := eq_true q112; have p113 : 0 ≤ ((ji50) : Int) := of_decide_eq_true (by first | (with_reducible assumption) | assumption); have q113 : (ji50) < ((rd_L1 l3 (ji47)).length : Int) := of_decide_eq_true (by first | (with_reducible assumption) | assumption); obtain ⟨ad113, e113, hx113_0⟩ := Kd.at_int HR112_0.out (ji50) p113 q113; have hw113_0 := hx113_0
                                  cases e113
                                  replace hx113_0 := (HB.out.cell (World.block_lt_of_cell? w _ hx113_0)).trans hx113_0; replace p113 := eq_true p113; replace q113 := eq_true q113; have p114 : 0 ≤ ((ji47) : Int) := of_decide_eq_true (by first | (with_reducible assumption) | assumption); have q114 : (ji47) < (l0.length : Int) := of_decide_eq_true (by first | (with_reducible assumption) | assumption); obtain ⟨ad114, e114, hx114_0⟩ := Kd.at_int HR0.out (ji47) p114 q114; have hw114_0 := hx114_0
                                  cases e114
                                  replace hx114_0 := (HB.out.cell (World.block_lt_of_cell? w _ hx114_0)).trans hx114_0; replace p114 := eq_true p114; replace q114 := eq_true q114; have p115 : 0 ≤ ((ji50) : Int) := of_decide_eq_true (by first | (with_reducible assumption) | assumption); have q115 : (ji50) < (l1.length : Int) := of_decide_eq_true (by first | (with_reducible assumption) | assumption); obtain ⟨ad115, e115, hx115_0⟩ := Kd.at_int HR1.out (ji50) p115 q115; have hw115_0 := hx115_0
                                  cases e115
                                  replace hx115_0 := (HB.out.cell (World.block_lt_of_cell? w _ hx115_0)).trans hx115_0; replace p115 := eq_true p115; replace q115 := eq_true q115; refine start_ (n := 35) (S := fun w' => w'.cell? ⟨gb101, 0, none⟩ = some (.int .i64 a2_0) ∧ w'.cell? ⟨gb101, 1, none⟩ = some (.int .i64 a2_1) ∧ w'.cell? ⟨gb101, 2, none⟩ = some (.int .i64 a2_2) ∧ w'.cell? (ad107.add ((ji47)).toNat) = some (.slice (some ad113) (rd_L1 l3 (ji47)).length c112_0) ∧ w'.cell? (ad113.add ((ji50)).toNat) = some (.int .i64 (rd (rd_L1 l3 (ji47)) (ji50))) ∧ w'.cell? (ad114.add ((ji47)).toNat) = some (.int .i64 (rd l0 (ji47))) ∧ w'.cell? (ad115.add ((ji50)).toNat) = some (.int .i64 (rd l1 (ji50)))) (ds := []) #[false, false, false, false, false, false, false, false, false, false, false, false, false, false, false, false, false, false, false, false, false, false, false, false, false, false, false, false, false, false, false, false, false, false, false] (by kernel_rfl) rfl rfl ⟨(Xi J101.out 0).trans rfl, (Xi J101.out 1).trans rfl, (Xi J101.out 2).trans rfl, ((HB.out.cell (World.block_lt_of_cell? w _ hw112_0)).trans hw112_0), ((HB.out.cell (World.block_lt_of_cell? w _ hw113_0)).trans hw113_0), ((HB.out.cell (World.block_lt_of_cell? w _ hw114_0)).trans hw114_0), ((HB.out.cell (World.block_lt_of_cell? w _ hw115_0)).trans hw115_0)⟩ (fun hHeld => ?_); refine with_tabW log_CheckTable.tab21 log_CheckTable.bits21 (fun HT_ HW_ => ?_); generalize wc.drew = w59 at J101 HB HR112_0 hx112_0 hx113_0 hx114_0 hx115_0 hHeld ⊢
                                  refine pure_ (i := 0) (N := some 103) (v := ?_) (a' := ?_) (Bq 35 1) rfl rfl (any_of HT_.out (by kernel_rfl)) (fun _ _ _ h => h) (Or.inl ⟨by rfl, ?_⟩) ?_ ?_; rotate_left
                                  ·intro w'; go_simp; with_reducible rfl
                                  rotate_left
                                  ·simp only [Act.put, Xj, Xk, Xl, i64_w, i32_w]; rfl
                                  refine pure_ (i := 1) (N := some 104) (v := ?_) (a' := ?_) (Bq 35 3) rfl rfl (any_of HT_.out (by kernel_rfl)) (fun _ _ _ h => h) (Or.inl ⟨by rfl, ?_⟩) ?_ ?_; rotate_left
                                  ·intro w'; go_simp; with_reducible rfl
                                  rotate_left
                                  ·simp only [Act.put, Xj, Xk, Xl, i64_w, i32_w]; rfl
                                  refine pure_ (i := 2) (N := some 105) (v := ?_) (a' := ?_) (Bq 35 7) rfl rfl (any_of HT_.out (by kernel_rfl)) (fun _ _ _ h => h) (Or.inl ⟨by rfl, ?_⟩) ?_ ?_; rotate_left
                                  ·intro w'; go_simp; with_reducible rfl
                                  rotate_left
                                  ·simp only [Act.put, Xj, Xk, Xl, i64_w, i32_w]; rfl
                                  refine pure_ (i := 3) (N := some 106) (v := ?_) (a' := ?_) (Bq 35 15) rfl rfl (any_of HT_.out (by kernel_rfl)) (fun _ _ _ h => h) (Or.inl ⟨by rfl, ?_⟩) ?_ ?_; rotate_left
                                  ·intro w'; go_simp; with_reducible rfl
                                  rotate_left
                                  ·simp only [Act.put, Xj, Xk, Xl, i64_w, i32_w]; rfl
                                  refine pure_ (i := 4) (N := some 107) (v := ?_) (a' := ?_) (Bq 35 31) rfl rfl (any_of HT_.out (by kernel_rfl)) (fun _ _ _ h => h) (Or.inl ⟨by rfl, ?_⟩) ?_ ?_; rotate_left
                                  ·intro w'; go_simp; with_reducible rfl
                                  rotate_left
                                  ·simp only [Act.put, Xj, Xk, Xl, i64_w, i32_w]; rfl
                                  refine pure_ (i := 5) (N := some 108) (v := ?_) (a' := ?_) (Bq 35 63) rfl rfl (any_of HT_.out (by kernel_rfl)) (fun _ _ _ h => h) (Or.inl ⟨by rfl, ?_⟩) ?_ ?_; rotate_left
                                  ·intro w'; go_simp; with_reducible rfl
                                  rotate_left
                                  ·simp only [Act.put, Xj, Xk, Xl, i64_w, i32_w]; rfl
                                  refine pure_ (i := 6) (N := some 109) (v := ?_) (a' := ?_) (Bq 35 127) rfl rfl (any_of HT_.out (by kernel_rfl)) (fun _ _ _ h => h) (Or.inl ⟨by rfl, ?_⟩) ?_ ?_; rotate_left
                                  ·intro w'; go_simp; with_reducible rfl
                                  rotate_left
                                  ·simp only [Act.put, Xj, Xk, Xl, i64_w, i32_w]; rfl
                                  refine pure_ (i := 7) (N := some 110) (v := ?_) (a' := ?_) (Bq 35 255) rfl rfl (any_of HT_.out (by kernel_rfl)) (fun _ _ _ h => h) (Or.inl ⟨by rfl, ?_⟩) ?_ ?_; rotate_left
                                  ·intro w'; go_simp; with_reducible rfl
                                  rotate_left
                                  ·simp only [Act.put, Xj, Xk, Xl, i64_w, i32_w]; rfl
                                  refine pure_ (i := 8) (N := some 111) (v := ?_) (a' := ?_) (Bq 35 511) rfl rfl (any_of HT_.out (by kernel_rfl)) (fun _ _ _ h => h) (Or.inl ⟨by rfl, ?_⟩) ?_ ?_; rotate_left
                                  ·intro w'; go_simp; with_reducible rfl
                                  rotate_left
                                  ·simp only [Act.put, Xj, Xk, Xl, i64_w, i32_w]; rfl
                                  refine pure_ (i := 9) (N := some 112) (v := ?_) (a' := ?_) (Bq 35 1023) rfl rfl (any_of HT_.out (by kernel_rfl)) (fun _ _ _ h => h) (Or.inl ⟨by rfl, ?_⟩) ?_ ?_; rotate_left
                                  ·intro w'; go_simp; with_reducible rfl
                                  rotate_left
                                  ·simp only [Act.put, Xj, Xk, Xl, i64_w, i32_w]; rfl
                                  refine pure_ (i := 10) (N := some 113) (v := ?_) (a' := ?_) (Bq 35 2047) rfl rfl (any_of HT_.out (by kernel_rfl)) (fun _ _ _ h => h) (Or.inl ⟨by rfl, ?_⟩) ?_ ?_; rotate_left
                                  ·intro w'; go_simp; with_reducible rfl
                                  rotate_left
                                  ·simp only [Act.put, Xj, Xk, Xl, i64_w, i32_w]; rfl
                                  refine pure_ (i := 11) (N := some 114) (v := ?_) (a' := ?_) (Bq 35 4095) rfl rfl (any_of HT_.out (by kernel_rfl)) (fun _ _ _ h => h) (Or.inl ⟨by rfl, ?_⟩) ?_ ?_; rotate_left
                                  ·intro w'; go_simp; with_reducible rfl
                                  rotate_left
                                  ·simp only [Act.put, Xj, Xk, Xl, i64_w, i32_w]; rfl
                                  refine pure_ (i := 13) (N := some 116) (v := ?_) (a' := ?_) (Bq 35 12287) rfl rfl (any_of HT_.out (by kernel_rfl)) (fun _ _ _ h => h) (Or.inl ⟨by rfl, ?_⟩) ?_ ?_; rotate_left
                                  ·intro w'; go_simp; with_reducible rfl
                                  rotate_left
                                  ·simp only [Act.put, Xj, Xk, Xl, i64_w, i32_w]; rfl
                                  refine pure_ (i := 14) (N := some 117) (v := ?_) (a' := ?_) (Bq 35 28671) rfl rfl (any_of HT_.out (by kernel_rfl)) (fun _ _ _ h => h) (Or.inl ⟨by rfl, ?_⟩) ?_ ?_; rotate_left
                                  ·intro w'; go_simp; with_reducible rfl
                                  rotate_left
                                  ·simp only [Act.put, Xj, Xk, Xl, i64_w, i32_w]; rfl
                                  refine pure_ (i := 18) (N := some 121) (v := ?_) (a' := ?_) (Bq 35 290815) rfl rfl (any_of HT_.out (by kernel_rfl)) (fun _ _ _ h => h) (Or.inl ⟨by rfl, ?_⟩) ?_ ?_; rotate_left
                                  ·intro w'; go_simp; with_reducible rfl
                                  rotate_left
                                  ·simp only [Act.put, Xj, Xk, Xl, i64_w, i32_w]; rfl
                                  refine pure_ (i := 19) (N := some 122) (v := ?_) (a' := ?_) (Bq 35 815103) rfl rfl (any_of HT_.out (by kernel_rfl)) (fun _ _ _ h => h) (Or.inl ⟨by rfl, ?_⟩) ?_ ?_; rotate_left
                                  ·intro w'; go_simp; with_reducible rfl
                                  rotate_left
                                  ·simp only [Act.put, Xj, Xk, Xl, i64_w, i32_w]; rfl
                                  refine pure_ (i := 20) (N := some 123) (v := ?_) (a' := ?_) (Bq 35 1863679) rfl rfl (any_of HT_.out (by kernel_rfl)) (fun _ _ _ h => h) (Or.inl ⟨by rfl, ?_⟩) ?_ ?_; rotate_left
                                  ·intro w'; go_simp; with_reducible rfl
                                  rotate_left
                                  ·simp only [Act.put, Xj, Xk, Xl, i64_w, i32_w]; rfl
                                  refine pure_ (i := 21) (N := some 124) (v := ?_) (a' := ?_) (Bq 35 3960831) rfl rfl (any_of HT_.out (by kernel_rfl)) (fun _ _ _ h => h) (Or.inl ⟨by rfl, ?_⟩) ?_ ?_; rotate_left
                                  ·intro w'; go_simp; with_reducible rfl
                                  rotate_left
                                  ·simp only [Act.put, Xj, Xk, Xl, i64_w, i32_w]; rfl
                                  refine pure_ (i := 23) (N := some 126) (v := ?_) (a' := ?_) (Bq 35 12349439) rfl rfl (any_of HT_.out (by kernel_rfl)) (fun _ _ _ h => h) (Or.inl ⟨by rfl, ?_⟩) ?_ ?_; rotate_left
                                  ·intro w'; go_simp; with_reducible rfl
                                  rotate_left
                                  ·simp only [Act.put, Xj, Xk, Xl, i64_w, i32_w]; rfl
                                  refine pure_ (i := 24) (N := some 127) (v := ?_) (a' := ?_) (Bq 35 29126655) rfl rfl (any_of HT_.out (by kernel_rfl)) (fun _ _ _ h => h) (Or.inl ⟨by rfl, ?_⟩) ?_ ?_; rotate_left
                                  ·intro w'; go_simp; with_reducible rfl
                                  rotate_left
                                  ·simp only [Act.put, Xj, Xk, Xl, i64_w, i32_w]; rfl
                                  refine pure_ (i := 25) (N := some 128) (v := ?_) (a' := ?_) (Bq 35 62681087) rfl rfl (any_of HT_.out (by kernel_rfl)) (fun _ _ _ h => h) (Or.inl ⟨by rfl, ?_⟩) ?_ ?_; rotate_left
                                  ·intro w'; go_simp; with_reducible rfl
                                  rotate_left
                                  ·simp only [Act.put, Xj, Xk, Xl, i64_w, i32_w]; rfl
                                  refine pure_ (i := 26) (N := some 129) (v := ?_) (a' := ?_) (Bq 35 129789951) rfl rfl (any_of HT_.out (by kernel_rfl)) (fun _ _ _ h => h) (Or.inl ⟨by rfl, ?_⟩) ?_ ?_; rotate_left
                                  ·intro w'; go_simp; with_reducible rfl
                                  rotate_left
                                  ·simp only [Act.put, Xj, Xk, Xl, i64_w, i32_w]; rfl
                                  refine take_ (i := 12) (N := some 115) (v := ?_) (a' := ?_) (Bq 35 129794047) rfl rfl (take_ofW HT_.out HW_.out (by kernel_rfl)) (fun _ _ _ h => h) (Or.inl ⟨by rfl, ?_⟩) hHeld ?_ ?_; rotate_left
                                  ·rintro w' ⟨s0, s1, s2, s3, s4, s5, s6⟩; go_simp; with_reducible rfl
                                  rotate_left
                                  ·simp only [Act.put, Xj, Xk, Xl, i64_w, i32_w]; rfl
                                  refine pure_ (i := 15) (N := some 118) (v := ?_) (a' := ?_) (Bq 35 129826815) rfl rfl (any_of HT_.out (by kernel_rfl)) (fun _ _ _ h => h) (Or.inl ⟨by rfl, ?_⟩) ?_ ?_; rotate_left
                                  ·intro w'; go_simp; with_reducible rfl
                                  rotate_left
                                  ·simp only [Act.put, Xj, Xk, Xl, i64_w, i32_w]; rfl
                                  refine take_ (i := 16) (N := some 119) (v := ?_) (a' := ?_) (Bq 35 129892351) rfl rfl (take_ofW HT_.out HW_.out (by kernel_rfl)) (fun _ _ _ h => h) (Or.inl ⟨by rfl, ?_⟩) hHeld ?_ ?_; rotate_left
                                  ·rintro w' ⟨s0, s1, s2, s3, s4, s5, s6⟩; go_simp; with_reducible rfl
                                  rotate_left
                                  ·simp only [Act.put, Xj, Xk, Xl, i64_w, i32_w]; rfl
                                  refine take_ (i := 17) (N := some 120) (v := ?_) (a' := ?_) (Bq 35 130023423) rfl rfl (take_ofW HT_.out HW_.out (by kernel_rfl)) (fun _ _ _ h => h) (Or.inl ⟨by rfl, ?_⟩) hHeld ?_ ?_; rotate_left
                                  ·rintro w' ⟨s0, s1, s2, s3, s4, s5, s6⟩; go_simp; with_reducible rfl
                                  rotate_left
                                  ·simp only [Act.put, Xj, Xk, Xl, i64_w, i32_w]; rfl
                                  refine take_ (i := 22) (N := some 125) (v := ?_) (a' := ?_) (Bq 35 134217727) rfl rfl (take_ofW HT_.out HW_.out (by kernel_rfl)) (fun _ _ _ h => h) (Or.inl ⟨by rfl, ?_⟩) hHeld ?_ ?_; rotate_left
                                  ·rintro w' ⟨s0, s1, s2, s3, s4, s5, s6⟩; go_simp; with_reducible rfl
                                  rotate_left
                                  ·simp only [Act.put, Xj, Xk, Xl, i64_w, i32_w]; rfl
                                  refine take_ (i := 27) (N := some 130) (v := ?_) (a' := ?_) (Bq 35 268435455) rfl rfl (take_ofW HT_.out HW_.out (by kernel_rfl)) (fun _ _ _ h => h) (Or.inl ⟨by rfl, ?_⟩) hHeld ?_ ?_; rotate_left
                                  ·rintro w' ⟨s0, s1, s2, s3, s4, s5, s6⟩; go_simp; with_reducible rfl
                                  rotate_left
                                  ·simp only [Act.put, Xj, Xk, Xl, i64_w, i32_w]; rfl
                                  refine pure_ (i := 28) (N := some 131) (v := ?_) (a' := ?_) (Bq 35 536870911) rfl rfl (any_of HT_.out (by kernel_rfl)) (fun _ _ _ h => h) (Or.inl ⟨by rfl, ?_⟩) ?_ ?_; rotate_left
                                  ·intro w'; go_simp; with_reducible rfl
                                  rotate_left
                                  ·simp only [Act.put, Xj, Xk, Xl, i64_w, i32_w]; rfl
                                  refine pure_ (i := 29) (N := some 132) (v := ?_) (a' := ?_) (Bq 35 1073741823) rfl rfl (any_of HT_.out (by kernel_rfl)) (fun _ _ _ h => h) (Or.inl ⟨by rfl, ?_⟩) ?_ ?_; rotate_left
                                  ·intro w'; go_simp; with_reducible rfl
                                  rotate_left
                                  ·simp only [Act.put, Xj, Xk, Xl, i64_w, i32_w]; rfl
                                  refine one_ (i := 30) (N := some 133) (Bq 35 2147483647) rfl rfl (one_of HT_.out (by kernel_rfl)) (by decide) (fun K hK => ?_); refine goes_ Try.func58 (by kernel_rfl) rfl #[.agg #[.int .i64 a2_0, .int .i64 a2_1, .int .i64 a2_2], .iface 70 (.agg #[.int .i64 (rd l0 (ji47)), .int .i64 (rd l1 (ji50))])] (by rfl) rfl rfl (by (try simp only [Xm, Xn, Xo]); first | done | (simp only [hji47, hji50]; rfl) | rfl | (simp only [Xp, Xq]; rfl)) ?_; with_reducible refine (log_costBoth.calls a2_0 a2_1 a2_2 (rd l0 (ji47)) (rd l1 (ji50)) t116 _ A55.out).mono ?_
                                  rintro e w60 ⟨rfl, hb⟩; refine ⟨_, rfl, ?_⟩; have n0_ := XB (XA (g := gb101) (o := .cells #[.int .i64 a2_0, .int .i64 a2_1, .int .i64 a2_2] 24 (0, 0)) (by (with_reducible repeat (first | refine Xf ?_ _ | refine Xg ?_ | refine Xe ?_ _)); exact J101.out) hb); have n1_ := XB (Xz (by repeat (first | (with_reducible first | exact HB.out | apply Xc | apply Xa | apply Xb | refine Xd ?_ E101.out) | exact HB.out)) hb); clear J101; clear HB; have J101 := n0_; have HB := n1_; clear n0_ n1_; (try clear hb)
                                  (try clear hb2)
                                  (try clear hk)
                                  (try clear hi)
                                  refine hK.out _ _ ⟨(Xi J101.out 0).trans rfl, (Xi J101.out 1).trans rfl, (Xi J101.out 2).trans rfl, ((HB.out.cell (World.block_lt_of_cell? w _ hw112_0)).trans hw112_0), ((HB.out.cell (World.block_lt_of_cell? w _ hw113_0)).trans hw113_0), ((HB.out.cell (World.block_lt_of_cell? w _ hw114_0)).trans hw114_0), ((HB.out.cell (World.block_lt_of_cell? w _ hw115_0)).trans hw115_0)⟩ (fun hHeld => ?_); clear hK K; refine norm_ (a' := ?_) ?_ ?_; rotate_left
                                  ·show Act.put _ (some 133) _ = _
                                   simp only [Act.put, Xj, Xk, Xl, i64_w, i32_w]; rfl
                                  refine pure_ (i := 31) (N := some 134) (v := ?_) (a' := ?_) (Bq 35 4294967295) rfl rfl (any_of HT_.out (by kernel_rfl)) (fun _ _ _ h => h) (Or.inl ⟨by rfl, ?_⟩) ?_ ?_; rotate_left
                                  ·intro w'; go_simp; with_reducible rfl
                                  rotate_left
                                  ·simp only [Act.put, Xj, Xk, Xl, i64_w, i32_w]; rfl
                                  refine pure_ (i := 32) (N := some 135) (v := ?_) (a' := ?_) (Bq 35 8589934591) rfl rfl (any_of HT_.out (by kernel_rfl)) (fun _ _ _ h => h) (Or.inl ⟨by rfl, ?_⟩) ?_ ?_; rotate_left
                                  ·intro w'; go_simp; with_reducible rfl
                                  rotate_left
                                  ·simp only [Act.put, Xj, Xk, Xl, i64_w, i32_w]; rfl
                                  refine pure_ (i := 33) (N := some 136) (v := ?_) (a' := ?_) (Bq 35 17179869183) rfl rfl (any_of HT_.out (by kernel_rfl)) (fun _ _ _ h => h) (Or.inl ⟨by rfl, ?_⟩) ?_ ?_; rotate_left
                                  ·intro w'; go_simp; with_reducible rfl
                                  rotate_left
                                  ·simp only [Act.put, Xj, Xk, Xl, i64_w, i32_w]; rfl
                                  refine pure_ (i := 34) (N := some 61) (v := ?_) (a' := ?_) (Bq 35 34359738367) rfl rfl (any_of HT_.out (by kernel_rfl)) (fun _ _ _ h => h) (Or.inl ⟨by rfl, ?_⟩) ?_ ?_; rotate_left
                                  ·intro w'; go_simp; with_reducible rfl
                                  rotate_left
                                  ·simp only [Act.put, Xj, Xk, Xl, i64_w, i32_w]; rfl
                                  refine done_ (done_of HT_.out (by kernel_rfl)) ?_; try go_wp2
                                  go_roundg kj36
                                  case measure => have := HK1.out; have := HK2.out; have := HK3.out; have := HJ22.out; have := HJ26.out; have := HJ36.out; omega
                                  case rel => exact ⟨(wrap64 (x56_3 + 1)), (by first | rfl | (simp; done) | (simp [*]; done)), H', ⟨by have := HK1.out; have := HK2.out; have := HK3.out; have := HJ22.out; have := HJ26.out; have := HJ36.out; omega⟩, ⟨by (with_reducible repeat (first | refine Xf ?_ _ | refine Xg ?_ | refine Xe ?_ _)); exact J101.out⟩, ⟨by repeat (first | (with_reducible first | exact HB.out | apply Xc | apply Xa | apply Xb | refine Xd ?_ E101.out) | exact HB.out)⟩⟩
                                ·rw [if_neg c54] at H; exact absurd H (by simp)
                               ·rw [if_neg c53] at H; exact absurd H (by simp)
                              ·rw [if_neg c52] at H; exact absurd H (by simp)
                             ·rw [if_neg c51] at H; exact absurd H (by simp)
                            ·rw [if_neg c49] at H; exact absurd H (by simp)
                           ·rw [if_neg c48] at H; exact absurd H (by simp)
                          ·rw [if_neg c46] at H; have c46b0 : decide (0 < x56_3) = false := decide_eq_false c46; clear c46; have H' := XB H; clear H; try go_wp2
                           have n0_ := XB (Xg J101.out); have n1_ := XB (Xb HB.out); clear J101; clear HB; have J101 := n0_; have HB := n1_; clear n0_ n1_; refine start_ (n := 35) (S := fun w' => True) (ds := []) #[false, false, false, false, false, false, false, false, false, false, false, false, false, false, false, false, false, false, false, false, false, false, false, false, false, false, false, false, false, false, false, false, false, false, false] (by kernel_rfl) rfl rfl trivial (fun hHeld => ?_); refine with_tabW log_CheckTable.tab21 log_CheckTable.bits21 (fun HT_ HW_ => ?_); generalize wc.drew = w61 at J101 HB hHeld ⊢
                           refine pure_ (i := 0) (N := some 103) (v := ?_) (a' := ?_) (Bq 35 1) rfl rfl (any_of HT_.out (by kernel_rfl)) (fun _ _ _ h => h) (Or.inl ⟨by rfl, ?_⟩) ?_ ?_; rotate_left
                           ·intro w'; go_simp; with_reducible rfl
                           rotate_left
                           ·simp only [Act.put, Xj, Xk, Xl, i64_w, i32_w]; rfl
                           refine pure_ (i := 1) (N := some 104) (v := ?_) (a' := ?_) (Bq 35 3) rfl rfl (any_of HT_.out (by kernel_rfl)) (fun _ _ _ h => h) (Or.inl ⟨by rfl, ?_⟩) ?_ ?_; rotate_left
                           ·intro w'; go_simp; with_reducible rfl
                           rotate_left
                           ·simp only [Act.put, Xj, Xk, Xl, i64_w, i32_w]; rfl
                           refine pure_ (i := 2) (N := some 105) (v := ?_) (a' := ?_) (Bq 35 7) rfl rfl (any_of HT_.out (by kernel_rfl)) (fun _ _ _ h => h) (Or.inl ⟨by rfl, ?_⟩) ?_ ?_; rotate_left
                           ·intro w'; go_simp; with_reducible rfl
                           rotate_left
                           ·simp only [Act.put, Xj, Xk, Xl, i64_w, i32_w]; rfl
                           refine pure_ (i := 3) (N := some 106) (v := ?_) (a' := ?_) (Bq 35 15) rfl rfl (any_of HT_.out (by kernel_rfl)) (fun _ _ _ h => h) (Or.inl ⟨by rfl, ?_⟩) ?_ ?_; rotate_left
                           ·intro w'; go_simp; with_reducible rfl
                           rotate_left
                           ·simp only [Act.put, Xj, Xk, Xl, i64_w, i32_w]; rfl
                           refine pure_ (i := 4) (N := some 107) (v := ?_) (a' := ?_) (Bq 35 31) rfl rfl (any_of HT_.out (by kernel_rfl)) (fun _ _ _ h => h) (Or.inl ⟨by rfl, ?_⟩) ?_ ?_; rotate_left
                           ·intro w'; go_simp; with_reducible rfl
                           rotate_left
                           ·simp only [Act.put, Xj, Xk, Xl, i64_w, i32_w]; rfl
                           refine pure_ (i := 5) (N := some 108) (v := ?_) (a' := ?_) (Bq 35 63) rfl rfl (any_of HT_.out (by kernel_rfl)) (fun _ _ _ h => h) (Or.inl ⟨by rfl, ?_⟩) ?_ ?_; rotate_left
                           ·intro w'; go_simp; with_reducible rfl
                           rotate_left
                           ·simp only [Act.put, Xj, Xk, Xl, i64_w, i32_w]; rfl
                           refine pure_ (i := 6) (N := some 109) (v := ?_) (a' := ?_) (Bq 35 127) rfl rfl (any_of HT_.out (by kernel_rfl)) (fun _ _ _ h => h) (Or.inl ⟨by rfl, ?_⟩) ?_ ?_; rotate_left
                           ·intro w'; go_simp; with_reducible rfl
                           rotate_left
                           ·simp only [Act.put, Xj, Xk, Xl, i64_w, i32_w]; rfl
                           refine pure_ (i := 7) (N := some 110) (v := undef) (a' := ?_) (Bq 35 255) rfl rfl (any_of HT_.out (by kernel_rfl)) (fun _ _ _ h => h) (Or.inr ⟨by rfl, rfl⟩) ?_ ?_; rotate_left
                           ·simp only [Act.put, Xj, Xk, Xl, i64_w, i32_w]; rfl
                           refine pure_ (i := 8) (N := some 111) (v := undef) (a' := ?_) (Bq 35 511) rfl rfl (any_of HT_.out (by kernel_rfl)) (fun _ _ _ h => h) (Or.inr ⟨by rfl, rfl⟩) ?_ ?_; rotate_left
                           ·simp only [Act.put, Xj, Xk, Xl, i64_w, i32_w]; rfl
                           refine pure_ (i := 9) (N := some 112) (v := undef) (a' := ?_) (Bq 35 1023) rfl rfl (any_of HT_.out (by kernel_rfl)) (fun _ _ _ h => h) (Or.inr ⟨by rfl, rfl⟩) ?_ ?_; rotate_left
                           ·simp only [Act.put, Xj, Xk, Xl, i64_w, i32_w]; rfl
                           refine pure_ (i := 10) (N := some 113) (v := undef) (a' := ?_) (Bq 35 2047) rfl rfl (any_of HT_.out (by kernel_rfl)) (fun _ _ _ h => h) (Or.inr ⟨by rfl, rfl⟩) ?_ ?_; rotate_left
                           ·simp only [Act.put, Xj, Xk, Xl, i64_w, i32_w]; rfl
                           refine pure_ (i := 11) (N := some 114) (v := undef) (a' := ?_) (Bq 35 4095) rfl rfl (any_of HT_.out (by kernel_rfl)) (fun _ _ _ h => h) (Or.inr ⟨by rfl, rfl⟩) ?_ ?_; rotate_left
                           ·simp only [Act.put, Xj, Xk, Xl, i64_w, i32_w]; rfl
                           refine pure_ (i := 12) (N := some 115) (v := undef) (a' := ?_) (Bq 35 8191) rfl rfl (any_of HT_.out (by kernel_rfl)) (fun _ _ _ h => h) (Or.inr ⟨by rfl, rfl⟩) ?_ ?_; rotate_left
                           ·simp only [Act.put, Xj, Xk, Xl, i64_w, i32_w]; rfl
                           refine pure_ (i := 13) (N := some 116) (v := undef) (a' := ?_) (Bq 35 16383) rfl rfl (any_of HT_.out (by kernel_rfl)) (fun _ _ _ h => h) (Or.inr ⟨by rfl, rfl⟩) ?_ ?_; rotate_left
                           ·simp only [Act.put, Xj, Xk, Xl, i64_w, i32_w]; rfl
                           refine pure_ (i := 14) (N := some 117) (v := undef) (a' := ?_) (Bq 35 32767) rfl rfl (any_of HT_.out (by kernel_rfl)) (fun _ _ _ h => h) (Or.inr ⟨by rfl, rfl⟩) ?_ ?_; rotate_left
                           ·simp only [Act.put, Xj, Xk, Xl, i64_w, i32_w]; rfl
                           refine pure_ (i := 15) (N := some 118) (v := undef) (a' := ?_) (Bq 35 65535) rfl rfl (any_of HT_.out (by kernel_rfl)) (fun _ _ _ h => h) (Or.inr ⟨by rfl, rfl⟩) ?_ ?_; rotate_left
                           ·simp only [Act.put, Xj, Xk, Xl, i64_w, i32_w]; rfl
                           refine pure_ (i := 16) (N := some 119) (v := undef) (a' := ?_) (Bq 35 131071) rfl rfl (any_of HT_.out (by kernel_rfl)) (fun _ _ _ h => h) (Or.inr ⟨by rfl, rfl⟩) ?_ ?_; rotate_left
                           ·simp only [Act.put, Xj, Xk, Xl, i64_w, i32_w]; rfl
                           refine pure_ (i := 17) (N := some 120) (v := undef) (a' := ?_) (Bq 35 262143) rfl rfl (any_of HT_.out (by kernel_rfl)) (fun _ _ _ h => h) (Or.inr ⟨by rfl, rfl⟩) ?_ ?_; rotate_left
                           ·simp only [Act.put, Xj, Xk, Xl, i64_w, i32_w]; rfl
                           refine pure_ (i := 18) (N := some 121) (v := undef) (a' := ?_) (Bq 35 524287) rfl rfl (any_of HT_.out (by kernel_rfl)) (fun _ _ _ h => h) (Or.inr ⟨by rfl, rfl⟩) ?_ ?_; rotate_left
                           ·simp only [Act.put, Xj, Xk, Xl, i64_w, i32_w]; rfl
                           refine pure_ (i := 19) (N := some 122) (v := undef) (a' := ?_) (Bq 35 1048575) rfl rfl (any_of HT_.out (by kernel_rfl)) (fun _ _ _ h => h) (Or.inr ⟨by rfl, rfl⟩) ?_ ?_; rotate_left
                           ·simp only [Act.put, Xj, Xk, Xl, i64_w, i32_w]; rfl
                           refine pure_ (i := 20) (N := some 123) (v := undef) (a' := ?_) (Bq 35 2097151) rfl rfl (any_of HT_.out (by kernel_rfl)) (fun _ _ _ h => h) (Or.inr ⟨by rfl, rfl⟩) ?_ ?_; rotate_left
                           ·simp only [Act.put, Xj, Xk, Xl, i64_w, i32_w]; rfl
                           refine pure_ (i := 21) (N := some 124) (v := undef) (a' := ?_) (Bq 35 4194303) rfl rfl (any_of HT_.out (by kernel_rfl)) (fun _ _ _ h => h) (Or.inr ⟨by rfl, rfl⟩) ?_ ?_; rotate_left
                           ·simp only [Act.put, Xj, Xk, Xl, i64_w, i32_w]; rfl
                           refine pure_ (i := 22) (N := some 125) (v := undef) (a' := ?_) (Bq 35 8388607) rfl rfl (any_of HT_.out (by kernel_rfl)) (fun _ _ _ h => h) (Or.inr ⟨by rfl, rfl⟩) ?_ ?_; rotate_left
                           ·simp only [Act.put, Xj, Xk, Xl, i64_w, i32_w]; rfl
                           refine pure_ (i := 23) (N := some 126) (v := undef) (a' := ?_) (Bq 35 16777215) rfl rfl (any_of HT_.out (by kernel_rfl)) (fun _ _ _ h => h) (Or.inr ⟨by rfl, rfl⟩) ?_ ?_; rotate_left
                           ·simp only [Act.put, Xj, Xk, Xl, i64_w, i32_w]; rfl
                           refine pure_ (i := 24) (N := some 127) (v := undef) (a' := ?_) (Bq 35 33554431) rfl rfl (any_of HT_.out (by kernel_rfl)) (fun _ _ _ h => h) (Or.inr ⟨by rfl, rfl⟩) ?_ ?_; rotate_left
                           ·simp only [Act.put, Xj, Xk, Xl, i64_w, i32_w]; rfl
                           refine pure_ (i := 25) (N := some 128) (v := undef) (a' := ?_) (Bq 35 67108863) rfl rfl (any_of HT_.out (by kernel_rfl)) (fun _ _ _ h => h) (Or.inr ⟨by rfl, rfl⟩) ?_ ?_; rotate_left
                           ·simp only [Act.put, Xj, Xk, Xl, i64_w, i32_w]; rfl
                           refine pure_ (i := 26) (N := some 129) (v := undef) (a' := ?_) (Bq 35 134217727) rfl rfl (any_of HT_.out (by kernel_rfl)) (fun _ _ _ h => h) (Or.inr ⟨by rfl, rfl⟩) ?_ ?_; rotate_left
                           ·simp only [Act.put, Xj, Xk, Xl, i64_w, i32_w]; rfl
                           refine pure_ (i := 27) (N := some 130) (v := undef) (a' := ?_) (Bq 35 268435455) rfl rfl (any_of HT_.out (by kernel_rfl)) (fun _ _ _ h => h) (Or.inr ⟨by rfl, rfl⟩) ?_ ?_; rotate_left
                           ·simp only [Act.put, Xj, Xk, Xl, i64_w, i32_w]; rfl
                           refine pure_ (i := 28) (N := some 131) (v := undef) (a' := ?_) (Bq 35 536870911) rfl rfl (any_of HT_.out (by kernel_rfl)) (fun _ _ _ h => h) (Or.inr ⟨by rfl, rfl⟩) ?_ ?_; rotate_left
                           ·simp only [Act.put, Xj, Xk, Xl, i64_w, i32_w]; rfl
                           refine pure_ (i := 29) (N := some 132) (v := undef) (a' := ?_) (Bq 35 1073741823) rfl rfl (any_of HT_.out (by kernel_rfl)) (fun _ _ _ h => h) (Or.inr ⟨by rfl, rfl⟩) ?_ ?_; rotate_left
                           ·simp only [Act.put, Xj, Xk, Xl, i64_w, i32_w]; rfl
                           refine pure_ (i := 30) (N := some 133) (v := undef) (a' := ?_) (Bq 35 2147483647) rfl rfl (any_of HT_.out (by kernel_rfl)) (fun _ _ _ h => h) (Or.inr ⟨by rfl, rfl⟩) ?_ ?_; rotate_left
                           ·simp only [Act.put, Xj, Xk, Xl, i64_w, i32_w]; rfl
                           refine pure_ (i := 31) (N := some 134) (v := undef) (a' := ?_) (Bq 35 4294967295) rfl rfl (any_of HT_.out (by kernel_rfl)) (fun _ _ _ h => h) (Or.inr ⟨by rfl, rfl⟩) ?_ ?_; rotate_left
                           ·simp only [Act.put, Xj, Xk, Xl, i64_w, i32_w]; rfl
                           refine pure_ (i := 32) (N := some 135) (v := undef) (a' := ?_) (Bq 35 8589934591) rfl rfl (any_of HT_.out (by kernel_rfl)) (fun _ _ _ h => h) (Or.inr ⟨by rfl, rfl⟩) ?_ ?_; rotate_left
                           ·simp only [Act.put, Xj, Xk, Xl, i64_w, i32_w]; rfl
                           refine pure_ (i := 33) (N := some 136) (v := ?_) (a' := ?_) (Bq 35 17179869183) rfl rfl (any_of HT_.out (by kernel_rfl)) (fun _ _ _ h => h) (Or.inl ⟨by rfl, ?_⟩) ?_ ?_; rotate_left
                           ·intro w'; go_simp; with_reducible rfl
                           rotate_left
                           ·simp only [Act.put, Xj, Xk, Xl, i64_w, i32_w]; rfl
                           refine pure_ (i := 34) (N := some 61) (v := ?_) (a' := ?_) (Bq 35 34359738367) rfl rfl (any_of HT_.out (by kernel_rfl)) (fun _ _ _ h => h) (Or.inl ⟨by rfl, ?_⟩) ?_ ?_; rotate_left
                           ·intro w'; go_simp; with_reducible rfl
                           rotate_left
                           ·simp only [Act.put, Xj, Xk, Xl, i64_w, i32_w]; rfl
                           refine done_ (done_of HT_.out (by kernel_rfl)) ?_; try go_wp2
                           go_roundg kj36
                           case measure => have := HK1.out; have := HK2.out; have := HK3.out; have := HJ22.out; have := HJ26.out; have := HJ36.out; omega
                           case rel => exact ⟨(wrap64 (x56_3 + 1)), (by first | rfl | (simp; done) | (simp [*]; done)), H', ⟨by have := HK1.out; have := HK2.out; have := HK3.out; have := HJ22.out; have := HJ26.out; have := HJ36.out; omega⟩, ⟨by (with_reducible repeat (first | refine Xf ?_ _ | refine Xg ?_ | refine Xe ?_ _)); exact J101.out⟩, ⟨by repeat (first | (with_reducible first | exact HB.out | apply Xc | apply Xa | apply Xb | refine Xd ?_ E101.out) | exact HB.out)⟩⟩
                         ·rw [if_neg c45] at H; have c45b0 : decide (0 < x49_2) = false := decide_eq_false c45; clear c45; have H' := XB H; clear H; try go_wp2
                          have n0_ := XB (Xg J101.out); have n1_ := XB (Xb HB.out); clear J101; clear HB; have J101 := n0_; have HB := n1_; clear n0_ n1_; refine start_ (n := 35) (S := fun w' => True) (ds := []) #[false, false, false, false, false, false, false, false, false, false, false, false, false, false, false, false, false, false, false, false, false, false, false, false, false, false, false, false, false, false, false, false, false, false, false] (by kernel_rfl) rfl rfl trivial (fun hHeld => ?_); refine with_tabW log_CheckTable.tab21 log_CheckTable.bits21 (fun HT_ HW_ => ?_); generalize wc.drew = w62 at J101 HB hHeld ⊢
                          refine pure_ (i := 0) (N := some 103) (v := ?_) (a' := ?_) (Bq 35 1) rfl rfl (any_of HT_.out (by kernel_rfl)) (fun _ _ _ h => h) (Or.inl ⟨by rfl, ?_⟩) ?_ ?_; rotate_left
                          ·intro w'; go_simp; with_reducible rfl
                          rotate_left
                          ·simp only [Act.put, Xj, Xk, Xl, i64_w, i32_w]; rfl
                          refine pure_ (i := 1) (N := some 104) (v := ?_) (a' := ?_) (Bq 35 3) rfl rfl (any_of HT_.out (by kernel_rfl)) (fun _ _ _ h => h) (Or.inl ⟨by rfl, ?_⟩) ?_ ?_; rotate_left
                          ·intro w'; go_simp; with_reducible rfl
                          rotate_left
                          ·simp only [Act.put, Xj, Xk, Xl, i64_w, i32_w]; rfl
                          refine pure_ (i := 2) (N := some 105) (v := ?_) (a' := ?_) (Bq 35 7) rfl rfl (any_of HT_.out (by kernel_rfl)) (fun _ _ _ h => h) (Or.inl ⟨by rfl, ?_⟩) ?_ ?_; rotate_left
                          ·intro w'; go_simp; with_reducible rfl
                          rotate_left
                          ·simp only [Act.put, Xj, Xk, Xl, i64_w, i32_w]; rfl
                          refine pure_ (i := 3) (N := some 106) (v := undef) (a' := ?_) (Bq 35 15) rfl rfl (any_of HT_.out (by kernel_rfl)) (fun _ _ _ h => h) (Or.inr ⟨by rfl, rfl⟩) ?_ ?_; rotate_left
                          ·simp only [Act.put, Xj, Xk, Xl, i64_w, i32_w]; rfl
                          refine pure_ (i := 4) (N := some 107) (v := undef) (a' := ?_) (Bq 35 31) rfl rfl (any_of HT_.out (by kernel_rfl)) (fun _ _ _ h => h) (Or.inr ⟨by rfl, rfl⟩) ?_ ?_; rotate_left
                          ·simp only [Act.put, Xj, Xk, Xl, i64_w, i32_w]; rfl
                          refine pure_ (i := 5) (N := some 108) (v := ?_) (a' := ?_) (Bq 35 63) rfl rfl (any_of HT_.out (by kernel_rfl)) (fun _ _ _ h => h) (Or.inl ⟨by rfl, ?_⟩) ?_ ?_; rotate_left
                          ·intro w'; go_simp; with_reducible rfl
                          rotate_left
                          ·simp only [Act.put, Xj, Xk, Xl, i64_w, i32_w]; rfl
                          refine pure_ (i := 6) (N := some 109) (v := ?_) (a' := ?_) (Bq 35 127) rfl rfl (any_of HT_.out (by kernel_rfl)) (fun _ _ _ h => h) (Or.inl ⟨by rfl, ?_⟩) ?_ ?_; rotate_left
                          ·intro w'; go_simp; with_reducible rfl
                          rotate_left
                          ·simp only [Act.put, Xj, Xk, Xl, i64_w, i32_w]; rfl
                          refine pure_ (i := 7) (N := some 110) (v := undef) (a' := ?_) (Bq 35 255) rfl rfl (any_of HT_.out (by kernel_rfl)) (fun _ _ _ h => h) (Or.inr ⟨by rfl, rfl⟩) ?_ ?_; rotate_left
                          ·simp only [Act.put, Xj, Xk, Xl, i64_w, i32_w]; rfl
                          refine pure_ (i := 8) (N := some 111) (v := undef) (a' := ?_) (Bq 35 511) rfl rfl (any_of HT_.out (by kernel_rfl)) (fun _ _ _ h => h) (Or.inr ⟨by rfl, rfl⟩) ?_ ?_; rotate_left
                          ·simp only [Act.put, Xj, Xk, Xl, i64_w, i32_w]; rfl
                          refine pure_ (i := 9) (N := some 112) (v := undef) (a' := ?_) (Bq 35 1023) rfl rfl (any_of HT_.out (by kernel_rfl)) (fun _ _ _ h => h) (Or.inr ⟨by rfl, rfl⟩) ?_ ?_; rotate_left
                          ·simp only [Act.put, Xj, Xk, Xl, i64_w, i32_w]; rfl
                          refine pure_ (i := 10) (N := some 113) (v := undef) (a' := ?_) (Bq 35 2047) rfl rfl (any_of HT_.out (by kernel_rfl)) (fun _ _ _ h => h) (Or.inr ⟨by rfl, rfl⟩) ?_ ?_; rotate_left
                          ·simp only [Act.put, Xj, Xk, Xl, i64_w, i32_w]; rfl
                          refine pure_ (i := 11) (N := some 114) (v := undef) (a' := ?_) (Bq 35 4095) rfl rfl (any_of HT_.out (by kernel_rfl)) (fun _ _ _ h => h) (Or.inr ⟨by rfl, rfl⟩) ?_ ?_; rotate_left
                          ·simp only [Act.put, Xj, Xk, Xl, i64_w, i32_w]; rfl
                          refine pure_ (i := 12) (N := some 115) (v := undef) (a' := ?_) (Bq 35 8191) rfl rfl (any_of HT_.out (by kernel_rfl)) (fun _ _ _ h => h) (Or.inr ⟨by rfl, rfl⟩) ?_ ?_; rotate_left
                          ·simp only [Act.put, Xj, Xk, Xl, i64_w, i32_w]; rfl
                          refine pure_ (i := 13) (N := some 116) (v := undef) (a' := ?_) (Bq 35 16383) rfl rfl (any_of HT_.out (by kernel_rfl)) (fun _ _ _ h => h) (Or.inr ⟨by rfl, rfl⟩) ?_ ?_; rotate_left
                          ·simp only [Act.put, Xj, Xk, Xl, i64_w, i32_w]; rfl
                          refine pure_ (i := 14) (N := some 117) (v := undef) (a' := ?_) (Bq 35 32767) rfl rfl (any_of HT_.out (by kernel_rfl)) (fun _ _ _ h => h) (Or.inr ⟨by rfl, rfl⟩) ?_ ?_; rotate_left
                          ·simp only [Act.put, Xj, Xk, Xl, i64_w, i32_w]; rfl
                          refine pure_ (i := 15) (N := some 118) (v := undef) (a' := ?_) (Bq 35 65535) rfl rfl (any_of HT_.out (by kernel_rfl)) (fun _ _ _ h => h) (Or.inr ⟨by rfl, rfl⟩) ?_ ?_; rotate_left
                          ·simp only [Act.put, Xj, Xk, Xl, i64_w, i32_w]; rfl
                          refine pure_ (i := 16) (N := some 119) (v := undef) (a' := ?_) (Bq 35 131071) rfl rfl (any_of HT_.out (by kernel_rfl)) (fun _ _ _ h => h) (Or.inr ⟨by rfl, rfl⟩) ?_ ?_; rotate_left
                          ·simp only [Act.put, Xj, Xk, Xl, i64_w, i32_w]; rfl
                          refine pure_ (i := 17) (N := some 120) (v := undef) (a' := ?_) (Bq 35 262143) rfl rfl (any_of HT_.out (by kernel_rfl)) (fun _ _ _ h => h) (Or.inr ⟨by rfl, rfl⟩) ?_ ?_; rotate_left
                          ·simp only [Act.put, Xj, Xk, Xl, i64_w, i32_w]; rfl
                          refine pure_ (i := 18) (N := some 121) (v := undef) (a' := ?_) (Bq 35 524287) rfl rfl (any_of HT_.out (by kernel_rfl)) (fun _ _ _ h => h) (Or.inr ⟨by rfl, rfl⟩) ?_ ?_; rotate_left
                          ·simp only [Act.put, Xj, Xk, Xl, i64_w, i32_w]; rfl
                          refine pure_ (i := 19) (N := some 122) (v := undef) (a' := ?_) (Bq 35 1048575) rfl rfl (any_of HT_.out (by kernel_rfl)) (fun _ _ _ h => h) (Or.inr ⟨by rfl, rfl⟩) ?_ ?_; rotate_left
                          ·simp only [Act.put, Xj, Xk, Xl, i64_w, i32_w]; rfl
                          refine pure_ (i := 20) (N := some 123) (v := undef) (a' := ?_) (Bq 35 2097151) rfl rfl (any_of HT_.out (by kernel_rfl)) (fun _ _ _ h => h) (Or.inr ⟨by rfl, rfl⟩) ?_ ?_; rotate_left
                          ·simp only [Act.put, Xj, Xk, Xl, i64_w, i32_w]; rfl
                          refine pure_ (i := 21) (N := some 124) (v := undef) (a' := ?_) (Bq 35 4194303) rfl rfl (any_of HT_.out (by kernel_rfl)) (fun _ _ _ h => h) (Or.inr ⟨by rfl, rfl⟩) ?_ ?_; rotate_left
                          ·simp only [Act.put, Xj, Xk, Xl, i64_w, i32_w]; rfl
                          refine pure_ (i := 22) (N := some 125) (v := undef) (a' := ?_) (Bq 35 8388607) rfl rfl (any_of HT_.out (by kernel_rfl)) (fun _ _ _ h => h) (Or.inr ⟨by rfl, rfl⟩) ?_ ?_; rotate_left
                          ·simp only [Act.put, Xj, Xk, Xl, i64_w, i32_w]; rfl
                          refine pure_ (i := 23) (N := some 126) (v := undef) (a' := ?_) (Bq 35 16777215) rfl rfl (any_of HT_.out (by kernel_rfl)) (fun _ _ _ h => h) (Or.inr ⟨by rfl, rfl⟩) ?_ ?_; rotate_left
                          ·simp only [Act.put, Xj, Xk, Xl, i64_w, i32_w]; rfl
                          refine pure_ (i := 24) (N := some 127) (v := undef) (a' := ?_) (Bq 35 33554431) rfl rfl (any_of HT_.out (by kernel_rfl)) (fun _ _ _ h => h) (Or.inr ⟨by rfl, rfl⟩) ?_ ?_; rotate_left
                          ·simp only [Act.put, Xj, Xk, Xl, i64_w, i32_w]; rfl
                          refine pure_ (i := 25) (N := some 128) (v := undef) (a' := ?_) (Bq 35 67108863) rfl rfl (any_of HT_.out (by kernel_rfl)) (fun _ _ _ h => h) (Or.inr ⟨by rfl, rfl⟩) ?_ ?_; rotate_left
                          ·simp only [Act.put, Xj, Xk, Xl, i64_w, i32_w]; rfl
                          refine pure_ (i := 26) (N := some 129) (v := undef) (a' := ?_) (Bq 35 134217727) rfl rfl (any_of HT_.out (by kernel_rfl)) (fun _ _ _ h => h) (Or.inr ⟨by rfl, rfl⟩) ?_ ?_; rotate_left
                          ·simp only [Act.put, Xj, Xk, Xl, i64_w, i32_w]; rfl
                          refine pure_ (i := 27) (N := some 130) (v := undef) (a' := ?_) (Bq 35 268435455) rfl rfl (any_of HT_.out (by kernel_rfl)) (fun _ _ _ h => h) (Or.inr ⟨by rfl, rfl⟩) ?_ ?_; rotate_left
                          ·simp only [Act.put, Xj, Xk, Xl, i64_w, i32_w]; rfl
                          refine pure_ (i := 28) (N := some 131) (v := undef) (a' := ?_) (Bq 35 536870911) rfl rfl (any_of HT_.out (by kernel_rfl)) (fun _ _ _ h => h) (Or.inr ⟨by rfl, rfl⟩) ?_ ?_; rotate_left
                          ·simp only [Act.put, Xj, Xk, Xl, i64_w, i32_w]; rfl
                          refine pure_ (i := 29) (N := some 132) (v := undef) (a' := ?_) (Bq 35 1073741823) rfl rfl (any_of HT_.out (by kernel_rfl)) (fun _ _ _ h => h) (Or.inr ⟨by rfl, rfl⟩) ?_ ?_; rotate_left
                          ·simp only [Act.put, Xj, Xk, Xl, i64_w, i32_w]; rfl
                          refine pure_ (i := 30) (N := some 133) (v := undef) (a' := ?_) (Bq 35 2147483647) rfl rfl (any_of HT_.out (by kernel_rfl)) (fun _ _ _ h => h) (Or.inr ⟨by rfl, rfl⟩) ?_ ?_; rotate_left
                          ·simp only [Act.put, Xj, Xk, Xl, i64_w, i32_w]; rfl
                          refine pure_ (i := 31) (N := some 134) (v := undef) (a' := ?_) (Bq 35 4294967295) rfl rfl (any_of HT_.out (by kernel_rfl)) (fun _ _ _ h => h) (Or.inr ⟨by rfl, rfl⟩) ?_ ?_; rotate_left
                          ·simp only [Act.put, Xj, Xk, Xl, i64_w, i32_w]; rfl
                          refine pure_ (i := 32) (N := some 135) (v := undef) (a' := ?_) (Bq 35 8589934591) rfl rfl (any_of HT_.out (by kernel_rfl)) (fun _ _ _ h => h) (Or.inr ⟨by rfl, rfl⟩) ?_ ?_; rotate_left
                          ·simp only [Act.put, Xj, Xk, Xl, i64_w, i32_w]; rfl
                          refine pure_ (i := 33) (N := some 136) (v := ?_) (a' := ?_) (Bq 35 17179869183) rfl rfl (any_of HT_.out (by kernel_rfl)) (fun _ _ _ h => h) (Or.inl ⟨by rfl, ?_⟩) ?_ ?_; rotate_left
                          ·intro w'; go_simp; with_reducible rfl
                          rotate_left
                          ·simp only [Act.put, Xj, Xk, Xl, i64_w, i32_w]; rfl
                          refine pure_ (i := 34) (N := some 61) (v := ?_) (a' := ?_) (Bq 35 34359738367) rfl rfl (any_of HT_.out (by kernel_rfl)) (fun _ _ _ h => h) (Or.inl ⟨by rfl, ?_⟩) ?_ ?_; rotate_left
                          ·intro w'; go_simp; with_reducible rfl
                          rotate_left
                          ·simp only [Act.put, Xj, Xk, Xl, i64_w, i32_w]; rfl
                          refine done_ (done_of HT_.out (by kernel_rfl)) ?_; try go_wp2
                          go_roundg kj36
                          case measure => have := HK1.out; have := HK2.out; have := HK3.out; have := HJ22.out; have := HJ26.out; have := HJ36.out; omega
                          case rel => exact ⟨(wrap64 (x56_3 + 1)), (by first | rfl | (simp; done) | (simp [*]; done)), H', ⟨by have := HK1.out; have := HK2.out; have := HK3.out; have := HJ22.out; have := HJ26.out; have := HJ36.out; omega⟩, ⟨by (with_reducible repeat (first | refine Xf ?_ _ | refine Xg ?_ | refine Xe ?_ _)); exact J101.out⟩, ⟨by repeat (first | (with_reducible first | exact HB.out | apply Xc | apply Xa | apply Xb | refine Xd ?_ E101.out) | exact HB.out)⟩⟩
               ·rw [if_neg c22] at H; exact absurd H (by simp)
              ·rw [if_neg c21] at H; exact absurd H (by simp)
             ·rw [if_neg c20] at H; have c20b0 : decide (x56_3 < ((rd_L1 l3 x49_2).length : Int)) = false := decide_eq_false c20; clear c20; have H' := XB H; clear H; go_wp2
              go_roundg k3
              case measure => have := HK1.out; have := HK2.out; have := HK3.out; omega
              case rel => exact ⟨(wrap64 (x49_2 + 1)), (by first | rfl | (simp; done) | (simp [*]; done)), H', ⟨by have := HK1.out; have := HK2.out; have := HK3.out; omega⟩, ⟨by (with_reducible repeat (first | refine Xf ?_ _ | refine Xg ?_ | refine Xe ?_ _)); exact J101.out⟩, ⟨by repeat (first | (with_reducible first | exact HB.out | apply Xc | apply Xa | apply Xb | refine Xd ?_ E101.out) | exact HB.out)⟩⟩
          ·rw [if_neg c19] at H; exact absurd H (by simp)
         ·rw [if_neg c18] at H; exact absurd H (by simp)
        ·rw [if_neg c17] at H; have c17b0 : decide (x49_2 < (l3.length : Int)) = false := decide_eq_false c17; clear c17; by_cases c63 : 0 ≤ (l0.length : Int)
         ·rw [if_pos c63] at H; have c63b0 : decide (0 ≤ (l0.length : Int)) = true := decide_eq_true c63; have c63b1 : decide (0 ≤ l0.length) = true := decide_eq_true (by omega); clear c63; by_cases c64 : (l0.length : Int) < (l3.length : Int)
          ·rw [if_pos c64] at H; have c64b0 : decide ((l0.length : Int) < (l3.length : Int)) = true := decide_eq_true c64; have c64b1 : decide (l0.length < l3.length) = true := decide_eq_true (Int.ofNat_lt.mp c64); clear c64; by_cases c65 : 0 ≤ (l1.length : Int)
           ·rw [if_pos c65] at H; have c65b0 : decide (0 ≤ (l1.length : Int)) = true := decide_eq_true c65; have c65b1 : decide (0 ≤ l1.length) = true := decide_eq_true (by omega); clear c65; by_cases c66 : (l1.length : Int) < ((rd_L1 l3 (l0.length : Int)).length : Int)
            ·rw [if_pos c66] at H; have c66b0 : decide ((l1.length : Int) < ((rd_L1 l3 (l0.length : Int)).length : Int)) = true := decide_eq_true c66; have c66b1 : decide (l1.length < (rd_L1 l3 (l0.length : Int)).length) = true := decide_eq_true (Int.ofNat_lt.mp c66); clear c66; simp only [Option.some.injEq, Prod.mk.injEq] at H; obtain ⟨rfl, rfl⟩ := H; have p105 : 0 ≤ ((l0.length : Int) : Int) := of_decide_eq_true (by first | (with_reducible assumption) | assumption); have q105 : (l0.length : Int) < (l3.length : Int) := of_decide_eq_true (by first | (with_reducible assumption) | assumption); obtain ⟨ad105, A105_0, c105_0, e105, hx105_0, hl105_0, hi105_0⟩ := at_L1 HR3.out (l0.length : Int) p105 q105
             cases e105
             replace hx105_0 := (HB.out.cell (World.block_lt_of_cell? w _ hx105_0)).trans hx105_0; have HR105_0 := XB hi105_0; have HC105_0 := XB hl105_0; clear hi105_0 hl105_0; (try simp only [Go.IntWalk.toNatUp] at hx105_0)
             replace p105 := eq_true p105; replace q105 := eq_true q105; have p106 : 0 ≤ ((l1.length : Int) : Int) := of_decide_eq_true (by first | (with_reducible assumption) | assumption); have q106 : (l1.length : Int) < ((rd_L1 l3 (l0.length : Int)).length : Int) := of_decide_eq_true (by first | (with_reducible assumption) | assumption); obtain ⟨ad106, e106, hx106_0⟩ := Kd.at_int HR105_0.out (l1.length : Int) p106 q106
             cases e106
             replace hx106_0 := (HB.out.cell (World.block_lt_of_cell? w _ hx106_0)).trans hx106_0; (try simp only [Go.IntWalk.toNatUp] at hx106_0)
             replace p106 := eq_true p106; replace q106 := eq_true q106; go_wp2
             go_ret2
             exact ⟨by first | rfl | (simp [errW_none, errW_some] <;> rfl) | (simp [*, errW_none, errW_some] <;> rfl), by repeat (first | (with_reducible first | exact HB.out | apply Xc | apply Xa | apply Xb | refine Xd ?_ E101.out) | exact HB.out)⟩
            ·rw [if_neg c66] at H; exact absurd H (by simp)
           ·rw [if_neg c65] at H; exact absurd H (by simp)
          ·rw [if_neg c64] at H; exact absurd H (by simp)
         ·rw [if_neg c63] at H; exact absurd H (by simp)
  ·rw [if_neg c7] at H; have c7b0 : ((l3.length : Int) == (wrap64 ((l0.length : Int) + 1))) = false := beq_eq_false_iff_ne.mpr c7; have c7b1 : ((l3.length : Int) != (wrap64 ((l0.length : Int) + 1))) = true := bne_iff_ne.mpr c7; simp only [Option.some.injEq, Prod.mk.injEq] at H; obtain ⟨rfl, rfl⟩ := H; go_enter Try.func37, Try.ntmps37
   go_wp2_with (first | ((with_reducible refine gate_dst (N := 6) rfl ?_); refine box_event ?hg (N := 6) ?hd (cs := #[.int .i64 a2_0, .int .i64 a2_1, .int .i64 a2_2]) (t := 24) ?hr ?_; (case hd => rfl); (case hg => rfl); (case hr => first | (go_simp; done) | (go_simp; rfl)); intro gb101 hg w67 hbox hb; have n0_ := XB (Xz (by repeat (first | (with_reducible first | exact HB.out | apply Xc | apply Xa | apply Xb) | exact HB.out)) hb); have n1_ := XB (hbox); have n2_ := XB ((by rw [hg]; exact (XC (by repeat (first | (with_reducible first | exact HB.out | apply Xc | apply Xa | apply Xb) | exact HB.out))) : w.heap.size ≤ gb101)); have n3_ := XB ((by rw [hg]; exact (XC (by repeat (first | (with_reducible first | exact HB.out | apply Xc | apply Xa | apply Xb) | exact HB.out))) : w.heap.size ≤ gb101)); clear HB; have HB := n0_; have J101 := n1_; have GW101 := n2_; have E101 := n3_; clear n0_ n1_ n2_ n3_; clear hb hbox hg; have hcz68_0 : w67.cell? ⟨gb101, 0, none⟩ = some (.int .i64 a2_0) := (Xi J101.out 0).trans rfl; have hcz68_1 : w67.cell? ⟨gb101, 1, none⟩ = some (.int .i64 a2_1) := (Xi J101.out 1).trans rfl; have hcz68_2 : w67.cell? ⟨gb101, 2, none⟩ = some (.int .i64 a2_2) := (Xi J101.out 2).trans rfl; have hfz68_0 := Xh J101.out 0; have hfz68_1 := Xh J101.out 1; have hfz68_2 := Xh J101.out 2) | ((with_reducible refine gate_callee (f := 55) rfl ?_); refine goesL_ (some 20) rfl rfl Try.func55 (by kernel_rfl) rfl #[.slice A0 l0.length c0, .slice A1 l1.length c1, .agg #[.int .i64 a2_0, .int .i64 a2_1, .int .i64 a2_2]] rfl (by (try simp only [Xm, Xn, Xo]); first | done | rfl | (simp only [Xp, Xq]; rfl)) ?_; (with_reducible refine (log_check.calls k _ _ l0 _ _ l1 a2_0 a2_1 a2_2 t102 _ ?side1 ?side2 ?side3 ?side4 A5.out).mono ?_); (case side1 => repeat (first | exact (Xu HR0.out HB.out) | (with_reducible refine Xr ?_ _) | (with_reducible refine Xs ?_ _) | (with_reducible refine Xt ?_))); (case side2 => exact HC0.out); (case side3 => repeat (first | exact (Xu HR1.out HB.out) | (with_reducible refine Xr ?_ _) | (with_reducible refine Xs ?_ _) | (with_reducible refine Xt ?_))); (case side4 => exact HC1.out); rintro e w69 ⟨rfl, hb⟩; refine ⟨_, rfl, ?_⟩; have n0_ := XB (XA (g := gb101) (o := .cells #[.int .i64 a2_0, .int .i64 a2_1, .int .i64 a2_2] 24 (0, 0)) (by (with_reducible repeat (first | refine Xf ?_ _ | refine Xg ?_ | refine Xe ?_ _)); exact J101.out) hb); have n1_ := XB (Xz (by repeat (first | (with_reducible first | exact HB.out | apply Xc | apply Xa | apply Xb | refine Xd ?_ E101.out) | exact HB.out)) hb); clear J101; clear HB; have J101 := n0_; have HB := n1_; clear n0_ n1_; (try clear hb); (try clear hb2); (try clear hk); (try clear hi)))
   go_ret2
   exact ⟨by first | rfl | (simp [errW_none, errW_some] <;> rfl) | (simp [*, errW_none, errW_some] <;> rfl), by repeat (first | (with_reducible first | exact HB.out | apply Xc | apply Xa | apply Xb | refine Xd ?_ E101.out) | exact HB.out)⟩
 ·rw [if_neg c6] at H; have c6b0 : (t102 == 0) = false := beq_eq_false_iff_ne.mpr c6; have c6b1 : (t102 != 0) = true := bne_iff_ne.mpr c6; simp only [Option.some.injEq, Prod.mk.injEq] at H; obtain ⟨rfl, rfl⟩ := H; go_enter Try.func37, Try.ntmps37
  go_wp2_with (first | ((with_reducible refine gate_dst (N := 6) rfl ?_); refine box_event ?hg (N := 6) ?hd (cs := #[.int .i64 a2_0, .int .i64 a2_1, .int .i64 a2_2]) (t := 24) ?hr ?_; (case hd => rfl); (case hg => rfl); (case hr => first | (go_simp; done) | (go_simp; rfl)); intro gb101 hg w70 hbox hb; have n0_ := XB (Xz (by repeat (first | (with_reducible first | exact HB.out | apply Xc | apply Xa | apply Xb) | exact HB.out)) hb); have n1_ := XB (hbox); have n2_ := XB ((by rw [hg]; exact (XC (by repeat (first | (with_reducible first | exact HB.out | apply Xc | apply Xa | apply Xb) | exact HB.out))) : w.heap.size ≤ gb101)); have n3_ := XB ((by rw [hg]; exact (XC (by repeat (first | (with_reducible first | exact HB.out | apply Xc | apply Xa | apply Xb) | exact HB.out))) : w.heap.size ≤ gb101)); clear HB; have HB := n0_; have J101 := n1_; have GW101 := n2_; have E101 := n3_; clear n0_ n1_ n2_ n3_; clear hb hbox hg; have hcz71_0 : w70.cell? ⟨gb101, 0, none⟩ = some (.int .i64 a2_0) := (Xi J101.out 0).trans rfl; have hcz71_1 : w70.cell? ⟨gb101, 1, none⟩ = some (.int .i64 a2_1) := (Xi J101.out 1).trans rfl; have hcz71_2 : w70.cell? ⟨gb101, 2, none⟩ = some (.int .i64 a2_2) := (Xi J101.out 2).trans rfl; have hfz71_0 := Xh J101.out 0; have hfz71_1 := Xh J101.out 1; have hfz71_2 := Xh J101.out 2) | ((with_reducible refine gate_callee (f := 55) rfl ?_); refine goesL_ (some 20) rfl rfl Try.func55 (by kernel_rfl) rfl #[.slice A0 l0.length c0, .slice A1 l1.length c1, .agg #[.int .i64 a2_0, .int .i64 a2_1, .int .i64 a2_2]] rfl (by (try simp only [Xm, Xn, Xo]); first | done | rfl | (simp only [Xp, Xq]; rfl)) ?_; (with_reducible refine (log_check.calls k _ _ l0 _ _ l1 a2_0 a2_1 a2_2 t102 _ ?side1 ?side2 ?side3 ?side4 A5.out).mono ?_); (case side1 => repeat (first | exact (Xu HR0.out HB.out) | (with_reducible refine Xr ?_ _) | (with_reducible refine Xs ?_ _) | (with_reducible refine Xt ?_))); (case side2 => exact HC0.out); (case side3 => repeat (first | exact (Xu HR1.out HB.out) | (with_reducible refine Xr ?_ _) | (with_reducible refine Xs ?_ _) | (with_reducible refine Xt ?_))); (case side4 => exact HC1.out); rintro e w72 ⟨rfl, hb⟩; refine ⟨_, rfl, ?_⟩; have n0_ := XB (XA (g := gb101) (o := .cells #[.int .i64 a2_0, .int .i64 a2_1, .int .i64 a2_2] 24 (0, 0)) (by (with_reducible repeat (first | refine Xf ?_ _ | refine Xg ?_ | refine Xe ?_ _)); exact J101.out) hb); have n1_ := XB (Xz (by repeat (first | (with_reducible first | exact HB.out | apply Xc | apply Xa | apply Xb | refine Xd ?_ E101.out) | exact HB.out)) hb); clear J101; clear HB; have J101 := n0_; have HB := n1_; clear n0_ n1_; (try clear hb); (try clear hb2); (try clear hk); (try clear hi)))
  go_ret2
  exact ⟨by first | rfl | (simp [errW_none, errW_some] <;> rfl) | (simp [*, errW_none, errW_some] <;> rfl), by repeat (first | (with_reducible first | exact HB.out | apply Xc | apply Xa | apply Xb | refine Xd ?_ E101.out) | exact HB.out)⟩

end Go.Proofs.Ytcbepmdnhjojdaa.P
