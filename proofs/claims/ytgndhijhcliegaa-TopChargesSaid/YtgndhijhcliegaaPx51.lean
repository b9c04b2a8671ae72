-- laid by a program of this session (wip/tools): plain functions of the Go code and their contracts
-- thinned
import Derived.Test.YtgndhijhcliegaaPx0
import Derived.Test.YtgndhijhcliegaaPx1
import Derived.Test.YtgndhijhcliegaaPx14
import Derived.Test.YtgndhijhcliegaaPx16
import Derived.Test.YtgndhijhcliegaaPx21
import Derived.Test.YtgndhijhcliegaaPx22
import Derived.Test.YtgndhijhcliegaaPx24
import Derived.Test.YtgndhijhcliegaaPx27
import Derived.Test.YtgndhijhcliegaaPx28
import Derived.Test.YtgndhijhcliegaaPx29
import Derived.Test.YtgndhijhcliegaaPx31
namespace Go.Proofs.Ytgndhijhcliegaa.P
open Go.RowKit Go.Proofs.YtgndhijhcliegaaW.PrintWords Go.Proofs.YtgndhijhcliegaaW.PrintLast Go.Proofs.YtgndhijhcliegaaW.PrintMore
attribute [local go_sem] max2_int min2_int max_two min_two max_three min_three max_four min_four   -- for this text's walks alone
set_option linter.unusedVariables false
set_option linter.unusedSimpArgs false

/-! ### diaphonetop_TopCharges: function 18 -/
mutual
def diaphonetop_TopCharges.j0 : Nat → List Int → Int → Int → Bool → Option (Bool)
 | 0, _, _, _, _ => none
 | k + 1, x0, x1, x2, x41 => if x41 = true then (none) else ((diaphonelaw07_Long.f k (([x0] : List (List Int)))).bind fun t109 => (if t109 = true then (some true) else ((charge_Can.f k x0 x1).bind fun bt110 => (if bt110.2 = 0 then ((charge_Fire.f k x0 x1).bind fun bt115 => ((charge_Fewest.f k x0 x1).bind fun bt120 => (if bt115.2.2 = 0 then (if bt120.2.2 = 0 then (if (bt115.2.1 != bt110.1) = true then (none) else (diaphonetop_TopCharges.j1 k x0 x1 x2 bt110.1 bt115.1 bt120.1 (bt120.2.1 != bt110.1))) else (none)) else (none)))) else ((charge_Fewest.f k x0 x1).bind fun bt112 => (if bt112.2.2 = bt110.2 then (some (!bt110.1)) else (none)))))))
def diaphonetop_TopCharges.j1 : Nat → List Int → Int → Int → Bool → List Int → Int → Bool → Option (Bool)
 | 0, _, _, _, _, _, _, _ => none
 | k + 1, x0, x1, x2, x9, x13, x15, x96 => if x96 = true then (none) else (if x9 = true then ((charge_CheckCounts.f k x0 x13).bind fun bt123 => (diaphonetop_TopCharges.l0 k x0 x1 x2 x9 x13 x15 bt123.1 bt123.2 0 0)) else (diaphonetop_TopCharges.j3 k x0 x1 x2 x9))
def diaphonetop_TopCharges.j3 : Nat → List Int → Int → Int → Bool → Option (Bool)
 | 0, _, _, _, _ => none
 | k + 1, x0, x1, x2, x9 => (charge_Residues.f k x0).bind fun bt126 => (if bt126.2 = 0 then (if 0 < (x0.length : Int) then (diaphonetop_TopCharges.j4 k x0 x1 x2 x9 bt126.1 ((bt126.1.length : Int) != (rd x0 0))) else (none)) else (none))
def diaphonetop_TopCharges.j4 : Nat → List Int → Int → Int → Bool → List Int → Bool → Option (Bool)
 | 0, _, _, _, _, _, _ => none
 | k + 1, x0, x1, x2, x9, x22, x142 => if x142 = true then (none) else (if 0 < (x0.length : Int) then (if (rd x0 0) = 0 then (none) else (if 0 ≤ (Int.tmod x1 (rd x0 0)) then (if (Int.tmod x1 (rd x0 0)) < (x22.length : Int) then (if (rd x22 (Int.tmod x1 (rd x0 0))) ≥ 0 then (diaphonetop_TopCharges.j5 k x0 x1 x2 x9 (x9 != (decide (x1 ≥ (rd x22 (Int.tmod x1 (rd x0 0))))))) else (diaphonetop_TopCharges.j5 k x0 x1 x2 x9 (x9 != false))) else (none)) else (none))) else (none))
def diaphonetop_TopCharges.j5 : Nat → List Int → Int → Int → Bool → Bool → Option (Bool)
 | 0, _, _, _, _, _ => none
 | k + 1, x0, x1, x2, x9, x159 => if x159 = true then (none) else ((charge_Gaps.f k x0).bind fun bt133 => (if bt133.2 = 0 then ((diaphoneref07_Has.f k bt133.1 x1).bind fun t137 => (diaphonetop_TopCharges.j6 k x0 x1 x2 x9 (x9 == t137))) else (diaphonetop_TopCharges.j6 k x0 x1 x2 x9 false)))
def diaphonetop_TopCharges.j6 : Nat → List Int → Int → Int → Bool → Bool → Option (Bool)
 | 0, _, _, _, _, _ => none
 | k + 1, x0, x1, x2, x9, x173 => if x173 = true then (none) else ((charge_Ways.f k x0 x1).bind fun bt138 => (if bt138.2 = 0 then (diaphonetop_TopCharges.j7 k x0 x1 x2 x9 (x9 != (decide (bt138.1 > 0)))) else (diaphonetop_TopCharges.j7 k x0 x1 x2 x9 false)))
def diaphonetop_TopCharges.j7 : Nat → List Int → Int → Int → Bool → Bool → Option (Bool)
 | 0, _, _, _, _, _ => none
 | k + 1, x0, x1, x2, x9, x187 => if x187 = true then (none) else ((charge_Reduce.f k x0).bind fun bt140 => (if bt140.2 = 0 then ((charge_Can.f k bt140.1 x1).bind fun bt144 => (if bt144.2 = 0 then (diaphonetop_TopCharges.j8 k x0 x2 (bt144.1 != x9)) else (none))) else (none)))
def diaphonetop_TopCharges.j8 : Nat → List Int → Int → Bool → Option (Bool)
 | 0, _, _, _ => none
 | k + 1, x0, x2, x207 => if x207 = true then (none) else ((charge_With.f k x0 x2).bind fun bt146 => (if bt146.2 = 0 then ((charge_Same.f k x0 bt146.1).bind fun bt150 => ((charge_Can.f k x0 x2).bind fun bt152 => (if bt150.2 = 0 then (if bt152.2 = 0 then (some (bt150.1 == bt152.1)) else (none)) else (none)))) else (some ((bt146.1.length : Int) == 0))))
def diaphonetop_TopCharges.l0 : Nat → List Int → Int → Int → Bool → List Int → Int → Int → Int → Int → Int → Option (Bool)
 | 0, _, _, _, _, _, _, _, _, _, _ => none
 | k + 1, x0, x1, x2, x9, x13, x15, x18, x19, x20, x21 => if x21 < (x13.length : Int) then (if 0 ≤ x21 then (diaphonetop_TopCharges.l0 k x0 x1 x2 x9 x13 x15 x18 x19 (wrap64 (x20 + (rd x13 x21))) (wrap64 (x21 + 1))) else (none)) else (if x19 = 0 then (if x18 = x1 then (if x20 = x15 then (diaphonetop_TopCharges.j3 k x0 x1 x2 x9) else (none)) else (none)) else (none))
end
def diaphonetop_TopCharges.f (k : Nat) (l0 : List Int) (a1 : Int) (a2 : Int) : Option (Bool) := (charge_Ways.f k (([2, 3] : List Int)) 6).bind fun bt104 => (if bt104.2 = 0 then (diaphonetop_TopCharges.j0 k l0 a1 a2 (bt104.1 != 2)) else (none))
theorem diaphonetop_TopCharges.mono_l : ∀ k, (∀ y0 y1 y2 y3, LeO (diaphonetop_TopCharges.j0 k y0 y1 y2 y3) (diaphonetop_TopCharges.j0 (k + 1) y0 y1 y2 y3)) ∧ (∀ y0 y1 y2 y3 y4 y5 y6, LeO (diaphonetop_TopCharges.j1 k y0 y1 y2 y3 y4 y5 y6) (diaphonetop_TopCharges.j1 (k + 1) y0 y1 y2 y3 y4 y5 y6)) ∧ (∀ y0 y1 y2 y3, LeO (diaphonetop_TopCharges.j3 k y0 y1 y2 y3) (diaphonetop_TopCharges.j3 (k + 1) y0 y1 y2 y3)) ∧ (∀ y0 y1 y2 y3 y4 y5, LeO (diaphonetop_TopCharges.j4 k y0 y1 y2 y3 y4 y5) (diaphonetop_TopCharges.j4 (k + 1) y0 y1 y2 y3 y4 y5)) ∧ (∀ y0 y1 y2 y3 y4, LeO (diaphonetop_TopCharges.j5 k y0 y1 y2 y3 y4) (diaphonetop_TopCharges.j5 (k + 1) y0 y1 y2 y3 y4)) ∧ (∀ y0 y1 y2 y3 y4, LeO (diaphonetop_TopCharges.j6 k y0 y1 y2 y3 y4) (diaphonetop_TopCharges.j6 (k + 1) y0 y1 y2 y3 y4)) ∧ (∀ y0 y1 y2 y3 y4, LeO (diaphonetop_TopCharges.j7 k y0 y1 y2 y3 y4) (diaphonetop_TopCharges.j7 (k + 1) y0 y1 y2 y3 y4)) ∧ (∀ y0 y1 y2, LeO (diaphonetop_TopCharges.j8 k y0 y1 y2) (diaphonetop_TopCharges.j8 (k + 1) y0 y1 y2)) ∧ (∀ y0 y1 y2 y3 y4 y5 y6 y7 y8 y9, LeO (diaphonetop_TopCharges.l0 k y0 y1 y2 y3 y4 y5 y6 y7 y8 y9) (diaphonetop_TopCharges.l0 (k + 1) y0 y1 y2 y3 y4 y5 y6 y7 y8 y9))
 | 0 => ⟨fun _ _ _ _ r h => by simp [diaphonetop_TopCharges.j0] at h, fun _ _ _ _ _ _ _ r h => by simp [diaphonetop_TopCharges.j1] at h, fun _ _ _ _ r h => by simp [diaphonetop_TopCharges.j3] at h, fun _ _ _ _ _ _ r h => by simp [diaphonetop_TopCharges.j4] at h, fun _ _ _ _ _ r h => by simp [diaphonetop_TopCharges.j5] at h, fun _ _ _ _ _ r h => by simp [diaphonetop_TopCharges.j6] at h, fun _ _ _ _ _ r h => by simp [diaphonetop_TopCharges.j7] at h, fun _ _ _ r h => by simp [diaphonetop_TopCharges.j8] at h, fun _ _ _ _ _ _ _ _ _ _ r h => by simp [diaphonetop_TopCharges.l0] at h⟩
 | k + 1 => by
  obtain ⟨ih0, ih1, ih2, ih3, ih4, ih5, ih6, ih7, ih8⟩ := diaphonetop_TopCharges.mono_l k; refine ⟨?_, ?_, ?_, ?_, ?_, ?_, ?_, ?_, ?_⟩
  ·intro y0 y1 y2 y3; unfold diaphonetop_TopCharges.j0; repeat' first
   | (with_reducible exact ih0 _ _ _ _)
   | (with_reducible exact ih1 _ _ _ _ _ _ _)
   | (with_reducible exact ih2 _ _ _ _)
   | (with_reducible exact ih3 _ _ _ _ _ _)
   | (with_reducible exact ih4 _ _ _ _ _)
   | (with_reducible exact ih5 _ _ _ _ _)
   | (with_reducible exact ih6 _ _ _ _ _)
   | (with_reducible exact ih7 _ _ _)
   | (with_reducible exact ih8 _ _ _ _ _ _ _ _ _ _)
   | (with_reducible exact charge_Can.mono _ _ _)
   | (with_reducible exact charge_CheckCounts.mono _ _ _)
   | (with_reducible exact charge_Fewest.mono _ _ _)
   | (with_reducible exact charge_Fire.mono _ _ _)
   | (with_reducible exact charge_Gaps.mono _ _)
   | (with_reducible exact charge_Reduce.mono _ _)
   | (with_reducible exact charge_Residues.mono _ _)
   | (with_reducible exact charge_Same.mono _ _ _)
   | (with_reducible exact charge_Ways.mono _ _ _)
   | (with_reducible exact charge_With.mono _ _ _)
   | (with_reducible exact diaphonelaw07_Long.mono _ _)
   | (with_reducible exact diaphoneref07_Has.mono _ _ _)
   | (with_reducible exact LeO.refl _)
   | (with_reducible exact LeO.none _)
   | (with_reducible refine LeO.ite ?_ ?_)
   | (with_reducible refine LeO.bind ?_ (fun _ => ?_))
   | exact ih0 _ _ _ _
   | exact ih1 _ _ _ _ _ _ _
   | exact ih2 _ _ _ _
   | exact ih3 _ _ _ _ _ _
   | exact ih4 _ _ _ _ _
   | exact ih5 _ _ _ _ _
   | exact ih6 _ _ _ _ _
   | exact ih7 _ _ _
   | exact ih8 _ _ _ _ _ _ _ _ _ _
   | exact charge_Can.mono _ _ _
   | exact charge_CheckCounts.mono _ _ _
   | exact charge_Fewest.mono _ _ _
   | exact charge_Fire.mono _ _ _
   | exact charge_Gaps.mono _ _
   | exact charge_Reduce.mono _ _
   | exact charge_Residues.mono _ _
   | exact charge_Same.mono _ _ _
   | exact charge_Ways.mono _ _ _
   | exact charge_With.mono _ _ _
   | exact diaphonelaw07_Long.mono _ _
   | exact diaphoneref07_Has.mono _ _ _
   | exact LeO.none _
   | refine LeO.ite ?_ ?_
   | refine LeO.bind ?_ (fun _ => ?_)
  ·intro y0 y1 y2 y3 y4 y5 y6; unfold diaphonetop_TopCharges.j1; repeat' first
   | (with_reducible exact ih0 _ _ _ _)
   | (with_reducible exact ih1 _ _ _ _ _ _ _)
   | (with_reducible exact ih2 _ _ _ _)
   | (with_reducible exact ih3 _ _ _ _ _ _)
   | (with_reducible exact ih4 _ _ _ _ _)
   | (with_reducible exact ih5 _ _ _ _ _)
   | (with_reducible exact ih6 _ _ _ _ _)
   | (with_reducible exact ih7 _ _ _)
   | (with_reducible exact ih8 _ _ _ _ _ _ _ _ _ _)
   | (with_reducible exact charge_Can.mono _ _ _)
   | (with_reducible exact charge_CheckCounts.mono _ _ _)
   | (with_reducible exact charge_Fewest.mono _ _ _)
   | (with_reducible exact charge_Fire.mono _ _ _)
   | (with_reducible exact charge_Gaps.mono _ _)
   | (with_reducible exact charge_Reduce.mono _ _)
   | (with_reducible exact charge_Residues.mono _ _)
   | (with_reducible exact charge_Same.mono _ _ _)
   | (with_reducible exact charge_Ways.mono _ _ _)
   | (with_reducible exact charge_With.mono _ _ _)
   | (with_reducible exact diaphonelaw07_Long.mono _ _)
   | (with_reducible exact diaphoneref07_Has.mono _ _ _)
   | (with_reducible exact LeO.refl _)
   | (with_reducible exact LeO.none _)
   | (with_reducible refine LeO.ite ?_ ?_)
   | (with_reducible refine LeO.bind ?_ (fun _ => ?_))
   | exact ih0 _ _ _ _
   | exact ih1 _ _ _ _ _ _ _
   | exact ih2 _ _ _ _
   | exact ih3 _ _ _ _ _ _
   | exact ih4 _ _ _ _ _
   | exact ih5 _ _ _ _ _
   | exact ih6 _ _ _ _ _
   | exact ih7 _ _ _
   | exact ih8 _ _ _ _ _ _ _ _ _ _
   | exact charge_Can.mono _ _ _
   | exact charge_CheckCounts.mono _ _ _
   | exact charge_Fewest.mono _ _ _
   | exact charge_Fire.mono _ _ _
   | exact charge_Gaps.mono _ _
   | exact charge_Reduce.mono _ _
   | exact charge_Residues.mono _ _
   | exact charge_Same.mono _ _ _
   | exact charge_Ways.mono _ _ _
   | exact charge_With.mono _ _ _
   | exact diaphonelaw07_Long.mono _ _
   | exact diaphoneref07_Has.mono _ _ _
   | exact LeO.none _
   | refine LeO.ite ?_ ?_
   | refine LeO.bind ?_ (fun _ => ?_)
  ·intro y0 y1 y2 y3; unfold diaphonetop_TopCharges.j3; repeat' first
   | (with_reducible exact ih0 _ _ _ _)
   | (with_reducible exact ih1 _ _ _ _ _ _ _)
   | (with_reducible exact ih2 _ _ _ _)
   | (with_reducible exact ih3 _ _ _ _ _ _)
   | (with_reducible exact ih4 _ _ _ _ _)
   | (with_reducible exact ih5 _ _ _ _ _)
   | (with_reducible exact ih6 _ _ _ _ _)
   | (with_reducible exact ih7 _ _ _)
   | (with_reducible exact ih8 _ _ _ _ _ _ _ _ _ _)
   | (with_reducible exact charge_Can.mono _ _ _)
   | (with_reducible exact charge_CheckCounts.mono _ _ _)
   | (with_reducible exact charge_Fewest.mono _ _ _)
   | (with_reducible exact charge_Fire.mono _ _ _)
   | (with_reducible exact charge_Gaps.mono _ _)
   | (with_reducible exact charge_Reduce.mono _ _)
   | (with_reducible exact charge_Residues.mono _ _)
   | (with_reducible exact charge_Same.mono _ _ _)
   | (with_reducible exact charge_Ways.mono _ _ _)
   | (with_reducible exact charge_With.mono _ _ _)
   | (with_reducible exact diaphonelaw07_Long.mono _ _)
   | (with_reducible exact diaphoneref07_Has.mono _ _ _)
   | (with_reducible exact LeO.refl _)
   | (with_reducible exact LeO.none _)
   | (with_reducible refine LeO.ite ?_ ?_)
   | (with_reducible refine LeO.bind ?_ (fun _ => ?_))
   | exact ih0 _ _ _ _
   | exact ih1 _ _ _ _ _ _ _
   | exact ih2 _ _ _ _
   | exact ih3 _ _ _ _ _ _
   | exact ih4 _ _ _ _ _
   | exact ih5 _ _ _ _ _
   | exact ih6 _ _ _ _ _
   | exact ih7 _ _ _
   | exact ih8 _ _ _ _ _ _ _ _ _ _
   | exact charge_Can.mono _ _ _
   | exact charge_CheckCounts.mono _ _ _
   | exact charge_Fewest.mono _ _ _
   | exact charge_Fire.mono _ _ _
   | exact charge_Gaps.mono _ _
   | exact charge_Reduce.mono _ _
   | exact charge_Residues.mono _ _
   | exact charge_Same.mono _ _ _
   | exact charge_Ways.mono _ _ _
   | exact charge_With.mono _ _ _
   | exact diaphonelaw07_Long.mono _ _
   | exact diaphoneref07_Has.mono _ _ _
   | exact LeO.none _
   | refine LeO.ite ?_ ?_
   | refine LeO.bind ?_ (fun _ => ?_)
  ·intro y0 y1 y2 y3 y4 y5; unfold diaphonetop_TopCharges.j4; repeat' first
   | (with_reducible exact ih0 _ _ _ _)
   | (with_reducible exact ih1 _ _ _ _ _ _ _)
   | (with_reducible exact ih2 _ _ _ _)
   | (with_reducible exact ih3 _ _ _ _ _ _)
   | (with_reducible exact ih4 _ _ _ _ _)
   | (with_reducible exact ih5 _ _ _ _ _)
   | (with_reducible exact ih6 _ _ _ _ _)
   | (with_reducible exact ih7 _ _ _)
   | (with_reducible exact ih8 _ _ _ _ _ _ _ _ _ _)
   | (with_reducible exact charge_Can.mono _ _ _)
   | (with_reducible exact charge_CheckCounts.mono _ _ _)
   | (with_reducible exact charge_Fewest.mono _ _ _)
   | (with_reducible exact charge_Fire.mono _ _ _)
   | (with_reducible exact charge_Gaps.mono _ _)
   | (with_reducible exact charge_Reduce.mono _ _)
   | (with_reducible exact charge_Residues.mono _ _)
   | (with_reducible exact charge_Same.mono _ _ _)
   | (with_reducible exact charge_Ways.mono _ _ _)
   | (with_reducible exact charge_With.mono _ _ _)
   | (with_reducible exact diaphonelaw07_Long.mono _ _)
   | (with_reducible exact diaphoneref07_Has.mono _ _ _)
   | (with_reducible exact LeO.refl _)
   | (with_reducible exact LeO.none _)
   | (with_reducible refine LeO.ite ?_ ?_)
   | (with_reducible refine LeO.bind ?_ (fun _ => ?_))
   | exact ih0 _ _ _ _
   | exact ih1 _ _ _ _ _ _ _
   | exact ih2 _ _ _ _
   | exact ih3 _ _ _ _ _ _
   | exact ih4 _ _ _ _ _
   | exact ih5 _ _ _ _ _
   | exact ih6 _ _ _ _ _
   | exact ih7 _ _ _
   | exact ih8 _ _ _ _ _ _ _ _ _ _
   | exact charge_Can.mono _ _ _
   | exact charge_CheckCounts.mono _ _ _
   | exact charge_Fewest.mono _ _ _
   | exact charge_Fire.mono _ _ _
   | exact charge_Gaps.mono _ _
   | exact charge_Reduce.mono _ _
   | exact charge_Residues.mono _ _
   | exact charge_Same.mono _ _ _
   | exact charge_Ways.mono _ _ _
   | exact charge_With.mono _ _ _
   | exact diaphonelaw07_Long.mono _ _
   | exact diaphoneref07_Has.mono _ _ _
   | exact LeO.none _
   | refine LeO.ite ?_ ?_
   | refine LeO.bind ?_ (fun _ => ?_)
  ·intro y0 y1 y2 y3 y4; unfold diaphonetop_TopCharges.j5; repeat' first
   | (with_reducible exact ih0 _ _ _ _)
   | (with_reducible exact ih1 _ _ _ _ _ _ _)
   | (with_reducible exact ih2 _ _ _ _)
   | (with_reducible exact ih3 _ _ _ _ _ _)
   | (with_reducible exact ih4 _ _ _ _ _)
   | (with_reducible exact ih5 _ _ _ _ _)
   | (with_reducible exact ih6 _ _ _ _ _)
   | (with_reducible exact ih7 _ _ _)
   | (with_reducible exact ih8 _ _ _ _ _ _ _ _ _ _)
   | (with_reducible exact charge_Can.mono _ _ _)
   | (with_reducible exact charge_CheckCounts.mono _ _ _)
   | (with_reducible exact charge_Fewest.mono _ _ _)
   | (with_reducible exact charge_Fire.mono _ _ _)
   | (with_reducible exact charge_Gaps.mono _ _)
   | (with_reducible exact charge_Reduce.mono _ _)
   | (with_reducible exact charge_Residues.mono _ _)
   | (with_reducible exact charge_Same.mono _ _ _)
   | (with_reducible exact charge_Ways.mono _ _ _)
   | (with_reducible exact charge_With.mono _ _ _)
   | (with_reducible exact diaphonelaw07_Long.mono _ _)
   | (with_reducible exact diaphoneref07_Has.mono _ _ _)
   | (with_reducible exact LeO.refl _)
   | (with_reducible exact LeO.none _)
   | (with_reducible refine LeO.ite ?_ ?_)
   | (with_reducible refine LeO.bind ?_ (fun _ => ?_))
   | exact ih0 _ _ _ _
   | exact ih1 _ _ _ _ _ _ _
   | exact ih2 _ _ _ _
   | exact ih3 _ _ _ _ _ _
   | exact ih4 _ _ _ _ _
   | exact ih5 _ _ _ _ _
   | exact ih6 _ _ _ _ _
   | exact ih7 _ _ _
   | exact ih8 _ _ _ _ _ _ _ _ _ _
   | exact charge_Can.mono _ _ _
   | exact charge_CheckCounts.mono _ _ _
   | exact charge_Fewest.mono _ _ _
   | exact charge_Fire.mono _ _ _
   | exact charge_Gaps.mono _ _
   | exact charge_Reduce.mono _ _
   | exact charge_Residues.mono _ _
   | exact charge_Same.mono _ _ _
   | exact charge_Ways.mono _ _ _
   | exact charge_With.mono _ _ _
   | exact diaphonelaw07_Long.mono _ _
   | exact diaphoneref07_Has.mono _ _ _
   | exact LeO.none _
   | refine LeO.ite ?_ ?_
   | refine LeO.bind ?_ (fun _ => ?_)
  ·intro y0 y1 y2 y3 y4; unfold diaphonetop_TopCharges.j6; repeat' first
   | (with_reducible exact ih0 _ _ _ _)
   | (with_reducible exact ih1 _ _ _ _ _ _ _)
   | (with_reducible exact ih2 _ _ _ _)
   | (with_reducible exact ih3 _ _ _ _ _ _)
   | (with_reducible exact ih4 _ _ _ _ _)
   | (with_reducible exact ih5 _ _ _ _ _)
   | (with_reducible exact ih6 _ _ _ _ _)
   | (with_reducible exact ih7 _ _ _)
   | (with_reducible exact ih8 _ _ _ _ _ _ _ _ _ _)
   | (with_reducible exact charge_Can.mono _ _ _)
   | (with_reducible exact charge_CheckCounts.mono _ _ _)
   | (with_reducible exact charge_Fewest.mono _ _ _)
   | (with_reducible exact charge_Fire.mono _ _ _)
   | (with_reducible exact charge_Gaps.mono _ _)
   | (with_reducible exact charge_Reduce.mono _ _)
   | (with_reducible exact charge_Residues.mono _ _)
   | (with_reducible exact charge_Same.mono _ _ _)
   | (with_reducible exact charge_Ways.mono _ _ _)
   | (with_reducible exact charge_With.mono _ _ _)
   | (with_reducible exact diaphonelaw07_Long.mono _ _)
   | (with_reducible exact diaphoneref07_Has.mono _ _ _)
   | (with_reducible exact LeO.refl _)
   | (with_reducible exact LeO.none _)
   | (with_reducible refine LeO.ite ?_ ?_)
   | (with_reducible refine LeO.bind ?_ (fun _ => ?_))
   | exact ih0 _ _ _ _
   | exact ih1 _ _ _ _ _ _ _
   | exact ih2 _ _ _ _
   | exact ih3 _ _ _ _ _ _
   | exact ih4 _ _ _ _ _
   | exact ih5 _ _ _ _ _
   | exact ih6 _ _ _ _ _
   | exact ih7 _ _ _
   | exact ih8 _ _ _ _ _ _ _ _ _ _
   | exact charge_Can.mono _ _ _
   | exact charge_CheckCounts.mono _ _ _
   | exact charge_Fewest.mono _ _ _
   | exact charge_Fire.mono _ _ _
   | exact charge_Gaps.mono _ _
   | exact charge_Reduce.mono _ _
   | exact charge_Residues.mono _ _
   | exact charge_Same.mono _ _ _
   | exact charge_Ways.mono _ _ _
   | exact charge_With.mono _ _ _
   | exact diaphonelaw07_Long.mono _ _
   | exact diaphoneref07_Has.mono _ _ _
   | exact LeO.none _
   | refine LeO.ite ?_ ?_
   | refine LeO.bind ?_ (fun _ => ?_)
  ·intro y0 y1 y2 y3 y4; unfold diaphonetop_TopCharges.j7; repeat' first
   | (with_reducible exact ih0 _ _ _ _)
   | (with_reducible exact ih1 _ _ _ _ _ _ _)
   | (with_reducible exact ih2 _ _ _ _)
   | (with_reducible exact ih3 _ _ _ _ _ _)
   | (with_reducible exact ih4 _ _ _ _ _)
   | (with_reducible exact ih5 _ _ _ _ _)
   | (with_reducible exact ih6 _ _ _ _ _)
   | (with_reducible exact ih7 _ _ _)
   | (with_reducible exact ih8 _ _ _ _ _ _ _ _ _ _)
   | (with_reducible exact charge_Can.mono _ _ _)
   | (with_reducible exact charge_CheckCounts.mono _ _ _)
   | (with_reducible exact charge_Fewest.mono _ _ _)
   | (with_reducible exact charge_Fire.mono _ _ _)
   | (with_reducible exact charge_Gaps.mono _ _)
   | (with_reducible exact charge_Reduce.mono _ _)
   | (with_reducible exact charge_Residues.mono _ _)
   | (with_reducible exact charge_Same.mono _ _ _)
   | (with_reducible exact charge_Ways.mono _ _ _)
   | (with_reducible exact charge_With.mono _ _ _)
   | (with_reducible exact diaphonelaw07_Long.mono _ _)
   | (with_reducible exact diaphoneref07_Has.mono _ _ _)
   | (with_reducible exact LeO.refl _)
   | (with_reducible exact LeO.none _)
   | (with_reducible refine LeO.ite ?_ ?_)
   | (with_reducible refine LeO.bind ?_ (fun _ => ?_))
   | exact ih0 _ _ _ _
   | exact ih1 _ _ _ _ _ _ _
   | exact ih2 _ _ _ _
   | exact ih3 _ _ _ _ _ _
   | exact ih4 _ _ _ _ _
   | exact ih5 _ _ _ _ _
   | exact ih6 _ _ _ _ _
   | exact ih7 _ _ _
   | exact ih8 _ _ _ _ _ _ _ _ _ _
   | exact charge_Can.mono _ _ _
   | exact charge_CheckCounts.mono _ _ _
   | exact charge_Fewest.mono _ _ _
   | exact charge_Fire.mono _ _ _
   | exact charge_Gaps.mono _ _
   | exact charge_Reduce.mono _ _
   | exact charge_Residues.mono _ _
   | exact charge_Same.mono _ _ _
   | exact charge_Ways.mono _ _ _
   | exact charge_With.mono _ _ _
   | exact diaphonelaw07_Long.mono _ _
   | exact diaphoneref07_Has.mono _ _ _
   | exact LeO.none _
   | refine LeO.ite ?_ ?_
   | refine LeO.bind ?_ (fun _ => ?_)
  ·intro y0 y1 y2; unfold diaphonetop_TopCharges.j8; repeat' first
   | (with_reducible exact ih0 _ _ _ _)
   | (with_reducible exact ih1 _ _ _ _ _ _ _)
   | (with_reducible exact ih2 _ _ _ _)
   | (with_reducible exact ih3 _ _ _ _ _ _)
   | (with_reducible exact ih4 _ _ _ _ _)
   | (with_reducible exact ih5 _ _ _ _ _)
   | (with_reducible exact ih6 _ _ _ _ _)
   | (with_reducible exact ih7 _ _ _)
   | (with_reducible exact ih8 _ _ _ _ _ _ _ _ _ _)
   | (with_reducible exact charge_Can.mono _ _ _)
   | (with_reducible exact charge_CheckCounts.mono _ _ _)
   | (with_reducible exact charge_Fewest.mono _ _ _)
   | (with_reducible exact charge_Fire.mono _ _ _)
   | (with_reducible exact charge_Gaps.mono _ _)
   | (with_reducible exact charge_Reduce.mono _ _)
   | (with_reducible exact charge_Residues.mono _ _)
   | (with_reducible exact charge_Same.mono _ _ _)
   | (with_reducible exact charge_Ways.mono _ _ _)
   | (with_reducible exact charge_With.mono _ _ _)
   | (with_reducible exact diaphonelaw07_Long.mono _ _)
   | (with_reducible exact diaphoneref07_Has.mono _ _ _)
   | (with_reducible exact LeO.refl _)
   | (with_reducible exact LeO.none _)
   | (with_reducible refine LeO.ite ?_ ?_)
   | (with_reducible refine LeO.bind ?_ (fun _ => ?_))
   | exact ih0 _ _ _ _
   | exact ih1 _ _ _ _ _ _ _
   | exact ih2 _ _ _ _
   | exact ih3 _ _ _ _ _ _
   | exact ih4 _ _ _ _ _
   | exact ih5 _ _ _ _ _
   | exact ih6 _ _ _ _ _
   | exact ih7 _ _ _
   | exact ih8 _ _ _ _ _ _ _ _ _ _
   | exact charge_Can.mono _ _ _
   | exact charge_CheckCounts.mono _ _ _
   | exact charge_Fewest.mono _ _ _
   | exact charge_Fire.mono _ _ _
   | exact charge_Gaps.mono _ _
   | exact charge_Reduce.mono _ _
   | exact charge_Residues.mono _ _
   | exact charge_Same.mono _ _ _
   | exact charge_Ways.mono _ _ _
   | exact charge_With.mono _ _ _
   | exact diaphonelaw07_Long.mono _ _
   | exact diaphoneref07_Has.mono _ _ _
   | exact LeO.none _
   | refine LeO.ite ?_ ?_
   | refine LeO.bind ?_ (fun _ => ?_)
  ·intro y0 y1 y2 y3 y4 y5 y6 y7 y8 y9; unfold diaphonetop_TopCharges.l0; repeat' first
   | (with_reducible exact ih0 _ _ _ _)
   | (with_reducible exact ih1 _ _ _ _ _ _ _)
   | (with_reducible exact ih2 _ _ _ _)
   | (with_reducible exact ih3 _ _ _ _ _ _)
   | (with_reducible exact ih4 _ _ _ _ _)
   | (with_reducible exact ih5 _ _ _ _ _)
   | (with_reducible exact ih6 _ _ _ _ _)
   | (with_reducible exact ih7 _ _ _)
   | (with_reducible exact ih8 _ _ _ _ _ _ _ _ _ _)
   | (with_reducible exact charge_Can.mono _ _ _)
   | (with_reducible exact charge_CheckCounts.mono _ _ _)
   | (with_reducible exact charge_Fewest.mono _ _ _)
   | (with_reducible exact charge_Fire.mono _ _ _)
   | (with_reducible exact charge_Gaps.mono _ _)
   | (with_reducible exact charge_Reduce.mono _ _)
   | (with_reducible exact charge_Residues.mono _ _)
   | (with_reducible exact charge_Same.mono _ _ _)
   | (with_reducible exact charge_Ways.mono _ _ _)
   | (with_reducible exact charge_With.mono _ _ _)
   | (with_reducible exact diaphonelaw07_Long.mono _ _)
   | (with_reducible exact diaphoneref07_Has.mono _ _ _)
   | (with_reducible exact LeO.refl _)
   | (with_reducible exact LeO.none _)
   | (with_reducible refine LeO.ite ?_ ?_)
   | (with_reducible refine LeO.bind ?_ (fun _ => ?_))
   | exact ih0 _ _ _ _
   | exact ih1 _ _ _ _ _ _ _
   | exact ih2 _ _ _ _
   | exact ih3 _ _ _ _ _ _
   | exact ih4 _ _ _ _ _
   | exact ih5 _ _ _ _ _
   | exact ih6 _ _ _ _ _
   | exact ih7 _ _ _
   | exact ih8 _ _ _ _ _ _ _ _ _ _
   | exact charge_Can.mono _ _ _
   | exact charge_CheckCounts.mono _ _ _
   | exact charge_Fewest.mono _ _ _
   | exact charge_Fire.mono _ _ _
   | exact charge_Gaps.mono _ _
   | exact charge_Reduce.mono _ _
   | exact charge_Residues.mono _ _
   | exact charge_Same.mono _ _ _
   | exact charge_Ways.mono _ _ _
   | exact charge_With.mono _ _ _
   | exact diaphonelaw07_Long.mono _ _
   | exact diaphoneref07_Has.mono _ _ _
   | exact LeO.none _
   | refine LeO.ite ?_ ?_
   | refine LeO.bind ?_ (fun _ => ?_)
theorem diaphonetop_TopCharges.mono : ∀ a0 a1 a2 k, LeO (diaphonetop_TopCharges.f k a0 a1 a2) (diaphonetop_TopCharges.f (k + 1) a0 a1 a2) := by
 intro a0 a1 a2 k; obtain ⟨ih0, ih1, ih2, ih3, ih4, ih5, ih6, ih7, ih8⟩ := diaphonetop_TopCharges.mono_l k; unfold diaphonetop_TopCharges.f; repeat' first
   | (with_reducible exact ih0 _ _ _ _)
   | (with_reducible exact ih1 _ _ _ _ _ _ _)
   | (with_reducible exact ih2 _ _ _ _)
   | (with_reducible exact ih3 _ _ _ _ _ _)
   | (with_reducible exact ih4 _ _ _ _ _)
   | (with_reducible exact ih5 _ _ _ _ _)
   | (with_reducible exact ih6 _ _ _ _ _)
   | (with_reducible exact ih7 _ _ _)
   | (with_reducible exact ih8 _ _ _ _ _ _ _ _ _ _)
   | (with_reducible exact charge_Can.mono _ _ _)
   | (with_reducible exact charge_CheckCounts.mono _ _ _)
   | (with_reducible exact charge_Fewest.mono _ _ _)
   | (with_reducible exact charge_Fire.mono _ _ _)
   | (with_reducible exact charge_Gaps.mono _ _)
   | (with_reducible exact charge_Reduce.mono _ _)
   | (with_reducible exact charge_Residues.mono _ _)
   | (with_reducible exact charge_Same.mono _ _ _)
   | (with_reducible exact charge_Ways.mono _ _ _)
   | (with_reducible exact charge_With.mono _ _ _)
   | (with_reducible exact diaphonelaw07_Long.mono _ _)
   | (with_reducible exact diaphoneref07_Has.mono _ _ _)
   | (with_reducible exact LeO.refl _)
   | (with_reducible exact LeO.none _)
   | (with_reducible refine LeO.ite ?_ ?_)
   | (with_reducible refine LeO.bind ?_ (fun _ => ?_))
   | exact ih0 _ _ _ _
   | exact ih1 _ _ _ _ _ _ _
   | exact ih2 _ _ _ _
   | exact ih3 _ _ _ _ _ _
   | exact ih4 _ _ _ _ _
   | exact ih5 _ _ _ _ _
   | exact ih6 _ _ _ _ _
   | exact ih7 _ _ _
   | exact ih8 _ _ _ _ _ _ _ _ _ _
   | exact charge_Can.mono _ _ _
   | exact charge_CheckCounts.mono _ _ _
   | exact charge_Fewest.mono _ _ _
   | exact charge_Fire.mono _ _ _
   | exact charge_Gaps.mono _ _
   | exact charge_Reduce.mono _ _
   | exact charge_Residues.mono _ _
   | exact charge_Same.mono _ _ _
   | exact charge_Ways.mono _ _ _
   | exact charge_With.mono _ _ _
   | exact diaphonelaw07_Long.mono _ _
   | exact diaphoneref07_Has.mono _ _ _
   | exact LeO.none _
   | refine LeO.ite ?_ ?_
   | refine LeO.bind ?_ (fun _ => ?_)
set_option maxHeartbeats 8000000 in
set_option maxRecDepth 100000 in
theorem diaphonetop_TopCharges.calls (k : Nat) (P0_ : Nat → Prop) (A0 : Option Addr) (c0 : Nat) (l0 : List Int) (a1 : Int) (a2 : Int) (r : Bool) (w : World) (hs0 : Kd.V (Kd.int .i64) 3 w w.heap.size (fun k_ => P0_ k_) (.slice A0 l0.length c0) l0) (h : diaphonetop_TopCharges.f k l0 a1 a2 = some r) :
  Calls Try.prog 18 #[.slice A0 l0.length c0, .int .i64 a1, .int .i64 a2] w fun e w' => e = .returned (.bool r) ∧ Below w.heap.size w w' := by
 have HO0 := XB (show Kd.V (Kd.int .i64) 3 w w.heap.size (fun k_ => (P0_ k_ ∨ w.heap.size ≤ k_)) (.slice A0 l0.length c0) l0 from Kd.V_mono hs0 (fun k_ hk => .inl hk)); have HB := XB (Below.refl w.heap.size w); have H : ((charge_Ways.f k (([2, 3] : List Int)) 6).bind fun bt104 => (if bt104.2 = 0 then (diaphonetop_TopCharges.j0 k l0 a1 a2 (bt104.1 != 2)) else (none))) = some r := h; clear h; obtain ⟨y101, hy101⟩ : ∃ y_ : List Int, y_ = (([2, 3] : List Int)) := ⟨_, rfl⟩
 replace H : ((charge_Ways.f k y101 6).bind fun bt104 => (if bt104.2 = 0 then (diaphonetop_TopCharges.j0 k l0 a1 a2 (bt104.1 != 2)) else (none))) = some r := by first | (rw [hy101]; with_reducible exact H) | (have H2_ := (Option.bind_some _ _).symm.trans H; rw [hy101]; with_reducible exact H2_) | (have H2_ := (Option.bind_some _ _).symm.trans H; with_reducible exact H2_) | with_reducible exact H | (rw [hy101]; exact H) | exact H
 have Ny101 := XB hy101; clear hy101; replace H := Option.bind_eq_some_iff.mp H; obtain ⟨⟨t104, t105⟩, A40, H⟩ := H; replace H : (if t105 = 0 then (diaphonetop_TopCharges.j0 k l0 a1 a2 (t104 != 2)) else (none)) = some r := H; have A4 := XB A40; clear A40; have HC5 := XB H; clear H; go_enter Try.func18, Try.ntmps18
 go_upto_region 2 with (first | ((with_reducible refine gate_dst (N := 32) rfl ?_); (try (refine gate_guard (by rfl) ?_; dsimp only)); refine Kd.R_lit (Kd.int .i64) _ 3 ?hg (N := 32) ?hd (xs := ([2, 3] : List Int)) (inner := [.int .i64 2, .int .i64 3]) (ok := fun _ => True) (okp := fun _ => True) ?hr ?hp (fun _ hk => hk) trivial (Below.refl _ _) (Nat.le_refl _) (by simp) ?_; (case hd => rfl); (case hg => rfl); (case hr => first | (go_simp; done) | (go_simp; rfl)); (case hp => exact (Reps.one (show Kd.M (Kd.int .i64) _ _ _ 2 [.int .i64 2] from rfl) (Reps.one (show Kd.M (Kd.int .i64) _ _ _ 3 [.int .i64 3] from rfl) (Reps.none _ _)))); intro v102 w6 ho7 hb hg_ hnew_; clear hg_ hnew_; (first | rw [← Ny101.out] at ho7 | (simp only [Int.reduceToNat] at ho7; rw [← Ny101.out] at ho7)); have n0_ := XB (Kd.V_elder' (by (with_reducible repeat (first | apply Kd.V_alloc | apply Kd.V_drewN | apply Kd.V_drew)); exact HO0.out) (Kd.R_base ho7) hb); have n1_ := XB (Kd.R_lower (Kd.R_newM (M := fun k_ => (w.heap.size ≤ k_)) ho7 (XC (by repeat (first | (with_reducible first | exact HB.out | apply Xc | apply Xa | apply Xb) | exact HB.out))) (fun k_ h_ => h_)) (XC (by repeat (first | (with_reducible first | exact HB.out | apply Xc | apply Xa | apply Xb) | exact HB.out)))); have n2_ := XB (Xz (by repeat (first | (with_reducible first | exact HB.out | apply Xc | apply Xa | apply Xb) | exact HB.out)) hb); clear HO0; clear HB; have HO0 := n0_; have HO103 := n1_; have HB := n2_; clear n0_ n1_ n2_; clear hb ho7; obtain ⟨Ao8, co8, eo8⟩ := Kd.R_slice HO103.out; subst eo8) | ((with_reducible refine gate_callee (f := 38) rfl ?_); refine goesL_ (some 33) rfl rfl Try.func38 (by kernel_rfl) rfl #[.slice Ao8 y101.length co8, .int .i64 6] rfl (by (try simp only [Xm, Xn, Xo]); first | done | rfl | (simp only [Xp, Xq]; rfl)) ?_; (with_reducible refine (charge_Ways.calls k _ _ y101 6 t104 t105 _ ?side1 ?side2 A4.out).mono ?_); (case side1 => repeat (first | exact (XD HO103.out).2.2 | (with_reducible refine Xr ?_ _) | (with_reducible refine Xs ?_ _) | (with_reducible refine Xt ?_))); (case side2 => exact (XD HO103.out).2.1); rintro e w9 ⟨rfl, hb⟩; refine ⟨_, rfl, ?_⟩; have n0_ := XB (Kd.V_below (by (with_reducible repeat (first | apply Kd.V_alloc | apply Kd.V_drewN | apply Kd.V_drew)); exact HO0.out) hb); have n1_ := XB (Xy (by (with_reducible repeat (first | apply Xv | apply Xw | apply Xx)); exact HO103.out) hb); have n2_ := XB (Xz (by repeat (first | (with_reducible first | exact HB.out | apply Xc | apply Xa | apply Xb) | exact HB.out)) hb); clear HO0; clear HO103; clear HB; have HO0 := n0_; have HO103 := n1_; have HB := n2_; clear n0_ n1_ n2_; (try clear hb); (try clear hb2); (try clear hk); (try clear hi)))
 (try simp only [Act.put, Xj, Xk, Xl])
 go_cut [41] (fun v41 wc => ∃ (kq : Nat) (x41_4 : Bool), v41 = .bool x41_4 ∧ Aside0 (diaphonetop_TopCharges.j0 kq l0 a1 a2 x41_4 = some r) ∧ Aside0 (kq ≤ k) ∧ Aside0 (Kd.V (Kd.int .i64) 3 wc w.heap.size (fun k_ => (P0_ k_ ∨ w.heap.size ≤ k_)) (.slice A0 l0.length c0) l0) ∧ Aside0 (Below w.heap.size w wc))
 case first =>
  have H := HC5.out; clear HC5; by_cases c10 : t105 = 0
  ·rw [if_pos c10] at H; have c10b0 : (t105 == 0) = true := beq_iff_eq.mpr c10; have c10b1 : (t105 != 0) = false := bne_eq_false_iff_eq.mpr c10; clear c10; (first | rw [c10b0] | (simp only [i64_w, i32_w]; rw [c10b0]) | skip)
   have H' := XB H; clear H; go_wp2
   go_meet
   case rel => exact ⟨_, ((t104 != 2)), (by first | rfl | (simp; done) | (simp [*]; done)), H', ⟨by first | omega | exact Nat.le_refl _⟩, ⟨by (with_reducible repeat (first | apply Kd.V_alloc | apply Kd.V_drewN | apply Kd.V_drew)); exact Kd.V_mono HO0.out (fun _ hk => hk.1)⟩, ⟨by repeat (first | (with_reducible first | exact HB.out | apply Xc | apply Xa | apply Xb) | exact HB.out)⟩⟩
  ·rw [if_neg c10] at H; exact absurd H (by simp)
 case rest =>
  clear HC5; try clear c1
  try clear p2
  try clear c3
  try clear c10
  try clear c10b0
  try clear c10b1
  obtain ⟨kq, x41_4, rfl, HA, HJ4, HO_0, HB⟩ := hcut
  cases kq with
  | zero => exact absurd HA.out (by simp [diaphonetop_TopCharges.j0])
  | succ kj4 =>
   have H := HA.out; clear HA; simp only [diaphonetop_TopCharges.j0] at H; by_cases c11 : x41_4 = true
   ·subst c11; have H1 : (none) = some r := by rw [if_pos rfl] at H; exact H
    exact absurd H1 (by simp)
   ·as_aux_lemma =>
    replace c11 := Bool.eq_false_iff.mpr c11; subst c11; have H1 : ((diaphonelaw07_Long.f kj4 (([l0] : List (List Int)))).bind fun t109 => (if t109 = true then (some true) else ((charge_Can.f kj4 l0 a1).bind fun bt110 => (if bt110.2 = 0 then ((charge_Fire.f kj4 l0 a1).bind fun bt115 => ((charge_Fewest.f kj4 l0 a1).bind fun bt120 => (if bt115.2.2 = 0 then (if bt120.2.2 = 0 then (if (bt115.2.1 != bt110.1) = true then (none) else (diaphonetop_TopCharges.j1 kj4 l0 a1 a2 bt110.1 bt115.1 bt120.1 (bt120.2.1 != bt110.1))) else (none)) else (none)))) else ((charge_Fewest.f kj4 l0 a1).bind fun bt112 => (if bt112.2.2 = bt110.2 then (some (!bt110.1)) else (none))))))) = some r := by rw [if_neg (show ¬ (false = true) by decide)] at H; exact H
    clear H; have H := H1; clear H1; obtain ⟨y106, hy106⟩ : ∃ y_ : List (List Int), y_ = (([l0] : List (List Int))) := ⟨_, rfl⟩
    replace H : ((diaphonelaw07_Long.f kj4 y106).bind fun t109 => (if t109 = true then (some true) else ((charge_Can.f kj4 l0 a1).bind fun bt110 => (if bt110.2 = 0 then ((charge_Fire.f kj4 l0 a1).bind fun bt115 => ((charge_Fewest.f kj4 l0 a1).bind fun bt120 => (if bt115.2.2 = 0 then (if bt120.2.2 = 0 then (if (bt115.2.1 != bt110.1) = true then (none) else (diaphonetop_TopCharges.j1 kj4 l0 a1 a2 bt110.1 bt115.1 bt120.1 (bt120.2.1 != bt110.1))) else (none)) else (none)))) else ((charge_Fewest.f kj4 l0 a1).bind fun bt112 => (if bt112.2.2 = bt110.2 then (some (!bt110.1)) else (none))))))) = some r := by first | (rw [hy106]; with_reducible exact H) | (have H2_ := (Option.bind_some _ _).symm.trans H; rw [hy106]; with_reducible exact H2_) | (have H2_ := (Option.bind_some _ _).symm.trans H; with_reducible exact H2_) | with_reducible exact H | (rw [hy106]; exact H) | exact H
    have Ny106 := XB hy106; clear hy106; replace H := Option.bind_eq_some_iff.mp H; obtain ⟨t109, A120, H⟩ := H; replace H : (if t109 = true then (some true) else ((charge_Can.f kj4 l0 a1).bind fun bt110 => (if bt110.2 = 0 then ((charge_Fire.f kj4 l0 a1).bind fun bt115 => ((charge_Fewest.f kj4 l0 a1).bind fun bt120 => (if bt115.2.2 = 0 then (if bt120.2.2 = 0 then (if (bt115.2.1 != bt110.1) = true then (none) else (diaphonetop_TopCharges.j1 kj4 l0 a1 a2 bt110.1 bt115.1 bt120.1 (bt120.2.1 != bt110.1))) else (none)) else (none)))) else ((charge_Fewest.f kj4 l0 a1).bind fun bt112 => (if bt112.2.2 = bt110.2 then (some (!bt110.1)) else (none)))))) = some r := H; have A12 := XB A120; clear A120; by_cases c13 : t109 = true
    ·as_aux_lemma =>
     subst c13; have H1 : (some true) = some r := by rw [if_pos rfl] at H; exact H
     clear H; have H := H1; clear H1; obtain rfl := Option.some.inj H; go_wp2_with (first | ((with_reducible refine gate_dst (N := 43) rfl ?_); (try (refine gate_guard (by rfl) ?_; dsimp only)); refine Kd.N_lit (Kd.slice 3 (Kd.int .i64)) _ 22 ?hg (N' := 43) ?hd (xs := ([l0] : List (List Int))) (inner := [.slice A0 l0.length c0]) (ok := (fun k_ => (P0_ k_ ∨ w.heap.size ≤ k_))) (okp := (fun k_ => (P0_ k_ ∨ w.heap.size ≤ k_))) ?hr ?hp (fun _ hk => hk) ((show ∀ k_, wc.heap.size ≤ k_ → (fun k_ => (P0_ k_ ∨ w.heap.size ≤ k_)) k_ from fun k_ hk => (.inr (Nat.le_trans (XC (by repeat (first | (with_reducible first | exact HB.out | apply Xc | apply Xa | apply Xb) | exact HB.out))) hk))) _ (Nat.le_refl _)) (Below.refl _ _) (Nat.le_refl _) (by simp) ?_; (case hd => rfl); (case hg => rfl); (case hr => first | (go_simp; done) | (go_simp; rfl)); (case hp => exact (Reps.one (show Kd.FK (Kd.slice 3 (Kd.int .i64)) _ _ l0 [.slice A0 l0.length c0] from (Kd.FK_slice_mk (Kd.V_reads' (Kd.V_mono (ok' := (fun k_ => (P0_ k_ ∨ w.heap.size ≤ k_))) (HO_0.out) (fun k_ hk => hk))).2.1 (Kd.V_F (Kd.V_mono (ok' := (fun k_ => (P0_ k_ ∨ w.heap.size ≤ k_))) (HO_0.out) (fun k_ hk => hk))))) (Reps.none _ _))); intro v107 w14 ho15 hb hg_ hnew_; clear hg_ hnew_; (first | rw [← Ny106.out] at ho15 | (simp only [Int.reduceToNat] at ho15; rw [← Ny106.out] at ho15)); have n0_ := XB (Kd.V_elder' (by (with_reducible repeat (first | apply Kd.V_alloc | apply Kd.V_drewN | apply Kd.V_drew)); exact HO_0.out) (Kd.N_base ho15) hb); have n1_ := XB (Kd.N_lower ho15 (XC (by repeat (first | (with_reducible first | exact HB.out | apply Xc | apply Xa | apply Xb) | exact HB.out)))); have n2_ := XB (Xz (by repeat (first | (with_reducible first | exact HB.out | apply Xc | apply Xa | apply Xb) | exact HB.out)) hb); clear HO_0; clear HB; have HO_0 := n0_; have HO108 := n1_; have HB := n2_; clear n0_ n1_ n2_; clear hb ho15; obtain ⟨Ao16, co16, eo16⟩ := Kd.N_slice HO108.out; subst eo16) | ((with_reducible refine gate_callee (f := 19) rfl ?_); refine goesL_ (some 44) rfl rfl Try.func19 (by kernel_rfl) rfl #[.slice Ao16 y106.length co16] rfl (by (try simp only [Xm, Xn, Xo]); first | done | rfl | (simp only [Xp, Xq]; rfl)) ?_; (with_reducible refine (diaphonelaw07_Long.calls kj4 _ _ y106 true _ ?side1 ?side2 A12.out).mono ?_); (case side1 => repeat (first | exact (Kd.N_reads' HO108.out).2.2 | (with_reducible refine Xr ?_ _) | (with_reducible refine Xs ?_ _) | (with_reducible refine Xt ?_))); (case side2 => exact (Kd.N_reads' HO108.out).2.1); rintro e w' ⟨rfl, ⟨nd, rfl⟩⟩; refine ⟨_, rfl, ?_⟩))
     go_ret
     exact ⟨by first | rfl | (simp [errW_none, errW_some] <;> rfl) | (simp [*, errW_none, errW_some] <;> rfl), by repeat (first | (with_reducible first | exact HB.out | apply Xc | apply Xa | apply Xb) | exact HB.out)⟩
    ·as_aux_lemma =>
     replace c13 := Bool.eq_false_iff.mpr c13; subst c13; have H1 : ((charge_Can.f kj4 l0 a1).bind fun bt110 => (if bt110.2 = 0 then ((charge_Fire.f kj4 l0 a1).bind fun bt115 => ((charge_Fewest.f kj4 l0 a1).bind fun bt120 => (if bt115.2.2 = 0 then (if bt120.2.2 = 0 then (if (bt115.2.1 != bt110.1) = true then (none) else (diaphonetop_TopCharges.j1 kj4 l0 a1 a2 bt110.1 bt115.1 bt120.1 (bt120.2.1 != bt110.1))) else (none)) else (none)))) else ((charge_Fewest.f kj4 l0 a1).bind fun bt112 => (if bt112.2.2 = bt110.2 then (some (!bt110.1)) else (none))))) = some r := by rw [if_neg (show ¬ (false = true) by decide)] at H; exact H
     clear H; have H := H1; clear H1; replace H := Option.bind_eq_some_iff.mp H; obtain ⟨⟨t110, t111⟩, A170, H⟩ := H; replace H : (if t111 = 0 then ((charge_Fire.f kj4 l0 a1).bind fun bt115 => ((charge_Fewest.f kj4 l0 a1).bind fun bt120 => (if bt115.2.2 = 0 then (if bt120.2.2 = 0 then (if (bt115.2.1 != t110) = true then (none) else (diaphonetop_TopCharges.j1 kj4 l0 a1 a2 t110 bt115.1 bt120.1 (bt120.2.1 != t110))) else (none)) else (none)))) else ((charge_Fewest.f kj4 l0 a1).bind fun bt112 => (if bt112.2.2 = t111 then (some (!t110)) else (none)))) = some r := H; have A17 := XB A170; clear A170; by_cases c18 : t111 = 0
     ·as_aux_lemma =>
      rw [if_pos c18] at H; have c18b0 : (t111 == 0) = true := beq_iff_eq.mpr c18; have c18b1 : (t111 != 0) = false := bne_eq_false_iff_eq.mpr c18; clear c18; replace H := Option.bind_eq_some_iff.mp H; obtain ⟨⟨t115, t116, t117⟩, A190, H⟩ := H; replace H : ((charge_Fewest.f kj4 l0 a1).bind fun bt120 => (if t117 = 0 then (if bt120.2.2 = 0 then (if (t116 != t110) = true then (none) else (diaphonetop_TopCharges.j1 kj4 l0 a1 a2 t110 t115 bt120.1 (bt120.2.1 != t110))) else (none)) else (none))) = some r := H; have A19 := XB A190; clear A190; replace H := Option.bind_eq_some_iff.mp H; obtain ⟨⟨t120, t121, t122⟩, A200, H⟩ := H; replace H : (if t117 = 0 then (if t122 = 0 then (if (t116 != t110) = true then (none) else (diaphonetop_TopCharges.j1 kj4 l0 a1 a2 t110 t115 t120 (t121 != t110))) else (none)) else (none)) = some r := H; have A20 := XB A200; clear A200; have HC21 := XB H; clear H; go_upto_region 12 with (first | ((with_reducible refine gate_dst (N := 43) rfl ?_); (try (refine gate_guard (by rfl) ?_; dsimp only)); refine Kd.N_lit (Kd.slice 3 (Kd.int .i64)) _ 22 ?hg (N' := 43) ?hd (xs := ([l0] : List (List Int))) (inner := [.slice A0 l0.length c0]) (ok := (fun k_ => (P0_ k_ ∨ w.heap.size ≤ k_))) (okp := (fun k_ => (P0_ k_ ∨ w.heap.size ≤ k_))) ?hr ?hp (fun _ hk => hk) ((show ∀ k_, wc.heap.size ≤ k_ → (fun k_ => (P0_ k_ ∨ w.heap.size ≤ k_)) k_ from fun k_ hk => (.inr (Nat.le_trans (XC (by repeat (first | (with_reducible first | exact HB.out | apply Xc | apply Xa | apply Xb) | exact HB.out))) hk))) _ (Nat.le_refl _)) (Below.refl _ _) (Nat.le_refl _) (by simp) ?_; (case hd => rfl); (case hg => rfl); (case hr => first | (go_simp; done) | (go_simp; rfl)); (case hp => exact (Reps.one (show Kd.FK (Kd.slice 3 (Kd.int .i64)) _ _ l0 [.slice A0 l0.length c0] from (Kd.FK_slice_mk (Kd.V_reads' (Kd.V_mono (ok' := (fun k_ => (P0_ k_ ∨ w.heap.size ≤ k_))) (HO_0.out) (fun k_ hk => hk))).2.1 (Kd.V_F (Kd.V_mono (ok' := (fun k_ => (P0_ k_ ∨ w.heap.size ≤ k_))) (HO_0.out) (fun k_ hk => hk))))) (Reps.none _ _))); intro v107 w22 ho23 hb hg_ hnew_; clear hg_ hnew_; (first | rw [← Ny106.out] at ho23 | (simp only [Int.reduceToNat] at ho23; rw [← Ny106.out] at ho23)); have n0_ := XB (Kd.V_elder' (by (with_reducible repeat (first | apply Kd.V_alloc | apply Kd.V_drewN | apply Kd.V_drew)); exact HO_0.out) (Kd.N_base ho23) hb); have n1_ := XB (Kd.N_lower ho23 (XC (by repeat (first | (with_reducible first | exact HB.out | apply Xc | apply Xa | apply Xb) | exact HB.out)))); have n2_ := XB (Xz (by repeat (first | (with_reducible first | exact HB.out | apply Xc | apply Xa | apply Xb) | exact HB.out)) hb); clear HO_0; clear HB; have HO_0 := n0_; have HO108 := n1_; have HB := n2_; clear n0_ n1_ n2_; clear hb ho23; obtain ⟨Ao24, co24, eo24⟩ := Kd.N_slice HO108.out; subst eo24) | ((with_reducible refine gate_callee (f := 19) rfl ?_); refine goesL_ (some 44) rfl rfl Try.func19 (by kernel_rfl) rfl #[.slice Ao24 y106.length co24] rfl (by (try simp only [Xm, Xn, Xo]); first | done | rfl | (simp only [Xp, Xq]; rfl)) ?_; (with_reducible refine (diaphonelaw07_Long.calls kj4 _ _ y106 false _ ?side1 ?side2 A12.out).mono ?_); (case side1 => repeat (first | exact (Kd.N_reads' HO108.out).2.2 | (with_reducible refine Xr ?_ _) | (with_reducible refine Xs ?_ _) | (with_reducible refine Xt ?_))); (case side2 => exact (Kd.N_reads' HO108.out).2.1); rintro e w' ⟨rfl, ⟨nd, rfl⟩⟩; refine ⟨_, rfl, ?_⟩) | ((with_reducible refine gate_callee (f := 21) rfl ?_); refine goesL_ (some 48) rfl rfl Try.func21 (by kernel_rfl) rfl #[.slice A0 l0.length c0, .int .i64 a1] rfl (by (try simp only [Xm, Xn, Xo]); first | done | rfl | (simp only [Xp, Xq]; rfl)) ?_; (with_reducible refine (charge_Can.calls kj4 _ _ l0 a1 t110 t111 _ ?side1 ?side2 A17.out).mono ?_); (case side1 => repeat (first | exact (Kd.V_reads' HO_0.out).2.2 | (with_reducible refine Xr ?_ _) | (with_reducible refine Xs ?_ _) | (with_reducible refine Xt ?_))); (case side2 => exact (Kd.V_reads' HO_0.out).2.1); rintro e w25 ⟨rfl, hb⟩; refine ⟨_, rfl, ?_⟩; have n0_ := XB (Kd.V_below (by (with_reducible repeat (first | apply Kd.V_alloc | apply Kd.V_drewN | apply Kd.V_drew)); exact HO_0.out) hb); have n1_ := XB (Kd.N_below (by (with_reducible repeat (first | apply Kd.N_alloc | apply Kd.N_drewN | apply Kd.N_drew)); exact HO108.out) hb); have n2_ := XB (Xz (by repeat (first | (with_reducible first | exact HB.out | apply Xc | apply Xa | apply Xb) | exact HB.out)) hb); clear HO_0; clear HO108; clear HB; have HO_0 := n0_; have HO108 := n1_; have HB := n2_; clear n0_ n1_ n2_; (try clear hb); (try clear hb2); (try clear hk); (try clear hi)) | ((with_reducible refine gate_callee (f := 32) rfl ?_); refine goesL_ (some 70) rfl rfl Try.func32 (by kernel_rfl) rfl #[.slice A0 l0.length c0, .int .i64 a1] rfl (by (try simp only [Xm, Xn, Xo]); first | done | rfl | (simp only [Xp, Xq]; rfl)) ?_; (with_reducible refine (charge_Fire.calls kj4 _ _ l0 a1 t115 t116 t117 _ ?side1 ?side2 A19.out).mono ?_); (case side1 => repeat (first | exact (Kd.V_reads' HO_0.out).2.2 | (with_reducible refine Xr ?_ _) | (with_reducible refine Xs ?_ _) | (with_reducible refine Xt ?_))); (case side2 => exact (Kd.V_reads' HO_0.out).2.1); rintro e w26 ⟨v118, rfl, ho0, hb⟩; refine ⟨_, rfl, ?_⟩; have n0_ := XB (Kd.V_elder' (by (with_reducible repeat (first | apply Kd.V_alloc | apply Kd.V_drewN | apply Kd.V_drew)); exact HO_0.out) (Kd.R_base ho0) hb); have n1_ := XB (Kd.N_elder' (by (with_reducible repeat (first | apply Kd.N_alloc | apply Kd.N_drewN | apply Kd.N_drew)); exact HO108.out) (Kd.R_base ho0) hb); have n2_ := XB (Kd.R_lower (Kd.R_newM (M := fun k_ => (w.heap.size ≤ k_)) ho0 (XC (by repeat (first | (with_reducible first | exact HB.out | apply Xc | apply Xa | apply Xb) | exact HB.out))) (fun k_ h_ => h_)) (XC (by repeat (first | (with_reducible first | exact HB.out | apply Xc | apply Xa | apply Xb) | exact HB.out)))); have n3_ := XB (Xz (by repeat (first | (with_reducible first | exact HB.out | apply Xc | apply Xa | apply Xb) | exact HB.out)) hb); clear HO_0; clear HO108; clear HB; have HO_0 := n0_; have HO108 := n1_; have HO119 := n2_; have HB := n3_; clear n0_ n1_ n2_ n3_; (try clear hb); (try clear hb2); (try clear hk); (try clear hi); (try clear ho0)) | ((with_reducible refine gate_callee (f := 23) rfl ?_); refine goesL_ (some 77) rfl rfl Try.func23 (by kernel_rfl) rfl #[.slice A0 l0.length c0, .int .i64 a1] rfl (by (try simp only [Xm, Xn, Xo]); first | done | rfl | (simp only [Xp, Xq]; rfl)) ?_; (with_reducible refine (charge_Fewest.calls kj4 _ _ l0 a1 t120 t121 t122 _ ?side1 ?side2 A20.out).mono ?_); (case side1 => repeat (first | exact (Kd.V_reads' HO_0.out).2.2 | (with_reducible refine Xr ?_ _) | (with_reducible refine Xs ?_ _) | (with_reducible refine Xt ?_))); (case side2 => exact (Kd.V_reads' HO_0.out).2.1); rintro e w27 ⟨rfl, hb⟩; refine ⟨_, rfl, ?_⟩; have n0_ := XB (Kd.V_below (by (with_reducible repeat (first | apply Kd.V_alloc | apply Kd.V_drewN | apply Kd.V_drew)); exact HO_0.out) hb); have n1_ := XB (Kd.N_below (by (with_reducible repeat (first | apply Kd.N_alloc | apply Kd.N_drewN | apply Kd.N_drew)); exact HO108.out) hb); have n2_ := XB (Xy (by (with_reducible repeat (first | apply Xv | apply Xw | apply Xx)); exact HO119.out) hb); have n3_ := XB (Xz (by repeat (first | (with_reducible first | exact HB.out | apply Xc | apply Xa | apply Xb) | exact HB.out)) hb); clear HO_0; clear HO108; clear HO119; clear HB; have HO_0 := n0_; have HO108 := n1_; have HO119 := n2_; have HB := n3_; clear n0_ n1_ n2_ n3_; (try clear hb); (try clear hb2); (try clear hk); (try clear hi)))
      (try simp only [Act.put, Xj, Xk, Xl])
      go_cut [96] (fun v96 wc => ∃ (kq : Nat) (x96_20 : Bool), v96 = .bool x96_20 ∧ Aside0 (diaphonetop_TopCharges.j1 kq l0 a1 a2 t110 t115 t120 x96_20 = some r) ∧ Aside0 (kq ≤ kj4) ∧ Aside0 (Kd.V (Kd.int .i64) 3 wc w.heap.size (fun k_ => (P0_ k_ ∨ w.heap.size ≤ k_) ∧ some k_ ≠ (v118 : Value).ownBlock) (.slice A0 l0.length c0) l0) ∧ Aside0 (Kd.R (Kd.int .i64) 3 wc w.heap.size (fun k_ => (w.heap.size ≤ k_)) v118 t115) ∧ Aside0 (Below w.heap.size w wc))
      case first =>
       have H := HC21.out; clear HC21; by_cases c28 : t117 = 0
       ·rw [if_pos c28] at H; have c28b0 : (t117 == 0) = true := beq_iff_eq.mpr c28; have c28b1 : (t117 != 0) = false := bne_eq_false_iff_eq.mpr c28; clear c28; (first | rw [c28b0] | (simp only [i64_w, i32_w]; rw [c28b0]) | skip)
        by_cases c29 : t122 = 0
        ·rw [if_pos c29] at H; have c29b0 : (t122 == 0) = true := beq_iff_eq.mpr c29; have c29b1 : (t122 != 0) = false := bne_eq_false_iff_eq.mpr c29; clear c29; by_cases c30 : (t116 != t110) = true
         ·rw [if_pos c30] at H; exact absurd H (by simp)
         ·rw [if_neg c30] at H; have c30b0 : (t116 != t110) = false := by simpa using c30
          (try (have c30b1 : decide (t116 = t110) = true := by simpa using c30))
          (try (have c30b2 : (t116 == t110) = true := by simpa using c30))
          clear c30; have H' := XB H; clear H; go_wp2
          go_meet
          case rel => exact ⟨_, ((t121 != t110)), (by first | rfl | (simp; done) | (simp [*]; done)), H', ⟨by have := HJ4.out; first | omega | exact Nat.le_refl _⟩, ⟨by (with_reducible repeat (first | apply Kd.V_alloc | apply Kd.V_drewN | apply Kd.V_drew)); exact Kd.V_mono HO_0.out (fun _ hk => ⟨hk.1.1, hk.2⟩)⟩, ⟨by (with_reducible repeat (first | apply Xv | apply Xw | apply Xx)); exact Kd.R_mono HO119.out (fun _ hk => hk.1)⟩, ⟨by repeat (first | (with_reducible first | exact HB.out | apply Xc | apply Xa | apply Xb) | exact HB.out)⟩⟩
        ·rw [if_neg c29] at H; exact absurd H (by simp)
       ·rw [if_neg c28] at H; exact absurd H (by simp)
      case rest =>
       clear HC21; try clear c1
       try clear c2
       try clear p2
       try clear c3
       try clear c10
       try clear c10b0
       try clear c10b1
       try clear c11
       try clear c13
       try clear c18
       try clear c18b0
       try clear c18b1
       try clear c19
       try clear c21
       try clear c23
       try clear c28
       try clear c28b0
       try clear c28b1
       try clear c29
       try clear c29b0
       try clear c29b1
       try clear c30
       try clear c30b0
       try clear c30b1
       try clear c30b2
       try clear p2
       obtain ⟨kq, x96_20, rfl, HA, HJ20, HO_0, HO_13, HB⟩ := hcut
       cases kq with
       | zero => exact absurd HA.out (by simp [diaphonetop_TopCharges.j1])
       | succ kj20 =>
        have H := HA.out; clear HA; simp only [diaphonetop_TopCharges.j1] at H; by_cases c31 : x96_20 = true
        ·subst c31; have H1 : (none) = some r := by rw [if_pos rfl] at H; exact H
         exact absurd H1 (by simp)
        ·as_aux_lemma =>
         replace c31 := Bool.eq_false_iff.mpr c31; subst c31; have H1 : (if t110 = true then ((charge_CheckCounts.f kj20 l0 t115).bind fun bt123 => (diaphonetop_TopCharges.l0 kj20 l0 a1 a2 t110 t115 t120 bt123.1 bt123.2 0 0)) else (diaphonetop_TopCharges.j3 kj20 l0 a1 a2 t110)) = some r := by rw [if_neg (show ¬ (false = true) by decide)] at H; exact H
         clear H; have H := H1; clear H1; have HC32 := XB H; clear H; go_upto_if 97 with (fail)
         go_cut [] (fun wc => ∃ (kq : Nat), Aside0 (diaphonetop_TopCharges.j3 kq l0 a1 a2 t110 = some r) ∧ Aside0 (kq ≤ kj20) ∧ Aside0 (Kd.V (Kd.int .i64) 3 wc w.heap.size (fun k_ => (P0_ k_ ∨ w.heap.size ≤ k_)) (.slice A0 l0.length c0) l0) ∧ Aside0 (Below w.heap.size w wc))
         case first =>
          have H := HC32.out; clear HC32; by_cases c33 : t110 = true
          ·as_aux_lemma =>
           subst c33; have H1 : ((charge_CheckCounts.f kj20 l0 t115).bind fun bt123 => (diaphonetop_TopCharges.l0 kj20 l0 a1 a2 true t115 t120 bt123.1 bt123.2 0 0)) = some r := by rw [if_pos rfl] at H; exact H
           clear H; have H := H1; clear H1; replace H := Option.bind_eq_some_iff.mp H; obtain ⟨⟨t123, t124⟩, A340, H⟩ := H; replace H : (diaphonetop_TopCharges.l0 kj20 l0 a1 a2 true t115 t120 t123 t124 0 0) = some r := H; have A34 := XB A340; clear A340; have H' := XB H; clear H; obtain ⟨Ao35, co35, eo35⟩ := Kd.R_slice HO_13.out; subst eo35; go_wp2_with (first | ((with_reducible refine gate_callee (f := 45) rfl ?_); refine goesL_ (some 101) rfl rfl Try.func45 (by kernel_rfl) rfl #[.slice A0 l0.length c0, .slice Ao35 t115.length co35] rfl (by (try simp only [Xm, Xn, Xo]); first | done | rfl | (simp only [Xp, Xq]; rfl)) ?_; (with_reducible refine (charge_CheckCounts.calls kj20 _ _ l0 _ _ t115 t123 t124 _ ?side1 ?side2 ?side3 ?side4 A34.out).mono ?_); (case side1 => repeat (first | exact (Kd.V_reads' HO_0.out).2.2 | (with_reducible refine Xr ?_ _) | (with_reducible refine Xs ?_ _) | (with_reducible refine Xt ?_))); (case side2 => exact (Kd.V_reads' HO_0.out).2.1); (case side3 => repeat (first | exact (XD HO_13.out).2.2 | (with_reducible refine Xr ?_ _) | (with_reducible refine Xs ?_ _) | (with_reducible refine Xt ?_))); (case side4 => exact (XD HO_13.out).2.1); rintro e w' ⟨rfl, ⟨nd, rfl⟩⟩; refine ⟨_, rfl, ?_⟩))
           go_loopg [20, 21] kj20 (fun kq v20 v21 w' => ∃ (x20_3 : Int) (x21_3 : Int), v20 = .int .i64 x20_3 ∧ v21 = .int .i64 x21_3 ∧ Aside0 (diaphonetop_TopCharges.l0 kq l0 a1 a2 true t115 t120 t123 t124 x20_3 x21_3 = some r) ∧ Aside0 (kq ≤ kj20) ∧ Aside0 (Kd.V (Kd.int .i64) 3 w' w.heap.size (fun k_ => (P0_ k_ ∨ w.heap.size ≤ k_) ∧ some k_ ≠ ((.slice Ao35 t115.length co35) : Value).ownBlock) (.slice A0 l0.length c0) l0) ∧ Aside0 (Kd.R (Kd.int .i64) 3 w' w.heap.size (fun k_ => (w.heap.size ≤ k_)) (.slice Ao35 t115.length co35) t115) ∧ Aside0 (Below w.heap.size w w'))
           case atStart => exact ⟨(0), (0), (by first | rfl | (simp; done) | (simp [*]; done)), (by first | rfl | (simp; done) | (simp [*]; done)), H', ⟨Nat.le_refl _⟩, ⟨by (with_reducible repeat (first | apply Kd.V_alloc | apply Kd.V_drewN | apply Kd.V_drew)); exact HO_0.out⟩, ⟨by (with_reducible repeat (first | apply Xv | apply Xw | apply Xx)); exact HO_13.out⟩, ⟨by repeat (first | (with_reducible first | exact HB.out | apply Xc | apply Xa | apply Xb) | exact HB.out)⟩⟩
           case round =>
            clear H'; try clear c1
            try clear c2
            try clear p2
            try clear c3
            try clear c4
            try clear c10
            try clear c10b0
            try clear c10b1
            try clear c11
            try clear c13
            try clear c18
            try clear c18b0
            try clear c18b1
            try clear c19
            try clear c21
            try clear c23
            try clear c28
            try clear c28b0
            try clear c28b1
            try clear c29
            try clear c29b0
            try clear c29b1
            try clear c30
            try clear c30b0
            try clear c30b1
            try clear c30b2
            try clear c31
            try clear c32
            try clear c33
            try clear p2
            obtain ⟨x20_3, x21_3, rfl, rfl, HA, HK3, HO_0, HO_13, HB⟩ := hrel
            cases gk with
            | zero => exact absurd HA.out (by simp [diaphonetop_TopCharges.l0])
            | succ k3 =>
             have H := HA.out; clear HA; simp only [diaphonetop_TopCharges.l0] at H; by_cases c36 : x21_3 < (t115.length : Int)
             ·rw [if_pos c36] at H; have c36b0 : decide (x21_3 < (t115.length : Int)) = true := decide_eq_true c36; clear c36; (first | rw [c36b0] | (simp only [i64_w, i32_w]; rw [c36b0]) | skip)
              by_cases c37 : 0 ≤ x21_3
              ·rw [if_pos c37] at H; have c37b0 : decide (0 ≤ x21_3) = true := decide_eq_true c37; clear c37; have H' := XB H; clear H; have p125 : 0 ≤ (x21_3 : Int) := of_decide_eq_true (by first | (with_reducible assumption) | assumption); have q125 : x21_3 < (t115.length : Int) := of_decide_eq_true (by first | (with_reducible assumption) | assumption); obtain ⟨ad125, e125, hx125_0⟩ := Kd.at_int (XD HO_13.out).2.2 x21_3 p125 q125
               cases e125
               replace p125 := eq_true p125; replace q125 := eq_true q125; go_wp2
               go_roundg k3
               case measure => have := HJ4.out; have := HJ20.out; have := HK3.out; omega
               case rel => exact ⟨(wrap64 (x20_3 + (rd t115 x21_3))), (wrap64 (x21_3 + 1)), (by first | rfl | (simp; done) | (simp [*]; done)), (by first | rfl | (simp; done) | (simp [*]; done)), H', ⟨by have := HJ4.out; have := HJ20.out; have := HK3.out; omega⟩, ⟨by (with_reducible repeat (first | apply Kd.V_alloc | apply Kd.V_drewN | apply Kd.V_drew)); exact HO_0.out⟩, ⟨by (with_reducible repeat (first | apply Xv | apply Xw | apply Xx)); exact HO_13.out⟩, ⟨by repeat (first | (with_reducible first | exact HB.out | apply Xc | apply Xa | apply Xb) | exact HB.out)⟩⟩
              ·rw [if_neg c37] at H; exact absurd H (by simp)
             ·rw [if_neg c36] at H; have c36b0 : decide (x21_3 < (t115.length : Int)) = false := decide_eq_false c36; clear c36; (first | rw [c36b0] | (simp only [i64_w, i32_w]; rw [c36b0]) | skip)
              by_cases c38 : t124 = 0
              ·rw [if_pos c38] at H; have c38b0 : (t124 == 0) = true := beq_iff_eq.mpr c38; have c38b1 : (t124 != 0) = false := bne_eq_false_iff_eq.mpr c38; clear c38; by_cases c39 : t123 = a1
               ·rw [if_pos c39] at H; have c39b0 : (t123 == a1) = true := beq_iff_eq.mpr c39; have c39b1 : (t123 != a1) = false := bne_eq_false_iff_eq.mpr c39; clear c39; by_cases c40 : x20_3 = t120
                ·rw [if_pos c40] at H; have c40b0 : (x20_3 == t120) = true := beq_iff_eq.mpr c40; have c40b1 : (x20_3 != t120) = false := bne_eq_false_iff_eq.mpr c40; clear c40; have H' := XB H; clear H; go_wp2
                 go_meet
                 case rel => exact ⟨_, H', ⟨by have := HJ4.out; have := HJ20.out; have := HK3.out; first | omega | exact Nat.le_refl _⟩, ⟨by (with_reducible repeat (first | apply Kd.V_alloc | apply Kd.V_drewN | apply Kd.V_drew)); exact Kd.V_mono HO_0.out (fun _ hk => hk.1)⟩, ⟨by repeat (first | (with_reducible first | exact HB.out | apply Xc | apply Xa | apply Xb) | exact HB.out)⟩⟩
                ·rw [if_neg c40] at H; exact absurd H (by simp)
               ·rw [if_neg c39] at H; exact absurd H (by simp)
              ·rw [if_neg c38] at H; exact absurd H (by simp)
          ·replace c33 := Bool.eq_false_iff.mpr c33; subst c33; have H1 : (diaphonetop_TopCharges.j3 kj20 l0 a1 a2 false) = some r := by rw [if_neg (show ¬ (false = true) by decide)] at H; exact H
           clear H; have H := H1; clear H1; have H' := XB H; clear H; go_wp2
           go_meet
           case rel => exact ⟨_, H', ⟨by have := HJ4.out; have := HJ20.out; first | omega | exact Nat.le_refl _⟩, ⟨by (with_reducible repeat (first | apply Kd.V_alloc | apply Kd.V_drewN | apply Kd.V_drew)); exact Kd.V_mono HO_0.out (fun _ hk => hk.1)⟩, ⟨by repeat (first | (with_reducible first | exact HB.out | apply Xc | apply Xa | apply Xb) | exact HB.out)⟩⟩
         case rest =>
          clear HC32; try clear c1
          try clear p1
          try clear q1
          try clear hx1
          try clear c2
          try clear p2
          try clear c3
          try clear c4
          try clear p6
          try clear c10
          try clear c10b0
          try clear c10b1
          try clear c11
          try clear p12
          try clear q12
          try clear hx12
          try clear c13
          try clear c18
          try clear c18b0
          try clear c18b1
          try clear c19
          try clear c21
          try clear c23
          try clear c28
          try clear c28b0
          try clear c28b1
          try clear c29
          try clear c29b0
          try clear c29b1
          try clear c30
          try clear c30b0
          try clear c30b1
          try clear c30b2
          try clear c31
          try clear c32
          try clear c33
          try clear c36
          try clear c36b0
          try clear c37
          try clear c37b0
          try clear c38
          try clear c38b0
          try clear c38b1
          try clear c39
          try clear c39b0
          try clear c39b1
          try clear c40
          try clear c40b0
          try clear c40b1
          try clear hx125_0
          try clear p125
          try clear p2
          try clear q125
          obtain ⟨kq, HA, HJ31, HO_0, HB⟩ := hcut
          cases kq with
          | zero => exact absurd HA.out (by simp [diaphonetop_TopCharges.j3])
          | succ kj31 =>
           have H := HA.out; clear HA; simp only [diaphonetop_TopCharges.j3] at H; replace H := Option.bind_eq_some_iff.mp H; obtain ⟨⟨t126, t127⟩, A410, H⟩ := H; replace H : (if t127 = 0 then (if 0 < (l0.length : Int) then (diaphonetop_TopCharges.j4 kj31 l0 a1 a2 t110 t126 ((t126.length : Int) != (rd l0 0))) else (none)) else (none)) = some r := H; have A41 := XB A410; clear A410; have HC42 := XB H; clear H; go_upto_region 24 with (first | ((with_reducible refine gate_callee (f := 22) rfl ?_); refine goesL_ (some 130) rfl rfl Try.func22 (by kernel_rfl) rfl #[.slice A0 l0.length c0] rfl (by (try simp only [Xm, Xn, Xo]); first | done | rfl | (simp only [Xp, Xq]; rfl)) ?_; (with_reducible refine (charge_Residues.calls kj31 _ _ l0 t126 t127 _ ?side1 ?side2 A41.out).mono ?_); (case side1 => repeat (first | exact (Kd.V_reads' HO_0.out).2.2 | (with_reducible refine Xr ?_ _) | (with_reducible refine Xs ?_ _) | (with_reducible refine Xt ?_))); (case side2 => exact (Kd.V_reads' HO_0.out).2.1); rintro e w43 ⟨v128, rfl, ho0, hb⟩; refine ⟨_, rfl, ?_⟩; have n0_ := XB (Kd.V_elder' (by (with_reducible repeat (first | apply Kd.V_alloc | apply Kd.V_drewN | apply Kd.V_drew)); exact HO_0.out) (Kd.R_base ho0) hb); have n1_ := XB (Kd.R_lower (Kd.R_newM (M := fun k_ => (w.heap.size ≤ k_)) ho0 (XC (by repeat (first | (with_reducible first | exact HB.out | apply Xc | apply Xa | apply Xb) | exact HB.out))) (fun k_ h_ => h_)) (XC (by repeat (first | (with_reducible first | exact HB.out | apply Xc | apply Xa | apply Xb) | exact HB.out)))); have n2_ := XB (Xz (by repeat (first | (with_reducible first | exact HB.out | apply Xc | apply Xa | apply Xb) | exact HB.out)) hb); clear HO_0; clear HB; have HO_0 := n0_; have HO129 := n1_; have HB := n2_; clear n0_ n1_ n2_; (try clear hb); (try clear hb2); (try clear hk); (try clear hi); (try clear ho0)))
           (try simp only [Act.put, Xj, Xk, Xl])
           go_cut [142] (fun v142 wc => ∃ (kq : Nat) (x142_41 : Bool), v142 = .bool x142_41 ∧ Aside0 (diaphonetop_TopCharges.j4 kq l0 a1 a2 t110 t126 x142_41 = some r) ∧ Aside0 (kq ≤ kj31) ∧ Aside0 (Kd.V (Kd.int .i64) 3 wc w.heap.size (fun k_ => (P0_ k_ ∨ w.heap.size ≤ k_) ∧ some k_ ≠ (v128 : Value).ownBlock) (.slice A0 l0.length c0) l0) ∧ Aside0 (Kd.R (Kd.int .i64) 3 wc w.heap.size (fun k_ => (w.heap.size ≤ k_)) v128 t126) ∧ Aside0 (Below w.heap.size w wc))
           case first =>
            have H := HC42.out; clear HC42; by_cases c44 : t127 = 0
            ·rw [if_pos c44] at H; have c44b0 : (t127 == 0) = true := beq_iff_eq.mpr c44; have c44b1 : (t127 != 0) = false := bne_eq_false_iff_eq.mpr c44; clear c44; (first | rw [c44b0] | (simp only [i64_w, i32_w]; rw [c44b0]) | skip)
             by_cases c45 : 0 < (l0.length : Int)
             ·rw [if_pos c45] at H; have c45b0 : decide (0 < (l0.length : Int)) = true := decide_eq_true c45; have c45b1 : decide (0 < l0.length) = true := decide_eq_true (by omega); clear c45; have H' := XB H; clear H; obtain ⟨Ao46, co46, eo46⟩ := Kd.R_slice HO129.out; subst eo46; have p130 : 0 ≤ (0 : Int) := (by omega); have q130 : 0 < (l0.length : Int) := of_decide_eq_true (by first | (with_reducible assumption) | assumption); obtain ⟨ad130, e130, hx130_0⟩ := Kd.at_int (Kd.V_reads' HO_0.out).2.2 0 p130 q130
              cases e130
              have qi130 : (0 < l0.length) = True := eq_true (by omega); (try rw [show ((0 : Int)).toNat = 0 from rfl] at hx130_0)
              (try rw [Addr.add_zero'] at hx130_0)
              replace p130 := eq_true p130; replace q130 := eq_true q130; go_wp2
              go_meet
              case rel => exact ⟨_, (((t126.length : Int) != (rd l0 0))), (by first | rfl | (simp; done) | (simp [*]; done)), H', ⟨by have := HJ4.out; have := HJ20.out; have := HJ31.out; first | omega | exact Nat.le_refl _⟩, ⟨by (with_reducible repeat (first | apply Kd.V_alloc | apply Kd.V_drewN | apply Kd.V_drew)); exact HO_0.out⟩, ⟨by (with_reducible repeat (first | apply Xv | apply Xw | apply Xx)); exact Kd.R_mono HO129.out (fun _ hk => hk.1)⟩, ⟨by repeat (first | (with_reducible first | exact HB.out | apply Xc | apply Xa | apply Xb) | exact HB.out)⟩⟩
             ·rw [if_neg c45] at H; exact absurd H (by simp)
            ·rw [if_neg c44] at H; exact absurd H (by simp)
           case rest =>
            clear HC42; try clear c1
            try clear p1
            try clear q1
            try clear hx1
            try clear qi1
            try clear c2
            try clear p2
            try clear c3
            try clear c4
            try clear p6
            try clear c10
            try clear c10b0
            try clear c10b1
            try clear c11
            try clear p12
            try clear q12
            try clear hx12
            try clear c13
            try clear p13
            try clear q13
            try clear hx13
            try clear qi13
            try clear c18
            try clear c18b0
            try clear c18b1
            try clear c19
            try clear c21
            try clear c22
            try clear c23
            try clear c28
            try clear c28b0
            try clear c28b1
            try clear c29
            try clear c29b0
            try clear c29b1
            try clear c30
            try clear c30b0
            try clear c30b1
            try clear c30b2
            try clear c31
            try clear c32
            try clear c33
            try clear c36
            try clear c36b0
            try clear c37
            try clear c37b0
            try clear c38
            try clear c38b0
            try clear c38b1
            try clear c39
            try clear c39b0
            try clear c39b1
            try clear c40
            try clear c40b0
            try clear c40b1
            try clear c44
            try clear c44b0
            try clear c44b1
            try clear c45
            try clear c45b0
            try clear c45b1
            try clear hx125_0
            try clear hx130_0
            try clear p1
            try clear p12
            try clear p125
            try clear p130
            try clear p2
            try clear p6
            try clear q1
            try clear q12
            try clear q125
            try clear q130
            obtain ⟨kq, x142_41, rfl, HA, HJ41, HO_0, HO_22, HB⟩ := hcut
            cases kq with
            | zero => exact absurd HA.out (by simp [diaphonetop_TopCharges.j4])
            | succ kj41 =>
             have H := HA.out; clear HA; simp only [diaphonetop_TopCharges.j4] at H; by_cases c47 : x142_41 = true
             ·subst c47; have H1 : (none) = some r := by rw [if_pos rfl] at H; exact H
              exact absurd H1 (by simp)
             ·as_aux_lemma =>
              replace c47 := Bool.eq_false_iff.mpr c47; subst c47; have H1 : (if 0 < (l0.length : Int) then (if (rd l0 0) = 0 then (none) else (if 0 ≤ (Int.tmod a1 (rd l0 0)) then (if (Int.tmod a1 (rd l0 0)) < (t126.length : Int) then (if (rd t126 (Int.tmod a1 (rd l0 0))) ≥ 0 then (diaphonetop_TopCharges.j5 kj41 l0 a1 a2 t110 (t110 != (decide (a1 ≥ (rd t126 (Int.tmod a1 (rd l0 0))))))) else (diaphonetop_TopCharges.j5 kj41 l0 a1 a2 t110 (t110 != false))) else (none)) else (none))) else (none)) = some r := by rw [if_neg (show ¬ (false = true) by decide)] at H; exact H
              clear H; have H := H1; clear H1; by_cases c48 : 0 < (l0.length : Int)
              ·as_aux_lemma =>
               rw [if_pos c48] at H; have c48b0 : decide (0 < (l0.length : Int)) = true := decide_eq_true c48; have c48b1 : decide (0 < l0.length) = true := decide_eq_true (by omega); clear c48; by_cases c49 : (rd l0 0) = 0
               ·rw [if_pos c49] at H; exact absurd H (by simp)
               ·as_aux_lemma =>
                rw [if_neg c49] at H; have c49b0 : ((rd l0 0) == 0) = false := beq_eq_false_iff_ne.mpr c49; have c49b1 : ((rd l0 0) != 0) = true := bne_iff_ne.mpr c49; obtain ⟨ji50, hji50⟩ : ∃ j_ : Int, (Int.tmod a1 (rd l0 0)) = j_ := ⟨_, rfl⟩
                replace H : (if 0 ≤ (ji50) then (if (ji50) < (t126.length : Int) then (if (rd t126 (ji50)) ≥ 0 then (diaphonetop_TopCharges.j5 kj41 l0 a1 a2 t110 (t110 != (decide (a1 ≥ (rd t126 (ji50)))))) else (diaphonetop_TopCharges.j5 kj41 l0 a1 a2 t110 (t110 != false))) else (none)) else (none)) = some r := by first | (rw [hji50] at H; exact H) | (simp only [hji50] at H ⊢; exact H)
                by_cases c51 : 0 ≤ (ji50)
                ·as_aux_lemma =>
                 rw [if_pos c51] at H; have c51b0 : decide (0 ≤ (ji50)) = true := decide_eq_true c51; clear c51; by_cases c52 : (ji50) < (t126.length : Int)
                 ·as_aux_lemma =>
                  rw [if_pos c52] at H; have c52b0 : decide ((ji50) < (t126.length : Int)) = true := decide_eq_true c52; clear c52; have HC53 := XB H; clear H; have p131 : 0 ≤ (0 : Int) := (by omega); have q131 : 0 < (l0.length : Int) := of_decide_eq_true (by first | (with_reducible assumption) | assumption); obtain ⟨ad131, e131, hx131_0⟩ := Kd.at_int (Kd.V_reads' HO_0.out).2.2 0 p131 q131
                  cases e131
                  have qi131 : (0 < l0.length) = True := eq_true (by omega); (try rw [show ((0 : Int)).toNat = 0 from rfl] at hx131_0)
                  (try rw [Addr.add_zero'] at hx131_0)
                  replace p131 := eq_true p131; replace q131 := eq_true q131; obtain ⟨Ao54, co54, eo54⟩ := Kd.R_slice HO_22.out; subst eo54; have p132 : 0 ≤ ((ji50) : Int) := of_decide_eq_true (by first | (with_reducible assumption) | assumption); have q132 : (ji50) < (t126.length : Int) := of_decide_eq_true (by first | (with_reducible assumption) | assumption); obtain ⟨ad132, e132, hx132_0⟩ := Kd.at_int (XD HO_22.out).2.2 (ji50) p132 q132
                  cases e132
                  replace p132 := eq_true p132; replace q132 := eq_true q132; go_upto_region 27 with (fail)
                  go_cut [159] (fun v159 wc => ∃ (kq : Nat) (x159_52 : Bool), v159 = .bool x159_52 ∧ Aside0 (diaphonetop_TopCharges.j5 kq l0 a1 a2 t110 x159_52 = some r) ∧ Aside0 (kq ≤ kj41) ∧ Aside0 (Kd.V (Kd.int .i64) 3 wc w.heap.size (fun k_ => (P0_ k_ ∨ w.heap.size ≤ k_)) (.slice (some ad131) l0.length c0) l0) ∧ Aside0 (Below w.heap.size w wc))
                  case first =>
                   have H := HC53.out; clear HC53; by_cases c55 : (rd t126 (ji50)) ≥ 0
                   ·rw [if_pos c55] at H; have c55b0 : decide (0 ≤ (rd t126 (ji50))) = true := decide_eq_true c55; clear c55; (first | rw [c55b0] | (simp only [i64_w, i32_w]; rw [c55b0]) | skip)
                    have H' := XB H; clear H; go_wp2
                    go_meet
                    case rel => exact ⟨_, ((t110 != (decide (a1 ≥ (rd t126 (ji50)))))), (by first | rfl | (simp; done) | (simp only [← hji50] <;> (first | rfl | simp)) | (simp [*]; done)), H', ⟨by have := HJ4.out; have := HJ20.out; have := HJ31.out; have := HJ41.out; first | omega | exact Nat.le_refl _⟩, ⟨by (with_reducible repeat (first | apply Kd.V_alloc | apply Kd.V_drewN | apply Kd.V_drew)); exact Kd.V_mono HO_0.out (fun _ hk => hk.1)⟩, ⟨by repeat (first | (with_reducible first | exact HB.out | apply Xc | apply Xa | apply Xb) | exact HB.out)⟩⟩
                   ·rw [if_neg c55] at H; have c55b0 : decide (0 ≤ (rd t126 (ji50))) = false := decide_eq_false c55; clear c55; (first | rw [c55b0] | (simp only [i64_w, i32_w]; rw [c55b0]) | skip)
                    have H' := XB H; clear H; go_wp2
                    go_meet
                    case rel => exact ⟨_, ((t110 != false)), (by first | rfl | (simp; done) | (simp [*]; done)), H', ⟨by have := HJ4.out; have := HJ20.out; have := HJ31.out; have := HJ41.out; first | omega | exact Nat.le_refl _⟩, ⟨by (with_reducible repeat (first | apply Kd.V_alloc | apply Kd.V_drewN | apply Kd.V_drew)); exact Kd.V_mono HO_0.out (fun _ hk => hk.1)⟩, ⟨by repeat (first | (with_reducible first | exact HB.out | apply Xc | apply Xa | apply Xb) | exact HB.out)⟩⟩
                  case rest =>
                   clear HC53; try clear c1
                   try clear p1
                   try clear q1
                   try clear hx1
                   try clear qi1
                   try clear c2
                   try clear p2
                   try clear c3
                   try clear c4
                   try clear c5
                   try clear p6
                   try clear c10
                   try clear c10b0
                   try clear c10b1
                   try clear c11
                   try clear p12
                   try clear q12
                   try clear hx12
                   try clear c13
                   try clear p13
                   try clear q13
                   try clear hx13
                   try clear qi13
                   try clear c18
                   try clear c18b0
                   try clear c18b1
                   try clear c19
                   try clear c21
                   try clear c22
                   try clear c23
                   try clear c28
                   try clear c28b0
                   try clear c28b1
                   try clear c29
                   try clear c29b0
                   try clear c29b1
                   try clear c30
                   try clear c30b0
                   try clear c30b1
                   try clear c30b2
                   try clear c31
                   try clear c32
                   try clear c33
                   try clear c36
                   try clear c36b0
                   try clear c37
                   try clear c37b0
                   try clear c38
                   try clear c38b0
                   try clear c38b1
                   try clear c39
                   try clear c39b0
                   try clear c39b1
                   try clear c40
                   try clear c40b0
                   try clear c40b1
                   try clear c44
                   try clear c44b0
                   try clear c44b1
                   try clear c45
                   try clear c45b0
                   try clear c45b1
                   try clear c47
                   try clear c48
                   try clear c48b0
                   try clear c48b1
                   try clear c49
                   try clear c49b0
                   try clear c49b1
                   try clear c51
                   try clear c51b0
                   try clear c52
                   try clear c52b0
                   try clear c55
                   try clear c55b0
                   try clear hx125_0
                   try clear hx130_0
                   try clear hx131_0
                   try clear hx132_0
                   try clear p1
                   try clear p12
                   try clear p125
                   try clear p13
                   try clear p130
                   try clear p131
                   try clear p132
                   try clear p2
                   try clear p6
                   try clear q1
                   try clear q12
                   try clear q125
                   try clear q13
                   try clear q130
                   try clear q131
                   try clear q132
                   obtain ⟨kq, x159_52, rfl, HA, HJ52, HO_0, HB⟩ := hcut
                   cases kq with
                   | zero => exact absurd HA.out (by simp [diaphonetop_TopCharges.j5])
                   | succ kj52 =>
                    have H := HA.out; clear HA; simp only [diaphonetop_TopCharges.j5] at H; by_cases c56 : x159_52 = true
                    ·subst c56; have H1 : (none) = some r := by rw [if_pos rfl] at H; exact H
                     exact absurd H1 (by simp)
                    ·as_aux_lemma =>
                     replace c56 := Bool.eq_false_iff.mpr c56; subst c56; have H1 : ((charge_Gaps.f kj52 l0).bind fun bt133 => (if bt133.2 = 0 then ((diaphoneref07_Has.f kj52 bt133.1 a1).bind fun t137 => (diaphonetop_TopCharges.j6 kj52 l0 a1 a2 t110 (t110 == t137))) else (diaphonetop_TopCharges.j6 kj52 l0 a1 a2 t110 false))) = some r := by rw [if_neg (show ¬ (false = true) by decide)] at H; exact H
                     clear H; have H := H1; clear H1; replace H := Option.bind_eq_some_iff.mp H; obtain ⟨⟨t133, t134⟩, A570, H⟩ := H; replace H : (if t134 = 0 then ((diaphoneref07_Has.f kj52 t133 a1).bind fun t137 => (diaphonetop_TopCharges.j6 kj52 l0 a1 a2 t110 (t110 == t137))) else (diaphonetop_TopCharges.j6 kj52 l0 a1 a2 t110 false)) = some r := H; have A57 := XB A570; clear A570; have HC58 := XB H; clear H; go_upto_region 30 with (first | ((with_reducible refine gate_callee (f := 26) rfl ?_); refine goesL_ (some 162) rfl rfl Try.func26 (by kernel_rfl) rfl #[.slice (some ad131) l0.length c0] rfl (by (try simp only [Xm, Xn, Xo]); first | done | rfl | (simp only [Xp, Xq]; rfl)) ?_; (with_reducible refine (charge_Gaps.calls kj52 _ _ l0 t133 t134 _ ?side1 ?side2 A57.out).mono ?_); (case side1 => repeat (first | exact (Kd.V_reads' HO_0.out).2.2 | (with_reducible refine Xr ?_ _) | (with_reducible refine Xs ?_ _) | (with_reducible refine Xt ?_))); (case side2 => exact (Kd.V_reads' HO_0.out).2.1); rintro e w59 ⟨v135, rfl, ho0, hb⟩; refine ⟨_, rfl, ?_⟩; have n0_ := XB (Kd.V_elder' (by (with_reducible repeat (first | apply Kd.V_alloc | apply Kd.V_drewN | apply Kd.V_drew)); exact HO_0.out) (Kd.R_base ho0) hb); have n1_ := XB (Kd.R_lower (Kd.R_newM (M := fun k_ => (w.heap.size ≤ k_)) ho0 (XC (by repeat (first | (with_reducible first | exact HB.out | apply Xc | apply Xa | apply Xb) | exact HB.out))) (fun k_ h_ => h_)) (XC (by repeat (first | (with_reducible first | exact HB.out | apply Xc | apply Xa | apply Xb) | exact HB.out)))); have n2_ := XB (Xz (by repeat (first | (with_reducible first | exact HB.out | apply Xc | apply Xa | apply Xb) | exact HB.out)) hb); clear HO_0; clear HB; have HO_0 := n0_; have HO136 := n1_; have HB := n2_; clear n0_ n1_ n2_; (try clear hb); (try clear hb2); (try clear hk); (try clear hi); (try clear ho0)))
                     (try simp only [Act.put, Xj, Xk, Xl])
                     go_cut [173] (fun v173 wc => ∃ (kq : Nat) (x173_57 : Bool), v173 = .bool x173_57 ∧ Aside0 (diaphonetop_TopCharges.j6 kq l0 a1 a2 t110 x173_57 = some r) ∧ Aside0 (kq ≤ kj52) ∧ Aside0 (Kd.V (Kd.int .i64) 3 wc w.heap.size (fun k_ => (P0_ k_ ∨ w.heap.size ≤ k_)) (.slice (some ad131) l0.length c0) l0) ∧ Aside0 (Below w.heap.size w wc))
                     case first =>
                      have H := HC58.out; clear HC58; by_cases c60 : t134 = 0
                      ·rw [if_pos c60] at H; have c60b0 : (t134 == 0) = true := beq_iff_eq.mpr c60; have c60b1 : (t134 != 0) = false := bne_eq_false_iff_eq.mpr c60; clear c60; (first | rw [c60b0] | (simp only [i64_w, i32_w]; rw [c60b0]) | skip)
                       replace H := Option.bind_eq_some_iff.mp H; obtain ⟨t137, A610, H⟩ := H; replace H : (diaphonetop_TopCharges.j6 kj52 l0 a1 a2 t110 (t110 == t137)) = some r := H; have A61 := XB A610; clear A610; have H' := XB H; clear H; obtain ⟨Ao62, co62, eo62⟩ := Kd.R_slice HO136.out; subst eo62; go_wp2_with (first | (go_at_call 35; (with_reducible refine (diaphoneref07_Has.calls kj52 _ _ t133 a1 t137 _ ?side1 ?side2 A61.out).mono ?_); (case side1 => repeat (first | exact (XD HO136.out).2.2 | (with_reducible refine Xr ?_ _) | (with_reducible refine Xs ?_ _) | (with_reducible refine Xt ?_))); (case side2 => exact (XD HO136.out).2.1); rintro e w' ⟨rfl, ⟨nd, rfl⟩⟩))
                       go_meet
                       case rel => exact ⟨_, ((t110 == t137)), (by first | rfl | (simp; done) | (simp [*]; done)), H', ⟨by have := HJ4.out; have := HJ20.out; have := HJ31.out; have := HJ41.out; have := HJ52.out; first | omega | exact Nat.le_refl _⟩, ⟨by (with_reducible repeat (first | apply Kd.V_alloc | apply Kd.V_drewN | apply Kd.V_drew)); exact Kd.V_mono HO_0.out (fun _ hk => hk.1)⟩, ⟨by repeat (first | (with_reducible first | exact HB.out | apply Xc | apply Xa | apply Xb) | exact HB.out)⟩⟩
                      ·rw [if_neg c60] at H; have c60b0 : (t134 == 0) = false := beq_eq_false_iff_ne.mpr c60; have c60b1 : (t134 != 0) = true := bne_iff_ne.mpr c60; (first | rw [c60b0] | (simp only [i64_w, i32_w]; rw [c60b0]) | skip)
                       have H' := XB H; clear H; go_wp2
                       go_meet
                       case rel => exact ⟨_, (false), (by first | rfl | (simp; done) | (simp [*]; done)), H', ⟨by have := HJ4.out; have := HJ20.out; have := HJ31.out; have := HJ41.out; have := HJ52.out; first | omega | exact Nat.le_refl _⟩, ⟨by (with_reducible repeat (first | apply Kd.V_alloc | apply Kd.V_drewN | apply Kd.V_drew)); exact Kd.V_mono HO_0.out (fun _ hk => hk.1)⟩, ⟨by repeat (first | (with_reducible first | exact HB.out | apply Xc | apply Xa | apply Xb) | exact HB.out)⟩⟩
                     case rest =>
                      clear HC58; try clear c1
                      try clear p1
                      try clear q1
                      try clear hx1
                      try clear qi1
                      try clear c2
                      try clear p2
                      try clear c3
                      try clear c4
                      try clear c5
                      try clear c6
                      try clear p6
                      try clear c10
                      try clear c10b0
                      try clear c10b1
                      try clear c11
                      try clear p12
                      try clear q12
                      try clear hx12
                      try clear c13
                      try clear p13
                      try clear q13
                      try clear hx13
                      try clear qi13
                      try clear c18
                      try clear c18b0
                      try clear c18b1
                      try clear c19
                      try clear c21
                      try clear c22
                      try clear c23
                      try clear c26
                      try clear c28
                      try clear c28b0
                      try clear c28b1
                      try clear c29
                      try clear c29b0
                      try clear c29b1
                      try clear c30
                      try clear c30b0
                      try clear c30b1
                      try clear c30b2
                      try clear c31
                      try clear c32
                      try clear c33
                      try clear c36
                      try clear c36b0
                      try clear c37
                      try clear c37b0
                      try clear c38
                      try clear c38b0
                      try clear c38b1
                      try clear c39
                      try clear c39b0
                      try clear c39b1
                      try clear c40
                      try clear c40b0
                      try clear c40b1
                      try clear c44
                      try clear c44b0
                      try clear c44b1
                      try clear c45
                      try clear c45b0
                      try clear c45b1
                      try clear c47
                      try clear c48
                      try clear c48b0
                      try clear c48b1
                      try clear c49
                      try clear c49b0
                      try clear c49b1
                      try clear c51
                      try clear c51b0
                      try clear c52
                      try clear c52b0
                      try clear c55
                      try clear c55b0
                      try clear c56
                      try clear c60
                      try clear c60b0
                      try clear c60b1
                      try clear hx125_0
                      try clear hx130_0
                      try clear hx131_0
                      try clear hx132_0
                      try clear p1
                      try clear p12
                      try clear p125
                      try clear p13
                      try clear p130
                      try clear p131
                      try clear p132
                      try clear p2
                      try clear p6
                      try clear q1
                      try clear q12
                      try clear q125
                      try clear q13
                      try clear q130
                      try clear q131
                      try clear q132
                      obtain ⟨kq, x173_57, rfl, HA, HJ57, HO_0, HB⟩ := hcut
                      cases kq with
                      | zero => exact absurd HA.out (by simp [diaphonetop_TopCharges.j6])
                      | succ kj57 =>
                       have H := HA.out; clear HA; simp only [diaphonetop_TopCharges.j6] at H; by_cases c63 : x173_57 = true
                       ·subst c63; have H1 : (none) = some r := by rw [if_pos rfl] at H; exact H
                        exact absurd H1 (by simp)
                       ·as_aux_lemma =>
                        replace c63 := Bool.eq_false_iff.mpr c63; subst c63; have H1 : ((charge_Ways.f kj57 l0 a1).bind fun bt138 => (if bt138.2 = 0 then (diaphonetop_TopCharges.j7 kj57 l0 a1 a2 t110 (t110 != (decide (bt138.1 > 0)))) else (diaphonetop_TopCharges.j7 kj57 l0 a1 a2 t110 false))) = some r := by rw [if_neg (show ¬ (false = true) by decide)] at H; exact H
                        clear H; have H := H1; clear H1; replace H := Option.bind_eq_some_iff.mp H; obtain ⟨⟨t138, t139⟩, A640, H⟩ := H; replace H : (if t139 = 0 then (diaphonetop_TopCharges.j7 kj57 l0 a1 a2 t110 (t110 != (decide (t138 > 0)))) else (diaphonetop_TopCharges.j7 kj57 l0 a1 a2 t110 false)) = some r := H; have A64 := XB A640; clear A640; have HC65 := XB H; clear H; go_upto_region 33 with (first | ((with_reducible refine gate_callee (f := 38) rfl ?_); refine goesL_ (some 177) rfl rfl Try.func38 (by kernel_rfl) rfl #[.slice (some ad131) l0.length c0, .int .i64 a1] rfl (by (try simp only [Xm, Xn, Xo]); first | done | rfl | (simp only [Xp, Xq]; rfl)) ?_; (with_reducible refine (charge_Ways.calls kj57 _ _ l0 a1 t138 t139 _ ?side1 ?side2 A64.out).mono ?_); (case side1 => repeat (first | exact (Kd.V_reads' HO_0.out).2.2 | (with_reducible refine Xr ?_ _) | (with_reducible refine Xs ?_ _) | (with_reducible refine Xt ?_))); (case side2 => exact (Kd.V_reads' HO_0.out).2.1); rintro e w66 ⟨rfl, hb⟩; refine ⟨_, rfl, ?_⟩; have n0_ := XB (Kd.V_below (by (with_reducible repeat (first | apply Kd.V_alloc | apply Kd.V_drewN | apply Kd.V_drew)); exact HO_0.out) hb); have n1_ := XB (Xz (by repeat (first | (with_reducible first | exact HB.out | apply Xc | apply Xa | apply Xb) | exact HB.out)) hb); clear HO_0; clear HB; have HO_0 := n0_; have HB := n1_; clear n0_ n1_; (try clear hb); (try clear hb2); (try clear hk); (try clear hi)))
                        (try simp only [Act.put, Xj, Xk, Xl])
                        go_cut [187] (fun v187 wc => ∃ (kq : Nat) (x187_64 : Bool), v187 = .bool x187_64 ∧ Aside0 (diaphonetop_TopCharges.j7 kq l0 a1 a2 t110 x187_64 = some r) ∧ Aside0 (kq ≤ kj57) ∧ Aside0 (Kd.V (Kd.int .i64) 3 wc w.heap.size (fun k_ => (P0_ k_ ∨ w.heap.size ≤ k_)) (.slice (some ad131) l0.length c0) l0) ∧ Aside0 (Below w.heap.size w wc))
                        case first =>
                         have H := HC65.out; clear HC65; by_cases c67 : t139 = 0
                         ·rw [if_pos c67] at H; have c67b0 : (t139 == 0) = true := beq_iff_eq.mpr c67; have c67b1 : (t139 != 0) = false := bne_eq_false_iff_eq.mpr c67; clear c67; (first | rw [c67b0] | (simp only [i64_w, i32_w]; rw [c67b0]) | skip)
                          have H' := XB H; clear H; go_wp2
                          go_meet
                          case rel => exact ⟨_, ((t110 != (decide (t138 > 0)))), (by first | rfl | (simp; done) | (simp [*]; done)), H', ⟨by have := HJ4.out; have := HJ20.out; have := HJ31.out; have := HJ41.out; have := HJ52.out; have := HJ57.out; first | omega | exact Nat.le_refl _⟩, ⟨by (with_reducible repeat (first | apply Kd.V_alloc | apply Kd.V_drewN | apply Kd.V_drew)); exact HO_0.out⟩, ⟨by repeat (first | (with_reducible first | exact HB.out | apply Xc | apply Xa | apply Xb) | exact HB.out)⟩⟩
                         ·rw [if_neg c67] at H; have c67b0 : (t139 == 0) = false := beq_eq_false_iff_ne.mpr c67; have c67b1 : (t139 != 0) = true := bne_iff_ne.mpr c67; (first | rw [c67b0] | (simp only [i64_w, i32_w]; rw [c67b0]) | skip)
                          have H' := XB H; clear H; go_wp2
                          go_meet
                          case rel => exact ⟨_, (false), (by first | rfl | (simp; done) | (simp [*]; done)), H', ⟨by have := HJ4.out; have := HJ20.out; have := HJ31.out; have := HJ41.out; have := HJ52.out; have := HJ57.out; first | omega | exact Nat.le_refl _⟩, ⟨by (with_reducible repeat (first | apply Kd.V_alloc | apply Kd.V_drewN | apply Kd.V_drew)); exact HO_0.out⟩, ⟨by repeat (first | (with_reducible first | exact HB.out | apply Xc | apply Xa | apply Xb) | exact HB.out)⟩⟩
                        case rest =>
                         clear HC65; try clear c1
                         try clear p1
                         try clear q1
                         try clear hx1
                         try clear qi1
                         try clear c2
                         try clear p2
                         try clear c3
                         try clear c4
                         try clear c5
                         try clear c6
                         try clear p6
                         try clear c10
                         try clear c10b0
                         try clear c10b1
                         try clear c11
                         try clear p12
                         try clear q12
                         try clear hx12
                         try clear c13
                         try clear p13
                         try clear q13
                         try clear hx13
                         try clear qi13
                         try clear c18
                         try clear c18b0
                         try clear c18b1
                         try clear c19
                         try clear c21
                         try clear c22
                         try clear c23
                         try clear c26
                         try clear c28
                         try clear c28b0
                         try clear c28b1
                         try clear c29
                         try clear c29b0
                         try clear c29b1
                         try clear c30
                         try clear c30b0
                         try clear c30b1
                         try clear c30b2
                         try clear c31
                         try clear c32
                         try clear c33
                         try clear c36
                         try clear c36b0
                         try clear c37
                         try clear c37b0
                         try clear c38
                         try clear c38b0
                         try clear c38b1
                         try clear c39
                         try clear c39b0
                         try clear c39b1
                         try clear c40
                         try clear c40b0
                         try clear c40b1
                         try clear c44
                         try clear c44b0
                         try clear c44b1
                         try clear c45
                         try clear c45b0
                         try clear c45b1
                         try clear c47
                         try clear c48
                         try clear c48b0
                         try clear c48b1
                         try clear c49
                         try clear c49b0
                         try clear c49b1
                         try clear c51
                         try clear c51b0
                         try clear c52
                         try clear c52b0
                         try clear c55
                         try clear c55b0
                         try clear c56
                         try clear c60
                         try clear c60b0
                         try clear c60b1
                         try clear c63
                         try clear c67
                         try clear c67b0
                         try clear c67b1
                         try clear hx125_0
                         try clear hx130_0
                         try clear hx131_0
                         try clear hx132_0
                         try clear p1
                         try clear p12
                         try clear p125
                         try clear p13
                         try clear p130
                         try clear p131
                         try clear p132
                         try clear p2
                         try clear p6
                         try clear q1
                         try clear q12
                         try clear q125
                         try clear q13
                         try clear q130
                         try clear q131
                         try clear q132
                         obtain ⟨kq, x187_64, rfl, HA, HJ64, HO_0, HB⟩ := hcut
                         cases kq with
                         | zero => exact absurd HA.out (by simp [diaphonetop_TopCharges.j7])
                         | succ kj64 =>
                          have H := HA.out; clear HA; simp only [diaphonetop_TopCharges.j7] at H; by_cases c68 : x187_64 = true
                          ·subst c68; have H1 : (none) = some r := by rw [if_pos rfl] at H; exact H
                           exact absurd H1 (by simp)
                          ·as_aux_lemma =>
                           replace c68 := Bool.eq_false_iff.mpr c68; subst c68; have H1 : ((charge_Reduce.f kj64 l0).bind fun bt140 => (if bt140.2 = 0 then ((charge_Can.f kj64 bt140.1 a1).bind fun bt144 => (if bt144.2 = 0 then (diaphonetop_TopCharges.j8 kj64 l0 a2 (bt144.1 != t110)) else (none))) else (none))) = some r := by rw [if_neg (show ¬ (false = true) by decide)] at H; exact H
                           clear H; have H := H1; clear H1; replace H := Option.bind_eq_some_iff.mp H; obtain ⟨⟨t140, t141⟩, A690, H⟩ := H; replace H : (if t141 = 0 then ((charge_Can.f kj64 t140 a1).bind fun bt144 => (if bt144.2 = 0 then (diaphonetop_TopCharges.j8 kj64 l0 a2 (bt144.1 != t110)) else (none))) else (none)) = some r := H; have A69 := XB A690; clear A690; by_cases c70 : t141 = 0
                           ·as_aux_lemma =>
                            rw [if_pos c70] at H; have c70b0 : (t141 == 0) = true := beq_iff_eq.mpr c70; have c70b1 : (t141 != 0) = false := bne_eq_false_iff_eq.mpr c70; clear c70; replace H := Option.bind_eq_some_iff.mp H; obtain ⟨⟨t144, t145⟩, A710, H⟩ := H; replace H : (if t145 = 0 then (diaphonetop_TopCharges.j8 kj64 l0 a2 (t144 != t110)) else (none)) = some r := H; have A71 := XB A710; clear A710; have HC72 := XB H; clear H; go_upto_region 39 with (first | ((with_reducible refine gate_callee (f := 50) rfl ?_); refine goesL_ (some 190) rfl rfl Try.func50 (by kernel_rfl) rfl #[.slice (some ad131) l0.length c0] rfl (by (try simp only [Xm, Xn, Xo]); first | done | rfl | (simp only [Xp, Xq]; rfl)) ?_; (with_reducible refine (charge_Reduce.calls kj64 _ _ l0 t140 t141 _ ?side1 ?side2 A69.out).mono ?_); (case side1 => repeat (first | exact (Kd.V_reads' HO_0.out).2.2 | (with_reducible refine Xr ?_ _) | (with_reducible refine Xs ?_ _) | (with_reducible refine Xt ?_))); (case side2 => exact (Kd.V_reads' HO_0.out).2.1); rintro e w73 ⟨v142, rfl, ho0, hb⟩; refine ⟨_, rfl, ?_⟩; have n0_ := XB (Kd.V_elder' (by (with_reducible repeat (first | apply Kd.V_alloc | apply Kd.V_drewN | apply Kd.V_drew)); exact HO_0.out) (Kd.R_base ho0) hb); have n1_ := XB (Kd.R_lower (Kd.R_newM (M := fun k_ => (w.heap.size ≤ k_)) ho0 (XC (by repeat (first | (with_reducible first | exact HB.out | apply Xc | apply Xa | apply Xb) | exact HB.out))) (fun k_ h_ => h_)) (XC (by repeat (first | (with_reducible first | exact HB.out | apply Xc | apply Xa | apply Xb) | exact HB.out)))); have n2_ := XB (Xz (by repeat (first | (with_reducible first | exact HB.out | apply Xc | apply Xa | apply Xb) | exact HB.out)) hb); clear HO_0; clear HB; have HO_0 := n0_; have HO143 := n1_; have HB := n2_; clear n0_ n1_ n2_; (try clear hb); (try clear hb2); (try clear hk); (try clear hi); (try clear ho0); obtain ⟨Ao74, co74, eo74⟩ := Kd.R_slice HO143.out; subst eo74) | ((with_reducible refine gate_callee (f := 21) rfl ?_); refine goesL_ (some 198) rfl rfl Try.func21 (by kernel_rfl) rfl #[.slice Ao74 t140.length co74, .int .i64 a1] rfl (by (try simp only [Xm, Xn, Xo]); first | done | rfl | (simp only [Xp, Xq]; rfl)) ?_; (with_reducible refine (charge_Can.calls kj64 _ _ t140 a1 t144 t145 _ ?side1 ?side2 A71.out).mono ?_); (case side1 => repeat (first | exact (XD HO143.out).2.2 | (with_reducible refine Xr ?_ _) | (with_reducible refine Xs ?_ _) | (with_reducible refine Xt ?_))); (case side2 => exact (XD HO143.out).2.1); rintro e w75 ⟨rfl, hb⟩; refine ⟨_, rfl, ?_⟩; have n0_ := XB (Kd.V_below (by (with_reducible repeat (first | apply Kd.V_alloc | apply Kd.V_drewN | apply Kd.V_drew)); exact HO_0.out) hb); have n1_ := XB (Xy (by (with_reducible repeat (first | apply Xv | apply Xw | apply Xx)); exact HO143.out) hb); have n2_ := XB (Xz (by repeat (first | (with_reducible first | exact HB.out | apply Xc | apply Xa | apply Xb) | exact HB.out)) hb); clear HO_0; clear HO143; clear HB; have HO_0 := n0_; have HO143 := n1_; have HB := n2_; clear n0_ n1_ n2_; (try clear hb); (try clear hb2); (try clear hk); (try clear hi)))
                            (try simp only [Act.put, Xj, Xk, Xl])
                            go_cut [207] (fun v207 wc => ∃ (kq : Nat) (x207_71 : Bool), v207 = .bool x207_71 ∧ Aside0 (diaphonetop_TopCharges.j8 kq l0 a2 x207_71 = some r) ∧ Aside0 (kq ≤ kj64) ∧ Aside0 (Kd.V (Kd.int .i64) 3 wc w.heap.size (fun k_ => (P0_ k_ ∨ w.heap.size ≤ k_)) (.slice (some ad131) l0.length c0) l0) ∧ Aside0 (Below w.heap.size w wc))
                            case first =>
                             have H := HC72.out; clear HC72; by_cases c76 : t145 = 0
                             ·rw [if_pos c76] at H; have c76b0 : (t145 == 0) = true := beq_iff_eq.mpr c76; have c76b1 : (t145 != 0) = false := bne_eq_false_iff_eq.mpr c76; clear c76; (first | rw [c76b0] | (simp only [i64_w, i32_w]; rw [c76b0]) | skip)
                              have H' := XB H; clear H; go_wp2
                              go_meet
                              case rel => exact ⟨_, ((t144 != t110)), (by first | rfl | (simp; done) | (simp [*]; done)), H', ⟨by have := HJ4.out; have := HJ20.out; have := HJ31.out; have := HJ41.out; have := HJ52.out; have := HJ57.out; have := HJ64.out; first | omega | exact Nat.le_refl _⟩, ⟨by (with_reducible repeat (first | apply Kd.V_alloc | apply Kd.V_drewN | apply Kd.V_drew)); exact Kd.V_mono HO_0.out (fun _ hk => hk.1)⟩, ⟨by repeat (first | (with_reducible first | exact HB.out | apply Xc | apply Xa | apply Xb) | exact HB.out)⟩⟩
                             ·rw [if_neg c76] at H; exact absurd H (by simp)
                            case rest =>
                             clear HC72; try clear c1
                             try clear p1
                             try clear q1
                             try clear hx1
                             try clear qi1
                             try clear c2
                             try clear p2
                             try clear c3
                             try clear c4
                             try clear c5
                             try clear c6
                             try clear p6
                             try clear c7
                             try clear c10
                             try clear c10b0
                             try clear c10b1
                             try clear c11
                             try clear p12
                             try clear q12
                             try clear hx12
                             try clear c13
                             try clear p13
                             try clear q13
                             try clear hx13
                             try clear qi13
                             try clear c18
                             try clear c18b0
                             try clear c18b1
                             try clear c19
                             try clear c21
                             try clear c22
                             try clear c23
                             try clear c26
                             try clear c28
                             try clear c28b0
                             try clear c28b1
                             try clear c29
                             try clear c29b0
                             try clear c29b1
                             try clear c30
                             try clear c30b0
                             try clear c30b1
                             try clear c30b2
                             try clear c31
                             try clear c32
                             try clear c33
                             try clear c36
                             try clear c36b0
                             try clear c37
                             try clear c37b0
                             try clear c38
                             try clear c38b0
                             try clear c38b1
                             try clear c39
                             try clear c39b0
                             try clear c39b1
                             try clear c40
                             try clear c40b0
                             try clear c40b1
                             try clear c44
                             try clear c44b0
                             try clear c44b1
                             try clear c45
                             try clear c45b0
                             try clear c45b1
                             try clear c47
                             try clear c48
                             try clear c48b0
                             try clear c48b1
                             try clear c49
                             try clear c49b0
                             try clear c49b1
                             try clear c50
                             try clear c51
                             try clear c51b0
                             try clear c52
                             try clear c52b0
                             try clear c55
                             try clear c55b0
                             try clear c56
                             try clear c60
                             try clear c60b0
                             try clear c60b1
                             try clear c63
                             try clear c67
                             try clear c67b0
                             try clear c67b1
                             try clear c68
                             try clear c70
                             try clear c70b0
                             try clear c70b1
                             try clear c76
                             try clear c76b0
                             try clear c76b1
                             try clear hx125_0
                             try clear hx130_0
                             try clear hx131_0
                             try clear hx132_0
                             try clear p1
                             try clear p12
                             try clear p125
                             try clear p13
                             try clear p130
                             try clear p131
                             try clear p132
                             try clear p2
                             try clear p6
                             try clear q1
                             try clear q12
                             try clear q125
                             try clear q13
                             try clear q130
                             try clear q131
                             try clear q132
                             obtain ⟨kq, x207_71, rfl, HA, HJ71, HO_0, HB⟩ := hcut
                             cases kq with
                             | zero => exact absurd HA.out (by simp [diaphonetop_TopCharges.j8])
                             | succ kj71 =>
                              have H := HA.out; clear HA; simp only [diaphonetop_TopCharges.j8] at H; by_cases c77 : x207_71 = true
                              ·subst c77; have H1 : (none) = some r := by rw [if_pos rfl] at H; exact H
                               exact absurd H1 (by simp)
                              ·as_aux_lemma =>
                               replace c77 := Bool.eq_false_iff.mpr c77; subst c77; have H1 : ((charge_With.f kj71 l0 a2).bind fun bt146 => (if bt146.2 = 0 then ((charge_Same.f kj71 l0 bt146.1).bind fun bt150 => ((charge_Can.f kj71 l0 a2).bind fun bt152 => (if bt150.2 = 0 then (if bt152.2 = 0 then (some (bt150.1 == bt152.1)) else (none)) else (none)))) else (some ((bt146.1.length : Int) == 0)))) = some r := by rw [if_neg (show ¬ (false = true) by decide)] at H; exact H
                               clear H; have H := H1; clear H1; replace H := Option.bind_eq_some_iff.mp H; obtain ⟨⟨t146, t147⟩, A780, H⟩ := H; replace H : (if t147 = 0 then ((charge_Same.f kj71 l0 t146).bind fun bt150 => ((charge_Can.f kj71 l0 a2).bind fun bt152 => (if bt150.2 = 0 then (if bt152.2 = 0 then (some (bt150.1 == bt152.1)) else (none)) else (none)))) else (some ((t146.length : Int) == 0))) = some r := H; have A78 := XB A780; clear A780; by_cases c79 : t147 = 0
                               ·as_aux_lemma =>
                                rw [if_pos c79] at H; have c79b0 : (t147 == 0) = true := beq_iff_eq.mpr c79; have c79b1 : (t147 != 0) = false := bne_eq_false_iff_eq.mpr c79; clear c79; replace H := Option.bind_eq_some_iff.mp H; obtain ⟨⟨t150, t151⟩, A800, H⟩ := H; replace H : ((charge_Can.f kj71 l0 a2).bind fun bt152 => (if t151 = 0 then (if bt152.2 = 0 then (some (t150 == bt152.1)) else (none)) else (none))) = some r := H; have A80 := XB A800; clear A800; replace H := Option.bind_eq_some_iff.mp H; obtain ⟨⟨t152, t153⟩, A810, H⟩ := H; replace H : (if t151 = 0 then (if t153 = 0 then (some (t150 == t152)) else (none)) else (none)) = some r := H; have A81 := XB A810; clear A810; by_cases c82 : t151 = 0
                                ·as_aux_lemma =>
                                 rw [if_pos c82] at H; have c82b0 : (t151 == 0) = true := beq_iff_eq.mpr c82; have c82b1 : (t151 != 0) = false := bne_eq_false_iff_eq.mpr c82; clear c82; by_cases c83 : t153 = 0
                                 ·rw [if_pos c83] at H; have c83b0 : (t153 == 0) = true := beq_iff_eq.mpr c83; have c83b1 : (t153 != 0) = false := bne_eq_false_iff_eq.mpr c83; clear c83; obtain rfl := Option.some.inj H; go_wp2_with (first | ((with_reducible refine gate_callee (f := 54) rfl ?_); refine goesL_ (some 211) rfl rfl Try.func54 (by kernel_rfl) rfl #[.slice (some ad131) l0.length c0, .int .i64 a2] rfl (by (try simp only [Xm, Xn, Xo]); first | done | rfl | (simp only [Xp, Xq]; rfl)) ?_; (with_reducible refine (charge_With.calls kj71 _ _ l0 a2 t146 t147 _ ?side1 ?side2 A78.out).mono ?_); (case side1 => repeat (first | exact (Kd.V_reads' HO_0.out).2.2 | (with_reducible refine Xr ?_ _) | (with_reducible refine Xs ?_ _) | (with_reducible refine Xt ?_))); (case side2 => exact (Kd.V_reads' HO_0.out).2.1); rintro e w84 ⟨v148, rfl, ho0, hb⟩; refine ⟨_, rfl, ?_⟩; have n0_ := XB (Kd.V_elder' (by (with_reducible repeat (first | apply Kd.V_alloc | apply Kd.V_drewN | apply Kd.V_drew)); exact HO_0.out) (Kd.R_base ho0) hb); have n1_ := XB (Kd.R_lower (Kd.R_newM (M := fun k_ => (w.heap.size ≤ k_)) ho0 (XC (by repeat (first | (with_reducible first | exact HB.out | apply Xc | apply Xa | apply Xb) | exact HB.out))) (fun k_ h_ => h_)) (XC (by repeat (first | (with_reducible first | exact HB.out | apply Xc | apply Xa | apply Xb) | exact HB.out)))); have n2_ := XB (Xz (by repeat (first | (with_reducible first | exact HB.out | apply Xc | apply Xa | apply Xb) | exact HB.out)) hb); clear HO_0; clear HB; have HO_0 := n0_; have HO149 := n1_; have HB := n2_; clear n0_ n1_ n2_; (try clear hb); (try clear hb2); (try clear hk); (try clear hi); (try clear ho0); obtain ⟨Ao85, co85, eo85⟩ := Kd.R_slice HO149.out; subst eo85) | ((with_reducible refine gate_callee (f := 48) rfl ?_); refine goesL_ (some 222) rfl rfl Try.func48 (by kernel_rfl) rfl #[.slice (some ad131) l0.length c0, .slice Ao85 t146.length co85] rfl (by (try simp only [Xm, Xn, Xo]); first | done | rfl | (simp only [Xp, Xq]; rfl)) ?_; (with_reducible refine (charge_Same.calls kj71 _ _ l0 _ _ t146 t150 t151 _ ?side1 ?side2 ?side3 ?side4 A80.out).mono ?_); (case side1 => repeat (first | exact (Kd.V_reads' HO_0.out).2.2 | (with_reducible refine Xr ?_ _) | (with_reducible refine Xs ?_ _) | (with_reducible refine Xt ?_))); (case side2 => exact (Kd.V_reads' HO_0.out).2.1); (case side3 => repeat (first | exact (XD HO149.out).2.2 | (with_reducible refine Xr ?_ _) | (with_reducible refine Xs ?_ _) | (with_reducible refine Xt ?_))); (case side4 => exact (XD HO149.out).2.1); rintro e w86 ⟨rfl, hb⟩; refine ⟨_, rfl, ?_⟩; have n0_ := XB (Kd.V_below (by (with_reducible repeat (first | apply Kd.V_alloc | apply Kd.V_drewN | apply Kd.V_drew)); exact HO_0.out) hb); have n1_ := XB (Xy (by (with_reducible repeat (first | apply Xv | apply Xw | apply Xx)); exact HO149.out) hb); have n2_ := XB (Xz (by repeat (first | (with_reducible first | exact HB.out | apply Xc | apply Xa | apply Xb) | exact HB.out)) hb); clear HO_0; clear HO149; clear HB; have HO_0 := n0_; have HO149 := n1_; have HB := n2_; clear n0_ n1_ n2_; (try clear hb); (try clear hb2); (try clear hk); (try clear hi)) | ((with_reducible refine gate_callee (f := 21) rfl ?_); refine goesL_ (some 228) rfl rfl Try.func21 (by kernel_rfl) rfl #[.slice (some ad131) l0.length c0, .int .i64 a2] rfl (by (try simp only [Xm, Xn, Xo]); first | done | rfl | (simp only [Xp, Xq]; rfl)) ?_; (with_reducible refine (charge_Can.calls kj71 _ _ l0 a2 t152 t153 _ ?side1 ?side2 A81.out).mono ?_); (case side1 => repeat (first | exact (Kd.V_reads' HO_0.out).2.2 | (with_reducible refine Xr ?_ _) | (with_reducible refine Xs ?_ _) | (with_reducible refine Xt ?_))); (case side2 => exact (Kd.V_reads' HO_0.out).2.1); rintro e w87 ⟨rfl, hb⟩; refine ⟨_, rfl, ?_⟩; have n0_ := XB (Kd.V_below (by (with_reducible repeat (first | apply Kd.V_alloc | apply Kd.V_drewN | apply Kd.V_drew)); exact HO_0.out) hb); have n1_ := XB (Xy (by (with_reducible repeat (first | apply Xv | apply Xw | apply Xx)); exact HO149.out) hb); have n2_ := XB (Xz (by repeat (first | (with_reducible first | exact HB.out | apply Xc | apply Xa | apply Xb) | exact HB.out)) hb); clear HO_0; clear HO149; clear HB; have HO_0 := n0_; have HO149 := n1_; have HB := n2_; clear n0_ n1_ n2_; (try clear hb); (try clear hb2); (try clear hk); (try clear hi)))
                                  go_ret
                                  exact ⟨by first | rfl | (simp [errW_none, errW_some] <;> rfl) | (simp only [← hji50]; first | rfl | (simp [errW_none, errW_some] <;> rfl)) | (simp [*, errW_none, errW_some] <;> rfl), by repeat (first | (with_reducible first | exact HB.out | apply Xc | apply Xa | apply Xb) | exact HB.out)⟩
                                 ·rw [if_neg c83] at H; exact absurd H (by simp)
                                ·rw [if_neg c82] at H; exact absurd H (by simp)
                               ·rw [if_neg c79] at H; have c79b0 : (t147 == 0) = false := beq_eq_false_iff_ne.mpr c79; have c79b1 : (t147 != 0) = true := bne_iff_ne.mpr c79; obtain rfl := Option.some.inj H; go_wp2_with (first | ((with_reducible refine gate_callee (f := 54) rfl ?_); refine goesL_ (some 211) rfl rfl Try.func54 (by kernel_rfl) rfl #[.slice (some ad131) l0.length c0, .int .i64 a2] rfl (by (try simp only [Xm, Xn, Xo]); first | done | rfl | (simp only [Xp, Xq]; rfl)) ?_; (with_reducible refine (charge_With.calls kj71 _ _ l0 a2 t146 t147 _ ?side1 ?side2 A78.out).mono ?_); (case side1 => repeat (first | exact (Kd.V_reads' HO_0.out).2.2 | (with_reducible refine Xr ?_ _) | (with_reducible refine Xs ?_ _) | (with_reducible refine Xt ?_))); (case side2 => exact (Kd.V_reads' HO_0.out).2.1); rintro e w96 ⟨v148, rfl, ho0, hb⟩; refine ⟨_, rfl, ?_⟩; have n0_ := XB (Kd.V_elder' (by (with_reducible repeat (first | apply Kd.V_alloc | apply Kd.V_drewN | apply Kd.V_drew)); exact HO_0.out) (Kd.R_base ho0) hb); have n1_ := XB (Kd.R_lower (Kd.R_newM (M := fun k_ => (w.heap.size ≤ k_)) ho0 (XC (by repeat (first | (with_reducible first | exact HB.out | apply Xc | apply Xa | apply Xb) | exact HB.out))) (fun k_ h_ => h_)) (XC (by repeat (first | (with_reducible first | exact HB.out | apply Xc | apply Xa | apply Xb) | exact HB.out)))); have n2_ := XB (Xz (by repeat (first | (with_reducible first | exact HB.out | apply Xc | apply Xa | apply Xb) | exact HB.out)) hb); clear HO_0; clear HB; have HO_0 := n0_; have HO149 := n1_; have HB := n2_; clear n0_ n1_ n2_; (try clear hb); (try clear hb2); (try clear hk); (try clear hi); (try clear ho0); obtain ⟨Ao97, co97, eo97⟩ := Kd.R_slice HO149.out; subst eo97))
                                go_ret
                                exact ⟨by first | rfl | (simp [errW_none, errW_some] <;> rfl) | (simp only [← hji50]; first | rfl | (simp [errW_none, errW_some] <;> rfl)) | (simp [*, errW_none, errW_some] <;> rfl), by repeat (first | (with_reducible first | exact HB.out | apply Xc | apply Xa | apply Xb) | exact HB.out)⟩
                           ·rw [if_neg c70] at H; exact absurd H (by simp)
                 ·rw [if_neg c52] at H; exact absurd H (by simp)
                ·rw [if_neg c51] at H; exact absurd H (by simp)
              ·rw [if_neg c48] at H; exact absurd H (by simp)
     ·as_aux_lemma =>
      rw [if_neg c18] at H; have c18b0 : (t111 == 0) = false := beq_eq_false_iff_ne.mpr c18; have c18b1 : (t111 != 0) = true := bne_iff_ne.mpr c18; replace H := Option.bind_eq_some_iff.mp H; obtain ⟨⟨t112, t113, t114⟩, A990, H⟩ := H; replace H : (if t114 = t111 then (some (!t110)) else (none)) = some r := H; have A99 := XB A990; clear A990; by_cases c100 : t114 = t111
      ·as_aux_lemma =>
       rw [if_pos c100] at H; have c100b0 : (t114 == t111) = true := beq_iff_eq.mpr c100; have c100b1 : (t114 != t111) = false := bne_eq_false_iff_eq.mpr c100; clear c100; obtain rfl := Option.some.inj H; go_wp2_with (first | ((with_reducible refine gate_dst (N := 43) rfl ?_); (try (refine gate_guard (by rfl) ?_; dsimp only)); refine Kd.N_lit (Kd.slice 3 (Kd.int .i64)) _ 22 ?hg (N' := 43) ?hd (xs := ([l0] : List (List Int))) (inner := [.slice A0 l0.length c0]) (ok := (fun k_ => (P0_ k_ ∨ w.heap.size ≤ k_))) (okp := (fun k_ => (P0_ k_ ∨ w.heap.size ≤ k_))) ?hr ?hp (fun _ hk => hk) ((show ∀ k_, wc.heap.size ≤ k_ → (fun k_ => (P0_ k_ ∨ w.heap.size ≤ k_)) k_ from fun k_ hk => (.inr (Nat.le_trans (XC (by repeat (first | (with_reducible first | exact HB.out | apply Xc | apply Xa | apply Xb) | exact HB.out))) hk))) _ (Nat.le_refl _)) (Below.refl _ _) (Nat.le_refl _) (by simp) ?_; (case hd => rfl); (case hg => rfl); (case hr => first | (go_simp; done) | (go_simp; rfl)); (case hp => exact (Reps.one (show Kd.FK (Kd.slice 3 (Kd.int .i64)) _ _ l0 [.slice A0 l0.length c0] from (Kd.FK_slice_mk (Kd.V_reads' (Kd.V_mono (ok' := (fun k_ => (P0_ k_ ∨ w.heap.size ≤ k_))) (HO_0.out) (fun k_ hk => hk))).2.1 (Kd.V_F (Kd.V_mono (ok' := (fun k_ => (P0_ k_ ∨ w.heap.size ≤ k_))) (HO_0.out) (fun k_ hk => hk))))) (Reps.none _ _))); intro v107 w101 ho102 hb hg_ hnew_; clear hg_ hnew_; (first | rw [← Ny106.out] at ho102 | (simp only [Int.reduceToNat] at ho102; rw [← Ny106.out] at ho102)); have n0_ := XB (Kd.V_elder' (by (with_reducible repeat (first | apply Kd.V_alloc | apply Kd.V_drewN | apply Kd.V_drew)); exact HO_0.out) (Kd.N_base ho102) hb); have n1_ := XB (Kd.N_lower ho102 (XC (by repeat (first | (with_reducible first | exact HB.out | apply Xc | apply Xa | apply Xb) | exact HB.out)))); have n2_ := XB (Xz (by repeat (first | (with_reducible first | exact HB.out | apply Xc | apply Xa | apply Xb) | exact HB.out)) hb); clear HO_0; clear HB; have HO_0 := n0_; have HO108 := n1_; have HB := n2_; clear n0_ n1_ n2_; clear hb ho102; obtain ⟨Ao103, co103, eo103⟩ := Kd.N_slice HO108.out; subst eo103) | ((with_reducible refine gate_callee (f := 19) rfl ?_); refine goesL_ (some 44) rfl rfl Try.func19 (by kernel_rfl) rfl #[.slice Ao103 y106.length co103] rfl (by (try simp only [Xm, Xn, Xo]); first | done | rfl | (simp only [Xp, Xq]; rfl)) ?_; (with_reducible refine (diaphonelaw07_Long.calls kj4 _ _ y106 false _ ?side1 ?side2 A12.out).mono ?_); (case side1 => repeat (first | exact (Kd.N_reads' HO108.out).2.2 | (with_reducible refine Xr ?_ _) | (with_reducible refine Xs ?_ _) | (with_reducible refine Xt ?_))); (case side2 => exact (Kd.N_reads' HO108.out).2.1); rintro e w' ⟨rfl, ⟨nd, rfl⟩⟩; refine ⟨_, rfl, ?_⟩) | ((with_reducible refine gate_callee (f := 21) rfl ?_); refine goesL_ (some 48) rfl rfl Try.func21 (by kernel_rfl) rfl #[.slice A0 l0.length c0, .int .i64 a1] rfl (by (try simp only [Xm, Xn, Xo]); first | done | rfl | (simp only [Xp, Xq]; rfl)) ?_; (with_reducible refine (charge_Can.calls kj4 _ _ l0 a1 t110 t111 _ ?side1 ?side2 A17.out).mono ?_); (case side1 => repeat (first | exact (Kd.V_reads' HO_0.out).2.2 | (with_reducible refine Xr ?_ _) | (with_reducible refine Xs ?_ _) | (with_reducible refine Xt ?_))); (case side2 => exact (Kd.V_reads' HO_0.out).2.1); rintro e w104 ⟨rfl, hb⟩; refine ⟨_, rfl, ?_⟩; have n0_ := XB (Kd.V_below (by (with_reducible repeat (first | apply Kd.V_alloc | apply Kd.V_drewN | apply Kd.V_drew)); exact HO_0.out) hb); have n1_ := XB (Kd.N_below (by (with_reducible repeat (first | apply Kd.N_alloc | apply Kd.N_drewN | apply Kd.N_drew)); exact HO108.out) hb); have n2_ := XB (Xz (by repeat (first | (with_reducible first | exact HB.out | apply Xc | apply Xa | apply Xb) | exact HB.out)) hb); clear HO_0; clear HO108; clear HB; have HO_0 := n0_; have HO108 := n1_; have HB := n2_; clear n0_ n1_ n2_; (try clear hb); (try clear hb2); (try clear hk); (try clear hi)) | ((with_reducible refine gate_callee (f := 23) rfl ?_); refine goesL_ (some 56) rfl rfl Try.func23 (by kernel_rfl) rfl #[.slice A0 l0.length c0, .int .i64 a1] rfl (by (try simp only [Xm, Xn, Xo]); first | done | rfl | (simp only [Xp, Xq]; rfl)) ?_; (with_reducible refine (charge_Fewest.calls kj4 _ _ l0 a1 t112 t113 t114 _ ?side1 ?side2 A99.out).mono ?_); (case side1 => repeat (first | exact (Kd.V_reads' HO_0.out).2.2 | (with_reducible refine Xr ?_ _) | (with_reducible refine Xs ?_ _) | (with_reducible refine Xt ?_))); (case side2 => exact (Kd.V_reads' HO_0.out).2.1); rintro e w105 ⟨rfl, hb⟩; refine ⟨_, rfl, ?_⟩; have n0_ := XB (Kd.V_below (by (with_reducible repeat (first | apply Kd.V_alloc | apply Kd.V_drewN | apply Kd.V_drew)); exact HO_0.out) hb); have n1_ := XB (Kd.N_below (by (with_reducible repeat (first | apply Kd.N_alloc | apply Kd.N_drewN | apply Kd.N_drew)); exact HO108.out) hb); have n2_ := XB (Xz (by repeat (first | (with_reducible first | exact HB.out | apply Xc | apply Xa | apply Xb) | exact HB.out)) hb); clear HO_0; clear HO108; clear HB; have HO_0 := n0_; have HO108 := n1_; have HB := n2_; clear n0_ n1_ n2_; (try clear hb); (try clear hb2); (try clear hk); (try clear hi)))
       go_ret
       exact ⟨by first | rfl | (simp [errW_none, errW_some] <;> rfl) | (simp [*, errW_none, errW_some] <;> rfl), by repeat (first | (with_reducible first | exact HB.out | apply Xc | apply Xa | apply Xb) | exact HB.out)⟩
      ·rw [if_neg c100] at H; exact absurd H (by simp)

end Go.Proofs.Ytgndhijhcliegaa.P
