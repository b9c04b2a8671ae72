-- laid by a program of this session (wip/tools): plain functions of the Go code and their contracts
import Derived.Test.YtmpmfjnmfgnhcaaPx0
import Derived.Test.YtmpmfjnmfgnhcaaPx1
import Derived.Test.YtmpmfjnmfgnhcaaPx2
import Derived.Test.YtmpmfjnmfgnhcaaPx17
import Derived.Test.YtmpmfjnmfgnhcaaPx21
import Derived.Test.YtmpmfjnmfgnhcaaPx31
import Derived.Test.YtmpmfjnmfgnhcaaPx33
import Derived.Test.YtmpmfjnmfgnhcaaPx35
import Derived.Test.YtmpmfjnmfgnhcaaPx36
import Derived.Test.YtmpmfjnmfgnhcaaPx37
import Derived.Test.YtmpmfjnmfgnhcaaPx38
import Derived.Test.YtmpmfjnmfgnhcaaPx44
import Derived.Test.YtmpmfjnmfgnhcaaPx54
namespace Go.Proofs.Ytmpmfjnmfgnhcaa.P
open Go.RowKit Go.Proofs.YtmpmfjnmfgnhcaaW.PrintWords Go.Proofs.YtmpmfjnmfgnhcaaW.PrintLast Go.Proofs.YtmpmfjnmfgnhcaaW.PrintMore
attribute [local go_sem] max2_int min2_int max_two min_two max_three min_three max_four min_four   -- for this text's walks alone
set_option linter.unusedVariables false
set_option linter.unusedSimpArgs false

/-! ### diaphonetop_TopTones: function 17 -/
mutual
def diaphonetop_TopTones.j0 : Nat → List Int → List Int → Int → Bool → Option (Bool)
  | 0, _, _, _, _ => none
  | k + 1, x0, x1, x2, x54 => if x54 = true then (none) else ((diaphonelaw01_Long.f x0).bind fun t110 => (if t110 = true then (diaphonetop_TopTones.j1 k x0 x1 x2 true) else ((diaphonelaw01_Long.f x1).bind fun t111 => (diaphonetop_TopTones.j1 k x0 x1 x2 t111))))
def diaphonetop_TopTones.j1 : Nat → List Int → List Int → Int → Bool → Option (Bool)
  | 0, _, _, _, _ => none
  | k + 1, x0, x1, x2, x60 => if x60 = true then (some true) else ((tone_Period.f k x0).bind fun bt112 => ((tone_Period.f k x1).bind fun bt114 => (if bt112.2 = 0 then (diaphonetop_TopTones.j2 k x0 x1 x2 bt112.1 bt114.1 (bt114.2 != 0)) else (diaphonetop_TopTones.j2 k x0 x1 x2 bt112.1 bt114.1 true))))
def diaphonetop_TopTones.j2 : Nat → List Int → List Int → Int → Int → Int → Bool → Option (Bool)
  | 0, _, _, _, _, _, _ => none
  | k + 1, x0, x1, x2, x10, x12, x76 => if x76 = true then (some true) else (if x10 < 1 then (diaphonetop_TopTones.j3 k x0 x1 x2 x10 x12 true) else (if x12 < 1 then (diaphonetop_TopTones.j3 k x0 x1 x2 x10 x12 true) else (if x10 > 24 then (diaphonetop_TopTones.j3 k x0 x1 x2 x10 x12 true) else (diaphonetop_TopTones.j3 k x0 x1 x2 x10 x12 (decide (x12 > 24))))))
def diaphonetop_TopTones.j3 : Nat → List Int → List Int → Int → Int → Int → Bool → Option (Bool)
  | 0, _, _, _, _, _, _ => none
  | k + 1, x0, x1, x2, x10, x12, x90 => if x90 = true then (none) else ((diaphoneref01_Gcd.f k x10 x12).bind fun t116 => ((diaphonetop_cut.f k x0 0 (wrap64 ((wrap64 (x10 + x12)) - t116))).bind fun bt117 => ((diaphonetop_cut.f k x1 0 (wrap64 ((wrap64 (x10 + x12)) - t116))).bind fun bt121 => ((tone_Same.f k x0 x1).bind fun bt125 => (if bt117.2 = true then (if bt121.2 = true then (if bt125.2 = 0 then ((diaphoneref01_SameInts.f k bt117.1 bt121.1).bind fun t127 => (diaphonetop_TopTones.j4 k x0 x1 x2 x10 (wrap64 ((wrap64 (x10 + x12)) - t116)) bt125.1 (bt125.1 != t127))) else (diaphonetop_TopTones.j4 k x0 x1 x2 x10 (wrap64 ((wrap64 (x10 + x12)) - t116)) bt125.1 true)) else (diaphonetop_TopTones.j4 k x0 x1 x2 x10 (wrap64 ((wrap64 (x10 + x12)) - t116)) bt125.1 true)) else (diaphonetop_TopTones.j4 k x0 x1 x2 x10 (wrap64 ((wrap64 (x10 + x12)) - t116)) bt125.1 true))))))
def diaphonetop_TopTones.j4 : Nat → List Int → List Int → Int → Int → Int → Bool → Bool → Option (Bool)
  | 0, _, _, _, _, _, _, _ => none
  | k + 1, x0, x1, x2, x10, x14, x19, x132 => if x132 = true then (none) else ((tone_Alike.f k x0 x1).bind fun bt128 => ((tone_Listen.f k x0 x1).bind fun bt130 => (if bt128.2 = 0 then (if bt130.2.2 = 0 then (if (bt130.2.1 == bt128.1) = true then (diaphonetop_TopTones.j5 k x0 x1 x2 x10 bt130.1 bt130.2.1 true) else (if x19 = true then (if bt128.1 = true then (if bt130.2.1 = true then (if bt130.1 < 1 then (diaphonetop_TopTones.j5 k x0 x1 x2 x10 bt130.1 bt130.2.1 true) else (diaphonetop_TopTones.j5 k x0 x1 x2 x10 bt130.1 bt130.2.1 (decide (bt130.1 > x14)))) else (diaphonetop_TopTones.j5 k x0 x1 x2 x10 bt130.1 bt130.2.1 false)) else (diaphonetop_TopTones.j5 k x0 x1 x2 x10 bt130.1 bt130.2.1 true)) else (if bt130.2.1 = true then (if bt130.1 < 1 then (diaphonetop_TopTones.j5 k x0 x1 x2 x10 bt130.1 bt130.2.1 true) else (diaphonetop_TopTones.j5 k x0 x1 x2 x10 bt130.1 bt130.2.1 (decide (bt130.1 > x14)))) else (diaphonetop_TopTones.j5 k x0 x1 x2 x10 bt130.1 bt130.2.1 false)))) else (diaphonetop_TopTones.j5 k x0 x1 x2 x10 bt130.1 bt130.2.1 true)) else (diaphonetop_TopTones.j5 k x0 x1 x2 x10 bt130.1 bt130.2.1 true))))
def diaphonetop_TopTones.j5 : Nat → List Int → List Int → Int → Int → Int → Bool → Bool → Option (Bool)
  | 0, _, _, _, _, _, _, _ => none
  | k + 1, x0, x1, x2, x10, x21, x22, x175 => if x175 = true then (none) else (if x22 = true then ((diaphonetop_cut.f k x0 0 x21).bind fun bt133 => ((tone_Tell.f k (([x0, x1] : List (List Int))) bt133.1).bind fun bt140 => (if bt133.2 = true then (if bt140.2 = 0 then ((diaphoneref01_SameInts.f k bt140.1 (([0] : List Int))).bind fun t147 => (if t147 = true then (diaphonetop_TopTones.j6 k x0 x2 x10) else (none))) else (none)) else (none)))) else (diaphonetop_TopTones.j6 k x0 x2 x10))
def diaphonetop_TopTones.j6 : Nat → List Int → Int → Int → Option (Bool)
  | 0, _, _, _ => none
  | k + 1, x0, x2, x10 => (tone_Turn.f k x0 x2).bind fun bt148 => ((tone_Back.f k x0).bind fun bt152 => ((tone_Swap.f k x0).bind fun bt156 => (if bt148.2 = 0 then (if bt152.2 = 0 then (diaphonetop_TopTones.j7 k x0 x2 x10 bt148.1 bt152.1 bt156.1 (bt156.2 != 0)) else (diaphonetop_TopTones.j7 k x0 x2 x10 bt148.1 bt152.1 bt156.1 true)) else (diaphonetop_TopTones.j7 k x0 x2 x10 bt148.1 bt152.1 bt156.1 true))))
def diaphonetop_TopTones.j7 : Nat → List Int → Int → Int → List Int → List Int → List Int → Bool → Option (Bool)
  | 0, _, _, _, _, _, _, _ => none
  | k + 1, x0, x2, x10, x27, x28, x29, x228 => if x228 = true then (none) else ((tone_Alike.f k x0 x27).bind fun bt160 => ((tone_Period.f k x28).bind fun bt162 => ((tone_Period.f k x29).bind fun bt164 => (if bt160.2 = 0 then (if bt162.2 = 0 then (if bt164.2 = 0 then (if bt160.1 = true then (if bt162.1 = x10 then (diaphonetop_TopTones.j8 k x0 x2 x10 x27 (bt164.1 != x10)) else (diaphonetop_TopTones.j8 k x0 x2 x10 x27 true)) else (diaphonetop_TopTones.j8 k x0 x2 x10 x27 true)) else (diaphonetop_TopTones.j8 k x0 x2 x10 x27 true)) else (diaphonetop_TopTones.j8 k x0 x2 x10 x27 true)) else (diaphonetop_TopTones.j8 k x0 x2 x10 x27 true)))))
def diaphonetop_TopTones.j8 : Nat → List Int → Int → Int → List Int → Bool → Option (Bool)
  | 0, _, _, _, _, _ => none
  | k + 1, x0, x2, x10, x27, x268 => if x268 = true then (none) else (if (x0.length : Int) = 0 then (none) else ((tone_Turn.f k x27 (wrap64 (-(Int.tmod x2 (x0.length : Int))))).bind fun bt166 => (if bt166.2 = 0 then ((diaphoneref01_SameInts.f k bt166.1 x0).bind fun t170 => (diaphonetop_TopTones.j9 k x0 x10 (!t170))) else (diaphonetop_TopTones.j9 k x0 x10 true))))
def diaphonetop_TopTones.j9 : Nat → List Int → Int → Bool → Option (Bool)
  | 0, _, _, _ => none
  | k + 1, x0, x10, x286 => if x286 = true then (none) else ((tone_Repeat.f k x0 2).bind fun bt171 => ((tone_Root.f k x0).bind fun bt175 => (if bt175.2 = 0 then (diaphonetop_TopTones.j10 k x0 bt171.2 bt171.1 bt175.1 ((bt175.1.length : Int) != x10)) else (diaphonetop_TopTones.j10 k x0 bt171.2 bt171.1 bt175.1 true))))
def diaphonetop_TopTones.j10 : Nat → List Int → Int → List Int → List Int → Bool → Option (Bool)
  | 0, _, _, _, _, _ => none
  | k + 1, x0, x11, x35, x36, x304 => if x304 = true then (none) else (if x11 = 0 then ((tone_Root.f k x35).bind fun bt179 => (if bt179.2 = 0 then ((diaphoneref01_SameInts.f k x36 bt179.1).bind fun t183 => (some t183)) else (none))) else (some (decide ((wrap64 (2 * (x0.length : Int))) > 24))))
end
def diaphonetop_TopTones.f (k : Nat) (l0 : List Int) (l1 : List Int) (a2 : Int) : Option (Bool) := (tone_Listen.f k (([1, 0] : List Int)) (([1, 0, 0] : List Int))).bind fun bt107 => (if bt107.2.2 = 0 then (if bt107.2.1 = true then (diaphonetop_TopTones.j0 k l0 l1 a2 (bt107.1 != 4)) else (diaphonetop_TopTones.j0 k l0 l1 a2 true)) else (diaphonetop_TopTones.j0 k l0 l1 a2 true))
theorem diaphonetop_TopTones.mono_l : ∀ k, (∀ y0 y1 y2 y3, LeO (diaphonetop_TopTones.j0 k y0 y1 y2 y3) (diaphonetop_TopTones.j0 (k + 1) y0 y1 y2 y3)) ∧ (∀ y0 y1 y2 y3, LeO (diaphonetop_TopTones.j1 k y0 y1 y2 y3) (diaphonetop_TopTones.j1 (k + 1) y0 y1 y2 y3)) ∧ (∀ y0 y1 y2 y3 y4 y5, LeO (diaphonetop_TopTones.j2 k y0 y1 y2 y3 y4 y5) (diaphonetop_TopTones.j2 (k + 1) y0 y1 y2 y3 y4 y5)) ∧ (∀ y0 y1 y2 y3 y4 y5, LeO (diaphonetop_TopTones.j3 k y0 y1 y2 y3 y4 y5) (diaphonetop_TopTones.j3 (k + 1) y0 y1 y2 y3 y4 y5)) ∧ (∀ y0 y1 y2 y3 y4 y5 y6, LeO (diaphonetop_TopTones.j4 k y0 y1 y2 y3 y4 y5 y6) (diaphonetop_TopTones.j4 (k + 1) y0 y1 y2 y3 y4 y5 y6)) ∧ (∀ y0 y1 y2 y3 y4 y5 y6, LeO (diaphonetop_TopTones.j5 k y0 y1 y2 y3 y4 y5 y6) (diaphonetop_TopTones.j5 (k + 1) y0 y1 y2 y3 y4 y5 y6)) ∧ (∀ y0 y1 y2, LeO (diaphonetop_TopTones.j6 k y0 y1 y2) (diaphonetop_TopTones.j6 (k + 1) y0 y1 y2)) ∧ (∀ y0 y1 y2 y3 y4 y5 y6, LeO (diaphonetop_TopTones.j7 k y0 y1 y2 y3 y4 y5 y6) (diaphonetop_TopTones.j7 (k + 1) y0 y1 y2 y3 y4 y5 y6)) ∧ (∀ y0 y1 y2 y3 y4, LeO (diaphonetop_TopTones.j8 k y0 y1 y2 y3 y4) (diaphonetop_TopTones.j8 (k + 1) y0 y1 y2 y3 y4)) ∧ (∀ y0 y1 y2, LeO (diaphonetop_TopTones.j9 k y0 y1 y2) (diaphonetop_TopTones.j9 (k + 1) y0 y1 y2)) ∧ (∀ y0 y1 y2 y3 y4, LeO (diaphonetop_TopTones.j10 k y0 y1 y2 y3 y4) (diaphonetop_TopTones.j10 (k + 1) y0 y1 y2 y3 y4))
  | 0 => ⟨fun _ _ _ _ r h => by simp [diaphonetop_TopTones.j0] at h, fun _ _ _ _ r h => by simp [diaphonetop_TopTones.j1] at h, fun _ _ _ _ _ _ r h => by simp [diaphonetop_TopTones.j2] at h, fun _ _ _ _ _ _ r h => by simp [diaphonetop_TopTones.j3] at h, fun _ _ _ _ _ _ _ r h => by simp [diaphonetop_TopTones.j4] at h, fun _ _ _ _ _ _ _ r h => by simp [diaphonetop_TopTones.j5] at h, fun _ _ _ r h => by simp [diaphonetop_TopTones.j6] at h, fun _ _ _ _ _ _ _ r h => by simp [diaphonetop_TopTones.j7] at h, fun _ _ _ _ _ r h => by simp [diaphonetop_TopTones.j8] at h, fun _ _ _ r h => by simp [diaphonetop_TopTones.j9] at h, fun _ _ _ _ _ r h => by simp [diaphonetop_TopTones.j10] at h⟩
  | k + 1 => by
    obtain ⟨ih0, ih1, ih2, ih3, ih4, ih5, ih6, ih7, ih8, ih9, ih10⟩ := diaphonetop_TopTones.mono_l k
    refine ⟨?_, ?_, ?_, ?_, ?_, ?_, ?_, ?_, ?_, ?_, ?_⟩
    · intro y0 y1 y2 y3
      unfold diaphonetop_TopTones.j0
      repeat' first
      | (with_reducible exact ih0 _ _ _ _)
      | (with_reducible exact ih1 _ _ _ _)
      | (with_reducible exact ih2 _ _ _ _ _ _)
      | (with_reducible exact ih3 _ _ _ _ _ _)
      | (with_reducible exact ih4 _ _ _ _ _ _ _)
      | (with_reducible exact ih5 _ _ _ _ _ _ _)
      | (with_reducible exact ih6 _ _ _)
      | (with_reducible exact ih7 _ _ _ _ _ _ _)
      | (with_reducible exact ih8 _ _ _ _ _)
      | (with_reducible exact ih9 _ _ _)
      | (with_reducible exact ih10 _ _ _ _ _)
      | (with_reducible exact diaphoneref01_Gcd.mono _ _ _)
      | (with_reducible exact diaphoneref01_SameInts.mono _ _ _)
      | (with_reducible exact diaphonetop_cut.mono _ _ _ _)
      | (with_reducible exact tone_Alike.mono _ _ _)
      | (with_reducible exact tone_Back.mono _ _)
      | (with_reducible exact tone_Listen.mono _ _ _)
      | (with_reducible exact tone_Period.mono _ _)
      | (with_reducible exact tone_Repeat.mono _ _ _)
      | (with_reducible exact tone_Root.mono _ _)
      | (with_reducible exact tone_Same.mono _ _ _)
      | (with_reducible exact tone_Swap.mono _ _)
      | (with_reducible exact tone_Tell.mono _ _ _)
      | (with_reducible exact tone_Turn.mono _ _ _)
      | (with_reducible exact LeO.refl _)
      | (with_reducible exact LeO.none _)
      | (with_reducible refine LeO.ite ?_ ?_)
      | (with_reducible refine LeO.bind ?_ (fun _ => ?_))
      | exact ih0 _ _ _ _
      | exact ih1 _ _ _ _
      | exact ih2 _ _ _ _ _ _
      | exact ih3 _ _ _ _ _ _
      | exact ih4 _ _ _ _ _ _ _
      | exact ih5 _ _ _ _ _ _ _
      | exact ih6 _ _ _
      | exact ih7 _ _ _ _ _ _ _
      | exact ih8 _ _ _ _ _
      | exact ih9 _ _ _
      | exact ih10 _ _ _ _ _
      | exact diaphoneref01_Gcd.mono _ _ _
      | exact diaphoneref01_SameInts.mono _ _ _
      | exact diaphonetop_cut.mono _ _ _ _
      | exact tone_Alike.mono _ _ _
      | exact tone_Back.mono _ _
      | exact tone_Listen.mono _ _ _
      | exact tone_Period.mono _ _
      | exact tone_Repeat.mono _ _ _
      | exact tone_Root.mono _ _
      | exact tone_Same.mono _ _ _
      | exact tone_Swap.mono _ _
      | exact tone_Tell.mono _ _ _
      | exact tone_Turn.mono _ _ _
      | exact LeO.none _
      | refine LeO.ite ?_ ?_
      | refine LeO.bind ?_ (fun _ => ?_)
    · intro y0 y1 y2 y3
      unfold diaphonetop_TopTones.j1
      repeat' first
      | (with_reducible exact ih0 _ _ _ _)
      | (with_reducible exact ih1 _ _ _ _)
      | (with_reducible exact ih2 _ _ _ _ _ _)
      | (with_reducible exact ih3 _ _ _ _ _ _)
      | (with_reducible exact ih4 _ _ _ _ _ _ _)
      | (with_reducible exact ih5 _ _ _ _ _ _ _)
      | (with_reducible exact ih6 _ _ _)
      | (with_reducible exact ih7 _ _ _ _ _ _ _)
      | (with_reducible exact ih8 _ _ _ _ _)
      | (with_reducible exact ih9 _ _ _)
      | (with_reducible exact ih10 _ _ _ _ _)
      | (with_reducible exact diaphoneref01_Gcd.mono _ _ _)
      | (with_reducible exact diaphoneref01_SameInts.mono _ _ _)
      | (with_reducible exact diaphonetop_cut.mono _ _ _ _)
      | (with_reducible exact tone_Alike.mono _ _ _)
      | (with_reducible exact tone_Back.mono _ _)
      | (with_reducible exact tone_Listen.mono _ _ _)
      | (with_reducible exact tone_Period.mono _ _)
      | (with_reducible exact tone_Repeat.mono _ _ _)
      | (with_reducible exact tone_Root.mono _ _)
      | (with_reducible exact tone_Same.mono _ _ _)
      | (with_reducible exact tone_Swap.mono _ _)
      | (with_reducible exact tone_Tell.mono _ _ _)
      | (with_reducible exact tone_Turn.mono _ _ _)
      | (with_reducible exact LeO.refl _)
      | (with_reducible exact LeO.none _)
      | (with_reducible refine LeO.ite ?_ ?_)
      | (with_reducible refine LeO.bind ?_ (fun _ => ?_))
      | exact ih0 _ _ _ _
      | exact ih1 _ _ _ _
      | exact ih2 _ _ _ _ _ _
      | exact ih3 _ _ _ _ _ _
      | exact ih4 _ _ _ _ _ _ _
      | exact ih5 _ _ _ _ _ _ _
      | exact ih6 _ _ _
      | exact ih7 _ _ _ _ _ _ _
      | exact ih8 _ _ _ _ _
      | exact ih9 _ _ _
      | exact ih10 _ _ _ _ _
      | exact diaphoneref01_Gcd.mono _ _ _
      | exact diaphoneref01_SameInts.mono _ _ _
      | exact diaphonetop_cut.mono _ _ _ _
      | exact tone_Alike.mono _ _ _
      | exact tone_Back.mono _ _
      | exact tone_Listen.mono _ _ _
      | exact tone_Period.mono _ _
      | exact tone_Repeat.mono _ _ _
      | exact tone_Root.mono _ _
      | exact tone_Same.mono _ _ _
      | exact tone_Swap.mono _ _
      | exact tone_Tell.mono _ _ _
      | exact tone_Turn.mono _ _ _
      | exact LeO.none _
      | refine LeO.ite ?_ ?_
      | refine LeO.bind ?_ (fun _ => ?_)
    · intro y0 y1 y2 y3 y4 y5
      unfold diaphonetop_TopTones.j2
      repeat' first
      | (with_reducible exact ih0 _ _ _ _)
      | (with_reducible exact ih1 _ _ _ _)
      | (with_reducible exact ih2 _ _ _ _ _ _)
      | (with_reducible exact ih3 _ _ _ _ _ _)
      | (with_reducible exact ih4 _ _ _ _ _ _ _)
      | (with_reducible exact ih5 _ _ _ _ _ _ _)
      | (with_reducible exact ih6 _ _ _)
      | (with_reducible exact ih7 _ _ _ _ _ _ _)
      | (with_reducible exact ih8 _ _ _ _ _)
      | (with_reducible exact ih9 _ _ _)
      | (with_reducible exact ih10 _ _ _ _ _)
      | (with_reducible exact diaphoneref01_Gcd.mono _ _ _)
      | (with_reducible exact diaphoneref01_SameInts.mono _ _ _)
      | (with_reducible exact diaphonetop_cut.mono _ _ _ _)
      | (with_reducible exact tone_Alike.mono _ _ _)
      | (with_reducible exact tone_Back.mono _ _)
      | (with_reducible exact tone_Listen.mono _ _ _)
      | (with_reducible exact tone_Period.mono _ _)
      | (with_reducible exact tone_Repeat.mono _ _ _)
      | (with_reducible exact tone_Root.mono _ _)
      | (with_reducible exact tone_Same.mono _ _ _)
      | (with_reducible exact tone_Swap.mono _ _)
      | (with_reducible exact tone_Tell.mono _ _ _)
      | (with_reducible exact tone_Turn.mono _ _ _)
      | (with_reducible exact LeO.refl _)
      | (with_reducible exact LeO.none _)
      | (with_reducible refine LeO.ite ?_ ?_)
      | (with_reducible refine LeO.bind ?_ (fun _ => ?_))
      | exact ih0 _ _ _ _
      | exact ih1 _ _ _ _
      | exact ih2 _ _ _ _ _ _
      | exact ih3 _ _ _ _ _ _
      | exact ih4 _ _ _ _ _ _ _
      | exact ih5 _ _ _ _ _ _ _
      | exact ih6 _ _ _
      | exact ih7 _ _ _ _ _ _ _
      | exact ih8 _ _ _ _ _
      | exact ih9 _ _ _
      | exact ih10 _ _ _ _ _
      | exact diaphoneref01_Gcd.mono _ _ _
      | exact diaphoneref01_SameInts.mono _ _ _
      | exact diaphonetop_cut.mono _ _ _ _
      | exact tone_Alike.mono _ _ _
      | exact tone_Back.mono _ _
      | exact tone_Listen.mono _ _ _
      | exact tone_Period.mono _ _
      | exact tone_Repeat.mono _ _ _
      | exact tone_Root.mono _ _
      | exact tone_Same.mono _ _ _
      | exact tone_Swap.mono _ _
      | exact tone_Tell.mono _ _ _
      | exact tone_Turn.mono _ _ _
      | exact LeO.none _
      | refine LeO.ite ?_ ?_
      | refine LeO.bind ?_ (fun _ => ?_)
    · intro y0 y1 y2 y3 y4 y5
      unfold diaphonetop_TopTones.j3
      repeat' first
      | (with_reducible exact ih0 _ _ _ _)
      | (with_reducible exact ih1 _ _ _ _)
      | (with_reducible exact ih2 _ _ _ _ _ _)
      | (with_reducible exact ih3 _ _ _ _ _ _)
      | (with_reducible exact ih4 _ _ _ _ _ _ _)
      | (with_reducible exact ih5 _ _ _ _ _ _ _)
      | (with_reducible exact ih6 _ _ _)
      | (with_reducible exact ih7 _ _ _ _ _ _ _)
      | (with_reducible exact ih8 _ _ _ _ _)
      | (with_reducible exact ih9 _ _ _)
      | (with_reducible exact ih10 _ _ _ _ _)
      | (with_reducible exact diaphoneref01_Gcd.mono _ _ _)
      | (with_reducible exact diaphoneref01_SameInts.mono _ _ _)
      | (with_reducible exact diaphonetop_cut.mono _ _ _ _)
      | (with_reducible exact tone_Alike.mono _ _ _)
      | (with_reducible exact tone_Back.mono _ _)
      | (with_reducible exact tone_Listen.mono _ _ _)
      | (with_reducible exact tone_Period.mono _ _)
      | (with_reducible exact tone_Repeat.mono _ _ _)
      | (with_reducible exact tone_Root.mono _ _)
      | (with_reducible exact tone_Same.mono _ _ _)
      | (with_reducible exact tone_Swap.mono _ _)
      | (with_reducible exact tone_Tell.mono _ _ _)
      | (with_reducible exact tone_Turn.mono _ _ _)
      | (with_reducible exact LeO.refl _)
      | (with_reducible exact LeO.none _)
      | (with_reducible refine LeO.ite ?_ ?_)
      | (with_reducible refine LeO.bind ?_ (fun _ => ?_))
      | exact ih0 _ _ _ _
      | exact ih1 _ _ _ _
      | exact ih2 _ _ _ _ _ _
      | exact ih3 _ _ _ _ _ _
      | exact ih4 _ _ _ _ _ _ _
      | exact ih5 _ _ _ _ _ _ _
      | exact ih6 _ _ _
      | exact ih7 _ _ _ _ _ _ _
      | exact ih8 _ _ _ _ _
      | exact ih9 _ _ _
      | exact ih10 _ _ _ _ _
      | exact diaphoneref01_Gcd.mono _ _ _
      | exact diaphoneref01_SameInts.mono _ _ _
      | exact diaphonetop_cut.mono _ _ _ _
      | exact tone_Alike.mono _ _ _
      | exact tone_Back.mono _ _
      | exact tone_Listen.mono _ _ _
      | exact tone_Period.mono _ _
      | exact tone_Repeat.mono _ _ _
      | exact tone_Root.mono _ _
      | exact tone_Same.mono _ _ _
      | exact tone_Swap.mono _ _
      | exact tone_Tell.mono _ _ _
      | exact tone_Turn.mono _ _ _
      | exact LeO.none _
      | refine LeO.ite ?_ ?_
      | refine LeO.bind ?_ (fun _ => ?_)
    · intro y0 y1 y2 y3 y4 y5 y6
      unfold diaphonetop_TopTones.j4
      repeat' first
      | (with_reducible exact ih0 _ _ _ _)
      | (with_reducible exact ih1 _ _ _ _)
      | (with_reducible exact ih2 _ _ _ _ _ _)
      | (with_reducible exact ih3 _ _ _ _ _ _)
      | (with_reducible exact ih4 _ _ _ _ _ _ _)
      | (with_reducible exact ih5 _ _ _ _ _ _ _)
      | (with_reducible exact ih6 _ _ _)
      | (with_reducible exact ih7 _ _ _ _ _ _ _)
      | (with_reducible exact ih8 _ _ _ _ _)
      | (with_reducible exact ih9 _ _ _)
      | (with_reducible exact ih10 _ _ _ _ _)
      | (with_reducible exact diaphoneref01_Gcd.mono _ _ _)
      | (with_reducible exact diaphoneref01_SameInts.mono _ _ _)
      | (with_reducible exact diaphonetop_cut.mono _ _ _ _)
      | (with_reducible exact tone_Alike.mono _ _ _)
      | (with_reducible exact tone_Back.mono _ _)
      | (with_reducible exact tone_Listen.mono _ _ _)
      | (with_reducible exact tone_Period.mono _ _)
      | (with_reducible exact tone_Repeat.mono _ _ _)
      | (with_reducible exact tone_Root.mono _ _)
      | (with_reducible exact tone_Same.mono _ _ _)
      | (with_reducible exact tone_Swap.mono _ _)
      | (with_reducible exact tone_Tell.mono _ _ _)
      | (with_reducible exact tone_Turn.mono _ _ _)
      | (with_reducible exact LeO.refl _)
      | (with_reducible exact LeO.none _)
      | (with_reducible refine LeO.ite ?_ ?_)
      | (with_reducible refine LeO.bind ?_ (fun _ => ?_))
      | exact ih0 _ _ _ _
      | exact ih1 _ _ _ _
      | exact ih2 _ _ _ _ _ _
      | exact ih3 _ _ _ _ _ _
      | exact ih4 _ _ _ _ _ _ _
      | exact ih5 _ _ _ _ _ _ _
      | exact ih6 _ _ _
      | exact ih7 _ _ _ _ _ _ _
      | exact ih8 _ _ _ _ _
      | exact ih9 _ _ _
      | exact ih10 _ _ _ _ _
      | exact diaphoneref01_Gcd.mono _ _ _
      | exact diaphoneref01_SameInts.mono _ _ _
      | exact diaphonetop_cut.mono _ _ _ _
      | exact tone_Alike.mono _ _ _
      | exact tone_Back.mono _ _
      | exact tone_Listen.mono _ _ _
      | exact tone_Period.mono _ _
      | exact tone_Repeat.mono _ _ _
      | exact tone_Root.mono _ _
      | exact tone_Same.mono _ _ _
      | exact tone_Swap.mono _ _
      | exact tone_Tell.mono _ _ _
      | exact tone_Turn.mono _ _ _
      | exact LeO.none _
      | refine LeO.ite ?_ ?_
      | refine LeO.bind ?_ (fun _ => ?_)
    · intro y0 y1 y2 y3 y4 y5 y6
      unfold diaphonetop_TopTones.j5
      repeat' first
      | (with_reducible exact ih0 _ _ _ _)
      | (with_reducible exact ih1 _ _ _ _)
      | (with_reducible exact ih2 _ _ _ _ _ _)
      | (with_reducible exact ih3 _ _ _ _ _ _)
      | (with_reducible exact ih4 _ _ _ _ _ _ _)
      | (with_reducible exact ih5 _ _ _ _ _ _ _)
      | (with_reducible exact ih6 _ _ _)
      | (with_reducible exact ih7 _ _ _ _ _ _ _)
      | (with_reducible exact ih8 _ _ _ _ _)
      | (with_reducible exact ih9 _ _ _)
      | (with_reducible exact ih10 _ _ _ _ _)
      | (with_reducible exact diaphoneref01_Gcd.mono _ _ _)
      | (with_reducible exact diaphoneref01_SameInts.mono _ _ _)
      | (with_reducible exact diaphonetop_cut.mono _ _ _ _)
      | (with_reducible exact tone_Alike.mono _ _ _)
      | (with_reducible exact tone_Back.mono _ _)
      | (with_reducible exact tone_Listen.mono _ _ _)
      | (with_reducible exact tone_Period.mono _ _)
      | (with_reducible exact tone_Repeat.mono _ _ _)
      | (with_reducible exact tone_Root.mono _ _)
      | (with_reducible exact tone_Same.mono _ _ _)
      | (with_reducible exact tone_Swap.mono _ _)
      | (with_reducible exact tone_Tell.mono _ _ _)
      | (with_reducible exact tone_Turn.mono _ _ _)
      | (with_reducible exact LeO.refl _)
      | (with_reducible exact LeO.none _)
      | (with_reducible refine LeO.ite ?_ ?_)
      | (with_reducible refine LeO.bind ?_ (fun _ => ?_))
      | exact ih0 _ _ _ _
      | exact ih1 _ _ _ _
      | exact ih2 _ _ _ _ _ _
      | exact ih3 _ _ _ _ _ _
      | exact ih4 _ _ _ _ _ _ _
      | exact ih5 _ _ _ _ _ _ _
      | exact ih6 _ _ _
      | exact ih7 _ _ _ _ _ _ _
      | exact ih8 _ _ _ _ _
      | exact ih9 _ _ _
      | exact ih10 _ _ _ _ _
      | exact diaphoneref01_Gcd.mono _ _ _
      | exact diaphoneref01_SameInts.mono _ _ _
      | exact diaphonetop_cut.mono _ _ _ _
      | exact tone_Alike.mono _ _ _
      | exact tone_Back.mono _ _
      | exact tone_Listen.mono _ _ _
      | exact tone_Period.mono _ _
      | exact tone_Repeat.mono _ _ _
      | exact tone_Root.mono _ _
      | exact tone_Same.mono _ _ _
      | exact tone_Swap.mono _ _
      | exact tone_Tell.mono _ _ _
      | exact tone_Turn.mono _ _ _
      | exact LeO.none _
      | refine LeO.ite ?_ ?_
      | refine LeO.bind ?_ (fun _ => ?_)
    · intro y0 y1 y2
      unfold diaphonetop_TopTones.j6
      repeat' first
      | (with_reducible exact ih0 _ _ _ _)
      | (with_reducible exact ih1 _ _ _ _)
      | (with_reducible exact ih2 _ _ _ _ _ _)
      | (with_reducible exact ih3 _ _ _ _ _ _)
      | (with_reducible exact ih4 _ _ _ _ _ _ _)
      | (with_reducible exact ih5 _ _ _ _ _ _ _)
      | (with_reducible exact ih6 _ _ _)
      | (with_reducible exact ih7 _ _ _ _ _ _ _)
      | (with_reducible exact ih8 _ _ _ _ _)
      | (with_reducible exact ih9 _ _ _)
      | (with_reducible exact ih10 _ _ _ _ _)
      | (with_reducible exact diaphoneref01_Gcd.mono _ _ _)
      | (with_reducible exact diaphoneref01_SameInts.mono _ _ _)
      | (with_reducible exact diaphonetop_cut.mono _ _ _ _)
      | (with_reducible exact tone_Alike.mono _ _ _)
      | (with_reducible exact tone_Back.mono _ _)
      | (with_reducible exact tone_Listen.mono _ _ _)
      | (with_reducible exact tone_Period.mono _ _)
      | (with_reducible exact tone_Repeat.mono _ _ _)
      | (with_reducible exact tone_Root.mono _ _)
      | (with_reducible exact tone_Same.mono _ _ _)
      | (with_reducible exact tone_Swap.mono _ _)
      | (with_reducible exact tone_Tell.mono _ _ _)
      | (with_reducible exact tone_Turn.mono _ _ _)
      | (with_reducible exact LeO.refl _)
      | (with_reducible exact LeO.none _)
      | (with_reducible refine LeO.ite ?_ ?_)
      | (with_reducible refine LeO.bind ?_ (fun _ => ?_))
      | exact ih0 _ _ _ _
      | exact ih1 _ _ _ _
      | exact ih2 _ _ _ _ _ _
      | exact ih3 _ _ _ _ _ _
      | exact ih4 _ _ _ _ _ _ _
      | exact ih5 _ _ _ _ _ _ _
      | exact ih6 _ _ _
      | exact ih7 _ _ _ _ _ _ _
      | exact ih8 _ _ _ _ _
      | exact ih9 _ _ _
      | exact ih10 _ _ _ _ _
      | exact diaphoneref01_Gcd.mono _ _ _
      | exact diaphoneref01_SameInts.mono _ _ _
      | exact diaphonetop_cut.mono _ _ _ _
      | exact tone_Alike.mono _ _ _
      | exact tone_Back.mono _ _
      | exact tone_Listen.mono _ _ _
      | exact tone_Period.mono _ _
      | exact tone_Repeat.mono _ _ _
      | exact tone_Root.mono _ _
      | exact tone_Same.mono _ _ _
      | exact tone_Swap.mono _ _
      | exact tone_Tell.mono _ _ _
      | exact tone_Turn.mono _ _ _
      | exact LeO.none _
      | refine LeO.ite ?_ ?_
      | refine LeO.bind ?_ (fun _ => ?_)
    · intro y0 y1 y2 y3 y4 y5 y6
      unfold diaphonetop_TopTones.j7
      repeat' first
      | (with_reducible exact ih0 _ _ _ _)
      | (with_reducible exact ih1 _ _ _ _)
      | (with_reducible exact ih2 _ _ _ _ _ _)
      | (with_reducible exact ih3 _ _ _ _ _ _)
      | (with_reducible exact ih4 _ _ _ _ _ _ _)
      | (with_reducible exact ih5 _ _ _ _ _ _ _)
      | (with_reducible exact ih6 _ _ _)
      | (with_reducible exact ih7 _ _ _ _ _ _ _)
      | (with_reducible exact ih8 _ _ _ _ _)
      | (with_reducible exact ih9 _ _ _)
      | (with_reducible exact ih10 _ _ _ _ _)
      | (with_reducible exact diaphoneref01_Gcd.mono _ _ _)
      | (with_reducible exact diaphoneref01_SameInts.mono _ _ _)
      | (with_reducible exact diaphonetop_cut.mono _ _ _ _)
      | (with_reducible exact tone_Alike.mono _ _ _)
      | (with_reducible exact tone_Back.mono _ _)
      | (with_reducible exact tone_Listen.mono _ _ _)
      | (with_reducible exact tone_Period.mono _ _)
      | (with_reducible exact tone_Repeat.mono _ _ _)
      | (with_reducible exact tone_Root.mono _ _)
      | (with_reducible exact tone_Same.mono _ _ _)
      | (with_reducible exact tone_Swap.mono _ _)
      | (with_reducible exact tone_Tell.mono _ _ _)
      | (with_reducible exact tone_Turn.mono _ _ _)
      | (with_reducible exact LeO.refl _)
      | (with_reducible exact LeO.none _)
      | (with_reducible refine LeO.ite ?_ ?_)
      | (with_reducible refine LeO.bind ?_ (fun _ => ?_))
      | exact ih0 _ _ _ _
      | exact ih1 _ _ _ _
      | exact ih2 _ _ _ _ _ _
      | exact ih3 _ _ _ _ _ _
      | exact ih4 _ _ _ _ _ _ _
      | exact ih5 _ _ _ _ _ _ _
      | exact ih6 _ _ _
      | exact ih7 _ _ _ _ _ _ _
      | exact ih8 _ _ _ _ _
      | exact ih9 _ _ _
      | exact ih10 _ _ _ _ _
      | exact diaphoneref01_Gcd.mono _ _ _
      | exact diaphoneref01_SameInts.mono _ _ _
      | exact diaphonetop_cut.mono _ _ _ _
      | exact tone_Alike.mono _ _ _
      | exact tone_Back.mono _ _
      | exact tone_Listen.mono _ _ _
      | exact tone_Period.mono _ _
      | exact tone_Repeat.mono _ _ _
      | exact tone_Root.mono _ _
      | exact tone_Same.mono _ _ _
      | exact tone_Swap.mono _ _
      | exact tone_Tell.mono _ _ _
      | exact tone_Turn.mono _ _ _
      | exact LeO.none _
      | refine LeO.ite ?_ ?_
      | refine LeO.bind ?_ (fun _ => ?_)
    · intro y0 y1 y2 y3 y4
      unfold diaphonetop_TopTones.j8
      repeat' first
      | (with_reducible exact ih0 _ _ _ _)
      | (with_reducible exact ih1 _ _ _ _)
      | (with_reducible exact ih2 _ _ _ _ _ _)
      | (with_reducible exact ih3 _ _ _ _ _ _)
      | (with_reducible exact ih4 _ _ _ _ _ _ _)
      | (with_reducible exact ih5 _ _ _ _ _ _ _)
      | (with_reducible exact ih6 _ _ _)
      | (with_reducible exact ih7 _ _ _ _ _ _ _)
      | (with_reducible exact ih8 _ _ _ _ _)
      | (with_reducible exact ih9 _ _ _)
      | (with_reducible exact ih10 _ _ _ _ _)
      | (with_reducible exact diaphoneref01_Gcd.mono _ _ _)
      | (with_reducible exact diaphoneref01_SameInts.mono _ _ _)
      | (with_reducible exact diaphonetop_cut.mono _ _ _ _)
      | (with_reducible exact tone_Alike.mono _ _ _)
      | (with_reducible exact tone_Back.mono _ _)
      | (with_reducible exact tone_Listen.mono _ _ _)
      | (with_reducible exact tone_Period.mono _ _)
      | (with_reducible exact tone_Repeat.mono _ _ _)
      | (with_reducible exact tone_Root.mono _ _)
      | (with_reducible exact tone_Same.mono _ _ _)
      | (with_reducible exact tone_Swap.mono _ _)
      | (with_reducible exact tone_Tell.mono _ _ _)
      | (with_reducible exact tone_Turn.mono _ _ _)
      | (with_reducible exact LeO.refl _)
      | (with_reducible exact LeO.none _)
      | (with_reducible refine LeO.ite ?_ ?_)
      | (with_reducible refine LeO.bind ?_ (fun _ => ?_))
      | exact ih0 _ _ _ _
      | exact ih1 _ _ _ _
      | exact ih2 _ _ _ _ _ _
      | exact ih3 _ _ _ _ _ _
      | exact ih4 _ _ _ _ _ _ _
      | exact ih5 _ _ _ _ _ _ _
      | exact ih6 _ _ _
      | exact ih7 _ _ _ _ _ _ _
      | exact ih8 _ _ _ _ _
      | exact ih9 _ _ _
      | exact ih10 _ _ _ _ _
      | exact diaphoneref01_Gcd.mono _ _ _
      | exact diaphoneref01_SameInts.mono _ _ _
      | exact diaphonetop_cut.mono _ _ _ _
      | exact tone_Alike.mono _ _ _
      | exact tone_Back.mono _ _
      | exact tone_Listen.mono _ _ _
      | exact tone_Period.mono _ _
      | exact tone_Repeat.mono _ _ _
      | exact tone_Root.mono _ _
      | exact tone_Same.mono _ _ _
      | exact tone_Swap.mono _ _
      | exact tone_Tell.mono _ _ _
      | exact tone_Turn.mono _ _ _
      | exact LeO.none _
      | refine LeO.ite ?_ ?_
      | refine LeO.bind ?_ (fun _ => ?_)
    · intro y0 y1 y2
      unfold diaphonetop_TopTones.j9
      repeat' first
      | (with_reducible exact ih0 _ _ _ _)
      | (with_reducible exact ih1 _ _ _ _)
      | (with_reducible exact ih2 _ _ _ _ _ _)
      | (with_reducible exact ih3 _ _ _ _ _ _)
      | (with_reducible exact ih4 _ _ _ _ _ _ _)
      | (with_reducible exact ih5 _ _ _ _ _ _ _)
      | (with_reducible exact ih6 _ _ _)
      | (with_reducible exact ih7 _ _ _ _ _ _ _)
      | (with_reducible exact ih8 _ _ _ _ _)
      | (with_reducible exact ih9 _ _ _)
      | (with_reducible exact ih10 _ _ _ _ _)
      | (with_reducible exact diaphoneref01_Gcd.mono _ _ _)
      | (with_reducible exact diaphoneref01_SameInts.mono _ _ _)
      | (with_reducible exact diaphonetop_cut.mono _ _ _ _)
      | (with_reducible exact tone_Alike.mono _ _ _)
      | (with_reducible exact tone_Back.mono _ _)
      | (with_reducible exact tone_Listen.mono _ _ _)
      | (with_reducible exact tone_Period.mono _ _)
      | (with_reducible exact tone_Repeat.mono _ _ _)
      | (with_reducible exact tone_Root.mono _ _)
      | (with_reducible exact tone_Same.mono _ _ _)
      | (with_reducible exact tone_Swap.mono _ _)
      | (with_reducible exact tone_Tell.mono _ _ _)
      | (with_reducible exact tone_Turn.mono _ _ _)
      | (with_reducible exact LeO.refl _)
      | (with_reducible exact LeO.none _)
      | (with_reducible refine LeO.ite ?_ ?_)
      | (with_reducible refine LeO.bind ?_ (fun _ => ?_))
      | exact ih0 _ _ _ _
      | exact ih1 _ _ _ _
      | exact ih2 _ _ _ _ _ _
      | exact ih3 _ _ _ _ _ _
      | exact ih4 _ _ _ _ _ _ _
      | exact ih5 _ _ _ _ _ _ _
      | exact ih6 _ _ _
      | exact ih7 _ _ _ _ _ _ _
      | exact ih8 _ _ _ _ _
      | exact ih9 _ _ _
      | exact ih10 _ _ _ _ _
      | exact diaphoneref01_Gcd.mono _ _ _
      | exact diaphoneref01_SameInts.mono _ _ _
      | exact diaphonetop_cut.mono _ _ _ _
      | exact tone_Alike.mono _ _ _
      | exact tone_Back.mono _ _
      | exact tone_Listen.mono _ _ _
      | exact tone_Period.mono _ _
      | exact tone_Repeat.mono _ _ _
      | exact tone_Root.mono _ _
      | exact tone_Same.mono _ _ _
      | exact tone_Swap.mono _ _
      | exact tone_Tell.mono _ _ _
      | exact tone_Turn.mono _ _ _
      | exact LeO.none _
      | refine LeO.ite ?_ ?_
      | refine LeO.bind ?_ (fun _ => ?_)
    · intro y0 y1 y2 y3 y4
      unfold diaphonetop_TopTones.j10
      repeat' first
      | (with_reducible exact ih0 _ _ _ _)
      | (with_reducible exact ih1 _ _ _ _)
      | (with_reducible exact ih2 _ _ _ _ _ _)
      | (with_reducible exact ih3 _ _ _ _ _ _)
      | (with_reducible exact ih4 _ _ _ _ _ _ _)
      | (with_reducible exact ih5 _ _ _ _ _ _ _)
      | (with_reducible exact ih6 _ _ _)
      | (with_reducible exact ih7 _ _ _ _ _ _ _)
      | (with_reducible exact ih8 _ _ _ _ _)
      | (with_reducible exact ih9 _ _ _)
      | (with_reducible exact ih10 _ _ _ _ _)
      | (with_reducible exact diaphoneref01_Gcd.mono _ _ _)
      | (with_reducible exact diaphoneref01_SameInts.mono _ _ _)
      | (with_reducible exact diaphonetop_cut.mono _ _ _ _)
      | (with_reducible exact tone_Alike.mono _ _ _)
      | (with_reducible exact tone_Back.mono _ _)
      | (with_reducible exact tone_Listen.mono _ _ _)
      | (with_reducible exact tone_Period.mono _ _)
      | (with_reducible exact tone_Repeat.mono _ _ _)
      | (with_reducible exact tone_Root.mono _ _)
      | (with_reducible exact tone_Same.mono _ _ _)
      | (with_reducible exact tone_Swap.mono _ _)
      | (with_reducible exact tone_Tell.mono _ _ _)
      | (with_reducible exact tone_Turn.mono _ _ _)
      | (with_reducible exact LeO.refl _)
      | (with_reducible exact LeO.none _)
      | (with_reducible refine LeO.ite ?_ ?_)
      | (with_reducible refine LeO.bind ?_ (fun _ => ?_))
      | exact ih0 _ _ _ _
      | exact ih1 _ _ _ _
      | exact ih2 _ _ _ _ _ _
      | exact ih3 _ _ _ _ _ _
      | exact ih4 _ _ _ _ _ _ _
      | exact ih5 _ _ _ _ _ _ _
      | exact ih6 _ _ _
      | exact ih7 _ _ _ _ _ _ _
      | exact ih8 _ _ _ _ _
      | exact ih9 _ _ _
      | exact ih10 _ _ _ _ _
      | exact diaphoneref01_Gcd.mono _ _ _
      | exact diaphoneref01_SameInts.mono _ _ _
      | exact diaphonetop_cut.mono _ _ _ _
      | exact tone_Alike.mono _ _ _
      | exact tone_Back.mono _ _
      | exact tone_Listen.mono _ _ _
      | exact tone_Period.mono _ _
      | exact tone_Repeat.mono _ _ _
      | exact tone_Root.mono _ _
      | exact tone_Same.mono _ _ _
      | exact tone_Swap.mono _ _
      | exact tone_Tell.mono _ _ _
      | exact tone_Turn.mono _ _ _
      | exact LeO.none _
      | refine LeO.ite ?_ ?_
      | refine LeO.bind ?_ (fun _ => ?_)
theorem diaphonetop_TopTones.mono : ∀ a0 a1 a2 k, LeO (diaphonetop_TopTones.f k a0 a1 a2) (diaphonetop_TopTones.f (k + 1) a0 a1 a2) := by
  intro a0 a1 a2 k
  obtain ⟨ih0, ih1, ih2, ih3, ih4, ih5, ih6, ih7, ih8, ih9, ih10⟩ := diaphonetop_TopTones.mono_l k
  unfold diaphonetop_TopTones.f
  repeat' first
      | (with_reducible exact ih0 _ _ _ _)
      | (with_reducible exact ih1 _ _ _ _)
      | (with_reducible exact ih2 _ _ _ _ _ _)
      | (with_reducible exact ih3 _ _ _ _ _ _)
      | (with_reducible exact ih4 _ _ _ _ _ _ _)
      | (with_reducible exact ih5 _ _ _ _ _ _ _)
      | (with_reducible exact ih6 _ _ _)
      | (with_reducible exact ih7 _ _ _ _ _ _ _)
      | (with_reducible exact ih8 _ _ _ _ _)
      | (with_reducible exact ih9 _ _ _)
      | (with_reducible exact ih10 _ _ _ _ _)
      | (with_reducible exact diaphoneref01_Gcd.mono _ _ _)
      | (with_reducible exact diaphoneref01_SameInts.mono _ _ _)
      | (with_reducible exact diaphonetop_cut.mono _ _ _ _)
      | (with_reducible exact tone_Alike.mono _ _ _)
      | (with_reducible exact tone_Back.mono _ _)
      | (with_reducible exact tone_Listen.mono _ _ _)
      | (with_reducible exact tone_Period.mono _ _)
      | (with_reducible exact tone_Repeat.mono _ _ _)
      | (with_reducible exact tone_Root.mono _ _)
      | (with_reducible exact tone_Same.mono _ _ _)
      | (with_reducible exact tone_Swap.mono _ _)
      | (with_reducible exact tone_Tell.mono _ _ _)
      | (with_reducible exact tone_Turn.mono _ _ _)
      | (with_reducible exact LeO.refl _)
      | (with_reducible exact LeO.none _)
      | (with_reducible refine LeO.ite ?_ ?_)
      | (with_reducible refine LeO.bind ?_ (fun _ => ?_))
      | exact ih0 _ _ _ _
      | exact ih1 _ _ _ _
      | exact ih2 _ _ _ _ _ _
      | exact ih3 _ _ _ _ _ _
      | exact ih4 _ _ _ _ _ _ _
      | exact ih5 _ _ _ _ _ _ _
      | exact ih6 _ _ _
      | exact ih7 _ _ _ _ _ _ _
      | exact ih8 _ _ _ _ _
      | exact ih9 _ _ _
      | exact ih10 _ _ _ _ _
      | exact diaphoneref01_Gcd.mono _ _ _
      | exact diaphoneref01_SameInts.mono _ _ _
      | exact diaphonetop_cut.mono _ _ _ _
      | exact tone_Alike.mono _ _ _
      | exact tone_Back.mono _ _
      | exact tone_Listen.mono _ _ _
      | exact tone_Period.mono _ _
      | exact tone_Repeat.mono _ _ _
      | exact tone_Root.mono _ _
      | exact tone_Same.mono _ _ _
      | exact tone_Swap.mono _ _
      | exact tone_Tell.mono _ _ _
      | exact tone_Turn.mono _ _ _
      | exact LeO.none _
      | refine LeO.ite ?_ ?_
      | refine LeO.bind ?_ (fun _ => ?_)
set_option maxHeartbeats 8000000 in
set_option maxRecDepth 100000 in
theorem diaphonetop_TopTones.calls (k : Nat) (P0_ : Nat → Prop) (A0 : Option Addr) (c0 : Nat) (l0 : List Int) (P1_ : Nat → Prop) (A1 : Option Addr) (c1 : Nat) (l1 : List Int) (a2 : Int) (r : Bool) (w : World) (hs0 : Kd.V (Kd.int .i64) 3 w w.heap.size (fun k_ => P0_ k_) (.slice A0 l0.length c0) l0) (hs1 : Kd.V (Kd.int .i64) 3 w w.heap.size (fun k_ => P1_ k_) (.slice A1 l1.length c1) l1) (h : diaphonetop_TopTones.f k l0 l1 a2 = some r) :
    Calls Try.prog 17 #[.slice A0 l0.length c0, .slice A1 l1.length c1, .int .i64 a2] w fun e w' => e = .returned (.bool r) ∧ Below w.heap.size w w' := by
  have HO0 := Aside0.mk (show Kd.V (Kd.int .i64) 3 w w.heap.size (fun k_ => ((P0_ k_ ∨ P1_ k_) ∨ w.heap.size ≤ k_)) (.slice A0 l0.length c0) l0 from Kd.V_mono hs0 (fun k_ hk => .inl (.inl hk)))
  have HO1 := Aside0.mk (show Kd.V (Kd.int .i64) 3 w w.heap.size (fun k_ => ((P0_ k_ ∨ P1_ k_) ∨ w.heap.size ≤ k_)) (.slice A1 l1.length c1) l1 from Kd.V_mono hs1 (fun k_ hk => .inl (.inr hk)))
  have HB := Aside0.mk (Below.refl w.heap.size w)
  have H : ((tone_Listen.f k (([1, 0] : List Int)) (([1, 0, 0] : List Int))).bind fun bt107 => (if bt107.2.2 = 0 then (if bt107.2.1 = true then (diaphonetop_TopTones.j0 k l0 l1 a2 (bt107.1 != 4)) else (diaphonetop_TopTones.j0 k l0 l1 a2 true)) else (diaphonetop_TopTones.j0 k l0 l1 a2 true))) = some r := h
  clear h
  obtain ⟨y101, hy101⟩ : ∃ y_ : List Int, y_ = (([1, 0] : List Int)) := ⟨_, rfl⟩
  replace H : ((tone_Listen.f k y101 (([1, 0, 0] : List Int))).bind fun bt107 => (if bt107.2.2 = 0 then (if bt107.2.1 = true then (diaphonetop_TopTones.j0 k l0 l1 a2 (bt107.1 != 4)) else (diaphonetop_TopTones.j0 k l0 l1 a2 true)) else (diaphonetop_TopTones.j0 k l0 l1 a2 true))) = some r := by first | (rw [hy101]; with_reducible exact H) | (have H2_ := (Option.bind_some _ _).symm.trans H; rw [hy101]; with_reducible exact H2_) | (have H2_ := (Option.bind_some _ _).symm.trans H; with_reducible exact H2_) | with_reducible exact H | (rw [hy101]; exact H) | exact H
  have Ny101 := Aside0.mk hy101
  clear hy101
  obtain ⟨y104, hy104⟩ : ∃ y_ : List Int, y_ = (([1, 0, 0] : List Int)) := ⟨_, rfl⟩
  replace H : ((tone_Listen.f k y101 y104).bind fun bt107 => (if bt107.2.2 = 0 then (if bt107.2.1 = true then (diaphonetop_TopTones.j0 k l0 l1 a2 (bt107.1 != 4)) else (diaphonetop_TopTones.j0 k l0 l1 a2 true)) else (diaphonetop_TopTones.j0 k l0 l1 a2 true))) = some r := by first | (rw [hy104]; with_reducible exact H) | (have H2_ := (Option.bind_some _ _).symm.trans H; rw [hy104]; with_reducible exact H2_) | (have H2_ := (Option.bind_some _ _).symm.trans H; with_reducible exact H2_) | with_reducible exact H | (rw [hy104]; exact H) | exact H
  have Ny104 := Aside0.mk hy104
  clear hy104
  replace H := Option.bind_eq_some_iff.mp H
  obtain ⟨⟨t107, t108, t109⟩, A40, H⟩ := H
  replace H : (if t109 = 0 then (if t108 = true then (diaphonetop_TopTones.j0 k l0 l1 a2 (t107 != 4)) else (diaphonetop_TopTones.j0 k l0 l1 a2 true)) else (diaphonetop_TopTones.j0 k l0 l1 a2 true)) = some r := H
  have A4 := Aside0.mk A40
  clear A40
  have HC5 := Aside0.mk H
  clear H
  go_enter Try.func17, Try.ntmps17
  go_upto_region 2 with (first | ((with_reducible refine gate_dst (N := 39) rfl ?_); (try (refine gate_guard (by rfl) ?_; dsimp only)); refine Kd.R_lit (Kd.int .i64) _ 3 ?hg (N := 39) ?hd (xs := ([1, 0] : List Int)) (inner := [.int .i64 1, .int .i64 0]) (ok := fun _ => True) (okp := fun _ => True) ?hr ?hp (fun _ hk => hk) trivial (Below.refl _ _) (Nat.le_refl _) (by simp) ?_; (case hd => rfl); (case hg => rfl); (case hr => first | (go_simp; done) | (go_simp; rfl)); (case hp => exact (Reps.one (show Kd.M (Kd.int .i64) _ _ _ 1 [.int .i64 1] from rfl) (Reps.one (show Kd.M (Kd.int .i64) _ _ _ 0 [.int .i64 0] from rfl) (Reps.none _ _)))); intro v102 w6 ho7 hb hg_ hnew_; clear hg_ hnew_; (first | rw [← Ny101.out] at ho7 | (simp only [Int.reduceToNat] at ho7; rw [← Ny101.out] at ho7)); have n0_ := Aside0.mk (Kd.V_elder' (by (with_reducible repeat (first | apply Kd.V_alloc | apply Kd.V_drewN | apply Kd.V_drew)); exact HO0.out) (Kd.R_base ho7) hb); have n1_ := Aside0.mk (Kd.V_elder' (by (with_reducible repeat (first | apply Kd.V_alloc | apply Kd.V_drewN | apply Kd.V_drew)); exact HO1.out) (Kd.R_base ho7) hb); have n2_ := Aside0.mk (Kd.R_lower (Kd.R_newM (M := fun k_ => (w.heap.size ≤ k_)) ho7 (below_size (by repeat (first | (with_reducible first | exact HB.out | apply below_alloc | apply pw_below_drewN | apply below_drew1) | exact HB.out))) (fun k_ h_ => h_)) (below_size (by repeat (first | (with_reducible first | exact HB.out | apply below_alloc | apply pw_below_drewN | apply below_drew1) | exact HB.out)))); have n3_ := Aside0.mk (below_step (by repeat (first | (with_reducible first | exact HB.out | apply below_alloc | apply pw_below_drewN | apply below_drew1) | exact HB.out)) hb); clear HO0; clear HO1; clear HB; have HO0 := n0_; have HO1 := n1_; have HO103 := n2_; have HB := n3_; clear n0_ n1_ n2_ n3_; clear hb ho7) | ((with_reducible refine gate_dst (N := 40) rfl ?_); (try (refine gate_guard (by rfl) ?_; dsimp only)); refine Kd.R_lit (Kd.int .i64) _ 3 ?hg (N := 40) ?hd (xs := ([1, 0, 0] : List Int)) (inner := [.int .i64 1, .int .i64 0, .int .i64 0]) (ok := fun _ => True) (okp := fun _ => True) ?hr ?hp (fun _ hk => hk) trivial (Below.refl _ _) (Nat.le_refl _) (by simp) ?_; (case hd => rfl); (case hg => rfl); (case hr => first | (go_simp; done) | (go_simp; rfl)); (case hp => exact (Reps.one (show Kd.M (Kd.int .i64) _ _ _ 1 [.int .i64 1] from rfl) (Reps.one (show Kd.M (Kd.int .i64) _ _ _ 0 [.int .i64 0] from rfl) (Reps.one (show Kd.M (Kd.int .i64) _ _ _ 0 [.int .i64 0] from rfl) (Reps.none _ _))))); intro v105 w8 ho9 hb hg_ hnew_; clear hg_ hnew_; (first | rw [← Ny104.out] at ho9 | (simp only [Int.reduceToNat] at ho9; rw [← Ny104.out] at ho9)); have n0_ := Aside0.mk (Kd.V_elder' (by (with_reducible repeat (first | apply Kd.V_alloc | apply Kd.V_drewN | apply Kd.V_drew)); exact HO0.out) (Kd.R_base ho9) hb); have n1_ := Aside0.mk (Kd.V_elder' (by (with_reducible repeat (first | apply Kd.V_alloc | apply Kd.V_drewN | apply Kd.V_drew)); exact HO1.out) (Kd.R_base ho9) hb); have n2_ := Aside0.mk (Kd.R_elder' (by (with_reducible repeat (first | apply Kd.R_alloc | apply Kd.R_drewN | apply Kd.R_drew)); exact HO103.out) (Kd.R_base ho9) hb); have n3_ := Aside0.mk (Kd.R_lower (Kd.R_new' (Kd.R_newM (M := fun k_ => (w.heap.size ≤ k_)) ho9 (below_size (by repeat (first | (with_reducible first | exact HB.out | apply below_alloc | apply pw_below_drewN | apply below_drew1) | exact HB.out))) (fun k_ h_ => h_)) (Kd.R_lt (by (with_reducible repeat (first | apply Kd.R_alloc | apply Kd.R_drewN | apply Kd.R_drew)); exact HO103.out))) (below_size (by repeat (first | (with_reducible first | exact HB.out | apply below_alloc | apply pw_below_drewN | apply below_drew1) | exact HB.out)))); have n4_ := Aside0.mk (below_step (by repeat (first | (with_reducible first | exact HB.out | apply below_alloc | apply pw_below_drewN | apply below_drew1) | exact HB.out)) hb); clear HO0; clear HO1; clear HO103; clear HB; have HO0 := n0_; have HO1 := n1_; have HO103 := n2_; have HO106 := n3_; have HB := n4_; clear n0_ n1_ n2_ n3_ n4_; clear hb ho9; obtain ⟨Ao10, co10, eo10⟩ := Kd.R_slice HO103.out; subst eo10; obtain ⟨Ao11, co11, eo11⟩ := Kd.R_slice HO106.out; subst eo11) | ((with_reducible refine gate_callee (f := 54) rfl ?_); refine goesL_ (some 41) rfl rfl Try.func54 (by kernel_rfl) rfl #[.slice Ao10 y101.length co10, .slice Ao11 y104.length co11] rfl (by (try simp only [List.map_toArray, List.map_cons, List.map_nil]); first | done | rfl | (simp only [List.length_drop, List.length_take]; rfl)) ?_; (with_reducible refine (tone_Listen.calls k _ _ y101 _ _ y104 t107 t108 t109 _ ?side1 ?side2 ?side3 ?side4 A4.out).mono ?_); (case side1 => repeat (first | exact (Kd.R_reads' HO103.out).2.2 | (with_reducible refine Kd.C_alloc ?_ _) | (with_reducible refine Kd.C_drewN ?_ _) | (with_reducible refine Kd.C_drew ?_))); (case side2 => exact (Kd.R_reads' HO103.out).2.1); (case side3 => repeat (first | exact (Kd.R_reads' HO106.out).2.2 | (with_reducible refine Kd.C_alloc ?_ _) | (with_reducible refine Kd.C_drewN ?_ _) | (with_reducible refine Kd.C_drew ?_))); (case side4 => exact (Kd.R_reads' HO106.out).2.1); rintro e w12 ⟨rfl, hb⟩; refine ⟨_, rfl, ?_⟩; have n0_ := Aside0.mk (Kd.V_below (by (with_reducible repeat (first | apply Kd.V_alloc | apply Kd.V_drewN | apply Kd.V_drew)); exact HO0.out) hb); have n1_ := Aside0.mk (Kd.V_below (by (with_reducible repeat (first | apply Kd.V_alloc | apply Kd.V_drewN | apply Kd.V_drew)); exact HO1.out) hb); have n2_ := Aside0.mk (Kd.R_below (by (with_reducible repeat (first | apply Kd.R_alloc | apply Kd.R_drewN | apply Kd.R_drew)); exact HO103.out) hb); have n3_ := Aside0.mk (Kd.R_below (by (with_reducible repeat (first | apply Kd.R_alloc | apply Kd.R_drewN | apply Kd.R_drew)); exact HO106.out) hb); have n4_ := Aside0.mk (below_step (by repeat (first | (with_reducible first | exact HB.out | apply below_alloc | apply pw_below_drewN | apply below_drew1) | exact HB.out)) hb); clear HO0; clear HO1; clear HO103; clear HO106; clear HB; have HO0 := n0_; have HO1 := n1_; have HO103 := n2_; have HO106 := n3_; have HB := n4_; clear n0_ n1_ n2_ n3_ n4_; (try clear hb); (try clear hb2); (try clear hk); (try clear hi)))
  (try simp only [Act.put, List.setIfInBounds_toArray, List.set_cons_zero, List.set_cons_succ])
  go_cut [54] (fun v54 wc => ∃ (kq : Nat) (x54_4 : Bool), v54 = .bool x54_4 ∧ Aside0 (diaphonetop_TopTones.j0 kq l0 l1 a2 x54_4 = some r) ∧ Aside0 (kq ≤ k) ∧ Aside0 (Kd.V (Kd.int .i64) 3 wc w.heap.size (fun k_ => ((P0_ k_ ∨ P1_ k_) ∨ w.heap.size ≤ k_)) (.slice A0 l0.length c0) l0) ∧ Aside0 (Kd.V (Kd.int .i64) 3 wc w.heap.size (fun k_ => ((P0_ k_ ∨ P1_ k_) ∨ w.heap.size ≤ k_)) (.slice A1 l1.length c1) l1) ∧ Aside0 (Below w.heap.size w wc))
  case first =>
    have H := HC5.out
    clear HC5
    by_cases c13 : t109 = 0
    · rw [if_pos c13] at H
      have c13b0 : (t109 == 0) = true := beq_iff_eq.mpr c13
      have c13b1 : (t109 != 0) = false := bne_eq_false_iff_eq.mpr c13
      clear c13
      (first | rw [c13b0] | (simp only [i64_w, i32_w]; rw [c13b0]) | skip)
      by_cases c14 : t108 = true
      · subst c14
        have H1 : (diaphonetop_TopTones.j0 k l0 l1 a2 (t107 != 4)) = some r := by rw [if_pos rfl] at H; exact H
        clear H
        have H := H1
        clear H1
        have H' := Aside0.mk H
        clear H
        go_wp2
        go_meet
        case rel => exact ⟨_, ((t107 != 4)), (by first | rfl | (simp; done) | (simp [*]; done)), H', ⟨by first | omega | exact Nat.le_refl _⟩, ⟨by (with_reducible repeat (first | apply Kd.V_alloc | apply Kd.V_drewN | apply Kd.V_drew)); exact Kd.V_mono HO0.out (fun _ hk => hk.1.1)⟩, ⟨by (with_reducible repeat (first | apply Kd.V_alloc | apply Kd.V_drewN | apply Kd.V_drew)); exact Kd.V_mono HO1.out (fun _ hk => hk.1.1)⟩, ⟨by repeat (first | (with_reducible first | exact HB.out | apply below_alloc | apply pw_below_drewN | apply below_drew1) | exact HB.out)⟩⟩
      · replace c14 := Bool.eq_false_iff.mpr c14
        subst c14
        have H1 : (diaphonetop_TopTones.j0 k l0 l1 a2 true) = some r := by rw [if_neg (show ¬ (false = true) by decide)] at H; exact H
        clear H
        have H := H1
        clear H1
        have H' := Aside0.mk H
        clear H
        go_wp2
        go_meet
        case rel => exact ⟨_, (true), (by first | rfl | (simp; done) | (simp [*]; done)), H', ⟨by first | omega | exact Nat.le_refl _⟩, ⟨by (with_reducible repeat (first | apply Kd.V_alloc | apply Kd.V_drewN | apply Kd.V_drew)); exact Kd.V_mono HO0.out (fun _ hk => hk.1.1)⟩, ⟨by (with_reducible repeat (first | apply Kd.V_alloc | apply Kd.V_drewN | apply Kd.V_drew)); exact Kd.V_mono HO1.out (fun _ hk => hk.1.1)⟩, ⟨by repeat (first | (with_reducible first | exact HB.out | apply below_alloc | apply pw_below_drewN | apply below_drew1) | exact HB.out)⟩⟩
    · rw [if_neg c13] at H
      have c13b0 : (t109 == 0) = false := beq_eq_false_iff_ne.mpr c13
      have c13b1 : (t109 != 0) = true := bne_iff_ne.mpr c13
      (first | rw [c13b0] | (simp only [i64_w, i32_w]; rw [c13b0]) | skip)
      have H' := Aside0.mk H
      clear H
      go_wp2
      go_meet
      case rel => exact ⟨_, (true), (by first | rfl | (simp; done) | (simp [*]; done)), H', ⟨by first | omega | exact Nat.le_refl _⟩, ⟨by (with_reducible repeat (first | apply Kd.V_alloc | apply Kd.V_drewN | apply Kd.V_drew)); exact Kd.V_mono HO0.out (fun _ hk => hk.1.1)⟩, ⟨by (with_reducible repeat (first | apply Kd.V_alloc | apply Kd.V_drewN | apply Kd.V_drew)); exact Kd.V_mono HO1.out (fun _ hk => hk.1.1)⟩, ⟨by repeat (first | (with_reducible first | exact HB.out | apply below_alloc | apply pw_below_drewN | apply below_drew1) | exact HB.out)⟩⟩
  case rest =>
    clear HC5
    try clear c1
    try clear p2
    try clear c5
    try clear c13
    try clear c13b0
    try clear c13b1
    try clear c14
    obtain ⟨kq, x54_4, rfl, HA, HJ4, HO_0, HO_1, HB⟩ := hcut
    cases kq with
    | zero => exact absurd HA.out (by simp [diaphonetop_TopTones.j0])
    | succ kj4 =>
      have H := HA.out
      clear HA
      simp only [diaphonetop_TopTones.j0] at H
      by_cases c15 : x54_4 = true
      · subst c15
        have H1 : (none) = some r := by rw [if_pos rfl] at H; exact H
        exact absurd H1 (by simp)
      · as_aux_lemma =>
        replace c15 := Bool.eq_false_iff.mpr c15
        subst c15
        have H1 : ((diaphonelaw01_Long.f l0).bind fun t110 => (if t110 = true then (diaphonetop_TopTones.j1 kj4 l0 l1 a2 true) else ((diaphonelaw01_Long.f l1).bind fun t111 => (diaphonetop_TopTones.j1 kj4 l0 l1 a2 t111)))) = some r := by rw [if_neg (show ¬ (false = true) by decide)] at H; exact H
        clear H
        have H := H1
        clear H1
        have HC16 := Aside0.mk H
        clear H
        go_upto_region 4 with (fail)
        go_cut [60] (fun v60 wc => ∃ (kq : Nat) (x60_15 : Bool), v60 = .bool x60_15 ∧ Aside0 (diaphonetop_TopTones.j1 kq l0 l1 a2 x60_15 = some r) ∧ Aside0 (kq ≤ kj4) ∧ Aside0 (Kd.V (Kd.int .i64) 3 wc w.heap.size (fun k_ => ((P0_ k_ ∨ P1_ k_) ∨ w.heap.size ≤ k_)) (.slice A0 l0.length c0) l0) ∧ Aside0 (Kd.V (Kd.int .i64) 3 wc w.heap.size (fun k_ => ((P0_ k_ ∨ P1_ k_) ∨ w.heap.size ≤ k_)) (.slice A1 l1.length c1) l1) ∧ Aside0 (Below w.heap.size w wc))
        case first =>
          have H := HC16.out
          clear HC16
          replace H := Option.bind_eq_some_iff.mp H
          obtain ⟨t110, A170, H⟩ := H
          replace H : (if t110 = true then (diaphonetop_TopTones.j1 kj4 l0 l1 a2 true) else ((diaphonelaw01_Long.f l1).bind fun t111 => (diaphonetop_TopTones.j1 kj4 l0 l1 a2 t111))) = some r := H
          have A17 := Aside0.mk A170
          clear A170
          by_cases c18 : t110 = true
          · subst c18
            have H1 : (diaphonetop_TopTones.j1 kj4 l0 l1 a2 true) = some r := by rw [if_pos rfl] at H; exact H
            clear H
            have H := H1
            clear H1
            have H' := Aside0.mk H
            clear H
            go_wp2_with (first | ((with_reducible refine gate_callee (f := 18) rfl ?_); refine goesL_ (some 56) rfl rfl Try.func18 (by kernel_rfl) rfl #[.slice A0 l0.length c0] rfl (by (try simp only [List.map_toArray, List.map_cons, List.map_nil]); first | done | rfl | (simp only [List.length_drop, List.length_take]; rfl)) ?_; (with_reducible refine (diaphonelaw01_Long.calls _ _ l0 true _ ?side1 ?side2 A17.out).mono ?_); (case side1 => repeat (first | exact (Kd.V_reads' HO_0.out).2.2 | (with_reducible refine Kd.C_alloc ?_ _) | (with_reducible refine Kd.C_drewN ?_ _) | (with_reducible refine Kd.C_drew ?_))); (case side2 => exact (Kd.V_reads' HO_0.out).2.1); rintro e w' ⟨rfl, ⟨nd, rfl⟩⟩; refine ⟨_, rfl, ?_⟩))
            go_meet
            case rel => exact ⟨_, (true), (by first | rfl | (simp; done) | (simp [*]; done)), H', ⟨by have := HJ4.out; first | omega | exact Nat.le_refl _⟩, ⟨by (with_reducible repeat (first | apply Kd.V_alloc | apply Kd.V_drewN | apply Kd.V_drew)); exact HO_0.out⟩, ⟨by (with_reducible repeat (first | apply Kd.V_alloc | apply Kd.V_drewN | apply Kd.V_drew)); exact HO_1.out⟩, ⟨by repeat (first | (with_reducible first | exact HB.out | apply below_alloc | apply pw_below_drewN | apply below_drew1) | exact HB.out)⟩⟩
          · replace c18 := Bool.eq_false_iff.mpr c18
            subst c18
            have H1 : ((diaphonelaw01_Long.f l1).bind fun t111 => (diaphonetop_TopTones.j1 kj4 l0 l1 a2 t111)) = some r := by rw [if_neg (show ¬ (false = true) by decide)] at H; exact H
            clear H
            have H := H1
            clear H1
            replace H := Option.bind_eq_some_iff.mp H
            obtain ⟨t111, A190, H⟩ := H
            replace H : (diaphonetop_TopTones.j1 kj4 l0 l1 a2 t111) = some r := H
            have A19 := Aside0.mk A190
            clear A190
            have H' := Aside0.mk H
            clear H
            go_wp2_with (first | ((with_reducible refine gate_callee (f := 18) rfl ?_); refine goesL_ (some 56) rfl rfl Try.func18 (by kernel_rfl) rfl #[.slice A0 l0.length c0] rfl (by (try simp only [List.map_toArray, List.map_cons, List.map_nil]); first | done | rfl | (simp only [List.length_drop, List.length_take]; rfl)) ?_; (with_reducible refine (diaphonelaw01_Long.calls _ _ l0 false _ ?side1 ?side2 A17.out).mono ?_); (case side1 => repeat (first | exact (Kd.V_reads' HO_0.out).2.2 | (with_reducible refine Kd.C_alloc ?_ _) | (with_reducible refine Kd.C_drewN ?_ _) | (with_reducible refine Kd.C_drew ?_))); (case side2 => exact (Kd.V_reads' HO_0.out).2.1); rintro e w' ⟨rfl, ⟨nd, rfl⟩⟩; refine ⟨_, rfl, ?_⟩) | (go_at_call 18; (with_reducible refine (diaphonelaw01_Long.calls _ _ l1 t111 _ ?side1 ?side2 A19.out).mono ?_); (case side1 => repeat (first | exact (Kd.V_reads' HO_1.out).2.2 | (with_reducible refine Kd.C_alloc ?_ _) | (with_reducible refine Kd.C_drewN ?_ _) | (with_reducible refine Kd.C_drew ?_))); (case side2 => exact (Kd.V_reads' HO_1.out).2.1); rintro e w' ⟨rfl, ⟨nd, rfl⟩⟩))
            go_meet
            case rel => exact ⟨_, (t111), (by first | rfl | (simp; done) | (simp [*]; done)), H', ⟨by have := HJ4.out; first | omega | exact Nat.le_refl _⟩, ⟨by (with_reducible repeat (first | apply Kd.V_alloc | apply Kd.V_drewN | apply Kd.V_drew)); exact HO_0.out⟩, ⟨by (with_reducible repeat (first | apply Kd.V_alloc | apply Kd.V_drewN | apply Kd.V_drew)); exact HO_1.out⟩, ⟨by repeat (first | (with_reducible first | exact HB.out | apply below_alloc | apply pw_below_drewN | apply below_drew1) | exact HB.out)⟩⟩
        case rest =>
          clear HC16
          try clear c1
          try clear p2
          try clear c5
          try clear c13
          try clear c13b0
          try clear c13b1
          try clear c14
          try clear c15
          try clear c17
          try clear c18
          try clear p2
          obtain ⟨kq, x60_15, rfl, HA, HJ15, HO_0, HO_1, HB⟩ := hcut
          cases kq with
          | zero => exact absurd HA.out (by simp [diaphonetop_TopTones.j1])
          | succ kj15 =>
            have H := HA.out
            clear HA
            simp only [diaphonetop_TopTones.j1] at H
            by_cases c20 : x60_15 = true
            · subst c20
              have H1 : (some true) = some r := by rw [if_pos rfl] at H; exact H
              clear H
              have H := H1
              clear H1
              obtain rfl := Option.some.inj H
              go_wp2
              go_ret
              exact ⟨by first | rfl | (simp [errW_none, errW_some] <;> rfl) | (simp [*, errW_none, errW_some] <;> rfl), by repeat (first | (with_reducible first | exact HB.out | apply below_alloc | apply pw_below_drewN | apply below_drew1) | exact HB.out)⟩
            · as_aux_lemma =>
              replace c20 := Bool.eq_false_iff.mpr c20
              subst c20
              have H1 : ((tone_Period.f kj15 l0).bind fun bt112 => ((tone_Period.f kj15 l1).bind fun bt114 => (if bt112.2 = 0 then (diaphonetop_TopTones.j2 kj15 l0 l1 a2 bt112.1 bt114.1 (bt114.2 != 0)) else (diaphonetop_TopTones.j2 kj15 l0 l1 a2 bt112.1 bt114.1 true)))) = some r := by rw [if_neg (show ¬ (false = true) by decide)] at H; exact H
              clear H
              have H := H1
              clear H1
              replace H := Option.bind_eq_some_iff.mp H
              obtain ⟨⟨t112, t113⟩, A210, H⟩ := H
              replace H : ((tone_Period.f kj15 l1).bind fun bt114 => (if t113 = 0 then (diaphonetop_TopTones.j2 kj15 l0 l1 a2 t112 bt114.1 (bt114.2 != 0)) else (diaphonetop_TopTones.j2 kj15 l0 l1 a2 t112 bt114.1 true))) = some r := H
              have A21 := Aside0.mk A210
              clear A210
              replace H := Option.bind_eq_some_iff.mp H
              obtain ⟨⟨t114, t115⟩, A220, H⟩ := H
              replace H : (if t113 = 0 then (diaphonetop_TopTones.j2 kj15 l0 l1 a2 t112 t114 (t115 != 0)) else (diaphonetop_TopTones.j2 kj15 l0 l1 a2 t112 t114 true)) = some r := H
              have A22 := Aside0.mk A220
              clear A220
              have HC23 := Aside0.mk H
              clear H
              go_upto_region 8 with (first | ((with_reducible refine gate_callee (f := 28) rfl ?_); refine goesL_ (some 63) rfl rfl Try.func28 (by kernel_rfl) rfl #[.slice A0 l0.length c0] rfl (by (try simp only [List.map_toArray, List.map_cons, List.map_nil]); first | done | rfl | (simp only [List.length_drop, List.length_take]; rfl)) ?_; (with_reducible refine (tone_Period.calls kj15 _ _ l0 t112 t113 _ ?side1 ?side2 A21.out).mono ?_); (case side1 => repeat (first | exact (Kd.V_reads' HO_0.out).2.2 | (with_reducible refine Kd.C_alloc ?_ _) | (with_reducible refine Kd.C_drewN ?_ _) | (with_reducible refine Kd.C_drew ?_))); (case side2 => exact (Kd.V_reads' HO_0.out).2.1); rintro e w24 ⟨rfl, hb⟩; refine ⟨_, rfl, ?_⟩; have n0_ := Aside0.mk (Kd.V_below (by (with_reducible repeat (first | apply Kd.V_alloc | apply Kd.V_drewN | apply Kd.V_drew)); exact HO_0.out) hb); have n1_ := Aside0.mk (Kd.V_below (by (with_reducible repeat (first | apply Kd.V_alloc | apply Kd.V_drewN | apply Kd.V_drew)); exact HO_1.out) hb); have n2_ := Aside0.mk (below_step (by repeat (first | (with_reducible first | exact HB.out | apply below_alloc | apply pw_below_drewN | apply below_drew1) | exact HB.out)) hb); clear HO_0; clear HO_1; clear HB; have HO_0 := n0_; have HO_1 := n1_; have HB := n2_; clear n0_ n1_ n2_; (try clear hb); (try clear hb2); (try clear hk); (try clear hi)) | ((with_reducible refine gate_callee (f := 28) rfl ?_); refine goesL_ (some 68) rfl rfl Try.func28 (by kernel_rfl) rfl #[.slice A1 l1.length c1] rfl (by (try simp only [List.map_toArray, List.map_cons, List.map_nil]); first | done | rfl | (simp only [List.length_drop, List.length_take]; rfl)) ?_; (with_reducible refine (tone_Period.calls kj15 _ _ l1 t114 t115 _ ?side1 ?side2 A22.out).mono ?_); (case side1 => repeat (first | exact (Kd.V_reads' HO_1.out).2.2 | (with_reducible refine Kd.C_alloc ?_ _) | (with_reducible refine Kd.C_drewN ?_ _) | (with_reducible refine Kd.C_drew ?_))); (case side2 => exact (Kd.V_reads' HO_1.out).2.1); rintro e w25 ⟨rfl, hb⟩; refine ⟨_, rfl, ?_⟩; have n0_ := Aside0.mk (Kd.V_below (by (with_reducible repeat (first | apply Kd.V_alloc | apply Kd.V_drewN | apply Kd.V_drew)); exact HO_0.out) hb); have n1_ := Aside0.mk (Kd.V_below (by (with_reducible repeat (first | apply Kd.V_alloc | apply Kd.V_drewN | apply Kd.V_drew)); exact HO_1.out) hb); have n2_ := Aside0.mk (below_step (by repeat (first | (with_reducible first | exact HB.out | apply below_alloc | apply pw_below_drewN | apply below_drew1) | exact HB.out)) hb); clear HO_0; clear HO_1; clear HB; have HO_0 := n0_; have HO_1 := n1_; have HB := n2_; clear n0_ n1_ n2_; (try clear hb); (try clear hb2); (try clear hk); (try clear hi)))
              (try simp only [Act.put, List.setIfInBounds_toArray, List.set_cons_zero, List.set_cons_succ])
              go_cut [76] (fun v76 wc => ∃ (kq : Nat) (x76_22 : Bool), v76 = .bool x76_22 ∧ Aside0 (diaphonetop_TopTones.j2 kq l0 l1 a2 t112 t114 x76_22 = some r) ∧ Aside0 (kq ≤ kj15) ∧ Aside0 (Kd.V (Kd.int .i64) 3 wc w.heap.size (fun k_ => ((P0_ k_ ∨ P1_ k_) ∨ w.heap.size ≤ k_)) (.slice A0 l0.length c0) l0) ∧ Aside0 (Kd.V (Kd.int .i64) 3 wc w.heap.size (fun k_ => ((P0_ k_ ∨ P1_ k_) ∨ w.heap.size ≤ k_)) (.slice A1 l1.length c1) l1) ∧ Aside0 (Below w.heap.size w wc))
              case first =>
                have H := HC23.out
                clear HC23
                by_cases c26 : t113 = 0
                · rw [if_pos c26] at H
                  have c26b0 : (t113 == 0) = true := beq_iff_eq.mpr c26
                  have c26b1 : (t113 != 0) = false := bne_eq_false_iff_eq.mpr c26
                  clear c26
                  (first | rw [c26b0] | (simp only [i64_w, i32_w]; rw [c26b0]) | skip)
                  have H' := Aside0.mk H
                  clear H
                  go_wp2
                  go_meet
                  case rel => exact ⟨_, ((t115 != 0)), (by first | rfl | (simp; done) | (simp [*]; done)), H', ⟨by have := HJ4.out; have := HJ15.out; first | omega | exact Nat.le_refl _⟩, ⟨by (with_reducible repeat (first | apply Kd.V_alloc | apply Kd.V_drewN | apply Kd.V_drew)); exact HO_0.out⟩, ⟨by (with_reducible repeat (first | apply Kd.V_alloc | apply Kd.V_drewN | apply Kd.V_drew)); exact HO_1.out⟩, ⟨by repeat (first | (with_reducible first | exact HB.out | apply below_alloc | apply pw_below_drewN | apply below_drew1) | exact HB.out)⟩⟩
                · rw [if_neg c26] at H
                  have c26b0 : (t113 == 0) = false := beq_eq_false_iff_ne.mpr c26
                  have c26b1 : (t113 != 0) = true := bne_iff_ne.mpr c26
                  (first | rw [c26b0] | (simp only [i64_w, i32_w]; rw [c26b0]) | skip)
                  have H' := Aside0.mk H
                  clear H
                  go_wp2
                  go_meet
                  case rel => exact ⟨_, (true), (by first | rfl | (simp; done) | (simp [*]; done)), H', ⟨by have := HJ4.out; have := HJ15.out; first | omega | exact Nat.le_refl _⟩, ⟨by (with_reducible repeat (first | apply Kd.V_alloc | apply Kd.V_drewN | apply Kd.V_drew)); exact HO_0.out⟩, ⟨by (with_reducible repeat (first | apply Kd.V_alloc | apply Kd.V_drewN | apply Kd.V_drew)); exact HO_1.out⟩, ⟨by repeat (first | (with_reducible first | exact HB.out | apply below_alloc | apply pw_below_drewN | apply below_drew1) | exact HB.out)⟩⟩
              case rest =>
                clear HC23
                try clear c1
                try clear c2
                try clear p2
                try clear c5
                try clear c13
                try clear c13b0
                try clear c13b1
                try clear c14
                try clear c15
                try clear c17
                try clear c18
                try clear c20
                try clear c26
                try clear c26b0
                try clear c26b1
                try clear p2
                obtain ⟨kq, x76_22, rfl, HA, HJ22, HO_0, HO_1, HB⟩ := hcut
                cases kq with
                | zero => exact absurd HA.out (by simp [diaphonetop_TopTones.j2])
                | succ kj22 =>
                  have H := HA.out
                  clear HA
                  simp only [diaphonetop_TopTones.j2] at H
                  by_cases c27 : x76_22 = true
                  · subst c27
                    have H1 : (some true) = some r := by rw [if_pos rfl] at H; exact H
                    clear H
                    have H := H1
                    clear H1
                    obtain rfl := Option.some.inj H
                    go_wp2
                    go_ret
                    exact ⟨by first | rfl | (simp [errW_none, errW_some] <;> rfl) | (simp [*, errW_none, errW_some] <;> rfl), by repeat (first | (with_reducible first | exact HB.out | apply below_alloc | apply pw_below_drewN | apply below_drew1) | exact HB.out)⟩
                  · as_aux_lemma =>
                    replace c27 := Bool.eq_false_iff.mpr c27
                    subst c27
                    have H1 : (if t112 < 1 then (diaphonetop_TopTones.j3 kj22 l0 l1 a2 t112 t114 true) else (if t114 < 1 then (diaphonetop_TopTones.j3 kj22 l0 l1 a2 t112 t114 true) else (if t112 > 24 then (diaphonetop_TopTones.j3 kj22 l0 l1 a2 t112 t114 true) else (diaphonetop_TopTones.j3 kj22 l0 l1 a2 t112 t114 (decide (t114 > 24)))))) = some r := by rw [if_neg (show ¬ (false = true) by decide)] at H; exact H
                    clear H
                    have H := H1
                    clear H1
                    have HC28 := Aside0.mk H
                    clear H
                    go_upto_region 10 with (fail)
                    go_cut [90] (fun v90 wc => ∃ (kq : Nat) (x90_27 : Bool), v90 = .bool x90_27 ∧ Aside0 (diaphonetop_TopTones.j3 kq l0 l1 a2 t112 t114 x90_27 = some r) ∧ Aside0 (kq ≤ kj22) ∧ Aside0 (Kd.V (Kd.int .i64) 3 wc w.heap.size (fun k_ => ((P0_ k_ ∨ P1_ k_) ∨ w.heap.size ≤ k_)) (.slice A0 l0.length c0) l0) ∧ Aside0 (Kd.V (Kd.int .i64) 3 wc w.heap.size (fun k_ => ((P0_ k_ ∨ P1_ k_) ∨ w.heap.size ≤ k_)) (.slice A1 l1.length c1) l1) ∧ Aside0 (Below w.heap.size w wc))
                    case first =>
                      have H := HC28.out
                      clear HC28
                      by_cases c29 : t112 < 1
                      · rw [if_pos c29] at H
                        have c29b0 : decide (t112 < 1) = true := decide_eq_true c29
                        clear c29
                        (first | rw [c29b0] | (simp only [i64_w, i32_w]; rw [c29b0]) | skip)
                        have H' := Aside0.mk H
                        clear H
                        go_wp2
                        go_meet
                        case rel => exact ⟨_, (true), (by first | rfl | (simp; done) | (simp [*]; done)), H', ⟨by have := HJ4.out; have := HJ15.out; have := HJ22.out; first | omega | exact Nat.le_refl _⟩, ⟨by (with_reducible repeat (first | apply Kd.V_alloc | apply Kd.V_drewN | apply Kd.V_drew)); exact HO_0.out⟩, ⟨by (with_reducible repeat (first | apply Kd.V_alloc | apply Kd.V_drewN | apply Kd.V_drew)); exact HO_1.out⟩, ⟨by repeat (first | (with_reducible first | exact HB.out | apply below_alloc | apply pw_below_drewN | apply below_drew1) | exact HB.out)⟩⟩
                      · rw [if_neg c29] at H
                        have c29b0 : decide (t112 < 1) = false := decide_eq_false c29
                        clear c29
                        (first | rw [c29b0] | (simp only [i64_w, i32_w]; rw [c29b0]) | skip)
                        by_cases c30 : t114 < 1
                        · rw [if_pos c30] at H
                          have c30b0 : decide (t114 < 1) = true := decide_eq_true c30
                          clear c30
                          have H' := Aside0.mk H
                          clear H
                          go_wp2
                          go_meet
                          case rel => exact ⟨_, (true), (by first | rfl | (simp; done) | (simp [*]; done)), H', ⟨by have := HJ4.out; have := HJ15.out; have := HJ22.out; first | omega | exact Nat.le_refl _⟩, ⟨by (with_reducible repeat (first | apply Kd.V_alloc | apply Kd.V_drewN | apply Kd.V_drew)); exact HO_0.out⟩, ⟨by (with_reducible repeat (first | apply Kd.V_alloc | apply Kd.V_drewN | apply Kd.V_drew)); exact HO_1.out⟩, ⟨by repeat (first | (with_reducible first | exact HB.out | apply below_alloc | apply pw_below_drewN | apply below_drew1) | exact HB.out)⟩⟩
                        · rw [if_neg c30] at H
                          have c30b0 : decide (t114 < 1) = false := decide_eq_false c30
                          clear c30
                          by_cases c31 : t112 > 24
                          · rw [if_pos c31] at H
                            have c31b0 : decide (24 < t112) = true := decide_eq_true c31
                            clear c31
                            have H' := Aside0.mk H
                            clear H
                            go_wp2
                            go_meet
                            case rel => exact ⟨_, (true), (by first | rfl | (simp; done) | (simp [*]; done)), H', ⟨by have := HJ4.out; have := HJ15.out; have := HJ22.out; first | omega | exact Nat.le_refl _⟩, ⟨by (with_reducible repeat (first | apply Kd.V_alloc | apply Kd.V_drewN | apply Kd.V_drew)); exact HO_0.out⟩, ⟨by (with_reducible repeat (first | apply Kd.V_alloc | apply Kd.V_drewN | apply Kd.V_drew)); exact HO_1.out⟩, ⟨by repeat (first | (with_reducible first | exact HB.out | apply below_alloc | apply pw_below_drewN | apply below_drew1) | exact HB.out)⟩⟩
                          · rw [if_neg c31] at H
                            have c31b0 : decide (24 < t112) = false := decide_eq_false c31
                            clear c31
                            have H' := Aside0.mk H
                            clear H
                            go_wp2
                            go_meet
                            case rel => exact ⟨_, (decide (t114 > 24)), (by first | rfl | (simp; done) | (simp [*]; done)), H', ⟨by have := HJ4.out; have := HJ15.out; have := HJ22.out; first | omega | exact Nat.le_refl _⟩, ⟨by (with_reducible repeat (first | apply Kd.V_alloc | apply Kd.V_drewN | apply Kd.V_drew)); exact HO_0.out⟩, ⟨by (with_reducible repeat (first | apply Kd.V_alloc | apply Kd.V_drewN | apply Kd.V_drew)); exact HO_1.out⟩, ⟨by repeat (first | (with_reducible first | exact HB.out | apply below_alloc | apply pw_below_drewN | apply below_drew1) | exact HB.out)⟩⟩
                    case rest =>
                      clear HC28
                      try clear c1
                      try clear c2
                      try clear p2
                      try clear c3
                      try clear c5
                      try clear c13
                      try clear c13b0
                      try clear c13b1
                      try clear c14
                      try clear c15
                      try clear c17
                      try clear c18
                      try clear c20
                      try clear c26
                      try clear c26b0
                      try clear c26b1
                      try clear c27
                      try clear c28
                      try clear c29
                      try clear c29b0
                      try clear c30
                      try clear c30b0
                      try clear c31
                      try clear c31b0
                      try clear p2
                      obtain ⟨kq, x90_27, rfl, HA, HJ27, HO_0, HO_1, HB⟩ := hcut
                      cases kq with
                      | zero => exact absurd HA.out (by simp [diaphonetop_TopTones.j3])
                      | succ kj27 =>
                        have H := HA.out
                        clear HA
                        simp only [diaphonetop_TopTones.j3] at H
                        by_cases c32 : x90_27 = true
                        · subst c32
                          have H1 : (none) = some r := by rw [if_pos rfl] at H; exact H
                          exact absurd H1 (by simp)
                        · as_aux_lemma =>
                          replace c32 := Bool.eq_false_iff.mpr c32
                          subst c32
                          have H1 : ((diaphoneref01_Gcd.f kj27 t112 t114).bind fun t116 => ((diaphonetop_cut.f kj27 l0 0 (wrap64 ((wrap64 (t112 + t114)) - t116))).bind fun bt117 => ((diaphonetop_cut.f kj27 l1 0 (wrap64 ((wrap64 (t112 + t114)) - t116))).bind fun bt121 => ((tone_Same.f kj27 l0 l1).bind fun bt125 => (if bt117.2 = true then (if bt121.2 = true then (if bt125.2 = 0 then ((diaphoneref01_SameInts.f kj27 bt117.1 bt121.1).bind fun t127 => (diaphonetop_TopTones.j4 kj27 l0 l1 a2 t112 (wrap64 ((wrap64 (t112 + t114)) - t116)) bt125.1 (bt125.1 != t127))) else (diaphonetop_TopTones.j4 kj27 l0 l1 a2 t112 (wrap64 ((wrap64 (t112 + t114)) - t116)) bt125.1 true)) else (diaphonetop_TopTones.j4 kj27 l0 l1 a2 t112 (wrap64 ((wrap64 (t112 + t114)) - t116)) bt125.1 true)) else (diaphonetop_TopTones.j4 kj27 l0 l1 a2 t112 (wrap64 ((wrap64 (t112 + t114)) - t116)) bt125.1 true)))))) = some r := by rw [if_neg (show ¬ (false = true) by decide)] at H; exact H
                          clear H
                          have H := H1
                          clear H1
                          replace H := Option.bind_eq_some_iff.mp H
                          obtain ⟨t116, A330, H⟩ := H
                          replace H : ((diaphonetop_cut.f kj27 l0 0 (wrap64 ((wrap64 (t112 + t114)) - t116))).bind fun bt117 => ((diaphonetop_cut.f kj27 l1 0 (wrap64 ((wrap64 (t112 + t114)) - t116))).bind fun bt121 => ((tone_Same.f kj27 l0 l1).bind fun bt125 => (if bt117.2 = true then (if bt121.2 = true then (if bt125.2 = 0 then ((diaphoneref01_SameInts.f kj27 bt117.1 bt121.1).bind fun t127 => (diaphonetop_TopTones.j4 kj27 l0 l1 a2 t112 (wrap64 ((wrap64 (t112 + t114)) - t116)) bt125.1 (bt125.1 != t127))) else (diaphonetop_TopTones.j4 kj27 l0 l1 a2 t112 (wrap64 ((wrap64 (t112 + t114)) - t116)) bt125.1 true)) else (diaphonetop_TopTones.j4 kj27 l0 l1 a2 t112 (wrap64 ((wrap64 (t112 + t114)) - t116)) bt125.1 true)) else (diaphonetop_TopTones.j4 kj27 l0 l1 a2 t112 (wrap64 ((wrap64 (t112 + t114)) - t116)) bt125.1 true))))) = some r := H
                          have A33 := Aside0.mk A330
                          clear A330
                          replace H := Option.bind_eq_some_iff.mp H
                          obtain ⟨⟨t117, t118⟩, A340, H⟩ := H
                          replace H : ((diaphonetop_cut.f kj27 l1 0 (wrap64 ((wrap64 (t112 + t114)) - t116))).bind fun bt121 => ((tone_Same.f kj27 l0 l1).bind fun bt125 => (if t118 = true then (if bt121.2 = true then (if bt125.2 = 0 then ((diaphoneref01_SameInts.f kj27 t117 bt121.1).bind fun t127 => (diaphonetop_TopTones.j4 kj27 l0 l1 a2 t112 (wrap64 ((wrap64 (t112 + t114)) - t116)) bt125.1 (bt125.1 != t127))) else (diaphonetop_TopTones.j4 kj27 l0 l1 a2 t112 (wrap64 ((wrap64 (t112 + t114)) - t116)) bt125.1 true)) else (diaphonetop_TopTones.j4 kj27 l0 l1 a2 t112 (wrap64 ((wrap64 (t112 + t114)) - t116)) bt125.1 true)) else (diaphonetop_TopTones.j4 kj27 l0 l1 a2 t112 (wrap64 ((wrap64 (t112 + t114)) - t116)) bt125.1 true)))) = some r := H
                          have A34 := Aside0.mk A340
                          clear A340
                          replace H := Option.bind_eq_some_iff.mp H
                          obtain ⟨⟨t121, t122⟩, A350, H⟩ := H
                          replace H : ((tone_Same.f kj27 l0 l1).bind fun bt125 => (if t118 = true then (if t122 = true then (if bt125.2 = 0 then ((diaphoneref01_SameInts.f kj27 t117 t121).bind fun t127 => (diaphonetop_TopTones.j4 kj27 l0 l1 a2 t112 (wrap64 ((wrap64 (t112 + t114)) - t116)) bt125.1 (bt125.1 != t127))) else (diaphonetop_TopTones.j4 kj27 l0 l1 a2 t112 (wrap64 ((wrap64 (t112 + t114)) - t116)) bt125.1 true)) else (diaphonetop_TopTones.j4 kj27 l0 l1 a2 t112 (wrap64 ((wrap64 (t112 + t114)) - t116)) bt125.1 true)) else (diaphonetop_TopTones.j4 kj27 l0 l1 a2 t112 (wrap64 ((wrap64 (t112 + t114)) - t116)) bt125.1 true))) = some r := H
                          have A35 := Aside0.mk A350
                          clear A350
                          replace H := Option.bind_eq_some_iff.mp H
                          obtain ⟨⟨t125, t126⟩, A360, H⟩ := H
                          replace H : (if t118 = true then (if t122 = true then (if t126 = 0 then ((diaphoneref01_SameInts.f kj27 t117 t121).bind fun t127 => (diaphonetop_TopTones.j4 kj27 l0 l1 a2 t112 (wrap64 ((wrap64 (t112 + t114)) - t116)) t125 (t125 != t127))) else (diaphonetop_TopTones.j4 kj27 l0 l1 a2 t112 (wrap64 ((wrap64 (t112 + t114)) - t116)) t125 true)) else (diaphonetop_TopTones.j4 kj27 l0 l1 a2 t112 (wrap64 ((wrap64 (t112 + t114)) - t116)) t125 true)) else (diaphonetop_TopTones.j4 kj27 l0 l1 a2 t112 (wrap64 ((wrap64 (t112 + t114)) - t116)) t125 true)) = some r := H
                          have A36 := Aside0.mk A360
                          clear A360
                          have HC37 := Aside0.mk H
                          clear H
                          go_upto_region 16 with (first | ((with_reducible refine gate_callee (f := 56) rfl ?_); refine goesL_ (some 96) rfl rfl Try.func56 (by kernel_rfl) rfl #[.int .i64 t112, .int .i64 t114] rfl (by (try simp only [List.map_toArray, List.map_cons, List.map_nil]); first | done | rfl | (simp only [List.length_drop, List.length_take]; rfl)) ?_; (with_reducible refine (diaphoneref01_Gcd.calls kj27 t112 t114 t116 _ A33.out).mono ?_); rintro e w' ⟨rfl, ⟨nd, rfl⟩⟩; refine ⟨_, rfl, ?_⟩) | ((with_reducible refine gate_callee (f := 65) rfl ?_); refine goesL_ (some 101) rfl rfl Try.func65 (by kernel_rfl) rfl #[.slice A0 l0.length c0, .int .i64 0, .int .i64 (wrap64 ((wrap64 (t112 + t114)) - t116))] rfl (by (try simp only [List.map_toArray, List.map_cons, List.map_nil]); first | done | rfl | (simp only [List.length_drop, List.length_take]; rfl)) ?_; (with_reducible refine (diaphonetop_cut.calls kj27 _ _ l0 0 (wrap64 ((wrap64 (t112 + t114)) - t116)) t117 t118 _ ?side1 ?side2 A34.out).mono ?_); (case side1 => repeat (first | exact (Kd.V_reads' HO_0.out).2.2 | (with_reducible refine Kd.C_alloc ?_ _) | (with_reducible refine Kd.C_drewN ?_ _) | (with_reducible refine Kd.C_drew ?_))); (case side2 => exact (Kd.V_reads' HO_0.out).2.1); rintro e w38 ⟨v119, rfl, ho0, hb⟩; refine ⟨_, rfl, ?_⟩; have n0_ := Aside0.mk (Kd.V_elder' (by (with_reducible repeat (first | apply Kd.V_alloc | apply Kd.V_drewN | apply Kd.V_drew)); exact HO_0.out) (Kd.R_base ho0) hb); have n1_ := Aside0.mk (Kd.V_elder' (by (with_reducible repeat (first | apply Kd.V_alloc | apply Kd.V_drewN | apply Kd.V_drew)); exact HO_1.out) (Kd.R_base ho0) hb); have n2_ := Aside0.mk (Kd.R_lower (Kd.R_newM (M := fun k_ => (w.heap.size ≤ k_)) ho0 (below_size (by repeat (first | (with_reducible first | exact HB.out | apply below_alloc | apply pw_below_drewN | apply below_drew1) | exact HB.out))) (fun k_ h_ => h_)) (below_size (by repeat (first | (with_reducible first | exact HB.out | apply below_alloc | apply pw_below_drewN | apply below_drew1) | exact HB.out)))); have n3_ := Aside0.mk (below_step (by repeat (first | (with_reducible first | exact HB.out | apply below_alloc | apply pw_below_drewN | apply below_drew1) | exact HB.out)) hb); clear HO_0; clear HO_1; clear HB; have HO_0 := n0_; have HO_1 := n1_; have HO120 := n2_; have HB := n3_; clear n0_ n1_ n2_ n3_; (try clear hb); (try clear hb2); (try clear hk); (try clear hi); (try clear ho0)) | ((with_reducible refine gate_callee (f := 65) rfl ?_); refine goesL_ (some 107) rfl rfl Try.func65 (by kernel_rfl) rfl #[.slice A1 l1.length c1, .int .i64 0, .int .i64 (wrap64 ((wrap64 (t112 + t114)) - t116))] rfl (by (try simp only [List.map_toArray, List.map_cons, List.map_nil]); first | done | rfl | (simp only [List.length_drop, List.length_take]; rfl)) ?_; (with_reducible refine (diaphonetop_cut.calls kj27 _ _ l1 0 (wrap64 ((wrap64 (t112 + t114)) - t116)) t121 t122 _ ?side1 ?side2 A35.out).mono ?_); (case side1 => repeat (first | exact (Kd.V_reads' HO_1.out).2.2 | (with_reducible refine Kd.C_alloc ?_ _) | (with_reducible refine Kd.C_drewN ?_ _) | (with_reducible refine Kd.C_drew ?_))); (case side2 => exact (Kd.V_reads' HO_1.out).2.1); rintro e w39 ⟨v123, rfl, ho0, hb⟩; refine ⟨_, rfl, ?_⟩; have n0_ := Aside0.mk (Kd.V_elder' (by (with_reducible repeat (first | apply Kd.V_alloc | apply Kd.V_drewN | apply Kd.V_drew)); exact HO_0.out) (Kd.R_base ho0) hb); have n1_ := Aside0.mk (Kd.V_elder' (by (with_reducible repeat (first | apply Kd.V_alloc | apply Kd.V_drewN | apply Kd.V_drew)); exact HO_1.out) (Kd.R_base ho0) hb); have n2_ := Aside0.mk (Kd.R_elder' (by (with_reducible repeat (first | apply Kd.R_alloc | apply Kd.R_drewN | apply Kd.R_drew)); exact HO120.out) (Kd.R_base ho0) hb); have n3_ := Aside0.mk (Kd.R_lower (Kd.R_new' (Kd.R_newM (M := fun k_ => (w.heap.size ≤ k_)) ho0 (below_size (by repeat (first | (with_reducible first | exact HB.out | apply below_alloc | apply pw_below_drewN | apply below_drew1) | exact HB.out))) (fun k_ h_ => h_)) (Kd.R_lt (by (with_reducible repeat (first | apply Kd.R_alloc | apply Kd.R_drewN | apply Kd.R_drew)); exact HO120.out))) (below_size (by repeat (first | (with_reducible first | exact HB.out | apply below_alloc | apply pw_below_drewN | apply below_drew1) | exact HB.out)))); have n4_ := Aside0.mk (below_step (by repeat (first | (with_reducible first | exact HB.out | apply below_alloc | apply pw_below_drewN | apply below_drew1) | exact HB.out)) hb); clear HO_0; clear HO_1; clear HO120; clear HB; have HO_0 := n0_; have HO_1 := n1_; have HO120 := n2_; have HO124 := n3_; have HB := n4_; clear n0_ n1_ n2_ n3_ n4_; (try clear hb); (try clear hb2); (try clear hk); (try clear hi); (try clear ho0)) | ((with_reducible refine gate_callee (f := 35) rfl ?_); refine goesL_ (some 113) rfl rfl Try.func35 (by kernel_rfl) rfl #[.slice A0 l0.length c0, .slice A1 l1.length c1] rfl (by (try simp only [List.map_toArray, List.map_cons, List.map_nil]); first | done | rfl | (simp only [List.length_drop, List.length_take]; rfl)) ?_; (with_reducible refine (tone_Same.calls kj27 _ _ l0 _ _ l1 t125 t126 _ ?side1 ?side2 ?side3 ?side4 A36.out).mono ?_); (case side1 => repeat (first | exact (Kd.V_reads' HO_0.out).2.2 | (with_reducible refine Kd.C_alloc ?_ _) | (with_reducible refine Kd.C_drewN ?_ _) | (with_reducible refine Kd.C_drew ?_))); (case side2 => exact (Kd.V_reads' HO_0.out).2.1); (case side3 => repeat (first | exact (Kd.V_reads' HO_1.out).2.2 | (with_reducible refine Kd.C_alloc ?_ _) | (with_reducible refine Kd.C_drewN ?_ _) | (with_reducible refine Kd.C_drew ?_))); (case side4 => exact (Kd.V_reads' HO_1.out).2.1); rintro e w40 ⟨rfl, hb⟩; refine ⟨_, rfl, ?_⟩; have n0_ := Aside0.mk (Kd.V_below (by (with_reducible repeat (first | apply Kd.V_alloc | apply Kd.V_drewN | apply Kd.V_drew)); exact HO_0.out) hb); have n1_ := Aside0.mk (Kd.V_below (by (with_reducible repeat (first | apply Kd.V_alloc | apply Kd.V_drewN | apply Kd.V_drew)); exact HO_1.out) hb); have n2_ := Aside0.mk (Kd.R_below (by (with_reducible repeat (first | apply Kd.R_alloc | apply Kd.R_drewN | apply Kd.R_drew)); exact HO120.out) hb); have n3_ := Aside0.mk (Kd.R_below (by (with_reducible repeat (first | apply Kd.R_alloc | apply Kd.R_drewN | apply Kd.R_drew)); exact HO124.out) hb); have n4_ := Aside0.mk (below_step (by repeat (first | (with_reducible first | exact HB.out | apply below_alloc | apply pw_below_drewN | apply below_drew1) | exact HB.out)) hb); clear HO_0; clear HO_1; clear HO120; clear HO124; clear HB; have HO_0 := n0_; have HO_1 := n1_; have HO120 := n2_; have HO124 := n3_; have HB := n4_; clear n0_ n1_ n2_ n3_ n4_; (try clear hb); (try clear hb2); (try clear hk); (try clear hi)))
                          (try simp only [Act.put, List.setIfInBounds_toArray, List.set_cons_zero, List.set_cons_succ])
                          go_cut [132] (fun v132 wc => ∃ (kq : Nat) (x132_36 : Bool), v132 = .bool x132_36 ∧ Aside0 (diaphonetop_TopTones.j4 kq l0 l1 a2 t112 (wrap64 ((wrap64 (t112 + t114)) - t116)) t125 x132_36 = some r) ∧ Aside0 (kq ≤ kj27) ∧ Aside0 (Kd.V (Kd.int .i64) 3 wc w.heap.size (fun k_ => ((P0_ k_ ∨ P1_ k_) ∨ w.heap.size ≤ k_)) (.slice A0 l0.length c0) l0) ∧ Aside0 (Kd.V (Kd.int .i64) 3 wc w.heap.size (fun k_ => ((P0_ k_ ∨ P1_ k_) ∨ w.heap.size ≤ k_)) (.slice A1 l1.length c1) l1) ∧ Aside0 (Below w.heap.size w wc))
                          case first =>
                            have H := HC37.out
                            clear HC37
                            by_cases c41 : t118 = true
                            · as_aux_lemma =>
                              subst c41
                              have H1 : (if t122 = true then (if t126 = 0 then ((diaphoneref01_SameInts.f kj27 t117 t121).bind fun t127 => (diaphonetop_TopTones.j4 kj27 l0 l1 a2 t112 (wrap64 ((wrap64 (t112 + t114)) - t116)) t125 (t125 != t127))) else (diaphonetop_TopTones.j4 kj27 l0 l1 a2 t112 (wrap64 ((wrap64 (t112 + t114)) - t116)) t125 true)) else (diaphonetop_TopTones.j4 kj27 l0 l1 a2 t112 (wrap64 ((wrap64 (t112 + t114)) - t116)) t125 true)) = some r := by rw [if_pos rfl] at H; exact H
                              clear H
                              have H := H1
                              clear H1
                              by_cases c42 : t122 = true
                              · subst c42
                                have H1 : (if t126 = 0 then ((diaphoneref01_SameInts.f kj27 t117 t121).bind fun t127 => (diaphonetop_TopTones.j4 kj27 l0 l1 a2 t112 (wrap64 ((wrap64 (t112 + t114)) - t116)) t125 (t125 != t127))) else (diaphonetop_TopTones.j4 kj27 l0 l1 a2 t112 (wrap64 ((wrap64 (t112 + t114)) - t116)) t125 true)) = some r := by rw [if_pos rfl] at H; exact H
                                clear H
                                have H := H1
                                clear H1
                                by_cases c43 : t126 = 0
                                · rw [if_pos c43] at H
                                  have c43b0 : (t126 == 0) = true := beq_iff_eq.mpr c43
                                  have c43b1 : (t126 != 0) = false := bne_eq_false_iff_eq.mpr c43
                                  clear c43
                                  (first | rw [c43b0] | (simp only [i64_w, i32_w]; rw [c43b0]) | skip)
                                  replace H := Option.bind_eq_some_iff.mp H
                                  obtain ⟨t127, A440, H⟩ := H
                                  replace H : (diaphonetop_TopTones.j4 kj27 l0 l1 a2 t112 (wrap64 ((wrap64 (t112 + t114)) - t116)) t125 (t125 != t127)) = some r := H
                                  have A44 := Aside0.mk A440
                                  clear A440
                                  have H' := Aside0.mk H
                                  clear H
                                  obtain ⟨Ao45, co45, eo45⟩ := Kd.R_slice HO120.out
                                  subst eo45
                                  obtain ⟨Ao46, co46, eo46⟩ := Kd.R_slice HO124.out
                                  subst eo46
                                  go_wp2_with (first | (go_at_call 22; (with_reducible refine (diaphoneref01_SameInts.calls kj27 _ _ t117 _ _ t121 t127 _ ?side1 ?side2 ?side3 ?side4 A44.out).mono ?_); (case side1 => repeat (first | exact (Kd.R_reads' HO120.out).2.2 | (with_reducible refine Kd.C_alloc ?_ _) | (with_reducible refine Kd.C_drewN ?_ _) | (with_reducible refine Kd.C_drew ?_))); (case side2 => exact (Kd.R_reads' HO120.out).2.1); (case side3 => repeat (first | exact (Kd.R_reads' HO124.out).2.2 | (with_reducible refine Kd.C_alloc ?_ _) | (with_reducible refine Kd.C_drewN ?_ _) | (with_reducible refine Kd.C_drew ?_))); (case side4 => exact (Kd.R_reads' HO124.out).2.1); rintro e w' ⟨rfl, ⟨nd, rfl⟩⟩))
                                  go_meet
                                  case rel => exact ⟨_, ((t125 != t127)), (by first | rfl | (simp; done) | (simp [*]; done)), H', ⟨by have := HJ4.out; have := HJ15.out; have := HJ22.out; have := HJ27.out; first | omega | exact Nat.le_refl _⟩, ⟨by (with_reducible repeat (first | apply Kd.V_alloc | apply Kd.V_drewN | apply Kd.V_drew)); exact Kd.V_mono HO_0.out (fun _ hk => hk.1.1)⟩, ⟨by (with_reducible repeat (first | apply Kd.V_alloc | apply Kd.V_drewN | apply Kd.V_drew)); exact Kd.V_mono HO_1.out (fun _ hk => hk.1.1)⟩, ⟨by repeat (first | (with_reducible first | exact HB.out | apply below_alloc | apply pw_below_drewN | apply below_drew1) | exact HB.out)⟩⟩
                                · rw [if_neg c43] at H
                                  have c43b0 : (t126 == 0) = false := beq_eq_false_iff_ne.mpr c43
                                  have c43b1 : (t126 != 0) = true := bne_iff_ne.mpr c43
                                  (first | rw [c43b0] | (simp only [i64_w, i32_w]; rw [c43b0]) | skip)
                                  have H' := Aside0.mk H
                                  clear H
                                  go_wp2
                                  go_meet
                                  case rel => exact ⟨_, (true), (by first | rfl | (simp; done) | (simp [*]; done)), H', ⟨by have := HJ4.out; have := HJ15.out; have := HJ22.out; have := HJ27.out; first | omega | exact Nat.le_refl _⟩, ⟨by (with_reducible repeat (first | apply Kd.V_alloc | apply Kd.V_drewN | apply Kd.V_drew)); exact Kd.V_mono HO_0.out (fun _ hk => hk.1.1)⟩, ⟨by (with_reducible repeat (first | apply Kd.V_alloc | apply Kd.V_drewN | apply Kd.V_drew)); exact Kd.V_mono HO_1.out (fun _ hk => hk.1.1)⟩, ⟨by repeat (first | (with_reducible first | exact HB.out | apply below_alloc | apply pw_below_drewN | apply below_drew1) | exact HB.out)⟩⟩
                              · replace c42 := Bool.eq_false_iff.mpr c42
                                subst c42
                                have H1 : (diaphonetop_TopTones.j4 kj27 l0 l1 a2 t112 (wrap64 ((wrap64 (t112 + t114)) - t116)) t125 true) = some r := by rw [if_neg (show ¬ (false = true) by decide)] at H; exact H
                                clear H
                                have H := H1
                                clear H1
                                have H' := Aside0.mk H
                                clear H
                                go_wp2
                                go_meet
                                case rel => exact ⟨_, (true), (by first | rfl | (simp; done) | (simp [*]; done)), H', ⟨by have := HJ4.out; have := HJ15.out; have := HJ22.out; have := HJ27.out; first | omega | exact Nat.le_refl _⟩, ⟨by (with_reducible repeat (first | apply Kd.V_alloc | apply Kd.V_drewN | apply Kd.V_drew)); exact Kd.V_mono HO_0.out (fun _ hk => hk.1.1)⟩, ⟨by (with_reducible repeat (first | apply Kd.V_alloc | apply Kd.V_drewN | apply Kd.V_drew)); exact Kd.V_mono HO_1.out (fun _ hk => hk.1.1)⟩, ⟨by repeat (first | (with_reducible first | exact HB.out | apply below_alloc | apply pw_below_drewN | apply below_drew1) | exact HB.out)⟩⟩
                            · replace c41 := Bool.eq_false_iff.mpr c41
                              subst c41
                              have H1 : (diaphonetop_TopTones.j4 kj27 l0 l1 a2 t112 (wrap64 ((wrap64 (t112 + t114)) - t116)) t125 true) = some r := by rw [if_neg (show ¬ (false = true) by decide)] at H; exact H
                              clear H
                              have H := H1
                              clear H1
                              have H' := Aside0.mk H
                              clear H
                              go_wp2
                              go_meet
                              case rel => exact ⟨_, (true), (by first | rfl | (simp; done) | (simp [*]; done)), H', ⟨by have := HJ4.out; have := HJ15.out; have := HJ22.out; have := HJ27.out; first | omega | exact Nat.le_refl _⟩, ⟨by (with_reducible repeat (first | apply Kd.V_alloc | apply Kd.V_drewN | apply Kd.V_drew)); exact Kd.V_mono HO_0.out (fun _ hk => hk.1.1)⟩, ⟨by (with_reducible repeat (first | apply Kd.V_alloc | apply Kd.V_drewN | apply Kd.V_drew)); exact Kd.V_mono HO_1.out (fun _ hk => hk.1.1)⟩, ⟨by repeat (first | (with_reducible first | exact HB.out | apply below_alloc | apply pw_below_drewN | apply below_drew1) | exact HB.out)⟩⟩
                          case rest =>
                            clear HC37
                            try clear c1
                            try clear c2
                            try clear p2
                            try clear c3
                            try clear c4
                            try clear c5
                            try clear c6
                            try clear p6
                            try clear c13
                            try clear c13b0
                            try clear c13b1
                            try clear c14
                            try clear c15
                            try clear c17
                            try clear c18
                            try clear c20
                            try clear c26
                            try clear c26b0
                            try clear c26b1
                            try clear c27
                            try clear c28
                            try clear c29
                            try clear c29b0
                            try clear c30
                            try clear c30b0
                            try clear c31
                            try clear c31b0
                            try clear c32
                            try clear c35
                            try clear c41
                            try clear c42
                            try clear c43
                            try clear c43b0
                            try clear c43b1
                            try clear p2
                            obtain ⟨kq, x132_36, rfl, HA, HJ36, HO_0, HO_1, HB⟩ := hcut
                            cases kq with
                            | zero => exact absurd HA.out (by simp [diaphonetop_TopTones.j4])
                            | succ kj36 =>
                              have H := HA.out
                              clear HA
                              simp only [diaphonetop_TopTones.j4] at H
                              by_cases c47 : x132_36 = true
                              · subst c47
                                have H1 : (none) = some r := by rw [if_pos rfl] at H; exact H
                                exact absurd H1 (by simp)
                              · as_aux_lemma =>
                                replace c47 := Bool.eq_false_iff.mpr c47
                                subst c47
                                have H1 : ((tone_Alike.f kj36 l0 l1).bind fun bt128 => ((tone_Listen.f kj36 l0 l1).bind fun bt130 => (if bt128.2 = 0 then (if bt130.2.2 = 0 then (if (bt130.2.1 == bt128.1) = true then (diaphonetop_TopTones.j5 kj36 l0 l1 a2 t112 bt130.1 bt130.2.1 true) else (if t125 = true then (if bt128.1 = true then (if bt130.2.1 = true then (if bt130.1 < 1 then (diaphonetop_TopTones.j5 kj36 l0 l1 a2 t112 bt130.1 bt130.2.1 true) else (diaphonetop_TopTones.j5 kj36 l0 l1 a2 t112 bt130.1 bt130.2.1 (decide (bt130.1 > (wrap64 ((wrap64 (t112 + t114)) - t116)))))) else (diaphonetop_TopTones.j5 kj36 l0 l1 a2 t112 bt130.1 bt130.2.1 false)) else (diaphonetop_TopTones.j5 kj36 l0 l1 a2 t112 bt130.1 bt130.2.1 true)) else (if bt130.2.1 = true then (if bt130.1 < 1 then (diaphonetop_TopTones.j5 kj36 l0 l1 a2 t112 bt130.1 bt130.2.1 true) else (diaphonetop_TopTones.j5 kj36 l0 l1 a2 t112 bt130.1 bt130.2.1 (decide (bt130.1 > (wrap64 ((wrap64 (t112 + t114)) - t116)))))) else (diaphonetop_TopTones.j5 kj36 l0 l1 a2 t112 bt130.1 bt130.2.1 false)))) else (diaphonetop_TopTones.j5 kj36 l0 l1 a2 t112 bt130.1 bt130.2.1 true)) else (diaphonetop_TopTones.j5 kj36 l0 l1 a2 t112 bt130.1 bt130.2.1 true)))) = some r := by rw [if_neg (show ¬ (false = true) by decide)] at H; exact H
                                clear H
                                have H := H1
                                clear H1
                                replace H := Option.bind_eq_some_iff.mp H
                                obtain ⟨⟨t128, t129⟩, A480, H⟩ := H
                                replace H : ((tone_Listen.f kj36 l0 l1).bind fun bt130 => (if t129 = 0 then (if bt130.2.2 = 0 then (if (bt130.2.1 == t128) = true then (diaphonetop_TopTones.j5 kj36 l0 l1 a2 t112 bt130.1 bt130.2.1 true) else (if t125 = true then (if t128 = true then (if bt130.2.1 = true then (if bt130.1 < 1 then (diaphonetop_TopTones.j5 kj36 l0 l1 a2 t112 bt130.1 bt130.2.1 true) else (diaphonetop_TopTones.j5 kj36 l0 l1 a2 t112 bt130.1 bt130.2.1 (decide (bt130.1 > (wrap64 ((wrap64 (t112 + t114)) - t116)))))) else (diaphonetop_TopTones.j5 kj36 l0 l1 a2 t112 bt130.1 bt130.2.1 false)) else (diaphonetop_TopTones.j5 kj36 l0 l1 a2 t112 bt130.1 bt130.2.1 true)) else (if bt130.2.1 = true then (if bt130.1 < 1 then (diaphonetop_TopTones.j5 kj36 l0 l1 a2 t112 bt130.1 bt130.2.1 true) else (diaphonetop_TopTones.j5 kj36 l0 l1 a2 t112 bt130.1 bt130.2.1 (decide (bt130.1 > (wrap64 ((wrap64 (t112 + t114)) - t116)))))) else (diaphonetop_TopTones.j5 kj36 l0 l1 a2 t112 bt130.1 bt130.2.1 false)))) else (diaphonetop_TopTones.j5 kj36 l0 l1 a2 t112 bt130.1 bt130.2.1 true)) else (diaphonetop_TopTones.j5 kj36 l0 l1 a2 t112 bt130.1 bt130.2.1 true))) = some r := H
                                have A48 := Aside0.mk A480
                                clear A480
                                replace H := Option.bind_eq_some_iff.mp H
                                obtain ⟨⟨t130, t131, t132⟩, A490, H⟩ := H
                                replace H : (if t129 = 0 then (if t132 = 0 then (if (t131 == t128) = true then (diaphonetop_TopTones.j5 kj36 l0 l1 a2 t112 t130 t131 true) else (if t125 = true then (if t128 = true then (if t131 = true then (if t130 < 1 then (diaphonetop_TopTones.j5 kj36 l0 l1 a2 t112 t130 t131 true) else (diaphonetop_TopTones.j5 kj36 l0 l1 a2 t112 t130 t131 (decide (t130 > (wrap64 ((wrap64 (t112 + t114)) - t116)))))) else (diaphonetop_TopTones.j5 kj36 l0 l1 a2 t112 t130 t131 false)) else (diaphonetop_TopTones.j5 kj36 l0 l1 a2 t112 t130 t131 true)) else (if t131 = true then (if t130 < 1 then (diaphonetop_TopTones.j5 kj36 l0 l1 a2 t112 t130 t131 true) else (diaphonetop_TopTones.j5 kj36 l0 l1 a2 t112 t130 t131 (decide (t130 > (wrap64 ((wrap64 (t112 + t114)) - t116)))))) else (diaphonetop_TopTones.j5 kj36 l0 l1 a2 t112 t130 t131 false)))) else (diaphonetop_TopTones.j5 kj36 l0 l1 a2 t112 t130 t131 true)) else (diaphonetop_TopTones.j5 kj36 l0 l1 a2 t112 t130 t131 true)) = some r := H
                                have A49 := Aside0.mk A490
                                clear A490
                                have HC50 := Aside0.mk H
                                clear H
                                go_upto_region 20 with (first | ((with_reducible refine gate_callee (f := 37) rfl ?_); refine goesL_ (some 136) rfl rfl Try.func37 (by kernel_rfl) rfl #[.slice A0 l0.length c0, .slice A1 l1.length c1] rfl (by (try simp only [List.map_toArray, List.map_cons, List.map_nil]); first | done | rfl | (simp only [List.length_drop, List.length_take]; rfl)) ?_; (with_reducible refine (tone_Alike.calls kj36 _ _ l0 _ _ l1 t128 t129 _ ?side1 ?side2 ?side3 ?side4 A48.out).mono ?_); (case side1 => repeat (first | exact (Kd.V_reads' HO_0.out).2.2 | (with_reducible refine Kd.C_alloc ?_ _) | (with_reducible refine Kd.C_drewN ?_ _) | (with_reducible refine Kd.C_drew ?_))); (case side2 => exact (Kd.V_reads' HO_0.out).2.1); (case side3 => repeat (first | exact (Kd.V_reads' HO_1.out).2.2 | (with_reducible refine Kd.C_alloc ?_ _) | (with_reducible refine Kd.C_drewN ?_ _) | (with_reducible refine Kd.C_drew ?_))); (case side4 => exact (Kd.V_reads' HO_1.out).2.1); rintro e w51 ⟨rfl, hb⟩; refine ⟨_, rfl, ?_⟩; have n0_ := Aside0.mk (Kd.V_below (by (with_reducible repeat (first | apply Kd.V_alloc | apply Kd.V_drewN | apply Kd.V_drew)); exact HO_0.out) hb); have n1_ := Aside0.mk (Kd.V_below (by (with_reducible repeat (first | apply Kd.V_alloc | apply Kd.V_drewN | apply Kd.V_drew)); exact HO_1.out) hb); have n2_ := Aside0.mk (below_step (by repeat (first | (with_reducible first | exact HB.out | apply below_alloc | apply pw_below_drewN | apply below_drew1) | exact HB.out)) hb); clear HO_0; clear HO_1; clear HB; have HO_0 := n0_; have HO_1 := n1_; have HB := n2_; clear n0_ n1_ n2_; (try clear hb); (try clear hb2); (try clear hk); (try clear hi)) | ((with_reducible refine gate_callee (f := 54) rfl ?_); refine goesL_ (some 142) rfl rfl Try.func54 (by kernel_rfl) rfl #[.slice A0 l0.length c0, .slice A1 l1.length c1] rfl (by (try simp only [List.map_toArray, List.map_cons, List.map_nil]); first | done | rfl | (simp only [List.length_drop, List.length_take]; rfl)) ?_; (with_reducible refine (tone_Listen.calls kj36 _ _ l0 _ _ l1 t130 t131 t132 _ ?side1 ?side2 ?side3 ?side4 A49.out).mono ?_); (case side1 => repeat (first | exact (Kd.V_reads' HO_0.out).2.2 | (with_reducible refine Kd.C_alloc ?_ _) | (with_reducible refine Kd.C_drewN ?_ _) | (with_reducible refine Kd.C_drew ?_))); (case side2 => exact (Kd.V_reads' HO_0.out).2.1); (case side3 => repeat (first | exact (Kd.V_reads' HO_1.out).2.2 | (with_reducible refine Kd.C_alloc ?_ _) | (with_reducible refine Kd.C_drewN ?_ _) | (with_reducible refine Kd.C_drew ?_))); (case side4 => exact (Kd.V_reads' HO_1.out).2.1); rintro e w52 ⟨rfl, hb⟩; refine ⟨_, rfl, ?_⟩; have n0_ := Aside0.mk (Kd.V_below (by (with_reducible repeat (first | apply Kd.V_alloc | apply Kd.V_drewN | apply Kd.V_drew)); exact HO_0.out) hb); have n1_ := Aside0.mk (Kd.V_below (by (with_reducible repeat (first | apply Kd.V_alloc | apply Kd.V_drewN | apply Kd.V_drew)); exact HO_1.out) hb); have n2_ := Aside0.mk (below_step (by repeat (first | (with_reducible first | exact HB.out | apply below_alloc | apply pw_below_drewN | apply below_drew1) | exact HB.out)) hb); clear HO_0; clear HO_1; clear HB; have HO_0 := n0_; have HO_1 := n1_; have HB := n2_; clear n0_ n1_ n2_; (try clear hb); (try clear hb2); (try clear hk); (try clear hi)))
                                (try simp only [Act.put, List.setIfInBounds_toArray, List.set_cons_zero, List.set_cons_succ])
                                go_cut [175] (fun v175 wc => ∃ (kq : Nat) (x175_49 : Bool), v175 = .bool x175_49 ∧ Aside0 (diaphonetop_TopTones.j5 kq l0 l1 a2 t112 t130 t131 x175_49 = some r) ∧ Aside0 (kq ≤ kj36) ∧ Aside0 (Kd.V (Kd.int .i64) 3 wc w.heap.size (fun k_ => ((P0_ k_ ∨ P1_ k_) ∨ w.heap.size ≤ k_)) (.slice A0 l0.length c0) l0) ∧ Aside0 (Kd.V (Kd.int .i64) 3 wc w.heap.size (fun k_ => ((P0_ k_ ∨ P1_ k_) ∨ w.heap.size ≤ k_)) (.slice A1 l1.length c1) l1) ∧ Aside0 (Below w.heap.size w wc))
                                case first =>
                                  have H := HC50.out
                                  clear HC50
                                  by_cases c53 : t129 = 0
                                  · as_aux_lemma =>
                                    rw [if_pos c53] at H
                                    have c53b0 : (t129 == 0) = true := beq_iff_eq.mpr c53
                                    have c53b1 : (t129 != 0) = false := bne_eq_false_iff_eq.mpr c53
                                    clear c53
                                    (first | rw [c53b0] | (simp only [i64_w, i32_w]; rw [c53b0]) | skip)
                                    by_cases c54 : t132 = 0
                                    · as_aux_lemma =>
                                      rw [if_pos c54] at H
                                      have c54b0 : (t132 == 0) = true := beq_iff_eq.mpr c54
                                      have c54b1 : (t132 != 0) = false := bne_eq_false_iff_eq.mpr c54
                                      clear c54
                                      by_cases c55 : (t131 == t128) = true
                                      · rw [if_pos c55] at H
                                        have c55b0 : (t131 == t128) = true := c55
                                        (try (have c55b1 : decide (t131 = t128) = true := by simpa using c55))
                                        (try (have c55b2 : (t131 == t128) = true := by simpa using c55))
                                        clear c55
                                        have H' := Aside0.mk H
                                        clear H
                                        go_wp2
                                        go_meet
                                        case rel => exact ⟨_, (true), (by first | rfl | (simp; done) | (simp [*]; done)), H', ⟨by have := HJ4.out; have := HJ15.out; have := HJ22.out; have := HJ27.out; have := HJ36.out; first | omega | exact Nat.le_refl _⟩, ⟨by (with_reducible repeat (first | apply Kd.V_alloc | apply Kd.V_drewN | apply Kd.V_drew)); exact HO_0.out⟩, ⟨by (with_reducible repeat (first | apply Kd.V_alloc | apply Kd.V_drewN | apply Kd.V_drew)); exact HO_1.out⟩, ⟨by repeat (first | (with_reducible first | exact HB.out | apply below_alloc | apply pw_below_drewN | apply below_drew1) | exact HB.out)⟩⟩
                                      · as_aux_lemma =>
                                        rw [if_neg c55] at H
                                        have c55b0 : (t131 == t128) = false := by simpa using c55
                                        (try (have c55b1 : decide (t131 = t128) = false := by simpa using c55))
                                        (try (have c55b2 : (t131 == t128) = false := by simpa using c55))
                                        (try (have c55b3 : ¬ (t131 = t128) := by simpa using c55))
                                        clear c55
                                        by_cases c56 : t125 = true
                                        · as_aux_lemma =>
                                          subst c56
                                          have H1 : (if t128 = true then (if t131 = true then (if t130 < 1 then (diaphonetop_TopTones.j5 kj36 l0 l1 a2 t112 t130 t131 true) else (diaphonetop_TopTones.j5 kj36 l0 l1 a2 t112 t130 t131 (decide (t130 > (wrap64 ((wrap64 (t112 + t114)) - t116)))))) else (diaphonetop_TopTones.j5 kj36 l0 l1 a2 t112 t130 t131 false)) else (diaphonetop_TopTones.j5 kj36 l0 l1 a2 t112 t130 t131 true)) = some r := by rw [if_pos rfl] at H; exact H
                                          clear H
                                          have H := H1
                                          clear H1
                                          by_cases c57 : t128 = true
                                          · subst c57
                                            have H1 : (if t131 = true then (if t130 < 1 then (diaphonetop_TopTones.j5 kj36 l0 l1 a2 t112 t130 t131 true) else (diaphonetop_TopTones.j5 kj36 l0 l1 a2 t112 t130 t131 (decide (t130 > (wrap64 ((wrap64 (t112 + t114)) - t116)))))) else (diaphonetop_TopTones.j5 kj36 l0 l1 a2 t112 t130 t131 false)) = some r := by rw [if_pos rfl] at H; exact H
                                            clear H
                                            have H := H1
                                            clear H1
                                            by_cases c58 : t131 = true
                                            · subst c58
                                              exact absurd rfl c55b3
                                            · replace c58 := Bool.eq_false_iff.mpr c58
                                              subst c58
                                              have H1 : (diaphonetop_TopTones.j5 kj36 l0 l1 a2 t112 t130 false false) = some r := by rw [if_neg (show ¬ (false = true) by decide)] at H; exact H
                                              clear H
                                              have H := H1
                                              clear H1
                                              have H' := Aside0.mk H
                                              clear H
                                              go_wp2
                                              go_meet
                                              case rel => exact ⟨_, (false), (by first | rfl | (simp; done) | (simp [*]; done)), H', ⟨by have := HJ4.out; have := HJ15.out; have := HJ22.out; have := HJ27.out; have := HJ36.out; first | omega | exact Nat.le_refl _⟩, ⟨by (with_reducible repeat (first | apply Kd.V_alloc | apply Kd.V_drewN | apply Kd.V_drew)); exact HO_0.out⟩, ⟨by (with_reducible repeat (first | apply Kd.V_alloc | apply Kd.V_drewN | apply Kd.V_drew)); exact HO_1.out⟩, ⟨by repeat (first | (with_reducible first | exact HB.out | apply below_alloc | apply pw_below_drewN | apply below_drew1) | exact HB.out)⟩⟩
                                          · replace c57 := Bool.eq_false_iff.mpr c57
                                            subst c57
                                            have H1 : (diaphonetop_TopTones.j5 kj36 l0 l1 a2 t112 t130 t131 true) = some r := by rw [if_neg (show ¬ (false = true) by decide)] at H; exact H
                                            clear H
                                            have H := H1
                                            clear H1
                                            have H' := Aside0.mk H
                                            clear H
                                            go_wp2
                                            go_meet
                                            case rel => exact ⟨_, (true), (by first | rfl | (simp; done) | (simp [*]; done)), H', ⟨by have := HJ4.out; have := HJ15.out; have := HJ22.out; have := HJ27.out; have := HJ36.out; first | omega | exact Nat.le_refl _⟩, ⟨by (with_reducible repeat (first | apply Kd.V_alloc | apply Kd.V_drewN | apply Kd.V_drew)); exact HO_0.out⟩, ⟨by (with_reducible repeat (first | apply Kd.V_alloc | apply Kd.V_drewN | apply Kd.V_drew)); exact HO_1.out⟩, ⟨by repeat (first | (with_reducible first | exact HB.out | apply below_alloc | apply pw_below_drewN | apply below_drew1) | exact HB.out)⟩⟩
                                        · as_aux_lemma =>
                                          replace c56 := Bool.eq_false_iff.mpr c56
                                          subst c56
                                          have H1 : (if t131 = true then (if t130 < 1 then (diaphonetop_TopTones.j5 kj36 l0 l1 a2 t112 t130 t131 true) else (diaphonetop_TopTones.j5 kj36 l0 l1 a2 t112 t130 t131 (decide (t130 > (wrap64 ((wrap64 (t112 + t114)) - t116)))))) else (diaphonetop_TopTones.j5 kj36 l0 l1 a2 t112 t130 t131 false)) = some r := by rw [if_neg (show ¬ (false = true) by decide)] at H; exact H
                                          clear H
                                          have H := H1
                                          clear H1
                                          by_cases c60 : t131 = true
                                          · subst c60
                                            have H1 : (if t130 < 1 then (diaphonetop_TopTones.j5 kj36 l0 l1 a2 t112 t130 true true) else (diaphonetop_TopTones.j5 kj36 l0 l1 a2 t112 t130 true (decide (t130 > (wrap64 ((wrap64 (t112 + t114)) - t116)))))) = some r := by rw [if_pos rfl] at H; exact H
                                            clear H
                                            have H := H1
                                            clear H1
                                            by_cases c61 : t130 < 1
                                            · rw [if_pos c61] at H
                                              have c61b0 : decide (t130 < 1) = true := decide_eq_true c61
                                              clear c61
                                              have H' := Aside0.mk H
                                              clear H
                                              go_wp2
                                              go_meet
                                              case rel => exact ⟨_, (true), (by first | rfl | (simp; done) | (simp [*]; done)), H', ⟨by have := HJ4.out; have := HJ15.out; have := HJ22.out; have := HJ27.out; have := HJ36.out; first | omega | exact Nat.le_refl _⟩, ⟨by (with_reducible repeat (first | apply Kd.V_alloc | apply Kd.V_drewN | apply Kd.V_drew)); exact HO_0.out⟩, ⟨by (with_reducible repeat (first | apply Kd.V_alloc | apply Kd.V_drewN | apply Kd.V_drew)); exact HO_1.out⟩, ⟨by repeat (first | (with_reducible first | exact HB.out | apply below_alloc | apply pw_below_drewN | apply below_drew1) | exact HB.out)⟩⟩
                                            · rw [if_neg c61] at H
                                              have c61b0 : decide (t130 < 1) = false := decide_eq_false c61
                                              clear c61
                                              have H' := Aside0.mk H
                                              clear H
                                              go_wp2
                                              go_meet
                                              case rel => exact ⟨_, (decide (t130 > (wrap64 ((wrap64 (t112 + t114)) - t116)))), (by first | rfl | (simp; done) | (simp [*]; done)), H', ⟨by have := HJ4.out; have := HJ15.out; have := HJ22.out; have := HJ27.out; have := HJ36.out; first | omega | exact Nat.le_refl _⟩, ⟨by (with_reducible repeat (first | apply Kd.V_alloc | apply Kd.V_drewN | apply Kd.V_drew)); exact HO_0.out⟩, ⟨by (with_reducible repeat (first | apply Kd.V_alloc | apply Kd.V_drewN | apply Kd.V_drew)); exact HO_1.out⟩, ⟨by repeat (first | (with_reducible first | exact HB.out | apply below_alloc | apply pw_below_drewN | apply below_drew1) | exact HB.out)⟩⟩
                                          · replace c60 := Bool.eq_false_iff.mpr c60
                                            subst c60
                                            have H1 : (diaphonetop_TopTones.j5 kj36 l0 l1 a2 t112 t130 false false) = some r := by rw [if_neg (show ¬ (false = true) by decide)] at H; exact H
                                            clear H
                                            have H := H1
                                            clear H1
                                            have H' := Aside0.mk H
                                            clear H
                                            go_wp2
                                            go_meet
                                            case rel => exact ⟨_, (false), (by first | rfl | (simp; done) | (simp [*]; done)), H', ⟨by have := HJ4.out; have := HJ15.out; have := HJ22.out; have := HJ27.out; have := HJ36.out; first | omega | exact Nat.le_refl _⟩, ⟨by (with_reducible repeat (first | apply Kd.V_alloc | apply Kd.V_drewN | apply Kd.V_drew)); exact HO_0.out⟩, ⟨by (with_reducible repeat (first | apply Kd.V_alloc | apply Kd.V_drewN | apply Kd.V_drew)); exact HO_1.out⟩, ⟨by repeat (first | (with_reducible first | exact HB.out | apply below_alloc | apply pw_below_drewN | apply below_drew1) | exact HB.out)⟩⟩
                                    · rw [if_neg c54] at H
                                      have c54b0 : (t132 == 0) = false := beq_eq_false_iff_ne.mpr c54
                                      have c54b1 : (t132 != 0) = true := bne_iff_ne.mpr c54
                                      have H' := Aside0.mk H
                                      clear H
                                      go_wp2
                                      go_meet
                                      case rel => exact ⟨_, (true), (by first | rfl | (simp; done) | (simp [*]; done)), H', ⟨by have := HJ4.out; have := HJ15.out; have := HJ22.out; have := HJ27.out; have := HJ36.out; first | omega | exact Nat.le_refl _⟩, ⟨by (with_reducible repeat (first | apply Kd.V_alloc | apply Kd.V_drewN | apply Kd.V_drew)); exact HO_0.out⟩, ⟨by (with_reducible repeat (first | apply Kd.V_alloc | apply Kd.V_drewN | apply Kd.V_drew)); exact HO_1.out⟩, ⟨by repeat (first | (with_reducible first | exact HB.out | apply below_alloc | apply pw_below_drewN | apply below_drew1) | exact HB.out)⟩⟩
                                  · rw [if_neg c53] at H
                                    have c53b0 : (t129 == 0) = false := beq_eq_false_iff_ne.mpr c53
                                    have c53b1 : (t129 != 0) = true := bne_iff_ne.mpr c53
                                    (first | rw [c53b0] | (simp only [i64_w, i32_w]; rw [c53b0]) | skip)
                                    have H' := Aside0.mk H
                                    clear H
                                    go_wp2
                                    go_meet
                                    case rel => exact ⟨_, (true), (by first | rfl | (simp; done) | (simp [*]; done)), H', ⟨by have := HJ4.out; have := HJ15.out; have := HJ22.out; have := HJ27.out; have := HJ36.out; first | omega | exact Nat.le_refl _⟩, ⟨by (with_reducible repeat (first | apply Kd.V_alloc | apply Kd.V_drewN | apply Kd.V_drew)); exact HO_0.out⟩, ⟨by (with_reducible repeat (first | apply Kd.V_alloc | apply Kd.V_drewN | apply Kd.V_drew)); exact HO_1.out⟩, ⟨by repeat (first | (with_reducible first | exact HB.out | apply below_alloc | apply pw_below_drewN | apply below_drew1) | exact HB.out)⟩⟩
                                case rest =>
                                  clear HC50
                                  try clear c1
                                  try clear c2
                                  try clear p2
                                  try clear c3
                                  try clear c4
                                  try clear c5
                                  try clear c6
                                  try clear p6
                                  try clear c13
                                  try clear c13b0
                                  try clear c13b1
                                  try clear c14
                                  try clear c15
                                  try clear c17
                                  try clear c18
                                  try clear c20
                                  try clear c26
                                  try clear c26b0
                                  try clear c26b1
                                  try clear c27
                                  try clear c28
                                  try clear c29
                                  try clear c29b0
                                  try clear c30
                                  try clear c30b0
                                  try clear c31
                                  try clear c31b0
                                  try clear c32
                                  try clear c35
                                  try clear c37
                                  try clear c41
                                  try clear c42
                                  try clear c43
                                  try clear c43b0
                                  try clear c43b1
                                  try clear c47
                                  try clear c53
                                  try clear c53b0
                                  try clear c53b1
                                  try clear c54
                                  try clear c54b0
                                  try clear c54b1
                                  try clear c55
                                  try clear c55b0
                                  try clear c55b1
                                  try clear c55b2
                                  try clear c56
                                  try clear c57
                                  try clear c58
                                  try clear c59
                                  try clear c59b0
                                  try clear c60
                                  try clear c61
                                  try clear c61b0
                                  try clear p2
                                  try clear p6
                                  obtain ⟨kq, x175_49, rfl, HA, HJ49, HO_0, HO_1, HB⟩ := hcut
                                  cases kq with
                                  | zero => exact absurd HA.out (by simp [diaphonetop_TopTones.j5])
                                  | succ kj49 =>
                                    have H := HA.out
                                    clear HA
                                    simp only [diaphonetop_TopTones.j5] at H
                                    by_cases c62 : x175_49 = true
                                    · subst c62
                                      have H1 : (none) = some r := by rw [if_pos rfl] at H; exact H
                                      exact absurd H1 (by simp)
                                    · as_aux_lemma =>
                                      replace c62 := Bool.eq_false_iff.mpr c62
                                      subst c62
                                      have H1 : (if t131 = true then ((diaphonetop_cut.f kj49 l0 0 t130).bind fun bt133 => ((tone_Tell.f kj49 (([l0, l1] : List (List Int))) bt133.1).bind fun bt140 => (if bt133.2 = true then (if bt140.2 = 0 then ((diaphoneref01_SameInts.f kj49 bt140.1 (([0] : List Int))).bind fun t147 => (if t147 = true then (diaphonetop_TopTones.j6 kj49 l0 a2 t112) else (none))) else (none)) else (none)))) else (diaphonetop_TopTones.j6 kj49 l0 a2 t112)) = some r := by rw [if_neg (show ¬ (false = true) by decide)] at H; exact H
                                      clear H
                                      have H := H1
                                      clear H1
                                      have HC63 := Aside0.mk H
                                      clear H
                                      go_upto_if 176 with (fail)
                                      go_cut [] (fun wc => ∃ (kq : Nat), Aside0 (diaphonetop_TopTones.j6 kq l0 a2 t112 = some r) ∧ Aside0 (kq ≤ kj49) ∧ Aside0 (Kd.V (Kd.int .i64) 3 wc w.heap.size (fun k_ => ((P0_ k_ ∨ P1_ k_) ∨ w.heap.size ≤ k_)) (.slice A0 l0.length c0) l0) ∧ Aside0 (Below w.heap.size w wc))
                                      case first =>
                                        have H := HC63.out
                                        clear HC63
                                        by_cases c64 : t131 = true
                                        · as_aux_lemma =>
                                          subst c64
                                          have H1 : ((diaphonetop_cut.f kj49 l0 0 t130).bind fun bt133 => ((tone_Tell.f kj49 (([l0, l1] : List (List Int))) bt133.1).bind fun bt140 => (if bt133.2 = true then (if bt140.2 = 0 then ((diaphoneref01_SameInts.f kj49 bt140.1 (([0] : List Int))).bind fun t147 => (if t147 = true then (diaphonetop_TopTones.j6 kj49 l0 a2 t112) else (none))) else (none)) else (none)))) = some r := by rw [if_pos rfl] at H; exact H
                                          clear H
                                          have H := H1
                                          clear H1
                                          replace H := Option.bind_eq_some_iff.mp H
                                          obtain ⟨⟨t133, t134⟩, A650, H⟩ := H
                                          replace H : ((tone_Tell.f kj49 (([l0, l1] : List (List Int))) t133).bind fun bt140 => (if t134 = true then (if bt140.2 = 0 then ((diaphoneref01_SameInts.f kj49 bt140.1 (([0] : List Int))).bind fun t147 => (if t147 = true then (diaphonetop_TopTones.j6 kj49 l0 a2 t112) else (none))) else (none)) else (none))) = some r := H
                                          have A65 := Aside0.mk A650
                                          clear A650
                                          obtain ⟨y137, hy137⟩ : ∃ y_ : List (List Int), y_ = (([l0, l1] : List (List Int))) := ⟨_, rfl⟩
                                          replace H : ((tone_Tell.f kj49 y137 t133).bind fun bt140 => (if t134 = true then (if bt140.2 = 0 then ((diaphoneref01_SameInts.f kj49 bt140.1 (([0] : List Int))).bind fun t147 => (if t147 = true then (diaphonetop_TopTones.j6 kj49 l0 a2 t112) else (none))) else (none)) else (none))) = some r := by first | (rw [hy137]; with_reducible exact H) | (have H2_ := (Option.bind_some _ _).symm.trans H; rw [hy137]; with_reducible exact H2_) | (have H2_ := (Option.bind_some _ _).symm.trans H; with_reducible exact H2_) | with_reducible exact H | (rw [hy137]; exact H) | exact H
                                          have Ny137 := Aside0.mk hy137
                                          clear hy137
                                          replace H := Option.bind_eq_some_iff.mp H
                                          obtain ⟨⟨t140, t141⟩, A660, H⟩ := H
                                          replace H : (if t134 = true then (if t141 = 0 then ((diaphoneref01_SameInts.f kj49 t140 (([0] : List Int))).bind fun t147 => (if t147 = true then (diaphonetop_TopTones.j6 kj49 l0 a2 t112) else (none))) else (none)) else (none)) = some r := H
                                          have A66 := Aside0.mk A660
                                          clear A660
                                          by_cases c67 : t134 = true
                                          · as_aux_lemma =>
                                            subst c67
                                            have H1 : (if t141 = 0 then ((diaphoneref01_SameInts.f kj49 t140 (([0] : List Int))).bind fun t147 => (if t147 = true then (diaphonetop_TopTones.j6 kj49 l0 a2 t112) else (none))) else (none)) = some r := by rw [if_pos rfl] at H; exact H
                                            clear H
                                            have H := H1
                                            clear H1
                                            by_cases c68 : t141 = 0
                                            · as_aux_lemma =>
                                              rw [if_pos c68] at H
                                              have c68b0 : (t141 == 0) = true := beq_iff_eq.mpr c68
                                              have c68b1 : (t141 != 0) = false := bne_eq_false_iff_eq.mpr c68
                                              clear c68
                                              (first | rw [c68b0] | (simp only [i64_w, i32_w]; rw [c68b0]) | skip)
                                              obtain ⟨y144, hy144⟩ : ∃ y_ : List Int, y_ = (([0] : List Int)) := ⟨_, rfl⟩
                                              replace H : ((diaphoneref01_SameInts.f kj49 t140 y144).bind fun t147 => (if t147 = true then (diaphonetop_TopTones.j6 kj49 l0 a2 t112) else (none))) = some r := by first | (rw [hy144]; with_reducible exact H) | (have H2_ := (Option.bind_some _ _).symm.trans H; rw [hy144]; with_reducible exact H2_) | (have H2_ := (Option.bind_some _ _).symm.trans H; with_reducible exact H2_) | with_reducible exact H | (rw [hy144]; exact H) | exact H
                                              have Ny144 := Aside0.mk hy144
                                              clear hy144
                                              replace H := Option.bind_eq_some_iff.mp H
                                              obtain ⟨t147, A690, H⟩ := H
                                              replace H : (if t147 = true then (diaphonetop_TopTones.j6 kj49 l0 a2 t112) else (none)) = some r := H
                                              have A69 := Aside0.mk A690
                                              clear A690
                                              by_cases c70 : t147 = true
                                              · as_aux_lemma =>
                                                subst c70
                                                have H1 : (diaphonetop_TopTones.j6 kj49 l0 a2 t112) = some r := by rw [if_pos rfl] at H; exact H
                                                clear H
                                                have H := H1
                                                clear H1
                                                have H' := Aside0.mk H
                                                clear H
                                                go_wp2_with (first | ((with_reducible refine gate_callee (f := 65) rfl ?_); refine goesL_ (some 180) rfl rfl Try.func65 (by kernel_rfl) rfl #[.slice A0 l0.length c0, .int .i64 0, .int .i64 t130] rfl (by (try simp only [List.map_toArray, List.map_cons, List.map_nil]); first | done | rfl | (simp only [List.length_drop, List.length_take]; rfl)) ?_; (with_reducible refine (diaphonetop_cut.calls kj49 _ _ l0 0 t130 t133 true _ ?side1 ?side2 A65.out).mono ?_); (case side1 => repeat (first | exact (Kd.V_reads' HO_0.out).2.2 | (with_reducible refine Kd.C_alloc ?_ _) | (with_reducible refine Kd.C_drewN ?_ _) | (with_reducible refine Kd.C_drew ?_))); (case side2 => exact (Kd.V_reads' HO_0.out).2.1); rintro e w71 ⟨v135, rfl, ho0, hb⟩; refine ⟨_, rfl, ?_⟩; have n0_ := Aside0.mk (Kd.V_elder' (by (with_reducible repeat (first | apply Kd.V_alloc | apply Kd.V_drewN | apply Kd.V_drew)); exact HO_0.out) (Kd.R_base ho0) hb); have n1_ := Aside0.mk (Kd.V_elder' (by (with_reducible repeat (first | apply Kd.V_alloc | apply Kd.V_drewN | apply Kd.V_drew)); exact HO_1.out) (Kd.R_base ho0) hb); have n2_ := Aside0.mk (Kd.R_lower (Kd.R_newM (M := fun k_ => (w.heap.size ≤ k_)) ho0 (below_size (by repeat (first | (with_reducible first | exact HB.out | apply below_alloc | apply pw_below_drewN | apply below_drew1) | exact HB.out))) (fun k_ h_ => h_)) (below_size (by repeat (first | (with_reducible first | exact HB.out | apply below_alloc | apply pw_below_drewN | apply below_drew1) | exact HB.out)))); have n3_ := Aside0.mk (below_step (by repeat (first | (with_reducible first | exact HB.out | apply below_alloc | apply pw_below_drewN | apply below_drew1) | exact HB.out)) hb); clear HO_0; clear HO_1; clear HB; have HO_0 := n0_; have HO_1 := n1_; have HO136 := n2_; have HB := n3_; clear n0_ n1_ n2_ n3_; (try clear hb); (try clear hb2); (try clear hk); (try clear hi); (try clear ho0)) | ((with_reducible refine gate_dst (N := 186) rfl ?_); (try (refine gate_guard (by rfl) ?_; dsimp only)); refine Kd.N_lit (Kd.slice 3 (Kd.int .i64)) _ 22 ?hg (N' := 186) ?hd (xs := ([l0, l1] : List (List Int))) (inner := [.slice A0 l0.length c0, .slice A1 l1.length c1]) (ok := (fun k_ => ((P0_ k_ ∨ P1_ k_) ∨ w.heap.size ≤ k_) ∧ some k_ ≠ (v135 : Value).ownBlock)) (okp := (fun k_ => ((P0_ k_ ∨ P1_ k_) ∨ w.heap.size ≤ k_) ∧ some k_ ≠ (v135 : Value).ownBlock)) ?hr ?hp (fun _ hk => hk) ((show ∀ k_, w71.heap.size ≤ k_ → (fun k_ => ((P0_ k_ ∨ P1_ k_) ∨ w.heap.size ≤ k_) ∧ some k_ ≠ (v135 : Value).ownBlock) k_ from fun k_ hk => ⟨(.inr (Nat.le_trans (below_size (by repeat (first | (with_reducible first | exact HB.out | apply below_alloc | apply pw_below_drewN | apply below_drew1) | exact HB.out))) hk)), Kd.fresh' (Kd.R_lt (by (with_reducible repeat (first | apply Kd.R_alloc | apply Kd.R_drewN | apply Kd.R_drew)); exact HO136.out)) k_ hk⟩) _ (Nat.le_refl _)) (Below.refl _ _) (Nat.le_refl _) (by simp) ?_; (case hd => rfl); (case hg => rfl); (case hr => first | (go_simp; done) | (go_simp; rfl)); (case hp => exact (Reps.one (show Kd.FK (Kd.slice 3 (Kd.int .i64)) _ _ l0 [.slice A0 l0.length c0] from (Kd.FK_slice_mk (Kd.V_reads' (Kd.V_mono (ok' := (fun k_ => ((P0_ k_ ∨ P1_ k_) ∨ w.heap.size ≤ k_) ∧ some k_ ≠ (v135 : Value).ownBlock)) (HO_0.out) (fun k_ hk => ⟨hk.1, hk.2⟩))).2.1 (Kd.V_F (Kd.V_mono (ok' := (fun k_ => ((P0_ k_ ∨ P1_ k_) ∨ w.heap.size ≤ k_) ∧ some k_ ≠ (v135 : Value).ownBlock)) (HO_0.out) (fun k_ hk => ⟨hk.1, hk.2⟩))))) (Reps.one (show Kd.FK (Kd.slice 3 (Kd.int .i64)) _ _ l1 [.slice A1 l1.length c1] from (Kd.FK_slice_mk (Kd.V_reads' (Kd.V_mono (ok' := (fun k_ => ((P0_ k_ ∨ P1_ k_) ∨ w.heap.size ≤ k_) ∧ some k_ ≠ (v135 : Value).ownBlock)) (HO_1.out) (fun k_ hk => ⟨hk.1, hk.2⟩))).2.1 (Kd.V_F (Kd.V_mono (ok' := (fun k_ => ((P0_ k_ ∨ P1_ k_) ∨ w.heap.size ≤ k_) ∧ some k_ ≠ (v135 : Value).ownBlock)) (HO_1.out) (fun k_ hk => ⟨hk.1, hk.2⟩))))) (Reps.none _ _)))); intro v138 w72 ho73 hb hg_ hnew_; clear hg_ hnew_; (first | rw [← Ny137.out] at ho73 | (simp only [Int.reduceToNat] at ho73; rw [← Ny137.out] at ho73)); have n0_ := Aside0.mk (Kd.V_elder' (by (with_reducible repeat (first | apply Kd.V_alloc | apply Kd.V_drewN | apply Kd.V_drew)); exact HO_0.out) (Kd.N_base ho73) hb); have n1_ := Aside0.mk (Kd.V_elder' (by (with_reducible repeat (first | apply Kd.V_alloc | apply Kd.V_drewN | apply Kd.V_drew)); exact HO_1.out) (Kd.N_base ho73) hb); have n2_ := Aside0.mk (Kd.R_below (by (with_reducible repeat (first | apply Kd.R_alloc | apply Kd.R_drewN | apply Kd.R_drew)); exact HO136.out) hb); have n3_ := Aside0.mk (Kd.N_lower ho73 (below_size (by repeat (first | (with_reducible first | exact HB.out | apply below_alloc | apply pw_below_drewN | apply below_drew1) | exact HB.out)))); have n4_ := Aside0.mk (below_step (by repeat (first | (with_reducible first | exact HB.out | apply below_alloc | apply pw_below_drewN | apply below_drew1) | exact HB.out)) hb); clear HO_0; clear HO_1; clear HO136; clear HB; have HO_0 := n0_; have HO_1 := n1_; have HO136 := n2_; have HO139 := n3_; have HB := n4_; clear n0_ n1_ n2_ n3_ n4_; clear hb ho73; obtain ⟨Ao74, co74, eo74⟩ := Kd.N_slice HO139.out; subst eo74; obtain ⟨Ao75, co75, eo75⟩ := Kd.R_slice HO136.out; subst eo75) | ((with_reducible refine gate_callee (f := 50) rfl ?_); refine goesL_ (some 188) rfl rfl Try.func50 (by kernel_rfl) rfl #[.slice Ao74 y137.length co74, .slice Ao75 t133.length co75] rfl (by (try simp only [List.map_toArray, List.map_cons, List.map_nil]); first | done | rfl | (simp only [List.length_drop, List.length_take]; rfl)) ?_; (with_reducible refine (tone_Tell.calls kj49 _ _ y137 _ _ t133 t140 t141 _ ?side1 ?side2 ?side3 ?side4 A66.out).mono ?_); (case side1 => repeat (first | exact (Kd.N_reads' HO139.out).2.2 | (with_reducible refine Kd.C_alloc ?_ _) | (with_reducible refine Kd.C_drewN ?_ _) | (with_reducible refine Kd.C_drew ?_))); (case side2 => exact (Kd.N_reads' HO139.out).2.1); (case side3 => repeat (first | exact (Kd.R_reads' HO136.out).2.2 | (with_reducible refine Kd.C_alloc ?_ _) | (with_reducible refine Kd.C_drewN ?_ _) | (with_reducible refine Kd.C_drew ?_))); (case side4 => exact (Kd.R_reads' HO136.out).2.1); rintro e w76 ⟨v142, rfl, ho0, hb⟩; refine ⟨_, rfl, ?_⟩; have n0_ := Aside0.mk (Kd.V_elder' (by (with_reducible repeat (first | apply Kd.V_alloc | apply Kd.V_drewN | apply Kd.V_drew)); exact HO_0.out) (Kd.R_base ho0) hb); have n1_ := Aside0.mk (Kd.V_elder' (by (with_reducible repeat (first | apply Kd.V_alloc | apply Kd.V_drewN | apply Kd.V_drew)); exact HO_1.out) (Kd.R_base ho0) hb); have n2_ := Aside0.mk (Kd.R_elder' (by (with_reducible repeat (first | apply Kd.R_alloc | apply Kd.R_drewN | apply Kd.R_drew)); exact HO136.out) (Kd.R_base ho0) hb); have n3_ := Aside0.mk (Kd.N_elder' (by (with_reducible repeat (first | apply Kd.N_alloc | apply Kd.N_drewN | apply Kd.N_drew)); exact HO139.out) (Kd.R_base ho0) hb); have n4_ := Aside0.mk (Kd.R_lower (Kd.R_new' (Kd.R_newM (M := fun k_ => (w.heap.size ≤ k_)) ho0 (below_size (by repeat (first | (with_reducible first | exact HB.out | apply below_alloc | apply pw_below_drewN | apply below_drew1) | exact HB.out))) (fun k_ h_ => h_)) (Kd.R_lt (by (with_reducible repeat (first | apply Kd.R_alloc | apply Kd.R_drewN | apply Kd.R_drew)); exact HO136.out))) (below_size (by repeat (first | (with_reducible first | exact HB.out | apply below_alloc | apply pw_below_drewN | apply below_drew1) | exact HB.out)))); have n5_ := Aside0.mk (below_step (by repeat (first | (with_reducible first | exact HB.out | apply below_alloc | apply pw_below_drewN | apply below_drew1) | exact HB.out)) hb); clear HO_0; clear HO_1; clear HO136; clear HO139; clear HB; have HO_0 := n0_; have HO_1 := n1_; have HO136 := n2_; have HO139 := n3_; have HO143 := n4_; have HB := n5_; clear n0_ n1_ n2_ n3_ n4_ n5_; (try clear hb); (try clear hb2); (try clear hk); (try clear hi); (try clear ho0)) | ((with_reducible refine gate_dst (N := 199) rfl ?_); (try (refine gate_guard (by rfl) ?_; dsimp only)); refine Kd.R_lit (Kd.int .i64) _ 3 ?hg (N := 199) ?hd (xs := ([0] : List Int)) (inner := [.int .i64 0]) (ok := fun _ => True) (okp := fun _ => True) ?hr ?hp (fun _ hk => hk) trivial (Below.refl _ _) (Nat.le_refl _) (by simp) ?_; (case hd => rfl); (case hg => rfl); (case hr => first | (go_simp; done) | (go_simp; rfl)); (case hp => exact (Reps.one (show Kd.M (Kd.int .i64) _ _ _ 0 [.int .i64 0] from rfl) (Reps.none _ _))); intro v145 w77 ho78 hb hg_ hnew_; clear hg_ hnew_; (first | rw [← Ny144.out] at ho78 | (simp only [Int.reduceToNat] at ho78; rw [← Ny144.out] at ho78)); have n0_ := Aside0.mk (Kd.V_elder' (by (with_reducible repeat (first | apply Kd.V_alloc | apply Kd.V_drewN | apply Kd.V_drew)); exact HO_0.out) (Kd.R_base ho78) hb); have n1_ := Aside0.mk (Kd.V_elder' (by (with_reducible repeat (first | apply Kd.V_alloc | apply Kd.V_drewN | apply Kd.V_drew)); exact HO_1.out) (Kd.R_base ho78) hb); have n2_ := Aside0.mk (Kd.R_elder' (by (with_reducible repeat (first | apply Kd.R_alloc | apply Kd.R_drewN | apply Kd.R_drew)); exact HO136.out) (Kd.R_base ho78) hb); have n3_ := Aside0.mk (Kd.N_elder' (by (with_reducible repeat (first | apply Kd.N_alloc | apply Kd.N_drewN | apply Kd.N_drew)); exact HO139.out) (Kd.R_base ho78) hb); have n4_ := Aside0.mk (Kd.R_elder' (by (with_reducible repeat (first | apply Kd.R_alloc | apply Kd.R_drewN | apply Kd.R_drew)); exact HO143.out) (Kd.R_base ho78) hb); have n5_ := Aside0.mk (Kd.R_lower (Kd.R_new' (Kd.R_new' (Kd.R_newM (M := fun k_ => (w.heap.size ≤ k_)) ho78 (below_size (by repeat (first | (with_reducible first | exact HB.out | apply below_alloc | apply pw_below_drewN | apply below_drew1) | exact HB.out))) (fun k_ h_ => h_)) (Kd.R_lt (by (with_reducible repeat (first | apply Kd.R_alloc | apply Kd.R_drewN | apply Kd.R_drew)); exact HO136.out))) (Kd.R_lt (by (with_reducible repeat (first | apply Kd.R_alloc | apply Kd.R_drewN | apply Kd.R_drew)); exact HO143.out))) (below_size (by repeat (first | (with_reducible first | exact HB.out | apply below_alloc | apply pw_below_drewN | apply below_drew1) | exact HB.out)))); have n6_ := Aside0.mk (below_step (by repeat (first | (with_reducible first | exact HB.out | apply below_alloc | apply pw_below_drewN | apply below_drew1) | exact HB.out)) hb); clear HO_0; clear HO_1; clear HO136; clear HO139; clear HO143; clear HB; have HO_0 := n0_; have HO_1 := n1_; have HO136 := n2_; have HO139 := n3_; have HO143 := n4_; have HO146 := n5_; have HB := n6_; clear n0_ n1_ n2_ n3_ n4_ n5_ n6_; clear hb ho78; obtain ⟨Ao79, co79, eo79⟩ := Kd.R_slice HO143.out; subst eo79; obtain ⟨Ao80, co80, eo80⟩ := Kd.R_slice HO146.out; subst eo80) | (go_at_call 22; (with_reducible refine (diaphoneref01_SameInts.calls kj49 _ _ t140 _ _ y144 true _ ?side1 ?side2 ?side3 ?side4 A69.out).mono ?_); (case side1 => repeat (first | exact (Kd.R_reads' HO143.out).2.2 | (with_reducible refine Kd.C_alloc ?_ _) | (with_reducible refine Kd.C_drewN ?_ _) | (with_reducible refine Kd.C_drew ?_))); (case side2 => exact (Kd.R_reads' HO143.out).2.1); (case side3 => repeat (first | exact (Kd.R_reads' HO146.out).2.2 | (with_reducible refine Kd.C_alloc ?_ _) | (with_reducible refine Kd.C_drewN ?_ _) | (with_reducible refine Kd.C_drew ?_))); (case side4 => exact (Kd.R_reads' HO146.out).2.1); rintro e w' ⟨rfl, ⟨nd, rfl⟩⟩))
                                                go_meet
                                                case rel => exact ⟨_, H', ⟨by have := HJ4.out; have := HJ15.out; have := HJ22.out; have := HJ27.out; have := HJ36.out; have := HJ49.out; first | omega | exact Nat.le_refl _⟩, ⟨by (with_reducible repeat (first | apply Kd.V_alloc | apply Kd.V_drewN | apply Kd.V_drew)); exact Kd.V_mono HO_0.out (fun _ hk => hk.1.1.1.1)⟩, ⟨by repeat (first | (with_reducible first | exact HB.out | apply below_alloc | apply pw_below_drewN | apply below_drew1) | exact HB.out)⟩⟩
                                              · replace c70 := Bool.eq_false_iff.mpr c70
                                                subst c70
                                                have H1 : (none) = some r := by rw [if_neg (show ¬ (false = true) by decide)] at H; exact H
                                                exact absurd H1 (by simp)
                                            · rw [if_neg c68] at H
                                              exact absurd H (by simp)
                                          · replace c67 := Bool.eq_false_iff.mpr c67
                                            subst c67
                                            have H1 : (none) = some r := by rw [if_neg (show ¬ (false = true) by decide)] at H; exact H
                                            exact absurd H1 (by simp)
                                        · replace c64 := Bool.eq_false_iff.mpr c64
                                          subst c64
                                          have H1 : (diaphonetop_TopTones.j6 kj49 l0 a2 t112) = some r := by rw [if_neg (show ¬ (false = true) by decide)] at H; exact H
                                          clear H
                                          have H := H1
                                          clear H1
                                          have H' := Aside0.mk H
                                          clear H
                                          go_wp2
                                          go_meet
                                          case rel => exact ⟨_, H', ⟨by have := HJ4.out; have := HJ15.out; have := HJ22.out; have := HJ27.out; have := HJ36.out; have := HJ49.out; first | omega | exact Nat.le_refl _⟩, ⟨by (with_reducible repeat (first | apply Kd.V_alloc | apply Kd.V_drewN | apply Kd.V_drew)); exact HO_0.out⟩, ⟨by repeat (first | (with_reducible first | exact HB.out | apply below_alloc | apply pw_below_drewN | apply below_drew1) | exact HB.out)⟩⟩
                                      case rest =>
                                        clear HC63
                                        try clear c1
                                        try clear c2
                                        try clear p2
                                        try clear c3
                                        try clear c4
                                        try clear c5
                                        try clear c6
                                        try clear p6
                                        try clear c7
                                        try clear c13
                                        try clear c13b0
                                        try clear c13b1
                                        try clear c14
                                        try clear c15
                                        try clear c17
                                        try clear c18
                                        try clear c20
                                        try clear c26
                                        try clear c26b0
                                        try clear c26b1
                                        try clear c27
                                        try clear c28
                                        try clear c29
                                        try clear c29b0
                                        try clear c30
                                        try clear c30b0
                                        try clear c31
                                        try clear c31b0
                                        try clear c32
                                        try clear c35
                                        try clear c37
                                        try clear c41
                                        try clear c42
                                        try clear c43
                                        try clear c43b0
                                        try clear c43b1
                                        try clear c47
                                        try clear c50
                                        try clear c53
                                        try clear c53b0
                                        try clear c53b1
                                        try clear c54
                                        try clear c54b0
                                        try clear c54b1
                                        try clear c55
                                        try clear c55b0
                                        try clear c55b1
                                        try clear c55b2
                                        try clear c56
                                        try clear c57
                                        try clear c58
                                        try clear c59
                                        try clear c59b0
                                        try clear c60
                                        try clear c61
                                        try clear c61b0
                                        try clear c62
                                        try clear c64
                                        try clear p64
                                        try clear c65
                                        try clear c67
                                        try clear c68
                                        try clear c68b0
                                        try clear c68b1
                                        try clear c70
                                        try clear p2
                                        try clear p6
                                        obtain ⟨kq, HA, HJ62, HO_0, HB⟩ := hcut
                                        cases kq with
                                        | zero => exact absurd HA.out (by simp [diaphonetop_TopTones.j6])
                                        | succ kj62 =>
                                          have H := HA.out
                                          clear HA
                                          simp only [diaphonetop_TopTones.j6] at H
                                          replace H := Option.bind_eq_some_iff.mp H
                                          obtain ⟨⟨t148, t149⟩, A1030, H⟩ := H
                                          replace H : ((tone_Back.f kj62 l0).bind fun bt152 => ((tone_Swap.f kj62 l0).bind fun bt156 => (if t149 = 0 then (if bt152.2 = 0 then (diaphonetop_TopTones.j7 kj62 l0 a2 t112 t148 bt152.1 bt156.1 (bt156.2 != 0)) else (diaphonetop_TopTones.j7 kj62 l0 a2 t112 t148 bt152.1 bt156.1 true)) else (diaphonetop_TopTones.j7 kj62 l0 a2 t112 t148 bt152.1 bt156.1 true)))) = some r := H
                                          have A103 := Aside0.mk A1030
                                          clear A1030
                                          replace H := Option.bind_eq_some_iff.mp H
                                          obtain ⟨⟨t152, t153⟩, A1040, H⟩ := H
                                          replace H : ((tone_Swap.f kj62 l0).bind fun bt156 => (if t149 = 0 then (if t153 = 0 then (diaphonetop_TopTones.j7 kj62 l0 a2 t112 t148 t152 bt156.1 (bt156.2 != 0)) else (diaphonetop_TopTones.j7 kj62 l0 a2 t112 t148 t152 bt156.1 true)) else (diaphonetop_TopTones.j7 kj62 l0 a2 t112 t148 t152 bt156.1 true))) = some r := H
                                          have A104 := Aside0.mk A1040
                                          clear A1040
                                          replace H := Option.bind_eq_some_iff.mp H
                                          obtain ⟨⟨t156, t157⟩, A1050, H⟩ := H
                                          replace H : (if t149 = 0 then (if t153 = 0 then (diaphonetop_TopTones.j7 kj62 l0 a2 t112 t148 t152 t156 (t157 != 0)) else (diaphonetop_TopTones.j7 kj62 l0 a2 t112 t148 t152 t156 true)) else (diaphonetop_TopTones.j7 kj62 l0 a2 t112 t148 t152 t156 true)) = some r := H
                                          have A105 := Aside0.mk A1050
                                          clear A1050
                                          have HC106 := Aside0.mk H
                                          clear H
                                          go_upto_region 30 with (first | ((with_reducible refine gate_callee (f := 20) rfl ?_); refine goesL_ (some 206) rfl rfl Try.func20 (by kernel_rfl) rfl #[.slice A0 l0.length c0, .int .i64 a2] rfl (by (try simp only [List.map_toArray, List.map_cons, List.map_nil]); first | done | rfl | (simp only [List.length_drop, List.length_take]; rfl)) ?_; (with_reducible refine (tone_Turn.calls kj62 _ _ l0 a2 t148 t149 _ ?side1 ?side2 A103.out).mono ?_); (case side1 => repeat (first | exact (Kd.V_reads' HO_0.out).2.2 | (with_reducible refine Kd.C_alloc ?_ _) | (with_reducible refine Kd.C_drewN ?_ _) | (with_reducible refine Kd.C_drew ?_))); (case side2 => exact (Kd.V_reads' HO_0.out).2.1); rintro e w107 ⟨v150, rfl, ho0, hb⟩; refine ⟨_, rfl, ?_⟩; have n0_ := Aside0.mk (Kd.V_elder' (by (with_reducible repeat (first | apply Kd.V_alloc | apply Kd.V_drewN | apply Kd.V_drew)); exact HO_0.out) (Kd.R_base ho0) hb); have n1_ := Aside0.mk (Kd.R_lower (Kd.R_newM (M := fun k_ => (w.heap.size ≤ k_)) ho0 (below_size (by repeat (first | (with_reducible first | exact HB.out | apply below_alloc | apply pw_below_drewN | apply below_drew1) | exact HB.out))) (fun k_ h_ => h_)) (below_size (by repeat (first | (with_reducible first | exact HB.out | apply below_alloc | apply pw_below_drewN | apply below_drew1) | exact HB.out)))); have n2_ := Aside0.mk (below_step (by repeat (first | (with_reducible first | exact HB.out | apply below_alloc | apply pw_below_drewN | apply below_drew1) | exact HB.out)) hb); clear HO_0; clear HB; have HO_0 := n0_; have HO151 := n1_; have HB := n2_; clear n0_ n1_ n2_; (try clear hb); (try clear hb2); (try clear hk); (try clear hi); (try clear ho0)) | ((with_reducible refine gate_callee (f := 43) rfl ?_); refine goesL_ (some 211) rfl rfl Try.func43 (by kernel_rfl) rfl #[.slice A0 l0.length c0] rfl (by (try simp only [List.map_toArray, List.map_cons, List.map_nil]); first | done | rfl | (simp only [List.length_drop, List.length_take]; rfl)) ?_; (with_reducible refine (tone_Back.calls kj62 _ _ l0 t152 t153 _ ?side1 ?side2 A104.out).mono ?_); (case side1 => repeat (first | exact (Kd.V_reads' HO_0.out).2.2 | (with_reducible refine Kd.C_alloc ?_ _) | (with_reducible refine Kd.C_drewN ?_ _) | (with_reducible refine Kd.C_drew ?_))); (case side2 => exact (Kd.V_reads' HO_0.out).2.1); rintro e w108 ⟨v154, rfl, ho0, hb⟩; refine ⟨_, rfl, ?_⟩; have n0_ := Aside0.mk (Kd.V_elder' (by (with_reducible repeat (first | apply Kd.V_alloc | apply Kd.V_drewN | apply Kd.V_drew)); exact HO_0.out) (Kd.R_base ho0) hb); have n1_ := Aside0.mk (Kd.R_elder' (by (with_reducible repeat (first | apply Kd.R_alloc | apply Kd.R_drewN | apply Kd.R_drew)); exact HO151.out) (Kd.R_base ho0) hb); have n2_ := Aside0.mk (Kd.R_lower (Kd.R_new' (Kd.R_newM (M := fun k_ => (w.heap.size ≤ k_)) ho0 (below_size (by repeat (first | (with_reducible first | exact HB.out | apply below_alloc | apply pw_below_drewN | apply below_drew1) | exact HB.out))) (fun k_ h_ => h_)) (Kd.R_lt (by (with_reducible repeat (first | apply Kd.R_alloc | apply Kd.R_drewN | apply Kd.R_drew)); exact HO151.out))) (below_size (by repeat (first | (with_reducible first | exact HB.out | apply below_alloc | apply pw_below_drewN | apply below_drew1) | exact HB.out)))); have n3_ := Aside0.mk (below_step (by repeat (first | (with_reducible first | exact HB.out | apply below_alloc | apply pw_below_drewN | apply below_drew1) | exact HB.out)) hb); clear HO_0; clear HO151; clear HB; have HO_0 := n0_; have HO151 := n1_; have HO155 := n2_; have HB := n3_; clear n0_ n1_ n2_ n3_; (try clear hb); (try clear hb2); (try clear hk); (try clear hi); (try clear ho0)) | ((with_reducible refine gate_callee (f := 41) rfl ?_); refine goesL_ (some 216) rfl rfl Try.func41 (by kernel_rfl) rfl #[.slice A0 l0.length c0] rfl (by (try simp only [List.map_toArray, List.map_cons, List.map_nil]); first | done | rfl | (simp only [List.length_drop, List.length_take]; rfl)) ?_; (with_reducible refine (tone_Swap.calls kj62 _ _ l0 t156 t157 _ ?side1 ?side2 A105.out).mono ?_); (case side1 => repeat (first | exact (Kd.V_reads' HO_0.out).2.2 | (with_reducible refine Kd.C_alloc ?_ _) | (with_reducible refine Kd.C_drewN ?_ _) | (with_reducible refine Kd.C_drew ?_))); (case side2 => exact (Kd.V_reads' HO_0.out).2.1); rintro e w109 ⟨v158, rfl, ho0, hb⟩; refine ⟨_, rfl, ?_⟩; have n0_ := Aside0.mk (Kd.V_elder' (by (with_reducible repeat (first | apply Kd.V_alloc | apply Kd.V_drewN | apply Kd.V_drew)); exact HO_0.out) (Kd.R_base ho0) hb); have n1_ := Aside0.mk (Kd.R_elder' (by (with_reducible repeat (first | apply Kd.R_alloc | apply Kd.R_drewN | apply Kd.R_drew)); exact HO151.out) (Kd.R_base ho0) hb); have n2_ := Aside0.mk (Kd.R_elder' (by (with_reducible repeat (first | apply Kd.R_alloc | apply Kd.R_drewN | apply Kd.R_drew)); exact HO155.out) (Kd.R_base ho0) hb); have n3_ := Aside0.mk (Kd.R_lower (Kd.R_new' (Kd.R_new' (Kd.R_newM (M := fun k_ => (w.heap.size ≤ k_)) ho0 (below_size (by repeat (first | (with_reducible first | exact HB.out | apply below_alloc | apply pw_below_drewN | apply below_drew1) | exact HB.out))) (fun k_ h_ => h_)) (Kd.R_lt (by (with_reducible repeat (first | apply Kd.R_alloc | apply Kd.R_drewN | apply Kd.R_drew)); exact HO151.out))) (Kd.R_lt (by (with_reducible repeat (first | apply Kd.R_alloc | apply Kd.R_drewN | apply Kd.R_drew)); exact HO155.out))) (below_size (by repeat (first | (with_reducible first | exact HB.out | apply below_alloc | apply pw_below_drewN | apply below_drew1) | exact HB.out)))); have n4_ := Aside0.mk (below_step (by repeat (first | (with_reducible first | exact HB.out | apply below_alloc | apply pw_below_drewN | apply below_drew1) | exact HB.out)) hb); clear HO_0; clear HO151; clear HO155; clear HB; have HO_0 := n0_; have HO151 := n1_; have HO155 := n2_; have HO159 := n3_; have HB := n4_; clear n0_ n1_ n2_ n3_ n4_; (try clear hb); (try clear hb2); (try clear hk); (try clear hi); (try clear ho0)))
                                          (try simp only [Act.put, List.setIfInBounds_toArray, List.set_cons_zero, List.set_cons_succ])
                                          go_cut [228] (fun v228 wc => ∃ (kq : Nat) (x228_105 : Bool), v228 = .bool x228_105 ∧ Aside0 (diaphonetop_TopTones.j7 kq l0 a2 t112 t148 t152 t156 x228_105 = some r) ∧ Aside0 (kq ≤ kj62) ∧ Aside0 (Kd.V (Kd.int .i64) 3 wc w.heap.size (fun k_ => ((P0_ k_ ∨ P1_ k_) ∨ w.heap.size ≤ k_) ∧ some k_ ≠ (v150 : Value).ownBlock ∧ some k_ ≠ (v154 : Value).ownBlock ∧ some k_ ≠ (v158 : Value).ownBlock) (.slice A0 l0.length c0) l0) ∧ Aside0 (Kd.R (Kd.int .i64) 3 wc w.heap.size (fun k_ => (w.heap.size ≤ k_) ∧ some k_ ≠ (v154 : Value).ownBlock ∧ some k_ ≠ (v158 : Value).ownBlock) v150 t148) ∧ Aside0 (Kd.R (Kd.int .i64) 3 wc w.heap.size (fun k_ => (w.heap.size ≤ k_) ∧ some k_ ≠ (v150 : Value).ownBlock ∧ some k_ ≠ (v158 : Value).ownBlock) v154 t152) ∧ Aside0 (Kd.R (Kd.int .i64) 3 wc w.heap.size (fun k_ => (w.heap.size ≤ k_) ∧ some k_ ≠ (v150 : Value).ownBlock ∧ some k_ ≠ (v154 : Value).ownBlock) v158 t156) ∧ Aside0 (Below w.heap.size w wc))
                                          case first =>
                                            have H := HC106.out
                                            clear HC106
                                            by_cases c110 : t149 = 0
                                            · as_aux_lemma =>
                                              rw [if_pos c110] at H
                                              have c110b0 : (t149 == 0) = true := beq_iff_eq.mpr c110
                                              have c110b1 : (t149 != 0) = false := bne_eq_false_iff_eq.mpr c110
                                              clear c110
                                              (first | rw [c110b0] | (simp only [i64_w, i32_w]; rw [c110b0]) | skip)
                                              by_cases c111 : t153 = 0
                                              · rw [if_pos c111] at H
                                                have c111b0 : (t153 == 0) = true := beq_iff_eq.mpr c111
                                                have c111b1 : (t153 != 0) = false := bne_eq_false_iff_eq.mpr c111
                                                clear c111
                                                have H' := Aside0.mk H
                                                clear H
                                                go_wp2
                                                go_meet
                                                case rel => exact ⟨_, ((t157 != 0)), (by first | rfl | (simp; done) | (simp [*]; done)), H', ⟨by have := HJ4.out; have := HJ15.out; have := HJ22.out; have := HJ27.out; have := HJ36.out; have := HJ49.out; have := HJ62.out; first | omega | exact Nat.le_refl _⟩, ⟨by (with_reducible repeat (first | apply Kd.V_alloc | apply Kd.V_drewN | apply Kd.V_drew)); exact Kd.V_mono HO_0.out (fun _ hk => ⟨hk.1.1.1, ⟨hk.1.1.2, ⟨hk.1.2, hk.2⟩⟩⟩)⟩, ⟨by (with_reducible repeat (first | apply Kd.R_alloc | apply Kd.R_drewN | apply Kd.R_drew)); exact Kd.R_mono HO151.out (fun _ hk => ⟨hk.1.1.1, ⟨hk.1.2, hk.2⟩⟩)⟩, ⟨by (with_reducible repeat (first | apply Kd.R_alloc | apply Kd.R_drewN | apply Kd.R_drew)); exact Kd.R_mono HO155.out (fun _ hk => ⟨hk.1.1.1, ⟨hk.1.2, hk.2⟩⟩)⟩, ⟨by (with_reducible repeat (first | apply Kd.R_alloc | apply Kd.R_drewN | apply Kd.R_drew)); exact Kd.R_mono HO159.out (fun _ hk => ⟨hk.1.1.1, ⟨hk.1.2, hk.2⟩⟩)⟩, ⟨by repeat (first | (with_reducible first | exact HB.out | apply below_alloc | apply pw_below_drewN | apply below_drew1) | exact HB.out)⟩⟩
                                              · rw [if_neg c111] at H
                                                have c111b0 : (t153 == 0) = false := beq_eq_false_iff_ne.mpr c111
                                                have c111b1 : (t153 != 0) = true := bne_iff_ne.mpr c111
                                                have H' := Aside0.mk H
                                                clear H
                                                go_wp2
                                                go_meet
                                                case rel => exact ⟨_, (true), (by first | rfl | (simp; done) | (simp [*]; done)), H', ⟨by have := HJ4.out; have := HJ15.out; have := HJ22.out; have := HJ27.out; have := HJ36.out; have := HJ49.out; have := HJ62.out; first | omega | exact Nat.le_refl _⟩, ⟨by (with_reducible repeat (first | apply Kd.V_alloc | apply Kd.V_drewN | apply Kd.V_drew)); exact Kd.V_mono HO_0.out (fun _ hk => ⟨hk.1.1.1, ⟨hk.1.1.2, ⟨hk.1.2, hk.2⟩⟩⟩)⟩, ⟨by (with_reducible repeat (first | apply Kd.R_alloc | apply Kd.R_drewN | apply Kd.R_drew)); exact Kd.R_mono HO151.out (fun _ hk => ⟨hk.1.1.1, ⟨hk.1.2, hk.2⟩⟩)⟩, ⟨by (with_reducible repeat (first | apply Kd.R_alloc | apply Kd.R_drewN | apply Kd.R_drew)); exact Kd.R_mono HO155.out (fun _ hk => ⟨hk.1.1.1, ⟨hk.1.2, hk.2⟩⟩)⟩, ⟨by (with_reducible repeat (first | apply Kd.R_alloc | apply Kd.R_drewN | apply Kd.R_drew)); exact Kd.R_mono HO159.out (fun _ hk => ⟨hk.1.1.1, ⟨hk.1.2, hk.2⟩⟩)⟩, ⟨by repeat (first | (with_reducible first | exact HB.out | apply below_alloc | apply pw_below_drewN | apply below_drew1) | exact HB.out)⟩⟩
                                            · rw [if_neg c110] at H
                                              have c110b0 : (t149 == 0) = false := beq_eq_false_iff_ne.mpr c110
                                              have c110b1 : (t149 != 0) = true := bne_iff_ne.mpr c110
                                              (first | rw [c110b0] | (simp only [i64_w, i32_w]; rw [c110b0]) | skip)
                                              have H' := Aside0.mk H
                                              clear H
                                              go_wp2
                                              go_meet
                                              case rel => exact ⟨_, (true), (by first | rfl | (simp; done) | (simp [*]; done)), H', ⟨by have := HJ4.out; have := HJ15.out; have := HJ22.out; have := HJ27.out; have := HJ36.out; have := HJ49.out; have := HJ62.out; first | omega | exact Nat.le_refl _⟩, ⟨by (with_reducible repeat (first | apply Kd.V_alloc | apply Kd.V_drewN | apply Kd.V_drew)); exact Kd.V_mono HO_0.out (fun _ hk => ⟨hk.1.1.1, ⟨hk.1.1.2, ⟨hk.1.2, hk.2⟩⟩⟩)⟩, ⟨by (with_reducible repeat (first | apply Kd.R_alloc | apply Kd.R_drewN | apply Kd.R_drew)); exact Kd.R_mono HO151.out (fun _ hk => ⟨hk.1.1.1, ⟨hk.1.2, hk.2⟩⟩)⟩, ⟨by (with_reducible repeat (first | apply Kd.R_alloc | apply Kd.R_drewN | apply Kd.R_drew)); exact Kd.R_mono HO155.out (fun _ hk => ⟨hk.1.1.1, ⟨hk.1.2, hk.2⟩⟩)⟩, ⟨by (with_reducible repeat (first | apply Kd.R_alloc | apply Kd.R_drewN | apply Kd.R_drew)); exact Kd.R_mono HO159.out (fun _ hk => ⟨hk.1.1.1, ⟨hk.1.2, hk.2⟩⟩)⟩, ⟨by repeat (first | (with_reducible first | exact HB.out | apply below_alloc | apply pw_below_drewN | apply below_drew1) | exact HB.out)⟩⟩
                                          case rest =>
                                            clear HC106
                                            try clear c1
                                            try clear c2
                                            try clear p2
                                            try clear c3
                                            try clear c4
                                            try clear c5
                                            try clear c6
                                            try clear p6
                                            try clear c7
                                            try clear c11
                                            try clear c13
                                            try clear c13b0
                                            try clear c13b1
                                            try clear c14
                                            try clear c15
                                            try clear c17
                                            try clear c18
                                            try clear c20
                                            try clear c26
                                            try clear c26b0
                                            try clear c26b1
                                            try clear c27
                                            try clear c28
                                            try clear c29
                                            try clear c29b0
                                            try clear c30
                                            try clear c30b0
                                            try clear c31
                                            try clear c31b0
                                            try clear c32
                                            try clear c35
                                            try clear c37
                                            try clear c41
                                            try clear c42
                                            try clear c43
                                            try clear c43b0
                                            try clear c43b1
                                            try clear c47
                                            try clear c50
                                            try clear c53
                                            try clear c53b0
                                            try clear c53b1
                                            try clear c54
                                            try clear c54b0
                                            try clear c54b1
                                            try clear c55
                                            try clear c55b0
                                            try clear c55b1
                                            try clear c55b2
                                            try clear c56
                                            try clear c57
                                            try clear c58
                                            try clear c59
                                            try clear c59b0
                                            try clear c60
                                            try clear c61
                                            try clear c61b0
                                            try clear c62
                                            try clear c64
                                            try clear p64
                                            try clear c65
                                            try clear c67
                                            try clear c68
                                            try clear c68b0
                                            try clear c68b1
                                            try clear c70
                                            try clear c110
                                            try clear c110b0
                                            try clear c110b1
                                            try clear c111
                                            try clear c111b0
                                            try clear c111b1
                                            try clear p2
                                            try clear p6
                                            try clear p64
                                            obtain ⟨kq, x228_105, rfl, HA, HJ105, HO_0, HO_27, HO_28, HO_29, HB⟩ := hcut
                                            cases kq with
                                            | zero => exact absurd HA.out (by simp [diaphonetop_TopTones.j7])
                                            | succ kj105 =>
                                              have H := HA.out
                                              clear HA
                                              simp only [diaphonetop_TopTones.j7] at H
                                              by_cases c112 : x228_105 = true
                                              · subst c112
                                                have H1 : (none) = some r := by rw [if_pos rfl] at H; exact H
                                                exact absurd H1 (by simp)
                                              · as_aux_lemma =>
                                                replace c112 := Bool.eq_false_iff.mpr c112
                                                subst c112
                                                have H1 : ((tone_Alike.f kj105 l0 t148).bind fun bt160 => ((tone_Period.f kj105 t152).bind fun bt162 => ((tone_Period.f kj105 t156).bind fun bt164 => (if bt160.2 = 0 then (if bt162.2 = 0 then (if bt164.2 = 0 then (if bt160.1 = true then (if bt162.1 = t112 then (diaphonetop_TopTones.j8 kj105 l0 a2 t112 t148 (bt164.1 != t112)) else (diaphonetop_TopTones.j8 kj105 l0 a2 t112 t148 true)) else (diaphonetop_TopTones.j8 kj105 l0 a2 t112 t148 true)) else (diaphonetop_TopTones.j8 kj105 l0 a2 t112 t148 true)) else (diaphonetop_TopTones.j8 kj105 l0 a2 t112 t148 true)) else (diaphonetop_TopTones.j8 kj105 l0 a2 t112 t148 true))))) = some r := by rw [if_neg (show ¬ (false = true) by decide)] at H; exact H
                                                clear H
                                                have H := H1
                                                clear H1
                                                replace H := Option.bind_eq_some_iff.mp H
                                                obtain ⟨⟨t160, t161⟩, A1130, H⟩ := H
                                                replace H : ((tone_Period.f kj105 t152).bind fun bt162 => ((tone_Period.f kj105 t156).bind fun bt164 => (if t161 = 0 then (if bt162.2 = 0 then (if bt164.2 = 0 then (if t160 = true then (if bt162.1 = t112 then (diaphonetop_TopTones.j8 kj105 l0 a2 t112 t148 (bt164.1 != t112)) else (diaphonetop_TopTones.j8 kj105 l0 a2 t112 t148 true)) else (diaphonetop_TopTones.j8 kj105 l0 a2 t112 t148 true)) else (diaphonetop_TopTones.j8 kj105 l0 a2 t112 t148 true)) else (diaphonetop_TopTones.j8 kj105 l0 a2 t112 t148 true)) else (diaphonetop_TopTones.j8 kj105 l0 a2 t112 t148 true)))) = some r := H
                                                have A113 := Aside0.mk A1130
                                                clear A1130
                                                replace H := Option.bind_eq_some_iff.mp H
                                                obtain ⟨⟨t162, t163⟩, A1140, H⟩ := H
                                                replace H : ((tone_Period.f kj105 t156).bind fun bt164 => (if t161 = 0 then (if t163 = 0 then (if bt164.2 = 0 then (if t160 = true then (if t162 = t112 then (diaphonetop_TopTones.j8 kj105 l0 a2 t112 t148 (bt164.1 != t112)) else (diaphonetop_TopTones.j8 kj105 l0 a2 t112 t148 true)) else (diaphonetop_TopTones.j8 kj105 l0 a2 t112 t148 true)) else (diaphonetop_TopTones.j8 kj105 l0 a2 t112 t148 true)) else (diaphonetop_TopTones.j8 kj105 l0 a2 t112 t148 true)) else (diaphonetop_TopTones.j8 kj105 l0 a2 t112 t148 true))) = some r := H
                                                have A114 := Aside0.mk A1140
                                                clear A1140
                                                replace H := Option.bind_eq_some_iff.mp H
                                                obtain ⟨⟨t164, t165⟩, A1150, H⟩ := H
                                                replace H : (if t161 = 0 then (if t163 = 0 then (if t165 = 0 then (if t160 = true then (if t162 = t112 then (diaphonetop_TopTones.j8 kj105 l0 a2 t112 t148 (t164 != t112)) else (diaphonetop_TopTones.j8 kj105 l0 a2 t112 t148 true)) else (diaphonetop_TopTones.j8 kj105 l0 a2 t112 t148 true)) else (diaphonetop_TopTones.j8 kj105 l0 a2 t112 t148 true)) else (diaphonetop_TopTones.j8 kj105 l0 a2 t112 t148 true)) else (diaphonetop_TopTones.j8 kj105 l0 a2 t112 t148 true)) = some r := H
                                                have A115 := Aside0.mk A1150
                                                clear A1150
                                                have HC116 := Aside0.mk H
                                                clear H
                                                obtain ⟨Ao117, co117, eo117⟩ := Kd.R_slice HO_27.out
                                                subst eo117
                                                go_upto_region 35 with (first | ((with_reducible refine gate_callee (f := 37) rfl ?_); refine goesL_ (some 232) rfl rfl Try.func37 (by kernel_rfl) rfl #[.slice A0 l0.length c0, .slice Ao117 t148.length co117] rfl (by (try simp only [List.map_toArray, List.map_cons, List.map_nil]); first | done | rfl | (simp only [List.length_drop, List.length_take]; rfl)) ?_; (with_reducible refine (tone_Alike.calls kj105 _ _ l0 _ _ t148 t160 t161 _ ?side1 ?side2 ?side3 ?side4 A113.out).mono ?_); (case side1 => repeat (first | exact (Kd.V_reads' HO_0.out).2.2 | (with_reducible refine Kd.C_alloc ?_ _) | (with_reducible refine Kd.C_drewN ?_ _) | (with_reducible refine Kd.C_drew ?_))); (case side2 => exact (Kd.V_reads' HO_0.out).2.1); (case side3 => repeat (first | exact (Kd.R_reads' HO_27.out).2.2 | (with_reducible refine Kd.C_alloc ?_ _) | (with_reducible refine Kd.C_drewN ?_ _) | (with_reducible refine Kd.C_drew ?_))); (case side4 => exact (Kd.R_reads' HO_27.out).2.1); rintro e w118 ⟨rfl, hb⟩; refine ⟨_, rfl, ?_⟩; have n0_ := Aside0.mk (Kd.V_below (by (with_reducible repeat (first | apply Kd.V_alloc | apply Kd.V_drewN | apply Kd.V_drew)); exact HO_0.out) hb); have n1_ := Aside0.mk (Kd.R_below (by (with_reducible repeat (first | apply Kd.R_alloc | apply Kd.R_drewN | apply Kd.R_drew)); exact HO_27.out) hb); have n2_ := Aside0.mk (Kd.R_below (by (with_reducible repeat (first | apply Kd.R_alloc | apply Kd.R_drewN | apply Kd.R_drew)); exact HO_28.out) hb); have n3_ := Aside0.mk (Kd.R_below (by (with_reducible repeat (first | apply Kd.R_alloc | apply Kd.R_drewN | apply Kd.R_drew)); exact HO_29.out) hb); have n4_ := Aside0.mk (below_step (by repeat (first | (with_reducible first | exact HB.out | apply below_alloc | apply pw_below_drewN | apply below_drew1) | exact HB.out)) hb); clear HO_0; clear HO_27; clear HO_28; clear HO_29; clear HB; have HO_0 := n0_; have HO_27 := n1_; have HO_28 := n2_; have HO_29 := n3_; have HB := n4_; clear n0_ n1_ n2_ n3_ n4_; (try clear hb); (try clear hb2); (try clear hk); (try clear hi); obtain ⟨Ao119, co119, eo119⟩ := Kd.R_slice HO_28.out; subst eo119) | ((with_reducible refine gate_callee (f := 28) rfl ?_); refine goesL_ (some 237) rfl rfl Try.func28 (by kernel_rfl) rfl #[.slice Ao119 t152.length co119] rfl (by (try simp only [List.map_toArray, List.map_cons, List.map_nil]); first | done | rfl | (simp only [List.length_drop, List.length_take]; rfl)) ?_; (with_reducible refine (tone_Period.calls kj105 _ _ t152 t162 t163 _ ?side1 ?side2 A114.out).mono ?_); (case side1 => repeat (first | exact (Kd.R_reads' HO_28.out).2.2 | (with_reducible refine Kd.C_alloc ?_ _) | (with_reducible refine Kd.C_drewN ?_ _) | (with_reducible refine Kd.C_drew ?_))); (case side2 => exact (Kd.R_reads' HO_28.out).2.1); rintro e w120 ⟨rfl, hb⟩; refine ⟨_, rfl, ?_⟩; have n0_ := Aside0.mk (Kd.V_below (by (with_reducible repeat (first | apply Kd.V_alloc | apply Kd.V_drewN | apply Kd.V_drew)); exact HO_0.out) hb); have n1_ := Aside0.mk (Kd.R_below (by (with_reducible repeat (first | apply Kd.R_alloc | apply Kd.R_drewN | apply Kd.R_drew)); exact HO_27.out) hb); have n2_ := Aside0.mk (Kd.R_below (by (with_reducible repeat (first | apply Kd.R_alloc | apply Kd.R_drewN | apply Kd.R_drew)); exact HO_28.out) hb); have n3_ := Aside0.mk (Kd.R_below (by (with_reducible repeat (first | apply Kd.R_alloc | apply Kd.R_drewN | apply Kd.R_drew)); exact HO_29.out) hb); have n4_ := Aside0.mk (below_step (by repeat (first | (with_reducible first | exact HB.out | apply below_alloc | apply pw_below_drewN | apply below_drew1) | exact HB.out)) hb); clear HO_0; clear HO_27; clear HO_28; clear HO_29; clear HB; have HO_0 := n0_; have HO_27 := n1_; have HO_28 := n2_; have HO_29 := n3_; have HB := n4_; clear n0_ n1_ n2_ n3_ n4_; (try clear hb); (try clear hb2); (try clear hk); (try clear hi); obtain ⟨Ao121, co121, eo121⟩ := Kd.R_slice HO_29.out; subst eo121) | ((with_reducible refine gate_callee (f := 28) rfl ?_); refine goesL_ (some 242) rfl rfl Try.func28 (by kernel_rfl) rfl #[.slice Ao121 t156.length co121] rfl (by (try simp only [List.map_toArray, List.map_cons, List.map_nil]); first | done | rfl | (simp only [List.length_drop, List.length_take]; rfl)) ?_; (with_reducible refine (tone_Period.calls kj105 _ _ t156 t164 t165 _ ?side1 ?side2 A115.out).mono ?_); (case side1 => repeat (first | exact (Kd.R_reads' HO_29.out).2.2 | (with_reducible refine Kd.C_alloc ?_ _) | (with_reducible refine Kd.C_drewN ?_ _) | (with_reducible refine Kd.C_drew ?_))); (case side2 => exact (Kd.R_reads' HO_29.out).2.1); rintro e w122 ⟨rfl, hb⟩; refine ⟨_, rfl, ?_⟩; have n0_ := Aside0.mk (Kd.V_below (by (with_reducible repeat (first | apply Kd.V_alloc | apply Kd.V_drewN | apply Kd.V_drew)); exact HO_0.out) hb); have n1_ := Aside0.mk (Kd.R_below (by (with_reducible repeat (first | apply Kd.R_alloc | apply Kd.R_drewN | apply Kd.R_drew)); exact HO_27.out) hb); have n2_ := Aside0.mk (Kd.R_below (by (with_reducible repeat (first | apply Kd.R_alloc | apply Kd.R_drewN | apply Kd.R_drew)); exact HO_28.out) hb); have n3_ := Aside0.mk (Kd.R_below (by (with_reducible repeat (first | apply Kd.R_alloc | apply Kd.R_drewN | apply Kd.R_drew)); exact HO_29.out) hb); have n4_ := Aside0.mk (below_step (by repeat (first | (with_reducible first | exact HB.out | apply below_alloc | apply pw_below_drewN | apply below_drew1) | exact HB.out)) hb); clear HO_0; clear HO_27; clear HO_28; clear HO_29; clear HB; have HO_0 := n0_; have HO_27 := n1_; have HO_28 := n2_; have HO_29 := n3_; have HB := n4_; clear n0_ n1_ n2_ n3_ n4_; (try clear hb); (try clear hb2); (try clear hk); (try clear hi)))
                                                (try simp only [Act.put, List.setIfInBounds_toArray, List.set_cons_zero, List.set_cons_succ])
                                                go_cut [268] (fun v268 wc => ∃ (kq : Nat) (x268_115 : Bool), v268 = .bool x268_115 ∧ Aside0 (diaphonetop_TopTones.j8 kq l0 a2 t112 t148 x268_115 = some r) ∧ Aside0 (kq ≤ kj105) ∧ Aside0 (Kd.V (Kd.int .i64) 3 wc w.heap.size (fun k_ => ((P0_ k_ ∨ P1_ k_) ∨ w.heap.size ≤ k_) ∧ some k_ ≠ ((.slice Ao117 t148.length co117) : Value).ownBlock) (.slice A0 l0.length c0) l0) ∧ Aside0 (Kd.R (Kd.int .i64) 3 wc w.heap.size (fun k_ => (w.heap.size ≤ k_)) (.slice Ao117 t148.length co117) t148) ∧ Aside0 (Below w.heap.size w wc))
                                                case first =>
                                                  have H := HC116.out
                                                  clear HC116
                                                  by_cases c123 : t161 = 0
                                                  · as_aux_lemma =>
                                                    rw [if_pos c123] at H
                                                    have c123b0 : (t161 == 0) = true := beq_iff_eq.mpr c123
                                                    have c123b1 : (t161 != 0) = false := bne_eq_false_iff_eq.mpr c123
                                                    clear c123
                                                    (first | rw [c123b0] | (simp only [i64_w, i32_w]; rw [c123b0]) | skip)
                                                    by_cases c124 : t163 = 0
                                                    · rw [if_pos c124] at H
                                                      have c124b0 : (t163 == 0) = true := beq_iff_eq.mpr c124
                                                      have c124b1 : (t163 != 0) = false := bne_eq_false_iff_eq.mpr c124
                                                      clear c124
                                                      by_cases c125 : t165 = 0
                                                      · rw [if_pos c125] at H
                                                        have c125b0 : (t165 == 0) = true := beq_iff_eq.mpr c125
                                                        have c125b1 : (t165 != 0) = false := bne_eq_false_iff_eq.mpr c125
                                                        clear c125
                                                        by_cases c126 : t160 = true
                                                        · subst c126
                                                          have H1 : (if t162 = t112 then (diaphonetop_TopTones.j8 kj105 l0 a2 t112 t148 (t164 != t112)) else (diaphonetop_TopTones.j8 kj105 l0 a2 t112 t148 true)) = some r := by rw [if_pos rfl] at H; exact H
                                                          clear H
                                                          have H := H1
                                                          clear H1
                                                          by_cases c127 : t162 = t112
                                                          · rw [if_pos c127] at H
                                                            have c127b0 : (t162 == t112) = true := beq_iff_eq.mpr c127
                                                            have c127b1 : (t162 != t112) = false := bne_eq_false_iff_eq.mpr c127
                                                            clear c127
                                                            have H' := Aside0.mk H
                                                            clear H
                                                            go_wp2
                                                            go_meet
                                                            case rel => exact ⟨_, ((t164 != t112)), (by first | rfl | (simp; done) | (simp [*]; done)), H', ⟨by have := HJ4.out; have := HJ15.out; have := HJ22.out; have := HJ27.out; have := HJ36.out; have := HJ49.out; have := HJ62.out; have := HJ105.out; first | omega | exact Nat.le_refl _⟩, ⟨by (with_reducible repeat (first | apply Kd.V_alloc | apply Kd.V_drewN | apply Kd.V_drew)); exact Kd.V_mono HO_0.out (fun _ hk => ⟨hk.1, hk.2.1⟩)⟩, ⟨by (with_reducible repeat (first | apply Kd.R_alloc | apply Kd.R_drewN | apply Kd.R_drew)); exact Kd.R_mono HO_27.out (fun _ hk => hk.1)⟩, ⟨by repeat (first | (with_reducible first | exact HB.out | apply below_alloc | apply pw_below_drewN | apply below_drew1) | exact HB.out)⟩⟩
                                                          · rw [if_neg c127] at H
                                                            have c127b0 : (t162 == t112) = false := beq_eq_false_iff_ne.mpr c127
                                                            have c127b1 : (t162 != t112) = true := bne_iff_ne.mpr c127
                                                            have H' := Aside0.mk H
                                                            clear H
                                                            go_wp2
                                                            go_meet
                                                            case rel => exact ⟨_, (true), (by first | rfl | (simp; done) | (simp [*]; done)), H', ⟨by have := HJ4.out; have := HJ15.out; have := HJ22.out; have := HJ27.out; have := HJ36.out; have := HJ49.out; have := HJ62.out; have := HJ105.out; first | omega | exact Nat.le_refl _⟩, ⟨by (with_reducible repeat (first | apply Kd.V_alloc | apply Kd.V_drewN | apply Kd.V_drew)); exact Kd.V_mono HO_0.out (fun _ hk => ⟨hk.1, hk.2.1⟩)⟩, ⟨by (with_reducible repeat (first | apply Kd.R_alloc | apply Kd.R_drewN | apply Kd.R_drew)); exact Kd.R_mono HO_27.out (fun _ hk => hk.1)⟩, ⟨by repeat (first | (with_reducible first | exact HB.out | apply below_alloc | apply pw_below_drewN | apply below_drew1) | exact HB.out)⟩⟩
                                                        · replace c126 := Bool.eq_false_iff.mpr c126
                                                          subst c126
                                                          have H1 : (diaphonetop_TopTones.j8 kj105 l0 a2 t112 t148 true) = some r := by rw [if_neg (show ¬ (false = true) by decide)] at H; exact H
                                                          clear H
                                                          have H := H1
                                                          clear H1
                                                          have H' := Aside0.mk H
                                                          clear H
                                                          go_wp2
                                                          go_meet
                                                          case rel => exact ⟨_, (true), (by first | rfl | (simp; done) | (simp [*]; done)), H', ⟨by have := HJ4.out; have := HJ15.out; have := HJ22.out; have := HJ27.out; have := HJ36.out; have := HJ49.out; have := HJ62.out; have := HJ105.out; first | omega | exact Nat.le_refl _⟩, ⟨by (with_reducible repeat (first | apply Kd.V_alloc | apply Kd.V_drewN | apply Kd.V_drew)); exact Kd.V_mono HO_0.out (fun _ hk => ⟨hk.1, hk.2.1⟩)⟩, ⟨by (with_reducible repeat (first | apply Kd.R_alloc | apply Kd.R_drewN | apply Kd.R_drew)); exact Kd.R_mono HO_27.out (fun _ hk => hk.1)⟩, ⟨by repeat (first | (with_reducible first | exact HB.out | apply below_alloc | apply pw_below_drewN | apply below_drew1) | exact HB.out)⟩⟩
                                                      · rw [if_neg c125] at H
                                                        have c125b0 : (t165 == 0) = false := beq_eq_false_iff_ne.mpr c125
                                                        have c125b1 : (t165 != 0) = true := bne_iff_ne.mpr c125
                                                        have H' := Aside0.mk H
                                                        clear H
                                                        go_wp2
                                                        go_meet
                                                        case rel => exact ⟨_, (true), (by first | rfl | (simp; done) | (simp [*]; done)), H', ⟨by have := HJ4.out; have := HJ15.out; have := HJ22.out; have := HJ27.out; have := HJ36.out; have := HJ49.out; have := HJ62.out; have := HJ105.out; first | omega | exact Nat.le_refl _⟩, ⟨by (with_reducible repeat (first | apply Kd.V_alloc | apply Kd.V_drewN | apply Kd.V_drew)); exact Kd.V_mono HO_0.out (fun _ hk => ⟨hk.1, hk.2.1⟩)⟩, ⟨by (with_reducible repeat (first | apply Kd.R_alloc | apply Kd.R_drewN | apply Kd.R_drew)); exact Kd.R_mono HO_27.out (fun _ hk => hk.1)⟩, ⟨by repeat (first | (with_reducible first | exact HB.out | apply below_alloc | apply pw_below_drewN | apply below_drew1) | exact HB.out)⟩⟩
                                                    · rw [if_neg c124] at H
                                                      have c124b0 : (t163 == 0) = false := beq_eq_false_iff_ne.mpr c124
                                                      have c124b1 : (t163 != 0) = true := bne_iff_ne.mpr c124
                                                      have H' := Aside0.mk H
                                                      clear H
                                                      go_wp2
                                                      go_meet
                                                      case rel => exact ⟨_, (true), (by first | rfl | (simp; done) | (simp [*]; done)), H', ⟨by have := HJ4.out; have := HJ15.out; have := HJ22.out; have := HJ27.out; have := HJ36.out; have := HJ49.out; have := HJ62.out; have := HJ105.out; first | omega | exact Nat.le_refl _⟩, ⟨by (with_reducible repeat (first | apply Kd.V_alloc | apply Kd.V_drewN | apply Kd.V_drew)); exact Kd.V_mono HO_0.out (fun _ hk => ⟨hk.1, hk.2.1⟩)⟩, ⟨by (with_reducible repeat (first | apply Kd.R_alloc | apply Kd.R_drewN | apply Kd.R_drew)); exact Kd.R_mono HO_27.out (fun _ hk => hk.1)⟩, ⟨by repeat (first | (with_reducible first | exact HB.out | apply below_alloc | apply pw_below_drewN | apply below_drew1) | exact HB.out)⟩⟩
                                                  · rw [if_neg c123] at H
                                                    have c123b0 : (t161 == 0) = false := beq_eq_false_iff_ne.mpr c123
                                                    have c123b1 : (t161 != 0) = true := bne_iff_ne.mpr c123
                                                    (first | rw [c123b0] | (simp only [i64_w, i32_w]; rw [c123b0]) | skip)
                                                    have H' := Aside0.mk H
                                                    clear H
                                                    go_wp2
                                                    go_meet
                                                    case rel => exact ⟨_, (true), (by first | rfl | (simp; done) | (simp [*]; done)), H', ⟨by have := HJ4.out; have := HJ15.out; have := HJ22.out; have := HJ27.out; have := HJ36.out; have := HJ49.out; have := HJ62.out; have := HJ105.out; first | omega | exact Nat.le_refl _⟩, ⟨by (with_reducible repeat (first | apply Kd.V_alloc | apply Kd.V_drewN | apply Kd.V_drew)); exact Kd.V_mono HO_0.out (fun _ hk => ⟨hk.1, hk.2.1⟩)⟩, ⟨by (with_reducible repeat (first | apply Kd.R_alloc | apply Kd.R_drewN | apply Kd.R_drew)); exact Kd.R_mono HO_27.out (fun _ hk => hk.1)⟩, ⟨by repeat (first | (with_reducible first | exact HB.out | apply below_alloc | apply pw_below_drewN | apply below_drew1) | exact HB.out)⟩⟩
                                                case rest =>
                                                  clear HC116
                                                  try clear c1
                                                  try clear c2
                                                  try clear p2
                                                  try clear c3
                                                  try clear c4
                                                  try clear c5
                                                  try clear c6
                                                  try clear p6
                                                  try clear c7
                                                  try clear c11
                                                  try clear c12
                                                  try clear c13
                                                  try clear c13b0
                                                  try clear c13b1
                                                  try clear c14
                                                  try clear c15
                                                  try clear c17
                                                  try clear c18
                                                  try clear c20
                                                  try clear c26
                                                  try clear c26b0
                                                  try clear c26b1
                                                  try clear c27
                                                  try clear c28
                                                  try clear c29
                                                  try clear c29b0
                                                  try clear c30
                                                  try clear c30b0
                                                  try clear c31
                                                  try clear c31b0
                                                  try clear c32
                                                  try clear c35
                                                  try clear c37
                                                  try clear c41
                                                  try clear c42
                                                  try clear c43
                                                  try clear c43b0
                                                  try clear c43b1
                                                  try clear c47
                                                  try clear c50
                                                  try clear c53
                                                  try clear c53b0
                                                  try clear c53b1
                                                  try clear c54
                                                  try clear c54b0
                                                  try clear c54b1
                                                  try clear c55
                                                  try clear c55b0
                                                  try clear c55b1
                                                  try clear c55b2
                                                  try clear c56
                                                  try clear c57
                                                  try clear c58
                                                  try clear c59
                                                  try clear c59b0
                                                  try clear c60
                                                  try clear c61
                                                  try clear c61b0
                                                  try clear c62
                                                  try clear c64
                                                  try clear p64
                                                  try clear c65
                                                  try clear c67
                                                  try clear c68
                                                  try clear c68b0
                                                  try clear c68b1
                                                  try clear c70
                                                  try clear c110
                                                  try clear c110b0
                                                  try clear c110b1
                                                  try clear c111
                                                  try clear c111b0
                                                  try clear c111b1
                                                  try clear c112
                                                  try clear c123
                                                  try clear c123b0
                                                  try clear c123b1
                                                  try clear c124
                                                  try clear c124b0
                                                  try clear c124b1
                                                  try clear c125
                                                  try clear c125b0
                                                  try clear c125b1
                                                  try clear c126
                                                  try clear c127
                                                  try clear c127b0
                                                  try clear c127b1
                                                  try clear p2
                                                  try clear p6
                                                  try clear p64
                                                  obtain ⟨kq, x268_115, rfl, HA, HJ115, HO_0, HO_27, HB⟩ := hcut
                                                  cases kq with
                                                  | zero => exact absurd HA.out (by simp [diaphonetop_TopTones.j8])
                                                  | succ kj115 =>
                                                    have H := HA.out
                                                    clear HA
                                                    simp only [diaphonetop_TopTones.j8] at H
                                                    by_cases c128 : x268_115 = true
                                                    · subst c128
                                                      have H1 : (none) = some r := by rw [if_pos rfl] at H; exact H
                                                      exact absurd H1 (by simp)
                                                    · as_aux_lemma =>
                                                      replace c128 := Bool.eq_false_iff.mpr c128
                                                      subst c128
                                                      have H1 : (if (l0.length : Int) = 0 then (none) else ((tone_Turn.f kj115 t148 (wrap64 (-(Int.tmod a2 (l0.length : Int))))).bind fun bt166 => (if bt166.2 = 0 then ((diaphoneref01_SameInts.f kj115 bt166.1 l0).bind fun t170 => (diaphonetop_TopTones.j9 kj115 l0 t112 (!t170))) else (diaphonetop_TopTones.j9 kj115 l0 t112 true)))) = some r := by rw [if_neg (show ¬ (false = true) by decide)] at H; exact H
                                                      clear H
                                                      have H := H1
                                                      clear H1
                                                      by_cases c129 : (l0.length : Int) = 0
                                                      · rw [if_pos c129] at H
                                                        exact absurd H (by simp)
                                                      · as_aux_lemma =>
                                                        rw [if_neg c129] at H
                                                        have c129b0 : ((l0.length : Int) == 0) = false := beq_eq_false_iff_ne.mpr c129
                                                        have c129b1 : ((l0.length : Int) != 0) = true := bne_iff_ne.mpr c129
                                                        have c129b2 : ¬ (l0 = []) := fun h_ => c129 (by rw [h_]; rfl)
                                                        replace H := Option.bind_eq_some_iff.mp H
                                                        obtain ⟨⟨t166, t167⟩, A1300, H⟩ := H
                                                        replace H : (if t167 = 0 then ((diaphoneref01_SameInts.f kj115 t166 l0).bind fun t170 => (diaphonetop_TopTones.j9 kj115 l0 t112 (!t170))) else (diaphonetop_TopTones.j9 kj115 l0 t112 true)) = some r := H
                                                        have A130 := Aside0.mk A1300
                                                        clear A1300
                                                        have HC131 := Aside0.mk H
                                                        clear H
                                                        go_upto_region 38 with (first | ((with_reducible refine gate_callee (f := 20) rfl ?_); refine goesL_ (some 276) rfl rfl Try.func20 (by kernel_rfl) rfl #[.slice Ao117 t148.length co117, .int .i64 (wrap64 (-(Int.tmod a2 (l0.length : Int))))] rfl (by (try simp only [List.map_toArray, List.map_cons, List.map_nil]); first | done | rfl | (simp only [List.length_drop, List.length_take]; rfl)) ?_; (with_reducible refine (tone_Turn.calls kj115 _ _ t148 (wrap64 (-(Int.tmod a2 (l0.length : Int)))) t166 t167 _ ?side1 ?side2 A130.out).mono ?_); (case side1 => repeat (first | exact (Kd.R_reads' HO_27.out).2.2 | (with_reducible refine Kd.C_alloc ?_ _) | (with_reducible refine Kd.C_drewN ?_ _) | (with_reducible refine Kd.C_drew ?_))); (case side2 => exact (Kd.R_reads' HO_27.out).2.1); rintro e w132 ⟨v168, rfl, ho0, hb⟩; refine ⟨_, rfl, ?_⟩; have n0_ := Aside0.mk (Kd.V_elder' (by (with_reducible repeat (first | apply Kd.V_alloc | apply Kd.V_drewN | apply Kd.V_drew)); exact HO_0.out) (Kd.R_base ho0) hb); have n1_ := Aside0.mk (Kd.R_elder' (by (with_reducible repeat (first | apply Kd.R_alloc | apply Kd.R_drewN | apply Kd.R_drew)); exact HO_27.out) (Kd.R_base ho0) hb); have n2_ := Aside0.mk (Kd.R_lower (Kd.R_new' (Kd.R_newM (M := fun k_ => (w.heap.size ≤ k_)) ho0 (below_size (by repeat (first | (with_reducible first | exact HB.out | apply below_alloc | apply pw_below_drewN | apply below_drew1) | exact HB.out))) (fun k_ h_ => h_)) (Kd.R_lt (by (with_reducible repeat (first | apply Kd.R_alloc | apply Kd.R_drewN | apply Kd.R_drew)); exact HO_27.out))) (below_size (by repeat (first | (with_reducible first | exact HB.out | apply below_alloc | apply pw_below_drewN | apply below_drew1) | exact HB.out)))); have n3_ := Aside0.mk (below_step (by repeat (first | (with_reducible first | exact HB.out | apply below_alloc | apply pw_below_drewN | apply below_drew1) | exact HB.out)) hb); clear HO_0; clear HO_27; clear HB; have HO_0 := n0_; have HO_27 := n1_; have HO169 := n2_; have HB := n3_; clear n0_ n1_ n2_ n3_; (try clear hb); (try clear hb2); (try clear hk); (try clear hi); (try clear ho0)))
                                                        (try simp only [Act.put, List.setIfInBounds_toArray, List.set_cons_zero, List.set_cons_succ])
                                                        go_cut [286] (fun v286 wc => ∃ (kq : Nat) (x286_130 : Bool), v286 = .bool x286_130 ∧ Aside0 (diaphonetop_TopTones.j9 kq l0 t112 x286_130 = some r) ∧ Aside0 (kq ≤ kj115) ∧ Aside0 (Kd.V (Kd.int .i64) 3 wc w.heap.size (fun k_ => ((P0_ k_ ∨ P1_ k_) ∨ w.heap.size ≤ k_)) (.slice A0 l0.length c0) l0) ∧ Aside0 (Below w.heap.size w wc))
                                                        case first =>
                                                          have H := HC131.out
                                                          clear HC131
                                                          by_cases c133 : t167 = 0
                                                          · rw [if_pos c133] at H
                                                            have c133b0 : (t167 == 0) = true := beq_iff_eq.mpr c133
                                                            have c133b1 : (t167 != 0) = false := bne_eq_false_iff_eq.mpr c133
                                                            clear c133
                                                            (first | rw [c133b0] | (simp only [i64_w, i32_w]; rw [c133b0]) | skip)
                                                            replace H := Option.bind_eq_some_iff.mp H
                                                            obtain ⟨t170, A1340, H⟩ := H
                                                            replace H : (diaphonetop_TopTones.j9 kj115 l0 t112 (!t170)) = some r := H
                                                            have A134 := Aside0.mk A1340
                                                            clear A1340
                                                            have H' := Aside0.mk H
                                                            clear H
                                                            obtain ⟨Ao135, co135, eo135⟩ := Kd.R_slice HO169.out
                                                            subst eo135
                                                            go_wp2_with (first | (go_at_call 22; (with_reducible refine (diaphoneref01_SameInts.calls kj115 _ _ t166 _ _ l0 t170 _ ?side1 ?side2 ?side3 ?side4 A134.out).mono ?_); (case side1 => repeat (first | exact (Kd.R_reads' HO169.out).2.2 | (with_reducible refine Kd.C_alloc ?_ _) | (with_reducible refine Kd.C_drewN ?_ _) | (with_reducible refine Kd.C_drew ?_))); (case side2 => exact (Kd.R_reads' HO169.out).2.1); (case side3 => repeat (first | exact (Kd.V_reads' HO_0.out).2.2 | (with_reducible refine Kd.C_alloc ?_ _) | (with_reducible refine Kd.C_drewN ?_ _) | (with_reducible refine Kd.C_drew ?_))); (case side4 => exact (Kd.V_reads' HO_0.out).2.1); rintro e w' ⟨rfl, ⟨nd, rfl⟩⟩))
                                                            go_meet
                                                            case rel => exact ⟨_, (!t170), (by first | rfl | (simp; done) | (simp [*]; done)), H', ⟨by have := HJ4.out; have := HJ15.out; have := HJ22.out; have := HJ27.out; have := HJ36.out; have := HJ49.out; have := HJ62.out; have := HJ105.out; have := HJ115.out; first | omega | exact Nat.le_refl _⟩, ⟨by (with_reducible repeat (first | apply Kd.V_alloc | apply Kd.V_drewN | apply Kd.V_drew)); exact Kd.V_mono HO_0.out (fun _ hk => hk.1.1)⟩, ⟨by repeat (first | (with_reducible first | exact HB.out | apply below_alloc | apply pw_below_drewN | apply below_drew1) | exact HB.out)⟩⟩
                                                          · rw [if_neg c133] at H
                                                            have c133b0 : (t167 == 0) = false := beq_eq_false_iff_ne.mpr c133
                                                            have c133b1 : (t167 != 0) = true := bne_iff_ne.mpr c133
                                                            (first | rw [c133b0] | (simp only [i64_w, i32_w]; rw [c133b0]) | skip)
                                                            have H' := Aside0.mk H
                                                            clear H
                                                            go_wp2
                                                            go_meet
                                                            case rel => exact ⟨_, (true), (by first | rfl | (simp; done) | (simp [*]; done)), H', ⟨by have := HJ4.out; have := HJ15.out; have := HJ22.out; have := HJ27.out; have := HJ36.out; have := HJ49.out; have := HJ62.out; have := HJ105.out; have := HJ115.out; first | omega | exact Nat.le_refl _⟩, ⟨by (with_reducible repeat (first | apply Kd.V_alloc | apply Kd.V_drewN | apply Kd.V_drew)); exact Kd.V_mono HO_0.out (fun _ hk => hk.1.1)⟩, ⟨by repeat (first | (with_reducible first | exact HB.out | apply below_alloc | apply pw_below_drewN | apply below_drew1) | exact HB.out)⟩⟩
                                                        case rest =>
                                                          clear HC131
                                                          try clear c1
                                                          try clear c2
                                                          try clear p2
                                                          try clear c3
                                                          try clear c4
                                                          try clear c5
                                                          try clear c6
                                                          try clear p6
                                                          try clear c7
                                                          try clear c11
                                                          try clear c12
                                                          try clear c13
                                                          try clear c13b0
                                                          try clear c13b1
                                                          try clear c14
                                                          try clear c15
                                                          try clear c17
                                                          try clear c18
                                                          try clear c20
                                                          try clear c26
                                                          try clear c26b0
                                                          try clear c26b1
                                                          try clear c27
                                                          try clear c28
                                                          try clear c29
                                                          try clear c29b0
                                                          try clear c30
                                                          try clear c30b0
                                                          try clear c31
                                                          try clear c31b0
                                                          try clear c32
                                                          try clear c35
                                                          try clear c37
                                                          try clear c41
                                                          try clear c42
                                                          try clear c43
                                                          try clear c43b0
                                                          try clear c43b1
                                                          try clear c47
                                                          try clear c50
                                                          try clear c53
                                                          try clear c53b0
                                                          try clear c53b1
                                                          try clear c54
                                                          try clear c54b0
                                                          try clear c54b1
                                                          try clear c55
                                                          try clear c55b0
                                                          try clear c55b1
                                                          try clear c55b2
                                                          try clear c56
                                                          try clear c57
                                                          try clear c58
                                                          try clear c59
                                                          try clear c59b0
                                                          try clear c60
                                                          try clear c61
                                                          try clear c61b0
                                                          try clear c62
                                                          try clear c64
                                                          try clear p64
                                                          try clear c65
                                                          try clear c67
                                                          try clear c68
                                                          try clear c68b0
                                                          try clear c68b1
                                                          try clear c70
                                                          try clear c110
                                                          try clear c110b0
                                                          try clear c110b1
                                                          try clear c111
                                                          try clear c111b0
                                                          try clear c111b1
                                                          try clear c112
                                                          try clear c123
                                                          try clear c123b0
                                                          try clear c123b1
                                                          try clear c124
                                                          try clear c124b0
                                                          try clear c124b1
                                                          try clear c125
                                                          try clear c125b0
                                                          try clear c125b1
                                                          try clear c126
                                                          try clear c127
                                                          try clear c127b0
                                                          try clear c127b1
                                                          try clear c128
                                                          try clear c129
                                                          try clear c129b0
                                                          try clear c129b1
                                                          try clear c129b2
                                                          try clear c133
                                                          try clear c133b0
                                                          try clear c133b1
                                                          try clear p2
                                                          try clear p6
                                                          try clear p64
                                                          obtain ⟨kq, x286_130, rfl, HA, HJ130, HO_0, HB⟩ := hcut
                                                          cases kq with
                                                          | zero => exact absurd HA.out (by simp [diaphonetop_TopTones.j9])
                                                          | succ kj130 =>
                                                            have H := HA.out
                                                            clear HA
                                                            simp only [diaphonetop_TopTones.j9] at H
                                                            by_cases c136 : x286_130 = true
                                                            · subst c136
                                                              have H1 : (none) = some r := by rw [if_pos rfl] at H; exact H
                                                              exact absurd H1 (by simp)
                                                            · as_aux_lemma =>
                                                              replace c136 := Bool.eq_false_iff.mpr c136
                                                              subst c136
                                                              have H1 : ((tone_Repeat.f kj130 l0 2).bind fun bt171 => ((tone_Root.f kj130 l0).bind fun bt175 => (if bt175.2 = 0 then (diaphonetop_TopTones.j10 kj130 l0 bt171.2 bt171.1 bt175.1 ((bt175.1.length : Int) != t112)) else (diaphonetop_TopTones.j10 kj130 l0 bt171.2 bt171.1 bt175.1 true)))) = some r := by rw [if_neg (show ¬ (false = true) by decide)] at H; exact H
                                                              clear H
                                                              have H := H1
                                                              clear H1
                                                              replace H := Option.bind_eq_some_iff.mp H
                                                              obtain ⟨⟨t171, t172⟩, A1370, H⟩ := H
                                                              replace H : ((tone_Root.f kj130 l0).bind fun bt175 => (if bt175.2 = 0 then (diaphonetop_TopTones.j10 kj130 l0 t172 t171 bt175.1 ((bt175.1.length : Int) != t112)) else (diaphonetop_TopTones.j10 kj130 l0 t172 t171 bt175.1 true))) = some r := H
                                                              have A137 := Aside0.mk A1370
                                                              clear A1370
                                                              replace H := Option.bind_eq_some_iff.mp H
                                                              obtain ⟨⟨t175, t176⟩, A1380, H⟩ := H
                                                              replace H : (if t176 = 0 then (diaphonetop_TopTones.j10 kj130 l0 t172 t171 t175 ((t175.length : Int) != t112)) else (diaphonetop_TopTones.j10 kj130 l0 t172 t171 t175 true)) = some r := H
                                                              have A138 := Aside0.mk A1380
                                                              clear A1380
                                                              have HC139 := Aside0.mk H
                                                              clear H
                                                              go_upto_region 42 with (first | ((with_reducible refine gate_callee (f := 63) rfl ?_); refine goesL_ (some 289) rfl rfl Try.func63 (by kernel_rfl) rfl #[.slice A0 l0.length c0, .int .i64 2] rfl (by (try simp only [List.map_toArray, List.map_cons, List.map_nil]); first | done | rfl | (simp only [List.length_drop, List.length_take]; rfl)) ?_; (with_reducible refine (tone_Repeat.calls kj130 _ _ l0 2 t171 t172 _ ?side1 ?side2 A137.out).mono ?_); (case side1 => repeat (first | exact (Kd.V_reads' HO_0.out).2.2 | (with_reducible refine Kd.C_alloc ?_ _) | (with_reducible refine Kd.C_drewN ?_ _) | (with_reducible refine Kd.C_drew ?_))); (case side2 => exact (Kd.V_reads' HO_0.out).2.1); rintro e w140 ⟨v173, rfl, ho0, hb⟩; refine ⟨_, rfl, ?_⟩; have n0_ := Aside0.mk (Kd.V_elder' (by (with_reducible repeat (first | apply Kd.V_alloc | apply Kd.V_drewN | apply Kd.V_drew)); exact HO_0.out) (Kd.R_base ho0) hb); have n1_ := Aside0.mk (Kd.R_lower (Kd.R_newM (M := fun k_ => (w.heap.size ≤ k_)) ho0 (below_size (by repeat (first | (with_reducible first | exact HB.out | apply below_alloc | apply pw_below_drewN | apply below_drew1) | exact HB.out))) (fun k_ h_ => h_)) (below_size (by repeat (first | (with_reducible first | exact HB.out | apply below_alloc | apply pw_below_drewN | apply below_drew1) | exact HB.out)))); have n2_ := Aside0.mk (below_step (by repeat (first | (with_reducible first | exact HB.out | apply below_alloc | apply pw_below_drewN | apply below_drew1) | exact HB.out)) hb); clear HO_0; clear HB; have HO_0 := n0_; have HO174 := n1_; have HB := n2_; clear n0_ n1_ n2_; (try clear hb); (try clear hb2); (try clear hk); (try clear hi); (try clear ho0)) | ((with_reducible refine gate_callee (f := 30) rfl ?_); refine goesL_ (some 294) rfl rfl Try.func30 (by kernel_rfl) rfl #[.slice A0 l0.length c0] rfl (by (try simp only [List.map_toArray, List.map_cons, List.map_nil]); first | done | rfl | (simp only [List.length_drop, List.length_take]; rfl)) ?_; (with_reducible refine (tone_Root.calls kj130 _ _ l0 t175 t176 _ ?side1 ?side2 A138.out).mono ?_); (case side1 => repeat (first | exact (Kd.V_reads' HO_0.out).2.2 | (with_reducible refine Kd.C_alloc ?_ _) | (with_reducible refine Kd.C_drewN ?_ _) | (with_reducible refine Kd.C_drew ?_))); (case side2 => exact (Kd.V_reads' HO_0.out).2.1); rintro e w141 ⟨v177, rfl, ho0, hb⟩; refine ⟨_, rfl, ?_⟩; have n0_ := Aside0.mk (Kd.V_elder' (by (with_reducible repeat (first | apply Kd.V_alloc | apply Kd.V_drewN | apply Kd.V_drew)); exact HO_0.out) (Kd.R_base ho0) hb); have n1_ := Aside0.mk (Kd.R_elder' (by (with_reducible repeat (first | apply Kd.R_alloc | apply Kd.R_drewN | apply Kd.R_drew)); exact HO174.out) (Kd.R_base ho0) hb); have n2_ := Aside0.mk (Kd.R_lower (Kd.R_new' (Kd.R_newM (M := fun k_ => (w.heap.size ≤ k_)) ho0 (below_size (by repeat (first | (with_reducible first | exact HB.out | apply below_alloc | apply pw_below_drewN | apply below_drew1) | exact HB.out))) (fun k_ h_ => h_)) (Kd.R_lt (by (with_reducible repeat (first | apply Kd.R_alloc | apply Kd.R_drewN | apply Kd.R_drew)); exact HO174.out))) (below_size (by repeat (first | (with_reducible first | exact HB.out | apply below_alloc | apply pw_below_drewN | apply below_drew1) | exact HB.out)))); have n3_ := Aside0.mk (below_step (by repeat (first | (with_reducible first | exact HB.out | apply below_alloc | apply pw_below_drewN | apply below_drew1) | exact HB.out)) hb); clear HO_0; clear HO174; clear HB; have HO_0 := n0_; have HO174 := n1_; have HO178 := n2_; have HB := n3_; clear n0_ n1_ n2_ n3_; (try clear hb); (try clear hb2); (try clear hk); (try clear hi); (try clear ho0)))
                                                              (try simp only [Act.put, List.setIfInBounds_toArray, List.set_cons_zero, List.set_cons_succ])
                                                              go_cut [304] (fun v304 wc => ∃ (kq : Nat) (x304_138 : Bool), v304 = .bool x304_138 ∧ Aside0 (diaphonetop_TopTones.j10 kq l0 t172 t171 t175 x304_138 = some r) ∧ Aside0 (kq ≤ kj130) ∧ Aside0 (Kd.V (Kd.int .i64) 3 wc w.heap.size (fun k_ => ((P0_ k_ ∨ P1_ k_) ∨ w.heap.size ≤ k_) ∧ some k_ ≠ (v173 : Value).ownBlock ∧ some k_ ≠ (v177 : Value).ownBlock) (.slice A0 l0.length c0) l0) ∧ Aside0 (Kd.R (Kd.int .i64) 3 wc w.heap.size (fun k_ => (w.heap.size ≤ k_) ∧ some k_ ≠ (v177 : Value).ownBlock) v173 t171) ∧ Aside0 (Kd.R (Kd.int .i64) 3 wc w.heap.size (fun k_ => (w.heap.size ≤ k_) ∧ some k_ ≠ (v173 : Value).ownBlock) v177 t175) ∧ Aside0 (Below w.heap.size w wc))
                                                              case first =>
                                                                have H := HC139.out
                                                                clear HC139
                                                                by_cases c142 : t176 = 0
                                                                · rw [if_pos c142] at H
                                                                  have c142b0 : (t176 == 0) = true := beq_iff_eq.mpr c142
                                                                  have c142b1 : (t176 != 0) = false := bne_eq_false_iff_eq.mpr c142
                                                                  clear c142
                                                                  (first | rw [c142b0] | (simp only [i64_w, i32_w]; rw [c142b0]) | skip)
                                                                  have H' := Aside0.mk H
                                                                  clear H
                                                                  obtain ⟨Ao143, co143, eo143⟩ := Kd.R_slice HO178.out
                                                                  subst eo143
                                                                  go_wp2
                                                                  go_meet
                                                                  case rel => exact ⟨_, (((t175.length : Int) != t112)), (by first | rfl | (simp; done) | (simp [*]; done)), H', ⟨by have := HJ4.out; have := HJ15.out; have := HJ22.out; have := HJ27.out; have := HJ36.out; have := HJ49.out; have := HJ62.out; have := HJ105.out; have := HJ115.out; have := HJ130.out; first | omega | exact Nat.le_refl _⟩, ⟨by (with_reducible repeat (first | apply Kd.V_alloc | apply Kd.V_drewN | apply Kd.V_drew)); exact Kd.V_mono HO_0.out (fun _ hk => ⟨hk.1.1, ⟨hk.1.2, hk.2⟩⟩)⟩, ⟨by (with_reducible repeat (first | apply Kd.R_alloc | apply Kd.R_drewN | apply Kd.R_drew)); exact Kd.R_mono HO174.out (fun _ hk => ⟨hk.1.1, hk.2⟩)⟩, ⟨by (with_reducible repeat (first | apply Kd.R_alloc | apply Kd.R_drewN | apply Kd.R_drew)); exact Kd.R_mono HO178.out (fun _ hk => ⟨hk.1.1, hk.2⟩)⟩, ⟨by repeat (first | (with_reducible first | exact HB.out | apply below_alloc | apply pw_below_drewN | apply below_drew1) | exact HB.out)⟩⟩
                                                                · rw [if_neg c142] at H
                                                                  have c142b0 : (t176 == 0) = false := beq_eq_false_iff_ne.mpr c142
                                                                  have c142b1 : (t176 != 0) = true := bne_iff_ne.mpr c142
                                                                  (first | rw [c142b0] | (simp only [i64_w, i32_w]; rw [c142b0]) | skip)
                                                                  have H' := Aside0.mk H
                                                                  clear H
                                                                  go_wp2
                                                                  go_meet
                                                                  case rel => exact ⟨_, (true), (by first | rfl | (simp; done) | (simp [*]; done)), H', ⟨by have := HJ4.out; have := HJ15.out; have := HJ22.out; have := HJ27.out; have := HJ36.out; have := HJ49.out; have := HJ62.out; have := HJ105.out; have := HJ115.out; have := HJ130.out; first | omega | exact Nat.le_refl _⟩, ⟨by (with_reducible repeat (first | apply Kd.V_alloc | apply Kd.V_drewN | apply Kd.V_drew)); exact Kd.V_mono HO_0.out (fun _ hk => ⟨hk.1.1, ⟨hk.1.2, hk.2⟩⟩)⟩, ⟨by (with_reducible repeat (first | apply Kd.R_alloc | apply Kd.R_drewN | apply Kd.R_drew)); exact Kd.R_mono HO174.out (fun _ hk => ⟨hk.1.1, hk.2⟩)⟩, ⟨by (with_reducible repeat (first | apply Kd.R_alloc | apply Kd.R_drewN | apply Kd.R_drew)); exact Kd.R_mono HO178.out (fun _ hk => ⟨hk.1.1, hk.2⟩)⟩, ⟨by repeat (first | (with_reducible first | exact HB.out | apply below_alloc | apply pw_below_drewN | apply below_drew1) | exact HB.out)⟩⟩
                                                              case rest =>
                                                                clear HC139
                                                                try clear c1
                                                                try clear c2
                                                                try clear p2
                                                                try clear c3
                                                                try clear c4
                                                                try clear c5
                                                                try clear c6
                                                                try clear p6
                                                                try clear c7
                                                                try clear c11
                                                                try clear c12
                                                                try clear c13
                                                                try clear c13b0
                                                                try clear c13b1
                                                                try clear c14
                                                                try clear c15
                                                                try clear c17
                                                                try clear c18
                                                                try clear c20
                                                                try clear c26
                                                                try clear c26b0
                                                                try clear c26b1
                                                                try clear c27
                                                                try clear c28
                                                                try clear c29
                                                                try clear c29b0
                                                                try clear c30
                                                                try clear c30b0
                                                                try clear c31
                                                                try clear c31b0
                                                                try clear c32
                                                                try clear c35
                                                                try clear c37
                                                                try clear c41
                                                                try clear c42
                                                                try clear c43
                                                                try clear c43b0
                                                                try clear c43b1
                                                                try clear c47
                                                                try clear c50
                                                                try clear c53
                                                                try clear c53b0
                                                                try clear c53b1
                                                                try clear c54
                                                                try clear c54b0
                                                                try clear c54b1
                                                                try clear c55
                                                                try clear c55b0
                                                                try clear c55b1
                                                                try clear c55b2
                                                                try clear c56
                                                                try clear c57
                                                                try clear c58
                                                                try clear c59
                                                                try clear c59b0
                                                                try clear c60
                                                                try clear c61
                                                                try clear c61b0
                                                                try clear c62
                                                                try clear c63
                                                                try clear c64
                                                                try clear p64
                                                                try clear c65
                                                                try clear c67
                                                                try clear c68
                                                                try clear c68b0
                                                                try clear c68b1
                                                                try clear c70
                                                                try clear c110
                                                                try clear c110b0
                                                                try clear c110b1
                                                                try clear c111
                                                                try clear c111b0
                                                                try clear c111b1
                                                                try clear c112
                                                                try clear c123
                                                                try clear c123b0
                                                                try clear c123b1
                                                                try clear c124
                                                                try clear c124b0
                                                                try clear c124b1
                                                                try clear c125
                                                                try clear c125b0
                                                                try clear c125b1
                                                                try clear c126
                                                                try clear c127
                                                                try clear c127b0
                                                                try clear c127b1
                                                                try clear c128
                                                                try clear c129
                                                                try clear c129b0
                                                                try clear c129b1
                                                                try clear c129b2
                                                                try clear c133
                                                                try clear c133b0
                                                                try clear c133b1
                                                                try clear c136
                                                                try clear c142
                                                                try clear c142b0
                                                                try clear c142b1
                                                                try clear p2
                                                                try clear p6
                                                                try clear p64
                                                                obtain ⟨kq, x304_138, rfl, HA, HJ138, HO_0, HO_35, HO_36, HB⟩ := hcut
                                                                cases kq with
                                                                | zero => exact absurd HA.out (by simp [diaphonetop_TopTones.j10])
                                                                | succ kj138 =>
                                                                  have H := HA.out
                                                                  clear HA
                                                                  simp only [diaphonetop_TopTones.j10] at H
                                                                  by_cases c144 : x304_138 = true
                                                                  · subst c144
                                                                    have H1 : (none) = some r := by rw [if_pos rfl] at H; exact H
                                                                    exact absurd H1 (by simp)
                                                                  · as_aux_lemma =>
                                                                    replace c144 := Bool.eq_false_iff.mpr c144
                                                                    subst c144
                                                                    have H1 : (if t172 = 0 then ((tone_Root.f kj138 t171).bind fun bt179 => (if bt179.2 = 0 then ((diaphoneref01_SameInts.f kj138 t175 bt179.1).bind fun t183 => (some t183)) else (none))) else (some (decide ((wrap64 (2 * (l0.length : Int))) > 24)))) = some r := by rw [if_neg (show ¬ (false = true) by decide)] at H; exact H
                                                                    clear H
                                                                    have H := H1
                                                                    clear H1
                                                                    by_cases c145 : t172 = 0
                                                                    · rw [if_pos c145] at H
                                                                      have c145b0 : (t172 == 0) = true := beq_iff_eq.mpr c145
                                                                      have c145b1 : (t172 != 0) = false := bne_eq_false_iff_eq.mpr c145
                                                                      clear c145
                                                                      replace H := Option.bind_eq_some_iff.mp H
                                                                      obtain ⟨⟨t179, t180⟩, A1460, H⟩ := H
                                                                      replace H : (if t180 = 0 then ((diaphoneref01_SameInts.f kj138 t175 t179).bind fun t183 => (some t183)) else (none)) = some r := H
                                                                      have A146 := Aside0.mk A1460
                                                                      clear A1460
                                                                      by_cases c147 : t180 = 0
                                                                      · rw [if_pos c147] at H
                                                                        have c147b0 : (t180 == 0) = true := beq_iff_eq.mpr c147
                                                                        have c147b1 : (t180 != 0) = false := bne_eq_false_iff_eq.mpr c147
                                                                        clear c147
                                                                        replace H := Option.bind_eq_some_iff.mp H
                                                                        obtain ⟨t183, A1480, H⟩ := H
                                                                        replace H : (some t183) = some r := H
                                                                        have A148 := Aside0.mk A1480
                                                                        clear A1480
                                                                        obtain rfl := Option.some.inj H
                                                                        obtain ⟨Ao149, co149, eo149⟩ := Kd.R_slice HO_35.out
                                                                        subst eo149
                                                                        go_wp2_with (first | ((with_reducible refine gate_callee (f := 30) rfl ?_); refine goesL_ (some 313) rfl rfl Try.func30 (by kernel_rfl) rfl #[.slice Ao149 t171.length co149] rfl (by (try simp only [List.map_toArray, List.map_cons, List.map_nil]); first | done | rfl | (simp only [List.length_drop, List.length_take]; rfl)) ?_; (with_reducible refine (tone_Root.calls kj138 _ _ t171 t179 t180 _ ?side1 ?side2 A146.out).mono ?_); (case side1 => repeat (first | exact (Kd.R_reads' HO_35.out).2.2 | (with_reducible refine Kd.C_alloc ?_ _) | (with_reducible refine Kd.C_drewN ?_ _) | (with_reducible refine Kd.C_drew ?_))); (case side2 => exact (Kd.R_reads' HO_35.out).2.1); rintro e w150 ⟨v181, rfl, ho0, hb⟩; refine ⟨_, rfl, ?_⟩; have n0_ := Aside0.mk (Kd.V_elder' (by (with_reducible repeat (first | apply Kd.V_alloc | apply Kd.V_drewN | apply Kd.V_drew)); exact HO_0.out) (Kd.R_base ho0) hb); have n1_ := Aside0.mk (Kd.R_elder' (by (with_reducible repeat (first | apply Kd.R_alloc | apply Kd.R_drewN | apply Kd.R_drew)); exact HO_35.out) (Kd.R_base ho0) hb); have n2_ := Aside0.mk (Kd.R_elder' (by (with_reducible repeat (first | apply Kd.R_alloc | apply Kd.R_drewN | apply Kd.R_drew)); exact HO_36.out) (Kd.R_base ho0) hb); have n3_ := Aside0.mk (Kd.R_lower (Kd.R_new' (Kd.R_new' (Kd.R_newM (M := fun k_ => (w.heap.size ≤ k_)) ho0 (below_size (by repeat (first | (with_reducible first | exact HB.out | apply below_alloc | apply pw_below_drewN | apply below_drew1) | exact HB.out))) (fun k_ h_ => h_)) (Kd.R_lt (by (with_reducible repeat (first | apply Kd.R_alloc | apply Kd.R_drewN | apply Kd.R_drew)); exact HO_35.out))) (Kd.R_lt (by (with_reducible repeat (first | apply Kd.R_alloc | apply Kd.R_drewN | apply Kd.R_drew)); exact HO_36.out))) (below_size (by repeat (first | (with_reducible first | exact HB.out | apply below_alloc | apply pw_below_drewN | apply below_drew1) | exact HB.out)))); have n4_ := Aside0.mk (below_step (by repeat (first | (with_reducible first | exact HB.out | apply below_alloc | apply pw_below_drewN | apply below_drew1) | exact HB.out)) hb); clear HO_0; clear HO_35; clear HO_36; clear HB; have HO_0 := n0_; have HO_35 := n1_; have HO_36 := n2_; have HO182 := n3_; have HB := n4_; clear n0_ n1_ n2_ n3_ n4_; (try clear hb); (try clear hb2); (try clear hk); (try clear hi); (try clear ho0); obtain ⟨Ao151, co151, eo151⟩ := Kd.R_slice HO_36.out; subst eo151; obtain ⟨Ao152, co152, eo152⟩ := Kd.R_slice HO182.out; subst eo152) | (go_at_call 22; (with_reducible refine (diaphoneref01_SameInts.calls kj138 _ _ t175 _ _ t179 t183 _ ?side1 ?side2 ?side3 ?side4 A148.out).mono ?_); (case side1 => repeat (first | exact (Kd.R_reads' HO_36.out).2.2 | (with_reducible refine Kd.C_alloc ?_ _) | (with_reducible refine Kd.C_drewN ?_ _) | (with_reducible refine Kd.C_drew ?_))); (case side2 => exact (Kd.R_reads' HO_36.out).2.1); (case side3 => repeat (first | exact (Kd.R_reads' HO182.out).2.2 | (with_reducible refine Kd.C_alloc ?_ _) | (with_reducible refine Kd.C_drewN ?_ _) | (with_reducible refine Kd.C_drew ?_))); (case side4 => exact (Kd.R_reads' HO182.out).2.1); rintro e w' ⟨rfl, ⟨nd, rfl⟩⟩))
                                                                        go_ret
                                                                        exact ⟨by first | rfl | (simp [errW_none, errW_some] <;> rfl) | (simp [*, errW_none, errW_some] <;> rfl), by repeat (first | (with_reducible first | exact HB.out | apply below_alloc | apply pw_below_drewN | apply below_drew1) | exact HB.out)⟩
                                                                      · rw [if_neg c147] at H
                                                                        exact absurd H (by simp)
                                                                    · rw [if_neg c145] at H
                                                                      have c145b0 : (t172 == 0) = false := beq_eq_false_iff_ne.mpr c145
                                                                      have c145b1 : (t172 != 0) = true := bne_iff_ne.mpr c145
                                                                      obtain rfl := Option.some.inj H
                                                                      go_wp2
                                                                      go_ret
                                                                      exact ⟨by first | rfl | (simp [errW_none, errW_some] <;> rfl) | (simp [*, errW_none, errW_some] <;> rfl), by repeat (first | (with_reducible first | exact HB.out | apply below_alloc | apply pw_below_drewN | apply below_drew1) | exact HB.out)⟩

end Go.Proofs.Ytmpmfjnmfgnhcaa.P
