-- laid by a program of this session (wip/tools): plain functions of the Go code and their contracts
-- thinned
import Derived.Test.YtgndhijhcliegaaPx0
namespace Go.Proofs.Ytgndhijhcliegaa.P
open Go.RowKit Go.Proofs.YtgndhijhcliegaaW.PrintWords Go.Proofs.YtgndhijhcliegaaW.PrintLast Go.Proofs.YtgndhijhcliegaaW.PrintMore
attribute [local go_sem] max2_int min2_int max_two min_two max_three min_three max_four min_four   -- for this text's walks alone
set_option linter.unusedVariables false
set_option linter.unusedSimpArgs false

/-! ### diaphoneref07_measure: function 66 -/
mutual
def diaphoneref07_measure.l0 : Nat → List Int → Int → Option (Int)
 | 0, _, _ => none
 | k + 1, x0, x3 => if x3 > 1 then (diaphoneref07_measure.l1 k x0 x3 true 0) else (some 1)
def diaphoneref07_measure.l1 : Nat → List Int → Int → Bool → Int → Option (Int)
 | 0, _, _, _, _ => none
 | k + 1, x0, x3, x4, x5 => if x5 < (x0.length : Int) then (if x4 = true then (if 0 ≤ x5 then (if x3 = 0 then (none) else (diaphoneref07_measure.l1 k x0 x3 ((Int.tmod (rd x0 x5) x3) == 0) (wrap64 (x5 + 1)))) else (none)) else (diaphoneref07_measure.l1 k x0 x3 false (wrap64 (x5 + 1)))) else (if x4 = true then (some x3) else (diaphoneref07_measure.l0 k x0 (wrap64 (x3 - 1))))
end
def diaphoneref07_measure.f (k : Nat) (l0 : List Int) : Option (Int) := diaphoneref07_measure.l0 k l0 30
theorem diaphoneref07_measure.mono_l : ∀ k, (∀ y0 y1, LeO (diaphoneref07_measure.l0 k y0 y1) (diaphoneref07_measure.l0 (k + 1) y0 y1)) ∧ (∀ y0 y1 y2 y3, LeO (diaphoneref07_measure.l1 k y0 y1 y2 y3) (diaphoneref07_measure.l1 (k + 1) y0 y1 y2 y3))
 | 0 => ⟨fun _ _ r h => by simp [diaphoneref07_measure.l0] at h, fun _ _ _ _ r h => by simp [diaphoneref07_measure.l1] at h⟩
 | k + 1 => by
  obtain ⟨ih0, ih1⟩ := diaphoneref07_measure.mono_l k; refine ⟨?_, ?_⟩
  ·intro y0 y1; unfold diaphoneref07_measure.l0; repeat' first
   | (with_reducible exact ih0 _ _)
   | (with_reducible exact ih1 _ _ _ _)
   | (with_reducible exact LeO.refl _)
   | (with_reducible exact LeO.none _)
   | (with_reducible refine LeO.ite ?_ ?_)
   | (with_reducible refine LeO.bind ?_ (fun _ => ?_))
   | exact ih0 _ _
   | exact ih1 _ _ _ _
   | exact LeO.none _
   | refine LeO.ite ?_ ?_
   | refine LeO.bind ?_ (fun _ => ?_)
  ·intro y0 y1 y2 y3; unfold diaphoneref07_measure.l1; repeat' first
   | (with_reducible exact ih0 _ _)
   | (with_reducible exact ih1 _ _ _ _)
   | (with_reducible exact LeO.refl _)
   | (with_reducible exact LeO.none _)
   | (with_reducible refine LeO.ite ?_ ?_)
   | (with_reducible refine LeO.bind ?_ (fun _ => ?_))
   | exact ih0 _ _
   | exact ih1 _ _ _ _
   | exact LeO.none _
   | refine LeO.ite ?_ ?_
   | refine LeO.bind ?_ (fun _ => ?_)
theorem diaphoneref07_measure.mono : ∀ a0 k, LeO (diaphoneref07_measure.f k a0) (diaphoneref07_measure.f (k + 1) a0) := by
 intro a0 k; obtain ⟨ih0, ih1⟩ := diaphoneref07_measure.mono_l k; unfold diaphoneref07_measure.f; repeat' first
   | (with_reducible exact ih0 _ _)
   | (with_reducible exact ih1 _ _ _ _)
   | (with_reducible exact LeO.refl _)
   | (with_reducible exact LeO.none _)
   | (with_reducible refine LeO.ite ?_ ?_)
   | (with_reducible refine LeO.bind ?_ (fun _ => ?_))
   | exact ih0 _ _
   | exact ih1 _ _ _ _
   | exact LeO.none _
   | refine LeO.ite ?_ ?_
   | refine LeO.bind ?_ (fun _ => ?_)
set_option maxHeartbeats 8000000 in
set_option maxRecDepth 100000 in
theorem diaphoneref07_measure.calls (k : Nat) (A0 : Option Addr) (c0 : Nat) (l0 : List Int) (r : Int) (w : World) (hr0 : Kd.C (Kd.int .i64) w A0 l0.length l0) (hc0 : l0.length ≤ c0) (h : diaphoneref07_measure.f k l0 = some r) :
  Calls Try.prog 66 #[.slice A0 l0.length c0] w fun e w' => e = .returned (.int .i64 r) ∧ Drawn0 w w' := by
 have HR0 := XB hr0; have HC0 := XB hc0; clear hr0 hc0; have H : (diaphoneref07_measure.l0 k l0 30) = some r := h; clear h; have H' := XB H; clear H; go_enter Try.func66, Try.ntmps66
 go_wp2
 go_loopg [3] k (fun kq v3 w' => ∃ (x3_1 : Int), v3 = .int .i64 x3_1 ∧ Aside0 (diaphoneref07_measure.l0 kq l0 x3_1 = some r) ∧ Aside0 (kq ≤ k) ∧ Drawn0 w w')
 case atStart => exact ⟨(30), (by first | rfl | (simp; done) | (simp [*]; done)), H', ⟨Nat.le_refl _⟩, by repeat (first | exact Drawn0.refl _ | apply Drawn0.step)⟩
 case round =>
  clear H'; obtain ⟨x3_1, rfl, HA, HK1, ⟨m1, rfl⟩⟩ := hrel
  cases gk with
  | zero => exact absurd HA.out (by simp [diaphoneref07_measure.l0])
  | succ k1 =>
   have H := HA.out; clear HA; simp only [diaphoneref07_measure.l0] at H; by_cases c2 : x3_1 > 1
   ·rw [if_pos c2] at H; have c2b0 : decide (1 < x3_1) = true := decide_eq_true c2; clear c2; have H' := XB H; clear H; go_wp2
    go_loopg [4, 5] k1 (fun kq v4 v5 w' => ∃ (x4_2 : Bool) (x5_2 : Int), v4 = .bool x4_2 ∧ v5 = .int .i64 x5_2 ∧ Aside0 (diaphoneref07_measure.l1 kq l0 x3_1 x4_2 x5_2 = some r) ∧ Aside0 (kq ≤ k1) ∧ Drawn0 w w')
    case atStart => exact ⟨(true), (0), (by first | rfl | (simp; done) | (simp [*]; done)), (by first | rfl | (simp; done) | (simp [*]; done)), H', ⟨Nat.le_refl _⟩, by repeat (first | exact Drawn0.refl _ | apply Drawn0.step)⟩
    case round =>
     clear H'; try clear c2
     try clear c2b0
     try clear p2
     obtain ⟨x4_2, x5_2, rfl, rfl, HA, HK2, ⟨m2, rfl⟩⟩ := hrel
     cases gk with
     | zero => exact absurd HA.out (by simp [diaphoneref07_measure.l1])
     | succ k2 =>
      have H := HA.out; clear HA; simp only [diaphoneref07_measure.l1] at H; by_cases c3 : x5_2 < (l0.length : Int)
      ·rw [if_pos c3] at H; have c3b0 : decide (x5_2 < (l0.length : Int)) = true := decide_eq_true c3; clear c3; by_cases c4 : x4_2 = true
       ·subst c4; have H1 : (if 0 ≤ x5_2 then (if x3_1 = 0 then (none) else (diaphoneref07_measure.l1 k2 l0 x3_1 ((Int.tmod (rd l0 x5_2) x3_1) == 0) (wrap64 (x5_2 + 1)))) else (none)) = some r := by rw [if_pos rfl] at H; exact H
        clear H; have H := H1; clear H1; by_cases c5 : 0 ≤ x5_2
        ·rw [if_pos c5] at H; have c5b0 : decide (0 ≤ x5_2) = true := decide_eq_true c5; clear c5; by_cases c6 : x3_1 = 0
         ·rw [if_pos c6] at H; exact absurd H (by simp)
         ·rw [if_neg c6] at H; have c6b0 : (x3_1 == 0) = false := beq_eq_false_iff_ne.mpr c6; have c6b1 : (x3_1 != 0) = true := bne_iff_ne.mpr c6; have H' := XB H; clear H; have p101 : 0 ≤ (x5_2 : Int) := of_decide_eq_true (by first | (with_reducible assumption) | assumption); have q101 : x5_2 < (l0.length : Int) := of_decide_eq_true (by first | (with_reducible assumption) | assumption); obtain ⟨ad101, e101, hx101_0⟩ := Kd.at_int HR0.out x5_2 p101 q101
          cases e101
          replace p101 := eq_true p101; replace q101 := eq_true q101; go_wp2
          go_roundg k2
          case measure => have := HK1.out; have := HK2.out; omega
          case rel => exact ⟨(((Int.tmod (rd l0 x5_2) x3_1) == 0)), (wrap64 (x5_2 + 1)), (by first | rfl | (simp; done) | (simp [*]; done)), (by first | rfl | (simp; done) | (simp [*]; done)), H', ⟨by have := HK1.out; have := HK2.out; omega⟩, by repeat (first | exact Drawn0.refl _ | apply Drawn0.step)⟩
        ·rw [if_neg c5] at H; exact absurd H (by simp)
       ·replace c4 := Bool.eq_false_iff.mpr c4; subst c4; have H1 : (diaphoneref07_measure.l1 k2 l0 x3_1 false (wrap64 (x5_2 + 1))) = some r := by rw [if_neg (show ¬ (false = true) by decide)] at H; exact H
        clear H; have H := H1; clear H1; have H' := XB H; clear H; go_wp2
        go_roundg k2
        case measure => have := HK1.out; have := HK2.out; omega
        case rel => exact ⟨(false), (wrap64 (x5_2 + 1)), (by first | rfl | (simp; done) | (simp [*]; done)), (by first | rfl | (simp; done) | (simp [*]; done)), H', ⟨by have := HK1.out; have := HK2.out; omega⟩, by repeat (first | exact Drawn0.refl _ | apply Drawn0.step)⟩
      ·rw [if_neg c3] at H; have c3b0 : decide (x5_2 < (l0.length : Int)) = false := decide_eq_false c3; clear c3; by_cases c7 : x4_2 = true
       ·subst c7; have H1 : (some x3_1) = some r := by rw [if_pos rfl] at H; exact H
        clear H; have H := H1; clear H1; obtain rfl := Option.some.inj H; go_wp2
        go_ret
        exact ⟨by first | rfl | (simp; done) | (simp [*]; done), by repeat (first | exact Drawn0.refl _ | apply Drawn0.step)⟩
       ·replace c7 := Bool.eq_false_iff.mpr c7; subst c7; have H1 : (diaphoneref07_measure.l0 k2 l0 (wrap64 (x3_1 - 1))) = some r := by rw [if_neg (show ¬ (false = true) by decide)] at H; exact H
        clear H; have H := H1; clear H1; have H' := XB H; clear H; go_wp2
        go_roundg k2
        case measure => have := HK1.out; have := HK2.out; omega
        case rel => exact ⟨(wrap64 (x3_1 - 1)), (by first | rfl | (simp; done) | (simp [*]; done)), H', ⟨by have := HK1.out; have := HK2.out; omega⟩, by repeat (first | exact Drawn0.refl _ | apply Drawn0.step)⟩
   ·rw [if_neg c2] at H; have c2b0 : decide (1 < x3_1) = false := decide_eq_false c2; clear c2; obtain rfl := Option.some.inj H; go_wp2
    go_ret
    exact ⟨by first | rfl | (simp; done) | (simp [*]; done), by repeat (first | exact Drawn0.refl _ | apply Drawn0.step)⟩

end Go.Proofs.Ytgndhijhcliegaa.P
