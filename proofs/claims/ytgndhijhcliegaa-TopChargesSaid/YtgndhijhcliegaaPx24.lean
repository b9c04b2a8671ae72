-- laid by a program of this session (wip/tools): plain functions of the Go code and their contracts
-- thinned
import Derived.Shelf.Spec.SlicesInsert
import Derived.Shelf.Spec.SlicesInsertGrow
import Derived.Test.YtgndhijhcliegaaPx0
import Derived.Test.YtgndhijhcliegaaPx1
import Derived.Test.YtgndhijhcliegaaPx18
namespace Go.Proofs.Ytgndhijhcliegaa.P
open Go.RowKit Go.Proofs.YtgndhijhcliegaaW.PrintWords Go.Proofs.YtgndhijhcliegaaW.PrintLast Go.Proofs.YtgndhijhcliegaaW.PrintMore
attribute [local go_sem] max2_int min2_int max_two min_two max_three min_three max_four min_four   -- for this text's walks alone
set_option linter.unusedVariables false
set_option linter.unusedSimpArgs false

/-! ### cmp_isNaN_int: function 95 -/
def cmp_isNaN_int.f (a0 : Int) : Option (Bool) := some (a0 != a0)
set_option maxHeartbeats 8000000 in
set_option maxRecDepth 100000 in
theorem cmp_isNaN_int.calls (a0 : Int) (r : Bool) (w : World) (h : cmp_isNaN_int.f a0 = some r) :
  Calls Try.prog 95 #[.int .i64 a0] w fun e w' => e = .returned (.bool r) ∧ Drawn0 w w' := by
 have H : (some (a0 != a0)) = some r := h; clear h; obtain rfl := Option.some.inj H; go_enter Try.func95, Try.ntmps95
 go_wp2
 go_ret
 exact ⟨by first | rfl | (simp; done) | (simp [*]; done), by repeat (first | exact Drawn0.refl _ | apply Drawn0.step)⟩

/-! ### cmp_Less_int: function 88 -/
def cmp_Less_int.f (a0 : Int) (a1 : Int) : Option (Bool) := (cmp_isNaN_int.f a0).bind fun t101 => (if t101 = true then ((cmp_isNaN_int.f a1).bind fun t102 => (if t102 = true then (some (decide (a0 < a1))) else (some true))) else (some (decide (a0 < a1))))
set_option maxHeartbeats 8000000 in
set_option maxRecDepth 100000 in
theorem cmp_Less_int.calls (a0 : Int) (a1 : Int) (r : Bool) (w : World) (h : cmp_Less_int.f a0 a1 = some r) :
  Calls Try.prog 88 #[.int .i64 a0, .int .i64 a1] w fun e w' => e = .returned (.bool r) ∧ Drawn0 w w' := by
 have H : ((cmp_isNaN_int.f a0).bind fun t101 => (if t101 = true then ((cmp_isNaN_int.f a1).bind fun t102 => (if t102 = true then (some (decide (a0 < a1))) else (some true))) else (some (decide (a0 < a1))))) = some r := h; clear h; replace H := Option.bind_eq_some_iff.mp H; obtain ⟨t101, A30, H⟩ := H; replace H : (if t101 = true then ((cmp_isNaN_int.f a1).bind fun t102 => (if t102 = true then (some (decide (a0 < a1))) else (some true))) else (some (decide (a0 < a1)))) = some r := H; have A3 := XB A30; clear A30; by_cases c4 : t101 = true
 ·subst c4; have H1 : ((cmp_isNaN_int.f a1).bind fun t102 => (if t102 = true then (some (decide (a0 < a1))) else (some true))) = some r := by rw [if_pos rfl] at H; exact H
  clear H; have H := H1; clear H1; replace H := Option.bind_eq_some_iff.mp H; obtain ⟨t102, A50, H⟩ := H; replace H : (if t102 = true then (some (decide (a0 < a1))) else (some true)) = some r := H; have A5 := XB A50; clear A50; by_cases c6 : t102 = true
  ·subst c6; have H1 : (some (decide (a0 < a1))) = some r := by rw [if_pos rfl] at H; exact H
   clear H; have H := H1; clear H1; obtain rfl := Option.some.inj H; go_enter Try.func88, Try.ntmps88
   go_wp2_with (first | ((with_reducible refine gate_callee (f := 95) rfl ?_); refine goesL_ (some 6) rfl rfl Try.func95 (by kernel_rfl) rfl #[.int .i64 a0] rfl (by (try simp only [Xm, Xn, Xo]); first | done | rfl | (simp only [Xp, Xq]; rfl)) ?_; (with_reducible refine (cmp_isNaN_int.calls a0 true _ A3.out).mono ?_); rintro e w' ⟨rfl, ⟨nd, rfl⟩⟩; refine ⟨_, rfl, ?_⟩) | (go_at_call 95; (with_reducible refine (cmp_isNaN_int.calls a1 true _ A5.out).mono ?_); rintro e w' ⟨rfl, ⟨nd, rfl⟩⟩))
   go_ret
   exact ⟨by first | rfl | (simp; done) | (simp [*]; done), by repeat (first | exact Drawn0.refl _ | apply Drawn0.step)⟩
  ·replace c6 := Bool.eq_false_iff.mpr c6; subst c6; have H1 : (some true) = some r := by rw [if_neg (show ¬ (false = true) by decide)] at H; exact H
   clear H; have H := H1; clear H1; obtain rfl := Option.some.inj H; go_enter Try.func88, Try.ntmps88
   go_wp2_with (first | ((with_reducible refine gate_callee (f := 95) rfl ?_); refine goesL_ (some 6) rfl rfl Try.func95 (by kernel_rfl) rfl #[.int .i64 a0] rfl (by (try simp only [Xm, Xn, Xo]); first | done | rfl | (simp only [Xp, Xq]; rfl)) ?_; (with_reducible refine (cmp_isNaN_int.calls a0 true _ A3.out).mono ?_); rintro e w' ⟨rfl, ⟨nd, rfl⟩⟩; refine ⟨_, rfl, ?_⟩) | (go_at_call 95; (with_reducible refine (cmp_isNaN_int.calls a1 false _ A5.out).mono ?_); rintro e w' ⟨rfl, ⟨nd, rfl⟩⟩))
   go_ret
   exact ⟨by first | rfl | (simp; done) | (simp [*]; done), by repeat (first | exact Drawn0.refl _ | apply Drawn0.step)⟩
 ·replace c4 := Bool.eq_false_iff.mpr c4; subst c4; have H1 : (some (decide (a0 < a1))) = some r := by rw [if_neg (show ¬ (false = true) by decide)] at H; exact H
  clear H; have H := H1; clear H1; obtain rfl := Option.some.inj H; go_enter Try.func88, Try.ntmps88
  go_wp2_with (first | ((with_reducible refine gate_callee (f := 95) rfl ?_); refine goesL_ (some 6) rfl rfl Try.func95 (by kernel_rfl) rfl #[.int .i64 a0] rfl (by (try simp only [Xm, Xn, Xo]); first | done | rfl | (simp only [Xp, Xq]; rfl)) ?_; (with_reducible refine (cmp_isNaN_int.calls a0 false _ A3.out).mono ?_); rintro e w' ⟨rfl, ⟨nd, rfl⟩⟩; refine ⟨_, rfl, ?_⟩))
  go_ret
  exact ⟨by first | rfl | (simp; done) | (simp [*]; done), by repeat (first | exact Drawn0.refl _ | apply Drawn0.step)⟩

/-! ### slices_isNaN_int: function 89 -/
def slices_isNaN_int.f (a0 : Int) : Option (Bool) := some (a0 != a0)
set_option maxHeartbeats 8000000 in
set_option maxRecDepth 100000 in
theorem slices_isNaN_int.calls (a0 : Int) (r : Bool) (w : World) (h : slices_isNaN_int.f a0 = some r) :
  Calls Try.prog 89 #[.int .i64 a0] w fun e w' => e = .returned (.bool r) ∧ Drawn0 w w' := by
 have H : (some (a0 != a0)) = some r := h; clear h; obtain rfl := Option.some.inj H; go_enter Try.func89, Try.ntmps89
 go_wp2
 go_ret
 exact ⟨by first | rfl | (simp; done) | (simp [*]; done), by repeat (first | exact Drawn0.refl _ | apply Drawn0.step)⟩

/-! ### slices_BinarySearch_int_int: function 79 -/
def slices_BinarySearch_int_int.l0 : Nat → List Int → Int → Int → Int → Int → Option (Int × Bool)
 | 0, _, _, _, _, _ => none
 | k + 1, x0, x1, x6, x7, x8 => if x7 < x8 then (if 0 ≤ (wrap64 ((IntKind.u64.wrap (wrap64 (x7 + x8))) / 2)) then (if (wrap64 ((IntKind.u64.wrap (wrap64 (x7 + x8))) / 2)) < (x0.length : Int) then ((cmp_Less_int.f (rd x0 (wrap64 ((IntKind.u64.wrap (wrap64 (x7 + x8))) / 2))) x1).bind fun t102 => (if t102 = true then (slices_BinarySearch_int_int.l0 k x0 x1 x6 (wrap64 ((wrap64 ((IntKind.u64.wrap (wrap64 (x7 + x8))) / 2)) + 1)) x8) else (slices_BinarySearch_int_int.l0 k x0 x1 x6 x7 (wrap64 ((IntKind.u64.wrap (wrap64 (x7 + x8))) / 2))))) else (none)) else (none)) else (if x7 < x6 then (if 0 ≤ x7 then (if x7 < (x0.length : Int) then (if (rd x0 x7) = x1 then (some (x7, true)) else ((slices_isNaN_int.f (rd x0 x7)).bind fun t105 => (if t105 = true then ((slices_isNaN_int.f x1).bind fun t106 => (some (x7, t106))) else (some (x7, false))))) else (none)) else (none)) else (some (x7, false)))
def slices_BinarySearch_int_int.f (k : Nat) (l0 : List Int) (a1 : Int) : Option (Int × Bool) := slices_BinarySearch_int_int.l0 k l0 a1 (l0.length : Int) 0 (l0.length : Int)
theorem slices_BinarySearch_int_int.mono_l : ∀ k, (∀ y0 y1 y2 y3 y4, LeO (slices_BinarySearch_int_int.l0 k y0 y1 y2 y3 y4) (slices_BinarySearch_int_int.l0 (k + 1) y0 y1 y2 y3 y4))
 | 0 => fun _ _ _ _ _ r h => by simp [slices_BinarySearch_int_int.l0] at h
 | k + 1 => by
  have ih0 := slices_BinarySearch_int_int.mono_l k
  ·intro y0 y1 y2 y3 y4; unfold slices_BinarySearch_int_int.l0; repeat' first
   | (with_reducible exact ih0 _ _ _ _ _)
   | (with_reducible exact LeO.refl _)
   | (with_reducible exact LeO.none _)
   | (with_reducible refine LeO.ite ?_ ?_)
   | (with_reducible refine LeO.bind ?_ (fun _ => ?_))
   | exact ih0 _ _ _ _ _
   | exact LeO.none _
   | refine LeO.ite ?_ ?_
   | refine LeO.bind ?_ (fun _ => ?_)
theorem slices_BinarySearch_int_int.mono : ∀ a0 a1 k, LeO (slices_BinarySearch_int_int.f k a0 a1) (slices_BinarySearch_int_int.f (k + 1) a0 a1) := by
 intro a0 a1 k; have ih0 := slices_BinarySearch_int_int.mono_l k; unfold slices_BinarySearch_int_int.f; repeat' first
   | (with_reducible exact ih0 _ _ _ _ _)
   | (with_reducible exact LeO.refl _)
   | (with_reducible exact LeO.none _)
   | (with_reducible refine LeO.ite ?_ ?_)
   | (with_reducible refine LeO.bind ?_ (fun _ => ?_))
   | exact ih0 _ _ _ _ _
   | exact LeO.none _
   | refine LeO.ite ?_ ?_
   | refine LeO.bind ?_ (fun _ => ?_)
set_option maxHeartbeats 8000000 in
set_option maxRecDepth 100000 in
theorem slices_BinarySearch_int_int.calls (k : Nat) (A0 : Option Addr) (c0 : Nat) (l0 : List Int) (a1 : Int) (r1 : Int) (r2 : Bool) (w : World) (hr0 : Kd.C (Kd.int .i64) w A0 l0.length l0) (hc0 : l0.length ≤ c0) (h : slices_BinarySearch_int_int.f k l0 a1 = some (r1, r2)) :
  Calls Try.prog 79 #[.slice A0 l0.length c0, .int .i64 a1] w fun e w' => e = .returned (.tuple #[.int .i64 r1, .bool r2]) ∧ Drawn0 w w' := by
 have HR0 := XB hr0; have HC0 := XB hc0; clear hr0 hc0; have H : (slices_BinarySearch_int_int.l0 k l0 a1 (l0.length : Int) 0 (l0.length : Int)) = some (r1, r2) := h; clear h; have H' := XB H; clear H; go_enter Try.func79, Try.ntmps79
 go_wp2
 go_loopg [7, 8] k (fun kq v7 v8 w' => ∃ (x7_1 : Int) (x8_1 : Int), v7 = .int .i64 x7_1 ∧ v8 = .int .i64 x8_1 ∧ Aside0 (slices_BinarySearch_int_int.l0 kq l0 a1 (l0.length : Int) x7_1 x8_1 = some (r1, r2)) ∧ Aside0 (kq ≤ k) ∧ Drawn0 w w')
 case atStart => exact ⟨(0), ((l0.length : Int)), (by first | rfl | (simp; done) | (simp [*]; done)), (by first | rfl | (simp; done) | (simp [*]; done)), H', ⟨Nat.le_refl _⟩, by repeat (first | exact Drawn0.refl _ | apply Drawn0.step)⟩
 case round =>
  clear H'; try clear p2
  obtain ⟨x7_1, x8_1, rfl, rfl, HA, HK1, ⟨m1, rfl⟩⟩ := hrel
  cases gk with
  | zero => exact absurd HA.out (by simp [slices_BinarySearch_int_int.l0])
  | succ k1 =>
   have H := HA.out; clear HA; simp only [slices_BinarySearch_int_int.l0] at H; by_cases c3 : x7_1 < x8_1
   ·rw [if_pos c3] at H; have c3b0 : decide (x7_1 < x8_1) = true := decide_eq_true c3; clear c3; obtain ⟨ji4, hji4⟩ : ∃ j_ : Int, (wrap64 ((IntKind.u64.wrap (wrap64 (x7_1 + x8_1))) / 2)) = j_ := ⟨_, rfl⟩
    replace H : (if 0 ≤ (ji4) then (if (ji4) < (l0.length : Int) then ((cmp_Less_int.f (rd l0 (ji4)) a1).bind fun t102 => (if t102 = true then (slices_BinarySearch_int_int.l0 k1 l0 a1 (l0.length : Int) (wrap64 ((ji4) + 1)) x8_1) else (slices_BinarySearch_int_int.l0 k1 l0 a1 (l0.length : Int) x7_1 ji4))) else (none)) else (none)) = some (r1, r2) := by first | (rw [hji4] at H; exact H) | (simp only [hji4] at H ⊢; exact H)
    have hji4w : (IntKind.i64.wrap ((IntKind.u64.wrap (wrap64 (x7_1 + x8_1))) / 2)) = ji4 := (i64_w _).trans hji4; by_cases c5 : 0 ≤ (ji4)
    ·rw [if_pos c5] at H; have c5b0 : decide (0 ≤ (ji4)) = true := decide_eq_true c5; clear c5; by_cases c6 : (ji4) < (l0.length : Int)
     ·rw [if_pos c6] at H; have c6b0 : decide ((ji4) < (l0.length : Int)) = true := decide_eq_true c6; clear c6; replace H := Option.bind_eq_some_iff.mp H; obtain ⟨t102, A70, H⟩ := H; replace H : (if t102 = true then (slices_BinarySearch_int_int.l0 k1 l0 a1 (l0.length : Int) (wrap64 ((ji4) + 1)) x8_1) else (slices_BinarySearch_int_int.l0 k1 l0 a1 (l0.length : Int) x7_1 ji4)) = some (r1, r2) := H; have A7 := XB A70; clear A70; by_cases c8 : t102 = true
      ·subst c8; have H1 : (slices_BinarySearch_int_int.l0 k1 l0 a1 (l0.length : Int) (wrap64 ((ji4) + 1)) x8_1) = some (r1, r2) := by rw [if_pos rfl] at H; exact H
       clear H; have H := H1; clear H1; have H' := XB H; clear H; have p101 : 0 ≤ ((ji4) : Int) := of_decide_eq_true (by first | (with_reducible assumption) | assumption); have q101 : (ji4) < (l0.length : Int) := of_decide_eq_true (by first | (with_reducible assumption) | assumption); obtain ⟨ad101, e101, hx101_0⟩ := Kd.at_int HR0.out (ji4) p101 q101
       cases e101
       replace p101 := eq_true p101; replace q101 := eq_true q101; go_wp2_with (first | ((with_reducible refine gate_callee (f := 88) rfl ?_); refine goesL_ (some 27) rfl rfl Try.func88 (by kernel_rfl) rfl #[.int .i64 (rd l0 (ji4)), .int .i64 a1] rfl (by (try simp only [Xm, Xn, Xo]); first | done | (simp only [hji4]; rfl) | rfl | (simp only [Xp, Xq]; rfl)) ?_; (with_reducible refine (cmp_Less_int.calls (rd l0 (ji4)) a1 true _ A7.out).mono ?_); rintro e w' ⟨rfl, ⟨nd, rfl⟩⟩; refine ⟨_, rfl, ?_⟩))
       go_roundg k1
       case measure => have := HK1.out; omega
       case rel => exact ⟨(wrap64 ((ji4) + 1)), (x8_1), (by first | rfl | (simp; done) | (simp only [← hji4] <;> (first | rfl | simp)) | (simp [*]; done)), (by first | rfl | (simp; done) | (simp [*]; done)), H', ⟨by have := HK1.out; omega⟩, by repeat (first | exact Drawn0.refl _ | apply Drawn0.step)⟩
      ·replace c8 := Bool.eq_false_iff.mpr c8; subst c8; have H1 : (slices_BinarySearch_int_int.l0 k1 l0 a1 (l0.length : Int) x7_1 ji4) = some (r1, r2) := by rw [if_neg (show ¬ (false = true) by decide)] at H; exact H
       clear H; have H := H1; clear H1; have H' := XB H; clear H; have p101 : 0 ≤ ((ji4) : Int) := of_decide_eq_true (by first | (with_reducible assumption) | assumption); have q101 : (ji4) < (l0.length : Int) := of_decide_eq_true (by first | (with_reducible assumption) | assumption); obtain ⟨ad101, e101, hx101_0⟩ := Kd.at_int HR0.out (ji4) p101 q101
       cases e101
       replace p101 := eq_true p101; replace q101 := eq_true q101; go_wp2_with (first | ((with_reducible refine gate_callee (f := 88) rfl ?_); refine goesL_ (some 27) rfl rfl Try.func88 (by kernel_rfl) rfl #[.int .i64 (rd l0 (ji4)), .int .i64 a1] rfl (by (try simp only [Xm, Xn, Xo]); first | done | (simp only [hji4]; rfl) | rfl | (simp only [Xp, Xq]; rfl)) ?_; (with_reducible refine (cmp_Less_int.calls (rd l0 (ji4)) a1 false _ A7.out).mono ?_); rintro e w' ⟨rfl, ⟨nd, rfl⟩⟩; refine ⟨_, rfl, ?_⟩))
       go_roundg k1
       case measure => have := HK1.out; omega
       case rel => exact ⟨(x7_1), (ji4), (by first | rfl | (simp; done) | (simp [*]; done)), (by first | rfl | (simp; done) | (simp only [← hji4] <;> (first | rfl | simp)) | (simp [*]; done)), H', ⟨by have := HK1.out; omega⟩, by repeat (first | exact Drawn0.refl _ | apply Drawn0.step)⟩
     ·rw [if_neg c6] at H; exact absurd H (by simp)
    ·rw [if_neg c5] at H; exact absurd H (by simp)
   ·rw [if_neg c3] at H; have c3b0 : decide (x7_1 < x8_1) = false := decide_eq_false c3; clear c3; by_cases c9 : x7_1 < (l0.length : Int)
    ·rw [if_pos c9] at H; have c9b0 : decide (x7_1 < (l0.length : Int)) = true := decide_eq_true c9; clear c9; by_cases c10 : 0 ≤ x7_1
     ·rw [if_pos c10] at H; have c10b0 : decide (0 ≤ x7_1) = true := decide_eq_true c10; clear c10; by_cases c11 : x7_1 < (l0.length : Int)
      ·rw [if_pos c11] at H; have c11b0 : decide (x7_1 < (l0.length : Int)) = true := decide_eq_true c11; clear c11; by_cases c12 : (rd l0 x7_1) = a1
       ·rw [if_pos c12] at H; have c12b0 : ((rd l0 x7_1) == a1) = true := beq_iff_eq.mpr c12; have c12b1 : ((rd l0 x7_1) != a1) = false := bne_eq_false_iff_eq.mpr c12; clear c12; simp only [Option.some.injEq, Prod.mk.injEq] at H; obtain ⟨rfl, rfl⟩ := H; have p103 : 0 ≤ (x7_1 : Int) := of_decide_eq_true (by first | (with_reducible assumption) | assumption); have q103 : x7_1 < (l0.length : Int) := of_decide_eq_true (by first | (with_reducible assumption) | assumption); obtain ⟨ad103, e103, hx103_0⟩ := Kd.at_int HR0.out x7_1 p103 q103
        cases e103
        replace p103 := eq_true p103; replace q103 := eq_true q103; go_wp2
        go_ret2
        exact ⟨by first | rfl | (simp; done) | (simp [*]; done), by repeat (first | exact Drawn0.refl _ | apply Drawn0.step)⟩
       ·rw [if_neg c12] at H; have c12b0 : ((rd l0 x7_1) == a1) = false := beq_eq_false_iff_ne.mpr c12; have c12b1 : ((rd l0 x7_1) != a1) = true := bne_iff_ne.mpr c12; replace H := Option.bind_eq_some_iff.mp H; obtain ⟨t105, A130, H⟩ := H; replace H : (if t105 = true then ((slices_isNaN_int.f a1).bind fun t106 => (some (x7_1, t106))) else (some (x7_1, false))) = some (r1, r2) := H; have A13 := XB A130; clear A130; by_cases c14 : t105 = true
        ·subst c14; have H1 : ((slices_isNaN_int.f a1).bind fun t106 => (some (x7_1, t106))) = some (r1, r2) := by rw [if_pos rfl] at H; exact H
         clear H; have H := H1; clear H1; replace H := Option.bind_eq_some_iff.mp H; obtain ⟨t106, A150, H⟩ := H; replace H : (some (x7_1, t106)) = some (r1, r2) := H; have A15 := XB A150; clear A150; simp only [Option.some.injEq, Prod.mk.injEq] at H; obtain ⟨rfl, rfl⟩ := H; have p103 : 0 ≤ (x7_1 : Int) := of_decide_eq_true (by first | (with_reducible assumption) | assumption); have q103 : x7_1 < (l0.length : Int) := of_decide_eq_true (by first | (with_reducible assumption) | assumption); obtain ⟨ad103, e103, hx103_0⟩ := Kd.at_int HR0.out x7_1 p103 q103
         cases e103
         replace p103 := eq_true p103; replace q103 := eq_true q103; have p104 : 0 ≤ (x7_1 : Int) := of_decide_eq_true (by first | (with_reducible assumption) | assumption); have q104 : x7_1 < (l0.length : Int) := of_decide_eq_true (by first | (with_reducible assumption) | assumption); obtain ⟨ad104, e104, hx104_0⟩ := Kd.at_int HR0.out x7_1 p104 q104; obtain rfl : ad103 = ad104 := (by injection e104); replace p104 := eq_true p104; replace q104 := eq_true q104; go_wp2_with (first | (go_at_call 89; (with_reducible refine (slices_isNaN_int.calls (rd l0 x7_1) true _ A13.out).mono ?_); rintro e w' ⟨rfl, ⟨nd, rfl⟩⟩) | (go_at_call 89; (with_reducible refine (slices_isNaN_int.calls a1 t106 _ A15.out).mono ?_); rintro e w' ⟨rfl, ⟨nd, rfl⟩⟩))
         go_ret2
         exact ⟨by first | rfl | (simp; done) | (simp [*]; done), by repeat (first | exact Drawn0.refl _ | apply Drawn0.step)⟩
        ·replace c14 := Bool.eq_false_iff.mpr c14; subst c14; have H1 : (some (x7_1, false)) = some (r1, r2) := by rw [if_neg (show ¬ (false = true) by decide)] at H; exact H
         clear H; have H := H1; clear H1; simp only [Option.some.injEq, Prod.mk.injEq] at H; obtain ⟨rfl, rfl⟩ := H; have p103 : 0 ≤ (x7_1 : Int) := of_decide_eq_true (by first | (with_reducible assumption) | assumption); have q103 : x7_1 < (l0.length : Int) := of_decide_eq_true (by first | (with_reducible assumption) | assumption); obtain ⟨ad103, e103, hx103_0⟩ := Kd.at_int HR0.out x7_1 p103 q103
         cases e103
         replace p103 := eq_true p103; replace q103 := eq_true q103; have p104 : 0 ≤ (x7_1 : Int) := of_decide_eq_true (by first | (with_reducible assumption) | assumption); have q104 : x7_1 < (l0.length : Int) := of_decide_eq_true (by first | (with_reducible assumption) | assumption); obtain ⟨ad104, e104, hx104_0⟩ := Kd.at_int HR0.out x7_1 p104 q104; obtain rfl : ad103 = ad104 := (by injection e104); replace p104 := eq_true p104; replace q104 := eq_true q104; go_wp2_with (first | (go_at_call 89; (with_reducible refine (slices_isNaN_int.calls (rd l0 x7_1) false _ A13.out).mono ?_); rintro e w' ⟨rfl, ⟨nd, rfl⟩⟩))
         go_ret2
         exact ⟨by first | rfl | (simp; done) | (simp [*]; done), by repeat (first | exact Drawn0.refl _ | apply Drawn0.step)⟩
      ·rw [if_neg c11] at H; exact absurd H (by simp)
     ·rw [if_neg c10] at H; exact absurd H (by simp)
    ·rw [if_neg c9] at H; have c9b0 : decide (x7_1 < (l0.length : Int)) = false := decide_eq_false c9; clear c9; simp only [Option.some.injEq, Prod.mk.injEq] at H; obtain ⟨rfl, rfl⟩ := H; go_wp2
     go_ret2
     exact ⟨by first | rfl | (simp; done) | (simp [*]; done), by repeat (first | exact Drawn0.refl _ | apply Drawn0.step)⟩

/-! ### slices.Insert: the library's own contracts, laid at this program -/
def charge_ren : Shelf.Ren := ⟨fun x => if x = 21 then 80 else if x = 27 then 90 else if x = 28 then 91 else if x = 35 then 96 else if x = 39 then 97 else x, fun x => x, fun x => x⟩
theorem charge_lays : Lays2.n21 Try.prog charge_ren where
 mixed := by kernel_rfl
 f21 := by kernel_rfl
 f27 := by kernel_rfl
 f28 := by kernel_rfl
 f35 := by kernel_rfl
 f39 := by kernel_rfl
 t0 := by kernel_rfl
 a0 := fun w => by kernel_rfl
 z0 := fun w => by kernel_rfl
 v0 := fun w => by kernel_rfl
 t3 := by kernel_rfl
 a3 := fun w => by kernel_rfl
 z3 := fun w => by kernel_rfl
 v3 := fun w => by kernel_rfl
 t4 := by kernel_rfl
 a4 := fun w => by kernel_rfl
 z4 := fun w => by kernel_rfl
 v4 := fun w => by kernel_rfl
 t22 := by kernel_rfl
 a22 := fun w => by kernel_rfl
 z22 := fun w => by kernel_rfl
 v22 := fun w => by kernel_rfl
 i3 := by kernel_rfl
theorem charge_put (g : Nat) (t : TypeId) : ∀ (vs : List Value) (o : Nat) (w : World) (cur : Array Value), w.heap[g]? = some (.cells cur t (0, 0)) → ∃ cur', (w.setCells g o vs).heap[g]? = some (.cells cur' t (0, 0)) ∧ cur'.size = cur.size ∧ ∀ j, j < cur.size → cur'[j]? = if o ≤ j ∧ j < o + vs.length then vs[j - o]? else cur[j]?
 | [], o, w, cur, h => ⟨cur, h, rfl, fun j _ => by rw [if_neg (by simp only [List.length_nil]; omega)]⟩
 | v :: r, o, w, cur, h => by
  obtain ⟨cur', h1, h2, h3⟩ := charge_put g t r (o + 1) (w.setCell ⟨g, o, none⟩ v) (cur.setIfInBounds o v) (blk_put h o v rfl); refine ⟨cur', h1, by rw [h2]; simp, fun j hj => ?_⟩; rw [h3 j (by simpa using hj), Array.getElem?_setIfInBounds]; by_cases e : j = o
  ·subst e; rw [if_neg (by omega), if_pos rfl, if_pos hj, if_pos ⟨Nat.le_refl _, by simp⟩, Nat.sub_self, List.getElem?_cons_zero]
  ·by_cases c : o + 1 ≤ j ∧ j < o + 1 + r.length
   ·rw [if_pos c, if_pos (by simp; omega), show j - o = (j - (o + 1)) + 1 by omega, List.getElem?_cons_succ]
   ·rw [if_neg c, if_neg (Ne.symm e), if_neg (by simp; omega)]
theorem charge_below_sets {w : World} {g : Nat} (hg : w.heap.size ≤ g) : ∀ (vs : List Value) (o : Nat) (W : World), Below w.heap.size w W → Below w.heap.size w (W.setCells g o vs)
 | [], _, _, h => h
 | v :: r, o, W, h => charge_below_sets hg r (o + 1) _ (Xd h hg)
theorem charge_ins_row {w w' : World} {g cap i : Nat} {x : Int} {xs : List Int} {cur' : Array Value} (hi : i ≤ xs.length) (hb : w.heap.size ≤ g) (hg : w'.heap[g]? = some (.cells cur' 3 (0, 0))) (hc : xs.length + 1 ≤ cap) (hm : cap ≤ maxLen) (hs : cur'.size = cap)
  (hj : ∀ j, j < xs.length + 1 → cur'[j]? = if j < i then (encs (Value.int .i64) xs)[j]? else if j = i then some (.int .i64 x) else (encs (Value.int .i64) xs)[j - 1]?) : Kd.R (Kd.int .i64) 3 w' w.heap.size (fun _ => True) (.slice (some ⟨g, 0, none⟩) (xs.length + 1) cap) (xs.take i ++ x :: xs.drop i) := by
 have hlen : (xs.take i ++ x :: xs.drop i).length = xs.length + 1 := by simp; omega
 refine Kd.R_of_own (enc := Value.int .i64) (h1 := fun _ => rfl) ?_ (fun _ _ => trivial); rw [hlen]; refine ⟨by rw [encs_length, hlen]; omega, .inr ⟨g, cap, cur', rfl, hb, hg, hc, hm, by omega, ?_⟩⟩; rw [Nat.mul_one]; refine List.ext_getElem? (fun j => ?_); rw [List.getElem?_take]; by_cases c : j < xs.length + 1
 ·rw [if_pos c, Array.getElem?_toList, hj j c]; unfold encs; rw [List.getElem?_map, List.getElem?_map, List.getElem?_map, List.getElem?_append, Xq, Nat.min_eq_left hi]; by_cases c1 : j < i
  ·rw [if_pos c1, if_pos c1, List.getElem?_take, if_pos c1]
  ·rw [if_neg c1, if_neg c1]; by_cases c2 : j = i
   ·subst c2; rw [if_pos rfl, Nat.sub_self]; rfl
   ·rw [if_neg c2, show j - i = (j - i - 1) + 1 by omega, List.getElem?_cons_succ, List.getElem?_drop, show i + (j - i - 1) = j - 1 by omega]
 ·rw [if_neg c, List.getElem?_eq_none (by rw [encs_length, hlen]; omega)]
theorem charge_ins (w W : World) (ok : Nat → Prop) (v : Value) (xs : List Int) (i : Nat) (x : Int) (vb vc : Nat) (tv : TypeId) (HO : Kd.R (Kd.int .i64) 3 W w.heap.size ok v xs) (HB : Below w.heap.size w W) (hi : i ≤ xs.length) (hl : xs.length ≤ 1000) (hv : W.heap[vb]? = some (.cells #[.int .i64 x] tv (0, 0))) (hne : some vb ≠ v.ownBlock) :
  Calls Try.prog 80 #[v, .int .i64 (i : Int), .slice (some ⟨vb, 0, none⟩) 1 vc] W fun e w' => ∃ v1 : Value, e = .returned v1 ∧ Kd.R (Kd.int .i64) 3 w' w.heap.size (fun _ => True) v1 (xs.take i ++ x :: xs.drop i) ∧ Below w.heap.size w w' := by
 have ho := Kd.own_of_R (enc := Value.int .i64) (h1 := fun _ => rfl) HO; have hsz : w.heap.size ≤ W.heap.size := XC HB; have hvs : ∀ (j : Nat) (u : Value), [Value.int .i64 x][j]? = some u → W.cell? ⟨vb, 0 + j, none⟩ = some u := by
  intro j u hu; rw [Nat.zero_add, Xi hv j]
  cases j with
  | zero => simpa using hu
  | succ j => simp at hu
 have h1v : ∀ u ∈ [Value.int .i64 x], u.oneCell' = true := by intro u hu; rw [List.mem_singleton.1 hu]; rfl
 have hmax : (1001 : Nat) ≤ maxLen := by decide
 have hm63 : maxLen ≤ 9223372036854775807 := by decide
 have hone : (Value.int .i64 0).cells.size = 1 := rfl; have hel : (encs (Value.int .i64) xs).length = xs.length := encs_length xs; have h1c : ∀ u ∈ encs (Value.int .i64) xs, u.oneCell' = true := by
  intro u hu; obtain ⟨y, _, rfl⟩ := List.mem_map.1 hu; rfl
 obtain ⟨hlen, hc | ⟨g, cap, cur, rfl, hbg, hg, hnc, hcm, hcs, hin⟩⟩ := ho
 ·obtain ⟨rfl, hn⟩ := hc; obtain rfl : xs = [] := List.eq_nil_of_length_eq_zero hn; obtain rfl : i = 0 := by simpa using hi
  refine (Any2.slices_Insert_int_end_grow (P := Try.prog) (ρ := charge_ren) charge_lays none 0 0 vb 0 1 vc [] [.int .i64 x] W (by omega) (by omega) (by omega) (by omega) rfl rfl (fun _ => rfl) (fun a h => by cases h) hvs h1v).mono ?_; rintro e w' ⟨rfl, rfl⟩; refine ⟨_, rfl, ?_, Xc (below_drew HB) _⟩; have hsize := size_zeroCells (Value.int .i64 0).cells (grownCap W (0 + 1) 0 (charge_ren.t 3) - (0 + 1)); have hge := grownCap_ge W (0 + 1) 0 (charge_ren.t 3); refine charge_ins_row (xs := []) (i := 0) (Nat.le_refl _) hsz (blk_new W.drew _) hge (grownCap_le_maxLen _ _ _ _ (by omega)) ?_ ?_
  ·rw [Array.size_append, hsize, hone, List.size_toArray]; simp only [List.length_append, List.length_nil, List.length_cons]; omega
  ·intro j hj; obtain rfl : j = 0 := by simpa using hj
   rw [Array.getElem?_append_left (by simp)]; rfl
 ·rw [Nat.mul_one] at hcs hin hlen; have h63 : cap ≤ 9223372036854775807 := by omega
  have hget : ∀ j, j < xs.length → cur[j]? = (encs (Value.int .i64) xs)[j]? := by
   intro j hj; rw [← hin, List.getElem?_take, if_pos hj, Array.getElem?_toList]
  have hcell : ∀ (j : Nat) (u : Value), (encs (Value.int .i64) xs)[j]? = some u → W.cell? ⟨g, 0 + j, none⟩ = some u := by
   intro j u hu; have hj : j < xs.length := by obtain ⟨h, _⟩ := List.getElem?_eq_some_iff.1 hu; omega
   rw [Nat.zero_add, Xi hg j, hget j hj, hu]
  have hsome : ∀ j, j < cap → (W.cell? ⟨g, 0 + j, none⟩).isSome = true := by
   intro j hj; rw [Nat.zero_add, Xi hg j]; simp; omega
  by_cases room : xs.length + 1 ≤ cap
  ·by_cases he : i = xs.length
   ·subst he; refine (Any2.slices_Insert_int_end_room (P := Try.prog) (ρ := charge_ren) charge_lays g 0 xs.length cap vb 0 1 vc [.int .i64 x] W (by omega) room h63 rfl (fun j hj => by rw [show 0 + xs.length + j = 0 + (xs.length + j) by omega]; exact hsome _ (by omega)) (fun j _ => Xh hg _) hvs h1v).mono ?_; rintro e w' ⟨rfl, rfl⟩; refine ⟨_, rfl, ?_, charge_below_sets hbg _ _ _ HB⟩; obtain ⟨cur', q1, q2, q3⟩ := charge_put g 3 [.int .i64 x] (0 + xs.length) W cur hg; refine charge_ins_row (Nat.le_refl _) hbg q1 room hcm (by omega) (fun j hj => ?_); rw [q3 j (by omega)]; by_cases c : j < xs.length
    ·rw [if_neg (by simp; omega), if_pos c, hget j c]
    ·obtain rfl : j = xs.length := by omega
     rw [if_pos (by simp), if_neg c, if_pos rfl]; simp
   ·refine (Any2.slices_Insert_int_shift (P := Try.prog) (ρ := charge_ren) charge_lays g 0 xs.length cap i vb 0 1 vc (encs (Value.int .i64) xs) [.int .i64 x] W (by omega) (by omega) room h63 (fun e => hne (by rw [e]; rfl)) hel rfl hcell (fun j hj => hsome j (by omega)) (fun j _ => Xh hg _) hvs h1c h1v tv 3 1 cap (by unfold World.shape?; rw [hv]; rfl) (by unfold World.shape?; rw [hg]; simp [hcs]) (by omega) (Xh hv _) (Xh hv _)).mono ?_; rintro e w' ⟨rfl, rfl⟩; refine ⟨_, rfl, ?_, charge_below_sets hbg _ _ _ (charge_below_sets hbg _ _ _ (below_drew HB))⟩; obtain ⟨cur1, p1, p2, p3⟩ := charge_put g 3 ((encs (Value.int .i64) xs).drop i) (0 + (i + 1)) W.drew cur hg; obtain ⟨cur', q1, q2, q3⟩ := charge_put g 3 [.int .i64 x] (0 + i) _ cur1 p1; refine charge_ins_row hi hbg q1 room hcm (by omega) (fun j hj => ?_); rw [q3 j (by omega), p3 j (by omega)]; have hd : ((encs (Value.int .i64) xs).drop i).length = xs.length - i := by rw [Xp, hel]
    by_cases c : j < i
    ·rw [if_neg (by simp; omega), if_neg (by rw [hd]; omega), if_pos c, hget j (by omega)]
    ·by_cases c2 : j = i
     ·subst c2; rw [if_pos (by simp), if_neg c, if_pos rfl]; simp
     ·rw [if_neg (by simp; omega), if_pos (by rw [hd]; omega), if_neg c, if_neg c2, List.getElem?_drop, show i + (j - (0 + (i + 1))) = j - 1 by omega]
  ·have hbw : g < W.heap.size := blk_lt hg; have hge := grownCap_ge W (xs.length + 1) cap (charge_ren.t 3); have hle := grownCap_le_maxLen W (xs.length + 1) cap (charge_ren.t 3) (by omega); have hsize := size_zeroCells (Value.int .i64 0).cells (grownCap W (xs.length + 1) cap (charge_ren.t 3) - (xs.length + 1)); by_cases he : i = xs.length
   ·subst he; refine (Any2.slices_Insert_int_end_grow (P := Try.prog) (ρ := charge_ren) charge_lays (some ⟨g, 0, none⟩) xs.length cap vb 0 1 vc (encs (Value.int .i64) xs) [.int .i64 x] W (by omega) hnc (by omega) (by omega) hel rfl (fun h => by cases h) (fun a ha j u hu => by obtain rfl := Option.some.inj ha; rw [Addr.add_lit]; exact hcell j u hu) hvs h1v).mono ?_; rintro e w' ⟨rfl, rfl⟩; refine ⟨_, rfl, ?_, Xc (below_drew HB) _⟩; refine charge_ins_row (Nat.le_refl _) hsz (blk_new W.drew _) hge hle ?_ (fun j hj => ?_)
    ·rw [Array.size_append, hsize, hone]; simp [hel]; omega
    ·rw [Array.getElem?_append_left (by simp [hel]; omega)]; simp only [List.getElem?_toArray]; by_cases c : j < xs.length
     ·rw [if_pos c, List.getElem?_append_left (by omega)]
     ·obtain rfl : j = xs.length := by omega
      rw [if_neg c, if_pos rfl, List.getElem?_append_right (by omega), hel, Nat.sub_self]; rfl
   ·refine (Any2.slices_Insert_int_grow (P := Try.prog) (ρ := charge_ren) charge_lays g 0 xs.length cap i vb 0 1 vc (encs (Value.int .i64) xs) [.int .i64 x] W (by omega) (by omega) hnc (by omega) (by omega) hel rfl hcell hvs h1c h1v).mono ?_; rintro e w' ⟨rfl, rfl⟩; refine ⟨_, rfl, ?_, charge_below_sets hsz _ _ _ (below_drew (charge_below_sets hsz _ _ _ (below_drew (Xc HB _))))⟩; have hsize2 := size_zeroCells (Value.int .i64 0).cells (xs.length + 1 - i); have ht : ((encs (Value.int .i64) xs).take i).length = i := by rw [Xq, hel]; omega
    have hd : ((encs (Value.int .i64) xs).drop i).length = xs.length - i := by rw [Xp, hel]
    have h0 := blk_new W (.cells (((encs (Value.int .i64) xs).take i).toArray ++ Builtin.zeroCells (Value.int .i64 0).cells (xs.length + 1 - i) ++ Builtin.zeroCells (Value.int .i64 0).cells (grownCap W (xs.length + 1) cap (charge_ren.t 3) - (xs.length + 1))) (charge_ren.t 3)); have hcs0 : (((encs (Value.int .i64) xs).take i).toArray ++ Builtin.zeroCells (Value.int .i64 0).cells (xs.length + 1 - i) ++ Builtin.zeroCells (Value.int .i64 0).cells (grownCap W (xs.length + 1) cap (charge_ren.t 3) - (xs.length + 1))).size = grownCap W (xs.length + 1) cap (charge_ren.t 3) := by
     rw [Array.size_append, Array.size_append, hsize, hsize2, hone, List.size_toArray, ht]; omega
    have hg0 : ∀ j, j < i → (((encs (Value.int .i64) xs).take i).toArray ++ Builtin.zeroCells (Value.int .i64 0).cells (xs.length + 1 - i) ++ Builtin.zeroCells (Value.int .i64 0).cells (grownCap W (xs.length + 1) cap (charge_ren.t 3) - (xs.length + 1)))[j]? = (encs (Value.int .i64) xs)[j]? := by
     intro j hj; rw [Array.getElem?_append_left (by rw [Array.size_append, List.size_toArray, ht]; omega), Array.getElem?_append_left (by rw [List.size_toArray, ht]; omega), List.getElem?_toArray, List.getElem?_take, if_pos hj]
    generalize (((encs (Value.int .i64) xs).take i).toArray ++ Builtin.zeroCells (Value.int .i64 0).cells (xs.length + 1 - i) ++ Builtin.zeroCells (Value.int .i64 0).cells (grownCap W (xs.length + 1) cap (charge_ren.t 3) - (xs.length + 1))) = cur0 at h0 hcs0 hg0 ⊢
    obtain ⟨cur1, p1, p2, p3⟩ := charge_put W.heap.size 3 [.int .i64 x] i (W.alloc (.cells cur0 (charge_ren.t 3))).drew cur0 h0; obtain ⟨cur', q1, q2, q3⟩ := charge_put W.heap.size 3 ((encs (Value.int .i64) xs).drop i) (i + 1) ((W.alloc (.cells cur0 (charge_ren.t 3))).drew.setCells W.heap.size i [.int .i64 x]).drew cur1 p1; refine charge_ins_row hi hsz q1 hge hle (by omega) (fun j hj => ?_); rw [q3 j (by omega), p3 j (by omega), hd]; by_cases c : j < i
    ·rw [if_neg (by omega), if_neg (by simp; omega), if_pos c, hg0 j c]
    ·by_cases c2 : j = i
     ·subst c2; rw [if_neg (by omega), if_pos (by simp), if_neg c, if_pos rfl, Nat.sub_self]; rfl
     ·rw [if_pos (by omega), if_neg c, if_neg c2, List.getElem?_drop, show i + (j - (i + 1)) = j - 1 by omega]
theorem charge_ins' (w W : World) (ok : Nat → Prop) (v : Value) (xs : List Int) (i : Int) (x : Int) (vb vc : Nat) (tv : TypeId) (HO : Kd.R (Kd.int .i64) 3 W w.heap.size ok v xs) (HB : Below w.heap.size w W) (h0 : 0 ≤ i) (hi : i ≤ (xs.length : Int)) (hl : xs.length ≤ 1000) (hv : W.heap[vb]? = some (.cells #[.int .i64 x] tv (0, 0))) (hne : some vb ≠ v.ownBlock) :
  Calls Try.prog 80 #[v, .int .i64 i, .slice (some ⟨vb, 0, none⟩) 1 vc] W fun e w' => ∃ v1 : Value, e = .returned v1 ∧ Kd.R (Kd.int .i64) 3 w' w.heap.size (fun _ => True) v1 (xs.take i.toNat ++ x :: xs.drop i.toNat) ∧ Below w.heap.size w w' := by
 have h := charge_ins w W ok v xs i.toNat x vb vc tv HO HB (by omega) hl hv hne; rwa [show ((i.toNat : Nat) : Int) = i by omega] at h
/-! ### charge_With: function 54 -/
def charge_With.f (k : Nat) (l0 : List Int) (a1 : Int) : Option (List Int × Int) := (charge_Validate.f k l0).bind fun t101 => (if t101 = 0 then ((slices_BinarySearch_int_int.f k l0 a1).bind fun bt102 => (if bt102.2 = true then (some (([] : List Int), 5)) else ((slices_Clone_int_int.f l0).bind fun t104 => (if 0 ≤ bt102.1 ∧ bt102.1 ≤ (t104.length : Int) ∧ t104.length ≤ 1000 then ((some (t104.take bt102.1.toNat ++ a1 :: t104.drop bt102.1.toNat : List Int)).bind fun y107 => ((charge_Validate.f k y107).bind fun t110 => (if t110 = 0 then (some (y107, 0)) else (some (([] : List Int), t110))))) else (none))))) else (some (([] : List Int), t101)))
theorem charge_With.mono : ∀ a0 a1 k, LeO (charge_With.f k a0 a1) (charge_With.f (k + 1) a0 a1) := by
 intro a0 a1 k; unfold charge_With.f; repeat' first
   | (with_reducible exact charge_Validate.mono _ _)
   | (with_reducible exact slices_BinarySearch_int_int.mono _ _ _)
   | (with_reducible exact LeO.refl _)
   | (with_reducible exact LeO.none _)
   | (with_reducible refine LeO.ite ?_ ?_)
   | (with_reducible refine LeO.bind ?_ (fun _ => ?_))
   | exact charge_Validate.mono _ _
   | exact slices_BinarySearch_int_int.mono _ _ _
   | exact LeO.none _
   | refine LeO.ite ?_ ?_
   | refine LeO.bind ?_ (fun _ => ?_)
set_option maxHeartbeats 8000000 in
set_option maxRecDepth 100000 in
theorem charge_With.calls (k : Nat) (A0 : Option Addr) (c0 : Nat) (l0 : List Int) (a1 : Int) (r1 : List Int) (r2 : Int) (w : World) (hr0 : Kd.C (Kd.int .i64) w A0 l0.length l0) (hc0 : l0.length ≤ c0) (h : charge_With.f k l0 a1 = some (r1, r2)) :
  Calls Try.prog 54 #[.slice A0 l0.length c0, .int .i64 a1] w fun e w' => ∃ v0_ : Value, e = .returned (.tuple #[v0_, .int .i64 r2]) ∧ Kd.R (Kd.int .i64) 3 w' w.heap.size (fun _ => True) v0_ r1 ∧ Below w.heap.size w w' := by
 have HR0 := XB hr0; have HC0 := XB hc0; clear hr0 hc0; have HB := XB (Below.refl w.heap.size w); have H : ((charge_Validate.f k l0).bind fun t101 => (if t101 = 0 then ((slices_BinarySearch_int_int.f k l0 a1).bind fun bt102 => (if bt102.2 = true then (some (([] : List Int), 5)) else ((slices_Clone_int_int.f l0).bind fun t104 => (if 0 ≤ bt102.1 ∧ bt102.1 ≤ (t104.length : Int) ∧ t104.length ≤ 1000 then ((some (t104.take bt102.1.toNat ++ a1 :: t104.drop bt102.1.toNat : List Int)).bind fun y107 => ((charge_Validate.f k y107).bind fun t110 => (if t110 = 0 then (some (y107, 0)) else (some (([] : List Int), t110))))) else (none))))) else (some (([] : List Int), t101)))) = some (r1, r2) := h; clear h; replace H := Option.bind_eq_some_iff.mp H; obtain ⟨t101, A30, H⟩ := H; replace H : (if t101 = 0 then ((slices_BinarySearch_int_int.f k l0 a1).bind fun bt102 => (if bt102.2 = true then (some (([] : List Int), 5)) else ((slices_Clone_int_int.f l0).bind fun t104 => (if 0 ≤ bt102.1 ∧ bt102.1 ≤ (t104.length : Int) ∧ t104.length ≤ 1000 then ((some (t104.take bt102.1.toNat ++ a1 :: t104.drop bt102.1.toNat : List Int)).bind fun y107 => ((charge_Validate.f k y107).bind fun t110 => (if t110 = 0 then (some (y107, 0)) else (some (([] : List Int), t110))))) else (none))))) else (some (([] : List Int), t101))) = some (r1, r2) := H; have A3 := XB A30; clear A30; by_cases c4 : t101 = 0
 ·rw [if_pos c4] at H; have c4b0 : (t101 == 0) = true := beq_iff_eq.mpr c4; have c4b1 : (t101 != 0) = false := bne_eq_false_iff_eq.mpr c4; clear c4; replace H := Option.bind_eq_some_iff.mp H; obtain ⟨⟨t102, t103⟩, A50, H⟩ := H; replace H : (if t103 = true then (some (([] : List Int), 5)) else ((slices_Clone_int_int.f l0).bind fun t104 => (if 0 ≤ t102 ∧ t102 ≤ (t104.length : Int) ∧ t104.length ≤ 1000 then ((some (t104.take t102.toNat ++ a1 :: t104.drop t102.toNat : List Int)).bind fun y107 => ((charge_Validate.f k y107).bind fun t110 => (if t110 = 0 then (some (y107, 0)) else (some (([] : List Int), t110))))) else (none)))) = some (r1, r2) := H; have A5 := XB A50; clear A50; by_cases c6 : t103 = true
  ·subst c6; have H1 : (some (([] : List Int), 5)) = some (r1, r2) := by rw [if_pos rfl] at H; exact H
   clear H; have H := H1; clear H1; simp only [Option.some.injEq, Prod.mk.injEq] at H; obtain ⟨rfl, rfl⟩ := H; go_enter Try.func54, Try.ntmps54
   go_wp2_with (first | ((with_reducible refine gate_callee (f := 46) rfl ?_); refine goesL_ (some 12) rfl rfl Try.func46 (by kernel_rfl) rfl #[.slice A0 l0.length c0] rfl (by (try simp only [Xm, Xn, Xo]); first | done | rfl | (simp only [Xp, Xq]; rfl)) ?_; (with_reducible refine (charge_Validate.calls k _ _ l0 t101 _ ?side1 ?side2 A3.out).mono ?_); (case side1 => repeat (first | exact HR0.out | (with_reducible refine Xr ?_ _) | (with_reducible refine Xs ?_ _) | (with_reducible refine Xt ?_))); (case side2 => exact HC0.out); rintro e w' ⟨rfl, ⟨nd, rfl⟩⟩; refine ⟨_, rfl, ?_⟩) | ((with_reducible refine gate_callee (f := 79) rfl ?_); refine goesL_ (some 19) rfl rfl Try.func79 (by kernel_rfl) rfl #[.slice A0 l0.length c0, .int .i64 a1] rfl (by (try simp only [Xm, Xn, Xo]); first | done | rfl | (simp only [Xp, Xq]; rfl)) ?_; (with_reducible refine (slices_BinarySearch_int_int.calls k _ _ l0 a1 t102 true _ ?side1 ?side2 A5.out).mono ?_); (case side1 => repeat (first | exact HR0.out | (with_reducible refine Xr ?_ _) | (with_reducible refine Xs ?_ _) | (with_reducible refine Xt ?_))); (case side2 => exact HC0.out); rintro e w' ⟨rfl, ⟨nd, rfl⟩⟩; refine ⟨_, rfl, ?_⟩))
   go_ret2
   exact ⟨_, by first | rfl | (simp [errW_none, errW_some] <;> rfl) | (simp [*, errW_none, errW_some] <;> rfl), by first | exact Kd.R_nil _ _ _ _ _ | exact Kd.N_nil _ _ _ _ _ | exact Kd.V_nil _ _ _ _ _ | exact Kd.Q_nil _ _ _ _ _ | exact Kd.S_nil _ _ _ _ _, by repeat (first | (with_reducible first | exact HB.out | apply Xc | apply Xa | apply Xb) | exact HB.out)⟩
  ·replace c6 := Bool.eq_false_iff.mpr c6; subst c6; have H1 : ((slices_Clone_int_int.f l0).bind fun t104 => (if 0 ≤ t102 ∧ t102 ≤ (t104.length : Int) ∧ t104.length ≤ 1000 then ((some (t104.take t102.toNat ++ a1 :: t104.drop t102.toNat : List Int)).bind fun y107 => ((charge_Validate.f k y107).bind fun t110 => (if t110 = 0 then (some (y107, 0)) else (some (([] : List Int), t110))))) else (none))) = some (r1, r2) := by rw [if_neg (show ¬ (false = true) by decide)] at H; exact H
   clear H; have H := H1; clear H1; replace H := Option.bind_eq_some_iff.mp H; obtain ⟨t104, A70, H⟩ := H; replace H : (if 0 ≤ t102 ∧ t102 ≤ (t104.length : Int) ∧ t104.length ≤ 1000 then ((some (t104.take t102.toNat ++ a1 :: t104.drop t102.toNat : List Int)).bind fun y107 => ((charge_Validate.f k y107).bind fun t110 => (if t110 = 0 then (some (y107, 0)) else (some (([] : List Int), t110))))) else (none)) = some (r1, r2) := H; have A7 := XB A70; clear A70; by_cases c8 : 0 ≤ t102 ∧ t102 ≤ (t104.length : Int) ∧ t104.length ≤ 1000
   ·rw [if_pos c8] at H; have LMc8 := XB c8; clear c8; obtain ⟨y107, hy107⟩ : ∃ y_ : List Int, y_ = (t104.take t102.toNat ++ a1 :: t104.drop t102.toNat) := ⟨_, rfl⟩
    replace H : ((charge_Validate.f k y107).bind fun t110 => (if t110 = 0 then (some (y107, 0)) else (some (([] : List Int), t110)))) = some (r1, r2) := by first | (rw [hy107]; with_reducible exact H) | (have H2_ := (Option.bind_some _ _).symm.trans H; rw [hy107]; with_reducible exact H2_) | (have H2_ := (Option.bind_some _ _).symm.trans H; with_reducible exact H2_) | with_reducible exact H | (rw [hy107]; exact H) | exact H
    have Ny107 := XB hy107; clear hy107; replace H := Option.bind_eq_some_iff.mp H; obtain ⟨t110, A90, H⟩ := H; replace H : (if t110 = 0 then (some (y107, 0)) else (some (([] : List Int), t110))) = some (r1, r2) := H; have A9 := XB A90; clear A90; by_cases c10 : t110 = 0
    ·rw [if_pos c10] at H; have c10b0 : (t110 == 0) = true := beq_iff_eq.mpr c10; have c10b1 : (t110 != 0) = false := bne_eq_false_iff_eq.mpr c10; clear c10; simp only [Option.some.injEq, Prod.mk.injEq] at H; obtain ⟨rfl, rfl⟩ := H; go_enter Try.func54, Try.ntmps54
     go_wp2_with (first | ((with_reducible refine gate_callee (f := 46) rfl ?_); refine goesL_ (some 12) rfl rfl Try.func46 (by kernel_rfl) rfl #[.slice A0 l0.length c0] rfl (by (try simp only [Xm, Xn, Xo]); first | done | rfl | (simp only [Xp, Xq]; rfl)) ?_; (with_reducible refine (charge_Validate.calls k _ _ l0 t101 _ ?side1 ?side2 A3.out).mono ?_); (case side1 => repeat (first | exact HR0.out | (with_reducible refine Xr ?_ _) | (with_reducible refine Xs ?_ _) | (with_reducible refine Xt ?_))); (case side2 => exact HC0.out); rintro e w' ⟨rfl, ⟨nd, rfl⟩⟩; refine ⟨_, rfl, ?_⟩) | ((with_reducible refine gate_callee (f := 79) rfl ?_); refine goesL_ (some 19) rfl rfl Try.func79 (by kernel_rfl) rfl #[.slice A0 l0.length c0, .int .i64 a1] rfl (by (try simp only [Xm, Xn, Xo]); first | done | rfl | (simp only [Xp, Xq]; rfl)) ?_; (with_reducible refine (slices_BinarySearch_int_int.calls k _ _ l0 a1 t102 false _ ?side1 ?side2 A5.out).mono ?_); (case side1 => repeat (first | exact HR0.out | (with_reducible refine Xr ?_ _) | (with_reducible refine Xs ?_ _) | (with_reducible refine Xt ?_))); (case side2 => exact HC0.out); rintro e w' ⟨rfl, ⟨nd, rfl⟩⟩; refine ⟨_, rfl, ?_⟩) | ((with_reducible refine gate_callee (f := 72) rfl ?_); refine goesL_ (some 24) rfl rfl Try.func72 (by kernel_rfl) rfl #[.slice A0 l0.length c0] rfl (by (try simp only [Xm, Xn, Xo]); first | done | rfl | (simp only [Xp, Xq]; rfl)) ?_; (with_reducible refine (slices_Clone_int_int.calls _ _ l0 t104 _ ?side1 ?side2 A7.out).mono ?_); (case side1 => repeat (first | exact HR0.out | (with_reducible refine Xr ?_ _) | (with_reducible refine Xs ?_ _) | (with_reducible refine Xt ?_))); (case side2 => exact HC0.out); rintro e w11 ⟨v105, rfl, ho0, hb⟩; refine ⟨_, rfl, ?_⟩; have n0_ := XB (Kd.R_lower ho0 (XC (by repeat (first | (with_reducible first | exact HB.out | apply Xc | apply Xa | apply Xb) | exact HB.out)))); have n1_ := XB (Xz (by repeat (first | (with_reducible first | exact HB.out | apply Xc | apply Xa | apply Xb) | exact HB.out)) hb); clear HB; have HO106 := n0_; have HB := n1_; clear n0_ n1_; (try clear hb); (try clear hb2); (try clear hk); (try clear hi); (try clear ho0)) | ((with_reducible refine gate_callee (f := 80) rfl ?_); refine goesL_ (some 28) rfl rfl Try.func80 (by kernel_rfl) rfl #[v105, .int .i64 t102, .slice (some ⟨w11.heap.size, 0, none⟩) 1 1] rfl (by (try simp only [Xm, Xn, Xo]); first | done | rfl) ?_; refine (charge_ins' w _ _ v105 t104 t102 a1 _ 1 3 (by (with_reducible repeat (first | apply Xv | apply Xw | apply Xx)); exact HO106.out) (by exact (by repeat (first | (with_reducible first | exact HB.out | apply Xc | apply Xa | apply Xb) | exact HB.out))) LMc8.out.1 LMc8.out.2.1 LMc8.out.2.2 (blk_new _ _) (Kd.R_ne_new HO106.out 0)).mono ?_; rintro e w12 ⟨v108, rfl, ho, hb⟩; refine ⟨_, rfl, ?_⟩; rw [← Ny107.out] at ho; have n0_ := XB (hb); have n1_ := XB (ho); clear HB; clear HO106; have HB := n0_; have HO109 := n1_; clear n0_ n1_; clear ho hb; obtain ⟨Ao13, co13, eo13⟩ := Kd.R_slice HO109.out; subst eo13) | ((with_reducible refine gate_callee (f := 46) rfl ?_); refine goesL_ (some 30) rfl rfl Try.func46 (by kernel_rfl) rfl #[.slice Ao13 y107.length co13] rfl (by (try simp only [Xm, Xn, Xo]); first | done | rfl | (simp only [Xp, Xq]; rfl)) ?_; (with_reducible refine (charge_Validate.calls k _ _ y107 t110 _ ?side1 ?side2 A9.out).mono ?_); (case side1 => repeat (first | exact (XD HO109.out).2.2 | (with_reducible refine Xr ?_ _) | (with_reducible refine Xs ?_ _) | (with_reducible refine Xt ?_))); (case side2 => exact (XD HO109.out).2.1); rintro e w' ⟨rfl, ⟨nd, rfl⟩⟩; refine ⟨_, rfl, ?_⟩))
     go_ret2
     exact ⟨_, by first | rfl | (simp [errW_none, errW_some] <;> rfl) | (simp [*, errW_none, errW_some] <;> rfl), by (with_reducible repeat (first | apply Xv | apply Xw | apply Xx)); exact HO109.out, by repeat (first | (with_reducible first | exact HB.out | apply Xc | apply Xa | apply Xb) | exact HB.out)⟩
    ·rw [if_neg c10] at H; have c10b0 : (t110 == 0) = false := beq_eq_false_iff_ne.mpr c10; have c10b1 : (t110 != 0) = true := bne_iff_ne.mpr c10; simp only [Option.some.injEq, Prod.mk.injEq] at H; obtain ⟨rfl, rfl⟩ := H; go_enter Try.func54, Try.ntmps54
     go_wp2_with (first | ((with_reducible refine gate_callee (f := 46) rfl ?_); refine goesL_ (some 12) rfl rfl Try.func46 (by kernel_rfl) rfl #[.slice A0 l0.length c0] rfl (by (try simp only [Xm, Xn, Xo]); first | done | rfl | (simp only [Xp, Xq]; rfl)) ?_; (with_reducible refine (charge_Validate.calls k _ _ l0 t101 _ ?side1 ?side2 A3.out).mono ?_); (case side1 => repeat (first | exact HR0.out | (with_reducible refine Xr ?_ _) | (with_reducible refine Xs ?_ _) | (with_reducible refine Xt ?_))); (case side2 => exact HC0.out); rintro e w' ⟨rfl, ⟨nd, rfl⟩⟩; refine ⟨_, rfl, ?_⟩) | ((with_reducible refine gate_callee (f := 79) rfl ?_); refine goesL_ (some 19) rfl rfl Try.func79 (by kernel_rfl) rfl #[.slice A0 l0.length c0, .int .i64 a1] rfl (by (try simp only [Xm, Xn, Xo]); first | done | rfl | (simp only [Xp, Xq]; rfl)) ?_; (with_reducible refine (slices_BinarySearch_int_int.calls k _ _ l0 a1 t102 false _ ?side1 ?side2 A5.out).mono ?_); (case side1 => repeat (first | exact HR0.out | (with_reducible refine Xr ?_ _) | (with_reducible refine Xs ?_ _) | (with_reducible refine Xt ?_))); (case side2 => exact HC0.out); rintro e w' ⟨rfl, ⟨nd, rfl⟩⟩; refine ⟨_, rfl, ?_⟩) | ((with_reducible refine gate_callee (f := 72) rfl ?_); refine goesL_ (some 24) rfl rfl Try.func72 (by kernel_rfl) rfl #[.slice A0 l0.length c0] rfl (by (try simp only [Xm, Xn, Xo]); first | done | rfl | (simp only [Xp, Xq]; rfl)) ?_; (with_reducible refine (slices_Clone_int_int.calls _ _ l0 t104 _ ?side1 ?side2 A7.out).mono ?_); (case side1 => repeat (first | exact HR0.out | (with_reducible refine Xr ?_ _) | (with_reducible refine Xs ?_ _) | (with_reducible refine Xt ?_))); (case side2 => exact HC0.out); rintro e w14 ⟨v105, rfl, ho0, hb⟩; refine ⟨_, rfl, ?_⟩; have n0_ := XB (Kd.R_lower ho0 (XC (by repeat (first | (with_reducible first | exact HB.out | apply Xc | apply Xa | apply Xb) | exact HB.out)))); have n1_ := XB (Xz (by repeat (first | (with_reducible first | exact HB.out | apply Xc | apply Xa | apply Xb) | exact HB.out)) hb); clear HB; have HO106 := n0_; have HB := n1_; clear n0_ n1_; (try clear hb); (try clear hb2); (try clear hk); (try clear hi); (try clear ho0)) | ((with_reducible refine gate_callee (f := 80) rfl ?_); refine goesL_ (some 28) rfl rfl Try.func80 (by kernel_rfl) rfl #[v105, .int .i64 t102, .slice (some ⟨w14.heap.size, 0, none⟩) 1 1] rfl (by (try simp only [Xm, Xn, Xo]); first | done | rfl) ?_; refine (charge_ins' w _ _ v105 t104 t102 a1 _ 1 3 (by (with_reducible repeat (first | apply Xv | apply Xw | apply Xx)); exact HO106.out) (by exact (by repeat (first | (with_reducible first | exact HB.out | apply Xc | apply Xa | apply Xb) | exact HB.out))) LMc8.out.1 LMc8.out.2.1 LMc8.out.2.2 (blk_new _ _) (Kd.R_ne_new HO106.out 0)).mono ?_; rintro e w15 ⟨v108, rfl, ho, hb⟩; refine ⟨_, rfl, ?_⟩; rw [← Ny107.out] at ho; have n0_ := XB (hb); have n1_ := XB (ho); clear HB; clear HO106; have HB := n0_; have HO109 := n1_; clear n0_ n1_; clear ho hb; obtain ⟨Ao16, co16, eo16⟩ := Kd.R_slice HO109.out; subst eo16) | ((with_reducible refine gate_callee (f := 46) rfl ?_); refine goesL_ (some 30) rfl rfl Try.func46 (by kernel_rfl) rfl #[.slice Ao16 y107.length co16] rfl (by (try simp only [Xm, Xn, Xo]); first | done | rfl | (simp only [Xp, Xq]; rfl)) ?_; (with_reducible refine (charge_Validate.calls k _ _ y107 t110 _ ?side1 ?side2 A9.out).mono ?_); (case side1 => repeat (first | exact (XD HO109.out).2.2 | (with_reducible refine Xr ?_ _) | (with_reducible refine Xs ?_ _) | (with_reducible refine Xt ?_))); (case side2 => exact (XD HO109.out).2.1); rintro e w' ⟨rfl, ⟨nd, rfl⟩⟩; refine ⟨_, rfl, ?_⟩))
     go_ret2
     exact ⟨_, by first | rfl | (simp [errW_none, errW_some] <;> rfl) | (simp [*, errW_none, errW_some] <;> rfl), by first | exact Kd.R_nil _ _ _ _ _ | exact Kd.N_nil _ _ _ _ _ | exact Kd.V_nil _ _ _ _ _ | exact Kd.Q_nil _ _ _ _ _ | exact Kd.S_nil _ _ _ _ _, by repeat (first | (with_reducible first | exact HB.out | apply Xc | apply Xa | apply Xb) | exact HB.out)⟩
   ·rw [if_neg c8] at H; exact absurd H (by simp)
 ·rw [if_neg c4] at H; have c4b0 : (t101 == 0) = false := beq_eq_false_iff_ne.mpr c4; have c4b1 : (t101 != 0) = true := bne_iff_ne.mpr c4; simp only [Option.some.injEq, Prod.mk.injEq] at H; obtain ⟨rfl, rfl⟩ := H; go_enter Try.func54, Try.ntmps54
  go_wp2_with (first | ((with_reducible refine gate_callee (f := 46) rfl ?_); refine goesL_ (some 12) rfl rfl Try.func46 (by kernel_rfl) rfl #[.slice A0 l0.length c0] rfl (by (try simp only [Xm, Xn, Xo]); first | done | rfl | (simp only [Xp, Xq]; rfl)) ?_; (with_reducible refine (charge_Validate.calls k _ _ l0 t101 _ ?side1 ?side2 A3.out).mono ?_); (case side1 => repeat (first | exact HR0.out | (with_reducible refine Xr ?_ _) | (with_reducible refine Xs ?_ _) | (with_reducible refine Xt ?_))); (case side2 => exact HC0.out); rintro e w' ⟨rfl, ⟨nd, rfl⟩⟩; refine ⟨_, rfl, ?_⟩))
  go_ret2
  exact ⟨_, by first | rfl | (simp [errW_none, errW_some] <;> rfl) | (simp [*, errW_none, errW_some] <;> rfl), by first | exact Kd.R_nil _ _ _ _ _ | exact Kd.N_nil _ _ _ _ _ | exact Kd.V_nil _ _ _ _ _ | exact Kd.Q_nil _ _ _ _ _ | exact Kd.S_nil _ _ _ _ _, by repeat (first | (with_reducible first | exact HB.out | apply Xc | apply Xa | apply Xb) | exact HB.out)⟩

end Go.Proofs.Ytgndhijhcliegaa.P
