-- laid by a program of this session (wip/tools): plain functions of the Go code and their contracts
-- thinned4
-- thinned
import Derived.Test.YtcbepmdnhjojdaaPx0
namespace Go.Proofs.Ytcbepmdnhjojdaa.P
open Go.RowKit Go.Proofs.YtcbepmdnhjojdaaW.PrintWords Go.Proofs.YtcbepmdnhjojdaaW.PrintLast Go.Proofs.YtcbepmdnhjojdaaW.PrintMore
attribute [local go_sem] max2_int min2_int max_two min_two max_three min_three max_four min_four   -- for this text's walks alone
set_option linter.unusedVariables false
set_option linter.unusedSimpArgs false

/-! ### diaphonelaw06_large: function 22 -/
def diaphonelaw06_large.f (l0 : List Int) : Option (Bool) := some (decide ((l0.length : Int) > 100))
set_option maxHeartbeats 8000000 in
set_option maxRecDepth 100000 in
theorem diaphonelaw06_large.calls (A0 : Option Addr) (c0 : Nat) (l0 : List Int) (r : Bool) (w : World) (hr0 : Kd.C (Kd.int .i64) w A0 l0.length l0) (hc0 : l0.length ≤ c0) (h : diaphonelaw06_large.f l0 = some r) :
  Calls Try.prog 22 #[.slice A0 l0.length c0] w fun e w' => e = .returned (.bool r) ∧ Drawn0 w w' := by
 have HR0 := XB hr0; have HC0 := XB hc0; clear hr0 hc0; have H : (some (decide ((l0.length : Int) > 100))) = some r := h; clear h; obtain rfl := Option.some.inj H; go_enter Try.func22, Try.ntmps22
 go_wp2
 go_ret
 exact ⟨by first | rfl | (simp; done) | (simp [*]; done), by repeat (first | exact Drawn0.refl _ | apply Drawn0.step)⟩

/-! ### log_within: function 66 -/
def log_within.f (a0 : Int) (a1 : Int) (a2 : Int) : Option (Bool) := if a1 ≤ a0 then (some (decide (a0 ≤ a2))) else (some false)
set_option maxHeartbeats 8000000 in
set_option maxRecDepth 100000 in
theorem log_within.calls (a0 : Int) (a1 : Int) (a2 : Int) (r : Bool) (w : World) (h : log_within.f a0 a1 a2 = some r) :
  Calls Try.prog 66 #[.int .i64 a0, .int .i64 a1, .int .i64 a2] w fun e w' => e = .returned (.bool r) ∧ Drawn0 w w' := by
 have H : (if a1 ≤ a0 then (some (decide (a0 ≤ a2))) else (some false)) = some r := h; clear h; by_cases c4 : a1 ≤ a0
 ·rw [if_pos c4] at H; have c4b0 := decide_eq_true c4; clear c4; obtain rfl := Option.some.inj H; go_enter Try.func66, Try.ntmps66
  go_wp2
  go_ret
  exact ⟨by first | rfl | (simp; done) | (simp [*]; done), by repeat (first | exact Drawn0.refl _ | apply Drawn0.step)⟩
 ·rw [if_neg c4] at H; have c4b0 := decide_eq_false c4; clear c4; obtain rfl := Option.some.inj H; go_enter Try.func66, Try.ntmps66
  go_wp2
  go_ret
  exact ⟨by first | rfl | (simp; done) | (simp [*]; done), by repeat (first | exact Drawn0.refl _ | apply Drawn0.step)⟩

/-! ### log_Validate_1: function 70 -/
def log_Validate_1.f (a0 : Int) : Option (Bool) := (log_within.f a0 0 5).bind fun t101 => (some (!t101))
set_option maxHeartbeats 8000000 in
set_option maxRecDepth 100000 in
theorem log_Validate_1.calls (a0 : Int) (r : Bool) (w : World) (h : log_Validate_1.f a0 = some r) :
  Calls Try.prog 70 #[.int .i64 a0] w fun e w' => e = .returned (.bool r) ∧ Drawn0 w w' := by
 have H : ((log_within.f a0 0 5).bind fun t101 => (some (!t101))) = some r := h; clear h; obtain ⟨t101, A2, H⟩ := YJ H; obtain rfl := Option.some.inj H; go_enter Try.func70, Try.ntmps70
 go_wp2_with (first | ((with_reducible refine gate_callee (f := 66) rfl ?_); refine YL (some 4) rfl rfl Try.func66 rfl #[.int .i64 a0, .int .i64 0, .int .i64 5] rfl ?_; (with_reducible refine (log_within.calls a0 0 5 t101 _ A2.out).mono ?_); rintro e w' ⟨rfl, ⟨nd, rfl⟩⟩; refine ⟨_, rfl, ?_⟩))
 go_ret
 exact ⟨by first | rfl | (simp; done) | (simp [*]; done), by repeat (first | exact Drawn0.refl _ | apply Drawn0.step)⟩

/-! ### slices_IndexFunc_int_int_log_Validate_1: function 87 -/
def slices_IndexFunc_int_int_log_Validate_1.l0 : Nat → List Int → Int → Int → Option (Int)
 | 0, _, _, _ => none
 | k + 1, x0, x7, x8 => if x8 < x7 then (if 0 ≤ x8 then (if x8 < (x0.length : Int) then ((log_Validate_1.f (rd x0 x8)).bind fun t102 => (if t102 = true then (some x8) else (slices_IndexFunc_int_int_log_Validate_1.l0 k x0 x7 (wrap64 (x8 + 1))))) else (none)) else (none)) else (some (-1))
def slices_IndexFunc_int_int_log_Validate_1.f (k : Nat) (l0 : List Int)  : Option (Int) := slices_IndexFunc_int_int_log_Validate_1.l0 k l0 (l0.length : Int) 0
theorem slices_IndexFunc_int_int_log_Validate_1.mono_l : ∀ k, (∀ y0 y1 y2, LeO (slices_IndexFunc_int_int_log_Validate_1.l0 k y0 y1 y2) (slices_IndexFunc_int_int_log_Validate_1.l0 (k + 1) y0 y1 y2))
 | 0 => fun _ _ _ r h => by simp [slices_IndexFunc_int_int_log_Validate_1.l0] at h
 | k + 1 => by
  have ih0 := slices_IndexFunc_int_int_log_Validate_1.mono_l k
  ·intro y0 y1 y2; unfold slices_IndexFunc_int_int_log_Validate_1.l0; repeat' first
   | (with_reducible exact ih0 _ _ _)
   | (with_reducible exact LeO.refl _)
   | (with_reducible exact LeO.none _)
   | (with_reducible refine LeO.ite ?_ ?_)
   | (with_reducible refine LeO.bind ?_ (fun _ => ?_))
   | exact ih0 _ _ _
   | exact LeO.none _
   | refine LeO.ite ?_ ?_
   | refine LeO.bind ?_ (fun _ => ?_)
theorem slices_IndexFunc_int_int_log_Validate_1.mono : ∀ a0 k, LeO (slices_IndexFunc_int_int_log_Validate_1.f k a0) (slices_IndexFunc_int_int_log_Validate_1.f (k + 1) a0) := by
 intro a0 k; have ih0 := slices_IndexFunc_int_int_log_Validate_1.mono_l k; unfold slices_IndexFunc_int_int_log_Validate_1.f; repeat' first
   | (with_reducible exact ih0 _ _ _)
   | (with_reducible exact LeO.refl _)
   | (with_reducible exact LeO.none _)
   | (with_reducible refine LeO.ite ?_ ?_)
   | (with_reducible refine LeO.bind ?_ (fun _ => ?_))
   | exact ih0 _ _ _
   | exact LeO.none _
   | refine LeO.ite ?_ ?_
   | refine LeO.bind ?_ (fun _ => ?_)
set_option maxHeartbeats 8000000 in
set_option maxRecDepth 100000 in
theorem slices_IndexFunc_int_int_log_Validate_1.calls (k : Nat) (A0 : Option Addr) (c0 : Nat) (l0 : List Int)  (r : Int) (w : World) (hr0 : Kd.C (Kd.int .i64) w A0 l0.length l0) (hc0 : l0.length ≤ c0) (h : slices_IndexFunc_int_int_log_Validate_1.f k l0 = some r) :
  Calls Try.prog 87 #[.slice A0 l0.length c0, .func (.func 70) #[] #[]] w fun e w' => e = .returned (.int .i64 r) ∧ Drawn0 w w' := by
 have HR0 := XB hr0; have HC0 := XB hc0; clear hr0 hc0; have H : (slices_IndexFunc_int_int_log_Validate_1.l0 k l0 (l0.length : Int) 0) = some r := h; clear h; have H' := XB H; clear H; go_enter Try.func87, Try.ntmps87
 go_wp2
 go_loopg [8] k (fun kq v8 w' => ∃ (x8_1 : Int), v8 = .int .i64 x8_1 ∧ Aside0 (slices_IndexFunc_int_int_log_Validate_1.l0 kq l0 (l0.length : Int) x8_1 = some r) ∧ Aside0 (kq ≤ k) ∧ Drawn0 w w')
 case atStart => exact ⟨(0), YG, H', ⟨Nat.le_refl _⟩, by repeat (first | exact Drawn0.refl _ | apply Drawn0.step)⟩
 case round =>
  clear H'; try clear p2
  obtain ⟨x8_1, rfl, HA, HK1, ⟨m1, rfl⟩⟩ := hrel
  cases gk with
  | zero => exact absurd HA.out (by simp [slices_IndexFunc_int_int_log_Validate_1.l0])
  | succ k1 =>
   have H := HA.out; clear HA; simp only [slices_IndexFunc_int_int_log_Validate_1.l0] at H; by_cases c3 : x8_1 < (l0.length : Int)
   ·rw [if_pos c3] at H; have c3b0 := decide_eq_true c3; clear c3; by_cases c4 : 0 ≤ x8_1
    ·rw [if_pos c4] at H; have c4b0 := decide_eq_true c4; clear c4; by_cases c5 : x8_1 < (l0.length : Int)
     ·rw [if_pos c5] at H; have c5b0 := decide_eq_true c5; clear c5; obtain ⟨t102, A6, H⟩ := YJ H; by_cases c7 : t102 = true
      ·subst c7; have H1 : (some x8_1) = some r := by rw [if_pos rfl] at H; exact H
       clear H; have H := H1; clear H1; obtain rfl := Option.some.inj H; have p101 : 0 ≤ (x8_1 : Int) := YD; have q101 : x8_1 < (l0.length : Int) := YD; obtain ⟨ad101, e101, hx101_0⟩ := Kd.at_int HR0.out x8_1 p101 q101
       cases e101
       replace p101 := eq_true p101; replace q101 := eq_true q101; go_wp2_with (first | ((with_reducible refine Go.Proofs.YtcbepmdnhjojdaaW.PrintHand.gate_calleeT (t := 11) rfl ?_); refine Go.Proofs.YtcbepmdnhjojdaaW.PrintHand.goesT_ (t := 11) (some 16) rfl rfl Try.func70 (by kernel_rfl) rfl #[.int .i64 (rd l0 x8_1)] rfl rfl (by (try simp only [Xm, Xn, Xo]); first | done | rfl | (simp only [Xp, Xq]; rfl)) ?_; (with_reducible refine (log_Validate_1.calls (rd l0 x8_1) true _ A6.out).mono ?_); rintro e w' ⟨rfl, ⟨nd, rfl⟩⟩; refine ⟨_, rfl, ?_⟩))
       go_ret
       exact ⟨by first | rfl | (simp; done) | (simp [*]; done), by repeat (first | exact Drawn0.refl _ | apply Drawn0.step)⟩
      ·replace c7 := Bool.eq_false_iff.mpr c7; subst c7; have H1 : (slices_IndexFunc_int_int_log_Validate_1.l0 k1 l0 (l0.length : Int) (wrap64 (x8_1 + 1))) = some r := by rw [if_neg (show ¬ (false = true) by decide)] at H; exact H
       clear H; have H := H1; clear H1; have H' := XB H; clear H; have p101 : 0 ≤ (x8_1 : Int) := YD; have q101 : x8_1 < (l0.length : Int) := YD; obtain ⟨ad101, e101, hx101_0⟩ := Kd.at_int HR0.out x8_1 p101 q101
       cases e101
       replace p101 := eq_true p101; replace q101 := eq_true q101; go_wp2_with (first | ((with_reducible refine Go.Proofs.YtcbepmdnhjojdaaW.PrintHand.gate_calleeT (t := 11) rfl ?_); refine Go.Proofs.YtcbepmdnhjojdaaW.PrintHand.goesT_ (t := 11) (some 16) rfl rfl Try.func70 (by kernel_rfl) rfl #[.int .i64 (rd l0 x8_1)] rfl rfl (by (try simp only [Xm, Xn, Xo]); first | done | rfl | (simp only [Xp, Xq]; rfl)) ?_; (with_reducible refine (log_Validate_1.calls (rd l0 x8_1) false _ A6.out).mono ?_); rintro e w' ⟨rfl, ⟨nd, rfl⟩⟩; refine ⟨_, rfl, ?_⟩))
       go_roundg k1
       case measure => have := HK1.out; omega
       case rel => exact ⟨(wrap64 (x8_1 + 1)), YG, H', ⟨by have := HK1.out; omega⟩, by repeat (first | exact Drawn0.refl _ | apply Drawn0.step)⟩
     ·rw [if_neg c5] at H; exact absurd H (by simp)
    ·rw [if_neg c4] at H; exact absurd H (by simp)
   ·rw [if_neg c3] at H; have c3b0 := decide_eq_false c3; clear c3; obtain rfl := Option.some.inj H; go_wp2
    go_ret
    exact ⟨by first | rfl | (simp; done) | (simp [*]; done), by repeat (first | exact Drawn0.refl _ | apply Drawn0.step)⟩

/-! ### slices_ContainsFunc_int_int_log_Validate_1: function 69 -/
def slices_ContainsFunc_int_int_log_Validate_1.f (k : Nat) (l0 : List Int)  : Option (Bool) := (slices_IndexFunc_int_int_log_Validate_1.f k l0).bind fun t101 => (some (decide (t101 ≥ 0)))
theorem slices_ContainsFunc_int_int_log_Validate_1.mono : ∀ a0 k, LeO (slices_ContainsFunc_int_int_log_Validate_1.f k a0) (slices_ContainsFunc_int_int_log_Validate_1.f (k + 1) a0) := by
 intro a0 k; unfold slices_ContainsFunc_int_int_log_Validate_1.f; repeat' first
   | (with_reducible exact slices_IndexFunc_int_int_log_Validate_1.mono _ _)
   | (with_reducible exact LeO.refl _)
   | (with_reducible exact LeO.none _)
   | (with_reducible refine LeO.ite ?_ ?_)
   | (with_reducible refine LeO.bind ?_ (fun _ => ?_))
   | exact slices_IndexFunc_int_int_log_Validate_1.mono _ _
   | exact LeO.none _
   | refine LeO.ite ?_ ?_
   | refine LeO.bind ?_ (fun _ => ?_)
set_option maxHeartbeats 8000000 in
set_option maxRecDepth 100000 in
theorem slices_ContainsFunc_int_int_log_Validate_1.calls (k : Nat) (A0 : Option Addr) (c0 : Nat) (l0 : List Int)  (r : Bool) (w : World) (hr0 : Kd.C (Kd.int .i64) w A0 l0.length l0) (hc0 : l0.length ≤ c0) (h : slices_ContainsFunc_int_int_log_Validate_1.f k l0 = some r) :
  Calls Try.prog 69 #[.slice A0 l0.length c0, .func (.func 70) #[] #[]] w fun e w' => e = .returned (.bool r) ∧ Drawn0 w w' := by
 have HR0 := XB hr0; have HC0 := XB hc0; clear hr0 hc0; have H : ((slices_IndexFunc_int_int_log_Validate_1.f k l0).bind fun t101 => (some (decide (t101 ≥ 0)))) = some r := h; clear h; obtain ⟨t101, A3, H⟩ := YJ H; obtain rfl := Option.some.inj H; go_enter Try.func69, Try.ntmps69
 go_wp2_with (first | ((with_reducible refine gate_callee (f := 87) rfl ?_); refine YL (some 7) rfl rfl Try.func87 rfl #[.slice A0 l0.length c0, .func (.func 70) #[] #[]] rfl ?_; (with_reducible refine (slices_IndexFunc_int_int_log_Validate_1.calls k _ _ l0  t101 _ ?side1 ?side2 A3.out).mono ?_); (case side1 => repeat (first | exact HR0.out | (with_reducible refine Xr ?_ _) | (with_reducible refine Xs ?_ _) | (with_reducible refine Xt ?_))); (case side2 => exact HC0.out); rintro e w' ⟨rfl, ⟨nd, rfl⟩⟩; refine ⟨_, rfl, ?_⟩))
 go_ret
 exact ⟨by first | rfl | (simp; done) | (simp [*]; done), by repeat (first | exact Drawn0.refl _ | apply Drawn0.step)⟩

/-! ### log_Validate: function 31 -/
def log_Validate.f (k : Nat) (l0 : List Int) : Option (Int) := if (l0.length : Int) > 10 then (some 3) else ((slices_ContainsFunc_int_int_log_Validate_1.f k l0).bind fun t101 => (if t101 = true then (some 1) else (some 0)))
theorem log_Validate.mono : ∀ a0 k, LeO (log_Validate.f k a0) (log_Validate.f (k + 1) a0) := by
 intro a0 k; unfold log_Validate.f; repeat' first
   | (with_reducible exact slices_ContainsFunc_int_int_log_Validate_1.mono _ _)
   | (with_reducible exact LeO.refl _)
   | (with_reducible exact LeO.none _)
   | (with_reducible refine LeO.ite ?_ ?_)
   | (with_reducible refine LeO.bind ?_ (fun _ => ?_))
   | exact slices_ContainsFunc_int_int_log_Validate_1.mono _ _
   | exact LeO.none _
   | refine LeO.ite ?_ ?_
   | refine LeO.bind ?_ (fun _ => ?_)
set_option maxHeartbeats 8000000 in
set_option maxRecDepth 100000 in
theorem log_Validate.calls (k : Nat) (A0 : Option Addr) (c0 : Nat) (l0 : List Int) (r : Int) (w : World) (hr0 : Kd.C (Kd.int .i64) w A0 l0.length l0) (hc0 : l0.length ≤ c0) (h : log_Validate.f k l0 = some r) :
  Calls Try.prog 31 #[.slice A0 l0.length c0] w fun e w' => e = .returned (.int .i64 r) ∧ Drawn0 w w' := by
 have HR0 := XB hr0; have HC0 := XB hc0; clear hr0 hc0; have H : (if (l0.length : Int) > 10 then (some 3) else ((slices_ContainsFunc_int_int_log_Validate_1.f k l0).bind fun t101 => (if t101 = true then (some 1) else (some 0)))) = some r := h; clear h; by_cases c2 : (l0.length : Int) > 10
 ·rw [if_pos c2] at H; have c2b0 : decide (10 < (l0.length : Int)) = true := decide_eq_true c2; have c2b1 : decide (10 < l0.length) = true := decide_eq_true (by omega); clear c2; obtain rfl := Option.some.inj H; go_enter Try.func31, Try.ntmps31
  go_wp2
  go_ret
  exact ⟨by first | rfl | (simp; done) | (simp [*]; done), by repeat (first | exact Drawn0.refl _ | apply Drawn0.step)⟩
 ·rw [if_neg c2] at H; have c2b0 : decide (10 < (l0.length : Int)) = false := decide_eq_false c2; have c2b1 : decide (10 < l0.length) = false := decide_eq_false (by omega); clear c2; obtain ⟨t101, A3, H⟩ := YJ H; by_cases c4 : t101 = true
  ·subst c4; have H1 : (some 1) = some r := by rw [if_pos rfl] at H; exact H
   clear H; have H := H1; clear H1; obtain rfl := Option.some.inj H; go_enter Try.func31, Try.ntmps31
   go_wp2_with (first | ((with_reducible refine gate_callee (f := 69) rfl ?_); refine YL (some 7) rfl rfl Try.func69 rfl #[.slice A0 l0.length c0, .func (.func 70) #[] #[]] rfl ?_; (with_reducible refine (slices_ContainsFunc_int_int_log_Validate_1.calls k _ _ l0  true _ ?side1 ?side2 A3.out).mono ?_); (case side1 => repeat (first | exact HR0.out | (with_reducible refine Xr ?_ _) | (with_reducible refine Xs ?_ _) | (with_reducible refine Xt ?_))); (case side2 => exact HC0.out); rintro e w' ⟨rfl, ⟨nd, rfl⟩⟩; refine ⟨_, rfl, ?_⟩))
   go_ret
   exact ⟨by first | rfl | (simp; done) | (simp [*]; done), by repeat (first | exact Drawn0.refl _ | apply Drawn0.step)⟩
  ·replace c4 := Bool.eq_false_iff.mpr c4; subst c4; have H1 : (some 0) = some r := by rw [if_neg (show ¬ (false = true) by decide)] at H; exact H
   clear H; have H := H1; clear H1; obtain rfl := Option.some.inj H; go_enter Try.func31, Try.ntmps31
   go_wp2_with (first | ((with_reducible refine gate_callee (f := 69) rfl ?_); refine YL (some 7) rfl rfl Try.func69 rfl #[.slice A0 l0.length c0, .func (.func 70) #[] #[]] rfl ?_; (with_reducible refine (slices_ContainsFunc_int_int_log_Validate_1.calls k _ _ l0  false _ ?side1 ?side2 A3.out).mono ?_); (case side1 => repeat (first | exact HR0.out | (with_reducible refine Xr ?_ _) | (with_reducible refine Xs ?_ _) | (with_reducible refine Xt ?_))); (case side2 => exact HC0.out); rintro e w' ⟨rfl, ⟨nd, rfl⟩⟩; refine ⟨_, rfl, ?_⟩))
   go_ret
   exact ⟨by first | rfl | (simp; done) | (simp [*]; done), by repeat (first | exact Drawn0.refl _ | apply Drawn0.step)⟩

/-! ### log_ValidateCosts: function 33 -/
def log_ValidateCosts.f (a0_0 : Int) (a0_1 : Int) (a0_2 : Int) : Option (Int) := (log_within.f a0_0 1 9).bind fun t102 => (if t102 = true then ((log_within.f a0_1 1 9).bind fun t103 => (if t103 = true then ((log_within.f a0_2 1 9).bind fun t104 => (if t104 = true then (some 0) else (some 1))) else (some 1))) else (some 1))
set_option maxHeartbeats 8000000 in
set_option maxRecDepth 100000 in
theorem log_ValidateCosts.calls (a0_0 : Int) (a0_1 : Int) (a0_2 : Int) (r : Int) (w : World) (h : log_ValidateCosts.f a0_0 a0_1 a0_2 = some r) :
  Calls Try.prog 33 #[.agg #[.int .i64 a0_0, .int .i64 a0_1, .int .i64 a0_2]] w fun e w' => e = .returned (.int .i64 r) ∧ Below w.heap.size w w' := by
 have hu24 := Try.underlying24; have HB := XB (Below.refl w.heap.size w); have H : ((log_within.f a0_0 1 9).bind fun t102 => (if t102 = true then ((log_within.f a0_1 1 9).bind fun t103 => (if t103 = true then ((log_within.f a0_2 1 9).bind fun t104 => (if t104 = true then (some 0) else (some 1))) else (some 1))) else (some 1))) = some r := h; clear h; obtain ⟨t102, A2, H⟩ := YJ H; by_cases c3 : t102 = true
 ·subst c3; have H1 : ((log_within.f a0_1 1 9).bind fun t103 => (if t103 = true then ((log_within.f a0_2 1 9).bind fun t104 => (if t104 = true then (some 0) else (some 1))) else (some 1))) = some r := by rw [if_pos rfl] at H; exact H
  clear H; have H := H1; clear H1; obtain ⟨t103, A4, H⟩ := YJ H; by_cases c5 : t103 = true
  ·subst c5; have H1 : ((log_within.f a0_2 1 9).bind fun t104 => (if t104 = true then (some 0) else (some 1))) = some r := by rw [if_pos rfl] at H; exact H
   clear H; have H := H1; clear H1; obtain ⟨t104, A6, H⟩ := YJ H; by_cases c7 : t104 = true
   ·subst c7; have H1 : (some 0) = some r := by rw [if_pos rfl] at H; exact H
    clear H; have H := H1; clear H1; obtain rfl := Option.some.inj H; go_enter Try.func33, Try.ntmps33
    go_wp2_with (first | ((with_reducible refine gate_dst (N := 1) rfl ?_); refine box_event ?hg (N := 1) ?hd (cs := #[.int .i64 a0_0, .int .i64 a0_1, .int .i64 a0_2]) (t := 24) ?hr ?_; (case hd => rfl); (case hg => rfl); (case hr => first | (go_simp; done) | (go_simp; rfl)); intro gb101 hg w8 hbox hb; have n0_ := XB (Xz (by repeat (first | (with_reducible first | exact HB.out | apply Xc | apply Xa | apply Xb) | exact HB.out)) hb); have n1_ := XB (hbox); have n2_ := XB ((by rw [hg]; exact (XC (by repeat (first | (with_reducible first | exact HB.out | apply Xc | apply Xa | apply Xb) | exact HB.out))) : w.heap.size ≤ gb101)); have n3_ := XB ((by rw [hg]; exact (XC (by repeat (first | (with_reducible first | exact HB.out | apply Xc | apply Xa | apply Xb) | exact HB.out))) : w.heap.size ≤ gb101)); clear HB; have HB := n0_; have J101 := n1_; have GW101 := n2_; have E101 := n3_; clear n0_ n1_ n2_ n3_; clear hb hbox hg; obtain ⟨hcz9_0, hcz9_1, hcz9_2, hfz9_0, hfz9_1, hfz9_2⟩ := YK3 J101) | ((with_reducible refine gate_callee (f := 66) rfl ?_); refine YL (some 5) rfl rfl Try.func66 rfl #[.int .i64 a0_0, .int .i64 1, .int .i64 9] rfl ?_; (with_reducible refine (log_within.calls a0_0 1 9 true _ A2.out).mono ?_); rintro e w' ⟨rfl, ⟨nd, rfl⟩⟩; refine ⟨_, rfl, ?_⟩) | (go_at_call 66; (with_reducible refine (log_within.calls a0_1 1 9 true _ A4.out).mono ?_); rintro e w' ⟨rfl, ⟨nd, rfl⟩⟩) | (go_at_call 66; (with_reducible refine (log_within.calls a0_2 1 9 true _ A6.out).mono ?_); rintro e w' ⟨rfl, ⟨nd, rfl⟩⟩))
    go_ret
    exact ⟨YF, XL HB⟩
   ·replace c7 := Bool.eq_false_iff.mpr c7; subst c7; have H1 : (some 1) = some r := by rw [if_neg (show ¬ (false = true) by decide)] at H; exact H
    clear H; have H := H1; clear H1; obtain rfl := Option.some.inj H; go_enter Try.func33, Try.ntmps33
    go_wp2_with (first | ((with_reducible refine gate_dst (N := 1) rfl ?_); refine box_event ?hg (N := 1) ?hd (cs := #[.int .i64 a0_0, .int .i64 a0_1, .int .i64 a0_2]) (t := 24) ?hr ?_; (case hd => rfl); (case hg => rfl); (case hr => first | (go_simp; done) | (go_simp; rfl)); intro gb101 hg w10 hbox hb; have n0_ := XB (Xz (by repeat (first | (with_reducible first | exact HB.out | apply Xc | apply Xa | apply Xb) | exact HB.out)) hb); have n1_ := XB (hbox); have n2_ := XB ((by rw [hg]; exact (XC (by repeat (first | (with_reducible first | exact HB.out | apply Xc | apply Xa | apply Xb) | exact HB.out))) : w.heap.size ≤ gb101)); have n3_ := XB ((by rw [hg]; exact (XC (by repeat (first | (with_reducible first | exact HB.out | apply Xc | apply Xa | apply Xb) | exact HB.out))) : w.heap.size ≤ gb101)); clear HB; have HB := n0_; have J101 := n1_; have GW101 := n2_; have E101 := n3_; clear n0_ n1_ n2_ n3_; clear hb hbox hg; obtain ⟨hcz11_0, hcz11_1, hcz11_2, hfz11_0, hfz11_1, hfz11_2⟩ := YK3 J101) | ((with_reducible refine gate_callee (f := 66) rfl ?_); refine YL (some 5) rfl rfl Try.func66 rfl #[.int .i64 a0_0, .int .i64 1, .int .i64 9] rfl ?_; (with_reducible refine (log_within.calls a0_0 1 9 true _ A2.out).mono ?_); rintro e w' ⟨rfl, ⟨nd, rfl⟩⟩; refine ⟨_, rfl, ?_⟩) | (go_at_call 66; (with_reducible refine (log_within.calls a0_1 1 9 true _ A4.out).mono ?_); rintro e w' ⟨rfl, ⟨nd, rfl⟩⟩) | (go_at_call 66; (with_reducible refine (log_within.calls a0_2 1 9 false _ A6.out).mono ?_); rintro e w' ⟨rfl, ⟨nd, rfl⟩⟩))
    go_ret
    exact ⟨YF, XL HB⟩
  ·replace c5 := Bool.eq_false_iff.mpr c5; subst c5; have H1 : (some 1) = some r := by rw [if_neg (show ¬ (false = true) by decide)] at H; exact H
   clear H; have H := H1; clear H1; obtain rfl := Option.some.inj H; go_enter Try.func33, Try.ntmps33
   go_wp2_with (first | ((with_reducible refine gate_dst (N := 1) rfl ?_); refine box_event ?hg (N := 1) ?hd (cs := #[.int .i64 a0_0, .int .i64 a0_1, .int .i64 a0_2]) (t := 24) ?hr ?_; (case hd => rfl); (case hg => rfl); (case hr => first | (go_simp; done) | (go_simp; rfl)); intro gb101 hg w12 hbox hb; have n0_ := XB (Xz (by repeat (first | (with_reducible first | exact HB.out | apply Xc | apply Xa | apply Xb) | exact HB.out)) hb); have n1_ := XB (hbox); have n2_ := XB ((by rw [hg]; exact (XC (by repeat (first | (with_reducible first | exact HB.out | apply Xc | apply Xa | apply Xb) | exact HB.out))) : w.heap.size ≤ gb101)); have n3_ := XB ((by rw [hg]; exact (XC (by repeat (first | (with_reducible first | exact HB.out | apply Xc | apply Xa | apply Xb) | exact HB.out))) : w.heap.size ≤ gb101)); clear HB; have HB := n0_; have J101 := n1_; have GW101 := n2_; have E101 := n3_; clear n0_ n1_ n2_ n3_; clear hb hbox hg; obtain ⟨hcz13_0, hcz13_1, hcz13_2, hfz13_0, hfz13_1, hfz13_2⟩ := YK3 J101) | ((with_reducible refine gate_callee (f := 66) rfl ?_); refine YL (some 5) rfl rfl Try.func66 rfl #[.int .i64 a0_0, .int .i64 1, .int .i64 9] rfl ?_; (with_reducible refine (log_within.calls a0_0 1 9 true _ A2.out).mono ?_); rintro e w' ⟨rfl, ⟨nd, rfl⟩⟩; refine ⟨_, rfl, ?_⟩) | (go_at_call 66; (with_reducible refine (log_within.calls a0_1 1 9 false _ A4.out).mono ?_); rintro e w' ⟨rfl, ⟨nd, rfl⟩⟩))
   go_ret
   exact ⟨YF, XL HB⟩
 ·replace c3 := Bool.eq_false_iff.mpr c3; subst c3; have H1 : (some 1) = some r := by rw [if_neg (show ¬ (false = true) by decide)] at H; exact H
  clear H; have H := H1; clear H1; obtain rfl := Option.some.inj H; go_enter Try.func33, Try.ntmps33
  go_wp2_with (first | ((with_reducible refine gate_dst (N := 1) rfl ?_); refine box_event ?hg (N := 1) ?hd (cs := #[.int .i64 a0_0, .int .i64 a0_1, .int .i64 a0_2]) (t := 24) ?hr ?_; (case hd => rfl); (case hg => rfl); (case hr => first | (go_simp; done) | (go_simp; rfl)); intro gb101 hg w14 hbox hb; have n0_ := XB (Xz (by repeat (first | (with_reducible first | exact HB.out | apply Xc | apply Xa | apply Xb) | exact HB.out)) hb); have n1_ := XB (hbox); have n2_ := XB ((by rw [hg]; exact (XC (by repeat (first | (with_reducible first | exact HB.out | apply Xc | apply Xa | apply Xb) | exact HB.out))) : w.heap.size ≤ gb101)); have n3_ := XB ((by rw [hg]; exact (XC (by repeat (first | (with_reducible first | exact HB.out | apply Xc | apply Xa | apply Xb) | exact HB.out))) : w.heap.size ≤ gb101)); clear HB; have HB := n0_; have J101 := n1_; have GW101 := n2_; have E101 := n3_; clear n0_ n1_ n2_ n3_; clear hb hbox hg; obtain ⟨hcz15_0, hcz15_1, hcz15_2, hfz15_0, hfz15_1, hfz15_2⟩ := YK3 J101) | ((with_reducible refine gate_callee (f := 66) rfl ?_); refine YL (some 5) rfl rfl Try.func66 rfl #[.int .i64 a0_0, .int .i64 1, .int .i64 9] rfl ?_; (with_reducible refine (log_within.calls a0_0 1 9 false _ A2.out).mono ?_); rintro e w' ⟨rfl, ⟨nd, rfl⟩⟩; refine ⟨_, rfl, ?_⟩))
  go_ret
  exact ⟨YF, XL HB⟩

/-! ### api_Errno: function 71 -/
def api_Errno.l0 : Nat → Int → List Int → Int → Int → Option (Int)
 | 0, _, _, _, _ => none
 | k + 1, x3, x6, x7, x8 => if x8 < x7 then (if 0 ≤ x8 then (if x8 < (x6.length : Int) then (if (rd x6 x8) = x3 then (api_Errno.l0 k x3 x6 x7 (wrap64 (x8 + 1))) else (some (rd x6 x8))) else (none)) else (none)) else (some x3)
def api_Errno.f (k : Nat) (l0 : List Int) : Option (Int) := api_Errno.l0 k 0 l0 (l0.length : Int) 0
theorem api_Errno.mono_l : ∀ k, (∀ y0 y1 y2 y3, LeO (api_Errno.l0 k y0 y1 y2 y3) (api_Errno.l0 (k + 1) y0 y1 y2 y3))
 | 0 => fun _ _ _ _ r h => by simp [api_Errno.l0] at h
 | k + 1 => by
  have ih0 := api_Errno.mono_l k
  ·intro y0 y1 y2 y3; unfold api_Errno.l0; repeat' first
   | (with_reducible exact ih0 _ _ _ _)
   | (with_reducible exact LeO.refl _)
   | (with_reducible exact LeO.none _)
   | (with_reducible refine LeO.ite ?_ ?_)
   | (with_reducible refine LeO.bind ?_ (fun _ => ?_))
   | exact ih0 _ _ _ _
   | exact LeO.none _
   | refine LeO.ite ?_ ?_
   | refine LeO.bind ?_ (fun _ => ?_)
theorem api_Errno.mono : ∀ a0 k, LeO (api_Errno.f k a0) (api_Errno.f (k + 1) a0) := by
 intro a0 k; have ih0 := api_Errno.mono_l k; unfold api_Errno.f; repeat' first
   | (with_reducible exact ih0 _ _ _ _)
   | (with_reducible exact LeO.refl _)
   | (with_reducible exact LeO.none _)
   | (with_reducible refine LeO.ite ?_ ?_)
   | (with_reducible refine LeO.bind ?_ (fun _ => ?_))
   | exact ih0 _ _ _ _
   | exact LeO.none _
   | refine LeO.ite ?_ ?_
   | refine LeO.bind ?_ (fun _ => ?_)
set_option maxHeartbeats 8000000 in
set_option maxRecDepth 100000 in
theorem api_Errno.calls (k : Nat) (A0 : Option Addr) (c0 : Nat) (l0 : List Int) (r : Int) (w : World) (hr0 : Kd.C (Kd.int .i64) w A0 l0.length l0) (hc0 : l0.length ≤ c0) (h : api_Errno.f k l0 = some r) :
  Calls Try.prog 71 #[.slice A0 l0.length c0] w fun e w' => e = .returned (.int .i64 r) ∧ Drawn0 w w' := by
 have HR0 := XB hr0; have HC0 := XB hc0; clear hr0 hc0; have H : (api_Errno.l0 k 0 l0 (l0.length : Int) 0) = some r := h; clear h; have H' := XB H; clear H; go_enter Try.func71, Try.ntmps71
 go_wp2
 go_loopg [8] k (fun kq v8 w' => ∃ (x8_1 : Int), v8 = .int .i64 x8_1 ∧ Aside0 (api_Errno.l0 kq 0 l0 (l0.length : Int) x8_1 = some r) ∧ Aside0 (kq ≤ k) ∧ Drawn0 w w')
 case atStart => exact ⟨(0), YG, H', ⟨Nat.le_refl _⟩, by repeat (first | exact Drawn0.refl _ | apply Drawn0.step)⟩
 case round =>
  clear H'; obtain ⟨x8_1, rfl, HA, HK1, ⟨m1, rfl⟩⟩ := hrel
  cases gk with
  | zero => exact absurd HA.out (by simp [api_Errno.l0])
  | succ k1 =>
   have H := HA.out; clear HA; simp only [api_Errno.l0] at H; by_cases c2 : x8_1 < (l0.length : Int)
   ·rw [if_pos c2] at H; have c2b0 := decide_eq_true c2; clear c2; by_cases c3 : 0 ≤ x8_1
    ·rw [if_pos c3] at H; have c3b0 := decide_eq_true c3; clear c3; by_cases c4 : x8_1 < (l0.length : Int)
     ·rw [if_pos c4] at H; have c4b0 := decide_eq_true c4; clear c4; by_cases c5 : (rd l0 x8_1) = 0
      ·rw [if_pos c5] at H; have c5b0 := beq_iff_eq.mpr c5; have c5b1 := bne_eq_false_iff_eq.mpr c5; clear c5; have H' := XB H; clear H; have p101 : 0 ≤ (x8_1 : Int) := YD; have q101 : x8_1 < (l0.length : Int) := YD; obtain ⟨ad101, e101, hx101_0⟩ := Kd.at_int HR0.out x8_1 p101 q101
       cases e101
       replace p101 := eq_true p101; replace q101 := eq_true q101; go_wp2
       go_roundg k1
       case measure => have := HK1.out; omega
       case rel => exact ⟨(wrap64 (x8_1 + 1)), YG, H', ⟨by have := HK1.out; omega⟩, by repeat (first | exact Drawn0.refl _ | apply Drawn0.step)⟩
      ·rw [if_neg c5] at H; have c5b0 := beq_eq_false_iff_ne.mpr c5; have c5b1 := bne_iff_ne.mpr c5; obtain rfl := Option.some.inj H; have p101 : 0 ≤ (x8_1 : Int) := YD; have q101 : x8_1 < (l0.length : Int) := YD; obtain ⟨ad101, e101, hx101_0⟩ := Kd.at_int HR0.out x8_1 p101 q101
       cases e101
       replace p101 := eq_true p101; replace q101 := eq_true q101; go_wp2
       go_ret
       exact ⟨by first | rfl | (simp; done) | (simp [*]; done), by repeat (first | exact Drawn0.refl _ | apply Drawn0.step)⟩
     ·rw [if_neg c4] at H; exact absurd H (by simp)
    ·rw [if_neg c3] at H; exact absurd H (by simp)
   ·rw [if_neg c2] at H; have c2b0 := decide_eq_false c2; clear c2; obtain rfl := Option.some.inj H; go_wp2
    go_ret
    exact ⟨by first | rfl | (simp; done) | (simp [*]; done), by repeat (first | exact Drawn0.refl _ | apply Drawn0.step)⟩

/-! ### log_check: function 55 -/
def log_check.f (k : Nat) (l0 : List Int) (l1 : List Int) (a2_0 : Int) (a2_1 : Int) (a2_2 : Int) : Option (Int) := (log_Validate.f k l0).bind fun t102 => ((log_Validate.f k l1).bind fun t103 => ((log_ValidateCosts.f a2_0 a2_1 a2_2).bind fun t104 => ((api_Errno.f k (([t102, t103, t104] : List Int))).bind fun t108 => (some t108))))
theorem log_check.mono : ∀ a0 a1 a2 a3 a4 k, LeO (log_check.f k a0 a1 a2 a3 a4) (log_check.f (k + 1) a0 a1 a2 a3 a4) := by
 intro a0 a1 a2 a3 a4 k; unfold log_check.f; repeat' first
   | (with_reducible exact api_Errno.mono _ _)
   | (with_reducible exact log_Validate.mono _ _)
   | (with_reducible exact LeO.refl _)
   | (with_reducible exact LeO.none _)
   | (with_reducible refine LeO.ite ?_ ?_)
   | (with_reducible refine LeO.bind ?_ (fun _ => ?_))
   | exact api_Errno.mono _ _
   | exact log_Validate.mono _ _
   | exact LeO.none _
   | refine LeO.ite ?_ ?_
   | refine LeO.bind ?_ (fun _ => ?_)
def log_check.T1 : Bool × List (List Nat × List Nat) := (true, [([], []), ([0], [0]), ([], []), ([2, 1], [2]), ([], []), ([4, 3], [4]), ([1, 3, 5], [1, 3, 5]), ([6, 5], [6]), ([7, 7, 0, 1, 2, 3, 4, 5, 6, 7], [7])])
def log_check.B1 : List Nat := [0, 1, 0, 7, 0, 31, 63, 127, 255]
theorem log_check.tab1 : rtab .any (opsOf Try.f55 1) = log_check.T1 := by kernel_rfl
theorem log_check.bits1 : waitsOk log_check.T1.2 log_check.B1 = true := by kernel_rfl
set_option maxHeartbeats 8000000 in
set_option maxRecDepth 100000 in
theorem log_check.calls (k : Nat) (A0 : Option Addr) (c0 : Nat) (l0 : List Int) (A1 : Option Addr) (c1 : Nat) (l1 : List Int) (a2_0 : Int) (a2_1 : Int) (a2_2 : Int) (r : Int) (w : World) (hr0 : Kd.C (Kd.int .i64) w A0 l0.length l0) (hc0 : l0.length ≤ c0) (hr1 : Kd.C (Kd.int .i64) w A1 l1.length l1) (hc1 : l1.length ≤ c1) (h : log_check.f k l0 l1 a2_0 a2_1 a2_2 = some r) :
  Calls Try.prog 55 #[.slice A0 l0.length c0, .slice A1 l1.length c1, .agg #[.int .i64 a2_0, .int .i64 a2_1, .int .i64 a2_2]] w fun e w' => e = .returned (.int .i64 r) ∧ Below w.heap.size w w' := by
 have hu24 := Try.underlying24; have HR0 := XB hr0; have HC0 := XB hc0; clear hr0 hc0; have HR1 := XB hr1; have HC1 := XB hc1; clear hr1 hc1; have HB := XB (Below.refl w.heap.size w); have H : ((log_Validate.f k l0).bind fun t102 => ((log_Validate.f k l1).bind fun t103 => ((log_ValidateCosts.f a2_0 a2_1 a2_2).bind fun t104 => ((api_Errno.f k (([t102, t103, t104] : List Int))).bind fun t108 => (some t108))))) = some r := h; clear h; obtain ⟨t102, A4, H⟩ := YJ H; obtain ⟨t103, A5, H⟩ := YJ H; obtain ⟨t104, A6, H⟩ := YJ H; obtain ⟨y105, hy105⟩ : ∃ y_ : List Int, y_ = (([t102, t103, t104] : List Int)) := ⟨_, rfl⟩
 replace H : ((api_Errno.f k y105).bind fun t108 => (some t108)) = some r := by first | (rw [hy105]; with_reducible exact H) | (have H2_ := (Option.bind_some _ _).symm.trans H; rw [hy105]; with_reducible exact H2_) | (have H2_ := (Option.bind_some _ _).symm.trans H; with_reducible exact H2_) | with_reducible exact H | (rw [hy105]; exact H) | exact H
 have Ny105 := XB hy105; clear hy105; obtain ⟨t108, A7, H⟩ := YJ H; obtain rfl := Option.some.inj H; go_enter Try.func55, Try.ntmps55
 try go_wp2_with (first | ((with_reducible refine gate_dst (N := 5) rfl ?_); refine box_event ?hg (N := 5) ?hd (cs := #[.int .i64 a2_0, .int .i64 a2_1, .int .i64 a2_2]) (t := 24) ?hr ?_; (case hd => rfl); (case hg => rfl); (case hr => first | (go_simp; done) | (go_simp; rfl)); intro gb101 hg w8 hbox hb; have n0_ := XB (Xz (by repeat (first | (with_reducible first | exact HB.out | apply Xc | apply Xa | apply Xb) | exact HB.out)) hb); have n1_ := XB (hbox); have n2_ := XB ((by rw [hg]; exact (XC (by repeat (first | (with_reducible first | exact HB.out | apply Xc | apply Xa | apply Xb) | exact HB.out))) : w.heap.size ≤ gb101)); have n3_ := XB ((by rw [hg]; exact (XC (by repeat (first | (with_reducible first | exact HB.out | apply Xc | apply Xa | apply Xb) | exact HB.out))) : w.heap.size ≤ gb101)); clear HB; have HB := n0_; have J101 := n1_; have GW101 := n2_; have E101 := n3_; clear n0_ n1_ n2_ n3_; clear hb hbox hg))
 replace J101 := XB (Xg J101.out); replace HB := XB (Xb HB.out); refine start_ (n := 9) (S := fun w' => w'.cell? ⟨gb101, 0, none⟩ = some (.int .i64 a2_0) ∧ w'.cell? ⟨gb101, 1, none⟩ = some (.int .i64 a2_1) ∧ w'.cell? ⟨gb101, 2, none⟩ = some (.int .i64 a2_2)) (ds := []) (Bq 9 0) (by kernel_rfl) rfl rfl ⟨(Xi J101.out 0).trans rfl, (Xi J101.out 1).trans rfl, (Xi J101.out 2).trans rfl⟩ (fun hHeld => ?_); refine with_tabW log_check.tab1 log_check.bits1 (fun HT_ HW_ => ?_); generalize w8.drew = w9 at J101 HB hHeld ⊢
 refine pure_ (i := 0) (N := some 7) (v := ?_) (a' := ?_) (Bq 9 1) rfl rfl (any_of HT_.out (by kernel_rfl)) (fun _ _ _ h => h) (Or.inl ⟨by rfl, ?_⟩) ?_ ?_; rotate_left
 ·intro w'; go_simp; with_reducible rfl
 rotate_left
 ·simp only [Act.put, Xj, Xk, Xl, i64_w, i32_w]; rfl
 refine pure_ (i := 2) (N := some 9) (v := ?_) (a' := ?_) (Bq 9 5) rfl rfl (any_of HT_.out (by kernel_rfl)) (fun _ _ _ h => h) (Or.inl ⟨by rfl, ?_⟩) ?_ ?_; rotate_left
 ·intro w'; go_simp; with_reducible rfl
 rotate_left
 ·simp only [Act.put, Xj, Xk, Xl, i64_w, i32_w]; rfl
 refine take_ (i := 4) (N := some 11) (v := ?_) (a' := ?_) (Bq 9 21) rfl rfl (take_ofW HT_.out HW_.out (by kernel_rfl)) (fun _ _ _ h => h) (Or.inl ⟨by rfl, ?_⟩) hHeld ?_ ?_; rotate_left
 ·rintro w' ⟨s0, s1, s2⟩; go_simp; with_reducible rfl
 rotate_left
 ·simp only [Act.put, Xj, Xk, Xl, i64_w, i32_w]; rfl
 refine one_ (i := 1) (N := some 8) (Bq 9 23) rfl rfl (one_of HT_.out (by kernel_rfl)) (by decide) (fun K hK => ?_); refine goes_ Try.func31 (by kernel_rfl) rfl #[.slice A0 l0.length c0] (by rfl) rfl rfl (by (try simp only [Xm, Xn, Xo]); first | done | rfl | (simp only [Xp, Xq]; rfl)) ?_; with_reducible refine (log_Validate.calls k _ _ l0 t102 _ ?side1 ?side2 A4.out).mono ?_
 (case side1 => exact YE HR0 HB)
 (case side2 => exact HC0.out)
 rintro e w' ⟨rfl, ⟨nd, rfl⟩⟩; refine ⟨_, rfl, ?_⟩; refine hK.out _ _ ⟨(Xi J101.out 0).trans rfl, (Xi J101.out 1).trans rfl, (Xi J101.out 2).trans rfl⟩ (fun hHeld => ?_); clear hK K; refine norm_ (a' := ?_) ?_ ?_; rotate_left
 ·show Act.put _ (some 8) _ = _
  simp only [Act.put, Xj, Xk, Xl, i64_w, i32_w]; rfl
 refine one_ (i := 3) (N := some 10) (Bq 9 31) rfl rfl (one_of HT_.out (by kernel_rfl)) (by decide) (fun K hK => ?_); refine goes_ Try.func31 (by kernel_rfl) rfl #[.slice A1 l1.length c1] (by rfl) rfl rfl (by (try simp only [Xm, Xn, Xo]); first | done | rfl | (simp only [Xp, Xq]; rfl)) ?_; with_reducible refine (log_Validate.calls k _ _ l1 t103 _ ?side1 ?side2 A5.out).mono ?_
 (case side1 => repeat (first | exact (Xu HR1.out (by repeat (first | (with_reducible first | exact HB.out | apply Xc | apply Xa | apply Xb | refine Xd ?_ E101.out) | exact HB.out))) | (with_reducible refine Xr ?_ _) | (with_reducible refine Xs ?_ _) | (with_reducible refine Xt ?_)))
 (case side2 => exact HC1.out)
 rintro e w' ⟨rfl, ⟨nd, rfl⟩⟩; refine ⟨_, rfl, ?_⟩; refine hK.out _ _ ⟨(Xi J101.out 0).trans rfl, (Xi J101.out 1).trans rfl, (Xi J101.out 2).trans rfl⟩ (fun hHeld => ?_); clear hK K; refine norm_ (a' := ?_) ?_ ?_; rotate_left
 ·show Act.put _ (some 10) _ = _
  simp only [Act.put, Xj, Xk, Xl, i64_w, i32_w]; rfl
 refine one_ (i := 5) (N := some 12) (Bq 9 63) rfl rfl (one_of HT_.out (by kernel_rfl)) (by decide) (fun K hK => ?_); refine goes_ Try.func33 (by kernel_rfl) rfl #[.agg #[.int .i64 a2_0, .int .i64 a2_1, .int .i64 a2_2]] (by rfl) rfl rfl (by (try simp only [Xm, Xn, Xo]); first | done | rfl | (simp only [Xp, Xq]; rfl)) ?_; with_reducible refine (log_ValidateCosts.calls a2_0 a2_1 a2_2 t104 _ A6.out).mono ?_
 rintro e w10 ⟨rfl, hb⟩; refine ⟨_, rfl, ?_⟩; replace J101 := XB (XA (g := gb101) (o := .cells #[.int .i64 a2_0, .int .i64 a2_1, .int .i64 a2_2] 24 (0, 0)) (by (with_reducible repeat (first | refine Xf ?_ _ | refine Xg ?_ | refine Xe ?_ _)); exact J101.out) hb); replace HB := XB (Xz (by repeat (first | (with_reducible first | exact HB.out | apply Xc | apply Xa | apply Xb | refine Xd ?_ E101.out) | exact HB.out)) hb); (try clear hb)
 (try clear hb2)
 (try clear hk)
 (try clear hi)
 refine hK.out _ _ ⟨(Xi J101.out 0).trans rfl, (Xi J101.out 1).trans rfl, (Xi J101.out 2).trans rfl⟩ (fun hHeld => ?_); clear hK K; refine norm_ (a' := ?_) ?_ ?_; rotate_left
 ·show Act.put _ (some 12) _ = _
  simp only [Act.put, Xj, Xk, Xl, i64_w, i32_w]; rfl
 refine one_ (i := 6) (N := some 13) (Bq 9 127) rfl rfl (one_of HT_.out (by kernel_rfl)) (by decide) (fun K hK => ?_); refine Kd.R_lit_step (Kd.int .i64) _ 29 ?hg (N := 13) ?hd (xs := ([t102, t103, t104] : List Int)) (inner := [.int .i64 t102, .int .i64 t103, .int .i64 t104]) (ok := fun _ => True) (okp := fun _ => True) ?hr ?hp (fun _ hk => hk) trivial (Below.refl _ _) (Nat.le_refl _) (by simp) ?_; (case hd => rfl); (case hg => rfl); (case hr => first | (go_simp; done) | (go_simp; rfl)); (case hp => exact (Reps.one (show Kd.M (Kd.int .i64) _ _ _ t102 [.int .i64 t102] from rfl) (Reps.one (show Kd.M (Kd.int .i64) _ _ _ t103 [.int .i64 t103] from rfl) (Reps.one (show Kd.M (Kd.int .i64) _ _ _ t104 [.int .i64 t104] from rfl) (Reps.none _ _))))); intro v106 w11 ho12 hb hg_ hnew_; clear hg_ hnew_; (first | rw [← Ny105.out] at ho12 | (simp only [Int.reduceToNat] at ho12; rw [← Ny105.out] at ho12))
 have HO107 := XB (Kd.R_lower ho12 (XC (by repeat (first | (with_reducible first | exact HB.out | apply Xc | apply Xa | apply Xb | refine Xd ?_ E101.out) | exact HB.out)))); replace J101 := XB (XA (g := gb101) (o := .cells #[.int .i64 a2_0, .int .i64 a2_1, .int .i64 a2_2] 24 (0, 0)) (by (with_reducible repeat (first | refine Xf ?_ _ | refine Xg ?_ | refine Xe ?_ _)); exact J101.out) hb); replace HB := XB (Xz (by repeat (first | (with_reducible first | exact HB.out | apply Xc | apply Xa | apply Xb | refine Xd ?_ E101.out) | exact HB.out)) hb); clear hb ho12; obtain ⟨Ao13, co13, eo13⟩ := Kd.R_slice HO107.out; (first | subst eo13 | (injection eo13 with f1_ f2_ f3_; have f4_ := f1_.symm; have f5_ := f3_.symm; clear f1_ f2_ f3_; subst f4_; subst f5_))
 refine hK.out _ _ ⟨(Xi J101.out 0).trans rfl, (Xi J101.out 1).trans rfl, (Xi J101.out 2).trans rfl⟩ (fun hHeld => ?_); clear hK K; refine norm_ (a' := ?_) ?_ ?_; rotate_left
 ·show Act.put _ (some 13) _ = _
  simp only [Act.put, Xj, Xk, Xl, i64_w, i32_w]; rfl
 refine one_ (i := 7) (N := some 14) (Bq 9 255) rfl rfl (one_of HT_.out (by kernel_rfl)) (by decide) (fun K hK => ?_); refine goes_ Try.func71 (by kernel_rfl) rfl #[.slice Ao13 y105.length co13] (by rfl) rfl rfl (by (try simp only [Xm, Xn, Xo]); first | done | rfl | (simp only [Xp, Xq]; rfl)) ?_; with_reducible refine (api_Errno.calls k _ _ y105 t108 _ ?side1 ?side2 A7.out).mono ?_
 (case side1 => repeat (first | exact (XD HO107.out).2.2 | (with_reducible refine Xr ?_ _) | (with_reducible refine Xs ?_ _) | (with_reducible refine Xt ?_)))
 (case side2 => exact (XD HO107.out).2.1)
 rintro e w' ⟨rfl, ⟨nd, rfl⟩⟩; refine ⟨_, rfl, ?_⟩; refine hK.out _ _ ⟨(Xi J101.out 0).trans rfl, (Xi J101.out 1).trans rfl, (Xi J101.out 2).trans rfl⟩ (fun hHeld => ?_); clear hK K; refine norm_ (a' := ?_) ?_ ?_; rotate_left
 ·show Act.put _ (some 14) _ = _
  simp only [Act.put, Xj, Xk, Xl, i64_w, i32_w]; rfl
 refine pure_ (i := 8) (N := some 6) (v := ?_) (a' := ?_) (Bq 9 511) rfl rfl (any_of HT_.out (by kernel_rfl)) (fun _ _ _ h => h) (Or.inl ⟨by rfl, ?_⟩) ?_ ?_; rotate_left
 ·intro w'; go_simp; with_reducible rfl
 rotate_left
 ·simp only [Act.put, Xj, Xk, Xl, i64_w, i32_w]; rfl
 refine done_ (done_of HT_.out (by kernel_rfl)) ?_; try go_wp2
 go_ret
 exact ⟨YF, XL HB⟩

/-! ### log_cost: function 58 -/
/-! ### What an edit costs, by the kind of the edit -/
theorem log_ta_out (v : Value) (w : World) : (Instr.typeAssert (.iface 87 v) 94 87 true).run Try.prog w = .ok (.tuple #[v, .bool true]) w := by kernel_rfl
theorem log_ta_in1 (v : Value) (w : World) : (Instr.typeAssert (.iface 95 v) 94 87 true).run Try.prog w = .ok (.tuple #[.agg #[], .bool false]) w := by kernel_rfl
theorem log_ta_in2 (v : Value) (w : World) : (Instr.typeAssert (.iface 95 v) 94 95 true).run Try.prog w = .ok (.tuple #[v, .bool true]) w := by kernel_rfl
theorem log_ta_both1 (v : Value) (w : World) : (Instr.typeAssert (.iface 70 v) 94 87 true).run Try.prog w = .ok (.tuple #[.agg #[], .bool false]) w := by kernel_rfl
theorem log_ta_both2 (v : Value) (w : World) : (Instr.typeAssert (.iface 70 v) 94 95 true).run Try.prog w = .ok (.tuple #[.agg #[], .bool false]) w := by kernel_rfl
theorem log_ta_both3 (v : Value) (w : World) : (Instr.typeAssert (.iface 70 v) 94 70 true).run Try.prog w = .ok (.tuple #[v, .bool true]) w := by kernel_rfl

set_option maxHeartbeats 8000000 in
set_option maxRecDepth 100000 in
theorem log_cost.out (a0 a1 a2 : Int) (w : World) : Calls Try.prog 58 #[.agg #[.int .i64 a0, .int .i64 a1, .int .i64 a2], .iface 87 (.agg #[])] w fun e w' => e = .returned (.int .i64 a0) ∧ Below w.heap.size w w' := by
 have hu24 := Try.underlying24; have hu70 := Try.underlying70; have taout := log_ta_out; go_enter Try.func58, Try.ntmps58
 go_wp2_with (first | ((with_reducible refine gate_dst (N := 2) rfl ?_); refine box_event ?hg (N := 2) ?hd (cs := #[.int .i64 a0, .int .i64 a1, .int .i64 a2]) (t := 24) ?hr ?_; (case hd => rfl); (case hg => rfl); (case hr => first | (go_simp; done) | (go_simp; rfl)); intro gb101 hg w5 hbox hb; have hb2 := XB hb; clear hb hg; have hc0 : w5.cell? ⟨gb101, 0, none⟩ = some (.int .i64 a0) := (Xi hbox 0).trans rfl; have hc1 : w5.cell? ⟨gb101, 1, none⟩ = some (.int .i64 a1) := (Xi hbox 1).trans rfl; have hc2 : w5.cell? ⟨gb101, 2, none⟩ = some (.int .i64 a2) := (Xi hbox 2).trans rfl; have hlt : gb101 < w5.heap.size := (Array.getElem?_eq_some_iff.1 hbox).1; have hd0 : ∀ o : Obj, (w5.alloc o).cell? ⟨gb101, 0, none⟩ = some (.int .i64 a0) := fun o => (Xi (((MapKept.heap_alloc w5 o).2 gb101 hlt).trans hbox) 0).trans rfl; have hd1 : ∀ o : Obj, (w5.alloc o).cell? ⟨gb101, 1, none⟩ = some (.int .i64 a1) := fun o => (Xi (((MapKept.heap_alloc w5 o).2 gb101 hlt).trans hbox) 1).trans rfl; have hd2 : ∀ o : Obj, (w5.alloc o).cell? ⟨gb101, 2, none⟩ = some (.int .i64 a2) := fun o => (Xi (((MapKept.heap_alloc w5 o).2 gb101 hlt).trans hbox) 2).trans rfl; clear hbox hlt))
 first | go_ret | go_ret2
 exact ⟨by first | rfl | (simp; done) | (simp [*]; done), by repeat (first | (with_reducible first | exact hb2.out | apply Xc | apply Xa | apply Xb) | exact hb2.out)⟩

set_option maxHeartbeats 8000000 in
set_option maxRecDepth 100000 in
theorem log_cost.ins (a0 a1 a2 : Int) (w : World) : Calls Try.prog 58 #[.agg #[.int .i64 a0, .int .i64 a1, .int .i64 a2], .iface 95 (.agg #[])] w fun e w' => e = .returned (.int .i64 a1) ∧ Below w.heap.size w w' := by
 have hu24 := Try.underlying24; have hu70 := Try.underlying70; have tain1 := log_ta_in1; have tain2 := log_ta_in2; go_enter Try.func58, Try.ntmps58
 go_wp2_with (first | ((with_reducible refine gate_dst (N := 2) rfl ?_); refine box_event ?hg (N := 2) ?hd (cs := #[.int .i64 a0, .int .i64 a1, .int .i64 a2]) (t := 24) ?hr ?_; (case hd => rfl); (case hg => rfl); (case hr => first | (go_simp; done) | (go_simp; rfl)); intro gb101 hg w5 hbox hb; have hb2 := XB hb; clear hb hg; have hc0 : w5.cell? ⟨gb101, 0, none⟩ = some (.int .i64 a0) := (Xi hbox 0).trans rfl; have hc1 : w5.cell? ⟨gb101, 1, none⟩ = some (.int .i64 a1) := (Xi hbox 1).trans rfl; have hc2 : w5.cell? ⟨gb101, 2, none⟩ = some (.int .i64 a2) := (Xi hbox 2).trans rfl; have hlt : gb101 < w5.heap.size := (Array.getElem?_eq_some_iff.1 hbox).1; have hd0 : ∀ o : Obj, (w5.alloc o).cell? ⟨gb101, 0, none⟩ = some (.int .i64 a0) := fun o => (Xi (((MapKept.heap_alloc w5 o).2 gb101 hlt).trans hbox) 0).trans rfl; have hd1 : ∀ o : Obj, (w5.alloc o).cell? ⟨gb101, 1, none⟩ = some (.int .i64 a1) := fun o => (Xi (((MapKept.heap_alloc w5 o).2 gb101 hlt).trans hbox) 1).trans rfl; have hd2 : ∀ o : Obj, (w5.alloc o).cell? ⟨gb101, 2, none⟩ = some (.int .i64 a2) := fun o => (Xi (((MapKept.heap_alloc w5 o).2 gb101 hlt).trans hbox) 2).trans rfl; clear hbox hlt))
 first | go_ret | go_ret2
 exact ⟨by first | rfl | (simp; done) | (simp [*]; done), by repeat (first | (with_reducible first | exact hb2.out | apply Xc | apply Xa | apply Xb) | exact hb2.out)⟩

set_option maxHeartbeats 8000000 in
set_option maxRecDepth 100000 in
theorem log_cost.same (a0 a1 a2 x : Int) (w : World) : Calls Try.prog 58 #[.agg #[.int .i64 a0, .int .i64 a1, .int .i64 a2], .iface 70 (.agg #[.int .i64 x, .int .i64 x])] w fun e w' => e = .returned (.int .i64 0) ∧ Below w.heap.size w w' := by
 have hu24 := Try.underlying24; have hu70 := Try.underlying70; have taboth1 := log_ta_both1; have taboth2 := log_ta_both2; have taboth3 := log_ta_both3; have hd : (x != x) = false := by simp
 go_enter Try.func58, Try.ntmps58
 go_wp2_with (first | ((with_reducible refine gate_dst (N := 2) rfl ?_); refine box_event ?hg (N := 2) ?hd (cs := #[.int .i64 a0, .int .i64 a1, .int .i64 a2]) (t := 24) ?hr ?_; (case hd => rfl); (case hg => rfl); (case hr => first | (go_simp; done) | (go_simp; rfl)); intro gb101 hg w5 hbox hb; have hb2 := XB hb; clear hb hg; have hc0 : w5.cell? ⟨gb101, 0, none⟩ = some (.int .i64 a0) := (Xi hbox 0).trans rfl; have hc1 : w5.cell? ⟨gb101, 1, none⟩ = some (.int .i64 a1) := (Xi hbox 1).trans rfl; have hc2 : w5.cell? ⟨gb101, 2, none⟩ = some (.int .i64 a2) := (Xi hbox 2).trans rfl; have hlt : gb101 < w5.heap.size := (Array.getElem?_eq_some_iff.1 hbox).1; have hd0 : ∀ o : Obj, (w5.alloc o).cell? ⟨gb101, 0, none⟩ = some (.int .i64 a0) := fun o => (Xi (((MapKept.heap_alloc w5 o).2 gb101 hlt).trans hbox) 0).trans rfl; have hd1 : ∀ o : Obj, (w5.alloc o).cell? ⟨gb101, 1, none⟩ = some (.int .i64 a1) := fun o => (Xi (((MapKept.heap_alloc w5 o).2 gb101 hlt).trans hbox) 1).trans rfl; have hd2 : ∀ o : Obj, (w5.alloc o).cell? ⟨gb101, 2, none⟩ = some (.int .i64 a2) := fun o => (Xi (((MapKept.heap_alloc w5 o).2 gb101 hlt).trans hbox) 2).trans rfl; clear hbox hlt))
 first | go_ret | go_ret2
 exact ⟨by first | rfl | (simp; done) | (simp [*]; done), by repeat (first | (with_reducible first | exact hb2.out | apply Xc | apply Xa | apply Xb) | exact hb2.out)⟩

set_option maxHeartbeats 8000000 in
set_option maxRecDepth 100000 in
theorem log_cost.other (a0 a1 a2 x y : Int) (w : World) (h : x ≠ y) : Calls Try.prog 58 #[.agg #[.int .i64 a0, .int .i64 a1, .int .i64 a2], .iface 70 (.agg #[.int .i64 x, .int .i64 y])] w fun e w' => e = .returned (.int .i64 a2) ∧ Below w.heap.size w w' := by
 have hu24 := Try.underlying24; have hu70 := Try.underlying70; have taboth1 := log_ta_both1; have taboth2 := log_ta_both2; have taboth3 := log_ta_both3; have hd : (x != y) = true := bne_iff_ne.mpr h; go_enter Try.func58, Try.ntmps58
 go_wp2_with (first | ((with_reducible refine gate_dst (N := 2) rfl ?_); refine box_event ?hg (N := 2) ?hd (cs := #[.int .i64 a0, .int .i64 a1, .int .i64 a2]) (t := 24) ?hr ?_; (case hd => rfl); (case hg => rfl); (case hr => first | (go_simp; done) | (go_simp; rfl)); intro gb101 hg w5 hbox hb; have hb2 := XB hb; clear hb hg; have hc0 : w5.cell? ⟨gb101, 0, none⟩ = some (.int .i64 a0) := (Xi hbox 0).trans rfl; have hc1 : w5.cell? ⟨gb101, 1, none⟩ = some (.int .i64 a1) := (Xi hbox 1).trans rfl; have hc2 : w5.cell? ⟨gb101, 2, none⟩ = some (.int .i64 a2) := (Xi hbox 2).trans rfl; have hlt : gb101 < w5.heap.size := (Array.getElem?_eq_some_iff.1 hbox).1; have hd0 : ∀ o : Obj, (w5.alloc o).cell? ⟨gb101, 0, none⟩ = some (.int .i64 a0) := fun o => (Xi (((MapKept.heap_alloc w5 o).2 gb101 hlt).trans hbox) 0).trans rfl; have hd1 : ∀ o : Obj, (w5.alloc o).cell? ⟨gb101, 1, none⟩ = some (.int .i64 a1) := fun o => (Xi (((MapKept.heap_alloc w5 o).2 gb101 hlt).trans hbox) 1).trans rfl; have hd2 : ∀ o : Obj, (w5.alloc o).cell? ⟨gb101, 2, none⟩ = some (.int .i64 a2) := fun o => (Xi (((MapKept.heap_alloc w5 o).2 gb101 hlt).trans hbox) 2).trans rfl; clear hbox hlt))
 first | go_ret | go_ret2
 exact ⟨by first | rfl | (simp; done) | (simp [*]; done), by repeat (first | (with_reducible first | exact hb2.out | apply Xc | apply Xa | apply Xb) | exact hb2.out)⟩

def log_ch (c a b : Int) : Int := if a = b then 0 else c
theorem log_cost.both (a0 a1 a2 x y : Int) (w : World) : Calls Try.prog 58 #[.agg #[.int .i64 a0, .int .i64 a1, .int .i64 a2], .iface 70 (.agg #[.int .i64 x, .int .i64 y])] w fun e w' => e = .returned (.int .i64 (log_ch a2 x y)) ∧ Below w.heap.size w w' := by
 by_cases h : x = y
 ·subst h; rw [show log_ch a2 x x = 0 from if_pos rfl]; exact log_cost.same a0 a1 a2 x w
 ·rw [show log_ch a2 x y = a2 from if_neg h]; exact log_cost.other a0 a1 a2 x y w h

inductive log_edit (a0 a1 a2 : Int) : Value → Int → Prop
 | out : log_edit a0 a1 a2 (.iface 87 (.agg #[])) a0
 | ins : log_edit a0 a1 a2 (.iface 95 (.agg #[])) a1
 | both (x y : Int) : log_edit a0 a1 a2 (.iface 70 (.agg #[.int .i64 x, .int .i64 y])) (log_ch a2 x y)
theorem log_cost.any {a0 a1 a2 : Int} {v : Value} {x : Int} (h : log_edit a0 a1 a2 v x) (w : World) : Calls Try.prog 58 #[.agg #[.int .i64 a0, .int .i64 a1, .int .i64 a2], v] w fun e w' => e = .returned (.int .i64 x) ∧ Below w.heap.size w w' := by
 cases h with
 | out => exact log_cost.out a0 a1 a2 w
 | ins => exact log_cost.ins a0 a1 a2 w
 | both x y => exact log_cost.both a0 a1 a2 x y w

theorem log_ch_range {c : Int} (hc : 0 ≤ c ∧ c ≤ 9) (x y : Int) : 0 ≤ log_ch c x y ∧ log_ch c x y ≤ 9 := by unfold log_ch; split <;> omega
theorem log_div {W a k : Nat} (hk : k < W) : (a * W + k) / W = a ∧ (a * W + k) % W = k := by
 have hW : 0 < W := by omega
 rw [Nat.mul_comm]; exact ⟨by rw [Nat.mul_add_div hW, Nat.div_eq_of_lt hk, Nat.add_zero], by rw [Nat.mul_add_mod, Nat.mod_eq_of_lt hk]⟩
theorem log_w90 {k : Nat} {x : Int} (hk : k ≤ 10) (hx : 0 ≤ x ∧ x ≤ 9) : wrap64 ((k : Int) * x) = (k : Int) * x := by
 have h1 : (0 : Int) ≤ (k : Int) * x := Int.mul_nonneg (by omega) hx.1; have h2 : (k : Int) * x ≤ (k : Int) * 9 := Int.mul_le_mul_of_nonneg_left hx.2 (by omega); generalize (k : Int) * x = y at *
 unfold wrap64; omega
theorem log_cell_below {w1 w2 : World} (hb : Below w1.heap.size w1 w2) {x : Addr} {v : Value} (h : w1.cell? x = some v) : w2.cell? x = some v := (hb.cell (World.block_lt_of_cell? w1 _ h)).trans h
theorem log_cell_below' {w w2 : World} (hb : Below w.heap.size w w2) {x : Addr} {v : Value} (h : w.cell? x = some v) : w2.cell? x = some v := log_cell_below hb h
theorem log_off {b o o' : Nat} (h : o ≠ o') : (⟨b, o, none⟩ : Addr) ≠ ⟨b, o', none⟩ := fun e => h (by injection e)
theorem log_blk {x : Addr} {b o : Nat} (h : x.block ≠ b) : x ≠ ⟨b, o, none⟩ := fun e => h (by rw [e])
theorem log_add_blk (x : Addr) (j : Nat) : (x.add j).block = x.block := by unfold Addr.add; split <;> rfl


/-! ### log_table: function 77 -/
/-! ### The table of the distances -/
def log_tb (l m : List Int) (o i c : Int) : Nat → Nat → Int
 | 0, k => (k : Int) * i
 | a + 1, 0 => ((a + 1 : Nat) : Int) * o
 | a + 1, k + 1 => mn (mn (log_tb l m o i c a (k + 1) + o) (log_tb l m o i c (a + 1) k + i)) (log_tb l m o i c a k + log_ch c (rd l (a : Int)) (rd m (k : Int)))
 termination_by a k => (a, k)
def log_table.f (l0 l1 : List Int) (a0 a1 a2 : Int) : Option (List (List Int)) := if l0.length ≤ 10 ∧ l1.length ≤ 10 ∧ (0 ≤ a0 ∧ a0 ≤ 9) ∧ (0 ≤ a1 ∧ a1 ≤ 9) ∧ (0 ≤ a2 ∧ a2 ≤ 9) then some ((List.range (l0.length + 1)).map fun a => (List.range (l1.length + 1)).map (log_tb l0 l1 a0 a1 a2 a)) else none
theorem log_tb_range {l m : List Int} {o i c : Int} (ho : 0 ≤ o ∧ o ≤ 9) (hi : 0 ≤ i ∧ i ≤ 9) (hc : 0 ≤ c ∧ c ≤ 9) : ∀ a k : Nat, 0 ≤ log_tb l m o i c a k ∧ log_tb l m o i c a k ≤ 9 * ((a : Int) + (k : Int))
 | 0, k => by
  rw [log_tb]; have h1 : (0 : Int) ≤ (k : Int) * i := Int.mul_nonneg (by omega) hi.1; have h2 : (k : Int) * i ≤ (k : Int) * 9 := Int.mul_le_mul_of_nonneg_left hi.2 (by omega); omega
 | a + 1, 0 => by
  rw [log_tb]; have h1 : (0 : Int) ≤ ((a + 1 : Nat) : Int) * o := Int.mul_nonneg (by omega) ho.1; have h2 : ((a + 1 : Nat) : Int) * o ≤ ((a + 1 : Nat) : Int) * 9 := Int.mul_le_mul_of_nonneg_left ho.2 (by omega); omega
 | a + 1, k + 1 => by
  rw [log_tb]; have h1 := log_tb_range (l := l) (m := m) ho hi hc a (k + 1); have h2 := log_tb_range (l := l) (m := m) ho hi hc (a + 1) k; have h3 := log_tb_range (l := l) (m := m) ho hi hc a k; have h4 := log_ch_range hc (rd l (a : Int)) (rd m (k : Int)); unfold mn; omega
 termination_by a k => (a, k)
/-- The first p cells are written, row by row. -/
def log_fill (T : Nat → Nat → Int) (W n p : Nat) : List Int := (List.range n).map fun j => if j < p then T (j / W) (j % W) else 0
theorem log_fill_len (T : Nat → Nat → Int) (W n p : Nat) : (log_fill T W n p).length = n := by simp [log_fill]
theorem log_fill_get (T : Nat → Nat → Int) {W n p j : Nat} (hj : j < n) : (log_fill T W n p)[j]? = some (if j < p then T (j / W) (j % W) else 0) := by simp [log_fill, hj]
theorem log_fill_set (T : Nat → Nat → Int) {W n p : Nat} (hp : p < n) : (log_fill T W n p).set p (T (p / W) (p % W)) = log_fill T W n (p + 1) := by
 refine List.ext_getElem? (fun j => ?_); by_cases hj : j < n
 ·rw [log_fill_get T hj, List.getElem?_set]; by_cases e : p = j
  ·subst e; rw [if_pos rfl, if_pos (by rw [log_fill_len]; exact hp), if_pos (by omega)]
  ·rw [if_neg e, log_fill_get T hj]; by_cases c : j < p
   ·rw [if_pos c, if_pos (by omega)]
   ·rw [if_neg c, if_neg (by omega)]
 ·rw [List.getElem?_eq_none (by rw [List.length_set, log_fill_len]; omega), List.getElem?_eq_none (by rw [log_fill_len]; omega)]
def log_cells (xs : List Int) : Array Value := (xs.map (Value.int .i64)).toArray
theorem log_cells_get (xs : List Int) (j : Nat) : (log_cells xs)[j]? = (xs[j]?).map (Value.int .i64) := by simp [log_cells]
theorem log_cells_set (xs : List Int) (j : Nat) (x : Int) : (log_cells xs).setIfInBounds j (.int .i64 x) = log_cells (xs.set j x) := by
 unfold log_cells; rw [Xj, List.map_set]
theorem log_made (n : Nat) : madeCells (Value.int .i64 0).cells n = log_cells (List.replicate n 0) := by
 unfold log_cells; refine Array.ext (by simp [size_madeCells]) (fun j h1 h2 => ?_); simp [madeCells, Value.cells, Nat.mod_one]
/-- The rows' headers: row number i of the one block g. -/
def log_ks (g W : Nat) : Kd Nat := Kd.scalar (fun i : Nat => Value.slice (some ⟨g, i * W, none⟩) W W) (fun _ => rfl)
theorem log_at_ks {g W : Nat} {w : World} {A : Option Addr} {n : Nat} {xs : List Nat} (h : (log_ks g W).C w A n xs) (i : Nat) (hi : i < n) : ∃ ad, A = some ad ∧ w.cell? (ad.add i) = some (.slice (some ⟨g, (xs.getD i 0) * W, none⟩) W W) := by
 obtain ⟨ad, c, e, _, hK, hc⟩ := Kd.C_get h 0 (i : Int) (by omega) (by omega); refine ⟨ad, e, ?_⟩; have h1 : c = [.slice (some ⟨g, (xs.getD i 0) * W, none⟩) W W] := hK; have := hc 0 (.slice (some ⟨g, (xs.getD i 0) * W, none⟩) W W) (by rw [h1]; rfl); simpa [log_ks, Kd.scalar] using this
/-- What holds of the memory in the table's loops. -/
def log_inv (w w' : World) (gA gb W : Nat) (a0 a1 a2 : Int) (fill : List Int) (v9 : Value) (rows : List Nat) : Prop :=
 w'.heap[gA]? = some (.cells (log_cells fill) 3 (0, 0)) ∧ w'.heap[gb]? = some (.cells #[.int .i64 a0, .int .i64 a1, .int .i64 a2] 24 (0, 0)) ∧ (log_ks gA W).R 22 w' (gA + 1) (fun _ => True) v9 rows ∧ Below w.heap.size w w'
theorem log_inv_below {w w1 w2 : World} {gA gb W : Nat} {a0 a1 a2 : Int} {fill : List Int} {v9 : Value} {rows : List Nat} (h : log_inv w w1 gA gb W a0 a1 a2 fill v9 rows) (hb : Below w1.heap.size w1 w2) : log_inv w w2 gA gb W a0 a1 a2 fill v9 rows :=
 ⟨XA h.1 hb, XA h.2.1 hb, Xy h.2.2.1 hb, Xz h.2.2.2 hb⟩
theorem log_inv_drew {w w1 : World} {gA gb W : Nat} {a0 a1 a2 : Int} {fill : List Int} {v9 : Value} {rows : List Nat} (h : log_inv w w1 gA gb W a0 a1 a2 fill v9 rows) : log_inv w w1.drew gA gb W a0 a1 a2 fill v9 rows :=
 log_inv_below h (Below.refl _ _).drew
theorem log_inv_set {w w1 : World} {gA gb W : Nat} {a0 a1 a2 : Int} {fill fill' : List Int} {v9 : Value} {rows : List Nat} (h : log_inv w w1 gA gb W a0 a1 a2 fill v9 rows) (hne : gb ≠ gA) (hle : w.heap.size ≤ gA) {p : Nat} {x : Int} (hx : fill.set p x = fill') : log_inv w (w1.setCell ⟨gA, p, none⟩ (.int .i64 x)) gA gb W a0 a1 a2 fill' v9 rows :=
 ⟨blk_put h.1 p _ (by rw [log_cells_set, hx]), (Below.heap_setCell _ _ _ _ hne).trans h.2.1,
 Kd.R_mono (Kd.R_move (Kd.R_bound h.2.2.1) (fun k hk => by
      have h3 : gA + 1 ≤ k := hk.2.1
      exact Below.heap_setCell _ _ _ _ (by show k ≠ gA; omega))) (fun _ hk => hk.1), Xd h.2.2.2 hle⟩
theorem log_cell0 {w w1 : World} {gA gb W N p : Nat} {a0 a1 a2 : Int} {T : Nat → Nat → Int} {v9 : Value} {rows : List Nat} (h : log_inv w w1 gA gb W a0 a1 a2 (log_fill T W N p) v9 rows) (hp : p < N) : w1.cell? ⟨gA, p, none⟩ = some (.int .i64 0) := by
 rw [Xi h.1, log_cells_get, log_fill_get T hp, if_neg (Nat.lt_irrefl p)]; rfl
theorem log_frz {w w1 : World} {gA gb W : Nat} {a0 a1 a2 : Int} {fill : List Int} {v9 : Value} {rows : List Nat} (h : log_inv w w1 gA gb W a0 a1 a2 fill v9 rows) (p : Nat) : w1.frozen? ⟨gA, p, none⟩ = false := Xh h.1 p
theorem log_cellT {w w1 : World} {gA gb W N p j a k : Nat} {a0 a1 a2 : Int} {T : Nat → Nat → Int} {v9 : Value} {rows : List Nat} (h : log_inv w w1 gA gb W a0 a1 a2 (log_fill T W N p) v9 rows) (hj : j < p) (hp : p ≤ N) (hk : k < W) (ej : j = a * W + k) : w1.cell? ⟨gA, j, none⟩ = some (.int .i64 (T a k)) := by
 subst ej; rw [Xi h.1, log_cells_get, log_fill_get T (by omega), if_pos hj, (log_div hk).1, (log_div hk).2]; rfl
theorem log_inv_next {w w1 : World} {gA gb W N a k p : Nat} {a0 a1 a2 x : Int} {T : Nat → Nat → Int} {v9 : Value} {rows : List Nat} (h : log_inv w w1 gA gb W a0 a1 a2 (log_fill T W N p) v9 rows) (hne : gb ≠ gA) (hle : w.heap.size ≤ gA) (hp : p < N) (hk : k < W) (ep : p = a * W + k) (ex : x = T a k) : log_inv w (w1.setCell ⟨gA, p, none⟩ (.int .i64 x)) gA gb W a0 a1 a2 (log_fill T W N (p + 1)) v9 rows :=
 log_inv_set h hne hle (by rw [ex, ← log_fill_set T hp, ep, (log_div hk).1, (log_div hk).2])
theorem log_box {w w1 : World} {gA gb W : Nat} {a0 a1 a2 : Int} {fill : List Int} {v9 : Value} {rows : List Nat} (h : log_inv w w1 gA gb W a0 a1 a2 fill v9 rows) : w1.cell? ⟨gb, 0, none⟩ = some (.int .i64 a0) ∧ w1.cell? ⟨gb, 1, none⟩ = some (.int .i64 a1) ∧ w1.cell? ⟨gb, 2, none⟩ = some (.int .i64 a2) :=
 ⟨(Xi h.2.1 0).trans rfl, (Xi h.2.1 1).trans rfl, (Xi h.2.1 2).trans rfl⟩
theorem log_nine_below {w1 w2 : World} (hb : Below w1.heap.size w1 w2) {x1 x2 x3 x4 x5 x6 x7 x8 x9 : Addr} {v1 v2 v3 v4 v5 v6 v7 v8 v9 : Value}
  (h : w1.cell? x1 = some v1 ∧ w1.cell? x2 = some v2 ∧ w1.cell? x3 = some v3 ∧ w1.cell? x4 = some v4 ∧ w1.cell? x5 = some v5 ∧ w1.cell? x6 = some v6 ∧ w1.cell? x7 = some v7 ∧ w1.cell? x8 = some v8 ∧ w1.cell? x9 = some v9) :
  w2.cell? x1 = some v1 ∧ w2.cell? x2 = some v2 ∧ w2.cell? x3 = some v3 ∧ w2.cell? x4 = some v4 ∧ w2.cell? x5 = some v5 ∧ w2.cell? x6 = some v6 ∧ w2.cell? x7 = some v7 ∧ w2.cell? x8 = some v8 ∧ w2.cell? x9 = some v9 :=
 ⟨log_cell_below hb h.1, log_cell_below hb h.2.1, log_cell_below hb h.2.2.1, log_cell_below hb h.2.2.2.1, log_cell_below hb h.2.2.2.2.1, log_cell_below hb h.2.2.2.2.2.1, log_cell_below hb h.2.2.2.2.2.2.1, log_cell_below hb h.2.2.2.2.2.2.2.1, log_cell_below hb h.2.2.2.2.2.2.2.2⟩
theorem log_nine_set {w1 : World} {p x1 x2 x3 x4 x5 x6 x7 x8 x9 : Addr} {v v1 v2 v3 v4 v5 v6 v7 v8 v9 : Value} (n : Aside0 (x1 ≠ p ∧ x2 ≠ p ∧ x3 ≠ p ∧ x4 ≠ p ∧ x5 ≠ p ∧ x6 ≠ p ∧ x7 ≠ p ∧ x8 ≠ p ∧ x9 ≠ p))
  (h : w1.cell? x1 = some v1 ∧ w1.cell? x2 = some v2 ∧ w1.cell? x3 = some v3 ∧ w1.cell? x4 = some v4 ∧ w1.cell? x5 = some v5 ∧ w1.cell? x6 = some v6 ∧ w1.cell? x7 = some v7 ∧ w1.cell? x8 = some v8 ∧ w1.cell? x9 = some v9) :
  (w1.setCell p v).cell? x1 = some v1 ∧ (w1.setCell p v).cell? x2 = some v2 ∧ (w1.setCell p v).cell? x3 = some v3 ∧ (w1.setCell p v).cell? x4 = some v4 ∧ (w1.setCell p v).cell? x5 = some v5 ∧ (w1.setCell p v).cell? x6 = some v6 ∧ (w1.setCell p v).cell? x7 = some v7 ∧ (w1.setCell p v).cell? x8 = some v8 ∧ (w1.setCell p v).cell? x9 = some v9 := by
 obtain ⟨n1, n2, n3, n4, n5, n6, n7, n8, n9⟩ := n.out; obtain ⟨h1, h2, h3, h4, h5, h6, h7, h8, h9⟩ := h; have k : ∀ {x : Addr} {u : Value}, x ≠ p → w1.cell? x = some u → (w1.setCell p v).cell? x = some u := fun hx hc => (World.cell?_setCell_other _ _ _ _ (by first | exact hx | exact Ne.symm hx)).trans hc
 exact ⟨k n1 h1, k n2 h2, k n3 h3, k n4 h4, k n5 h5, k n6 h6, k n7 h7, k n8 h8, k n9 h9⟩
theorem log_hdr {w w1 : World} {gA gb W n : Nat} {a0 a1 a2 : Int} {fill : List Int} {v9 : Value} (h : log_inv w w1 gA gb W a0 a1 a2 fill v9 (List.range n)) {i : Nat} (hi : i < n) : ∃ ad c, v9 = .slice (some ad) n c ∧ w1.cell? (ad.add i) = some (.slice (some ⟨gA, i * W, none⟩) W W) ∧ ad.block ≠ gA := by
 obtain ⟨A, c, e⟩ := Kd.R_slice h.2.2.1; have h2 := h.2.2.1; rw [e] at h2; obtain ⟨e1, e2, hC⟩ := XD h2; rw [List.length_range] at hC; obtain ⟨ad, e3, hc⟩ := log_at_ks hC i hi; subst e3; rw [List.length_range] at e; obtain ⟨g, eg⟩ := Kd.R_head h2; have hb := Kd.R_base h2 g (by rw [eg]; simp [Value.ownBlock]); refine ⟨ad, c, e, ?_, by rw [eg]; show g ≠ gA; omega⟩; rw [hc]; simp [hi]
theorem log_sum {l m : List Int} {o i c : Int} (ho : 0 ≤ o ∧ o ≤ 9) (hi : 0 ≤ i ∧ i ≤ 9) (hc : 0 ≤ c ∧ c ≤ 9) {a k : Nat} (ha : a ≤ 10) (hk : k ≤ 10) {x : Int} (hx : 0 ≤ x ∧ x ≤ 9) : IntKind.i64.wrap (log_tb l m o i c a k + x) = log_tb l m o i c a k + x := by
 have h := log_tb_range (l := l) (m := m) ho hi hc a k; rw [i64_w]; generalize log_tb l m o i c a k = y at *
 unfold wrap64; omega
theorem log_pred {a b : Nat} (h : a = b + 1) (ha : a ≤ 100) : IntKind.i64.wrap ((a : Int) - 1) = (b : Int) := by
 subst h; rw [i64_w]; unfold wrap64; omega
theorem log_C_row {w1 : World} {gA off W : Nat} {cs : Array Value} (hb : w1.heap[gA]? = some (.cells cs 3 (0, 0))) {xs : List Int} (hl : xs.length = W) (hW : W ≤ 100) (h : ∀ j x, xs[j]? = some x → cs[off + j]? = some (.int .i64 x)) : Kd.C (Kd.int .i64) w1 (some ⟨gA, off, none⟩) W xs := by
 refine ⟨hl, by omega, fun _ => ⟨_, rfl, fun j p hj => ⟨[.int .i64 p], rfl, rfl, fun i u hu => ?_⟩⟩⟩
 cases i with
 | succ i => simp at hu
 | zero =>
  have e : u = .int .i64 p := by simpa using hu.symm
  subst e; show w1.cell? ((⟨gA, off, none⟩ : Addr).add (j * 1 + 0)) = _
  rw [show (⟨gA, off, none⟩ : Addr).add (j * 1 + 0) = ⟨gA, off + j, none⟩ by unfold Addr.add; split <;> simp_all, Xi hb, h j p hj]
theorem log_C_rows {w w1 : World} {gA gb W L : Nat} {a0 a1 a2 : Int} {T : Nat → Nat → Int} {v : Value} (h : log_inv w w1 gA gb W a0 a1 a2 (log_fill T W (L * W) (L * W)) v (List.range L)) (hW : W ≤ 100) : ∃ (A : Option Addr) (c : Nat), v = .slice A L c ∧ L ≤ c ∧ Kd.C (Kd.slice 3 (Kd.int .i64)) w1 A L ((List.range L).map fun a => (List.range W).map (T a)) := by
 obtain ⟨A, c, e⟩ := Kd.R_slice h.2.2.1; have h2 := h.2.2.1; rw [e] at h2; obtain ⟨e1, e2, hC⟩ := XD h2; rw [List.length_range] at hC e1 e; rw [List.length_range] at e2; obtain ⟨l1, l2, l3⟩ := hC; refine ⟨A, c, e, e2, by simp, l2, fun hn => ?_⟩; obtain ⟨ad, ea, hc⟩ := l3 hn; refine ⟨ad, ea, fun j p hj => ?_⟩; rw [List.getElem?_map] at hj; obtain ⟨j', hj', rfl⟩ := Option.map_eq_some_iff.1 hj; obtain ⟨cs, c1, c2, c3⟩ := hc j j' hj'; obtain ⟨hjl, ej⟩ := List.getElem?_eq_some_iff.1 hj'; rw [List.getElem_range] at ej; subst ej; rw [List.length_range] at hjl; have c2' : cs = [.slice (some ⟨gA, j * W, none⟩) W W] := c2; refine ⟨cs, c1, ⟨some ⟨gA, j * W, none⟩, W, by rw [c2']; simp, by simp, ?_⟩, c3⟩; have hlen : ((List.range W).map (T j)).length = W := by simp
 rw [hlen]; refine log_C_row h.1 hlen hW (fun i x hx => ?_); rw [List.getElem?_map] at hx; obtain ⟨i', hi', rfl⟩ := Option.map_eq_some_iff.1 hx; obtain ⟨hil, ei⟩ := List.getElem?_eq_some_iff.1 hi'; rw [List.getElem_range] at ei; subst ei; rw [List.length_range] at hil; have hb : j * W + i < L * W := by
  have : (j + 1) * W ≤ L * W := Nat.mul_le_mul_right _ hjl; rw [Nat.add_mul, Nat.one_mul] at this; omega
 rw [log_cells_get, log_fill_get T hb, if_pos hb, (log_div hil).1, (log_div hil).2]; rfl
theorem log_tb_min {l m : List Int} {o i c : Int} {a a' k k' : Nat} (ha : a = a' + 1) (hk : k = k' + 1) :
  (if log_tb l m o i c a' k' + log_ch c (rd l (a' : Int)) (rd m (k' : Int)) < (if log_tb l m o i c a k' + i < log_tb l m o i c a' k + o then log_tb l m o i c a k' + i else log_tb l m o i c a' k + o) then log_tb l m o i c a' k' + log_ch c (rd l (a' : Int)) (rd m (k' : Int)) else (if log_tb l m o i c a k' + i < log_tb l m o i c a' k + o then log_tb l m o i c a k' + i else log_tb l m o i c a' k + o)) = log_tb l m o i c a k := by
 subst ha hk; conv => rhs; rw [log_tb]
 rfl
theorem log_dims {p q : Nat} (hp : p ≤ 10) (hq : q ≤ 10) : ∃ W L N : Nat, W = q + 1 ∧ L = p + 1 ∧ N = L * W ∧ IntKind.i64.wrap ((q : Int) + 1) = (W : Int) ∧ IntKind.i64.wrap ((p : Int) + 1) = (L : Int) ∧ IntKind.i64.wrap ((L : Int) * (W : Int)) = (N : Int) ∧ 0 < N ∧ N ≤ 121 := by
 refine ⟨q + 1, p + 1, (p + 1) * (q + 1), rfl, rfl, rfl, by simp only [i64_w]; unfold wrap64; omega, by simp only [i64_w]; unfold wrap64; omega, ?_, Nat.mul_pos (by omega) (by omega), Nat.mul_le_mul (show p + 1 ≤ 11 by omega) (show q + 1 ≤ 11 by omega)⟩; have h : (p + 1) * (q + 1) ≤ 11 * 11 := Nat.mul_le_mul (by omega) (by omega); rw [← Int.natCast_mul]; generalize (p + 1) * (q + 1) = n at *
 simp only [i64_w]; unfold wrap64; omega
theorem log_rows {L W N a : Nat} (hN : N = L * W) (ha : a < L) (hL : L ≤ 11) (hw : 1 ≤ W ∧ W ≤ 11) : ∃ r1 r2 : Nat, r1 = a * W ∧ r2 = (a + 1) * W ∧ r2 = r1 + W ∧
  IntKind.i64.wrap ((a : Int) * (W : Int)) = (r1 : Int) ∧ IntKind.i64.wrap ((a : Int) + 1) = ((a + 1 : Nat) : Int) ∧ IntKind.i64.wrap (((a : Int) + 1) * (W : Int)) = (r2 : Int) ∧ wrap64 (((a : Int) + 1) * (W : Int)) = (r2 : Int) ∧ wrap64 ((a : Int) * (W : Int)) = (r1 : Int) ∧
  (0 : Int) ≤ (r1 : Int) ∧ (r1 : Int) ≤ (r2 : Int) ∧ (r2 : Int) ≤ (N : Int) ∧ r2 - r1 = W ∧ ¬ r2 = r1 ∧ ¬ r1 = r2 := by
 have h1 : (a + 1) * W = a * W + W := by rw [Nat.add_mul, Nat.one_mul]
 have h2 : (a + 1) * W ≤ N := by rw [hN]; exact Nat.mul_le_mul_right _ (by omega)
 have h3 : N ≤ 121 := by rw [hN]; exact Nat.mul_le_mul hL hw.2
 have e5 : wrap64 ((a : Int) * (W : Int)) = ((a * W : Nat) : Int) := by rw [← Int.natCast_mul]; unfold wrap64; omega
 have e4 : wrap64 (((a : Int) + 1) * (W : Int)) = (((a + 1) * W : Nat) : Int) := by rw [show ((a : Int) + 1) = ((a + 1 : Nat) : Int) by omega, ← Int.natCast_mul]; unfold wrap64; omega
 have e2 : IntKind.i64.wrap ((a : Int) + 1) = ((a + 1 : Nat) : Int) := by simp only [i64_w]; unfold wrap64; omega
 clear hN; generalize hq : (a + 1) * W = q at *
 generalize a * W = p at *
 refine ⟨p, q, rfl, rfl, h1, by rw [i64_w]; exact e5, e2, by rw [i64_w]; exact e4, e4, e5, ?_, ?_, ?_, ?_, ?_, ?_⟩ <;> clear e5 e4 e2 hq <;> omega
set_option maxHeartbeats 8000000 in
set_option maxRecDepth 100000 in
theorem log_table.calls (A0 : Option Addr) (c0 : Nat) (l0 : List Int) (A1 : Option Addr) (c1 : Nat) (l1 : List Int) (a0 a1 a2 : Int) (r : List (List Int)) (w : World) (hr0 : Kd.C (Kd.int .i64) w A0 l0.length l0) (hc0 : l0.length ≤ c0) (hr1 : Kd.C (Kd.int .i64) w A1 l1.length l1) (hc1 : l1.length ≤ c1) (h : log_table.f l0 l1 a0 a1 a2 = some r) :
  Calls Try.prog 77 #[.slice A0 l0.length c0, .slice A1 l1.length c1, .agg #[.int .i64 a0, .int .i64 a1, .int .i64 a2]] w fun e w' => ∃ (A : Option Addr) (c : Nat), e = .returned (.slice A r.length c) ∧ r.length ≤ c ∧ Kd.C (Kd.slice 3 (Kd.int .i64)) w' A r.length r ∧ Below w.heap.size w w' := by
 have HR0 := XB hr0; have HC0 := XB hc0; have HR1 := XB hr1; have HC1 := XB hc1; clear hr0 hc0 hr1 hc1; unfold log_table.f at h; split at h
 case isFalse => cases h
 case isTrue hg =>
 obtain ⟨g1, g2, go, gi, gc⟩ := hg; have HRES := XB (Option.some.inj h); clear h; have HB := XB (Below.refl w.heap.size w); have GO := XB go; have GI := XB gi; have GC := XB gc; clear go gi gc; obtain ⟨W, L, N, hW, hL, hN, eW, eL, eN, N0, N121⟩ := log_dims (p := l0.length) (q := l1.length) g1 g2; have hmk : ∀ wx : World, (Instr.makeSlice 22 (.int .i64 (N : Int)) (.int .i64 (N : Int))).run Try.prog wx = .ok (.slice (some ⟨wx.heap.size, 0, none⟩) N N) (wx.alloc (.cells (log_cells (List.replicate N 0)) 3)) := by
  intro wx; have hi3 := info3
  cases hq : Try.prog.info? 3 with
  | none => rw [hq] at hi3; cases hi3
  | some i =>
   rw [hq] at hi3; simp only [Option.map_some, Option.some.injEq, Prod.mk.injEq] at hi3; have k := run_make (P := Try.prog) wx 22 3 i (.int .i64 0) Try.underlying22 hq hi3.1 .i64 .i64 (N : Int) (N : Int) (by omega) (by omega) (by rw [hi3.2.2]; omega) (by omega); rw [hi3.2.1, Int.toNat_natCast, Nat.mul_one, log_made] at k; exact k
 have G1 := XB g1; have G2 := XB g2; have HN121 := XB N121; have HW := XB hW; have HL := XB hL; have HN := XB hN; clear g1 g2 hW hL hN N121; have hu24 := Try.underlying24; go_enter Try.func77, Try.ntmps77
 go_wp2_with (first | ((with_reducible refine gate_dst (N := 5) rfl ?_); refine box_event ?hg (N := 5) ?hd (cs := #[.int .i64 a0, .int .i64 a1, .int .i64 a2]) (t := 24) ?hr ?_; (case hd => rfl); (case hg => rfl); (case hr => first | (go_simp; done) | (go_simp; rfl)); intro gb101 hg w5 hbox hb; have HBX := XB hbox; have HB5 := XB hb; have HGB := XB hg; clear hb hg hbox))
 have HFILL : Aside0 ((w5.alloc (.cells (log_cells (List.replicate N 0)) 3)).heap[w5.heap.size]? = some (.cells (log_cells (log_fill (log_tb l0 l1 a0 a1 a2) W N (0 * W))) 3 (0, 0))) := ⟨by
  rw [(MapKept.heap_alloc _ _).1, Nat.zero_mul]
  congr 4
  refine List.ext_getElem? (fun j => ?_)
  by_cases hj : j < N
  ·rw [log_fill_get _ hj, if_neg (by omega)]; simp [hj]
  ·rw [List.getElem?_eq_none (by simp; omega), List.getElem?_eq_none (by rw [log_fill_len]; omega)]⟩
 have HBX6 : Aside0 ((w5.alloc (.cells (log_cells (List.replicate N 0)) 3)).heap[gb101]? = some (.cells #[.int .i64 a0, .int .i64 a1, .int .i64 a2] 24 (0, 0))) := ⟨((MapKept.heap_alloc _ _).2 _ (Array.getElem?_eq_some_iff.1 HBX.out).1).trans HBX.out⟩; have HINV : Aside0 (log_inv w (w5.alloc (.cells (log_cells (List.replicate N 0)) 3)) w5.heap.size gb101 W a0 a1 a2 (log_fill (log_tb l0 l1 a0 a1 a2) W N (0 * W)) (.slice none 0 0) (List.range 0)) := ⟨HFILL.out, HBX6.out, Kd.R_nil _ _ _ _ _, Xc HB5.out (.cells (log_cells (List.replicate N 0)) 3)⟩; have HGG : Aside0 (w.heap.size ≤ w5.heap.size) := ⟨XC HB5.out⟩; have HGB2 : Aside0 (w.heap.size ≤ gb101 ∧ gb101 < w5.heap.size) := ⟨by rw [HGB.out]; exact Nat.le_refl _, (Array.getElem?_eq_some_iff.1 HBX.out).1⟩; obtain ⟨g, hg⟩ : ∃ g, g = w5.heap.size := ⟨_, rfl⟩
 clear HFILL HBX6 HB5 hg; have HNE : Aside0 (gb101 ≠ w5.heap.size) := ⟨Nat.ne_of_lt HGB2.out.2⟩; go_loopg [9, 25] L (fun kq v9 v25 w' => ∃ (a : Nat), v25 = .int .i64 (a : Int) ∧ Aside0 (a + kq = L) ∧ Aside0 (log_inv w w' w5.heap.size gb101 W a0 a1 a2 (log_fill (log_tb l0 l1 a0 a1 a2) W N (a * W)) v9 (List.range a)))
 case atStart => exact ⟨0, rfl, ⟨by omega⟩, HINV⟩
 case round =>
  clear HINV; obtain ⟨a, rfl, HK, HI⟩ := hrel; obtain ⟨wo, hwo⟩ : ∃ wo, wo = wr := ⟨_, rfl⟩
  subst hwo; by_cases c3 : (a : Int) < (L : Int)
  ·have c3b0 := decide_eq_true c3; obtain ⟨q0, rfl⟩ : ∃ q, gk = q + 1 := ⟨gk - 1, by have := HK.out; omega⟩
   obtain ⟨r1, r2, hr1, hr2, hr12, e1, e2, e3, e4, e5, s1, s2, s3, s4, s5, s6⟩ := log_rows HN.out (show a < L by have := HK.out; omega) (show L ≤ 11 by rw [HL.out]; have := G1.out; omega) (show 1 ≤ W ∧ W ≤ 11 by rw [HW.out]; have := G2.out; omega); have HI1 : Aside0 (log_inv w wo w5.heap.size gb101 W a0 a1 a2 (log_fill (log_tb l0 l1 a0 a1 a2) W N (r1 + 0)) u9 (List.range a)) := ⟨by rw [hr1, Nat.add_zero]; exact HI.out⟩; have HRR := XB hr1; have HRS := XB hr12; have HRT := XB s3; clear hr1 hr2 hr12; go_wp2
   go_loopg [43] W (fun kq v43 w2 => ∃ (k : Nat), v43 = .int .i64 (k : Int) ∧ Aside0 (k + kq = W) ∧ Aside0 (log_inv w w2 w5.heap.size gb101 W a0 a1 a2 (log_fill (log_tb l0 l1 a0 a1 a2) W N (r1 + k)) u9 (List.range a)))
   case atStart => exact ⟨0, rfl, ⟨by omega⟩, HI1⟩
   case round =>
    clear HI HI1 s1 s2 s3 s4 s5 s6 e1 e3 e4 e5; obtain ⟨k, rfl, HK2, HI⟩ := hrel; by_cases c4 : (k : Int) < (W : Int)
    ·have c4b0 := decide_eq_true c4; obtain ⟨q1, rfl⟩ : ∃ q, gk = q + 1 := ⟨gk - 1, by have := HK2.out; omega⟩
     have ek : wrap64 ((k : Int) + 1) = ((k + 1 : Nat) : Int) := by have := HW.out; have := G2.out; unfold wrap64; omega
     have EK := XB ek; have HPN : Aside0 (r1 + k < N) := ⟨by have := HRT.out; have := HRS.out; omega⟩; have HKW : Aside0 (k < W) := ⟨by omega⟩; clear ek; obtain ⟨hb0, hb1, hb2⟩ := log_box HI.out; by_cases ha : a = 0
     ·subst ha; have em : IntKind.i64.wrap ((k : Int) * a1) = log_tb l0 l1 a0 a1 a2 0 k := by
       rw [log_tb, i64_w]; exact log_w90 (by have := HW.out; have := G2.out; omega) GI.out
      go_wp2_with (first | ((with_reducible refine gate_callee (f := 58) rfl ?_); refine goesL_ (some 106) rfl rfl Try.func58 (by kernel_rfl) rfl #[.agg #[.int .i64 a0, .int .i64 a1, .int .i64 a2], .iface 95 (.agg #[])] rfl (by (try simp only [Xm, Xn, Xo]); first | done | rfl) ?_; refine (log_cost.ins a0 a1 a2 _).mono ?_; rintro e w7 ⟨rfl, hb7⟩; refine ⟨_, rfl, ?_⟩; have HI7 := XB (log_inv_below HI.out hb7); have hcz := log_cell0 HI7.out HPN.out; have hfz := log_frz HI7.out (r1 + k); clear hb7))
      go_roundg q1
      case measure => omega
      case rel => exact ⟨k + 1, (by first | (rw [EK.out]; done) | (simp [EK.out]; done)), ⟨by have := HK2.out; omega⟩, ⟨log_inv_next HI7.out HNE.out HGG.out HPN.out HKW.out (by rw [HRR.out]) rfl⟩⟩
     ·obtain ⟨a', ha'⟩ : ∃ a', a = a' + 1 := ⟨a - 1, by omega⟩
      have c5b0 : ((a : Int) == 0) = false := beq_eq_false_iff_ne.mpr (by omega); have HA' := XB ha'; clear ha ha'; by_cases hk0 : k = 0
      ·subst hk0; have em : IntKind.i64.wrap ((a : Int) * a0) = log_tb l0 l1 a0 a1 a2 a 0 := by
        have e := HA'.out; rw [e, log_tb, i64_w]; exact log_w90 (by have := HK.out; have := HL.out; have := G1.out; omega) GO.out
       go_wp2_with (first | ((with_reducible refine gate_callee (f := 58) rfl ?_); refine goesL_ (some 118) rfl rfl Try.func58 (by kernel_rfl) rfl #[.agg #[.int .i64 a0, .int .i64 a1, .int .i64 a2], .iface 87 (.agg #[])] rfl (by (try simp only [Xm, Xn, Xo]); first | done | rfl) ?_; refine (log_cost.out a0 a1 a2 _).mono ?_; rintro e w7 ⟨rfl, hb7⟩; refine ⟨_, rfl, ?_⟩; have HI7 := XB (log_inv_below HI.out hb7); have hcz : w7.cell? ⟨w5.heap.size, r1, none⟩ = some (.int .i64 0) := log_cell0 HI7.out HPN.out; have hfz : w7.frozen? ⟨w5.heap.size, r1, none⟩ = false := log_frz HI7.out (r1 + 0); clear hb7))
       go_roundg q1
       case measure => omega
       case rel => exact ⟨0 + 1, (by first | (rw [EK.out]; done) | (simp [EK.out]; done)), ⟨by have := HK2.out; omega⟩, ⟨log_inv_next HI7.out HNE.out HGG.out HPN.out HKW.out (by simp [HRR.out]) rfl⟩⟩
      ·obtain ⟨k', hk'⟩ : ∃ k', k = k' + 1 := ⟨k - 1, by omega⟩
       have c6b0 : ((k : Int) == 0) = false := beq_eq_false_iff_ne.mpr (by omega); have HK' := XB hk'; clear hk0 hk'; obtain ⟨r0, hr0⟩ : ∃ r0, r0 = a' * W := ⟨_, rfl⟩
       have ha11 : a' < a := by have := HA'.out; omega
       obtain ⟨ad9, c9, e9, h9, hb9⟩ := log_hdr HI.out ha11; subst e9; rw [← hr0] at h9; obtain ⟨ad0, e10, h10⟩ := Kd.at_int HR0.out (a' : Int) (by omega) (by have := HA'.out; have := HL.out; have := HK.out; omega); obtain ⟨ad1, e11, h11⟩ := Kd.at_int HR1.out (k' : Int) (by omega) (by have := HK'.out; have := HW.out; omega); subst e10; subst e11; rw [Int.toNat_natCast] at h10 h11; have hra : r1 = r0 + W := by rw [HRR.out, HA'.out, hr0, Nat.add_mul, Nat.one_mul]
       have hlt1 : r0 + k < r1 + k := by have := HKW.out; omega
       have hlt2 : r0 + k' < r1 + k := by have := HKW.out; have := HK'.out; omega
       have hlt3 : r1 + k' < r1 + k := by have := HK'.out; omega
       have hk'W : k' < W := by have := HKW.out; have := HK'.out; omega
       have hS := And.intro h9 (And.intro (log_cellT HI.out hlt1 (Nat.le_of_lt HPN.out) HKW.out (by rw [hr0])) (And.intro (log_cellT HI.out hlt2 (Nat.le_of_lt HPN.out) hk'W (by rw [hr0])) (And.intro (log_cellT (a := a) HI.out hlt3 (Nat.le_of_lt HPN.out) hk'W (by rw [HRR.out])) (And.intro hb0 (And.intro hb1 (And.intro hb2 (And.intro (log_cell_below' HI.out.2.2.2 h10) (log_cell_below' HI.out.2.2.2 h11)))))))); have ha10 : a' ≤ 10 := by have := HA'.out; have := HL.out; have := HK.out; have := G1.out; omega
       have haa : a ≤ 10 := by have := HL.out; have := HK.out; have := G1.out; omega
       have hkk : k ≤ 10 := by have := HKW.out; have := HW.out; have := G2.out; omega
       have hk10 : k' ≤ 10 := by have := HK'.out; omega
       have es1 := log_sum (l := l0) (m := l1) GO.out GI.out GC.out ha10 hkk GO.out; have es2 := log_sum (l := l0) (m := l1) GO.out GI.out GC.out haa hk10 GI.out; have es3 := log_sum (l := l0) (m := l1) GO.out GI.out GC.out ha10 hk10 (log_ch_range GC.out (rd l0 (a' : Int)) (rd l1 (k' : Int))); have ei1 := log_pred HA'.out (by omega); have ei2 := log_pred HK'.out (by omega); have b1 : (a' : Int) < (l0.length : Int) := by have := HA'.out; have := HL.out; have := HK.out; omega
       have b2 : (k' : Int) < (l1.length : Int) := by have := HK'.out; have := HW.out; omega
       have b3 : (k' : Int) < (W : Int) := by omega
       have b4 : (a' : Int) < (a : Int) := by omega
       have b5 : (0 : Int) ≤ (a' : Int) := by omega
       have b6 : (0 : Int) ≤ (k' : Int) := by omega
       have b7 : (0 : Int) ≤ (k : Int) := by omega
       have hw0 : ad0.block < w.heap.size := by have := World.block_lt_of_cell? w _ h10; rwa [log_add_blk] at this
       have hw1 : ad1.block < w.heap.size := by have := World.block_lt_of_cell? w _ h11; rwa [log_add_blk] at this
       have HN9 : Aside0 (ad9.add a' ≠ ⟨w5.heap.size, r1 + k, none⟩ ∧ (⟨w5.heap.size, r0 + k, none⟩ : Addr) ≠ ⟨w5.heap.size, r1 + k, none⟩ ∧ (⟨w5.heap.size, r0 + k', none⟩ : Addr) ≠ ⟨w5.heap.size, r1 + k, none⟩ ∧ (⟨w5.heap.size, r1 + k', none⟩ : Addr) ≠ ⟨w5.heap.size, r1 + k, none⟩ ∧ (⟨gb101, 0, none⟩ : Addr) ≠ ⟨w5.heap.size, r1 + k, none⟩ ∧ (⟨gb101, 1, none⟩ : Addr) ≠ ⟨w5.heap.size, r1 + k, none⟩ ∧ (⟨gb101, 2, none⟩ : Addr) ≠ ⟨w5.heap.size, r1 + k, none⟩ ∧ ad0.add a' ≠ ⟨w5.heap.size, r1 + k, none⟩ ∧ ad1.add k' ≠ ⟨w5.heap.size, r1 + k, none⟩) :=
        ⟨log_blk (by rw [log_add_blk]; exact hb9), log_off (Nat.ne_of_lt hlt1), log_off (Nat.ne_of_lt hlt2), log_off (Nat.ne_of_lt hlt3), log_blk HNE.out, log_blk HNE.out, log_blk HNE.out, log_blk (by rw [log_add_blk]; exact Nat.ne_of_lt (Nat.lt_of_lt_of_le hw0 HGG.out)), log_blk (by rw [log_add_blk]; exact Nat.ne_of_lt (Nat.lt_of_lt_of_le hw1 HGG.out))⟩
       clear hb9 hw0 hw1; clear h9 h10 h11 hb0 hb1 hb2 hlt1 hlt2 hlt3 ha10 haa hkk hk10 hra hr0 ha11 hk'W; go_wp2
       go_region_held3 (fun w' => w'.cell? (ad9.add a') = some (.slice (some ⟨w5.heap.size, r0, none⟩) W W) ∧ w'.cell? ⟨w5.heap.size, r0 + k, none⟩ = some (.int .i64 (log_tb l0 l1 a0 a1 a2 a' k)) ∧ w'.cell? ⟨w5.heap.size, r0 + k', none⟩ = some (.int .i64 (log_tb l0 l1 a0 a1 a2 a' k')) ∧ w'.cell? ⟨w5.heap.size, r1 + k', none⟩ = some (.int .i64 (log_tb l0 l1 a0 a1 a2 a k')) ∧ w'.cell? ⟨gb101, 0, none⟩ = some (.int .i64 a0) ∧ w'.cell? ⟨gb101, 1, none⟩ = some (.int .i64 a1) ∧ w'.cell? ⟨gb101, 2, none⟩ = some (.int .i64 a2) ∧ w'.cell? (ad0.add a') = some (.int .i64 (rd l0 (a' : Int))) ∧ w'.cell? (ad1.add k') = some (.int .i64 (rd l1 (k' : Int)))) (first | exact hS | exact log_nine_set HN9 hS) (first | (go_at_call 58; refine (log_cost.any (a0 := a0) (a1 := a1) (a2 := a2) (by first | exact log_edit.out | exact log_edit.ins | exact log_edit.both _ _) _).mono ?_; rintro e w7 ⟨rfl, hb7⟩; have hS := log_nine_below hb7 hS; have HI := XB (show log_inv w w7 w5.heap.size gb101 W a0 a1 a2 (log_fill (log_tb l0 l1 a0 a1 a2) W N (r1 + k)) (.slice (some ad9) a c9) (List.range a) from by first | exact log_inv_below HI.out hb7 | exact log_inv_below (log_inv_drew HI.out) hb7); have hcz := log_cell0 HI.out HPN.out; have hfz := log_frz HI.out (r1 + k); clear hb7))
       rw [log_tb_min HA'.out HK'.out]; go_wp2
       go_roundg q1
       case measure => omega
       case rel => exact ⟨k + 1, (by first | (rw [EK.out]; done) | (simp [EK.out]; done)), ⟨by have := HK2.out; omega⟩, ⟨log_inv_next HI.out HNE.out HGG.out HPN.out HKW.out (by rw [HRR.out]) rfl⟩⟩
    ·have c4b0 := decide_eq_false c4; have ekW : k = W := by have := HK2.out; omega
     subst ekW; clear c4; obtain rfl : r1 = a * k := HRR.out; have hgs : w5.heap.size + 1 ≤ wr.heap.size := (Array.getElem?_eq_some_iff.1 HI.out.1).1; have HGS := XB hgs; clear hgs; go_wp2_with (first | ((with_reducible refine gate_builtin (b := .append) (xs := #[.tmp 122, .tmp 124]) rfl ?_); (try (refine gate_guard (by rfl) ?_; dsimp only)); at_builtin; refine Kd.R_append (log_ks w5.heap.size k) (w0 := wr) (w5.heap.size + 1) rfl (.tmp 122) (.tmp 124) 44 22 (.slice none 0 0) 24 rfl Try.underlying44 info22 rfl Nat.zero_lt_one (by omega) u9 (List.range a) a [.slice (some ⟨w5.heap.size, a * k, none⟩) k k] (fun _ => True) (fun _ => False) rfl rfl ?aP (fun _ hk => hk.elim) ?aF ?aO ?aB ?aS ?aL ?_; (case aP => exact rfl); (case aB => exact Below.refl _ _); (case aF => exact (fun _ _ => trivial)); (case aO => exact HI.out.2.2.1); (case aS => exact HGS.out); (case aL => rw [List.length_range]; have := HK.out; have := HL.out; have := G1.out; omega); intro v110 w19 ho hb hg hat; have HB5 := XB hb; have HO111 := XB ho; clear ho hb hg hat))
     go_roundg q0
     case measure => omega
     case rel =>
      refine ⟨a + 1, YG, ⟨by have := HK.out; omega⟩, ⟨?_, ?_, ?_, ?_⟩⟩
      ·have := (HB5.out.block w5.heap.size (Nat.lt_succ_self _)).trans HI.out.1; rw [Nat.add_mul, Nat.one_mul]; exact this
      ·exact (HB5.out.block gb101 (Nat.lt_succ_of_lt HGB2.out.2)).trans HI.out.2.1
      ·rw [List.range_succ]; exact HO111.out
      ·exact HI.out.2.2.2.trans (HB5.out.mono (Nat.le_succ_of_le HGG.out))
  ·have c3b0 := decide_eq_false c3; have eaL : a = L := by have := HK.out; omega
   subst eaL; clear c3; obtain ⟨Ar, cr, er, hcr, hCr⟩ := log_C_rows (L := a) (W := W) (T := log_tb l0 l1 a0 a1 a2) (by have := HI.out; rw [HN.out] at this; exact this) (by have := HW.out; have := G2.out; omega); subst er; have HCR := XB hCr; have HCL := XB hcr; clear hCr hcr; have eres : (List.range a).map (fun x => (List.range W).map (log_tb l0 l1 a0 a1 a2 x)) = r := by rw [HL.out, HW.out]; exact HRES.out
   have elen : r.length = a := by rw [← eres]; simp
   have HE := XB eres; have HLN := XB elen; clear eres elen; go_wp2
   go_ret
   refine ⟨Ar, cr, ?_, ?_, ?_, HI.out.2.2.2⟩
   ·rw [HLN.out]; first | done | rfl | (simp; done)
   ·rw [HLN.out]; exact HCL.out
   ·rw [HLN.out, ← HE.out]; exact HCR.out


/-! ### log_distance: function 61 -/
def log_distance.f (l0 l1 : List Int) (a0 a1 a2 : Int) : Option Int := (log_table.f l0 l1 a0 a1 a2).bind fun _ => some (log_tb l0 l1 a0 a1 a2 l0.length l1.length)
set_option maxHeartbeats 8000000 in
set_option maxRecDepth 100000 in
theorem log_distance.calls (A0 : Option Addr) (c0 : Nat) (l0 : List Int) (A1 : Option Addr) (c1 : Nat) (l1 : List Int) (a2_0 a2_1 a2_2 : Int) (r : Int) (w : World) (hr0 : Kd.C (Kd.int .i64) w A0 l0.length l0) (hc0 : l0.length ≤ c0) (hr1 : Kd.C (Kd.int .i64) w A1 l1.length l1) (hc1 : l1.length ≤ c1) (h : log_distance.f l0 l1 a2_0 a2_1 a2_2 = some r) :
  Calls Try.prog 61 #[.slice A0 l0.length c0, .slice A1 l1.length c1, .agg #[.int .i64 a2_0, .int .i64 a2_1, .int .i64 a2_2]] w fun e w' => e = .returned (.int .i64 r) ∧ Below w.heap.size w w' := by
 have HR0 := XB hr0; have HC0 := XB hc0; have HR1 := XB hr1; have HC1 := XB hc1; clear hr0 hc0 hr1 hc1; unfold log_distance.f at h; obtain ⟨T, h1, h⟩ := Option.bind_eq_some_iff.mp h; have HT := XB h1; have hT : l0.length ≤ 10 ∧ l1.length ≤ 10 ∧ T = (List.range (l0.length + 1)).map fun a => (List.range (l1.length + 1)).map (log_tb l0 l1 a2_0 a2_1 a2_2 a) := by
  unfold log_table.f at h1; split at h1
  ·rename_i hg
   exact ⟨hg.1, hg.2.1, (Option.some.inj h1).symm⟩
  ·cases h1
 obtain ⟨g1, g2, hT⟩ := hT; obtain rfl := Option.some.inj h; have hlen : T.length = l0.length + 1 := by rw [hT]; simp
 have hrow : rd_L1 T (l0.length : Int) = (List.range (l1.length + 1)).map (log_tb l0 l1 a2_0 a2_1 a2_2 l0.length) := by
  unfold rd_L1; rw [hT]; simp
 have hrl : (rd_L1 T (l0.length : Int)).length = l1.length + 1 := by rw [hrow]; simp
 have hval : rd (rd_L1 T (l0.length : Int)) (l1.length : Int) = log_tb l0 l1 a2_0 a2_1 a2_2 l0.length l1.length := by
  rw [hrow]; simp [rd]
 have hu24 := Try.underlying24; clear h h1 hT; have HLEN := XB hlen; have HRL := XB hrl; have HVAL := XB hval; have G1 := XB g1; have G2 := XB g2; clear hlen hrow hrl hval g1 g2; go_enter Try.func61, Try.ntmps61
 go_wp2_with ((with_reducible refine gate_callee (f := 77) rfl ?_); refine goesL_ (some 10) rfl rfl Try.func77 (by kernel_rfl) rfl #[.slice A0 l0.length c0, .slice A1 l1.length c1, .agg #[.int .i64 a2_0, .int .i64 a2_1, .int .i64 a2_2]] rfl (by (try simp only [Xm, Xn, Xo]); first | done | rfl) ?_; (refine (log_table.calls _ _ l0 _ _ l1 a2_0 a2_1 a2_2 T _ ?side1 ?side2 ?side3 ?side4 HT.out).mono ?_); (case side1 => repeat (first | exact HR0.out | (with_reducible refine Xr ?_ _))); (case side2 => exact HC0.out); (case side3 => repeat (first | exact HR1.out | (with_reducible refine Xr ?_ _))); (case side4 => exact HC1.out); rintro e w6 ⟨A, c, rfl, hc6, hC6, hb6⟩; refine ⟨_, rfl, ?_⟩; have HB6 := XB hb6; obtain ⟨ad, A2, c2, eA, hx, hl2, hi2⟩ := at_L1 hC6 (l0.length : Int) (by omega) (by rw [HLEN.out]; omega); subst eA; rw [HRL.out, Int.toNat_natCast] at hx; rw [HRL.out] at hi2; obtain ⟨ad2, eB, hy⟩ := Kd.at_int hi2 (l1.length : Int) (by omega) (by omega); subst eB; rw [HVAL.out, Int.toNat_natCast] at hy; have b1 : (l0.length : Int) < (T.length : Int) := (by rw [HLEN.out]; omega); have b2 : (0 : Int) ≤ (l0.length : Int) := (by omega); have b3 : (l1.length : Int) < ((l1.length + 1 : Nat) : Int) := (by omega); have b4 : (0 : Int) ≤ (l1.length : Int) := (by omega); clear hb6 hC6 hc6 hl2 hi2)
 first | go_ret | go_ret2
 exact ⟨by first | rfl | (simp; done) | (simp [*]; done), (Xc (Below.refl _ _) _).trans (HB6.out.mono (by rw [World.size_alloc]; exact Nat.le_succ _))⟩


end Go.Proofs.Ytcbepmdnhjojdaa.P
