-- laid by a program of this session (wip/tools): plain functions of the Go code and their contracts
-- thinned4
-- thinned3
-- thinned
import Derived.Test.YtboefcikdfjfmaaPx0
import Derived.Test.YtboefcikdfjfmaaPx4
namespace Go.Proofs.Ytboefcikdfjfmaa.P
open Go.RowKit Go.Proofs.YtboefcikdfjfmaaW.PrintWords Go.Proofs.YtboefcikdfjfmaaW.PrintLast Go.Proofs.YtboefcikdfjfmaaW.PrintMore
attribute [local go_sem] max2_int min2_int max_two min_two max_three min_three max_four min_four   -- for this text's walks alone
set_option linter.unusedVariables false
set_option linter.unusedSimpArgs false

/-! ### air_worth: function 64 -/
def air_worth.l0 : Nat → Int → List Int → Int → Int → Option (Int)
 | 0, _, _, _, _ => none
 | k + 1, x3, x6, x7, x8 => if x8 < x7 then (if 0 ≤ x8 then (if x8 < (x6.length : Int) then (air_worth.l0 k (wrap64 (x3 + (rd x6 x8))) x6 x7 (wrap64 (x8 + 1))) else (none)) else (none)) else (some x3)
def air_worth.f (k : Nat) (l0 : List Int) : Option (Int) := air_worth.l0 k 0 l0 (l0.length : Int) 0
theorem air_worth.mono_l : ∀ k, (∀ y0 y1 y2 y3, LeO (air_worth.l0 k y0 y1 y2 y3) (air_worth.l0 (k + 1) y0 y1 y2 y3))
 | 0 => fun _ _ _ _ r h => by simp [air_worth.l0] at h
 | k + 1 => by
  have ih0 := air_worth.mono_l k; (intro y0 y1 y2 y3; unfold air_worth.l0; repeat' with_reducible first | exact ih0 _ _ _ _ | exact LeO.refl _ | exact LeO.none _ | refine LeO.ite ?_ ?_ | refine LeO.bind ?_ (fun _ => ?_))
theorem air_worth.mono : ∀ a0 k, LeO (air_worth.f k a0) (air_worth.f (k + 1) a0) := by
 intro a0 k; have ih0 := air_worth.mono_l k; unfold air_worth.f; repeat' with_reducible first | exact ih0 _ _ _ _ | exact LeO.refl _ | exact LeO.none _ | refine LeO.ite ?_ ?_ | refine LeO.bind ?_ (fun _ => ?_)
set_option maxHeartbeats 8000000 in
set_option maxRecDepth 100000 in
theorem air_worth.calls (k : Nat) (A0 : Option Addr) (c0 : Nat) (l0 : List Int) (r : Int) (w : World) (hr0 : Kd.C (Kd.int .i64) w A0 l0.length l0) (hc0 : l0.length ≤ c0) (h : air_worth.f k l0 = some r) :
  Calls Try.prog 64 #[.slice A0 l0.length c0] w fun e w' => e = .returned (.int .i64 r) ∧ Drawn0 w w' := by
 (((have HR0 := XB hr0; have HC0 := XB hc0; clear hr0 hc0; have H : (air_worth.l0 k 0 l0 (l0.length : Int) 0) = some r := h; clear h; have H' := XB H; clear H; go_enter Try.func64, Try.ntmps64); go_wp2); go_loopg [3, 8] k (fun kq v3 v8 w' => ∃ (x3_1 : Int) (x8_1 : Int), v3 = .int .i64 x3_1 ∧ v8 = .int .i64 x8_1 ∧ Aside0 (air_worth.l0 kq x3_1 l0 (l0.length : Int) x8_1 = some r) ∧ Aside0 (kq ≤ k) ∧ Drawn0 w w')); case atStart => exact ⟨(0), (0), YG, YG, H', ⟨Nat.le_refl _⟩, by repeat (first | exact Drawn0.refl _ | apply Drawn0.step)⟩
 case round =>
  clear H'; obtain ⟨x3_1, x8_1, rfl, rfl, HA, HK1, ⟨m1, rfl⟩⟩ := hrel; cases gk with
  | zero => exact absurd HA.out (by simp [air_worth.l0])
  | succ k1 =>
   have H := HA.out; clear HA; simp only [air_worth.l0] at H; by_cases c2 : x8_1 < (l0.length : Int)
   ·rw [if_pos c2] at H; have c2b0 := decide_eq_true c2; clear c2; by_cases c3 : 0 ≤ x8_1
    ·rw [if_pos c3] at H; have c3b0 := decide_eq_true c3; clear c3; by_cases c4 : x8_1 < (l0.length : Int)
     ·rw [if_pos c4] at H; have c4b0 := decide_eq_true c4; clear c4; have H' := XB H; clear H; have p101 : 0 ≤ (x8_1 : Int) := YD; have q101 : x8_1 < (l0.length : Int) := YD; obtain ⟨ad101, e101, hx101_0⟩ := Kd.at_int HR0.out x8_1 p101 q101; cases e101; (replace p101 := eq_true p101; replace q101 := eq_true q101; go_wp2); (go_roundg k1)
      (case measure => have := HK1.out; omega); case rel => exact ⟨(wrap64 (x3_1 + (rd l0 x8_1))), (wrap64 (x8_1 + 1)), YG, YG, H', ⟨by have := HK1.out; omega⟩, by repeat (first | exact Drawn0.refl _ | apply Drawn0.step)⟩
     (rw [if_neg c4] at H; exact absurd H (by simp))
    (rw [if_neg c3] at H; exact absurd H (by simp))
   ·(rw [if_neg c2] at H; have c2b0 := decide_eq_false c2; clear c2; obtain rfl := Option.some.inj H; go_wp2); (go_ret); exact ⟨by first | rfl | (simp; done) | (simp [*]; done), by repeat (first | exact Drawn0.refl _ | apply Drawn0.step)⟩

/-! ### air_CheckPrices: function 28 -/
def air_CheckPrices.f (k : Nat) (a0_0 : Int) (a0_1 : Int) (l0_2 : List Int) (l0_3 : List Int) (l1 : List Int) : Option (Int × Int) := (air_priced.f k a0_0 a0_1 l0_2 l0_3 l1).bind fun t102 => (if t102 = 0 then ((air_worth.f k l1).bind fun t103 => (some (t103, 0))) else (some (0, t102)))
theorem air_CheckPrices.mono : ∀ a0 a1 a2 a3 a4 k, LeO (air_CheckPrices.f k a0 a1 a2 a3 a4) (air_CheckPrices.f (k + 1) a0 a1 a2 a3 a4) := by
 intro a0 a1 a2 a3 a4 k; unfold air_CheckPrices.f; repeat' with_reducible first | exact air_priced.mono _ _ _ _ _ _ | exact air_worth.mono _ _ | exact LeO.refl _ | exact LeO.none _ | refine LeO.ite ?_ ?_ | refine LeO.bind ?_ (fun _ => ?_)
set_option maxHeartbeats 8000000 in
set_option maxRecDepth 100000 in
theorem air_CheckPrices.calls (k : Nat) (a0_0 : Int) (a0_1 : Int) (A0_2 : Option Addr) (c0_2 : Nat) (l0_2 : List Int) (A0_3 : Option Addr) (c0_3 : Nat) (l0_3 : List Int) (A1 : Option Addr) (c1 : Nat) (l1 : List Int) (r1 : Int) (r2 : Int) (w : World) (hr0_2 : Kd.C (Kd.int .i64) w A0_2 l0_2.length l0_2) (hc0_2 : l0_2.length ≤ c0_2) (hr0_3 : Kd.C (Kd.int .i64) w A0_3 l0_3.length l0_3) (hc0_3 : l0_3.length ≤ c0_3) (hr1 : Kd.C (Kd.int .i64) w A1 l1.length l1) (hc1 : l1.length ≤ c1) (h : air_CheckPrices.f k a0_0 a0_1 l0_2 l0_3 l1 = some (r1, r2)) :
  Calls Try.prog 28 #[.agg #[.int .i64 a0_0, .int .i64 a0_1, .slice A0_2 l0_2.length c0_2, .slice A0_3 l0_3.length c0_3], .slice A1 l1.length c1] w fun e w' => e = .returned (.tuple #[.int .i64 r1, .int .i64 r2]) ∧ Below w.heap.size w w' := by
 have hu24 := Try.underlying24; have HR0_2 := XB hr0_2; have HC0_2 := XB hc0_2; clear hr0_2 hc0_2; have HR0_3 := XB hr0_3; have HC0_3 := XB hc0_3; clear hr0_3 hc0_3; have HR1 := XB hr1; have HC1 := XB hc1; clear hr1 hc1; have HB := XB (Below.refl w.heap.size w); have H : ((air_priced.f k a0_0 a0_1 l0_2 l0_3 l1).bind fun t102 => (if t102 = 0 then ((air_worth.f k l1).bind fun t103 => (some (t103, 0))) else (some (0, t102)))) = some (r1, r2) := h; clear h; obtain ⟨t102, A3, H⟩ := YJ H; by_cases c4 : t102 = 0
 ·rw [if_pos c4] at H; have c4b0 := beq_iff_eq.mpr c4; have c4b1 := bne_eq_false_iff_eq.mpr c4; clear c4; obtain ⟨t103, A5, H⟩ := YJ H; simp only [Option.some.injEq, Prod.mk.injEq] at H; obtain ⟨rfl, rfl⟩ := H; go_enter Try.func28, Try.ntmps28
  go_wp2_with (first | ((with_reducible refine gate_dst (N := 2) rfl ?_); refine box_event ?hg (N := 2) ?hd (cs := #[.int .i64 a0_0, .int .i64 a0_1, .slice A0_2 l0_2.length c0_2, .slice A0_3 l0_3.length c0_3]) (t := 24) ?hr ?_; (case hd => rfl); (case hg => rfl); (case hr => first | (go_simp; done) | (go_simp; rfl)); intro gb101 hg w6 hbox hb; have n0_ := XB (Xz (XL HB) hb); have n1_ := XB (hbox); have n2_ := XB ((by rw [hg]; exact (XC (XL HB)) : w.heap.size ≤ gb101)); have n3_ := XB ((by rw [hg]; exact (XC (XL HB)) : w.heap.size ≤ gb101)); clear HB; have HB := n0_; have J101 := n1_; have GW101 := n2_; have E101 := n3_; clear n0_ n1_ n2_ n3_; clear hb hbox hg; obtain ⟨hcz7_0, hcz7_1, hcz7_2, hcz7_3, hfz7_0, hfz7_1, hfz7_2, hfz7_3⟩ := YK4 J101) | ((with_reducible refine gate_callee (f := 63) rfl ?_); refine YL (some 9) rfl rfl Try.func63 rfl #[.agg #[.int .i64 a0_0, .int .i64 a0_1, .slice A0_2 l0_2.length c0_2, .slice A0_3 l0_3.length c0_3], .slice A1 l1.length c1] rfl ?_; (with_reducible refine (air_priced.calls k a0_0 a0_1 _ _ l0_2 _ _ l0_3 _ _ l1 t102 _ ?side1 ?side2 ?side3 ?side4 ?side5 ?side6 A3.out).mono ?_); (case side1 => exact YE HR0_2 HB); (case side2 => exact HC0_2.out); (case side3 => exact YE HR0_3 HB); (case side4 => exact HC0_3.out); (case side5 => exact YE HR1 HB); (case side6 => exact HC1.out); rintro e w8 ⟨rfl, hb⟩; refine ⟨_, rfl, ?_⟩; replace J101 := XI J101 hb; replace HB := XB (Xz (XL HB) hb); (try clear hb)) | ((with_reducible refine gate_callee (f := 64) rfl ?_); refine YL (some 14) rfl rfl Try.func64 rfl #[.slice A1 l1.length c1] rfl ?_; (with_reducible refine (air_worth.calls k _ _ l1 t103 _ ?side1 ?side2 A5.out).mono ?_); (case side1 => exact YE HR1 HB); (case side2 => exact HC1.out); rintro e w' ⟨rfl, ⟨nd, rfl⟩⟩; refine ⟨_, rfl, ?_⟩))
  (go_ret2); exact ⟨YF, XL HB⟩
 ·(rw [if_neg c4] at H; have c4b0 := beq_eq_false_iff_ne.mpr c4; have c4b1 := bne_iff_ne.mpr c4; simp only [Option.some.injEq, Prod.mk.injEq] at H; obtain ⟨rfl, rfl⟩ := H; go_enter Try.func28, Try.ntmps28); (go_wp2_with (first | ((with_reducible refine gate_dst (N := 2) rfl ?_); refine box_event ?hg (N := 2) ?hd (cs := #[.int .i64 a0_0, .int .i64 a0_1, .slice A0_2 l0_2.length c0_2, .slice A0_3 l0_3.length c0_3]) (t := 24) ?hr ?_; (case hd => rfl); (case hg => rfl); (case hr => first | (go_simp; done) | (go_simp; rfl)); intro gb101 hg w9 hbox hb; have n0_ := XB (Xz (XL HB) hb); have n1_ := XB (hbox); have n2_ := XB ((by rw [hg]; exact (XC (XL HB)) : w.heap.size ≤ gb101)); have n3_ := XB ((by rw [hg]; exact (XC (XL HB)) : w.heap.size ≤ gb101)); clear HB; have HB := n0_; have J101 := n1_; have GW101 := n2_; have E101 := n3_; clear n0_ n1_ n2_ n3_; clear hb hbox hg; obtain ⟨hcz10_0, hcz10_1, hcz10_2, hcz10_3, hfz10_0, hfz10_1, hfz10_2, hfz10_3⟩ := YK4 J101) | ((with_reducible refine gate_callee (f := 63) rfl ?_); refine YL (some 9) rfl rfl Try.func63 rfl #[.agg #[.int .i64 a0_0, .int .i64 a0_1, .slice A0_2 l0_2.length c0_2, .slice A0_3 l0_3.length c0_3], .slice A1 l1.length c1] rfl ?_; (with_reducible refine (air_priced.calls k a0_0 a0_1 _ _ l0_2 _ _ l0_3 _ _ l1 t102 _ ?side1 ?side2 ?side3 ?side4 ?side5 ?side6 A3.out).mono ?_); (case side1 => exact YE HR0_2 HB); (case side2 => exact HC0_2.out); (case side3 => exact YE HR0_3 HB); (case side4 => exact HC0_3.out); (case side5 => exact YE HR1 HB); (case side6 => exact HC1.out); rintro e w11 ⟨rfl, hb⟩; refine ⟨_, rfl, ?_⟩; replace J101 := XI J101 hb; replace HB := XB (Xz (XL HB) hb); (try clear hb)))); (go_ret2); exact ⟨YF, XL HB⟩

end Go.Proofs.Ytboefcikdfjfmaa.P
