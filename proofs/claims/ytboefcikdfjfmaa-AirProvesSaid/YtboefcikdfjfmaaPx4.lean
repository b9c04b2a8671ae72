-- laid by a program of this session (wip/tools): plain functions of the Go code and their contracts
-- thinned
import Derived.Test.YtboefcikdfjfmaaPx0
import Derived.Test.YtboefcikdfjfmaaPx1
import Derived.Test.YtboefcikdfjfmaaPx3
namespace Go.Proofs.Ytboefcikdfjfmaa.P
open Go.RowKit Go.Proofs.YtboefcikdfjfmaaW.PrintWords Go.Proofs.YtboefcikdfjfmaaW.PrintLast Go.Proofs.YtboefcikdfjfmaaW.PrintMore
attribute [local go_sem] max2_int min2_int max_two min_two max_three min_three max_four min_four   -- for this text's walks alone
set_option linter.unusedVariables false
set_option linter.unusedSimpArgs false

/-! ### air_priced: function 63 -/
def air_priced.l0 : Nat → List Int → Int → Int → Int → Int → List Int → List Int → Option (Int)
 | 0, _, _, _, _, _, _, _ => none
 | k + 1, x1, x20, x21, x102000, x102001, x102002, x102003 => if x21 < x20 then (if 0 ≤ x21 then (if x21 < (x102003.length : Int) then (if (rd x102003 x21) = 0 then (if x21 < (x1.length : Int) then (if (rd x1 x21) > 0 then (some 7) else ((air_above.f k x102000 x102001 x102002 x102003 x1 x21).bind fun t106 => (if t106 > x102000 then (some 7) else (air_priced.l0 k x1 x20 (wrap64 (x21 + 1)) x102000 x102001 x102002 x102003)))) else (none)) else ((air_above.f k x102000 x102001 x102002 x102003 x1 x21).bind fun t107 => (if t107 > x102000 then (some 7) else (air_priced.l0 k x1 x20 (wrap64 (x21 + 1)) x102000 x102001 x102002 x102003)))) else (none)) else (none)) else (some 0)
def air_priced.f (k : Nat) (a0_0 : Int) (a0_1 : Int) (l0_2 : List Int) (l0_3 : List Int) (l1 : List Int) : Option (Int) := (air_Validate.f a0_0 a0_1 l0_2 l0_3).bind fun t102 => (if t102 = 0 then ((air_all.f l1 (l0_3.length : Int) 100000).bind fun t103 => (if t103 = true then (air_priced.l0 k l1 (l0_3.length : Int) 0 a0_0 a0_1 l0_2 l0_3) else (some 1))) else (some t102))
theorem air_priced.mono_l : ∀ k, (∀ y0 y1 y2 y3 y4 y5 y6, LeO (air_priced.l0 k y0 y1 y2 y3 y4 y5 y6) (air_priced.l0 (k + 1) y0 y1 y2 y3 y4 y5 y6))
 | 0 => fun _ _ _ _ _ _ _ r h => by simp [air_priced.l0] at h
 | k + 1 => by
  have ih0 := air_priced.mono_l k
  ·intro y0 y1 y2 y3 y4 y5 y6; unfold air_priced.l0; repeat' first
   | (with_reducible exact ih0 _ _ _ _ _ _ _)
   | (with_reducible exact air_above.mono _ _ _ _ _ _ _)
   | (with_reducible exact LeO.refl _)
   | (with_reducible exact LeO.none _)
   | (with_reducible refine LeO.ite ?_ ?_)
   | (with_reducible refine LeO.bind ?_ (fun _ => ?_))
   | exact ih0 _ _ _ _ _ _ _
   | exact air_above.mono _ _ _ _ _ _ _
   | exact LeO.none _
   | refine LeO.ite ?_ ?_
   | refine LeO.bind ?_ (fun _ => ?_)
theorem air_priced.mono : ∀ a0 a1 a2 a3 a4 k, LeO (air_priced.f k a0 a1 a2 a3 a4) (air_priced.f (k + 1) a0 a1 a2 a3 a4) := by
 intro a0 a1 a2 a3 a4 k; have ih0 := air_priced.mono_l k; unfold air_priced.f; repeat' first
   | (with_reducible exact ih0 _ _ _ _ _ _ _)
   | (with_reducible exact air_above.mono _ _ _ _ _ _ _)
   | (with_reducible exact LeO.refl _)
   | (with_reducible exact LeO.none _)
   | (with_reducible refine LeO.ite ?_ ?_)
   | (with_reducible refine LeO.bind ?_ (fun _ => ?_))
   | exact ih0 _ _ _ _ _ _ _
   | exact air_above.mono _ _ _ _ _ _ _
   | exact LeO.none _
   | refine LeO.ite ?_ ?_
   | refine LeO.bind ?_ (fun _ => ?_)
def air_priced.T9 : Bool × List (List Nat × List Nat) := (true, [([], []), ([0], [0]), ([], []), ([1, 2], [1, 2]), ([3], [3]), ([4], [4]), ([5], [5]), ([6], [6]), ([6], [6]), ([7, 8, 6], [6, 7, 8]), ([9, 6], [6, 9]), ([10, 6], [6, 10]), ([6, 11], [6, 11]), ([12, 6], [12]), ([13], [13]), ([13], [13]), ([13], [13]), ([14, 15, 16, 13, 13], [13, 14, 15, 16]), ([13], [13]), ([18, 13], [13, 18]), ([17, 19, 13], [13, 17, 19]), ([13, 20], [13, 20])])
def air_priced.B9 : List Nat := [0, 1, 0, 7, 15, 31, 63, 127, 127, 511, 1023, 2047, 4095, 8191, 16383, 16383, 16383, 131071, 16383, 278527, 1048575, 2097151]
theorem air_priced.tab9 : rtab .any (opsOf Try.f63 9) = air_priced.T9 := by kernel_rfl
theorem air_priced.bits9 : waitsOk air_priced.T9.2 air_priced.B9 = true := by kernel_rfl
set_option maxHeartbeats 8000000 in
set_option maxRecDepth 100000 in
theorem air_priced.calls (k : Nat) (a0_0 : Int) (a0_1 : Int) (A0_2 : Option Addr) (c0_2 : Nat) (l0_2 : List Int) (A0_3 : Option Addr) (c0_3 : Nat) (l0_3 : List Int) (A1 : Option Addr) (c1 : Nat) (l1 : List Int) (r : Int) (w : World) (hr0_2 : Kd.C (Kd.int .i64) w A0_2 l0_2.length l0_2) (hc0_2 : l0_2.length ≤ c0_2) (hr0_3 : Kd.C (Kd.int .i64) w A0_3 l0_3.length l0_3) (hc0_3 : l0_3.length ≤ c0_3) (hr1 : Kd.C (Kd.int .i64) w A1 l1.length l1) (hc1 : l1.length ≤ c1) (h : air_priced.f k a0_0 a0_1 l0_2 l0_3 l1 = some r) :
  Calls Try.prog 63 #[.agg #[.int .i64 a0_0, .int .i64 a0_1, .slice A0_2 l0_2.length c0_2, .slice A0_3 l0_3.length c0_3], .slice A1 l1.length c1] w fun e w' => e = .returned (.int .i64 r) ∧ Below w.heap.size w w' := by
 have hu24 := Try.underlying24; have HR0_2 := XB hr0_2; have HC0_2 := XB hc0_2; clear hr0_2 hc0_2; have HR0_3 := XB hr0_3; have HC0_3 := XB hc0_3; clear hr0_3 hc0_3; have HR1 := XB hr1; have HC1 := XB hc1; clear hr1 hc1; have HB := XB (Below.refl w.heap.size w); have H : ((air_Validate.f a0_0 a0_1 l0_2 l0_3).bind fun t102 => (if t102 = 0 then ((air_all.f l1 (l0_3.length : Int) 100000).bind fun t103 => (if t103 = true then (air_priced.l0 k l1 (l0_3.length : Int) 0 a0_0 a0_1 l0_2 l0_3) else (some 1))) else (some t102))) = some r := h; clear h; replace H := Option.bind_eq_some_iff.mp H; obtain ⟨t102, A30, H⟩ := H; replace H : (if t102 = 0 then ((air_all.f l1 (l0_3.length : Int) 100000).bind fun t103 => (if t103 = true then (air_priced.l0 k l1 (l0_3.length : Int) 0 a0_0 a0_1 l0_2 l0_3) else (some 1))) else (some t102)) = some r := H; have A3 := XB A30; clear A30; by_cases c4 : t102 = 0
 ·rw [if_pos c4] at H; have c4b0 : (t102 == 0) = true := beq_iff_eq.mpr c4; have c4b1 : (t102 != 0) = false := bne_eq_false_iff_eq.mpr c4; clear c4; replace H := Option.bind_eq_some_iff.mp H; obtain ⟨t103, A50, H⟩ := H; replace H : (if t103 = true then (air_priced.l0 k l1 (l0_3.length : Int) 0 a0_0 a0_1 l0_2 l0_3) else (some 1)) = some r := H; have A5 := XB A50; clear A50; by_cases c6 : t103 = true
  ·subst c6; have H1 : (air_priced.l0 k l1 (l0_3.length : Int) 0 a0_0 a0_1 l0_2 l0_3) = some r := by rw [if_pos rfl] at H; exact H
   clear H; have H := H1; clear H1; have H' := XB H; clear H; go_enter Try.func63, Try.ntmps63
   go_wp2_with (first | ((with_reducible refine gate_dst (N := 2) rfl ?_); refine box_event ?hg (N := 2) ?hd (cs := #[.int .i64 a0_0, .int .i64 a0_1, .slice A0_2 l0_2.length c0_2, .slice A0_3 l0_3.length c0_3]) (t := 24) ?hr ?_; (case hd => rfl); (case hg => rfl); (case hr => first | (go_simp; done) | (go_simp; rfl)); intro gb101 hg w7 hbox hb; have n0_ := XB (Xz (by repeat (first | (with_reducible first | exact HB.out | apply Xc | apply Xa | apply Xb) | exact HB.out)) hb); have n1_ := XB (hbox); have n2_ := XB ((by rw [hg]; exact (XC (by repeat (first | (with_reducible first | exact HB.out | apply Xc | apply Xa | apply Xb) | exact HB.out))) : w.heap.size ≤ gb101)); have n3_ := XB ((by rw [hg]; exact (XC (by repeat (first | (with_reducible first | exact HB.out | apply Xc | apply Xa | apply Xb) | exact HB.out))) : w.heap.size ≤ gb101)); clear HB; have HB := n0_; have J101 := n1_; have GW101 := n2_; have E101 := n3_; clear n0_ n1_ n2_ n3_; clear hb hbox hg; have hcz8_0 : w7.cell? ⟨gb101, 0, none⟩ = some (.int .i64 a0_0) := (Xi J101.out 0).trans rfl; have hcz8_1 : w7.cell? ⟨gb101, 1, none⟩ = some (.int .i64 a0_1) := (Xi J101.out 1).trans rfl; have hcz8_2 : w7.cell? ⟨gb101, 2, none⟩ = some (.slice A0_2 l0_2.length c0_2) := (Xi J101.out 2).trans rfl; have hcz8_3 : w7.cell? ⟨gb101, 3, none⟩ = some (.slice A0_3 l0_3.length c0_3) := (Xi J101.out 3).trans rfl; have hfz8_0 := Xh J101.out 0; have hfz8_1 := Xh J101.out 1; have hfz8_2 := Xh J101.out 2; have hfz8_3 := Xh J101.out 3) | ((with_reducible refine gate_callee (f := 42) rfl ?_); refine goesL_ (some 8) rfl rfl Try.func42 (by kernel_rfl) rfl #[.agg #[.int .i64 a0_0, .int .i64 a0_1, .slice A0_2 l0_2.length c0_2, .slice A0_3 l0_3.length c0_3]] rfl (by (try simp only [Xm, Xn, Xo]); first | done | rfl | (simp only [Xp, Xq]; rfl)) ?_; (with_reducible refine (air_Validate.calls a0_0 a0_1 _ _ l0_2 _ _ l0_3 t102 _ ?side1 ?side2 ?side3 ?side4 A3.out).mono ?_); (case side1 => repeat (first | exact (Xu HR0_2.out HB.out) | (with_reducible refine Xr ?_ _) | (with_reducible refine Xs ?_ _) | (with_reducible refine Xt ?_))); (case side2 => exact HC0_2.out); (case side3 => repeat (first | exact (Xu HR0_3.out HB.out) | (with_reducible refine Xr ?_ _) | (with_reducible refine Xs ?_ _) | (with_reducible refine Xt ?_))); (case side4 => exact HC0_3.out); rintro e w9 ⟨rfl, hb⟩; refine ⟨_, rfl, ?_⟩; have n0_ := XB (XA (g := gb101) (o := .cells #[.int .i64 a0_0, .int .i64 a0_1, .slice A0_2 l0_2.length c0_2, .slice A0_3 l0_3.length c0_3] 24 (0, 0)) (by (with_reducible repeat (first | refine Xf ?_ _ | refine Xg ?_ | refine Xe ?_ _)); exact J101.out) hb); have n1_ := XB (Xz (by repeat (first | (with_reducible first | exact HB.out | apply Xc | apply Xa | apply Xb | refine Xd ?_ E101.out) | exact HB.out)) hb); clear J101; clear HB; have J101 := n0_; have HB := n1_; clear n0_ n1_; (try clear hb); (try clear hb2); (try clear hk); (try clear hi); have hcz10_0 : w9.cell? ⟨gb101, 0, none⟩ = some (.int .i64 a0_0) := (Xi J101.out 0).trans rfl; have hcz10_1 : w9.cell? ⟨gb101, 1, none⟩ = some (.int .i64 a0_1) := (Xi J101.out 1).trans rfl; have hcz10_2 : w9.cell? ⟨gb101, 2, none⟩ = some (.slice A0_2 l0_2.length c0_2) := (Xi J101.out 2).trans rfl; have hcz10_3 : w9.cell? ⟨gb101, 3, none⟩ = some (.slice A0_3 l0_3.length c0_3) := (Xi J101.out 3).trans rfl; have hfz10_0 := Xh J101.out 0; have hfz10_1 := Xh J101.out 1; have hfz10_2 := Xh J101.out 2; have hfz10_3 := Xh J101.out 3) | ((with_reducible refine gate_callee (f := 78) rfl ?_); refine goesL_ (some 16) rfl rfl Try.func78 (by kernel_rfl) rfl #[.slice A1 l1.length c1, .int .i64 (l0_3.length : Int), .int .i64 100000] rfl (by (try simp only [Xm, Xn, Xo]); first | done | rfl | (simp only [Xp, Xq]; rfl)) ?_; (with_reducible refine (air_all.calls _ _ l1 (l0_3.length : Int) 100000 true _ ?side1 ?side2 A5.out).mono ?_); (case side1 => repeat (first | exact (Xu HR1.out HB.out) | (with_reducible refine Xr ?_ _) | (with_reducible refine Xs ?_ _) | (with_reducible refine Xt ?_))); (case side2 => exact HC1.out); rintro e w11 ⟨rfl, hb⟩; refine ⟨_, rfl, ?_⟩; have n0_ := XB (XA (g := gb101) (o := .cells #[.int .i64 a0_0, .int .i64 a0_1, .slice A0_2 l0_2.length c0_2, .slice A0_3 l0_3.length c0_3] 24 (0, 0)) (by (with_reducible repeat (first | refine Xf ?_ _ | refine Xg ?_ | refine Xe ?_ _)); exact J101.out) hb); have n1_ := XB (Xz (by repeat (first | (with_reducible first | exact HB.out | apply Xc | apply Xa | apply Xb | refine Xd ?_ E101.out) | exact HB.out)) hb); clear J101; clear HB; have J101 := n0_; have HB := n1_; clear n0_ n1_; (try clear hb); (try clear hb2); (try clear hk); (try clear hi); have hcz12_0 : w11.cell? ⟨gb101, 0, none⟩ = some (.int .i64 a0_0) := (Xi J101.out 0).trans rfl; have hcz12_1 : w11.cell? ⟨gb101, 1, none⟩ = some (.int .i64 a0_1) := (Xi J101.out 1).trans rfl; have hcz12_2 : w11.cell? ⟨gb101, 2, none⟩ = some (.slice A0_2 l0_2.length c0_2) := (Xi J101.out 2).trans rfl; have hcz12_3 : w11.cell? ⟨gb101, 3, none⟩ = some (.slice A0_3 l0_3.length c0_3) := (Xi J101.out 3).trans rfl; have hfz12_0 := Xh J101.out 0; have hfz12_1 := Xh J101.out 1; have hfz12_2 := Xh J101.out 2; have hfz12_3 := Xh J101.out 3))
   go_loopg [21] k (fun kq v21 w' => ∃ (x21_1 : Int), v21 = .int .i64 x21_1 ∧ Aside0 (air_priced.l0 kq l1 (l0_3.length : Int) x21_1 a0_0 a0_1 l0_2 l0_3 = some r) ∧ Aside0 (kq ≤ k) ∧ Aside0 (w'.heap[gb101]? = some (.cells #[.int .i64 a0_0, .int .i64 a0_1, (.slice A0_2 l0_2.length c0_2), (.slice A0_3 l0_3.length c0_3)] 24 (0, 0))) ∧ Aside0 (Below w.heap.size w w'))
   case atStart => exact ⟨(0), (by first | rfl | (simp; done) | (simp [*]; done)), H', ⟨Nat.le_refl _⟩, ⟨by (with_reducible repeat (first | refine Xf ?_ _ | refine Xg ?_ | refine Xe ?_ _)); exact J101.out⟩, ⟨by repeat (first | (with_reducible first | exact HB.out | apply Xc | apply Xa | apply Xb | refine Xd ?_ E101.out) | exact HB.out)⟩⟩
   case round =>
    clear H'; try clear c1
    try clear p2
    try clear c4
    try clear c4b0
    try clear c4b1
    try clear c6
    try clear c7
    try clear hcz10_0
    try clear hcz10_1
    try clear hcz10_2
    try clear hcz10_3
    try clear hcz12_0
    try clear hcz12_1
    try clear hcz12_2
    try clear hcz12_3
    try clear hcz8_0
    try clear hcz8_1
    try clear hcz8_2
    try clear hcz8_3
    try clear hfz10_0
    try clear hfz10_1
    try clear hfz10_2
    try clear hfz10_3
    try clear hfz12_0
    try clear hfz12_1
    try clear hfz12_2
    try clear hfz12_3
    try clear hfz8_0
    try clear hfz8_1
    try clear hfz8_2
    try clear hfz8_3
    obtain ⟨x21_1, rfl, HA, HK1, J101, HB⟩ := hrel
    cases gk with
    | zero => exact absurd HA.out (by simp [air_priced.l0])
    | succ k1 =>
     have H := HA.out; clear HA; simp only [air_priced.l0] at H; by_cases c13 : x21_1 < (l0_3.length : Int)
     ·rw [if_pos c13] at H; have c13b0 : decide (x21_1 < (l0_3.length : Int)) = true := decide_eq_true c13; clear c13; by_cases c14 : 0 ≤ x21_1
      ·rw [if_pos c14] at H; have c14b0 : decide (0 ≤ x21_1) = true := decide_eq_true c14; clear c14; by_cases c15 : x21_1 < (l0_3.length : Int)
       ·rw [if_pos c15] at H; have c15b0 : decide (x21_1 < (l0_3.length : Int)) = true := decide_eq_true c15; clear c15; by_cases c16 : (rd l0_3 x21_1) = 0
        ·rw [if_pos c16] at H; have c16b0 : ((rd l0_3 x21_1) == 0) = true := beq_iff_eq.mpr c16; have c16b1 : ((rd l0_3 x21_1) != 0) = false := bne_eq_false_iff_eq.mpr c16; clear c16; by_cases c17 : x21_1 < (l1.length : Int)
         ·rw [if_pos c17] at H; have c17b0 : decide (x21_1 < (l1.length : Int)) = true := decide_eq_true c17; clear c17; by_cases c18 : (rd l1 x21_1) > 0
          ·rw [if_pos c18] at H; have c18b0 : decide (0 < (rd l1 x21_1)) = true := decide_eq_true c18; clear c18; obtain rfl := Option.some.inj H; try go_wp2
           have n0_ := XB (Xg J101.out); have n1_ := XB (Xb HB.out); clear J101; clear HB; have J101 := n0_; have HB := n1_; clear n0_ n1_; have p104 : 0 ≤ (x21_1 : Int) := of_decide_eq_true (by first | (with_reducible assumption) | assumption); have q104 : x21_1 < (l0_3.length : Int) := of_decide_eq_true (by first | (with_reducible assumption) | assumption); obtain ⟨ad104, e104, hx104_0⟩ := Kd.at_int HR0_3.out x21_1 p104 q104; have hw104_0 := hx104_0
           cases e104
           replace hx104_0 := (HB.out.cell (World.block_lt_of_cell? w _ hx104_0)).trans hx104_0; replace p104 := eq_true p104; replace q104 := eq_true q104; have p105 : 0 ≤ (x21_1 : Int) := of_decide_eq_true (by first | (with_reducible assumption) | assumption); have q105 : x21_1 < (l1.length : Int) := of_decide_eq_true (by first | (with_reducible assumption) | assumption); obtain ⟨ad105, e105, hx105_0⟩ := Kd.at_int HR1.out x21_1 p105 q105; have hw105_0 := hx105_0
           cases e105
           replace hx105_0 := (HB.out.cell (World.block_lt_of_cell? w _ hx105_0)).trans hx105_0; replace p105 := eq_true p105; replace q105 := eq_true q105; refine start_ (n := 22) (S := fun w' => w'.cell? ⟨gb101, 0, none⟩ = some (.int .i64 a0_0) ∧ w'.cell? ⟨gb101, 1, none⟩ = some (.int .i64 a0_1) ∧ w'.cell? ⟨gb101, 2, none⟩ = some (.slice A0_2 l0_2.length c0_2) ∧ w'.cell? ⟨gb101, 3, none⟩ = some (.slice (some ad104) l0_3.length c0_3) ∧ w'.cell? (ad104.add (x21_1).toNat) = some (.int .i64 (rd l0_3 x21_1)) ∧ w'.cell? (ad105.add (x21_1).toNat) = some (.int .i64 (rd l1 x21_1))) (ds := []) #[false, false, false, false, false, false, false, false, false, false, false, false, false, false, false, false, false, false, false, false, false, false] (by kernel_rfl) rfl rfl ⟨(Xi J101.out 0).trans rfl, (Xi J101.out 1).trans rfl, (Xi J101.out 2).trans rfl, (Xi J101.out 3).trans rfl, ((HB.out.cell (World.block_lt_of_cell? w _ hw104_0)).trans hw104_0), ((HB.out.cell (World.block_lt_of_cell? w _ hw105_0)).trans hw105_0)⟩ (fun hHeld => ?_); refine with_tabW air_priced.tab9 air_priced.bits9 (fun HT_ HW_ => ?_); generalize wr.drew = w19 at J101 HB hx104_0 hx105_0 hHeld ⊢
           refine pure_ (i := 0) (N := some 24) (v := ?_) (a' := ?_) (Bq 22 1) rfl rfl (any_of HT_.out (by kernel_rfl)) (fun _ _ _ h => h) (Or.inl ⟨by rfl, ?_⟩) ?_ ?_; rotate_left
           ·intro w'; go_simp; with_reducible rfl
           rotate_left
           ·simp only [Act.put, Xj, Xk, Xl, i64_w, i32_w]; rfl
           refine pure_ (i := 2) (N := some 26) (v := ?_) (a' := ?_) (Bq 22 5) rfl rfl (any_of HT_.out (by kernel_rfl)) (fun _ _ _ h => h) (Or.inl ⟨by rfl, ?_⟩) ?_ ?_; rotate_left
           ·intro w'; go_simp; with_reducible rfl
           rotate_left
           ·simp only [Act.put, Xj, Xk, Xl, i64_w, i32_w]; rfl
           refine take_ (i := 1) (N := some 25) (v := ?_) (a' := ?_) (Bq 22 7) rfl rfl (take_ofW HT_.out HW_.out (by kernel_rfl)) (fun _ _ _ h => h) (Or.inl ⟨by rfl, ?_⟩) hHeld ?_ ?_; rotate_left
           ·rintro w' ⟨s0, s1, s2, s3, s4, s5⟩; go_simp; with_reducible rfl
           rotate_left
           ·simp only [Act.put, Xj, Xk, Xl, i64_w, i32_w]; rfl
           refine pure_ (i := 3) (N := some 27) (v := ?_) (a' := ?_) (Bq 22 15) rfl rfl (any_of HT_.out (by kernel_rfl)) (fun _ _ _ h => h) (Or.inl ⟨by rfl, ?_⟩) ?_ ?_; rotate_left
           ·intro w'; go_simp; with_reducible rfl
           rotate_left
           ·simp only [Act.put, Xj, Xk, Xl, i64_w, i32_w]; rfl
           refine take_ (i := 4) (N := some 28) (v := ?_) (a' := ?_) (Bq 22 31) rfl rfl (take_ofW HT_.out HW_.out (by kernel_rfl)) (fun _ _ _ h => h) (Or.inl ⟨by rfl, ?_⟩) hHeld ?_ ?_; rotate_left
           ·rintro w' ⟨s0, s1, s2, s3, s4, s5⟩; go_simp; with_reducible rfl
           rotate_left
           ·simp only [Act.put, Xj, Xk, Xl, i64_w, i32_w]; rfl
           refine pure_ (i := 5) (N := some 29) (v := ?_) (a' := ?_) (Bq 22 63) rfl rfl (any_of HT_.out (by kernel_rfl)) (fun _ _ _ h => h) (Or.inl ⟨by rfl, ?_⟩) ?_ ?_; rotate_left
           ·intro w'; go_simp; with_reducible rfl
           rotate_left
           ·simp only [Act.put, Xj, Xk, Xl, i64_w, i32_w]; rfl
           refine pure_ (i := 6) (N := some 30) (v := ?_) (a' := ?_) (Bq 22 127) rfl rfl (any_of HT_.out (by kernel_rfl)) (fun _ _ _ h => h) (Or.inl ⟨by rfl, ?_⟩) ?_ ?_; rotate_left
           ·intro w'; go_simp; with_reducible rfl
           rotate_left
           ·simp only [Act.put, Xj, Xk, Xl, i64_w, i32_w]; rfl
           refine pure_ (i := 7) (N := some 31) (v := ?_) (a' := ?_) (Bq 22 255) rfl rfl (any_of HT_.out (by kernel_rfl)) (fun _ _ _ h => h) (Or.inl ⟨by rfl, ?_⟩) ?_ ?_; rotate_left
           ·intro w'; go_simp; with_reducible rfl
           rotate_left
           ·simp only [Act.put, Xj, Xk, Xl, i64_w, i32_w]; rfl
           refine pure_ (i := 8) (N := some 32) (v := ?_) (a' := ?_) (Bq 22 511) rfl rfl (any_of HT_.out (by kernel_rfl)) (fun _ _ _ h => h) (Or.inl ⟨by rfl, ?_⟩) ?_ ?_; rotate_left
           ·intro w'; go_simp; with_reducible rfl
           rotate_left
           ·simp only [Act.put, Xj, Xk, Xl, i64_w, i32_w]; rfl
           refine pure_ (i := 9) (N := some 33) (v := ?_) (a' := ?_) (Bq 22 1023) rfl rfl (any_of HT_.out (by kernel_rfl)) (fun _ _ _ h => h) (Or.inl ⟨by rfl, ?_⟩) ?_ ?_; rotate_left
           ·intro w'; go_simp; with_reducible rfl
           rotate_left
           ·simp only [Act.put, Xj, Xk, Xl, i64_w, i32_w]; rfl
           refine take_ (i := 10) (N := some 34) (v := ?_) (a' := ?_) (Bq 22 2047) rfl rfl (take_ofW HT_.out HW_.out (by kernel_rfl)) (fun _ _ _ h => h) (Or.inl ⟨by rfl, ?_⟩) hHeld ?_ ?_; rotate_left
           ·rintro w' ⟨s0, s1, s2, s3, s4, s5⟩; go_simp; with_reducible rfl
           rotate_left
           ·simp only [Act.put, Xj, Xk, Xl, i64_w, i32_w]; rfl
           refine pure_ (i := 11) (N := some 35) (v := ?_) (a' := ?_) (Bq 22 4095) rfl rfl (any_of HT_.out (by kernel_rfl)) (fun _ _ _ h => h) (Or.inl ⟨by rfl, ?_⟩) ?_ ?_; rotate_left
           ·intro w'; go_simp; with_reducible rfl
           rotate_left
           ·simp only [Act.put, Xj, Xk, Xl, i64_w, i32_w]; rfl
           refine pure_ (i := 12) (N := some 36) (v := ?_) (a' := ?_) (Bq 22 8191) rfl rfl (any_of HT_.out (by kernel_rfl)) (fun _ _ _ h => h) (Or.inl ⟨by rfl, ?_⟩) ?_ ?_; rotate_left
           ·intro w'; go_simp; with_reducible rfl
           rotate_left
           ·simp only [Act.put, Xj, Xk, Xl, i64_w, i32_w]; rfl
           refine pure_ (i := 13) (N := some 37) (v := ?_) (a' := ?_) (Bq 22 16383) rfl rfl (any_of HT_.out (by kernel_rfl)) (fun _ _ _ h => h) (Or.inl ⟨by rfl, ?_⟩) ?_ ?_; rotate_left
           ·intro w'; go_simp; with_reducible rfl
           rotate_left
           ·simp only [Act.put, Xj, Xk, Xl, i64_w, i32_w]; rfl
           refine pure_ (i := 14) (N := some 38) (v := undef) (a' := ?_) (Bq 22 32767) rfl rfl (any_of HT_.out (by kernel_rfl)) (fun _ _ _ h => h) (Or.inr ⟨by rfl, rfl⟩) ?_ ?_; rotate_left
           ·simp only [Act.put, Xj, Xk, Xl, i64_w, i32_w]; rfl
           refine pure_ (i := 15) (N := some 39) (v := undef) (a' := ?_) (Bq 22 65535) rfl rfl (any_of HT_.out (by kernel_rfl)) (fun _ _ _ h => h) (Or.inr ⟨by rfl, rfl⟩) ?_ ?_; rotate_left
           ·simp only [Act.put, Xj, Xk, Xl, i64_w, i32_w]; rfl
           refine pure_ (i := 16) (N := some 40) (v := undef) (a' := ?_) (Bq 22 131071) rfl rfl (any_of HT_.out (by kernel_rfl)) (fun _ _ _ h => h) (Or.inr ⟨by rfl, rfl⟩) ?_ ?_; rotate_left
           ·simp only [Act.put, Xj, Xk, Xl, i64_w, i32_w]; rfl
           refine pure_ (i := 17) (N := some 41) (v := undef) (a' := ?_) (Bq 22 262143) rfl rfl (any_of HT_.out (by kernel_rfl)) (fun _ _ _ h => h) (Or.inr ⟨by rfl, rfl⟩) ?_ ?_; rotate_left
           ·simp only [Act.put, Xj, Xk, Xl, i64_w, i32_w]; rfl
           refine pure_ (i := 18) (N := some 42) (v := undef) (a' := ?_) (Bq 22 524287) rfl rfl (any_of HT_.out (by kernel_rfl)) (fun _ _ _ h => h) (Or.inr ⟨by rfl, rfl⟩) ?_ ?_; rotate_left
           ·simp only [Act.put, Xj, Xk, Xl, i64_w, i32_w]; rfl
           refine pure_ (i := 19) (N := some 43) (v := undef) (a' := ?_) (Bq 22 1048575) rfl rfl (any_of HT_.out (by kernel_rfl)) (fun _ _ _ h => h) (Or.inr ⟨by rfl, rfl⟩) ?_ ?_; rotate_left
           ·simp only [Act.put, Xj, Xk, Xl, i64_w, i32_w]; rfl
           refine pure_ (i := 20) (N := some 44) (v := undef) (a' := ?_) (Bq 22 2097151) rfl rfl (any_of HT_.out (by kernel_rfl)) (fun _ _ _ h => h) (Or.inr ⟨by rfl, rfl⟩) ?_ ?_; rotate_left
           ·simp only [Act.put, Xj, Xk, Xl, i64_w, i32_w]; rfl
           refine pure_ (i := 21) (N := some 45) (v := ?_) (a' := ?_) (Bq 22 4194303) rfl rfl (any_of HT_.out (by kernel_rfl)) (fun _ _ _ h => h) (Or.inl ⟨by rfl, ?_⟩) ?_ ?_; rotate_left
           ·intro w'; go_simp; with_reducible rfl
           rotate_left
           ·simp only [Act.put, Xj, Xk, Xl, i64_w, i32_w]; rfl
           refine done_ (done_of HT_.out (by kernel_rfl)) ?_; try go_wp2
           go_ret
           exact ⟨by first | rfl | (simp [errW_none, errW_some] <;> rfl) | (simp [*, errW_none, errW_some] <;> rfl), by repeat (first | (with_reducible first | exact HB.out | apply Xc | apply Xa | apply Xb | refine Xd ?_ E101.out) | exact HB.out)⟩
          ·rw [if_neg c18] at H; have c18b0 : decide (0 < (rd l1 x21_1)) = false := decide_eq_false c18; clear c18; replace H := Option.bind_eq_some_iff.mp H; obtain ⟨t106, A200, H⟩ := H; replace H : (if t106 > a0_0 then (some 7) else (air_priced.l0 k1 l1 (l0_3.length : Int) (wrap64 (x21_1 + 1)) a0_0 a0_1 l0_2 l0_3)) = some r := H; have A20 := XB A200; clear A200; by_cases c21 : t106 > a0_0
           ·rw [if_pos c21] at H; have c21b0 : decide (a0_0 < t106) = true := decide_eq_true c21; clear c21; obtain rfl := Option.some.inj H; try go_wp2
            have n0_ := XB (Xg J101.out); have n1_ := XB (Xb HB.out); clear J101; clear HB; have J101 := n0_; have HB := n1_; clear n0_ n1_; have p104 : 0 ≤ (x21_1 : Int) := of_decide_eq_true (by first | (with_reducible assumption) | assumption); have q104 : x21_1 < (l0_3.length : Int) := of_decide_eq_true (by first | (with_reducible assumption) | assumption); obtain ⟨ad104, e104, hx104_0⟩ := Kd.at_int HR0_3.out x21_1 p104 q104; have hw104_0 := hx104_0
            cases e104
            replace hx104_0 := (HB.out.cell (World.block_lt_of_cell? w _ hx104_0)).trans hx104_0; replace p104 := eq_true p104; replace q104 := eq_true q104; have p105 : 0 ≤ (x21_1 : Int) := of_decide_eq_true (by first | (with_reducible assumption) | assumption); have q105 : x21_1 < (l1.length : Int) := of_decide_eq_true (by first | (with_reducible assumption) | assumption); obtain ⟨ad105, e105, hx105_0⟩ := Kd.at_int HR1.out x21_1 p105 q105; have hw105_0 := hx105_0
            cases e105
            replace hx105_0 := (HB.out.cell (World.block_lt_of_cell? w _ hx105_0)).trans hx105_0; replace p105 := eq_true p105; replace q105 := eq_true q105; refine start_ (n := 22) (S := fun w' => w'.cell? ⟨gb101, 0, none⟩ = some (.int .i64 a0_0) ∧ w'.cell? ⟨gb101, 1, none⟩ = some (.int .i64 a0_1) ∧ w'.cell? ⟨gb101, 2, none⟩ = some (.slice A0_2 l0_2.length c0_2) ∧ w'.cell? ⟨gb101, 3, none⟩ = some (.slice (some ad104) l0_3.length c0_3) ∧ w'.cell? (ad104.add (x21_1).toNat) = some (.int .i64 (rd l0_3 x21_1)) ∧ w'.cell? (ad105.add (x21_1).toNat) = some (.int .i64 (rd l1 x21_1))) (ds := []) #[false, false, false, false, false, false, false, false, false, false, false, false, false, false, false, false, false, false, false, false, false, false] (by kernel_rfl) rfl rfl ⟨(Xi J101.out 0).trans rfl, (Xi J101.out 1).trans rfl, (Xi J101.out 2).trans rfl, (Xi J101.out 3).trans rfl, ((HB.out.cell (World.block_lt_of_cell? w _ hw104_0)).trans hw104_0), ((HB.out.cell (World.block_lt_of_cell? w _ hw105_0)).trans hw105_0)⟩ (fun hHeld => ?_); refine with_tabW air_priced.tab9 air_priced.bits9 (fun HT_ HW_ => ?_); generalize wr.drew = w22 at J101 HB hx104_0 hx105_0 hHeld ⊢
            refine pure_ (i := 0) (N := some 24) (v := ?_) (a' := ?_) (Bq 22 1) rfl rfl (any_of HT_.out (by kernel_rfl)) (fun _ _ _ h => h) (Or.inl ⟨by rfl, ?_⟩) ?_ ?_; rotate_left
            ·intro w'; go_simp; with_reducible rfl
            rotate_left
            ·simp only [Act.put, Xj, Xk, Xl, i64_w, i32_w]; rfl
            refine pure_ (i := 2) (N := some 26) (v := ?_) (a' := ?_) (Bq 22 5) rfl rfl (any_of HT_.out (by kernel_rfl)) (fun _ _ _ h => h) (Or.inl ⟨by rfl, ?_⟩) ?_ ?_; rotate_left
            ·intro w'; go_simp; with_reducible rfl
            rotate_left
            ·simp only [Act.put, Xj, Xk, Xl, i64_w, i32_w]; rfl
            refine take_ (i := 1) (N := some 25) (v := ?_) (a' := ?_) (Bq 22 7) rfl rfl (take_ofW HT_.out HW_.out (by kernel_rfl)) (fun _ _ _ h => h) (Or.inl ⟨by rfl, ?_⟩) hHeld ?_ ?_; rotate_left
            ·rintro w' ⟨s0, s1, s2, s3, s4, s5⟩; go_simp; with_reducible rfl
            rotate_left
            ·simp only [Act.put, Xj, Xk, Xl, i64_w, i32_w]; rfl
            refine pure_ (i := 3) (N := some 27) (v := ?_) (a' := ?_) (Bq 22 15) rfl rfl (any_of HT_.out (by kernel_rfl)) (fun _ _ _ h => h) (Or.inl ⟨by rfl, ?_⟩) ?_ ?_; rotate_left
            ·intro w'; go_simp; with_reducible rfl
            rotate_left
            ·simp only [Act.put, Xj, Xk, Xl, i64_w, i32_w]; rfl
            refine take_ (i := 4) (N := some 28) (v := ?_) (a' := ?_) (Bq 22 31) rfl rfl (take_ofW HT_.out HW_.out (by kernel_rfl)) (fun _ _ _ h => h) (Or.inl ⟨by rfl, ?_⟩) hHeld ?_ ?_; rotate_left
            ·rintro w' ⟨s0, s1, s2, s3, s4, s5⟩; go_simp; with_reducible rfl
            rotate_left
            ·simp only [Act.put, Xj, Xk, Xl, i64_w, i32_w]; rfl
            refine pure_ (i := 5) (N := some 29) (v := ?_) (a' := ?_) (Bq 22 63) rfl rfl (any_of HT_.out (by kernel_rfl)) (fun _ _ _ h => h) (Or.inl ⟨by rfl, ?_⟩) ?_ ?_; rotate_left
            ·intro w'; go_simp; with_reducible rfl
            rotate_left
            ·simp only [Act.put, Xj, Xk, Xl, i64_w, i32_w]; rfl
            refine pure_ (i := 6) (N := some 30) (v := ?_) (a' := ?_) (Bq 22 127) rfl rfl (any_of HT_.out (by kernel_rfl)) (fun _ _ _ h => h) (Or.inl ⟨by rfl, ?_⟩) ?_ ?_; rotate_left
            ·intro w'; go_simp; with_reducible rfl
            rotate_left
            ·simp only [Act.put, Xj, Xk, Xl, i64_w, i32_w]; rfl
            refine pure_ (i := 7) (N := some 31) (v := ?_) (a' := ?_) (Bq 22 255) rfl rfl (any_of HT_.out (by kernel_rfl)) (fun _ _ _ h => h) (Or.inl ⟨by rfl, ?_⟩) ?_ ?_; rotate_left
            ·intro w'; go_simp; with_reducible rfl
            rotate_left
            ·simp only [Act.put, Xj, Xk, Xl, i64_w, i32_w]; rfl
            refine pure_ (i := 8) (N := some 32) (v := ?_) (a' := ?_) (Bq 22 511) rfl rfl (any_of HT_.out (by kernel_rfl)) (fun _ _ _ h => h) (Or.inl ⟨by rfl, ?_⟩) ?_ ?_; rotate_left
            ·intro w'; go_simp; with_reducible rfl
            rotate_left
            ·simp only [Act.put, Xj, Xk, Xl, i64_w, i32_w]; rfl
            refine pure_ (i := 9) (N := some 33) (v := ?_) (a' := ?_) (Bq 22 1023) rfl rfl (any_of HT_.out (by kernel_rfl)) (fun _ _ _ h => h) (Or.inl ⟨by rfl, ?_⟩) ?_ ?_; rotate_left
            ·intro w'; go_simp; with_reducible rfl
            rotate_left
            ·simp only [Act.put, Xj, Xk, Xl, i64_w, i32_w]; rfl
            refine take_ (i := 10) (N := some 34) (v := ?_) (a' := ?_) (Bq 22 2047) rfl rfl (take_ofW HT_.out HW_.out (by kernel_rfl)) (fun _ _ _ h => h) (Or.inl ⟨by rfl, ?_⟩) hHeld ?_ ?_; rotate_left
            ·rintro w' ⟨s0, s1, s2, s3, s4, s5⟩; go_simp; with_reducible rfl
            rotate_left
            ·simp only [Act.put, Xj, Xk, Xl, i64_w, i32_w]; rfl
            refine pure_ (i := 11) (N := some 35) (v := ?_) (a' := ?_) (Bq 22 4095) rfl rfl (any_of HT_.out (by kernel_rfl)) (fun _ _ _ h => h) (Or.inl ⟨by rfl, ?_⟩) ?_ ?_; rotate_left
            ·intro w'; go_simp; with_reducible rfl
            rotate_left
            ·simp only [Act.put, Xj, Xk, Xl, i64_w, i32_w]; rfl
            refine pure_ (i := 12) (N := some 36) (v := ?_) (a' := ?_) (Bq 22 8191) rfl rfl (any_of HT_.out (by kernel_rfl)) (fun _ _ _ h => h) (Or.inl ⟨by rfl, ?_⟩) ?_ ?_; rotate_left
            ·intro w'; go_simp; with_reducible rfl
            rotate_left
            ·simp only [Act.put, Xj, Xk, Xl, i64_w, i32_w]; rfl
            refine pure_ (i := 13) (N := some 37) (v := ?_) (a' := ?_) (Bq 22 16383) rfl rfl (any_of HT_.out (by kernel_rfl)) (fun _ _ _ h => h) (Or.inl ⟨by rfl, ?_⟩) ?_ ?_; rotate_left
            ·intro w'; go_simp; with_reducible rfl
            rotate_left
            ·simp only [Act.put, Xj, Xk, Xl, i64_w, i32_w]; rfl
            refine pure_ (i := 15) (N := some 39) (v := ?_) (a' := ?_) (Bq 22 49151) rfl rfl (any_of HT_.out (by kernel_rfl)) (fun _ _ _ h => h) (Or.inl ⟨by rfl, ?_⟩) ?_ ?_; rotate_left
            ·intro w'; go_simp; with_reducible rfl
            rotate_left
            ·simp only [Act.put, Xj, Xk, Xl, i64_w, i32_w]; rfl
            refine pure_ (i := 16) (N := some 40) (v := ?_) (a' := ?_) (Bq 22 114687) rfl rfl (any_of HT_.out (by kernel_rfl)) (fun _ _ _ h => h) (Or.inl ⟨by rfl, ?_⟩) ?_ ?_; rotate_left
            ·intro w'; go_simp; with_reducible rfl
            rotate_left
            ·simp only [Act.put, Xj, Xk, Xl, i64_w, i32_w]; rfl
            refine pure_ (i := 18) (N := some 42) (v := ?_) (a' := ?_) (Bq 22 376831) rfl rfl (any_of HT_.out (by kernel_rfl)) (fun _ _ _ h => h) (Or.inl ⟨by rfl, ?_⟩) ?_ ?_; rotate_left
            ·intro w'; go_simp; with_reducible rfl
            rotate_left
            ·simp only [Act.put, Xj, Xk, Xl, i64_w, i32_w]; rfl
            refine take_ (i := 14) (N := some 38) (v := ?_) (a' := ?_) (Bq 22 393215) rfl rfl (take_ofW HT_.out HW_.out (by kernel_rfl)) (fun _ _ _ h => h) (Or.inl ⟨by rfl, ?_⟩) hHeld ?_ ?_; rotate_left
            ·rintro w' ⟨s0, s1, s2, s3, s4, s5⟩; go_simp; with_reducible rfl
            rotate_left
            ·simp only [Act.put, Xj, Xk, Xl, i64_w, i32_w]; rfl
            refine take_ (i := 19) (N := some 43) (v := ?_) (a' := ?_) (Bq 22 917503) rfl rfl (take_ofW HT_.out HW_.out (by kernel_rfl)) (fun _ _ _ h => h) (Or.inl ⟨by rfl, ?_⟩) hHeld ?_ ?_; rotate_left
            ·rintro w' ⟨s0, s1, s2, s3, s4, s5⟩; go_simp; with_reducible rfl
            rotate_left
            ·simp only [Act.put, Xj, Xk, Xl, i64_w, i32_w]; rfl
            refine one_ (i := 17) (N := some 41) (Bq 22 1048575) rfl rfl (one_of HT_.out (by kernel_rfl)) (by decide) (fun K hK => ?_); refine goes_ Try.func68 (by kernel_rfl) rfl #[.agg #[.int .i64 a0_0, .int .i64 a0_1, .slice A0_2 l0_2.length c0_2, .slice (some ad104) l0_3.length c0_3], .slice (some ad105) l1.length c1, .int .i64 x21_1] (by rfl) rfl rfl (by (try simp only [Xm, Xn, Xo]); first | done | rfl | (simp only [Xp, Xq]; rfl)) ?_; with_reducible refine (air_above.calls k1 a0_0 a0_1 _ _ l0_2 _ _ l0_3 _ _ l1 x21_1 t106 _ ?side1 ?side2 ?side3 ?side4 ?side5 ?side6 A20.out).mono ?_
            (case side1 => repeat (first | exact (Xu HR0_2.out HB.out) | (with_reducible refine Xr ?_ _) | (with_reducible refine Xs ?_ _) | (with_reducible refine Xt ?_)))
            (case side2 => exact HC0_2.out)
            (case side3 => repeat (first | exact (Xu HR0_3.out HB.out) | (with_reducible refine Xr ?_ _) | (with_reducible refine Xs ?_ _) | (with_reducible refine Xt ?_)))
            (case side4 => exact HC0_3.out)
            (case side5 => repeat (first | exact (Xu HR1.out HB.out) | (with_reducible refine Xr ?_ _) | (with_reducible refine Xs ?_ _) | (with_reducible refine Xt ?_)))
            (case side6 => exact HC1.out)
            rintro e w23 ⟨rfl, hb⟩; refine ⟨_, rfl, ?_⟩; have n0_ := XB (XA (g := gb101) (o := .cells #[.int .i64 a0_0, .int .i64 a0_1, .slice A0_2 l0_2.length c0_2, .slice (some ad104) l0_3.length c0_3] 24 (0, 0)) (by (with_reducible repeat (first | refine Xf ?_ _ | refine Xg ?_ | refine Xe ?_ _)); exact J101.out) hb); have n1_ := XB (Xz (by repeat (first | (with_reducible first | exact HB.out | apply Xc | apply Xa | apply Xb | refine Xd ?_ E101.out) | exact HB.out)) hb); clear J101; clear HB; have J101 := n0_; have HB := n1_; clear n0_ n1_; (try clear hb)
            (try clear hb2)
            (try clear hk)
            (try clear hi)
            refine hK.out _ _ ⟨(Xi J101.out 0).trans rfl, (Xi J101.out 1).trans rfl, (Xi J101.out 2).trans rfl, (Xi J101.out 3).trans rfl, ((HB.out.cell (World.block_lt_of_cell? w _ hw104_0)).trans hw104_0), ((HB.out.cell (World.block_lt_of_cell? w _ hw105_0)).trans hw105_0)⟩ (fun hHeld => ?_); clear hK K; refine norm_ (a' := ?_) ?_ ?_; rotate_left
            ·show Act.put _ (some 41) _ = _
             simp only [Act.put, Xj, Xk, Xl, i64_w, i32_w]; rfl
            refine pure_ (i := 20) (N := some 44) (v := ?_) (a' := ?_) (Bq 22 2097151) rfl rfl (any_of HT_.out (by kernel_rfl)) (fun _ _ _ h => h) (Or.inl ⟨by rfl, ?_⟩) ?_ ?_; rotate_left
            ·intro w'; go_simp; with_reducible rfl
            rotate_left
            ·simp only [Act.put, Xj, Xk, Xl, i64_w, i32_w]; rfl
            refine pure_ (i := 21) (N := some 45) (v := ?_) (a' := ?_) (Bq 22 4194303) rfl rfl (any_of HT_.out (by kernel_rfl)) (fun _ _ _ h => h) (Or.inl ⟨by rfl, ?_⟩) ?_ ?_; rotate_left
            ·intro w'; go_simp; with_reducible rfl
            rotate_left
            ·simp only [Act.put, Xj, Xk, Xl, i64_w, i32_w]; rfl
            refine done_ (done_of HT_.out (by kernel_rfl)) ?_; try go_wp2
            go_ret
            exact ⟨by first | rfl | (simp [errW_none, errW_some] <;> rfl) | (simp [*, errW_none, errW_some] <;> rfl), by repeat (first | (with_reducible first | exact HB.out | apply Xc | apply Xa | apply Xb | refine Xd ?_ E101.out) | exact HB.out)⟩
           ·rw [if_neg c21] at H; have c21b0 : decide (a0_0 < t106) = false := decide_eq_false c21; clear c21; have H' := XB H; clear H; try go_wp2
            have n0_ := XB (Xg J101.out); have n1_ := XB (Xb HB.out); clear J101; clear HB; have J101 := n0_; have HB := n1_; clear n0_ n1_; have p104 : 0 ≤ (x21_1 : Int) := of_decide_eq_true (by first | (with_reducible assumption) | assumption); have q104 : x21_1 < (l0_3.length : Int) := of_decide_eq_true (by first | (with_reducible assumption) | assumption); obtain ⟨ad104, e104, hx104_0⟩ := Kd.at_int HR0_3.out x21_1 p104 q104; have hw104_0 := hx104_0
            cases e104
            replace hx104_0 := (HB.out.cell (World.block_lt_of_cell? w _ hx104_0)).trans hx104_0; replace p104 := eq_true p104; replace q104 := eq_true q104; have p105 : 0 ≤ (x21_1 : Int) := of_decide_eq_true (by first | (with_reducible assumption) | assumption); have q105 : x21_1 < (l1.length : Int) := of_decide_eq_true (by first | (with_reducible assumption) | assumption); obtain ⟨ad105, e105, hx105_0⟩ := Kd.at_int HR1.out x21_1 p105 q105; have hw105_0 := hx105_0
            cases e105
            replace hx105_0 := (HB.out.cell (World.block_lt_of_cell? w _ hx105_0)).trans hx105_0; replace p105 := eq_true p105; replace q105 := eq_true q105; refine start_ (n := 22) (S := fun w' => w'.cell? ⟨gb101, 0, none⟩ = some (.int .i64 a0_0) ∧ w'.cell? ⟨gb101, 1, none⟩ = some (.int .i64 a0_1) ∧ w'.cell? ⟨gb101, 2, none⟩ = some (.slice A0_2 l0_2.length c0_2) ∧ w'.cell? ⟨gb101, 3, none⟩ = some (.slice (some ad104) l0_3.length c0_3) ∧ w'.cell? (ad104.add (x21_1).toNat) = some (.int .i64 (rd l0_3 x21_1)) ∧ w'.cell? (ad105.add (x21_1).toNat) = some (.int .i64 (rd l1 x21_1))) (ds := []) #[false, false, false, false, false, false, false, false, false, false, false, false, false, false, false, false, false, false, false, false, false, false] (by kernel_rfl) rfl rfl ⟨(Xi J101.out 0).trans rfl, (Xi J101.out 1).trans rfl, (Xi J101.out 2).trans rfl, (Xi J101.out 3).trans rfl, ((HB.out.cell (World.block_lt_of_cell? w _ hw104_0)).trans hw104_0), ((HB.out.cell (World.block_lt_of_cell? w _ hw105_0)).trans hw105_0)⟩ (fun hHeld => ?_); refine with_tabW air_priced.tab9 air_priced.bits9 (fun HT_ HW_ => ?_); generalize wr.drew = w24 at J101 HB hx104_0 hx105_0 hHeld ⊢
            refine pure_ (i := 0) (N := some 24) (v := ?_) (a' := ?_) (Bq 22 1) rfl rfl (any_of HT_.out (by kernel_rfl)) (fun _ _ _ h => h) (Or.inl ⟨by rfl, ?_⟩) ?_ ?_; rotate_left
            ·intro w'; go_simp; with_reducible rfl
            rotate_left
            ·simp only [Act.put, Xj, Xk, Xl, i64_w, i32_w]; rfl
            refine pure_ (i := 2) (N := some 26) (v := ?_) (a' := ?_) (Bq 22 5) rfl rfl (any_of HT_.out (by kernel_rfl)) (fun _ _ _ h => h) (Or.inl ⟨by rfl, ?_⟩) ?_ ?_; rotate_left
            ·intro w'; go_simp; with_reducible rfl
            rotate_left
            ·simp only [Act.put, Xj, Xk, Xl, i64_w, i32_w]; rfl
            refine take_ (i := 1) (N := some 25) (v := ?_) (a' := ?_) (Bq 22 7) rfl rfl (take_ofW HT_.out HW_.out (by kernel_rfl)) (fun _ _ _ h => h) (Or.inl ⟨by rfl, ?_⟩) hHeld ?_ ?_; rotate_left
            ·rintro w' ⟨s0, s1, s2, s3, s4, s5⟩; go_simp; with_reducible rfl
            rotate_left
            ·simp only [Act.put, Xj, Xk, Xl, i64_w, i32_w]; rfl
            refine pure_ (i := 3) (N := some 27) (v := ?_) (a' := ?_) (Bq 22 15) rfl rfl (any_of HT_.out (by kernel_rfl)) (fun _ _ _ h => h) (Or.inl ⟨by rfl, ?_⟩) ?_ ?_; rotate_left
            ·intro w'; go_simp; with_reducible rfl
            rotate_left
            ·simp only [Act.put, Xj, Xk, Xl, i64_w, i32_w]; rfl
            refine take_ (i := 4) (N := some 28) (v := ?_) (a' := ?_) (Bq 22 31) rfl rfl (take_ofW HT_.out HW_.out (by kernel_rfl)) (fun _ _ _ h => h) (Or.inl ⟨by rfl, ?_⟩) hHeld ?_ ?_; rotate_left
            ·rintro w' ⟨s0, s1, s2, s3, s4, s5⟩; go_simp; with_reducible rfl
            rotate_left
            ·simp only [Act.put, Xj, Xk, Xl, i64_w, i32_w]; rfl
            refine pure_ (i := 5) (N := some 29) (v := ?_) (a' := ?_) (Bq 22 63) rfl rfl (any_of HT_.out (by kernel_rfl)) (fun _ _ _ h => h) (Or.inl ⟨by rfl, ?_⟩) ?_ ?_; rotate_left
            ·intro w'; go_simp; with_reducible rfl
            rotate_left
            ·simp only [Act.put, Xj, Xk, Xl, i64_w, i32_w]; rfl
            refine pure_ (i := 6) (N := some 30) (v := ?_) (a' := ?_) (Bq 22 127) rfl rfl (any_of HT_.out (by kernel_rfl)) (fun _ _ _ h => h) (Or.inl ⟨by rfl, ?_⟩) ?_ ?_; rotate_left
            ·intro w'; go_simp; with_reducible rfl
            rotate_left
            ·simp only [Act.put, Xj, Xk, Xl, i64_w, i32_w]; rfl
            refine pure_ (i := 7) (N := some 31) (v := ?_) (a' := ?_) (Bq 22 255) rfl rfl (any_of HT_.out (by kernel_rfl)) (fun _ _ _ h => h) (Or.inl ⟨by rfl, ?_⟩) ?_ ?_; rotate_left
            ·intro w'; go_simp; with_reducible rfl
            rotate_left
            ·simp only [Act.put, Xj, Xk, Xl, i64_w, i32_w]; rfl
            refine pure_ (i := 8) (N := some 32) (v := ?_) (a' := ?_) (Bq 22 511) rfl rfl (any_of HT_.out (by kernel_rfl)) (fun _ _ _ h => h) (Or.inl ⟨by rfl, ?_⟩) ?_ ?_; rotate_left
            ·intro w'; go_simp; with_reducible rfl
            rotate_left
            ·simp only [Act.put, Xj, Xk, Xl, i64_w, i32_w]; rfl
            refine pure_ (i := 9) (N := some 33) (v := ?_) (a' := ?_) (Bq 22 1023) rfl rfl (any_of HT_.out (by kernel_rfl)) (fun _ _ _ h => h) (Or.inl ⟨by rfl, ?_⟩) ?_ ?_; rotate_left
            ·intro w'; go_simp; with_reducible rfl
            rotate_left
            ·simp only [Act.put, Xj, Xk, Xl, i64_w, i32_w]; rfl
            refine take_ (i := 10) (N := some 34) (v := ?_) (a' := ?_) (Bq 22 2047) rfl rfl (take_ofW HT_.out HW_.out (by kernel_rfl)) (fun _ _ _ h => h) (Or.inl ⟨by rfl, ?_⟩) hHeld ?_ ?_; rotate_left
            ·rintro w' ⟨s0, s1, s2, s3, s4, s5⟩; go_simp; with_reducible rfl
            rotate_left
            ·simp only [Act.put, Xj, Xk, Xl, i64_w, i32_w]; rfl
            refine pure_ (i := 11) (N := some 35) (v := ?_) (a' := ?_) (Bq 22 4095) rfl rfl (any_of HT_.out (by kernel_rfl)) (fun _ _ _ h => h) (Or.inl ⟨by rfl, ?_⟩) ?_ ?_; rotate_left
            ·intro w'; go_simp; with_reducible rfl
            rotate_left
            ·simp only [Act.put, Xj, Xk, Xl, i64_w, i32_w]; rfl
            refine pure_ (i := 12) (N := some 36) (v := ?_) (a' := ?_) (Bq 22 8191) rfl rfl (any_of HT_.out (by kernel_rfl)) (fun _ _ _ h => h) (Or.inl ⟨by rfl, ?_⟩) ?_ ?_; rotate_left
            ·intro w'; go_simp; with_reducible rfl
            rotate_left
            ·simp only [Act.put, Xj, Xk, Xl, i64_w, i32_w]; rfl
            refine pure_ (i := 13) (N := some 37) (v := ?_) (a' := ?_) (Bq 22 16383) rfl rfl (any_of HT_.out (by kernel_rfl)) (fun _ _ _ h => h) (Or.inl ⟨by rfl, ?_⟩) ?_ ?_; rotate_left
            ·intro w'; go_simp; with_reducible rfl
            rotate_left
            ·simp only [Act.put, Xj, Xk, Xl, i64_w, i32_w]; rfl
            refine pure_ (i := 15) (N := some 39) (v := ?_) (a' := ?_) (Bq 22 49151) rfl rfl (any_of HT_.out (by kernel_rfl)) (fun _ _ _ h => h) (Or.inl ⟨by rfl, ?_⟩) ?_ ?_; rotate_left
            ·intro w'; go_simp; with_reducible rfl
            rotate_left
            ·simp only [Act.put, Xj, Xk, Xl, i64_w, i32_w]; rfl
            refine pure_ (i := 16) (N := some 40) (v := ?_) (a' := ?_) (Bq 22 114687) rfl rfl (any_of HT_.out (by kernel_rfl)) (fun _ _ _ h => h) (Or.inl ⟨by rfl, ?_⟩) ?_ ?_; rotate_left
            ·intro w'; go_simp; with_reducible rfl
            rotate_left
            ·simp only [Act.put, Xj, Xk, Xl, i64_w, i32_w]; rfl
            refine pure_ (i := 18) (N := some 42) (v := ?_) (a' := ?_) (Bq 22 376831) rfl rfl (any_of HT_.out (by kernel_rfl)) (fun _ _ _ h => h) (Or.inl ⟨by rfl, ?_⟩) ?_ ?_; rotate_left
            ·intro w'; go_simp; with_reducible rfl
            rotate_left
            ·simp only [Act.put, Xj, Xk, Xl, i64_w, i32_w]; rfl
            refine take_ (i := 14) (N := some 38) (v := ?_) (a' := ?_) (Bq 22 393215) rfl rfl (take_ofW HT_.out HW_.out (by kernel_rfl)) (fun _ _ _ h => h) (Or.inl ⟨by rfl, ?_⟩) hHeld ?_ ?_; rotate_left
            ·rintro w' ⟨s0, s1, s2, s3, s4, s5⟩; go_simp; with_reducible rfl
            rotate_left
            ·simp only [Act.put, Xj, Xk, Xl, i64_w, i32_w]; rfl
            refine take_ (i := 19) (N := some 43) (v := ?_) (a' := ?_) (Bq 22 917503) rfl rfl (take_ofW HT_.out HW_.out (by kernel_rfl)) (fun _ _ _ h => h) (Or.inl ⟨by rfl, ?_⟩) hHeld ?_ ?_; rotate_left
            ·rintro w' ⟨s0, s1, s2, s3, s4, s5⟩; go_simp; with_reducible rfl
            rotate_left
            ·simp only [Act.put, Xj, Xk, Xl, i64_w, i32_w]; rfl
            refine one_ (i := 17) (N := some 41) (Bq 22 1048575) rfl rfl (one_of HT_.out (by kernel_rfl)) (by decide) (fun K hK => ?_); refine goes_ Try.func68 (by kernel_rfl) rfl #[.agg #[.int .i64 a0_0, .int .i64 a0_1, .slice A0_2 l0_2.length c0_2, .slice (some ad104) l0_3.length c0_3], .slice (some ad105) l1.length c1, .int .i64 x21_1] (by rfl) rfl rfl (by (try simp only [Xm, Xn, Xo]); first | done | rfl | (simp only [Xp, Xq]; rfl)) ?_; with_reducible refine (air_above.calls k1 a0_0 a0_1 _ _ l0_2 _ _ l0_3 _ _ l1 x21_1 t106 _ ?side1 ?side2 ?side3 ?side4 ?side5 ?side6 A20.out).mono ?_
            (case side1 => repeat (first | exact (Xu HR0_2.out HB.out) | (with_reducible refine Xr ?_ _) | (with_reducible refine Xs ?_ _) | (with_reducible refine Xt ?_)))
            (case side2 => exact HC0_2.out)
            (case side3 => repeat (first | exact (Xu HR0_3.out HB.out) | (with_reducible refine Xr ?_ _) | (with_reducible refine Xs ?_ _) | (with_reducible refine Xt ?_)))
            (case side4 => exact HC0_3.out)
            (case side5 => repeat (first | exact (Xu HR1.out HB.out) | (with_reducible refine Xr ?_ _) | (with_reducible refine Xs ?_ _) | (with_reducible refine Xt ?_)))
            (case side6 => exact HC1.out)
            rintro e w25 ⟨rfl, hb⟩; refine ⟨_, rfl, ?_⟩; have n0_ := XB (XA (g := gb101) (o := .cells #[.int .i64 a0_0, .int .i64 a0_1, .slice A0_2 l0_2.length c0_2, .slice (some ad104) l0_3.length c0_3] 24 (0, 0)) (by (with_reducible repeat (first | refine Xf ?_ _ | refine Xg ?_ | refine Xe ?_ _)); exact J101.out) hb); have n1_ := XB (Xz (by repeat (first | (with_reducible first | exact HB.out | apply Xc | apply Xa | apply Xb | refine Xd ?_ E101.out) | exact HB.out)) hb); clear J101; clear HB; have J101 := n0_; have HB := n1_; clear n0_ n1_; (try clear hb)
            (try clear hb2)
            (try clear hk)
            (try clear hi)
            refine hK.out _ _ ⟨(Xi J101.out 0).trans rfl, (Xi J101.out 1).trans rfl, (Xi J101.out 2).trans rfl, (Xi J101.out 3).trans rfl, ((HB.out.cell (World.block_lt_of_cell? w _ hw104_0)).trans hw104_0), ((HB.out.cell (World.block_lt_of_cell? w _ hw105_0)).trans hw105_0)⟩ (fun hHeld => ?_); clear hK K; refine norm_ (a' := ?_) ?_ ?_; rotate_left
            ·show Act.put _ (some 41) _ = _
             simp only [Act.put, Xj, Xk, Xl, i64_w, i32_w]; rfl
            refine pure_ (i := 20) (N := some 44) (v := ?_) (a' := ?_) (Bq 22 2097151) rfl rfl (any_of HT_.out (by kernel_rfl)) (fun _ _ _ h => h) (Or.inl ⟨by rfl, ?_⟩) ?_ ?_; rotate_left
            ·intro w'; go_simp; with_reducible rfl
            rotate_left
            ·simp only [Act.put, Xj, Xk, Xl, i64_w, i32_w]; rfl
            refine pure_ (i := 21) (N := some 45) (v := ?_) (a' := ?_) (Bq 22 4194303) rfl rfl (any_of HT_.out (by kernel_rfl)) (fun _ _ _ h => h) (Or.inl ⟨by rfl, ?_⟩) ?_ ?_; rotate_left
            ·intro w'; go_simp; with_reducible rfl
            rotate_left
            ·simp only [Act.put, Xj, Xk, Xl, i64_w, i32_w]; rfl
            refine done_ (done_of HT_.out (by kernel_rfl)) ?_; try go_wp2
            go_roundg k1
            case measure => have := HK1.out; omega
            case rel => exact ⟨(wrap64 (x21_1 + 1)), (by first | rfl | (simp; done) | (simp [*]; done)), H', ⟨by have := HK1.out; omega⟩, ⟨by (with_reducible repeat (first | refine Xf ?_ _ | refine Xg ?_ | refine Xe ?_ _)); exact J101.out⟩, ⟨by repeat (first | (with_reducible first | exact HB.out | apply Xc | apply Xa | apply Xb | refine Xd ?_ E101.out) | exact HB.out)⟩⟩
         ·rw [if_neg c17] at H; exact absurd H (by simp)
        ·rw [if_neg c16] at H; have c16b0 : ((rd l0_3 x21_1) == 0) = false := beq_eq_false_iff_ne.mpr c16; have c16b1 : ((rd l0_3 x21_1) != 0) = true := bne_iff_ne.mpr c16; replace H := Option.bind_eq_some_iff.mp H; obtain ⟨t107, A260, H⟩ := H; replace H : (if t107 > a0_0 then (some 7) else (air_priced.l0 k1 l1 (l0_3.length : Int) (wrap64 (x21_1 + 1)) a0_0 a0_1 l0_2 l0_3)) = some r := H; have A26 := XB A260; clear A260; by_cases c27 : t107 > a0_0
         ·rw [if_pos c27] at H; have c27b0 : decide (a0_0 < t107) = true := decide_eq_true c27; clear c27; obtain rfl := Option.some.inj H; try go_wp2
          have n0_ := XB (Xg J101.out); have n1_ := XB (Xb HB.out); clear J101; clear HB; have J101 := n0_; have HB := n1_; clear n0_ n1_; have p104 : 0 ≤ (x21_1 : Int) := of_decide_eq_true (by first | (with_reducible assumption) | assumption); have q104 : x21_1 < (l0_3.length : Int) := of_decide_eq_true (by first | (with_reducible assumption) | assumption); obtain ⟨ad104, e104, hx104_0⟩ := Kd.at_int HR0_3.out x21_1 p104 q104; have hw104_0 := hx104_0
          cases e104
          replace hx104_0 := (HB.out.cell (World.block_lt_of_cell? w _ hx104_0)).trans hx104_0; replace p104 := eq_true p104; replace q104 := eq_true q104; refine start_ (n := 22) (S := fun w' => w'.cell? ⟨gb101, 0, none⟩ = some (.int .i64 a0_0) ∧ w'.cell? ⟨gb101, 1, none⟩ = some (.int .i64 a0_1) ∧ w'.cell? ⟨gb101, 2, none⟩ = some (.slice A0_2 l0_2.length c0_2) ∧ w'.cell? ⟨gb101, 3, none⟩ = some (.slice (some ad104) l0_3.length c0_3) ∧ w'.cell? (ad104.add (x21_1).toNat) = some (.int .i64 (rd l0_3 x21_1))) (ds := []) #[false, false, false, false, false, false, false, false, false, false, false, false, false, false, false, false, false, false, false, false, false, false] (by kernel_rfl) rfl rfl ⟨(Xi J101.out 0).trans rfl, (Xi J101.out 1).trans rfl, (Xi J101.out 2).trans rfl, (Xi J101.out 3).trans rfl, ((HB.out.cell (World.block_lt_of_cell? w _ hw104_0)).trans hw104_0)⟩ (fun hHeld => ?_); refine with_tabW air_priced.tab9 air_priced.bits9 (fun HT_ HW_ => ?_); generalize wr.drew = w28 at J101 HB hx104_0 hHeld ⊢
          refine pure_ (i := 0) (N := some 24) (v := ?_) (a' := ?_) (Bq 22 1) rfl rfl (any_of HT_.out (by kernel_rfl)) (fun _ _ _ h => h) (Or.inl ⟨by rfl, ?_⟩) ?_ ?_; rotate_left
          ·intro w'; go_simp; with_reducible rfl
          rotate_left
          ·simp only [Act.put, Xj, Xk, Xl, i64_w, i32_w]; rfl
          refine pure_ (i := 2) (N := some 26) (v := ?_) (a' := ?_) (Bq 22 5) rfl rfl (any_of HT_.out (by kernel_rfl)) (fun _ _ _ h => h) (Or.inl ⟨by rfl, ?_⟩) ?_ ?_; rotate_left
          ·intro w'; go_simp; with_reducible rfl
          rotate_left
          ·simp only [Act.put, Xj, Xk, Xl, i64_w, i32_w]; rfl
          refine take_ (i := 1) (N := some 25) (v := ?_) (a' := ?_) (Bq 22 7) rfl rfl (take_ofW HT_.out HW_.out (by kernel_rfl)) (fun _ _ _ h => h) (Or.inl ⟨by rfl, ?_⟩) hHeld ?_ ?_; rotate_left
          ·rintro w' ⟨s0, s1, s2, s3, s4⟩; go_simp; with_reducible rfl
          rotate_left
          ·simp only [Act.put, Xj, Xk, Xl, i64_w, i32_w]; rfl
          refine pure_ (i := 3) (N := some 27) (v := ?_) (a' := ?_) (Bq 22 15) rfl rfl (any_of HT_.out (by kernel_rfl)) (fun _ _ _ h => h) (Or.inl ⟨by rfl, ?_⟩) ?_ ?_; rotate_left
          ·intro w'; go_simp; with_reducible rfl
          rotate_left
          ·simp only [Act.put, Xj, Xk, Xl, i64_w, i32_w]; rfl
          refine take_ (i := 4) (N := some 28) (v := ?_) (a' := ?_) (Bq 22 31) rfl rfl (take_ofW HT_.out HW_.out (by kernel_rfl)) (fun _ _ _ h => h) (Or.inl ⟨by rfl, ?_⟩) hHeld ?_ ?_; rotate_left
          ·rintro w' ⟨s0, s1, s2, s3, s4⟩; go_simp; with_reducible rfl
          rotate_left
          ·simp only [Act.put, Xj, Xk, Xl, i64_w, i32_w]; rfl
          refine pure_ (i := 5) (N := some 29) (v := ?_) (a' := ?_) (Bq 22 63) rfl rfl (any_of HT_.out (by kernel_rfl)) (fun _ _ _ h => h) (Or.inl ⟨by rfl, ?_⟩) ?_ ?_; rotate_left
          ·intro w'; go_simp; with_reducible rfl
          rotate_left
          ·simp only [Act.put, Xj, Xk, Xl, i64_w, i32_w]; rfl
          refine pure_ (i := 6) (N := some 30) (v := ?_) (a' := ?_) (Bq 22 127) rfl rfl (any_of HT_.out (by kernel_rfl)) (fun _ _ _ h => h) (Or.inl ⟨by rfl, ?_⟩) ?_ ?_; rotate_left
          ·intro w'; go_simp; with_reducible rfl
          rotate_left
          ·simp only [Act.put, Xj, Xk, Xl, i64_w, i32_w]; rfl
          refine pure_ (i := 7) (N := some 31) (v := undef) (a' := ?_) (Bq 22 255) rfl rfl (any_of HT_.out (by kernel_rfl)) (fun _ _ _ h => h) (Or.inr ⟨by rfl, rfl⟩) ?_ ?_; rotate_left
          ·simp only [Act.put, Xj, Xk, Xl, i64_w, i32_w]; rfl
          refine pure_ (i := 8) (N := some 32) (v := undef) (a' := ?_) (Bq 22 511) rfl rfl (any_of HT_.out (by kernel_rfl)) (fun _ _ _ h => h) (Or.inr ⟨by rfl, rfl⟩) ?_ ?_; rotate_left
          ·simp only [Act.put, Xj, Xk, Xl, i64_w, i32_w]; rfl
          refine pure_ (i := 9) (N := some 33) (v := undef) (a' := ?_) (Bq 22 1023) rfl rfl (any_of HT_.out (by kernel_rfl)) (fun _ _ _ h => h) (Or.inr ⟨by rfl, rfl⟩) ?_ ?_; rotate_left
          ·simp only [Act.put, Xj, Xk, Xl, i64_w, i32_w]; rfl
          refine pure_ (i := 10) (N := some 34) (v := undef) (a' := ?_) (Bq 22 2047) rfl rfl (any_of HT_.out (by kernel_rfl)) (fun _ _ _ h => h) (Or.inr ⟨by rfl, rfl⟩) ?_ ?_; rotate_left
          ·simp only [Act.put, Xj, Xk, Xl, i64_w, i32_w]; rfl
          refine pure_ (i := 11) (N := some 35) (v := undef) (a' := ?_) (Bq 22 4095) rfl rfl (any_of HT_.out (by kernel_rfl)) (fun _ _ _ h => h) (Or.inr ⟨by rfl, rfl⟩) ?_ ?_; rotate_left
          ·simp only [Act.put, Xj, Xk, Xl, i64_w, i32_w]; rfl
          refine pure_ (i := 12) (N := some 36) (v := ?_) (a' := ?_) (Bq 22 8191) rfl rfl (any_of HT_.out (by kernel_rfl)) (fun _ _ _ h => h) (Or.inl ⟨by rfl, ?_⟩) ?_ ?_; rotate_left
          ·intro w'; go_simp; with_reducible rfl
          rotate_left
          ·simp only [Act.put, Xj, Xk, Xl, i64_w, i32_w]; rfl
          refine pure_ (i := 13) (N := some 37) (v := ?_) (a' := ?_) (Bq 22 16383) rfl rfl (any_of HT_.out (by kernel_rfl)) (fun _ _ _ h => h) (Or.inl ⟨by rfl, ?_⟩) ?_ ?_; rotate_left
          ·intro w'; go_simp; with_reducible rfl
          rotate_left
          ·simp only [Act.put, Xj, Xk, Xl, i64_w, i32_w]; rfl
          refine pure_ (i := 15) (N := some 39) (v := ?_) (a' := ?_) (Bq 22 49151) rfl rfl (any_of HT_.out (by kernel_rfl)) (fun _ _ _ h => h) (Or.inl ⟨by rfl, ?_⟩) ?_ ?_; rotate_left
          ·intro w'; go_simp; with_reducible rfl
          rotate_left
          ·simp only [Act.put, Xj, Xk, Xl, i64_w, i32_w]; rfl
          refine pure_ (i := 16) (N := some 40) (v := ?_) (a' := ?_) (Bq 22 114687) rfl rfl (any_of HT_.out (by kernel_rfl)) (fun _ _ _ h => h) (Or.inl ⟨by rfl, ?_⟩) ?_ ?_; rotate_left
          ·intro w'; go_simp; with_reducible rfl
          rotate_left
          ·simp only [Act.put, Xj, Xk, Xl, i64_w, i32_w]; rfl
          refine pure_ (i := 18) (N := some 42) (v := ?_) (a' := ?_) (Bq 22 376831) rfl rfl (any_of HT_.out (by kernel_rfl)) (fun _ _ _ h => h) (Or.inl ⟨by rfl, ?_⟩) ?_ ?_; rotate_left
          ·intro w'; go_simp; with_reducible rfl
          rotate_left
          ·simp only [Act.put, Xj, Xk, Xl, i64_w, i32_w]; rfl
          refine take_ (i := 14) (N := some 38) (v := ?_) (a' := ?_) (Bq 22 393215) rfl rfl (take_ofW HT_.out HW_.out (by kernel_rfl)) (fun _ _ _ h => h) (Or.inl ⟨by rfl, ?_⟩) hHeld ?_ ?_; rotate_left
          ·rintro w' ⟨s0, s1, s2, s3, s4⟩; go_simp; with_reducible rfl
          rotate_left
          ·simp only [Act.put, Xj, Xk, Xl, i64_w, i32_w]; rfl
          refine take_ (i := 19) (N := some 43) (v := ?_) (a' := ?_) (Bq 22 917503) rfl rfl (take_ofW HT_.out HW_.out (by kernel_rfl)) (fun _ _ _ h => h) (Or.inl ⟨by rfl, ?_⟩) hHeld ?_ ?_; rotate_left
          ·rintro w' ⟨s0, s1, s2, s3, s4⟩; go_simp; with_reducible rfl
          rotate_left
          ·simp only [Act.put, Xj, Xk, Xl, i64_w, i32_w]; rfl
          refine one_ (i := 17) (N := some 41) (Bq 22 1048575) rfl rfl (one_of HT_.out (by kernel_rfl)) (by decide) (fun K hK => ?_); refine goes_ Try.func68 (by kernel_rfl) rfl #[.agg #[.int .i64 a0_0, .int .i64 a0_1, .slice A0_2 l0_2.length c0_2, .slice (some ad104) l0_3.length c0_3], .slice A1 l1.length c1, .int .i64 x21_1] (by rfl) rfl rfl (by (try simp only [Xm, Xn, Xo]); first | done | rfl | (simp only [Xp, Xq]; rfl)) ?_; with_reducible refine (air_above.calls k1 a0_0 a0_1 _ _ l0_2 _ _ l0_3 _ _ l1 x21_1 t107 _ ?side1 ?side2 ?side3 ?side4 ?side5 ?side6 A26.out).mono ?_
          (case side1 => repeat (first | exact (Xu HR0_2.out HB.out) | (with_reducible refine Xr ?_ _) | (with_reducible refine Xs ?_ _) | (with_reducible refine Xt ?_)))
          (case side2 => exact HC0_2.out)
          (case side3 => repeat (first | exact (Xu HR0_3.out HB.out) | (with_reducible refine Xr ?_ _) | (with_reducible refine Xs ?_ _) | (with_reducible refine Xt ?_)))
          (case side4 => exact HC0_3.out)
          (case side5 => repeat (first | exact (Xu HR1.out HB.out) | (with_reducible refine Xr ?_ _) | (with_reducible refine Xs ?_ _) | (with_reducible refine Xt ?_)))
          (case side6 => exact HC1.out)
          rintro e w29 ⟨rfl, hb⟩; refine ⟨_, rfl, ?_⟩; have n0_ := XB (XA (g := gb101) (o := .cells #[.int .i64 a0_0, .int .i64 a0_1, .slice A0_2 l0_2.length c0_2, .slice (some ad104) l0_3.length c0_3] 24 (0, 0)) (by (with_reducible repeat (first | refine Xf ?_ _ | refine Xg ?_ | refine Xe ?_ _)); exact J101.out) hb); have n1_ := XB (Xz (by repeat (first | (with_reducible first | exact HB.out | apply Xc | apply Xa | apply Xb | refine Xd ?_ E101.out) | exact HB.out)) hb); clear J101; clear HB; have J101 := n0_; have HB := n1_; clear n0_ n1_; (try clear hb)
          (try clear hb2)
          (try clear hk)
          (try clear hi)
          refine hK.out _ _ ⟨(Xi J101.out 0).trans rfl, (Xi J101.out 1).trans rfl, (Xi J101.out 2).trans rfl, (Xi J101.out 3).trans rfl, ((HB.out.cell (World.block_lt_of_cell? w _ hw104_0)).trans hw104_0)⟩ (fun hHeld => ?_); clear hK K; refine norm_ (a' := ?_) ?_ ?_; rotate_left
          ·show Act.put _ (some 41) _ = _
           simp only [Act.put, Xj, Xk, Xl, i64_w, i32_w]; rfl
          refine pure_ (i := 20) (N := some 44) (v := ?_) (a' := ?_) (Bq 22 2097151) rfl rfl (any_of HT_.out (by kernel_rfl)) (fun _ _ _ h => h) (Or.inl ⟨by rfl, ?_⟩) ?_ ?_; rotate_left
          ·intro w'; go_simp; with_reducible rfl
          rotate_left
          ·simp only [Act.put, Xj, Xk, Xl, i64_w, i32_w]; rfl
          refine pure_ (i := 21) (N := some 45) (v := ?_) (a' := ?_) (Bq 22 4194303) rfl rfl (any_of HT_.out (by kernel_rfl)) (fun _ _ _ h => h) (Or.inl ⟨by rfl, ?_⟩) ?_ ?_; rotate_left
          ·intro w'; go_simp; with_reducible rfl
          rotate_left
          ·simp only [Act.put, Xj, Xk, Xl, i64_w, i32_w]; rfl
          refine done_ (done_of HT_.out (by kernel_rfl)) ?_; try go_wp2
          go_ret
          exact ⟨by first | rfl | (simp [errW_none, errW_some] <;> rfl) | (simp [*, errW_none, errW_some] <;> rfl), by repeat (first | (with_reducible first | exact HB.out | apply Xc | apply Xa | apply Xb | refine Xd ?_ E101.out) | exact HB.out)⟩
         ·rw [if_neg c27] at H; have c27b0 : decide (a0_0 < t107) = false := decide_eq_false c27; clear c27; have H' := XB H; clear H; try go_wp2
          have n0_ := XB (Xg J101.out); have n1_ := XB (Xb HB.out); clear J101; clear HB; have J101 := n0_; have HB := n1_; clear n0_ n1_; have p104 : 0 ≤ (x21_1 : Int) := of_decide_eq_true (by first | (with_reducible assumption) | assumption); have q104 : x21_1 < (l0_3.length : Int) := of_decide_eq_true (by first | (with_reducible assumption) | assumption); obtain ⟨ad104, e104, hx104_0⟩ := Kd.at_int HR0_3.out x21_1 p104 q104; have hw104_0 := hx104_0
          cases e104
          replace hx104_0 := (HB.out.cell (World.block_lt_of_cell? w _ hx104_0)).trans hx104_0; replace p104 := eq_true p104; replace q104 := eq_true q104; refine start_ (n := 22) (S := fun w' => w'.cell? ⟨gb101, 0, none⟩ = some (.int .i64 a0_0) ∧ w'.cell? ⟨gb101, 1, none⟩ = some (.int .i64 a0_1) ∧ w'.cell? ⟨gb101, 2, none⟩ = some (.slice A0_2 l0_2.length c0_2) ∧ w'.cell? ⟨gb101, 3, none⟩ = some (.slice (some ad104) l0_3.length c0_3) ∧ w'.cell? (ad104.add (x21_1).toNat) = some (.int .i64 (rd l0_3 x21_1))) (ds := []) #[false, false, false, false, false, false, false, false, false, false, false, false, false, false, false, false, false, false, false, false, false, false] (by kernel_rfl) rfl rfl ⟨(Xi J101.out 0).trans rfl, (Xi J101.out 1).trans rfl, (Xi J101.out 2).trans rfl, (Xi J101.out 3).trans rfl, ((HB.out.cell (World.block_lt_of_cell? w _ hw104_0)).trans hw104_0)⟩ (fun hHeld => ?_); refine with_tabW air_priced.tab9 air_priced.bits9 (fun HT_ HW_ => ?_); generalize wr.drew = w30 at J101 HB hx104_0 hHeld ⊢
          refine pure_ (i := 0) (N := some 24) (v := ?_) (a' := ?_) (Bq 22 1) rfl rfl (any_of HT_.out (by kernel_rfl)) (fun _ _ _ h => h) (Or.inl ⟨by rfl, ?_⟩) ?_ ?_; rotate_left
          ·intro w'; go_simp; with_reducible rfl
          rotate_left
          ·simp only [Act.put, Xj, Xk, Xl, i64_w, i32_w]; rfl
          refine pure_ (i := 2) (N := some 26) (v := ?_) (a' := ?_) (Bq 22 5) rfl rfl (any_of HT_.out (by kernel_rfl)) (fun _ _ _ h => h) (Or.inl ⟨by rfl, ?_⟩) ?_ ?_; rotate_left
          ·intro w'; go_simp; with_reducible rfl
          rotate_left
          ·simp only [Act.put, Xj, Xk, Xl, i64_w, i32_w]; rfl
          refine take_ (i := 1) (N := some 25) (v := ?_) (a' := ?_) (Bq 22 7) rfl rfl (take_ofW HT_.out HW_.out (by kernel_rfl)) (fun _ _ _ h => h) (Or.inl ⟨by rfl, ?_⟩) hHeld ?_ ?_; rotate_left
          ·rintro w' ⟨s0, s1, s2, s3, s4⟩; go_simp; with_reducible rfl
          rotate_left
          ·simp only [Act.put, Xj, Xk, Xl, i64_w, i32_w]; rfl
          refine pure_ (i := 3) (N := some 27) (v := ?_) (a' := ?_) (Bq 22 15) rfl rfl (any_of HT_.out (by kernel_rfl)) (fun _ _ _ h => h) (Or.inl ⟨by rfl, ?_⟩) ?_ ?_; rotate_left
          ·intro w'; go_simp; with_reducible rfl
          rotate_left
          ·simp only [Act.put, Xj, Xk, Xl, i64_w, i32_w]; rfl
          refine take_ (i := 4) (N := some 28) (v := ?_) (a' := ?_) (Bq 22 31) rfl rfl (take_ofW HT_.out HW_.out (by kernel_rfl)) (fun _ _ _ h => h) (Or.inl ⟨by rfl, ?_⟩) hHeld ?_ ?_; rotate_left
          ·rintro w' ⟨s0, s1, s2, s3, s4⟩; go_simp; with_reducible rfl
          rotate_left
          ·simp only [Act.put, Xj, Xk, Xl, i64_w, i32_w]; rfl
          refine pure_ (i := 5) (N := some 29) (v := ?_) (a' := ?_) (Bq 22 63) rfl rfl (any_of HT_.out (by kernel_rfl)) (fun _ _ _ h => h) (Or.inl ⟨by rfl, ?_⟩) ?_ ?_; rotate_left
          ·intro w'; go_simp; with_reducible rfl
          rotate_left
          ·simp only [Act.put, Xj, Xk, Xl, i64_w, i32_w]; rfl
          refine pure_ (i := 6) (N := some 30) (v := ?_) (a' := ?_) (Bq 22 127) rfl rfl (any_of HT_.out (by kernel_rfl)) (fun _ _ _ h => h) (Or.inl ⟨by rfl, ?_⟩) ?_ ?_; rotate_left
          ·intro w'; go_simp; with_reducible rfl
          rotate_left
          ·simp only [Act.put, Xj, Xk, Xl, i64_w, i32_w]; rfl
          refine pure_ (i := 7) (N := some 31) (v := undef) (a' := ?_) (Bq 22 255) rfl rfl (any_of HT_.out (by kernel_rfl)) (fun _ _ _ h => h) (Or.inr ⟨by rfl, rfl⟩) ?_ ?_; rotate_left
          ·simp only [Act.put, Xj, Xk, Xl, i64_w, i32_w]; rfl
          refine pure_ (i := 8) (N := some 32) (v := undef) (a' := ?_) (Bq 22 511) rfl rfl (any_of HT_.out (by kernel_rfl)) (fun _ _ _ h => h) (Or.inr ⟨by rfl, rfl⟩) ?_ ?_; rotate_left
          ·simp only [Act.put, Xj, Xk, Xl, i64_w, i32_w]; rfl
          refine pure_ (i := 9) (N := some 33) (v := undef) (a' := ?_) (Bq 22 1023) rfl rfl (any_of HT_.out (by kernel_rfl)) (fun _ _ _ h => h) (Or.inr ⟨by rfl, rfl⟩) ?_ ?_; rotate_left
          ·simp only [Act.put, Xj, Xk, Xl, i64_w, i32_w]; rfl
          refine pure_ (i := 10) (N := some 34) (v := undef) (a' := ?_) (Bq 22 2047) rfl rfl (any_of HT_.out (by kernel_rfl)) (fun _ _ _ h => h) (Or.inr ⟨by rfl, rfl⟩) ?_ ?_; rotate_left
          ·simp only [Act.put, Xj, Xk, Xl, i64_w, i32_w]; rfl
          refine pure_ (i := 11) (N := some 35) (v := undef) (a' := ?_) (Bq 22 4095) rfl rfl (any_of HT_.out (by kernel_rfl)) (fun _ _ _ h => h) (Or.inr ⟨by rfl, rfl⟩) ?_ ?_; rotate_left
          ·simp only [Act.put, Xj, Xk, Xl, i64_w, i32_w]; rfl
          refine pure_ (i := 12) (N := some 36) (v := ?_) (a' := ?_) (Bq 22 8191) rfl rfl (any_of HT_.out (by kernel_rfl)) (fun _ _ _ h => h) (Or.inl ⟨by rfl, ?_⟩) ?_ ?_; rotate_left
          ·intro w'; go_simp; with_reducible rfl
          rotate_left
          ·simp only [Act.put, Xj, Xk, Xl, i64_w, i32_w]; rfl
          refine pure_ (i := 13) (N := some 37) (v := ?_) (a' := ?_) (Bq 22 16383) rfl rfl (any_of HT_.out (by kernel_rfl)) (fun _ _ _ h => h) (Or.inl ⟨by rfl, ?_⟩) ?_ ?_; rotate_left
          ·intro w'; go_simp; with_reducible rfl
          rotate_left
          ·simp only [Act.put, Xj, Xk, Xl, i64_w, i32_w]; rfl
          refine pure_ (i := 15) (N := some 39) (v := ?_) (a' := ?_) (Bq 22 49151) rfl rfl (any_of HT_.out (by kernel_rfl)) (fun _ _ _ h => h) (Or.inl ⟨by rfl, ?_⟩) ?_ ?_; rotate_left
          ·intro w'; go_simp; with_reducible rfl
          rotate_left
          ·simp only [Act.put, Xj, Xk, Xl, i64_w, i32_w]; rfl
          refine pure_ (i := 16) (N := some 40) (v := ?_) (a' := ?_) (Bq 22 114687) rfl rfl (any_of HT_.out (by kernel_rfl)) (fun _ _ _ h => h) (Or.inl ⟨by rfl, ?_⟩) ?_ ?_; rotate_left
          ·intro w'; go_simp; with_reducible rfl
          rotate_left
          ·simp only [Act.put, Xj, Xk, Xl, i64_w, i32_w]; rfl
          refine pure_ (i := 18) (N := some 42) (v := ?_) (a' := ?_) (Bq 22 376831) rfl rfl (any_of HT_.out (by kernel_rfl)) (fun _ _ _ h => h) (Or.inl ⟨by rfl, ?_⟩) ?_ ?_; rotate_left
          ·intro w'; go_simp; with_reducible rfl
          rotate_left
          ·simp only [Act.put, Xj, Xk, Xl, i64_w, i32_w]; rfl
          refine take_ (i := 14) (N := some 38) (v := ?_) (a' := ?_) (Bq 22 393215) rfl rfl (take_ofW HT_.out HW_.out (by kernel_rfl)) (fun _ _ _ h => h) (Or.inl ⟨by rfl, ?_⟩) hHeld ?_ ?_; rotate_left
          ·rintro w' ⟨s0, s1, s2, s3, s4⟩; go_simp; with_reducible rfl
          rotate_left
          ·simp only [Act.put, Xj, Xk, Xl, i64_w, i32_w]; rfl
          refine take_ (i := 19) (N := some 43) (v := ?_) (a' := ?_) (Bq 22 917503) rfl rfl (take_ofW HT_.out HW_.out (by kernel_rfl)) (fun _ _ _ h => h) (Or.inl ⟨by rfl, ?_⟩) hHeld ?_ ?_; rotate_left
          ·rintro w' ⟨s0, s1, s2, s3, s4⟩; go_simp; with_reducible rfl
          rotate_left
          ·simp only [Act.put, Xj, Xk, Xl, i64_w, i32_w]; rfl
          refine one_ (i := 17) (N := some 41) (Bq 22 1048575) rfl rfl (one_of HT_.out (by kernel_rfl)) (by decide) (fun K hK => ?_); refine goes_ Try.func68 (by kernel_rfl) rfl #[.agg #[.int .i64 a0_0, .int .i64 a0_1, .slice A0_2 l0_2.length c0_2, .slice (some ad104) l0_3.length c0_3], .slice A1 l1.length c1, .int .i64 x21_1] (by rfl) rfl rfl (by (try simp only [Xm, Xn, Xo]); first | done | rfl | (simp only [Xp, Xq]; rfl)) ?_; with_reducible refine (air_above.calls k1 a0_0 a0_1 _ _ l0_2 _ _ l0_3 _ _ l1 x21_1 t107 _ ?side1 ?side2 ?side3 ?side4 ?side5 ?side6 A26.out).mono ?_
          (case side1 => repeat (first | exact (Xu HR0_2.out HB.out) | (with_reducible refine Xr ?_ _) | (with_reducible refine Xs ?_ _) | (with_reducible refine Xt ?_)))
          (case side2 => exact HC0_2.out)
          (case side3 => repeat (first | exact (Xu HR0_3.out HB.out) | (with_reducible refine Xr ?_ _) | (with_reducible refine Xs ?_ _) | (with_reducible refine Xt ?_)))
          (case side4 => exact HC0_3.out)
          (case side5 => repeat (first | exact (Xu HR1.out HB.out) | (with_reducible refine Xr ?_ _) | (with_reducible refine Xs ?_ _) | (with_reducible refine Xt ?_)))
          (case side6 => exact HC1.out)
          rintro e w31 ⟨rfl, hb⟩; refine ⟨_, rfl, ?_⟩; have n0_ := XB (XA (g := gb101) (o := .cells #[.int .i64 a0_0, .int .i64 a0_1, .slice A0_2 l0_2.length c0_2, .slice (some ad104) l0_3.length c0_3] 24 (0, 0)) (by (with_reducible repeat (first | refine Xf ?_ _ | refine Xg ?_ | refine Xe ?_ _)); exact J101.out) hb); have n1_ := XB (Xz (by repeat (first | (with_reducible first | exact HB.out | apply Xc | apply Xa | apply Xb | refine Xd ?_ E101.out) | exact HB.out)) hb); clear J101; clear HB; have J101 := n0_; have HB := n1_; clear n0_ n1_; (try clear hb)
          (try clear hb2)
          (try clear hk)
          (try clear hi)
          refine hK.out _ _ ⟨(Xi J101.out 0).trans rfl, (Xi J101.out 1).trans rfl, (Xi J101.out 2).trans rfl, (Xi J101.out 3).trans rfl, ((HB.out.cell (World.block_lt_of_cell? w _ hw104_0)).trans hw104_0)⟩ (fun hHeld => ?_); clear hK K; refine norm_ (a' := ?_) ?_ ?_; rotate_left
          ·show Act.put _ (some 41) _ = _
           simp only [Act.put, Xj, Xk, Xl, i64_w, i32_w]; rfl
          refine pure_ (i := 20) (N := some 44) (v := ?_) (a' := ?_) (Bq 22 2097151) rfl rfl (any_of HT_.out (by kernel_rfl)) (fun _ _ _ h => h) (Or.inl ⟨by rfl, ?_⟩) ?_ ?_; rotate_left
          ·intro w'; go_simp; with_reducible rfl
          rotate_left
          ·simp only [Act.put, Xj, Xk, Xl, i64_w, i32_w]; rfl
          refine pure_ (i := 21) (N := some 45) (v := ?_) (a' := ?_) (Bq 22 4194303) rfl rfl (any_of HT_.out (by kernel_rfl)) (fun _ _ _ h => h) (Or.inl ⟨by rfl, ?_⟩) ?_ ?_; rotate_left
          ·intro w'; go_simp; with_reducible rfl
          rotate_left
          ·simp only [Act.put, Xj, Xk, Xl, i64_w, i32_w]; rfl
          refine done_ (done_of HT_.out (by kernel_rfl)) ?_; try go_wp2
          go_roundg k1
          case measure => have := HK1.out; omega
          case rel => exact ⟨(wrap64 (x21_1 + 1)), (by first | rfl | (simp; done) | (simp [*]; done)), H', ⟨by have := HK1.out; omega⟩, ⟨by (with_reducible repeat (first | refine Xf ?_ _ | refine Xg ?_ | refine Xe ?_ _)); exact J101.out⟩, ⟨by repeat (first | (with_reducible first | exact HB.out | apply Xc | apply Xa | apply Xb | refine Xd ?_ E101.out) | exact HB.out)⟩⟩
       ·rw [if_neg c15] at H; exact absurd H (by simp)
      ·rw [if_neg c14] at H; exact absurd H (by simp)
     ·rw [if_neg c13] at H; have c13b0 : decide (x21_1 < (l0_3.length : Int)) = false := decide_eq_false c13; clear c13; obtain rfl := Option.some.inj H; go_wp2
      go_ret
      exact ⟨by first | rfl | (simp [errW_none, errW_some] <;> rfl) | (simp [*, errW_none, errW_some] <;> rfl), by repeat (first | (with_reducible first | exact HB.out | apply Xc | apply Xa | apply Xb | refine Xd ?_ E101.out) | exact HB.out)⟩
  ·replace c6 := Bool.eq_false_iff.mpr c6; subst c6; have H1 : (some 1) = some r := by rw [if_neg (show ¬ (false = true) by decide)] at H; exact H
   clear H; have H := H1; clear H1; obtain rfl := Option.some.inj H; go_enter Try.func63, Try.ntmps63
   go_wp2_with (first | ((with_reducible refine gate_dst (N := 2) rfl ?_); refine box_event ?hg (N := 2) ?hd (cs := #[.int .i64 a0_0, .int .i64 a0_1, .slice A0_2 l0_2.length c0_2, .slice A0_3 l0_3.length c0_3]) (t := 24) ?hr ?_; (case hd => rfl); (case hg => rfl); (case hr => first | (go_simp; done) | (go_simp; rfl)); intro gb101 hg w32 hbox hb; have n0_ := XB (Xz (by repeat (first | (with_reducible first | exact HB.out | apply Xc | apply Xa | apply Xb) | exact HB.out)) hb); have n1_ := XB (hbox); have n2_ := XB ((by rw [hg]; exact (XC (by repeat (first | (with_reducible first | exact HB.out | apply Xc | apply Xa | apply Xb) | exact HB.out))) : w.heap.size ≤ gb101)); have n3_ := XB ((by rw [hg]; exact (XC (by repeat (first | (with_reducible first | exact HB.out | apply Xc | apply Xa | apply Xb) | exact HB.out))) : w.heap.size ≤ gb101)); clear HB; have HB := n0_; have J101 := n1_; have GW101 := n2_; have E101 := n3_; clear n0_ n1_ n2_ n3_; clear hb hbox hg; have hcz33_0 : w32.cell? ⟨gb101, 0, none⟩ = some (.int .i64 a0_0) := (Xi J101.out 0).trans rfl; have hcz33_1 : w32.cell? ⟨gb101, 1, none⟩ = some (.int .i64 a0_1) := (Xi J101.out 1).trans rfl; have hcz33_2 : w32.cell? ⟨gb101, 2, none⟩ = some (.slice A0_2 l0_2.length c0_2) := (Xi J101.out 2).trans rfl; have hcz33_3 : w32.cell? ⟨gb101, 3, none⟩ = some (.slice A0_3 l0_3.length c0_3) := (Xi J101.out 3).trans rfl; have hfz33_0 := Xh J101.out 0; have hfz33_1 := Xh J101.out 1; have hfz33_2 := Xh J101.out 2; have hfz33_3 := Xh J101.out 3) | ((with_reducible refine gate_callee (f := 42) rfl ?_); refine goesL_ (some 8) rfl rfl Try.func42 (by kernel_rfl) rfl #[.agg #[.int .i64 a0_0, .int .i64 a0_1, .slice A0_2 l0_2.length c0_2, .slice A0_3 l0_3.length c0_3]] rfl (by (try simp only [Xm, Xn, Xo]); first | done | rfl | (simp only [Xp, Xq]; rfl)) ?_; (with_reducible refine (air_Validate.calls a0_0 a0_1 _ _ l0_2 _ _ l0_3 t102 _ ?side1 ?side2 ?side3 ?side4 A3.out).mono ?_); (case side1 => repeat (first | exact (Xu HR0_2.out HB.out) | (with_reducible refine Xr ?_ _) | (with_reducible refine Xs ?_ _) | (with_reducible refine Xt ?_))); (case side2 => exact HC0_2.out); (case side3 => repeat (first | exact (Xu HR0_3.out HB.out) | (with_reducible refine Xr ?_ _) | (with_reducible refine Xs ?_ _) | (with_reducible refine Xt ?_))); (case side4 => exact HC0_3.out); rintro e w34 ⟨rfl, hb⟩; refine ⟨_, rfl, ?_⟩; have n0_ := XB (XA (g := gb101) (o := .cells #[.int .i64 a0_0, .int .i64 a0_1, .slice A0_2 l0_2.length c0_2, .slice A0_3 l0_3.length c0_3] 24 (0, 0)) (by (with_reducible repeat (first | refine Xf ?_ _ | refine Xg ?_ | refine Xe ?_ _)); exact J101.out) hb); have n1_ := XB (Xz (by repeat (first | (with_reducible first | exact HB.out | apply Xc | apply Xa | apply Xb | refine Xd ?_ E101.out) | exact HB.out)) hb); clear J101; clear HB; have J101 := n0_; have HB := n1_; clear n0_ n1_; (try clear hb); (try clear hb2); (try clear hk); (try clear hi); have hcz35_0 : w34.cell? ⟨gb101, 0, none⟩ = some (.int .i64 a0_0) := (Xi J101.out 0).trans rfl; have hcz35_1 : w34.cell? ⟨gb101, 1, none⟩ = some (.int .i64 a0_1) := (Xi J101.out 1).trans rfl; have hcz35_2 : w34.cell? ⟨gb101, 2, none⟩ = some (.slice A0_2 l0_2.length c0_2) := (Xi J101.out 2).trans rfl; have hcz35_3 : w34.cell? ⟨gb101, 3, none⟩ = some (.slice A0_3 l0_3.length c0_3) := (Xi J101.out 3).trans rfl; have hfz35_0 := Xh J101.out 0; have hfz35_1 := Xh J101.out 1; have hfz35_2 := Xh J101.out 2; have hfz35_3 := Xh J101.out 3) | ((with_reducible refine gate_callee (f := 78) rfl ?_); refine goesL_ (some 16) rfl rfl Try.func78 (by kernel_rfl) rfl #[.slice A1 l1.length c1, .int .i64 (l0_3.length : Int), .int .i64 100000] rfl (by (try simp only [Xm, Xn, Xo]); first | done | rfl | (simp only [Xp, Xq]; rfl)) ?_; (with_reducible refine (air_all.calls _ _ l1 (l0_3.length : Int) 100000 false _ ?side1 ?side2 A5.out).mono ?_); (case side1 => repeat (first | exact (Xu HR1.out HB.out) | (with_reducible refine Xr ?_ _) | (with_reducible refine Xs ?_ _) | (with_reducible refine Xt ?_))); (case side2 => exact HC1.out); rintro e w36 ⟨rfl, hb⟩; refine ⟨_, rfl, ?_⟩; have n0_ := XB (XA (g := gb101) (o := .cells #[.int .i64 a0_0, .int .i64 a0_1, .slice A0_2 l0_2.length c0_2, .slice A0_3 l0_3.length c0_3] 24 (0, 0)) (by (with_reducible repeat (first | refine Xf ?_ _ | refine Xg ?_ | refine Xe ?_ _)); exact J101.out) hb); have n1_ := XB (Xz (by repeat (first | (with_reducible first | exact HB.out | apply Xc | apply Xa | apply Xb | refine Xd ?_ E101.out) | exact HB.out)) hb); clear J101; clear HB; have J101 := n0_; have HB := n1_; clear n0_ n1_; (try clear hb); (try clear hb2); (try clear hk); (try clear hi)))
   go_ret
   exact ⟨by first | rfl | (simp [errW_none, errW_some] <;> rfl) | (simp [*, errW_none, errW_some] <;> rfl), by repeat (first | (with_reducible first | exact HB.out | apply Xc | apply Xa | apply Xb | refine Xd ?_ E101.out) | exact HB.out)⟩
 ·rw [if_neg c4] at H; have c4b0 : (t102 == 0) = false := beq_eq_false_iff_ne.mpr c4; have c4b1 : (t102 != 0) = true := bne_iff_ne.mpr c4; obtain rfl := Option.some.inj H; go_enter Try.func63, Try.ntmps63
  go_wp2_with (first | ((with_reducible refine gate_dst (N := 2) rfl ?_); refine box_event ?hg (N := 2) ?hd (cs := #[.int .i64 a0_0, .int .i64 a0_1, .slice A0_2 l0_2.length c0_2, .slice A0_3 l0_3.length c0_3]) (t := 24) ?hr ?_; (case hd => rfl); (case hg => rfl); (case hr => first | (go_simp; done) | (go_simp; rfl)); intro gb101 hg w37 hbox hb; have n0_ := XB (Xz (by repeat (first | (with_reducible first | exact HB.out | apply Xc | apply Xa | apply Xb) | exact HB.out)) hb); have n1_ := XB (hbox); have n2_ := XB ((by rw [hg]; exact (XC (by repeat (first | (with_reducible first | exact HB.out | apply Xc | apply Xa | apply Xb) | exact HB.out))) : w.heap.size ≤ gb101)); have n3_ := XB ((by rw [hg]; exact (XC (by repeat (first | (with_reducible first | exact HB.out | apply Xc | apply Xa | apply Xb) | exact HB.out))) : w.heap.size ≤ gb101)); clear HB; have HB := n0_; have J101 := n1_; have GW101 := n2_; have E101 := n3_; clear n0_ n1_ n2_ n3_; clear hb hbox hg; have hcz38_0 : w37.cell? ⟨gb101, 0, none⟩ = some (.int .i64 a0_0) := (Xi J101.out 0).trans rfl; have hcz38_1 : w37.cell? ⟨gb101, 1, none⟩ = some (.int .i64 a0_1) := (Xi J101.out 1).trans rfl; have hcz38_2 : w37.cell? ⟨gb101, 2, none⟩ = some (.slice A0_2 l0_2.length c0_2) := (Xi J101.out 2).trans rfl; have hcz38_3 : w37.cell? ⟨gb101, 3, none⟩ = some (.slice A0_3 l0_3.length c0_3) := (Xi J101.out 3).trans rfl; have hfz38_0 := Xh J101.out 0; have hfz38_1 := Xh J101.out 1; have hfz38_2 := Xh J101.out 2; have hfz38_3 := Xh J101.out 3) | ((with_reducible refine gate_callee (f := 42) rfl ?_); refine goesL_ (some 8) rfl rfl Try.func42 (by kernel_rfl) rfl #[.agg #[.int .i64 a0_0, .int .i64 a0_1, .slice A0_2 l0_2.length c0_2, .slice A0_3 l0_3.length c0_3]] rfl (by (try simp only [Xm, Xn, Xo]); first | done | rfl | (simp only [Xp, Xq]; rfl)) ?_; (with_reducible refine (air_Validate.calls a0_0 a0_1 _ _ l0_2 _ _ l0_3 t102 _ ?side1 ?side2 ?side3 ?side4 A3.out).mono ?_); (case side1 => repeat (first | exact (Xu HR0_2.out HB.out) | (with_reducible refine Xr ?_ _) | (with_reducible refine Xs ?_ _) | (with_reducible refine Xt ?_))); (case side2 => exact HC0_2.out); (case side3 => repeat (first | exact (Xu HR0_3.out HB.out) | (with_reducible refine Xr ?_ _) | (with_reducible refine Xs ?_ _) | (with_reducible refine Xt ?_))); (case side4 => exact HC0_3.out); rintro e w39 ⟨rfl, hb⟩; refine ⟨_, rfl, ?_⟩; have n0_ := XB (XA (g := gb101) (o := .cells #[.int .i64 a0_0, .int .i64 a0_1, .slice A0_2 l0_2.length c0_2, .slice A0_3 l0_3.length c0_3] 24 (0, 0)) (by (with_reducible repeat (first | refine Xf ?_ _ | refine Xg ?_ | refine Xe ?_ _)); exact J101.out) hb); have n1_ := XB (Xz (by repeat (first | (with_reducible first | exact HB.out | apply Xc | apply Xa | apply Xb | refine Xd ?_ E101.out) | exact HB.out)) hb); clear J101; clear HB; have J101 := n0_; have HB := n1_; clear n0_ n1_; (try clear hb); (try clear hb2); (try clear hk); (try clear hi)))
  go_ret
  exact ⟨by first | rfl | (simp [errW_none, errW_some] <;> rfl) | (simp [*, errW_none, errW_some] <;> rfl), by repeat (first | (with_reducible first | exact HB.out | apply Xc | apply Xa | apply Xb | refine Xd ?_ E101.out) | exact HB.out)⟩

end Go.Proofs.Ytboefcikdfjfmaa.P
