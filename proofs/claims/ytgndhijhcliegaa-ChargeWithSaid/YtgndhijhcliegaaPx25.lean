-- laid by a program of this session (wip/tools): plain functions of the Go code and their contracts
-- thinned
import Derived.Test.YtgndhijhcliegaaPx0
import Derived.Test.YtgndhijhcliegaaPx3
import Derived.Test.YtgndhijhcliegaaPx14
namespace Go.Proofs.Ytgndhijhcliegaa.P
open Go.RowKit Go.Proofs.YtgndhijhcliegaaW.PrintWords Go.Proofs.YtgndhijhcliegaaW.PrintLast Go.Proofs.YtgndhijhcliegaaW.PrintMore
attribute [local go_sem] max2_int min2_int max_two min_two max_three min_three max_four min_four   -- for this text's walks alone
set_option linter.unusedVariables false
set_option linter.unusedSimpArgs false

/-! ### diaphoneref07_With: function 55 -/
def diaphoneref07_With.l0 : Nat → List Int → Int → List Int → Int → Option (List Int × Int)
 | 0, _, _, _, _ => none
 | k + 1, x0, x1, x7, x8 => if x8 < (x0.length : Int) then (if 0 ≤ x8 then (if (rd x0 x8) < x1 then (if x7.length < 17592186044416 then (diaphoneref07_With.l0 k x0 x1 (x7 ++ [rd x0 x8]) (wrap64 (x8 + 1))) else (none)) else (if x7.length < 17592186044416 then ((some (x7 ++ [x1] : List Int)).bind fun y108 => (if 0 ≤ (x7.length : Int) then (if (x7.length : Int) ≤ (x0.length : Int) then (if y108.length + (x0.drop ((x7.length : Int) : Int).toNat).length < 17592186044416 then ((some (y108 ++ (x0.drop ((x7.length : Int) : Int).toNat) : List Int)).bind fun y112 => ((diaphoneref07_Validate.f k y112).bind fun t115 => (if t115 = 0 then (some (y112, 0)) else (some (([] : List Int), t115))))) else (none)) else (none)) else (none))) else (none))) else (none)) else (if x7.length < 17592186044416 then ((some (x7 ++ [x1] : List Int)).bind fun y116 => (if 0 ≤ (x7.length : Int) then (if (x7.length : Int) ≤ (x0.length : Int) then (if y116.length + (x0.drop ((x7.length : Int) : Int).toNat).length < 17592186044416 then ((some (y116 ++ (x0.drop ((x7.length : Int) : Int).toNat) : List Int)).bind fun y120 => ((diaphoneref07_Validate.f k y120).bind fun t123 => (if t123 = 0 then (some (y120, 0)) else (some (([] : List Int), t123))))) else (none)) else (none)) else (none))) else (none))
def diaphoneref07_With.f (k : Nat) (l0 : List Int) (a1 : Int) : Option (List Int × Int) := (diaphoneref07_Validate.f k l0).bind fun t101 => (if t101 = 0 then ((diaphoneref07_Has.f k l0 a1).bind fun t102 => (if t102 = true then (some (([] : List Int), 5)) else (diaphoneref07_With.l0 k l0 a1 ([] : List Int) 0))) else (some (([] : List Int), t101)))
theorem diaphoneref07_With.mono_l : ∀ k, (∀ y0 y1 y2 y3, LeO (diaphoneref07_With.l0 k y0 y1 y2 y3) (diaphoneref07_With.l0 (k + 1) y0 y1 y2 y3))
 | 0 => fun _ _ _ _ r h => by simp [diaphoneref07_With.l0] at h
 | k + 1 => by
  have ih0 := diaphoneref07_With.mono_l k
  ·intro y0 y1 y2 y3; unfold diaphoneref07_With.l0; repeat' first
   | (with_reducible exact ih0 _ _ _ _)
   | (with_reducible exact diaphoneref07_Has.mono _ _ _)
   | (with_reducible exact diaphoneref07_Validate.mono _ _)
   | (with_reducible exact LeO.refl _)
   | (with_reducible exact LeO.none _)
   | (with_reducible refine LeO.ite ?_ ?_)
   | (with_reducible refine LeO.bind ?_ (fun _ => ?_))
   | exact ih0 _ _ _ _
   | exact diaphoneref07_Has.mono _ _ _
   | exact diaphoneref07_Validate.mono _ _
   | exact LeO.none _
   | refine LeO.ite ?_ ?_
   | refine LeO.bind ?_ (fun _ => ?_)
theorem diaphoneref07_With.mono : ∀ a0 a1 k, LeO (diaphoneref07_With.f k a0 a1) (diaphoneref07_With.f (k + 1) a0 a1) := by
 intro a0 a1 k; have ih0 := diaphoneref07_With.mono_l k; unfold diaphoneref07_With.f; repeat' first
   | (with_reducible exact ih0 _ _ _ _)
   | (with_reducible exact diaphoneref07_Has.mono _ _ _)
   | (with_reducible exact diaphoneref07_Validate.mono _ _)
   | (with_reducible exact LeO.refl _)
   | (with_reducible exact LeO.none _)
   | (with_reducible refine LeO.ite ?_ ?_)
   | (with_reducible refine LeO.bind ?_ (fun _ => ?_))
   | exact ih0 _ _ _ _
   | exact diaphoneref07_Has.mono _ _ _
   | exact diaphoneref07_Validate.mono _ _
   | exact LeO.none _
   | refine LeO.ite ?_ ?_
   | refine LeO.bind ?_ (fun _ => ?_)
def diaphoneref07_With.T12 : Bool × List (List Nat × List Nat) := (true, [([], []), ([], []), ([1], [1]), ([0, 2], [0, 2]), ([], []), ([], []), ([4, 5], [4, 5]), ([3, 6, 3], [3, 6]), ([7, 7, 0, 1, 2, 3, 4, 5, 6, 7], [0, 7])])
def diaphoneref07_With.B12 : List Nat := [0, 0, 2, 7, 0, 0, 48, 127, 255]
theorem diaphoneref07_With.tab12 : rtab .any (opsOf Try.f55 12) = diaphoneref07_With.T12 := by kernel_rfl
theorem diaphoneref07_With.bits12 : waitsOk diaphoneref07_With.T12.2 diaphoneref07_With.B12 = true := by kernel_rfl
set_option maxHeartbeats 8000000 in
set_option maxRecDepth 100000 in
theorem diaphoneref07_With.calls (k : Nat) (A0 : Option Addr) (c0 : Nat) (l0 : List Int) (a1 : Int) (r1 : List Int) (r2 : Int) (w : World) (hr0 : Kd.C (Kd.int .i64) w A0 l0.length l0) (hc0 : l0.length ≤ c0) (h : diaphoneref07_With.f k l0 a1 = some (r1, r2)) :
  Calls Try.prog 55 #[.slice A0 l0.length c0, .int .i64 a1] w fun e w' => ∃ v0_ : Value, e = .returned (.tuple #[v0_, .int .i64 r2]) ∧ Kd.R (Kd.int .i64) 3 w' w.heap.size (fun _ => True) v0_ r1 ∧ Below w.heap.size w w' := by
 have HR0 := XB hr0; have HC0 := XB hc0; clear hr0 hc0; have HB := XB (Below.refl w.heap.size w); have H : ((diaphoneref07_Validate.f k l0).bind fun t101 => (if t101 = 0 then ((diaphoneref07_Has.f k l0 a1).bind fun t102 => (if t102 = true then (some (([] : List Int), 5)) else (diaphoneref07_With.l0 k l0 a1 ([] : List Int) 0))) else (some (([] : List Int), t101)))) = some (r1, r2) := h; clear h; replace H := Option.bind_eq_some_iff.mp H; obtain ⟨t101, A30, H⟩ := H; replace H : (if t101 = 0 then ((diaphoneref07_Has.f k l0 a1).bind fun t102 => (if t102 = true then (some (([] : List Int), 5)) else (diaphoneref07_With.l0 k l0 a1 ([] : List Int) 0))) else (some (([] : List Int), t101))) = some (r1, r2) := H; have A3 := XB A30; clear A30; by_cases c4 : t101 = 0
 ·rw [if_pos c4] at H; have c4b0 : (t101 == 0) = true := beq_iff_eq.mpr c4; have c4b1 : (t101 != 0) = false := bne_eq_false_iff_eq.mpr c4; clear c4; replace H := Option.bind_eq_some_iff.mp H; obtain ⟨t102, A50, H⟩ := H; replace H : (if t102 = true then (some (([] : List Int), 5)) else (diaphoneref07_With.l0 k l0 a1 ([] : List Int) 0)) = some (r1, r2) := H; have A5 := XB A50; clear A50; by_cases c6 : t102 = true
  ·subst c6; have H1 : (some (([] : List Int), 5)) = some (r1, r2) := by rw [if_pos rfl] at H; exact H
   clear H; have H := H1; clear H1; simp only [Option.some.injEq, Prod.mk.injEq] at H; obtain ⟨rfl, rfl⟩ := H; go_enter Try.func55, Try.ntmps55
   go_wp2_with (first | ((with_reducible refine gate_callee (f := 47) rfl ?_); refine goesL_ (some 11) rfl rfl Try.func47 (by kernel_rfl) rfl #[.slice A0 l0.length c0] rfl (by (try simp only [Xm, Xn, Xo]); first | done | rfl | (simp only [Xp, Xq]; rfl)) ?_; (with_reducible refine (diaphoneref07_Validate.calls k _ _ l0 t101 _ ?side1 ?side2 A3.out).mono ?_); (case side1 => repeat (first | exact HR0.out | (with_reducible refine Xr ?_ _) | (with_reducible refine Xs ?_ _) | (with_reducible refine Xt ?_))); (case side2 => exact HC0.out); rintro e w' ⟨rfl, ⟨nd, rfl⟩⟩; refine ⟨_, rfl, ?_⟩) | ((with_reducible refine gate_callee (f := 35) rfl ?_); refine goesL_ (some 17) rfl rfl Try.func35 (by kernel_rfl) rfl #[.slice A0 l0.length c0, .int .i64 a1] rfl (by (try simp only [Xm, Xn, Xo]); first | done | rfl | (simp only [Xp, Xq]; rfl)) ?_; (with_reducible refine (diaphoneref07_Has.calls k _ _ l0 a1 true _ ?side1 ?side2 A5.out).mono ?_); (case side1 => repeat (first | exact HR0.out | (with_reducible refine Xr ?_ _) | (with_reducible refine Xs ?_ _) | (with_reducible refine Xt ?_))); (case side2 => exact HC0.out); rintro e w' ⟨rfl, ⟨nd, rfl⟩⟩; refine ⟨_, rfl, ?_⟩))
   go_ret2
   exact ⟨_, by first | rfl | (simp [errW_none, errW_some] <;> rfl) | (simp [*, errW_none, errW_some] <;> rfl), by first | exact Kd.R_nil _ _ _ _ _ | exact Kd.N_nil _ _ _ _ _ | exact Kd.V_nil _ _ _ _ _ | exact Kd.Q_nil _ _ _ _ _ | exact Kd.S_nil _ _ _ _ _, by repeat (first | (with_reducible first | exact HB.out | apply Xc | apply Xa | apply Xb) | exact HB.out)⟩
  ·replace c6 := Bool.eq_false_iff.mpr c6; subst c6; have H1 : (diaphoneref07_With.l0 k l0 a1 ([] : List Int) 0) = some (r1, r2) := by rw [if_neg (show ¬ (false = true) by decide)] at H; exact H
   clear H; have H := H1; clear H1; have H' := XB H; clear H; go_enter Try.func55, Try.ntmps55
   go_wp2_with (first | ((with_reducible refine gate_callee (f := 47) rfl ?_); refine goesL_ (some 11) rfl rfl Try.func47 (by kernel_rfl) rfl #[.slice A0 l0.length c0] rfl (by (try simp only [Xm, Xn, Xo]); first | done | rfl | (simp only [Xp, Xq]; rfl)) ?_; (with_reducible refine (diaphoneref07_Validate.calls k _ _ l0 t101 _ ?side1 ?side2 A3.out).mono ?_); (case side1 => repeat (first | exact HR0.out | (with_reducible refine Xr ?_ _) | (with_reducible refine Xs ?_ _) | (with_reducible refine Xt ?_))); (case side2 => exact HC0.out); rintro e w' ⟨rfl, ⟨nd, rfl⟩⟩; refine ⟨_, rfl, ?_⟩) | ((with_reducible refine gate_callee (f := 35) rfl ?_); refine goesL_ (some 17) rfl rfl Try.func35 (by kernel_rfl) rfl #[.slice A0 l0.length c0, .int .i64 a1] rfl (by (try simp only [Xm, Xn, Xo]); first | done | rfl | (simp only [Xp, Xq]; rfl)) ?_; (with_reducible refine (diaphoneref07_Has.calls k _ _ l0 a1 false _ ?side1 ?side2 A5.out).mono ?_); (case side1 => repeat (first | exact HR0.out | (with_reducible refine Xr ?_ _) | (with_reducible refine Xs ?_ _) | (with_reducible refine Xt ?_))); (case side2 => exact HC0.out); rintro e w' ⟨rfl, ⟨nd, rfl⟩⟩; refine ⟨_, rfl, ?_⟩))
   go_loopg [7, 8] k (fun kq v7 v8 w' => ∃ (x7_1 : List Int) (x8_1 : Int), v8 = .int .i64 x8_1 ∧ Aside0 (diaphoneref07_With.l0 kq l0 a1 x7_1 x8_1 = some (r1, r2)) ∧ Aside0 (kq ≤ k) ∧ Aside0 (Kd.R (Kd.int .i64) 3 w' w.heap.size (fun _ => True) v7 x7_1) ∧ Aside0 (Below w.heap.size w w'))
   case atStart => exact ⟨(([] : List Int)), (0), (by first | rfl | (simp; done) | (simp [*]; done)), H', ⟨Nat.le_refl _⟩, ⟨by first | exact Kd.R_nil _ _ _ _ _ | exact Kd.N_nil _ _ _ _ _ | exact Kd.V_nil _ _ _ _ _ | exact Kd.Q_nil _ _ _ _ _ | exact Kd.S_nil _ _ _ _ _⟩, ⟨by repeat (first | (with_reducible first | exact HB.out | apply Xc | apply Xa | apply Xb) | exact HB.out)⟩⟩
   case round =>
    clear H'; try clear p2
    try clear c3
    try clear c4
    try clear c4b0
    try clear c4b1
    try clear c5
    try clear c6
    obtain ⟨x7_1, x8_1, rfl, HA, HK1, HO_7, HB⟩ := hrel
    cases gk with
    | zero => exact absurd HA.out (by simp [diaphoneref07_With.l0])
    | succ k1 =>
     have H := HA.out; clear HA; simp only [diaphoneref07_With.l0] at H; by_cases c7 : x8_1 < (l0.length : Int)
     ·rw [if_pos c7] at H; have c7b0 : decide (x8_1 < (l0.length : Int)) = true := decide_eq_true c7; clear c7; by_cases c8 : 0 ≤ x8_1
      ·rw [if_pos c8] at H; have c8b0 : decide (0 ≤ x8_1) = true := decide_eq_true c8; clear c8; by_cases c9 : (rd l0 x8_1) < a1
       ·rw [if_pos c9] at H; have c9b0 : decide ((rd l0 x8_1) < a1) = true := decide_eq_true c9; clear c9; by_cases c10 : x7_1.length < 17592186044416
        ·rw [if_pos c10] at H; have LMc10 := XB c10; clear c10; obtain ⟨y105, hy105⟩ : ∃ y_ : List Int, y_ = (x7_1 ++ [rd l0 x8_1]) := ⟨_, rfl⟩
         replace H : (diaphoneref07_With.l0 k1 l0 a1 y105 (wrap64 (x8_1 + 1))) = some (r1, r2) := by first | (rw [hy105]; with_reducible exact H) | (have H2_ := (Option.bind_some _ _).symm.trans H; rw [hy105]; with_reducible exact H2_) | (have H2_ := (Option.bind_some _ _).symm.trans H; with_reducible exact H2_) | with_reducible exact H | (rw [hy105]; exact H) | exact H
         have Ny105 := XB hy105; clear hy105; have H' := XB H; clear H; have p103 : 0 ≤ (x8_1 : Int) := of_decide_eq_true (by first | (with_reducible assumption) | assumption); have q103 : x8_1 < (l0.length : Int) := of_decide_eq_true (by first | (with_reducible assumption) | assumption); obtain ⟨ad103, e103, hx103_0⟩ := Kd.at_int HR0.out x8_1 p103 q103
         cases e103
         replace hx103_0 := (HB.out.cell (World.block_lt_of_cell? w _ hx103_0)).trans hx103_0; replace p103 := eq_true p103; replace q103 := eq_true q103; have p104 : 0 ≤ (x8_1 : Int) := of_decide_eq_true (by first | (with_reducible assumption) | assumption); have q104 : x8_1 < (l0.length : Int) := of_decide_eq_true (by first | (with_reducible assumption) | assumption); obtain ⟨ad104, e104, hx104_0⟩ := Kd.at_int HR0.out x8_1 p104 q104; obtain rfl : ad103 = ad104 := (by injection e104); replace hx104_0 := (HB.out.cell (World.block_lt_of_cell? w _ hx104_0)).trans hx104_0; replace p104 := eq_true p104; replace q104 := eq_true q104; go_wp2_with (first | ((with_reducible refine gate_builtin (b := .append) (xs := #[.tmp 32, .tmp 37]) rfl ?_); at_builtin; refine Kd.R_append (Kd.int .i64) (w0 := w) w.heap.size rfl (.tmp 32) (.tmp 37) 22 3 (.int .i64 0) 8 rfl Try.underlying22 info3 rfl (by decide) (by omega) u7 x7_1 (rd l0 x8_1) [.int .i64 (rd l0 x8_1)] (fun _ => True) (fun _ => False) rfl rfl ?aP (fun _ hk => hk.elim) ?aF ?aO ?aB ?aS ?aL ?_; (case aP => exact rfl); (case aB => exact (by repeat (first | (with_reducible first | exact HB.out | apply Xc | apply Xa | apply Xb) | exact HB.out))); (case aF => exact (fun _ _ => trivial)); (case aO => exact (by (with_reducible repeat (first | apply Xv | apply Xw | apply Xx)); exact HO_7.out)); (case aS => exact (XC (by repeat (first | (with_reducible first | exact HB.out | apply Xc | apply Xa | apply Xb) | exact HB.out)))); (case aL => have := LMc10.out; omega); intro v106 w11 ho hb hg hat; rw [← Ny105.out] at ho; have n0_ := XB (hb); have n1_ := XB (ho); clear HB; clear HO_7; have HB := n0_; have HO107 := n1_; clear n0_ n1_; clear ho hb hg hat))
         go_roundg k1
         case measure => have := HK1.out; omega
         case rel => exact ⟨(y105), (wrap64 (x8_1 + 1)), (by first | rfl | (simp; done) | (simp [*]; done)), H', ⟨by have := HK1.out; omega⟩, ⟨by (with_reducible repeat (first | apply Xv | apply Xw | apply Xx)); exact HO107.out⟩, ⟨by repeat (first | (with_reducible first | exact HB.out | apply Xc | apply Xa | apply Xb) | exact HB.out)⟩⟩
        ·rw [if_neg c10] at H; exact absurd H (by simp)
       ·rw [if_neg c9] at H; have c9b0 : decide ((rd l0 x8_1) < a1) = false := decide_eq_false c9; clear c9; by_cases c12 : x7_1.length < 17592186044416
        ·rw [if_pos c12] at H; have LMc12 := XB c12; clear c12; obtain ⟨y108, hy108⟩ : ∃ y_ : List Int, y_ = (x7_1 ++ [a1]) := ⟨_, rfl⟩
         replace H : (if 0 ≤ (x7_1.length : Int) then (if (x7_1.length : Int) ≤ (l0.length : Int) then (if y108.length + (l0.drop ((x7_1.length : Int) : Int).toNat).length < 17592186044416 then ((some (y108 ++ (l0.drop ((x7_1.length : Int) : Int).toNat) : List Int)).bind fun y112 => ((diaphoneref07_Validate.f k1 y112).bind fun t115 => (if t115 = 0 then (some (y112, 0)) else (some (([] : List Int), t115))))) else (none)) else (none)) else (none)) = some (r1, r2) := by first | (rw [hy108]; with_reducible exact H) | (have H2_ := (Option.bind_some _ _).symm.trans H; rw [hy108]; with_reducible exact H2_) | (have H2_ := (Option.bind_some _ _).symm.trans H; with_reducible exact H2_) | with_reducible exact H | (rw [hy108]; exact H) | exact H
         have Ny108 := XB hy108; clear hy108; by_cases c13 : 0 ≤ (x7_1.length : Int)
         ·rw [if_pos c13] at H; have c13b0 := eq_true c13; have c13b1 : decide (0 ≤ (x7_1.length : Int)) = true := decide_eq_true c13; clear c13; by_cases c14 : (x7_1.length : Int) ≤ (l0.length : Int)
          ·rw [if_pos c14] at H; have c14b0 := eq_true c14; have c14b1 : decide ((x7_1.length : Int) ≤ (l0.length : Int)) = true := decide_eq_true c14; clear c14; by_cases c15 : y108.length + (l0.drop ((x7_1.length : Int) : Int).toNat).length < 17592186044416
           ·rw [if_pos c15] at H; have LMc15 := XB c15; clear c15; obtain ⟨y112, hy112⟩ : ∃ y_ : List Int, y_ = (y108 ++ (l0.drop ((x7_1.length : Int) : Int).toNat)) := ⟨_, rfl⟩
            replace H : ((diaphoneref07_Validate.f k1 y112).bind fun t115 => (if t115 = 0 then (some (y112, 0)) else (some (([] : List Int), t115)))) = some (r1, r2) := by first | (rw [hy112]; with_reducible exact H) | (have H2_ := (Option.bind_some _ _).symm.trans H; rw [hy112]; with_reducible exact H2_) | (have H2_ := (Option.bind_some _ _).symm.trans H; with_reducible exact H2_) | with_reducible exact H | (rw [hy112]; exact H) | exact H
            have Ny112 := XB hy112; clear hy112; replace H := Option.bind_eq_some_iff.mp H; obtain ⟨t115, A160, H⟩ := H; replace H : (if t115 = 0 then (some (y112, 0)) else (some (([] : List Int), t115))) = some (r1, r2) := H; have A16 := XB A160; clear A160; by_cases c17 : t115 = 0
            ·rw [if_pos c17] at H; have c17b0 : (t115 == 0) = true := beq_iff_eq.mpr c17; have c17b1 : (t115 != 0) = false := bne_eq_false_iff_eq.mpr c17; clear c17; simp only [Option.some.injEq, Prod.mk.injEq] at H; obtain ⟨rfl, rfl⟩ := H; have p103 : 0 ≤ (x8_1 : Int) := of_decide_eq_true (by first | (with_reducible assumption) | assumption); have q103 : x8_1 < (l0.length : Int) := of_decide_eq_true (by first | (with_reducible assumption) | assumption); obtain ⟨ad103, e103, hx103_0⟩ := Kd.at_int HR0.out x8_1 p103 q103
             cases e103
             replace hx103_0 := (HB.out.cell (World.block_lt_of_cell? w _ hx103_0)).trans hx103_0; replace p103 := eq_true p103; replace q103 := eq_true q103; obtain ⟨Ao18, co18, eo18⟩ := Kd.R_slice HO_7.out; subst eo18; try go_wp2
             have n0_ := XB (Xx HO_7.out); have n1_ := XB (Xb HB.out); clear HO_7; clear HB; have HO_7 := n0_; have HB := n1_; clear n0_ n1_; obtain ⟨i020, hi020, _, hsz20, _⟩ := info_parts info3; obtain ⟨A20, hcut20, hA20, hC20⟩ := print_drop_of (P := Try.prog) (Value.int .i64) 0 22 3 .i64 Try.underlying22 hi020 hsz20 (some ad103) c0 l0 (x7_1.length : Int) (of_decide_eq_true (by first | (with_reducible assumption) | assumption)) (of_decide_eq_true (by first | (with_reducible assumption) | assumption)) HC0.out; have HR111 := XB (Kd.C_of_reads (h1 := fun _ => rfl) (hA20 _ (Kd.reads_of_C HR0.out))); have HC111 := XB hC20; clear hA20 hC20 hi020 hsz20; refine start_ (n := 9) (S := fun w' => True) (ds := []) #[false, false, false, false, false, false, false, false, false] (by kernel_rfl) rfl rfl trivial (fun hHeld => ?_); refine with_tabW diaphoneref07_With.tab12 diaphoneref07_With.bits12 (fun HT_ HW_ => ?_); generalize wr.drew = w19 at HO_7 HB HR111 hHeld ⊢
             refine pure_ (i := 0) (N := some 41) (v := ?_) (a' := ?_) (Bq 9 1) rfl rfl (any_of HT_.out (by kernel_rfl)) (fun _ _ _ h => h) (Or.inl ⟨by rfl, ?_⟩) ?_ ?_; rotate_left
             ·intro w'; go_simp; with_reducible rfl
             rotate_left
             ·simp only [Act.put, Xj, Xk, Xl, i64_w, i32_w]; rfl
             refine pure_ (i := 1) (N := some 42) (v := ?_) (a' := ?_) (Bq 9 3) rfl rfl (any_of HT_.out (by kernel_rfl)) (fun _ _ _ h => h) (Or.inl ⟨by rfl, ?_⟩) ?_ ?_; rotate_left
             ·intro w'; go_simp; with_reducible rfl
             rotate_left
             ·simp only [Act.put, Xj, Xk, Xl, i64_w, i32_w]; rfl
             refine pure_ (i := 4) (N := some 45) (v := ?_) (a' := ?_) (Bq 9 19) rfl rfl (any_of HT_.out (by kernel_rfl)) (fun _ _ _ h => h) (Or.inl ⟨by rfl, ?_⟩) ?_ ?_; rotate_left
             ·intro w'; go_simp; with_reducible rfl
             rotate_left
             ·simp only [Act.put, Xj, Xk, Xl, i64_w, i32_w]; rfl
             refine pure_ (i := 5) (N := some 46) (v := ?_) (a' := ?_) (Bq 9 51) rfl rfl (any_of HT_.out (by kernel_rfl)) (fun _ _ _ h => h) (Or.inl ⟨by rfl, ?_⟩) ?_ ?_; rotate_left
             ·intro w'; go_simp; with_reducible rfl
             rotate_left
             ·simp only [Act.put, Xj, Xk, Xl, i64_w, i32_w]; rfl
             refine pure_ (i := 6) (N := some 47) (v := ?_) (a' := ?_) (Bq 9 115) rfl rfl (any_of HT_.out (by kernel_rfl)) (fun _ _ _ h => h) (Or.inl ⟨by rfl, ?_⟩) ?_ ?_; rotate_left
             ·intro w'; go_simp; with_reducible rfl
             rotate_left
             ·simp only [Act.put, Xj, Xk, Xl, i64_w, i32_w]; rfl
             refine one_ (i := 2) (N := some 43) (Bq 9 119) rfl rfl (one_of HT_.out (by kernel_rfl)) (by decide) (fun K hK => ?_); refine value_ (w1 := ?_) (v := ?_) (by rfl) rfl ?_ ?_; rotate_left 2
             ·go_simp; constructor
              ·rfl
              ·rfl
             refine hK.out _ _ trivial (fun hHeld => ?_); clear hK K; refine norm_ (a' := ?_) ?_ ?_; rotate_left
             ·show Act.put _ (some 43) _ = _
              simp only [Act.put, Xj, Xk, Xl, i64_w, i32_w]; rfl
             refine one_ (i := 3) (N := some 44) (Bq 9 127) rfl rfl (one_of HT_.out (by kernel_rfl)) (by decide) (fun K hK => ?_); refine Kd.R_append_step (Kd.int .i64) (w0 := w) w.heap.size (by rfl) (.tmp 41) (.tmp 43) 22 3 (.int .i64 0) 8 rfl Try.underlying22 info3 rfl (by decide) (by omega) (.slice Ao18 x7_1.length co18) x7_1 a1 [.int .i64 a1] (fun _ => True) (fun _ => False) rfl rfl ?aP (fun _ hk => hk.elim) ?aF ?aO ?aB ?aS ?aL ?_; (case aP => exact rfl)
             (case aB => exact (by repeat (first | (with_reducible first | exact HB.out | apply Xc | apply Xa | apply Xb) | exact HB.out)))
             (case aF => exact (fun _ _ => trivial))
             (case aO => exact (by (with_reducible repeat (first | apply Xv | apply Xw | apply Xx)); exact HO_7.out))
             (case aS => exact (XC (by repeat (first | (with_reducible first | exact HB.out | apply Xc | apply Xa | apply Xb) | exact HB.out))))
             (case aL => have := LMc12.out; omega)
             intro v109 w21 ho hb hg hat; rw [← Ny108.out] at ho; have n0_ := XB (hb); have n1_ := XB (ho); clear HB; clear HO_7; have HB := n0_; have HO110 := n1_; clear n0_ n1_; clear ho hb hg hat; refine hK.out _ _ trivial (fun hHeld => ?_); clear hK K; refine norm_ (a' := ?_) ?_ ?_; rotate_left
             ·show Act.put _ (some 44) _ = _
              simp only [Act.put, Xj, Xk, Xl, i64_w, i32_w]; rfl
             refine one_ (i := 7) (N := some 48) (Bq 9 255) rfl rfl (one_of HT_.out (by kernel_rfl)) (by decide) (fun K hK => ?_); refine Kd.R_append_rows_step (Kd.int .i64) (w0 := w) w.heap.size (by rfl) (.tmp 44) (.tmp 47) 22 3 (.int .i64 0) 8 rfl Try.underlying22 info3 rfl (by decide) (by omega) v109 y108 (l0.drop ((x7_1.length : Int) : Int).toNat) _ _ _ (fun _ => True) (fun _ => False) rfl rfl ?aO ?aR (fun _ _ h => h) (fun _ h => h.elim) ?aF ?aB ?aS ?aL ?_; (case aR => first | (rw [← show (l0.drop ((x7_1.length : Int) : Int).toNat).length = (l0.length - x7_1.length) from by rw [Xp, Int.toNat_natCast]]; repeat (first | exact (Xu HR111.out HB.out) | (with_reducible refine Xr ?_ _) | (with_reducible refine Xs ?_ _) | (with_reducible refine Xt ?_))) | (rw [← show (l0.drop ((x7_1.length : Int) : Int).toNat).length = (l0.length - (x7_1.length : Int).toNat) from Xp]; repeat (first | exact (Xu HR111.out HB.out) | (with_reducible refine Xr ?_ _) | (with_reducible refine Xs ?_ _) | (with_reducible refine Xt ?_))) | (repeat (first | exact (Xu HR111.out HB.out) | (with_reducible refine Xr ?_ _) | (with_reducible refine Xs ?_ _) | (with_reducible refine Xt ?_))))
             (case aB => exact (by repeat (first | (with_reducible first | exact HB.out | apply Xc | apply Xa | apply Xb) | exact HB.out)))
             (case aF => exact (fun _ _ => trivial))
             (case aO => exact (by (with_reducible repeat (first | apply Xv | apply Xw | apply Xx)); exact HO110.out))
             (case aS => exact (XC (by repeat (first | (with_reducible first | exact HB.out | apply Xc | apply Xa | apply Xb) | exact HB.out))))
             (case aL => have := LMc15.out; have hlx_ := (show (l0.drop ((x7_1.length : Int) : Int).toNat).length = (l0.length - (x7_1.length : Int).toNat) from Xp); omega)
             intro v113 w22 ho hb hg hat; rw [← Ny112.out] at ho; have n0_ := XB (hb); have n1_ := XB (ho); clear HB; clear HO110; have HB := n0_; have HO114 := n1_; clear n0_ n1_; clear ho hb hg hat; refine hK.out _ _ trivial (fun hHeld => ?_); clear hK K; refine norm_ (a' := ?_) ?_ ?_; rotate_left
             ·show Act.put _ (some 48) _ = _
              simp only [Act.put, Xj, Xk, Xl, i64_w, i32_w]; rfl
             refine pure_ (i := 8) (N := some 7) (v := ?_) (a' := ?_) (Bq 9 511) rfl rfl (any_of HT_.out (by kernel_rfl)) (fun _ _ _ h => h) (Or.inl ⟨by rfl, ?_⟩) ?_ ?_; rotate_left
             ·intro w'; go_simp; with_reducible rfl
             rotate_left
             ·simp only [Act.put, Xj, Xk, Xl, i64_w, i32_w]; rfl
             refine done_ (done_of HT_.out (by kernel_rfl)) ?_; obtain ⟨Ao23, co23, eo23⟩ := Kd.R_slice HO114.out; subst eo23; try go_wp2_with (first | ((with_reducible refine gate_callee (f := 47) rfl ?_); refine goesL_ (some 50) rfl rfl Try.func47 (by kernel_rfl) rfl #[.slice Ao23 y112.length co23] rfl (by (try simp only [Xm, Xn, Xo]); first | done | rfl | (simp only [Xp, Xq]; rfl)) ?_; (with_reducible refine (diaphoneref07_Validate.calls k1 _ _ y112 t115 _ ?side1 ?side2 A16.out).mono ?_); (case side1 => repeat (first | exact (XD HO114.out).2.2 | (with_reducible refine Xr ?_ _) | (with_reducible refine Xs ?_ _) | (with_reducible refine Xt ?_))); (case side2 => exact (XD HO114.out).2.1); rintro e w' ⟨rfl, ⟨nd, rfl⟩⟩; refine ⟨_, rfl, ?_⟩))
             go_ret2
             exact ⟨_, by first | rfl | (simp [errW_none, errW_some] <;> rfl) | (simp [*, errW_none, errW_some] <;> rfl), by (with_reducible repeat (first | apply Xv | apply Xw | apply Xx)); exact HO114.out, by repeat (first | (with_reducible first | exact HB.out | apply Xc | apply Xa | apply Xb) | exact HB.out)⟩
            ·rw [if_neg c17] at H; have c17b0 : (t115 == 0) = false := beq_eq_false_iff_ne.mpr c17; have c17b1 : (t115 != 0) = true := bne_iff_ne.mpr c17; simp only [Option.some.injEq, Prod.mk.injEq] at H; obtain ⟨rfl, rfl⟩ := H; have p103 : 0 ≤ (x8_1 : Int) := of_decide_eq_true (by first | (with_reducible assumption) | assumption); have q103 : x8_1 < (l0.length : Int) := of_decide_eq_true (by first | (with_reducible assumption) | assumption); obtain ⟨ad103, e103, hx103_0⟩ := Kd.at_int HR0.out x8_1 p103 q103
             cases e103
             replace hx103_0 := (HB.out.cell (World.block_lt_of_cell? w _ hx103_0)).trans hx103_0; replace p103 := eq_true p103; replace q103 := eq_true q103; obtain ⟨Ao24, co24, eo24⟩ := Kd.R_slice HO_7.out; subst eo24; try go_wp2
             have n0_ := XB (Xx HO_7.out); have n1_ := XB (Xb HB.out); clear HO_7; clear HB; have HO_7 := n0_; have HB := n1_; clear n0_ n1_; obtain ⟨i026, hi026, _, hsz26, _⟩ := info_parts info3; obtain ⟨A26, hcut26, hA26, hC26⟩ := print_drop_of (P := Try.prog) (Value.int .i64) 0 22 3 .i64 Try.underlying22 hi026 hsz26 (some ad103) c0 l0 (x7_1.length : Int) (of_decide_eq_true (by first | (with_reducible assumption) | assumption)) (of_decide_eq_true (by first | (with_reducible assumption) | assumption)) HC0.out; have HR111 := XB (Kd.C_of_reads (h1 := fun _ => rfl) (hA26 _ (Kd.reads_of_C HR0.out))); have HC111 := XB hC26; clear hA26 hC26 hi026 hsz26; refine start_ (n := 9) (S := fun w' => True) (ds := []) #[false, false, false, false, false, false, false, false, false] (by kernel_rfl) rfl rfl trivial (fun hHeld => ?_); refine with_tabW diaphoneref07_With.tab12 diaphoneref07_With.bits12 (fun HT_ HW_ => ?_); generalize wr.drew = w25 at HO_7 HB HR111 hHeld ⊢
             refine pure_ (i := 0) (N := some 41) (v := ?_) (a' := ?_) (Bq 9 1) rfl rfl (any_of HT_.out (by kernel_rfl)) (fun _ _ _ h => h) (Or.inl ⟨by rfl, ?_⟩) ?_ ?_; rotate_left
             ·intro w'; go_simp; with_reducible rfl
             rotate_left
             ·simp only [Act.put, Xj, Xk, Xl, i64_w, i32_w]; rfl
             refine pure_ (i := 1) (N := some 42) (v := ?_) (a' := ?_) (Bq 9 3) rfl rfl (any_of HT_.out (by kernel_rfl)) (fun _ _ _ h => h) (Or.inl ⟨by rfl, ?_⟩) ?_ ?_; rotate_left
             ·intro w'; go_simp; with_reducible rfl
             rotate_left
             ·simp only [Act.put, Xj, Xk, Xl, i64_w, i32_w]; rfl
             refine pure_ (i := 4) (N := some 45) (v := ?_) (a' := ?_) (Bq 9 19) rfl rfl (any_of HT_.out (by kernel_rfl)) (fun _ _ _ h => h) (Or.inl ⟨by rfl, ?_⟩) ?_ ?_; rotate_left
             ·intro w'; go_simp; with_reducible rfl
             rotate_left
             ·simp only [Act.put, Xj, Xk, Xl, i64_w, i32_w]; rfl
             refine pure_ (i := 5) (N := some 46) (v := ?_) (a' := ?_) (Bq 9 51) rfl rfl (any_of HT_.out (by kernel_rfl)) (fun _ _ _ h => h) (Or.inl ⟨by rfl, ?_⟩) ?_ ?_; rotate_left
             ·intro w'; go_simp; with_reducible rfl
             rotate_left
             ·simp only [Act.put, Xj, Xk, Xl, i64_w, i32_w]; rfl
             refine pure_ (i := 6) (N := some 47) (v := ?_) (a' := ?_) (Bq 9 115) rfl rfl (any_of HT_.out (by kernel_rfl)) (fun _ _ _ h => h) (Or.inl ⟨by rfl, ?_⟩) ?_ ?_; rotate_left
             ·intro w'; go_simp; with_reducible rfl
             rotate_left
             ·simp only [Act.put, Xj, Xk, Xl, i64_w, i32_w]; rfl
             refine one_ (i := 2) (N := some 43) (Bq 9 119) rfl rfl (one_of HT_.out (by kernel_rfl)) (by decide) (fun K hK => ?_); refine value_ (w1 := ?_) (v := ?_) (by rfl) rfl ?_ ?_; rotate_left 2
             ·go_simp; constructor
              ·rfl
              ·rfl
             refine hK.out _ _ trivial (fun hHeld => ?_); clear hK K; refine norm_ (a' := ?_) ?_ ?_; rotate_left
             ·show Act.put _ (some 43) _ = _
              simp only [Act.put, Xj, Xk, Xl, i64_w, i32_w]; rfl
             refine one_ (i := 3) (N := some 44) (Bq 9 127) rfl rfl (one_of HT_.out (by kernel_rfl)) (by decide) (fun K hK => ?_); refine Kd.R_append_step (Kd.int .i64) (w0 := w) w.heap.size (by rfl) (.tmp 41) (.tmp 43) 22 3 (.int .i64 0) 8 rfl Try.underlying22 info3 rfl (by decide) (by omega) (.slice Ao24 x7_1.length co24) x7_1 a1 [.int .i64 a1] (fun _ => True) (fun _ => False) rfl rfl ?aP (fun _ hk => hk.elim) ?aF ?aO ?aB ?aS ?aL ?_; (case aP => exact rfl)
             (case aB => exact (by repeat (first | (with_reducible first | exact HB.out | apply Xc | apply Xa | apply Xb) | exact HB.out)))
             (case aF => exact (fun _ _ => trivial))
             (case aO => exact (by (with_reducible repeat (first | apply Xv | apply Xw | apply Xx)); exact HO_7.out))
             (case aS => exact (XC (by repeat (first | (with_reducible first | exact HB.out | apply Xc | apply Xa | apply Xb) | exact HB.out))))
             (case aL => have := LMc12.out; omega)
             intro v109 w27 ho hb hg hat; rw [← Ny108.out] at ho; have n0_ := XB (hb); have n1_ := XB (ho); clear HB; clear HO_7; have HB := n0_; have HO110 := n1_; clear n0_ n1_; clear ho hb hg hat; refine hK.out _ _ trivial (fun hHeld => ?_); clear hK K; refine norm_ (a' := ?_) ?_ ?_; rotate_left
             ·show Act.put _ (some 44) _ = _
              simp only [Act.put, Xj, Xk, Xl, i64_w, i32_w]; rfl
             refine one_ (i := 7) (N := some 48) (Bq 9 255) rfl rfl (one_of HT_.out (by kernel_rfl)) (by decide) (fun K hK => ?_); refine Kd.R_append_rows_step (Kd.int .i64) (w0 := w) w.heap.size (by rfl) (.tmp 44) (.tmp 47) 22 3 (.int .i64 0) 8 rfl Try.underlying22 info3 rfl (by decide) (by omega) v109 y108 (l0.drop ((x7_1.length : Int) : Int).toNat) _ _ _ (fun _ => True) (fun _ => False) rfl rfl ?aO ?aR (fun _ _ h => h) (fun _ h => h.elim) ?aF ?aB ?aS ?aL ?_; (case aR => first | (rw [← show (l0.drop ((x7_1.length : Int) : Int).toNat).length = (l0.length - x7_1.length) from by rw [Xp, Int.toNat_natCast]]; repeat (first | exact (Xu HR111.out HB.out) | (with_reducible refine Xr ?_ _) | (with_reducible refine Xs ?_ _) | (with_reducible refine Xt ?_))) | (rw [← show (l0.drop ((x7_1.length : Int) : Int).toNat).length = (l0.length - (x7_1.length : Int).toNat) from Xp]; repeat (first | exact (Xu HR111.out HB.out) | (with_reducible refine Xr ?_ _) | (with_reducible refine Xs ?_ _) | (with_reducible refine Xt ?_))) | (repeat (first | exact (Xu HR111.out HB.out) | (with_reducible refine Xr ?_ _) | (with_reducible refine Xs ?_ _) | (with_reducible refine Xt ?_))))
             (case aB => exact (by repeat (first | (with_reducible first | exact HB.out | apply Xc | apply Xa | apply Xb) | exact HB.out)))
             (case aF => exact (fun _ _ => trivial))
             (case aO => exact (by (with_reducible repeat (first | apply Xv | apply Xw | apply Xx)); exact HO110.out))
             (case aS => exact (XC (by repeat (first | (with_reducible first | exact HB.out | apply Xc | apply Xa | apply Xb) | exact HB.out))))
             (case aL => have := LMc15.out; have hlx_ := (show (l0.drop ((x7_1.length : Int) : Int).toNat).length = (l0.length - (x7_1.length : Int).toNat) from Xp); omega)
             intro v113 w28 ho hb hg hat; rw [← Ny112.out] at ho; have n0_ := XB (hb); have n1_ := XB (ho); clear HB; clear HO110; have HB := n0_; have HO114 := n1_; clear n0_ n1_; clear ho hb hg hat; refine hK.out _ _ trivial (fun hHeld => ?_); clear hK K; refine norm_ (a' := ?_) ?_ ?_; rotate_left
             ·show Act.put _ (some 48) _ = _
              simp only [Act.put, Xj, Xk, Xl, i64_w, i32_w]; rfl
             refine pure_ (i := 8) (N := some 7) (v := ?_) (a' := ?_) (Bq 9 511) rfl rfl (any_of HT_.out (by kernel_rfl)) (fun _ _ _ h => h) (Or.inl ⟨by rfl, ?_⟩) ?_ ?_; rotate_left
             ·intro w'; go_simp; with_reducible rfl
             rotate_left
             ·simp only [Act.put, Xj, Xk, Xl, i64_w, i32_w]; rfl
             refine done_ (done_of HT_.out (by kernel_rfl)) ?_; obtain ⟨Ao29, co29, eo29⟩ := Kd.R_slice HO114.out; subst eo29; try go_wp2_with (first | ((with_reducible refine gate_callee (f := 47) rfl ?_); refine goesL_ (some 50) rfl rfl Try.func47 (by kernel_rfl) rfl #[.slice Ao29 y112.length co29] rfl (by (try simp only [Xm, Xn, Xo]); first | done | rfl | (simp only [Xp, Xq]; rfl)) ?_; (with_reducible refine (diaphoneref07_Validate.calls k1 _ _ y112 t115 _ ?side1 ?side2 A16.out).mono ?_); (case side1 => repeat (first | exact (XD HO114.out).2.2 | (with_reducible refine Xr ?_ _) | (with_reducible refine Xs ?_ _) | (with_reducible refine Xt ?_))); (case side2 => exact (XD HO114.out).2.1); rintro e w' ⟨rfl, ⟨nd, rfl⟩⟩; refine ⟨_, rfl, ?_⟩))
             go_ret2
             exact ⟨_, by first | rfl | (simp [errW_none, errW_some] <;> rfl) | (simp [*, errW_none, errW_some] <;> rfl), by first | exact Kd.R_nil _ _ _ _ _ | exact Kd.N_nil _ _ _ _ _ | exact Kd.V_nil _ _ _ _ _ | exact Kd.Q_nil _ _ _ _ _ | exact Kd.S_nil _ _ _ _ _, by repeat (first | (with_reducible first | exact HB.out | apply Xc | apply Xa | apply Xb) | exact HB.out)⟩
           ·rw [if_neg c15] at H; exact absurd H (by simp)
          ·rw [if_neg c14] at H; exact absurd H (by simp)
         ·rw [if_neg c13] at H; exact absurd H (by simp)
        ·rw [if_neg c12] at H; exact absurd H (by simp)
      ·rw [if_neg c8] at H; exact absurd H (by simp)
     ·rw [if_neg c7] at H; have c7b0 : decide (x8_1 < (l0.length : Int)) = false := decide_eq_false c7; clear c7; by_cases c30 : x7_1.length < 17592186044416
      ·rw [if_pos c30] at H; have LMc30 := XB c30; clear c30; obtain ⟨y116, hy116⟩ : ∃ y_ : List Int, y_ = (x7_1 ++ [a1]) := ⟨_, rfl⟩
       replace H : (if 0 ≤ (x7_1.length : Int) then (if (x7_1.length : Int) ≤ (l0.length : Int) then (if y116.length + (l0.drop ((x7_1.length : Int) : Int).toNat).length < 17592186044416 then ((some (y116 ++ (l0.drop ((x7_1.length : Int) : Int).toNat) : List Int)).bind fun y120 => ((diaphoneref07_Validate.f k1 y120).bind fun t123 => (if t123 = 0 then (some (y120, 0)) else (some (([] : List Int), t123))))) else (none)) else (none)) else (none)) = some (r1, r2) := by first | (rw [hy116]; with_reducible exact H) | (have H2_ := (Option.bind_some _ _).symm.trans H; rw [hy116]; with_reducible exact H2_) | (have H2_ := (Option.bind_some _ _).symm.trans H; with_reducible exact H2_) | with_reducible exact H | (rw [hy116]; exact H) | exact H
       have Ny116 := XB hy116; clear hy116; by_cases c31 : 0 ≤ (x7_1.length : Int)
       ·rw [if_pos c31] at H; have c31b0 := eq_true c31; have c31b1 : decide (0 ≤ (x7_1.length : Int)) = true := decide_eq_true c31; clear c31; by_cases c32 : (x7_1.length : Int) ≤ (l0.length : Int)
        ·rw [if_pos c32] at H; have c32b0 := eq_true c32; have c32b1 : decide ((x7_1.length : Int) ≤ (l0.length : Int)) = true := decide_eq_true c32; clear c32; by_cases c33 : y116.length + (l0.drop ((x7_1.length : Int) : Int).toNat).length < 17592186044416
         ·rw [if_pos c33] at H; have LMc33 := XB c33; clear c33; obtain ⟨y120, hy120⟩ : ∃ y_ : List Int, y_ = (y116 ++ (l0.drop ((x7_1.length : Int) : Int).toNat)) := ⟨_, rfl⟩
          replace H : ((diaphoneref07_Validate.f k1 y120).bind fun t123 => (if t123 = 0 then (some (y120, 0)) else (some (([] : List Int), t123)))) = some (r1, r2) := by first | (rw [hy120]; with_reducible exact H) | (have H2_ := (Option.bind_some _ _).symm.trans H; rw [hy120]; with_reducible exact H2_) | (have H2_ := (Option.bind_some _ _).symm.trans H; with_reducible exact H2_) | with_reducible exact H | (rw [hy120]; exact H) | exact H
          have Ny120 := XB hy120; clear hy120; replace H := Option.bind_eq_some_iff.mp H; obtain ⟨t123, A340, H⟩ := H; replace H : (if t123 = 0 then (some (y120, 0)) else (some (([] : List Int), t123))) = some (r1, r2) := H; have A34 := XB A340; clear A340; by_cases c35 : t123 = 0
          ·rw [if_pos c35] at H; have c35b0 : (t123 == 0) = true := beq_iff_eq.mpr c35; have c35b1 : (t123 != 0) = false := bne_eq_false_iff_eq.mpr c35; clear c35; simp only [Option.some.injEq, Prod.mk.injEq] at H; obtain ⟨rfl, rfl⟩ := H; obtain ⟨Ao36, co36, eo36⟩ := Kd.R_slice HO_7.out; subst eo36; try go_wp2
           have n0_ := XB (Xx HO_7.out); have n1_ := XB (Xb HB.out); clear HO_7; clear HB; have HO_7 := n0_; have HB := n1_; clear n0_ n1_; obtain ⟨i038, hi038, _, hsz38, _⟩ := info_parts info3; obtain ⟨A38, hcut38, hA38, hC38⟩ := print_drop_of (P := Try.prog) (Value.int .i64) 0 22 3 .i64 Try.underlying22 hi038 hsz38 A0 c0 l0 (x7_1.length : Int) (of_decide_eq_true (by first | (with_reducible assumption) | assumption)) (of_decide_eq_true (by first | (with_reducible assumption) | assumption)) HC0.out; have HR119 := XB (Kd.C_of_reads (h1 := fun _ => rfl) (hA38 _ (Kd.reads_of_C HR0.out))); have HC119 := XB hC38; clear hA38 hC38 hi038 hsz38; refine start_ (n := 9) (S := fun w' => True) (ds := []) #[false, false, false, false, false, false, false, false, false] (by kernel_rfl) rfl rfl trivial (fun hHeld => ?_); refine with_tabW diaphoneref07_With.tab12 diaphoneref07_With.bits12 (fun HT_ HW_ => ?_); generalize wr.drew = w37 at HO_7 HB HR119 hHeld ⊢
           refine pure_ (i := 0) (N := some 41) (v := ?_) (a' := ?_) (Bq 9 1) rfl rfl (any_of HT_.out (by kernel_rfl)) (fun _ _ _ h => h) (Or.inl ⟨by rfl, ?_⟩) ?_ ?_; rotate_left
           ·intro w'; go_simp; with_reducible rfl
           rotate_left
           ·simp only [Act.put, Xj, Xk, Xl, i64_w, i32_w]; rfl
           refine pure_ (i := 1) (N := some 42) (v := ?_) (a' := ?_) (Bq 9 3) rfl rfl (any_of HT_.out (by kernel_rfl)) (fun _ _ _ h => h) (Or.inl ⟨by rfl, ?_⟩) ?_ ?_; rotate_left
           ·intro w'; go_simp; with_reducible rfl
           rotate_left
           ·simp only [Act.put, Xj, Xk, Xl, i64_w, i32_w]; rfl
           refine pure_ (i := 4) (N := some 45) (v := ?_) (a' := ?_) (Bq 9 19) rfl rfl (any_of HT_.out (by kernel_rfl)) (fun _ _ _ h => h) (Or.inl ⟨by rfl, ?_⟩) ?_ ?_; rotate_left
           ·intro w'; go_simp; with_reducible rfl
           rotate_left
           ·simp only [Act.put, Xj, Xk, Xl, i64_w, i32_w]; rfl
           refine pure_ (i := 5) (N := some 46) (v := ?_) (a' := ?_) (Bq 9 51) rfl rfl (any_of HT_.out (by kernel_rfl)) (fun _ _ _ h => h) (Or.inl ⟨by rfl, ?_⟩) ?_ ?_; rotate_left
           ·intro w'; go_simp; with_reducible rfl
           rotate_left
           ·simp only [Act.put, Xj, Xk, Xl, i64_w, i32_w]; rfl
           refine pure_ (i := 6) (N := some 47) (v := ?_) (a' := ?_) (Bq 9 115) rfl rfl (any_of HT_.out (by kernel_rfl)) (fun _ _ _ h => h) (Or.inl ⟨by rfl, ?_⟩) ?_ ?_; rotate_left
           ·intro w'; go_simp; with_reducible rfl
           rotate_left
           ·simp only [Act.put, Xj, Xk, Xl, i64_w, i32_w]; rfl
           refine one_ (i := 2) (N := some 43) (Bq 9 119) rfl rfl (one_of HT_.out (by kernel_rfl)) (by decide) (fun K hK => ?_); refine value_ (w1 := ?_) (v := ?_) (by rfl) rfl ?_ ?_; rotate_left 2
           ·go_simp; constructor
            ·rfl
            ·rfl
           refine hK.out _ _ trivial (fun hHeld => ?_); clear hK K; refine norm_ (a' := ?_) ?_ ?_; rotate_left
           ·show Act.put _ (some 43) _ = _
            simp only [Act.put, Xj, Xk, Xl, i64_w, i32_w]; rfl
           refine one_ (i := 3) (N := some 44) (Bq 9 127) rfl rfl (one_of HT_.out (by kernel_rfl)) (by decide) (fun K hK => ?_); refine Kd.R_append_step (Kd.int .i64) (w0 := w) w.heap.size (by rfl) (.tmp 41) (.tmp 43) 22 3 (.int .i64 0) 8 rfl Try.underlying22 info3 rfl (by decide) (by omega) (.slice Ao36 x7_1.length co36) x7_1 a1 [.int .i64 a1] (fun _ => True) (fun _ => False) rfl rfl ?aP (fun _ hk => hk.elim) ?aF ?aO ?aB ?aS ?aL ?_; (case aP => exact rfl)
           (case aB => exact (by repeat (first | (with_reducible first | exact HB.out | apply Xc | apply Xa | apply Xb) | exact HB.out)))
           (case aF => exact (fun _ _ => trivial))
           (case aO => exact (by (with_reducible repeat (first | apply Xv | apply Xw | apply Xx)); exact HO_7.out))
           (case aS => exact (XC (by repeat (first | (with_reducible first | exact HB.out | apply Xc | apply Xa | apply Xb) | exact HB.out))))
           (case aL => have := LMc30.out; omega)
           intro v117 w39 ho hb hg hat; rw [← Ny116.out] at ho; have n0_ := XB (hb); have n1_ := XB (ho); clear HB; clear HO_7; have HB := n0_; have HO118 := n1_; clear n0_ n1_; clear ho hb hg hat; refine hK.out _ _ trivial (fun hHeld => ?_); clear hK K; refine norm_ (a' := ?_) ?_ ?_; rotate_left
           ·show Act.put _ (some 44) _ = _
            simp only [Act.put, Xj, Xk, Xl, i64_w, i32_w]; rfl
           refine one_ (i := 7) (N := some 48) (Bq 9 255) rfl rfl (one_of HT_.out (by kernel_rfl)) (by decide) (fun K hK => ?_); refine Kd.R_append_rows_step (Kd.int .i64) (w0 := w) w.heap.size (by rfl) (.tmp 44) (.tmp 47) 22 3 (.int .i64 0) 8 rfl Try.underlying22 info3 rfl (by decide) (by omega) v117 y116 (l0.drop ((x7_1.length : Int) : Int).toNat) _ _ _ (fun _ => True) (fun _ => False) rfl rfl ?aO ?aR (fun _ _ h => h) (fun _ h => h.elim) ?aF ?aB ?aS ?aL ?_; (case aR => first | (rw [← show (l0.drop ((x7_1.length : Int) : Int).toNat).length = (l0.length - x7_1.length) from by rw [Xp, Int.toNat_natCast]]; repeat (first | exact (Xu HR119.out HB.out) | (with_reducible refine Xr ?_ _) | (with_reducible refine Xs ?_ _) | (with_reducible refine Xt ?_))) | (rw [← show (l0.drop ((x7_1.length : Int) : Int).toNat).length = (l0.length - (x7_1.length : Int).toNat) from Xp]; repeat (first | exact (Xu HR119.out HB.out) | (with_reducible refine Xr ?_ _) | (with_reducible refine Xs ?_ _) | (with_reducible refine Xt ?_))) | (repeat (first | exact (Xu HR119.out HB.out) | (with_reducible refine Xr ?_ _) | (with_reducible refine Xs ?_ _) | (with_reducible refine Xt ?_))))
           (case aB => exact (by repeat (first | (with_reducible first | exact HB.out | apply Xc | apply Xa | apply Xb) | exact HB.out)))
           (case aF => exact (fun _ _ => trivial))
           (case aO => exact (by (with_reducible repeat (first | apply Xv | apply Xw | apply Xx)); exact HO118.out))
           (case aS => exact (XC (by repeat (first | (with_reducible first | exact HB.out | apply Xc | apply Xa | apply Xb) | exact HB.out))))
           (case aL => have := LMc33.out; have hlx_ := (show (l0.drop ((x7_1.length : Int) : Int).toNat).length = (l0.length - (x7_1.length : Int).toNat) from Xp); omega)
           intro v121 w40 ho hb hg hat; rw [← Ny120.out] at ho; have n0_ := XB (hb); have n1_ := XB (ho); clear HB; clear HO118; have HB := n0_; have HO122 := n1_; clear n0_ n1_; clear ho hb hg hat; refine hK.out _ _ trivial (fun hHeld => ?_); clear hK K; refine norm_ (a' := ?_) ?_ ?_; rotate_left
           ·show Act.put _ (some 48) _ = _
            simp only [Act.put, Xj, Xk, Xl, i64_w, i32_w]; rfl
           refine pure_ (i := 8) (N := some 7) (v := ?_) (a' := ?_) (Bq 9 511) rfl rfl (any_of HT_.out (by kernel_rfl)) (fun _ _ _ h => h) (Or.inl ⟨by rfl, ?_⟩) ?_ ?_; rotate_left
           ·intro w'; go_simp; with_reducible rfl
           rotate_left
           ·simp only [Act.put, Xj, Xk, Xl, i64_w, i32_w]; rfl
           refine done_ (done_of HT_.out (by kernel_rfl)) ?_; obtain ⟨Ao41, co41, eo41⟩ := Kd.R_slice HO122.out; subst eo41; try go_wp2_with (first | ((with_reducible refine gate_callee (f := 47) rfl ?_); refine goesL_ (some 50) rfl rfl Try.func47 (by kernel_rfl) rfl #[.slice Ao41 y120.length co41] rfl (by (try simp only [Xm, Xn, Xo]); first | done | rfl | (simp only [Xp, Xq]; rfl)) ?_; (with_reducible refine (diaphoneref07_Validate.calls k1 _ _ y120 t123 _ ?side1 ?side2 A34.out).mono ?_); (case side1 => repeat (first | exact (XD HO122.out).2.2 | (with_reducible refine Xr ?_ _) | (with_reducible refine Xs ?_ _) | (with_reducible refine Xt ?_))); (case side2 => exact (XD HO122.out).2.1); rintro e w' ⟨rfl, ⟨nd, rfl⟩⟩; refine ⟨_, rfl, ?_⟩))
           go_ret2
           exact ⟨_, by first | rfl | (simp [errW_none, errW_some] <;> rfl) | (simp [*, errW_none, errW_some] <;> rfl), by (with_reducible repeat (first | apply Xv | apply Xw | apply Xx)); exact HO122.out, by repeat (first | (with_reducible first | exact HB.out | apply Xc | apply Xa | apply Xb) | exact HB.out)⟩
          ·rw [if_neg c35] at H; have c35b0 : (t123 == 0) = false := beq_eq_false_iff_ne.mpr c35; have c35b1 : (t123 != 0) = true := bne_iff_ne.mpr c35; simp only [Option.some.injEq, Prod.mk.injEq] at H; obtain ⟨rfl, rfl⟩ := H; obtain ⟨Ao42, co42, eo42⟩ := Kd.R_slice HO_7.out; subst eo42; try go_wp2
           have n0_ := XB (Xx HO_7.out); have n1_ := XB (Xb HB.out); clear HO_7; clear HB; have HO_7 := n0_; have HB := n1_; clear n0_ n1_; obtain ⟨i044, hi044, _, hsz44, _⟩ := info_parts info3; obtain ⟨A44, hcut44, hA44, hC44⟩ := print_drop_of (P := Try.prog) (Value.int .i64) 0 22 3 .i64 Try.underlying22 hi044 hsz44 A0 c0 l0 (x7_1.length : Int) (of_decide_eq_true (by first | (with_reducible assumption) | assumption)) (of_decide_eq_true (by first | (with_reducible assumption) | assumption)) HC0.out; have HR119 := XB (Kd.C_of_reads (h1 := fun _ => rfl) (hA44 _ (Kd.reads_of_C HR0.out))); have HC119 := XB hC44; clear hA44 hC44 hi044 hsz44; refine start_ (n := 9) (S := fun w' => True) (ds := []) #[false, false, false, false, false, false, false, false, false] (by kernel_rfl) rfl rfl trivial (fun hHeld => ?_); refine with_tabW diaphoneref07_With.tab12 diaphoneref07_With.bits12 (fun HT_ HW_ => ?_); generalize wr.drew = w43 at HO_7 HB HR119 hHeld ⊢
           refine pure_ (i := 0) (N := some 41) (v := ?_) (a' := ?_) (Bq 9 1) rfl rfl (any_of HT_.out (by kernel_rfl)) (fun _ _ _ h => h) (Or.inl ⟨by rfl, ?_⟩) ?_ ?_; rotate_left
           ·intro w'; go_simp; with_reducible rfl
           rotate_left
           ·simp only [Act.put, Xj, Xk, Xl, i64_w, i32_w]; rfl
           refine pure_ (i := 1) (N := some 42) (v := ?_) (a' := ?_) (Bq 9 3) rfl rfl (any_of HT_.out (by kernel_rfl)) (fun _ _ _ h => h) (Or.inl ⟨by rfl, ?_⟩) ?_ ?_; rotate_left
           ·intro w'; go_simp; with_reducible rfl
           rotate_left
           ·simp only [Act.put, Xj, Xk, Xl, i64_w, i32_w]; rfl
           refine pure_ (i := 4) (N := some 45) (v := ?_) (a' := ?_) (Bq 9 19) rfl rfl (any_of HT_.out (by kernel_rfl)) (fun _ _ _ h => h) (Or.inl ⟨by rfl, ?_⟩) ?_ ?_; rotate_left
           ·intro w'; go_simp; with_reducible rfl
           rotate_left
           ·simp only [Act.put, Xj, Xk, Xl, i64_w, i32_w]; rfl
           refine pure_ (i := 5) (N := some 46) (v := ?_) (a' := ?_) (Bq 9 51) rfl rfl (any_of HT_.out (by kernel_rfl)) (fun _ _ _ h => h) (Or.inl ⟨by rfl, ?_⟩) ?_ ?_; rotate_left
           ·intro w'; go_simp; with_reducible rfl
           rotate_left
           ·simp only [Act.put, Xj, Xk, Xl, i64_w, i32_w]; rfl
           refine pure_ (i := 6) (N := some 47) (v := ?_) (a' := ?_) (Bq 9 115) rfl rfl (any_of HT_.out (by kernel_rfl)) (fun _ _ _ h => h) (Or.inl ⟨by rfl, ?_⟩) ?_ ?_; rotate_left
           ·intro w'; go_simp; with_reducible rfl
           rotate_left
           ·simp only [Act.put, Xj, Xk, Xl, i64_w, i32_w]; rfl
           refine one_ (i := 2) (N := some 43) (Bq 9 119) rfl rfl (one_of HT_.out (by kernel_rfl)) (by decide) (fun K hK => ?_); refine value_ (w1 := ?_) (v := ?_) (by rfl) rfl ?_ ?_; rotate_left 2
           ·go_simp; constructor
            ·rfl
            ·rfl
           refine hK.out _ _ trivial (fun hHeld => ?_); clear hK K; refine norm_ (a' := ?_) ?_ ?_; rotate_left
           ·show Act.put _ (some 43) _ = _
            simp only [Act.put, Xj, Xk, Xl, i64_w, i32_w]; rfl
           refine one_ (i := 3) (N := some 44) (Bq 9 127) rfl rfl (one_of HT_.out (by kernel_rfl)) (by decide) (fun K hK => ?_); refine Kd.R_append_step (Kd.int .i64) (w0 := w) w.heap.size (by rfl) (.tmp 41) (.tmp 43) 22 3 (.int .i64 0) 8 rfl Try.underlying22 info3 rfl (by decide) (by omega) (.slice Ao42 x7_1.length co42) x7_1 a1 [.int .i64 a1] (fun _ => True) (fun _ => False) rfl rfl ?aP (fun _ hk => hk.elim) ?aF ?aO ?aB ?aS ?aL ?_; (case aP => exact rfl)
           (case aB => exact (by repeat (first | (with_reducible first | exact HB.out | apply Xc | apply Xa | apply Xb) | exact HB.out)))
           (case aF => exact (fun _ _ => trivial))
           (case aO => exact (by (with_reducible repeat (first | apply Xv | apply Xw | apply Xx)); exact HO_7.out))
           (case aS => exact (XC (by repeat (first | (with_reducible first | exact HB.out | apply Xc | apply Xa | apply Xb) | exact HB.out))))
           (case aL => have := LMc30.out; omega)
           intro v117 w45 ho hb hg hat; rw [← Ny116.out] at ho; have n0_ := XB (hb); have n1_ := XB (ho); clear HB; clear HO_7; have HB := n0_; have HO118 := n1_; clear n0_ n1_; clear ho hb hg hat; refine hK.out _ _ trivial (fun hHeld => ?_); clear hK K; refine norm_ (a' := ?_) ?_ ?_; rotate_left
           ·show Act.put _ (some 44) _ = _
            simp only [Act.put, Xj, Xk, Xl, i64_w, i32_w]; rfl
           refine one_ (i := 7) (N := some 48) (Bq 9 255) rfl rfl (one_of HT_.out (by kernel_rfl)) (by decide) (fun K hK => ?_); refine Kd.R_append_rows_step (Kd.int .i64) (w0 := w) w.heap.size (by rfl) (.tmp 44) (.tmp 47) 22 3 (.int .i64 0) 8 rfl Try.underlying22 info3 rfl (by decide) (by omega) v117 y116 (l0.drop ((x7_1.length : Int) : Int).toNat) _ _ _ (fun _ => True) (fun _ => False) rfl rfl ?aO ?aR (fun _ _ h => h) (fun _ h => h.elim) ?aF ?aB ?aS ?aL ?_; (case aR => first | (rw [← show (l0.drop ((x7_1.length : Int) : Int).toNat).length = (l0.length - x7_1.length) from by rw [Xp, Int.toNat_natCast]]; repeat (first | exact (Xu HR119.out HB.out) | (with_reducible refine Xr ?_ _) | (with_reducible refine Xs ?_ _) | (with_reducible refine Xt ?_))) | (rw [← show (l0.drop ((x7_1.length : Int) : Int).toNat).length = (l0.length - (x7_1.length : Int).toNat) from Xp]; repeat (first | exact (Xu HR119.out HB.out) | (with_reducible refine Xr ?_ _) | (with_reducible refine Xs ?_ _) | (with_reducible refine Xt ?_))) | (repeat (first | exact (Xu HR119.out HB.out) | (with_reducible refine Xr ?_ _) | (with_reducible refine Xs ?_ _) | (with_reducible refine Xt ?_))))
           (case aB => exact (by repeat (first | (with_reducible first | exact HB.out | apply Xc | apply Xa | apply Xb) | exact HB.out)))
           (case aF => exact (fun _ _ => trivial))
           (case aO => exact (by (with_reducible repeat (first | apply Xv | apply Xw | apply Xx)); exact HO118.out))
           (case aS => exact (XC (by repeat (first | (with_reducible first | exact HB.out | apply Xc | apply Xa | apply Xb) | exact HB.out))))
           (case aL => have := LMc33.out; have hlx_ := (show (l0.drop ((x7_1.length : Int) : Int).toNat).length = (l0.length - (x7_1.length : Int).toNat) from Xp); omega)
           intro v121 w46 ho hb hg hat; rw [← Ny120.out] at ho; have n0_ := XB (hb); have n1_ := XB (ho); clear HB; clear HO118; have HB := n0_; have HO122 := n1_; clear n0_ n1_; clear ho hb hg hat; refine hK.out _ _ trivial (fun hHeld => ?_); clear hK K; refine norm_ (a' := ?_) ?_ ?_; rotate_left
           ·show Act.put _ (some 48) _ = _
            simp only [Act.put, Xj, Xk, Xl, i64_w, i32_w]; rfl
           refine pure_ (i := 8) (N := some 7) (v := ?_) (a' := ?_) (Bq 9 511) rfl rfl (any_of HT_.out (by kernel_rfl)) (fun _ _ _ h => h) (Or.inl ⟨by rfl, ?_⟩) ?_ ?_; rotate_left
           ·intro w'; go_simp; with_reducible rfl
           rotate_left
           ·simp only [Act.put, Xj, Xk, Xl, i64_w, i32_w]; rfl
           refine done_ (done_of HT_.out (by kernel_rfl)) ?_; obtain ⟨Ao47, co47, eo47⟩ := Kd.R_slice HO122.out; subst eo47; try go_wp2_with (first | ((with_reducible refine gate_callee (f := 47) rfl ?_); refine goesL_ (some 50) rfl rfl Try.func47 (by kernel_rfl) rfl #[.slice Ao47 y120.length co47] rfl (by (try simp only [Xm, Xn, Xo]); first | done | rfl | (simp only [Xp, Xq]; rfl)) ?_; (with_reducible refine (diaphoneref07_Validate.calls k1 _ _ y120 t123 _ ?side1 ?side2 A34.out).mono ?_); (case side1 => repeat (first | exact (XD HO122.out).2.2 | (with_reducible refine Xr ?_ _) | (with_reducible refine Xs ?_ _) | (with_reducible refine Xt ?_))); (case side2 => exact (XD HO122.out).2.1); rintro e w' ⟨rfl, ⟨nd, rfl⟩⟩; refine ⟨_, rfl, ?_⟩))
           go_ret2
           exact ⟨_, by first | rfl | (simp [errW_none, errW_some] <;> rfl) | (simp [*, errW_none, errW_some] <;> rfl), by first | exact Kd.R_nil _ _ _ _ _ | exact Kd.N_nil _ _ _ _ _ | exact Kd.V_nil _ _ _ _ _ | exact Kd.Q_nil _ _ _ _ _ | exact Kd.S_nil _ _ _ _ _, by repeat (first | (with_reducible first | exact HB.out | apply Xc | apply Xa | apply Xb) | exact HB.out)⟩
         ·rw [if_neg c33] at H; exact absurd H (by simp)
        ·rw [if_neg c32] at H; exact absurd H (by simp)
       ·rw [if_neg c31] at H; exact absurd H (by simp)
      ·rw [if_neg c30] at H; exact absurd H (by simp)
 ·rw [if_neg c4] at H; have c4b0 : (t101 == 0) = false := beq_eq_false_iff_ne.mpr c4; have c4b1 : (t101 != 0) = true := bne_iff_ne.mpr c4; simp only [Option.some.injEq, Prod.mk.injEq] at H; obtain ⟨rfl, rfl⟩ := H; go_enter Try.func55, Try.ntmps55
  go_wp2_with (first | ((with_reducible refine gate_callee (f := 47) rfl ?_); refine goesL_ (some 11) rfl rfl Try.func47 (by kernel_rfl) rfl #[.slice A0 l0.length c0] rfl (by (try simp only [Xm, Xn, Xo]); first | done | rfl | (simp only [Xp, Xq]; rfl)) ?_; (with_reducible refine (diaphoneref07_Validate.calls k _ _ l0 t101 _ ?side1 ?side2 A3.out).mono ?_); (case side1 => repeat (first | exact HR0.out | (with_reducible refine Xr ?_ _) | (with_reducible refine Xs ?_ _) | (with_reducible refine Xt ?_))); (case side2 => exact HC0.out); rintro e w' ⟨rfl, ⟨nd, rfl⟩⟩; refine ⟨_, rfl, ?_⟩))
  go_ret2
  exact ⟨_, by first | rfl | (simp [errW_none, errW_some] <;> rfl) | (simp [*, errW_none, errW_some] <;> rfl), by first | exact Kd.R_nil _ _ _ _ _ | exact Kd.N_nil _ _ _ _ _ | exact Kd.V_nil _ _ _ _ _ | exact Kd.Q_nil _ _ _ _ _ | exact Kd.S_nil _ _ _ _ _, by repeat (first | (with_reducible first | exact HB.out | apply Xc | apply Xa | apply Xb) | exact HB.out)⟩

end Go.Proofs.Ytgndhijhcliegaa.P
