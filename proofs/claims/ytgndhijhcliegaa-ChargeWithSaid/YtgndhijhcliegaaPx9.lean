-- laid by a program of this session (wip/tools): plain functions of the Go code and their contracts
-- thinned
import Derived.Test.YtgndhijhcliegaaPx0
import Derived.Test.YtgndhijhcliegaaPx3
import Derived.Test.YtgndhijhcliegaaPx5
import Derived.Test.YtgndhijhcliegaaPx8
namespace Go.Proofs.Ytgndhijhcliegaa.P
open Go.RowKit Go.Proofs.YtgndhijhcliegaaW.PrintWords Go.Proofs.YtgndhijhcliegaaW.PrintLast Go.Proofs.YtgndhijhcliegaaW.PrintMore
attribute [local go_sem] max2_int min2_int max_two min_two max_three min_three max_four min_four   -- for this text's walks alone
set_option linter.unusedVariables false
set_option linter.unusedSimpArgs false

/-! ### diaphoneref07_Gaps: function 27 -/
def diaphoneref07_Gaps.l0 : Nat → List Int → List Int → Int → Option (List Int × Int)
 | 0, _, _, _ => none
 | k + 1, x5, x6, x7 => if x7 ≤ 900 then (if 0 ≤ x7 then (if x7 < (x5.length : Int) then (if (rd x5 x7) < 0 then (if x6.length < 17592186044416 then (diaphoneref07_Gaps.l0 k x5 (x6 ++ [x7]) (wrap64 (x7 + 1))) else (none)) else (diaphoneref07_Gaps.l0 k x5 x6 (wrap64 (x7 + 1)))) else (none)) else (none)) else (some (x6, 0))
def diaphoneref07_Gaps.f (k : Nat) (l0 : List Int) : Option (List Int × Int) := (diaphoneref07_Validate.f k l0).bind fun t101 => (if t101 = 0 then ((diaphoneref07_measure.f k l0).bind fun t102 => (if t102 = 1 then ((diaphoneref07_few.f k l0 900).bind fun t103 => (diaphoneref07_Gaps.l0 k t103 ([] : List Int) 0)) else (some (([] : List Int), 4)))) else (some (([] : List Int), t101)))
theorem diaphoneref07_Gaps.mono_l : ∀ k, (∀ y0 y1 y2, LeO (diaphoneref07_Gaps.l0 k y0 y1 y2) (diaphoneref07_Gaps.l0 (k + 1) y0 y1 y2))
 | 0 => fun _ _ _ r h => by simp [diaphoneref07_Gaps.l0] at h
 | k + 1 => by
  have ih0 := diaphoneref07_Gaps.mono_l k
  ·intro y0 y1 y2; unfold diaphoneref07_Gaps.l0; repeat' first
   | (with_reducible exact ih0 _ _ _)
   | (with_reducible exact diaphoneref07_Validate.mono _ _)
   | (with_reducible exact diaphoneref07_few.mono _ _ _)
   | (with_reducible exact diaphoneref07_measure.mono _ _)
   | (with_reducible exact LeO.refl _)
   | (with_reducible exact LeO.none _)
   | (with_reducible refine LeO.ite ?_ ?_)
   | (with_reducible refine LeO.bind ?_ (fun _ => ?_))
   | exact ih0 _ _ _
   | exact diaphoneref07_Validate.mono _ _
   | exact diaphoneref07_few.mono _ _ _
   | exact diaphoneref07_measure.mono _ _
   | exact LeO.none _
   | refine LeO.ite ?_ ?_
   | refine LeO.bind ?_ (fun _ => ?_)
theorem diaphoneref07_Gaps.mono : ∀ a0 k, LeO (diaphoneref07_Gaps.f k a0) (diaphoneref07_Gaps.f (k + 1) a0) := by
 intro a0 k; have ih0 := diaphoneref07_Gaps.mono_l k; unfold diaphoneref07_Gaps.f; repeat' first
   | (with_reducible exact ih0 _ _ _)
   | (with_reducible exact diaphoneref07_Validate.mono _ _)
   | (with_reducible exact diaphoneref07_few.mono _ _ _)
   | (with_reducible exact diaphoneref07_measure.mono _ _)
   | (with_reducible exact LeO.refl _)
   | (with_reducible exact LeO.none _)
   | (with_reducible refine LeO.ite ?_ ?_)
   | (with_reducible refine LeO.bind ?_ (fun _ => ?_))
   | exact ih0 _ _ _
   | exact diaphoneref07_Validate.mono _ _
   | exact diaphoneref07_few.mono _ _ _
   | exact diaphoneref07_measure.mono _ _
   | exact LeO.none _
   | refine LeO.ite ?_ ?_
   | refine LeO.bind ?_ (fun _ => ?_)
set_option maxHeartbeats 8000000 in
set_option maxRecDepth 100000 in
theorem diaphoneref07_Gaps.calls (k : Nat) (A0 : Option Addr) (c0 : Nat) (l0 : List Int) (r1 : List Int) (r2 : Int) (w : World) (hr0 : Kd.C (Kd.int .i64) w A0 l0.length l0) (hc0 : l0.length ≤ c0) (h : diaphoneref07_Gaps.f k l0 = some (r1, r2)) :
  Calls Try.prog 27 #[.slice A0 l0.length c0] w fun e w' => ∃ v0_ : Value, e = .returned (.tuple #[v0_, .int .i64 r2]) ∧ Kd.R (Kd.int .i64) 3 w' w.heap.size (fun _ => True) v0_ r1 ∧ Below w.heap.size w w' := by
 have HR0 := XB hr0; have HC0 := XB hc0; clear hr0 hc0; have HB := XB (Below.refl w.heap.size w); have H : ((diaphoneref07_Validate.f k l0).bind fun t101 => (if t101 = 0 then ((diaphoneref07_measure.f k l0).bind fun t102 => (if t102 = 1 then ((diaphoneref07_few.f k l0 900).bind fun t103 => (diaphoneref07_Gaps.l0 k t103 ([] : List Int) 0)) else (some (([] : List Int), 4)))) else (some (([] : List Int), t101)))) = some (r1, r2) := h; clear h; replace H := Option.bind_eq_some_iff.mp H; obtain ⟨t101, A20, H⟩ := H; replace H : (if t101 = 0 then ((diaphoneref07_measure.f k l0).bind fun t102 => (if t102 = 1 then ((diaphoneref07_few.f k l0 900).bind fun t103 => (diaphoneref07_Gaps.l0 k t103 ([] : List Int) 0)) else (some (([] : List Int), 4)))) else (some (([] : List Int), t101))) = some (r1, r2) := H; have A2 := XB A20; clear A20; by_cases c3 : t101 = 0
 ·rw [if_pos c3] at H; have c3b0 : (t101 == 0) = true := beq_iff_eq.mpr c3; have c3b1 : (t101 != 0) = false := bne_eq_false_iff_eq.mpr c3; clear c3; replace H := Option.bind_eq_some_iff.mp H; obtain ⟨t102, A40, H⟩ := H; replace H : (if t102 = 1 then ((diaphoneref07_few.f k l0 900).bind fun t103 => (diaphoneref07_Gaps.l0 k t103 ([] : List Int) 0)) else (some (([] : List Int), 4))) = some (r1, r2) := H; have A4 := XB A40; clear A40; by_cases c5 : t102 = 1
  ·rw [if_pos c5] at H; have c5b0 : (t102 == 1) = true := beq_iff_eq.mpr c5; have c5b1 : (t102 != 1) = false := bne_eq_false_iff_eq.mpr c5; clear c5; replace H := Option.bind_eq_some_iff.mp H; obtain ⟨t103, A60, H⟩ := H; replace H : (diaphoneref07_Gaps.l0 k t103 ([] : List Int) 0) = some (r1, r2) := H; have A6 := XB A60; clear A60; have H' := XB H; clear H; go_enter Try.func27, Try.ntmps27
   go_wp2_with (first | ((with_reducible refine gate_callee (f := 47) rfl ?_); refine goesL_ (some 9) rfl rfl Try.func47 (by kernel_rfl) rfl #[.slice A0 l0.length c0] rfl (by (try simp only [Xm, Xn, Xo]); first | done | rfl | (simp only [Xp, Xq]; rfl)) ?_; (with_reducible refine (diaphoneref07_Validate.calls k _ _ l0 t101 _ ?side1 ?side2 A2.out).mono ?_); (case side1 => repeat (first | exact HR0.out | (with_reducible refine Xr ?_ _) | (with_reducible refine Xs ?_ _) | (with_reducible refine Xt ?_))); (case side2 => exact HC0.out); rintro e w' ⟨rfl, ⟨nd, rfl⟩⟩; refine ⟨_, rfl, ?_⟩) | ((with_reducible refine gate_callee (f := 66) rfl ?_); refine goesL_ (some 14) rfl rfl Try.func66 (by kernel_rfl) rfl #[.slice A0 l0.length c0] rfl (by (try simp only [Xm, Xn, Xo]); first | done | rfl | (simp only [Xp, Xq]; rfl)) ?_; (with_reducible refine (diaphoneref07_measure.calls k _ _ l0 t102 _ ?side1 ?side2 A4.out).mono ?_); (case side1 => repeat (first | exact HR0.out | (with_reducible refine Xr ?_ _) | (with_reducible refine Xs ?_ _) | (with_reducible refine Xt ?_))); (case side2 => exact HC0.out); rintro e w' ⟨rfl, ⟨nd, rfl⟩⟩; refine ⟨_, rfl, ?_⟩) | ((with_reducible refine gate_callee (f := 62) rfl ?_); refine goesL_ (some 17) rfl rfl Try.func62 (by kernel_rfl) rfl #[.slice A0 l0.length c0, .int .i64 900] rfl (by (try simp only [Xm, Xn, Xo]); first | done | rfl | (simp only [Xp, Xq]; rfl)) ?_; (with_reducible refine (diaphoneref07_few.calls k _ _ l0 900 t103 _ ?side1 ?side2 A6.out).mono ?_); (case side1 => repeat (first | exact HR0.out | (with_reducible refine Xr ?_ _) | (with_reducible refine Xs ?_ _) | (with_reducible refine Xt ?_))); (case side2 => exact HC0.out); rintro e w7 ⟨v104, rfl, ho0, hb⟩; refine ⟨_, rfl, ?_⟩; have n0_ := XB (Kd.R_lower ho0 (XC (by repeat (first | (with_reducible first | exact HB.out | apply Xc | apply Xa | apply Xb) | exact HB.out)))); have n1_ := XB (Xz (by repeat (first | (with_reducible first | exact HB.out | apply Xc | apply Xa | apply Xb) | exact HB.out)) hb); clear HB; have HO105 := n0_; have HB := n1_; clear n0_ n1_; (try clear hb); (try clear hb2); (try clear hk); (try clear hi); (try clear ho0)))
   go_loopg [6, 7] k (fun kq v6 v7 w' => ∃ (x6_1 : List Int) (x7_1 : Int), v7 = .int .i64 x7_1 ∧ Aside0 (diaphoneref07_Gaps.l0 kq t103 x6_1 x7_1 = some (r1, r2)) ∧ Aside0 (kq ≤ k) ∧ Aside0 (Kd.R (Kd.int .i64) 3 w' w.heap.size (fun k_ => some k_ ≠ (v6 : Value).ownBlock) v104 t103) ∧ Aside0 (Kd.R (Kd.int .i64) 3 w' w.heap.size (fun k_ => some k_ ≠ (v104 : Value).ownBlock) v6 x6_1) ∧ Aside0 (Below w.heap.size w w'))
   case atStart => exact ⟨(([] : List Int)), (0), (by first | rfl | (simp; done) | (simp [*]; done)), H', ⟨Nat.le_refl _⟩, ⟨by (with_reducible repeat (first | apply Xv | apply Xw | apply Xx)); exact Kd.R_mono HO105.out (fun _ hk => (by simp [Value.ownBlock]))⟩, ⟨by first | exact Kd.R_nil _ _ _ _ _ | exact Kd.N_nil _ _ _ _ _ | exact Kd.V_nil _ _ _ _ _ | exact Kd.Q_nil _ _ _ _ _ | exact Kd.S_nil _ _ _ _ _⟩, ⟨by repeat (first | (with_reducible first | exact HB.out | apply Xc | apply Xa | apply Xb) | exact HB.out)⟩⟩
   case round =>
    clear H'; try clear c2
    try clear p2
    try clear c3
    try clear c3b0
    try clear c3b1
    try clear c4
    try clear c5
    try clear c5b0
    try clear c5b1
    try clear c6
    obtain ⟨x6_1, x7_1, rfl, HA, HK1, HO_5, HO_6, HB⟩ := hrel
    cases gk with
    | zero => exact absurd HA.out (by simp [diaphoneref07_Gaps.l0])
    | succ k1 =>
     have H := HA.out; clear HA; simp only [diaphoneref07_Gaps.l0] at H; by_cases c8 : x7_1 ≤ 900
     ·rw [if_pos c8] at H; have c8b0 : decide (x7_1 ≤ 900) = true := decide_eq_true c8; clear c8; by_cases c9 : 0 ≤ x7_1
      ·rw [if_pos c9] at H; have c9b0 : decide (0 ≤ x7_1) = true := decide_eq_true c9; clear c9; by_cases c10 : x7_1 < (t103.length : Int)
       ·rw [if_pos c10] at H; have c10b0 : decide (x7_1 < (t103.length : Int)) = true := decide_eq_true c10; clear c10; by_cases c11 : (rd t103 x7_1) < 0
        ·rw [if_pos c11] at H; have c11b0 : decide ((rd t103 x7_1) < 0) = true := decide_eq_true c11; clear c11; by_cases c12 : x6_1.length < 17592186044416
         ·rw [if_pos c12] at H; have LMc12 := XB c12; clear c12; obtain ⟨y107, hy107⟩ : ∃ y_ : List Int, y_ = (x6_1 ++ [x7_1]) := ⟨_, rfl⟩
          replace H : (diaphoneref07_Gaps.l0 k1 t103 y107 (wrap64 (x7_1 + 1))) = some (r1, r2) := by first | (rw [hy107]; with_reducible exact H) | (have H2_ := (Option.bind_some _ _).symm.trans H; rw [hy107]; with_reducible exact H2_) | (have H2_ := (Option.bind_some _ _).symm.trans H; with_reducible exact H2_) | with_reducible exact H | (rw [hy107]; exact H) | exact H
          have Ny107 := XB hy107; clear hy107; have H' := XB H; clear H; obtain ⟨Ao13, co13, eo13⟩ := Kd.R_slice HO_5.out; subst eo13; have p106 : 0 ≤ (x7_1 : Int) := of_decide_eq_true (by first | (with_reducible assumption) | assumption); have q106 : x7_1 < (t103.length : Int) := of_decide_eq_true (by first | (with_reducible assumption) | assumption); obtain ⟨ad106, e106, hx106_0⟩ := Kd.at_int (XD HO_5.out).2.2 x7_1 p106 q106
          cases e106
          replace p106 := eq_true p106; replace q106 := eq_true q106; go_wp2_with (first | ((with_reducible refine gate_builtin (b := .append) (xs := #[.tmp 27, .tmp 29]) rfl ?_); at_builtin; refine Kd.R_append (Kd.int .i64) (w0 := w) w.heap.size rfl (.tmp 27) (.tmp 29) 22 3 (.int .i64 0) 8 rfl Try.underlying22 info3 rfl (by decide) (by omega) u6 x6_1 x7_1 [.int .i64 x7_1] (fun k_ => some k_ ≠ (.slice (some ad106) t103.length co13 : Value).ownBlock) (fun _ => False) rfl rfl ?aP (fun _ hk => hk.elim) ?aF ?aO ?aB ?aS ?aL ?_; (case aP => exact rfl); (case aB => exact (by repeat (first | (with_reducible first | exact HB.out | apply Xc | apply Xa | apply Xb) | exact HB.out))); (case aF => exact (fun k_ hk => Kd.fresh' (Kd.R_lt (by (with_reducible repeat (first | apply Xv | apply Xw | apply Xx)); exact HO_5.out)) k_ hk)); (case aO => exact (by (with_reducible repeat (first | apply Xv | apply Xw | apply Xx)); exact HO_6.out)); (case aS => exact (XC (by repeat (first | (with_reducible first | exact HB.out | apply Xc | apply Xa | apply Xb) | exact HB.out)))); (case aL => have := LMc12.out; omega); intro v108 w14 ho hb hg hat; rw [← Ny107.out] at ho; have n0_ := XB (Kd.R_after (ok := (fun _ => True)) (by (with_reducible repeat (first | apply Xv | apply Xw | apply Xx)); exact Kd.R_mono HO_5.out (fun _ hk => ⟨trivial, hk⟩)) hg hat); have n1_ := XB (hb); have n2_ := XB (ho); clear HO_5; clear HB; clear HO_6; have HO_5 := n0_; have HB := n1_; have HO109 := n2_; clear n0_ n1_ n2_; clear ho hb hg hat))
          go_roundg k1
          case measure => have := HK1.out; omega
          case rel => exact ⟨(y107), (wrap64 (x7_1 + 1)), (by first | rfl | (simp; done) | (simp [*]; done)), H', ⟨by have := HK1.out; omega⟩, ⟨by (with_reducible repeat (first | apply Xv | apply Xw | apply Xx)); exact Kd.R_mono HO_5.out (fun _ hk => hk.2)⟩, ⟨by (with_reducible repeat (first | apply Xv | apply Xw | apply Xx)); exact HO109.out⟩, ⟨by repeat (first | (with_reducible first | exact HB.out | apply Xc | apply Xa | apply Xb) | exact HB.out)⟩⟩
         ·rw [if_neg c12] at H; exact absurd H (by simp)
        ·rw [if_neg c11] at H; have c11b0 : decide ((rd t103 x7_1) < 0) = false := decide_eq_false c11; clear c11; have H' := XB H; clear H; obtain ⟨Ao15, co15, eo15⟩ := Kd.R_slice HO_5.out; subst eo15; have p106 : 0 ≤ (x7_1 : Int) := of_decide_eq_true (by first | (with_reducible assumption) | assumption); have q106 : x7_1 < (t103.length : Int) := of_decide_eq_true (by first | (with_reducible assumption) | assumption); obtain ⟨ad106, e106, hx106_0⟩ := Kd.at_int (XD HO_5.out).2.2 x7_1 p106 q106
         cases e106
         replace p106 := eq_true p106; replace q106 := eq_true q106; go_wp2
         go_roundg k1
         case measure => have := HK1.out; omega
         case rel => exact ⟨(x6_1), (wrap64 (x7_1 + 1)), (by first | rfl | (simp; done) | (simp [*]; done)), H', ⟨by have := HK1.out; omega⟩, ⟨by (with_reducible repeat (first | apply Xv | apply Xw | apply Xx)); exact HO_5.out⟩, ⟨by (with_reducible repeat (first | apply Xv | apply Xw | apply Xx)); exact HO_6.out⟩, ⟨by repeat (first | (with_reducible first | exact HB.out | apply Xc | apply Xa | apply Xb) | exact HB.out)⟩⟩
       ·rw [if_neg c10] at H; exact absurd H (by simp)
      ·rw [if_neg c9] at H; exact absurd H (by simp)
     ·rw [if_neg c8] at H; have c8b0 : decide (x7_1 ≤ 900) = false := decide_eq_false c8; clear c8; simp only [Option.some.injEq, Prod.mk.injEq] at H; obtain ⟨rfl, rfl⟩ := H; go_wp2
      go_ret2
      exact ⟨_, by first | rfl | (simp [errW_none, errW_some] <;> rfl) | (simp [*, errW_none, errW_some] <;> rfl), by (with_reducible repeat (first | apply Xv | apply Xw | apply Xx)); exact Kd.R_mono HO_6.out (fun _ hk => trivial), by repeat (first | (with_reducible first | exact HB.out | apply Xc | apply Xa | apply Xb) | exact HB.out)⟩
  ·rw [if_neg c5] at H; have c5b0 : (t102 == 1) = false := beq_eq_false_iff_ne.mpr c5; have c5b1 : (t102 != 1) = true := bne_iff_ne.mpr c5; simp only [Option.some.injEq, Prod.mk.injEq] at H; obtain ⟨rfl, rfl⟩ := H; go_enter Try.func27, Try.ntmps27
   go_wp2_with (first | ((with_reducible refine gate_callee (f := 47) rfl ?_); refine goesL_ (some 9) rfl rfl Try.func47 (by kernel_rfl) rfl #[.slice A0 l0.length c0] rfl (by (try simp only [Xm, Xn, Xo]); first | done | rfl | (simp only [Xp, Xq]; rfl)) ?_; (with_reducible refine (diaphoneref07_Validate.calls k _ _ l0 t101 _ ?side1 ?side2 A2.out).mono ?_); (case side1 => repeat (first | exact HR0.out | (with_reducible refine Xr ?_ _) | (with_reducible refine Xs ?_ _) | (with_reducible refine Xt ?_))); (case side2 => exact HC0.out); rintro e w' ⟨rfl, ⟨nd, rfl⟩⟩; refine ⟨_, rfl, ?_⟩) | ((with_reducible refine gate_callee (f := 66) rfl ?_); refine goesL_ (some 14) rfl rfl Try.func66 (by kernel_rfl) rfl #[.slice A0 l0.length c0] rfl (by (try simp only [Xm, Xn, Xo]); first | done | rfl | (simp only [Xp, Xq]; rfl)) ?_; (with_reducible refine (diaphoneref07_measure.calls k _ _ l0 t102 _ ?side1 ?side2 A4.out).mono ?_); (case side1 => repeat (first | exact HR0.out | (with_reducible refine Xr ?_ _) | (with_reducible refine Xs ?_ _) | (with_reducible refine Xt ?_))); (case side2 => exact HC0.out); rintro e w' ⟨rfl, ⟨nd, rfl⟩⟩; refine ⟨_, rfl, ?_⟩))
   go_ret2
   exact ⟨_, by first | rfl | (simp [errW_none, errW_some] <;> rfl) | (simp [*, errW_none, errW_some] <;> rfl), by first | exact Kd.R_nil _ _ _ _ _ | exact Kd.N_nil _ _ _ _ _ | exact Kd.V_nil _ _ _ _ _ | exact Kd.Q_nil _ _ _ _ _ | exact Kd.S_nil _ _ _ _ _, by repeat (first | (with_reducible first | exact HB.out | apply Xc | apply Xa | apply Xb) | exact HB.out)⟩
 ·rw [if_neg c3] at H; have c3b0 : (t101 == 0) = false := beq_eq_false_iff_ne.mpr c3; have c3b1 : (t101 != 0) = true := bne_iff_ne.mpr c3; simp only [Option.some.injEq, Prod.mk.injEq] at H; obtain ⟨rfl, rfl⟩ := H; go_enter Try.func27, Try.ntmps27
  go_wp2_with (first | ((with_reducible refine gate_callee (f := 47) rfl ?_); refine goesL_ (some 9) rfl rfl Try.func47 (by kernel_rfl) rfl #[.slice A0 l0.length c0] rfl (by (try simp only [Xm, Xn, Xo]); first | done | rfl | (simp only [Xp, Xq]; rfl)) ?_; (with_reducible refine (diaphoneref07_Validate.calls k _ _ l0 t101 _ ?side1 ?side2 A2.out).mono ?_); (case side1 => repeat (first | exact HR0.out | (with_reducible refine Xr ?_ _) | (with_reducible refine Xs ?_ _) | (with_reducible refine Xt ?_))); (case side2 => exact HC0.out); rintro e w' ⟨rfl, ⟨nd, rfl⟩⟩; refine ⟨_, rfl, ?_⟩))
  go_ret2
  exact ⟨_, by first | rfl | (simp [errW_none, errW_some] <;> rfl) | (simp [*, errW_none, errW_some] <;> rfl), by first | exact Kd.R_nil _ _ _ _ _ | exact Kd.N_nil _ _ _ _ _ | exact Kd.V_nil _ _ _ _ _ | exact Kd.Q_nil _ _ _ _ _ | exact Kd.S_nil _ _ _ _ _, by repeat (first | (with_reducible first | exact HB.out | apply Xc | apply Xa | apply Xb) | exact HB.out)⟩

end Go.Proofs.Ytgndhijhcliegaa.P
