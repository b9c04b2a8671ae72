-- laid by a program of this session (wip/tools): plain functions of the Go code and their contracts
-- thinned
import Derived.Test.YtgndhijhcliegaaPx0
import Derived.Test.YtgndhijhcliegaaPx3
import Derived.Test.YtgndhijhcliegaaPx5
namespace Go.Proofs.Ytgndhijhcliegaa.P
open Go.RowKit Go.Proofs.YtgndhijhcliegaaW.PrintWords Go.Proofs.YtgndhijhcliegaaW.PrintLast Go.Proofs.YtgndhijhcliegaaW.PrintMore
attribute [local go_sem] max2_int min2_int max_two min_two max_three min_three max_four min_four   -- for this text's walks alone
set_option linter.unusedVariables false
set_option linter.unusedSimpArgs false

/-! ### diaphoneref07_Residues: function 31 -/
mutual
def diaphoneref07_Residues.l0 : Nat → List Int → List Int → List Int → Int → Option (List Int × Int)
 | 0, _, _, _, _ => none
 | k + 1, x0, x5, x6, x7 => if 0 < (x0.length : Int) then (if x7 < (rd x0 0) then (diaphoneref07_Residues.l1 k x0 x5 x6 x7 x7) else (some (x6, 0))) else (none)
def diaphoneref07_Residues.l1 : Nat → List Int → List Int → List Int → Int → Int → Option (List Int × Int)
 | 0, _, _, _, _, _ => none
 | k + 1, x0, x5, x6, x7, x8 => if x8 < (x5.length : Int) then (if 0 ≤ x8 then (if (rd x5 x8) < 0 then (if 0 < (x0.length : Int) then (diaphoneref07_Residues.l1 k x0 x5 x6 x7 (wrap64 (x8 + (rd x0 0)))) else (none)) else (if x8 ≥ (x5.length : Int) then (if x6.length < 17592186044416 then (diaphoneref07_Residues.l0 k x0 x5 (x6 ++ [(-1)]) (wrap64 (x7 + 1))) else (none)) else (if x6.length < 17592186044416 then (diaphoneref07_Residues.l0 k x0 x5 (x6 ++ [x8]) (wrap64 (x7 + 1))) else (none)))) else (none)) else (if x8 ≥ (x5.length : Int) then (if x6.length < 17592186044416 then (diaphoneref07_Residues.l0 k x0 x5 (x6 ++ [(-1)]) (wrap64 (x7 + 1))) else (none)) else (if x6.length < 17592186044416 then (diaphoneref07_Residues.l0 k x0 x5 (x6 ++ [x8]) (wrap64 (x7 + 1))) else (none)))
end
def diaphoneref07_Residues.f (k : Nat) (l0 : List Int) : Option (List Int × Int) := (diaphoneref07_Validate.f k l0).bind fun t101 => (if t101 = 0 then ((diaphoneref07_few.f k l0 930).bind fun t102 => (diaphoneref07_Residues.l0 k l0 t102 ([] : List Int) 0)) else (some (([] : List Int), t101)))
theorem diaphoneref07_Residues.mono_l : ∀ k, (∀ y0 y1 y2 y3, LeO (diaphoneref07_Residues.l0 k y0 y1 y2 y3) (diaphoneref07_Residues.l0 (k + 1) y0 y1 y2 y3)) ∧ (∀ y0 y1 y2 y3 y4, LeO (diaphoneref07_Residues.l1 k y0 y1 y2 y3 y4) (diaphoneref07_Residues.l1 (k + 1) y0 y1 y2 y3 y4))
 | 0 => ⟨fun _ _ _ _ r h => by simp [diaphoneref07_Residues.l0] at h, fun _ _ _ _ _ r h => by simp [diaphoneref07_Residues.l1] at h⟩
 | k + 1 => by
  obtain ⟨ih0, ih1⟩ := diaphoneref07_Residues.mono_l k; refine ⟨?_, ?_⟩
  ·intro y0 y1 y2 y3; unfold diaphoneref07_Residues.l0; repeat' first
   | (with_reducible exact ih0 _ _ _ _)
   | (with_reducible exact ih1 _ _ _ _ _)
   | (with_reducible exact diaphoneref07_Validate.mono _ _)
   | (with_reducible exact diaphoneref07_few.mono _ _ _)
   | (with_reducible exact LeO.refl _)
   | (with_reducible exact LeO.none _)
   | (with_reducible refine LeO.ite ?_ ?_)
   | (with_reducible refine LeO.bind ?_ (fun _ => ?_))
   | exact ih0 _ _ _ _
   | exact ih1 _ _ _ _ _
   | exact diaphoneref07_Validate.mono _ _
   | exact diaphoneref07_few.mono _ _ _
   | exact LeO.none _
   | refine LeO.ite ?_ ?_
   | refine LeO.bind ?_ (fun _ => ?_)
  ·intro y0 y1 y2 y3 y4; unfold diaphoneref07_Residues.l1; repeat' first
   | (with_reducible exact ih0 _ _ _ _)
   | (with_reducible exact ih1 _ _ _ _ _)
   | (with_reducible exact diaphoneref07_Validate.mono _ _)
   | (with_reducible exact diaphoneref07_few.mono _ _ _)
   | (with_reducible exact LeO.refl _)
   | (with_reducible exact LeO.none _)
   | (with_reducible refine LeO.ite ?_ ?_)
   | (with_reducible refine LeO.bind ?_ (fun _ => ?_))
   | exact ih0 _ _ _ _
   | exact ih1 _ _ _ _ _
   | exact diaphoneref07_Validate.mono _ _
   | exact diaphoneref07_few.mono _ _ _
   | exact LeO.none _
   | refine LeO.ite ?_ ?_
   | refine LeO.bind ?_ (fun _ => ?_)
theorem diaphoneref07_Residues.mono : ∀ a0 k, LeO (diaphoneref07_Residues.f k a0) (diaphoneref07_Residues.f (k + 1) a0) := by
 intro a0 k; obtain ⟨ih0, ih1⟩ := diaphoneref07_Residues.mono_l k; unfold diaphoneref07_Residues.f; repeat' first
   | (with_reducible exact ih0 _ _ _ _)
   | (with_reducible exact ih1 _ _ _ _ _)
   | (with_reducible exact diaphoneref07_Validate.mono _ _)
   | (with_reducible exact diaphoneref07_few.mono _ _ _)
   | (with_reducible exact LeO.refl _)
   | (with_reducible exact LeO.none _)
   | (with_reducible refine LeO.ite ?_ ?_)
   | (with_reducible refine LeO.bind ?_ (fun _ => ?_))
   | exact ih0 _ _ _ _
   | exact ih1 _ _ _ _ _
   | exact diaphoneref07_Validate.mono _ _
   | exact diaphoneref07_few.mono _ _ _
   | exact LeO.none _
   | refine LeO.ite ?_ ?_
   | refine LeO.bind ?_ (fun _ => ?_)
set_option maxHeartbeats 8000000 in
set_option maxRecDepth 100000 in
theorem diaphoneref07_Residues.calls (k : Nat) (A0 : Option Addr) (c0 : Nat) (l0 : List Int) (r1 : List Int) (r2 : Int) (w : World) (hr0 : Kd.C (Kd.int .i64) w A0 l0.length l0) (hc0 : l0.length ≤ c0) (h : diaphoneref07_Residues.f k l0 = some (r1, r2)) :
  Calls Try.prog 31 #[.slice A0 l0.length c0] w fun e w' => ∃ v0_ : Value, e = .returned (.tuple #[v0_, .int .i64 r2]) ∧ Kd.R (Kd.int .i64) 3 w' w.heap.size (fun _ => True) v0_ r1 ∧ Below w.heap.size w w' := by
 have HR0 := XB hr0; have HC0 := XB hc0; clear hr0 hc0; have HB := XB (Below.refl w.heap.size w); have H : ((diaphoneref07_Validate.f k l0).bind fun t101 => (if t101 = 0 then ((diaphoneref07_few.f k l0 930).bind fun t102 => (diaphoneref07_Residues.l0 k l0 t102 ([] : List Int) 0)) else (some (([] : List Int), t101)))) = some (r1, r2) := h; clear h; replace H := Option.bind_eq_some_iff.mp H; obtain ⟨t101, A20, H⟩ := H; replace H : (if t101 = 0 then ((diaphoneref07_few.f k l0 930).bind fun t102 => (diaphoneref07_Residues.l0 k l0 t102 ([] : List Int) 0)) else (some (([] : List Int), t101))) = some (r1, r2) := H; have A2 := XB A20; clear A20; by_cases c3 : t101 = 0
 ·rw [if_pos c3] at H; have c3b0 : (t101 == 0) = true := beq_iff_eq.mpr c3; have c3b1 : (t101 != 0) = false := bne_eq_false_iff_eq.mpr c3; clear c3; replace H := Option.bind_eq_some_iff.mp H; obtain ⟨t102, A40, H⟩ := H; replace H : (diaphoneref07_Residues.l0 k l0 t102 ([] : List Int) 0) = some (r1, r2) := H; have A4 := XB A40; clear A40; have H' := XB H; clear H; go_enter Try.func31, Try.ntmps31
  go_wp2_with (first | ((with_reducible refine gate_callee (f := 47) rfl ?_); refine goesL_ (some 10) rfl rfl Try.func47 (by kernel_rfl) rfl #[.slice A0 l0.length c0] rfl (by (try simp only [Xm, Xn, Xo]); first | done | rfl | (simp only [Xp, Xq]; rfl)) ?_; (with_reducible refine (diaphoneref07_Validate.calls k _ _ l0 t101 _ ?side1 ?side2 A2.out).mono ?_); (case side1 => repeat (first | exact HR0.out | (with_reducible refine Xr ?_ _) | (with_reducible refine Xs ?_ _) | (with_reducible refine Xt ?_))); (case side2 => exact HC0.out); rintro e w' ⟨rfl, ⟨nd, rfl⟩⟩; refine ⟨_, rfl, ?_⟩) | ((with_reducible refine gate_callee (f := 62) rfl ?_); refine goesL_ (some 15) rfl rfl Try.func62 (by kernel_rfl) rfl #[.slice A0 l0.length c0, .int .i64 930] rfl (by (try simp only [Xm, Xn, Xo]); first | done | rfl | (simp only [Xp, Xq]; rfl)) ?_; (with_reducible refine (diaphoneref07_few.calls k _ _ l0 930 t102 _ ?side1 ?side2 A4.out).mono ?_); (case side1 => repeat (first | exact HR0.out | (with_reducible refine Xr ?_ _) | (with_reducible refine Xs ?_ _) | (with_reducible refine Xt ?_))); (case side2 => exact HC0.out); rintro e w5 ⟨v103, rfl, ho0, hb⟩; refine ⟨_, rfl, ?_⟩; have n0_ := XB (Kd.R_lower ho0 (XC (by repeat (first | (with_reducible first | exact HB.out | apply Xc | apply Xa | apply Xb) | exact HB.out)))); have n1_ := XB (Xz (by repeat (first | (with_reducible first | exact HB.out | apply Xc | apply Xa | apply Xb) | exact HB.out)) hb); clear HB; have HO104 := n0_; have HB := n1_; clear n0_ n1_; (try clear hb); (try clear hb2); (try clear hk); (try clear hi); (try clear ho0)))
  go_loopg [6, 7] k (fun kq v6 v7 w' => ∃ (x6_1 : List Int) (x7_1 : Int), v7 = .int .i64 x7_1 ∧ Aside0 (diaphoneref07_Residues.l0 kq l0 t102 x6_1 x7_1 = some (r1, r2)) ∧ Aside0 (kq ≤ k) ∧ Aside0 (Kd.R (Kd.int .i64) 3 w' w.heap.size (fun k_ => some k_ ≠ (v6 : Value).ownBlock) v103 t102) ∧ Aside0 (Kd.R (Kd.int .i64) 3 w' w.heap.size (fun k_ => some k_ ≠ (v103 : Value).ownBlock) v6 x6_1) ∧ Aside0 (Below w.heap.size w w'))
  case atStart => exact ⟨(([] : List Int)), (0), (by first | rfl | (simp; done) | (simp [*]; done)), H', ⟨Nat.le_refl _⟩, ⟨by (with_reducible repeat (first | apply Xv | apply Xw | apply Xx)); exact Kd.R_mono HO104.out (fun _ hk => (by simp [Value.ownBlock]))⟩, ⟨by first | exact Kd.R_nil _ _ _ _ _ | exact Kd.N_nil _ _ _ _ _ | exact Kd.V_nil _ _ _ _ _ | exact Kd.Q_nil _ _ _ _ _ | exact Kd.S_nil _ _ _ _ _⟩, ⟨by repeat (first | (with_reducible first | exact HB.out | apply Xc | apply Xa | apply Xb) | exact HB.out)⟩⟩
  case round =>
   clear H'; try clear p2
   try clear c3
   try clear c3b0
   try clear c3b1
   try clear c4
   obtain ⟨x6_1, x7_1, rfl, HA, HK1, HO_5, HO_6, HB⟩ := hrel
   cases gk with
   | zero => exact absurd HA.out (by simp [diaphoneref07_Residues.l0])
   | succ k1 =>
    have H := HA.out; clear HA; simp only [diaphoneref07_Residues.l0] at H; by_cases c6 : 0 < (l0.length : Int)
    ·rw [if_pos c6] at H; have c6b0 : decide (0 < (l0.length : Int)) = true := decide_eq_true c6; have c6b1 : decide (0 < l0.length) = true := decide_eq_true (by omega); clear c6; by_cases c7 : x7_1 < (rd l0 0)
     ·rw [if_pos c7] at H; have c7b0 : decide (x7_1 < (rd l0 0)) = true := decide_eq_true c7; clear c7; have H' := XB H; clear H; have p105 : 0 ≤ (0 : Int) := (by omega); have q105 : 0 < (l0.length : Int) := of_decide_eq_true (by first | (with_reducible assumption) | assumption); obtain ⟨ad105, e105, hx105_0⟩ := Kd.at_int HR0.out 0 p105 q105
      cases e105
      have qi105 : (0 < l0.length) = True := eq_true (by omega); (try rw [show ((0 : Int)).toNat = 0 from rfl] at hx105_0)
      (try rw [Addr.add_zero'] at hx105_0)
      replace hx105_0 := (HB.out.cell (World.block_lt_of_cell? w _ hx105_0)).trans hx105_0; replace p105 := eq_true p105; replace q105 := eq_true q105; go_wp2
      go_loopg [8] k1 (fun kq v8 w' => ∃ (x8_2 : Int), v8 = .int .i64 x8_2 ∧ Aside0 (diaphoneref07_Residues.l1 kq l0 t102 x6_1 x7_1 x8_2 = some (r1, r2)) ∧ Aside0 (kq ≤ k1) ∧ Aside0 (Kd.R (Kd.int .i64) 3 w' w.heap.size (fun k_ => some k_ ≠ (u6 : Value).ownBlock) v103 t102) ∧ Aside0 (Kd.R (Kd.int .i64) 3 w' w.heap.size (fun k_ => some k_ ≠ (v103 : Value).ownBlock) u6 x6_1) ∧ Aside0 (Below w.heap.size w w'))
      case atStart => exact ⟨(x7_1), (by first | rfl | (simp; done) | (simp [*]; done)), H', ⟨Nat.le_refl _⟩, ⟨by (with_reducible repeat (first | apply Xv | apply Xw | apply Xx)); exact HO_5.out⟩, ⟨by (with_reducible repeat (first | apply Xv | apply Xw | apply Xx)); exact HO_6.out⟩, ⟨by repeat (first | (with_reducible first | exact HB.out | apply Xc | apply Xa | apply Xb) | exact HB.out)⟩⟩
      case round =>
       clear H'; try clear p1
       try clear q1
       try clear hx1
       try clear qi1
       try clear p2
       try clear c3
       try clear c3b0
       try clear c3b1
       try clear c4
       try clear c6
       try clear c6b0
       try clear c6b1
       try clear c7
       try clear c7b0
       try clear hx105_0
       try clear p105
       try clear p2
       try clear q105
       obtain ⟨x8_2, rfl, HA, HK2, HO_5, HO_6, HB⟩ := hrel
       cases gk with
       | zero => exact absurd HA.out (by simp [diaphoneref07_Residues.l1])
       | succ k2 =>
        have H := HA.out; clear HA; simp only [diaphoneref07_Residues.l1] at H; by_cases c8 : x8_2 < (t102.length : Int)
        ·rw [if_pos c8] at H; have c8b0 : decide (x8_2 < (t102.length : Int)) = true := decide_eq_true c8; clear c8; by_cases c9 : 0 ≤ x8_2
         ·rw [if_pos c9] at H; have c9b0 : decide (0 ≤ x8_2) = true := decide_eq_true c9; clear c9; by_cases c10 : (rd t102 x8_2) < 0
          ·rw [if_pos c10] at H; have c10b0 : decide ((rd t102 x8_2) < 0) = true := decide_eq_true c10; clear c10; by_cases c11 : 0 < (l0.length : Int)
           ·rw [if_pos c11] at H; have c11b0 : decide (0 < (l0.length : Int)) = true := decide_eq_true c11; have c11b1 : decide (0 < l0.length) = true := decide_eq_true (by omega); clear c11; have H' := XB H; clear H; obtain ⟨Ao12, co12, eo12⟩ := Kd.R_slice HO_5.out; subst eo12; have p106 : 0 ≤ (x8_2 : Int) := of_decide_eq_true (by first | (with_reducible assumption) | assumption); have q106 : x8_2 < (t102.length : Int) := of_decide_eq_true (by first | (with_reducible assumption) | assumption); obtain ⟨ad106, e106, hx106_0⟩ := Kd.at_int (XD HO_5.out).2.2 x8_2 p106 q106
            cases e106
            replace p106 := eq_true p106; replace q106 := eq_true q106; have p107 : 0 ≤ (0 : Int) := (by omega); have q107 : 0 < (l0.length : Int) := of_decide_eq_true (by first | (with_reducible assumption) | assumption); obtain ⟨ad107, e107, hx107_0⟩ := Kd.at_int HR0.out 0 p107 q107; obtain rfl : ad105 = ad107 := (by injection e107); have qi107 : (0 < l0.length) = True := eq_true (by omega); (try rw [show ((0 : Int)).toNat = 0 from rfl] at hx107_0)
            (try rw [Addr.add_zero'] at hx107_0)
            replace hx107_0 := (HB.out.cell (World.block_lt_of_cell? w _ hx107_0)).trans hx107_0; replace p107 := eq_true p107; replace q107 := eq_true q107; go_wp2
            go_roundg k2
            case measure => have := HK1.out; have := HK2.out; omega
            case rel => exact ⟨(wrap64 (x8_2 + (rd l0 0))), (by first | rfl | (simp; done) | (simp [*]; done)), H', ⟨by have := HK1.out; have := HK2.out; omega⟩, ⟨by (with_reducible repeat (first | apply Xv | apply Xw | apply Xx)); exact HO_5.out⟩, ⟨by (with_reducible repeat (first | apply Xv | apply Xw | apply Xx)); exact HO_6.out⟩, ⟨by repeat (first | (with_reducible first | exact HB.out | apply Xc | apply Xa | apply Xb) | exact HB.out)⟩⟩
           ·rw [if_neg c11] at H; exact absurd H (by simp)
          ·rw [if_neg c10] at H; have c10b0 : decide ((rd t102 x8_2) < 0) = false := decide_eq_false c10; clear c10; by_cases c13 : x8_2 ≥ (t102.length : Int)
           ·rw [if_pos c13] at H; have c13b0 : decide ((t102.length : Int) ≤ x8_2) = true := decide_eq_true c13; clear c13; by_cases c14 : x6_1.length < 17592186044416
            ·rw [if_pos c14] at H; have LMc14 := XB c14; clear c14; obtain ⟨y108, hy108⟩ : ∃ y_ : List Int, y_ = (x6_1 ++ [(-1)]) := ⟨_, rfl⟩
             replace H : (diaphoneref07_Residues.l0 k2 l0 t102 y108 (wrap64 (x7_1 + 1))) = some (r1, r2) := by first | (rw [hy108]; with_reducible exact H) | (have H2_ := (Option.bind_some _ _).symm.trans H; rw [hy108]; with_reducible exact H2_) | (have H2_ := (Option.bind_some _ _).symm.trans H; with_reducible exact H2_) | with_reducible exact H | (rw [hy108]; exact H) | exact H
             have Ny108 := XB hy108; clear hy108; have H' := XB H; clear H; obtain ⟨Ao15, co15, eo15⟩ := Kd.R_slice HO_5.out; subst eo15; have p106 : 0 ≤ (x8_2 : Int) := of_decide_eq_true (by first | (with_reducible assumption) | assumption); have q106 : x8_2 < (t102.length : Int) := of_decide_eq_true (by first | (with_reducible assumption) | assumption); obtain ⟨ad106, e106, hx106_0⟩ := Kd.at_int (XD HO_5.out).2.2 x8_2 p106 q106
             cases e106
             replace p106 := eq_true p106; replace q106 := eq_true q106; go_wp2_with (first | ((with_reducible refine gate_builtin (b := .append) (xs := #[.tmp 44, .tmp 46]) rfl ?_); at_builtin; refine Kd.R_append (Kd.int .i64) (w0 := w) w.heap.size rfl (.tmp 44) (.tmp 46) 22 3 (.int .i64 0) 8 rfl Try.underlying22 info3 rfl (by decide) (by omega) u6 x6_1 (-1) [.int .i64 (-1)] (fun k_ => some k_ ≠ (.slice (some ad106) t102.length co15 : Value).ownBlock) (fun _ => False) rfl rfl ?aP (fun _ hk => hk.elim) ?aF ?aO ?aB ?aS ?aL ?_; (case aP => exact rfl); (case aB => exact (by repeat (first | (with_reducible first | exact HB.out | apply Xc | apply Xa | apply Xb) | exact HB.out))); (case aF => exact (fun k_ hk => Kd.fresh' (Kd.R_lt (by (with_reducible repeat (first | apply Xv | apply Xw | apply Xx)); exact HO_5.out)) k_ hk)); (case aO => exact (by (with_reducible repeat (first | apply Xv | apply Xw | apply Xx)); exact HO_6.out)); (case aS => exact (XC (by repeat (first | (with_reducible first | exact HB.out | apply Xc | apply Xa | apply Xb) | exact HB.out)))); (case aL => have := LMc14.out; omega); intro v109 w16 ho hb hg hat; rw [← Ny108.out] at ho; have n0_ := XB (Kd.R_after (ok := (fun _ => True)) (by (with_reducible repeat (first | apply Xv | apply Xw | apply Xx)); exact Kd.R_mono HO_5.out (fun _ hk => ⟨trivial, hk⟩)) hg hat); have n1_ := XB (hb); have n2_ := XB (ho); clear HO_5; clear HB; clear HO_6; have HO_5 := n0_; have HB := n1_; have HO110 := n2_; clear n0_ n1_ n2_; clear ho hb hg hat))
             go_roundg k2
             case measure => have := HK1.out; have := HK2.out; omega
             case rel => exact ⟨(y108), (wrap64 (x7_1 + 1)), (by first | rfl | (simp; done) | (simp [*]; done)), H', ⟨by have := HK1.out; have := HK2.out; omega⟩, ⟨by (with_reducible repeat (first | apply Xv | apply Xw | apply Xx)); exact Kd.R_mono HO_5.out (fun _ hk => hk.2)⟩, ⟨by (with_reducible repeat (first | apply Xv | apply Xw | apply Xx)); exact HO110.out⟩, ⟨by repeat (first | (with_reducible first | exact HB.out | apply Xc | apply Xa | apply Xb) | exact HB.out)⟩⟩
            ·rw [if_neg c14] at H; exact absurd H (by simp)
           ·rw [if_neg c13] at H; have c13b0 : decide ((t102.length : Int) ≤ x8_2) = false := decide_eq_false c13; clear c13; by_cases c17 : x6_1.length < 17592186044416
            ·rw [if_pos c17] at H; have LMc17 := XB c17; clear c17; obtain ⟨y111, hy111⟩ : ∃ y_ : List Int, y_ = (x6_1 ++ [x8_2]) := ⟨_, rfl⟩
             replace H : (diaphoneref07_Residues.l0 k2 l0 t102 y111 (wrap64 (x7_1 + 1))) = some (r1, r2) := by first | (rw [hy111]; with_reducible exact H) | (have H2_ := (Option.bind_some _ _).symm.trans H; rw [hy111]; with_reducible exact H2_) | (have H2_ := (Option.bind_some _ _).symm.trans H; with_reducible exact H2_) | with_reducible exact H | (rw [hy111]; exact H) | exact H
             have Ny111 := XB hy111; clear hy111; have H' := XB H; clear H; obtain ⟨Ao18, co18, eo18⟩ := Kd.R_slice HO_5.out; subst eo18; have p106 : 0 ≤ (x8_2 : Int) := of_decide_eq_true (by first | (with_reducible assumption) | assumption); have q106 : x8_2 < (t102.length : Int) := of_decide_eq_true (by first | (with_reducible assumption) | assumption); obtain ⟨ad106, e106, hx106_0⟩ := Kd.at_int (XD HO_5.out).2.2 x8_2 p106 q106
             cases e106
             replace p106 := eq_true p106; replace q106 := eq_true q106; go_wp2_with (first | ((with_reducible refine gate_builtin (b := .append) (xs := #[.tmp 44, .tmp 46]) rfl ?_); at_builtin; refine Kd.R_append (Kd.int .i64) (w0 := w) w.heap.size rfl (.tmp 44) (.tmp 46) 22 3 (.int .i64 0) 8 rfl Try.underlying22 info3 rfl (by decide) (by omega) u6 x6_1 x8_2 [.int .i64 x8_2] (fun k_ => some k_ ≠ (.slice (some ad106) t102.length co18 : Value).ownBlock) (fun _ => False) rfl rfl ?aP (fun _ hk => hk.elim) ?aF ?aO ?aB ?aS ?aL ?_; (case aP => exact rfl); (case aB => exact (by repeat (first | (with_reducible first | exact HB.out | apply Xc | apply Xa | apply Xb) | exact HB.out))); (case aF => exact (fun k_ hk => Kd.fresh' (Kd.R_lt (by (with_reducible repeat (first | apply Xv | apply Xw | apply Xx)); exact HO_5.out)) k_ hk)); (case aO => exact (by (with_reducible repeat (first | apply Xv | apply Xw | apply Xx)); exact HO_6.out)); (case aS => exact (XC (by repeat (first | (with_reducible first | exact HB.out | apply Xc | apply Xa | apply Xb) | exact HB.out)))); (case aL => have := LMc17.out; omega); intro v112 w19 ho hb hg hat; rw [← Ny111.out] at ho; have n0_ := XB (Kd.R_after (ok := (fun _ => True)) (by (with_reducible repeat (first | apply Xv | apply Xw | apply Xx)); exact Kd.R_mono HO_5.out (fun _ hk => ⟨trivial, hk⟩)) hg hat); have n1_ := XB (hb); have n2_ := XB (ho); clear HO_5; clear HB; clear HO_6; have HO_5 := n0_; have HB := n1_; have HO113 := n2_; clear n0_ n1_ n2_; clear ho hb hg hat))
             go_roundg k2
             case measure => have := HK1.out; have := HK2.out; omega
             case rel => exact ⟨(y111), (wrap64 (x7_1 + 1)), (by first | rfl | (simp; done) | (simp [*]; done)), H', ⟨by have := HK1.out; have := HK2.out; omega⟩, ⟨by (with_reducible repeat (first | apply Xv | apply Xw | apply Xx)); exact Kd.R_mono HO_5.out (fun _ hk => hk.2)⟩, ⟨by (with_reducible repeat (first | apply Xv | apply Xw | apply Xx)); exact HO113.out⟩, ⟨by repeat (first | (with_reducible first | exact HB.out | apply Xc | apply Xa | apply Xb) | exact HB.out)⟩⟩
            ·rw [if_neg c17] at H; exact absurd H (by simp)
         ·rw [if_neg c9] at H; exact absurd H (by simp)
        ·rw [if_neg c8] at H; have c8b0 : decide (x8_2 < (t102.length : Int)) = false := decide_eq_false c8; clear c8; by_cases c20 : x8_2 ≥ (t102.length : Int)
         ·rw [if_pos c20] at H; have c20b0 : decide ((t102.length : Int) ≤ x8_2) = true := decide_eq_true c20; clear c20; by_cases c21 : x6_1.length < 17592186044416
          ·rw [if_pos c21] at H; have LMc21 := XB c21; clear c21; obtain ⟨y114, hy114⟩ : ∃ y_ : List Int, y_ = (x6_1 ++ [(-1)]) := ⟨_, rfl⟩
           replace H : (diaphoneref07_Residues.l0 k2 l0 t102 y114 (wrap64 (x7_1 + 1))) = some (r1, r2) := by first | (rw [hy114]; with_reducible exact H) | (have H2_ := (Option.bind_some _ _).symm.trans H; rw [hy114]; with_reducible exact H2_) | (have H2_ := (Option.bind_some _ _).symm.trans H; with_reducible exact H2_) | with_reducible exact H | (rw [hy114]; exact H) | exact H
           have Ny114 := XB hy114; clear hy114; have H' := XB H; clear H; obtain ⟨Ao22, co22, eo22⟩ := Kd.R_slice HO_5.out; subst eo22; go_wp2_with (first | ((with_reducible refine gate_builtin (b := .append) (xs := #[.tmp 44, .tmp 46]) rfl ?_); at_builtin; refine Kd.R_append (Kd.int .i64) (w0 := w) w.heap.size rfl (.tmp 44) (.tmp 46) 22 3 (.int .i64 0) 8 rfl Try.underlying22 info3 rfl (by decide) (by omega) u6 x6_1 (-1) [.int .i64 (-1)] (fun k_ => some k_ ≠ (.slice Ao22 t102.length co22 : Value).ownBlock) (fun _ => False) rfl rfl ?aP (fun _ hk => hk.elim) ?aF ?aO ?aB ?aS ?aL ?_; (case aP => exact rfl); (case aB => exact (by repeat (first | (with_reducible first | exact HB.out | apply Xc | apply Xa | apply Xb) | exact HB.out))); (case aF => exact (fun k_ hk => Kd.fresh' (Kd.R_lt (by (with_reducible repeat (first | apply Xv | apply Xw | apply Xx)); exact HO_5.out)) k_ hk)); (case aO => exact (by (with_reducible repeat (first | apply Xv | apply Xw | apply Xx)); exact HO_6.out)); (case aS => exact (XC (by repeat (first | (with_reducible first | exact HB.out | apply Xc | apply Xa | apply Xb) | exact HB.out)))); (case aL => have := LMc21.out; omega); intro v115 w23 ho hb hg hat; rw [← Ny114.out] at ho; have n0_ := XB (Kd.R_after (ok := (fun _ => True)) (by (with_reducible repeat (first | apply Xv | apply Xw | apply Xx)); exact Kd.R_mono HO_5.out (fun _ hk => ⟨trivial, hk⟩)) hg hat); have n1_ := XB (hb); have n2_ := XB (ho); clear HO_5; clear HB; clear HO_6; have HO_5 := n0_; have HB := n1_; have HO116 := n2_; clear n0_ n1_ n2_; clear ho hb hg hat))
           go_roundg k2
           case measure => have := HK1.out; have := HK2.out; omega
           case rel => exact ⟨(y114), (wrap64 (x7_1 + 1)), (by first | rfl | (simp; done) | (simp [*]; done)), H', ⟨by have := HK1.out; have := HK2.out; omega⟩, ⟨by (with_reducible repeat (first | apply Xv | apply Xw | apply Xx)); exact Kd.R_mono HO_5.out (fun _ hk => hk.2)⟩, ⟨by (with_reducible repeat (first | apply Xv | apply Xw | apply Xx)); exact HO116.out⟩, ⟨by repeat (first | (with_reducible first | exact HB.out | apply Xc | apply Xa | apply Xb) | exact HB.out)⟩⟩
          ·rw [if_neg c21] at H; exact absurd H (by simp)
         ·rw [if_neg c20] at H; have c20b0 : decide ((t102.length : Int) ≤ x8_2) = false := decide_eq_false c20; clear c20; by_cases c24 : x6_1.length < 17592186044416
          ·rw [if_pos c24] at H; have LMc24 := XB c24; clear c24; obtain ⟨y117, hy117⟩ : ∃ y_ : List Int, y_ = (x6_1 ++ [x8_2]) := ⟨_, rfl⟩
           replace H : (diaphoneref07_Residues.l0 k2 l0 t102 y117 (wrap64 (x7_1 + 1))) = some (r1, r2) := by first | (rw [hy117]; with_reducible exact H) | (have H2_ := (Option.bind_some _ _).symm.trans H; rw [hy117]; with_reducible exact H2_) | (have H2_ := (Option.bind_some _ _).symm.trans H; with_reducible exact H2_) | with_reducible exact H | (rw [hy117]; exact H) | exact H
           have Ny117 := XB hy117; clear hy117; have H' := XB H; clear H; obtain ⟨Ao25, co25, eo25⟩ := Kd.R_slice HO_5.out; subst eo25; go_wp2_with (first | ((with_reducible refine gate_builtin (b := .append) (xs := #[.tmp 44, .tmp 46]) rfl ?_); at_builtin; refine Kd.R_append (Kd.int .i64) (w0 := w) w.heap.size rfl (.tmp 44) (.tmp 46) 22 3 (.int .i64 0) 8 rfl Try.underlying22 info3 rfl (by decide) (by omega) u6 x6_1 x8_2 [.int .i64 x8_2] (fun k_ => some k_ ≠ (.slice Ao25 t102.length co25 : Value).ownBlock) (fun _ => False) rfl rfl ?aP (fun _ hk => hk.elim) ?aF ?aO ?aB ?aS ?aL ?_; (case aP => exact rfl); (case aB => exact (by repeat (first | (with_reducible first | exact HB.out | apply Xc | apply Xa | apply Xb) | exact HB.out))); (case aF => exact (fun k_ hk => Kd.fresh' (Kd.R_lt (by (with_reducible repeat (first | apply Xv | apply Xw | apply Xx)); exact HO_5.out)) k_ hk)); (case aO => exact (by (with_reducible repeat (first | apply Xv | apply Xw | apply Xx)); exact HO_6.out)); (case aS => exact (XC (by repeat (first | (with_reducible first | exact HB.out | apply Xc | apply Xa | apply Xb) | exact HB.out)))); (case aL => have := LMc24.out; omega); intro v118 w26 ho hb hg hat; rw [← Ny117.out] at ho; have n0_ := XB (Kd.R_after (ok := (fun _ => True)) (by (with_reducible repeat (first | apply Xv | apply Xw | apply Xx)); exact Kd.R_mono HO_5.out (fun _ hk => ⟨trivial, hk⟩)) hg hat); have n1_ := XB (hb); have n2_ := XB (ho); clear HO_5; clear HB; clear HO_6; have HO_5 := n0_; have HB := n1_; have HO119 := n2_; clear n0_ n1_ n2_; clear ho hb hg hat))
           go_roundg k2
           case measure => have := HK1.out; have := HK2.out; omega
           case rel => exact ⟨(y117), (wrap64 (x7_1 + 1)), (by first | rfl | (simp; done) | (simp [*]; done)), H', ⟨by have := HK1.out; have := HK2.out; omega⟩, ⟨by (with_reducible repeat (first | apply Xv | apply Xw | apply Xx)); exact Kd.R_mono HO_5.out (fun _ hk => hk.2)⟩, ⟨by (with_reducible repeat (first | apply Xv | apply Xw | apply Xx)); exact HO119.out⟩, ⟨by repeat (first | (with_reducible first | exact HB.out | apply Xc | apply Xa | apply Xb) | exact HB.out)⟩⟩
          ·rw [if_neg c24] at H; exact absurd H (by simp)
     ·rw [if_neg c7] at H; have c7b0 : decide (x7_1 < (rd l0 0)) = false := decide_eq_false c7; clear c7; simp only [Option.some.injEq, Prod.mk.injEq] at H; obtain ⟨rfl, rfl⟩ := H; have p105 : 0 ≤ (0 : Int) := (by omega); have q105 : 0 < (l0.length : Int) := of_decide_eq_true (by first | (with_reducible assumption) | assumption); obtain ⟨ad105, e105, hx105_0⟩ := Kd.at_int HR0.out 0 p105 q105
      cases e105
      have qi105 : (0 < l0.length) = True := eq_true (by omega); (try rw [show ((0 : Int)).toNat = 0 from rfl] at hx105_0)
      (try rw [Addr.add_zero'] at hx105_0)
      replace hx105_0 := (HB.out.cell (World.block_lt_of_cell? w _ hx105_0)).trans hx105_0; replace p105 := eq_true p105; replace q105 := eq_true q105; go_wp2
      go_ret2
      exact ⟨_, by first | rfl | (simp [errW_none, errW_some] <;> rfl) | (simp [*, errW_none, errW_some] <;> rfl), by (with_reducible repeat (first | apply Xv | apply Xw | apply Xx)); exact Kd.R_mono HO_6.out (fun _ hk => trivial), by repeat (first | (with_reducible first | exact HB.out | apply Xc | apply Xa | apply Xb) | exact HB.out)⟩
    ·rw [if_neg c6] at H; exact absurd H (by simp)
 ·rw [if_neg c3] at H; have c3b0 : (t101 == 0) = false := beq_eq_false_iff_ne.mpr c3; have c3b1 : (t101 != 0) = true := bne_iff_ne.mpr c3; simp only [Option.some.injEq, Prod.mk.injEq] at H; obtain ⟨rfl, rfl⟩ := H; go_enter Try.func31, Try.ntmps31
  go_wp2_with (first | ((with_reducible refine gate_callee (f := 47) rfl ?_); refine goesL_ (some 10) rfl rfl Try.func47 (by kernel_rfl) rfl #[.slice A0 l0.length c0] rfl (by (try simp only [Xm, Xn, Xo]); first | done | rfl | (simp only [Xp, Xq]; rfl)) ?_; (with_reducible refine (diaphoneref07_Validate.calls k _ _ l0 t101 _ ?side1 ?side2 A2.out).mono ?_); (case side1 => repeat (first | exact HR0.out | (with_reducible refine Xr ?_ _) | (with_reducible refine Xs ?_ _) | (with_reducible refine Xt ?_))); (case side2 => exact HC0.out); rintro e w' ⟨rfl, ⟨nd, rfl⟩⟩; refine ⟨_, rfl, ?_⟩))
  go_ret2
  exact ⟨_, by first | rfl | (simp [errW_none, errW_some] <;> rfl) | (simp [*, errW_none, errW_some] <;> rfl), by first | exact Kd.R_nil _ _ _ _ _ | exact Kd.N_nil _ _ _ _ _ | exact Kd.V_nil _ _ _ _ _ | exact Kd.Q_nil _ _ _ _ _ | exact Kd.S_nil _ _ _ _ _, by repeat (first | (with_reducible first | exact HB.out | apply Xc | apply Xa | apply Xb) | exact HB.out)⟩

end Go.Proofs.Ytgndhijhcliegaa.P
