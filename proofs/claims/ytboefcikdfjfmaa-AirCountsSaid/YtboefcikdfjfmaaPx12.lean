-- laid by a program of this session (wip/tools): plain functions of the Go code and their contracts
-- thinned
import Derived.Test.YtboefcikdfjfmaaPx0
import Derived.Test.YtboefcikdfjfmaaPx11
namespace Go.Proofs.Ytboefcikdfjfmaa.P
open Go.RowKit Go.Proofs.YtboefcikdfjfmaaW.PrintWords Go.Proofs.YtboefcikdfjfmaaW.PrintLast Go.Proofs.YtboefcikdfjfmaaW.PrintMore
attribute [local go_sem] max2_int min2_int max_two min_two max_three min_three max_four min_four   -- for this text's walks alone
set_option linter.unusedVariables false
set_option linter.unusedSimpArgs false

/-! ### diaphoneref03_at: function 83 -/
mutual
def diaphoneref03_at.l0 : Nat → Int → List Int → Int → Int → Int → List Int → List Int → Option (List Int × Bool)
 | 0, _, _, _, _, _, _, _ => none
 | k + 1, x1, x6, x7, x102000, x102001, x102002, x102003 => if x7 < (x102003.length : Int) then (if 0 ≤ x7 then (if (rd x102003 x7) = 0 then (diaphoneref03_at.l0 k x1 x6 (wrap64 (x7 + 1)) x102000 x102001 x102002 x102003) else (diaphoneref03_at.l1 k x1 x6 x7 (-1) 0 x102000 x102001 x102002 x102003)) else (none)) else (some (x6, true))
def diaphoneref03_at.l1 : Nat → Int → List Int → Int → Int → Int → Int → Int → List Int → List Int → Option (List Int × Bool)
 | 0, _, _, _, _, _, _, _, _, _ => none
 | k + 1, x1, x6, x7, x8, x9, x102000, x102001, x102002, x102003 => if x9 ≤ x7 then (if 0 ≤ (IntKind.u64.wrap (x9)) then (if (Go.bits .and .i64 (shr .i64 x1 (IntKind.u64.wrap (x9))) 1) = 1 then (if x8 < 0 then (diaphoneref03_at.l1 k x1 x6 x7 x9 (wrap64 (x9 + 1)) x102000 x102001 x102002 x102003) else ((diaphoneref03_way.f x102000 x102001 x102002 x102003 x9 x7).bind fun t109 => ((diaphoneref03_way.f x102000 x102001 x102002 x102003 x8 x7).bind fun t110 => (if t109 < t110 then (diaphoneref03_at.l1 k x1 x6 x7 x9 (wrap64 (x9 + 1)) x102000 x102001 x102002 x102003) else (diaphoneref03_at.l1 k x1 x6 x7 x8 (wrap64 (x9 + 1)) x102000 x102001 x102002 x102003))))) else (diaphoneref03_at.l1 k x1 x6 x7 x8 (wrap64 (x9 + 1)) x102000 x102001 x102002 x102003)) else (none)) else (if x8 < 0 then (some (([] : List Int), false)) else (if 0 ≤ x8 then (if x8 < (x6.length : Int) then (if 0 ≤ x7 then (if x7 < (x102003.length : Int) then (diaphoneref03_at.l0 k x1 (x6.set (x8 : Int).toNat (wrap64 ((rd x6 x8) + (rd x102003 x7)))) (wrap64 (x7 + 1)) x102000 x102001 x102002 x102003) else (none)) else (none)) else (none)) else (none)))
end
def diaphoneref03_at.f (k : Nat) (a0_0 : Int) (a0_1 : Int) (l0_2 : List Int) (l0_3 : List Int) (a1 : Int) : Option (List Int × Bool) := if 0 ≤ (l0_3.length : Int) then (if ((l0_3.length : Int) : Int).toNat ≤ 35184372088832 then (diaphoneref03_at.l0 k a1 (List.replicate ((l0_3.length : Int) : Int).toNat 0) 0 a0_0 a0_1 l0_2 l0_3) else (none)) else (none)
theorem diaphoneref03_at.mono_l : ∀ k, (∀ y0 y1 y2 y3 y4 y5 y6, LeO (diaphoneref03_at.l0 k y0 y1 y2 y3 y4 y5 y6) (diaphoneref03_at.l0 (k + 1) y0 y1 y2 y3 y4 y5 y6)) ∧ (∀ y0 y1 y2 y3 y4 y5 y6 y7 y8, LeO (diaphoneref03_at.l1 k y0 y1 y2 y3 y4 y5 y6 y7 y8) (diaphoneref03_at.l1 (k + 1) y0 y1 y2 y3 y4 y5 y6 y7 y8))
 | 0 => ⟨fun _ _ _ _ _ _ _ r h => by simp [diaphoneref03_at.l0] at h, fun _ _ _ _ _ _ _ _ _ r h => by simp [diaphoneref03_at.l1] at h⟩
 | k + 1 => by
  obtain ⟨ih0, ih1⟩ := diaphoneref03_at.mono_l k; refine ⟨?_, ?_⟩
  ·intro y0 y1 y2 y3 y4 y5 y6; unfold diaphoneref03_at.l0; repeat' first
   | (with_reducible exact ih0 _ _ _ _ _ _ _)
   | (with_reducible exact ih1 _ _ _ _ _ _ _ _ _)
   | (with_reducible exact LeO.refl _)
   | (with_reducible exact LeO.none _)
   | (with_reducible refine LeO.ite ?_ ?_)
   | (with_reducible refine LeO.bind ?_ (fun _ => ?_))
   | exact ih0 _ _ _ _ _ _ _
   | exact ih1 _ _ _ _ _ _ _ _ _
   | exact LeO.none _
   | refine LeO.ite ?_ ?_
   | refine LeO.bind ?_ (fun _ => ?_)
  ·intro y0 y1 y2 y3 y4 y5 y6 y7 y8; unfold diaphoneref03_at.l1; repeat' first
   | (with_reducible exact ih0 _ _ _ _ _ _ _)
   | (with_reducible exact ih1 _ _ _ _ _ _ _ _ _)
   | (with_reducible exact LeO.refl _)
   | (with_reducible exact LeO.none _)
   | (with_reducible refine LeO.ite ?_ ?_)
   | (with_reducible refine LeO.bind ?_ (fun _ => ?_))
   | exact ih0 _ _ _ _ _ _ _
   | exact ih1 _ _ _ _ _ _ _ _ _
   | exact LeO.none _
   | refine LeO.ite ?_ ?_
   | refine LeO.bind ?_ (fun _ => ?_)
theorem diaphoneref03_at.mono : ∀ a0 a1 a2 a3 a4 k, LeO (diaphoneref03_at.f k a0 a1 a2 a3 a4) (diaphoneref03_at.f (k + 1) a0 a1 a2 a3 a4) := by
 intro a0 a1 a2 a3 a4 k; obtain ⟨ih0, ih1⟩ := diaphoneref03_at.mono_l k; unfold diaphoneref03_at.f; repeat' first
   | (with_reducible exact ih0 _ _ _ _ _ _ _)
   | (with_reducible exact ih1 _ _ _ _ _ _ _ _ _)
   | (with_reducible exact LeO.refl _)
   | (with_reducible exact LeO.none _)
   | (with_reducible refine LeO.ite ?_ ?_)
   | (with_reducible refine LeO.bind ?_ (fun _ => ?_))
   | exact ih0 _ _ _ _ _ _ _
   | exact ih1 _ _ _ _ _ _ _ _ _
   | exact LeO.none _
   | refine LeO.ite ?_ ?_
   | refine LeO.bind ?_ (fun _ => ?_)
def diaphoneref03_at.T10 : Bool × List (List Nat × List Nat) := (true, [([], []), ([], []), ([1], [1]), ([0, 2], [0, 2]), ([3], [3]), ([4], [4]), ([5], [5]), ([6], [6]), ([7, 6], [6, 7]), ([8, 6, 6], [6, 8]), ([9], [9]), ([9], [9]), ([9], [9]), ([10, 11, 12, 9, 9], [9, 10, 11, 12]), ([9], [9]), ([9], [9]), ([9], [9]), ([14, 15, 16, 13, 9], [9, 14, 15, 16]), ([13, 17, 9], [9, 13, 17]), ([9, 18, 6], [6, 9, 18]), ([6, 19], [6, 19])])
def diaphoneref03_at.B10 : List Nat := [0, 0, 2, 7, 15, 31, 63, 127, 255, 511, 1023, 1023, 1023, 8191, 1023, 1023, 1023, 131071, 262143, 524287, 1048575]
theorem diaphoneref03_at.tab10 : rtab .any (opsOf Try.f83 10) = diaphoneref03_at.T10 := by kernel_rfl
theorem diaphoneref03_at.bits10 : waitsOk diaphoneref03_at.T10.2 diaphoneref03_at.B10 = true := by kernel_rfl
def diaphoneref03_at.T14 : Bool × List (List Nat × List Nat) := (true, [([], []), ([], []), ([0, 1], [0, 1]), ([2], [2]), ([], []), ([4], [4]), ([], []), ([5, 6], [5, 6]), ([7], [7]), ([3, 8], [3, 8]), ([0, 1, 0, 1, 2, 3, 4, 5, 6, 7, 8, 9], [0, 1]), ([10, 9, 0, 1, 2, 3, 4, 5, 6, 7, 8, 9], [9, 10])])
def diaphoneref03_at.B14 : List Nat := [0, 0, 3, 7, 0, 16, 0, 112, 240, 511, 1023, 2047]
theorem diaphoneref03_at.tab14 : rtab .any (opsOf Try.f83 14) = diaphoneref03_at.T14 := by kernel_rfl
theorem diaphoneref03_at.bits14 : waitsOk diaphoneref03_at.T14.2 diaphoneref03_at.B14 = true := by kernel_rfl
set_option maxHeartbeats 8000000 in
set_option maxRecDepth 100000 in
theorem diaphoneref03_at.calls (k : Nat) (a0_0 : Int) (a0_1 : Int) (A0_2 : Option Addr) (c0_2 : Nat) (l0_2 : List Int) (A0_3 : Option Addr) (c0_3 : Nat) (l0_3 : List Int) (a1 : Int) (r1 : List Int) (r2 : Bool) (w : World) (hr0_2 : Kd.C (Kd.int .i64) w A0_2 l0_2.length l0_2) (hc0_2 : l0_2.length ≤ c0_2) (hr0_3 : Kd.C (Kd.int .i64) w A0_3 l0_3.length l0_3) (hc0_3 : l0_3.length ≤ c0_3) (h : diaphoneref03_at.f k a0_0 a0_1 l0_2 l0_3 a1 = some (r1, r2)) :
  Calls Try.prog 83 #[.agg #[.int .i64 a0_0, .int .i64 a0_1, .slice A0_2 l0_2.length c0_2, .slice A0_3 l0_3.length c0_3], .int .i64 a1] w fun e w' => ∃ v0_ : Value, e = .returned (.tuple #[v0_, .bool r2]) ∧ Kd.R (Kd.int .i64) 3 w' w.heap.size (fun _ => True) v0_ r1 ∧ Below w.heap.size w w' := by
 have hu24 := Try.underlying24; have HR0_2 := XB hr0_2; have HC0_2 := XB hc0_2; clear hr0_2 hc0_2; have HR0_3 := XB hr0_3; have HC0_3 := XB hc0_3; clear hr0_3 hc0_3; have HB := XB (Below.refl w.heap.size w); have H : (if 0 ≤ (l0_3.length : Int) then (if ((l0_3.length : Int) : Int).toNat ≤ 35184372088832 then (diaphoneref03_at.l0 k a1 (List.replicate ((l0_3.length : Int) : Int).toNat 0) 0 a0_0 a0_1 l0_2 l0_3) else (none)) else (none)) = some (r1, r2) := h; clear h; by_cases c3 : 0 ≤ (l0_3.length : Int)
 ·rw [if_pos c3] at H; have c3b0 := eq_true c3; have c3b1 : decide (0 ≤ (l0_3.length : Int)) = true := decide_eq_true c3; clear c3; by_cases c4 : ((l0_3.length : Int) : Int).toNat ≤ 35184372088832
  ·rw [if_pos c4] at H; have c4b0 := eq_true c4; have c4b1 : decide (((l0_3.length : Int) : Int).toNat ≤ 35184372088832) = true := decide_eq_true c4; clear c4; obtain ⟨y102, hy102⟩ : ∃ y_ : List Int, y_ = (List.replicate ((l0_3.length : Int) : Int).toNat 0) := ⟨_, rfl⟩
   replace H : (diaphoneref03_at.l0 k a1 y102 0 a0_0 a0_1 l0_2 l0_3) = some (r1, r2) := by first | (rw [hy102]; with_reducible exact H) | (have H2_ := (Option.bind_some _ _).symm.trans H; rw [hy102]; with_reducible exact H2_) | (have H2_ := (Option.bind_some _ _).symm.trans H; with_reducible exact H2_) | with_reducible exact H | (rw [hy102]; exact H) | exact H
   have Ny102 := XB hy102; clear hy102; have H' := XB H; clear H; go_enter Try.func83, Try.ntmps83
   go_wp2_with (first | ((with_reducible refine gate_dst (N := 2) rfl ?_); refine box_event ?hg (N := 2) ?hd (cs := #[.int .i64 a0_0, .int .i64 a0_1, .slice A0_2 l0_2.length c0_2, .slice A0_3 l0_3.length c0_3]) (t := 24) ?hr ?_; (case hd => rfl); (case hg => rfl); (case hr => first | (go_simp; done) | (go_simp; rfl)); intro gb101 hg w5 hbox hb; have n0_ := XB (Xz (by repeat (first | (with_reducible first | exact HB.out | apply Xc | apply Xa | apply Xb) | exact HB.out)) hb); have n1_ := XB (hbox); have n2_ := XB ((by rw [hg]; exact (XC (by repeat (first | (with_reducible first | exact HB.out | apply Xc | apply Xa | apply Xb) | exact HB.out))) : w.heap.size ≤ gb101)); have n3_ := XB ((by rw [hg]; exact (XC (by repeat (first | (with_reducible first | exact HB.out | apply Xc | apply Xa | apply Xb) | exact HB.out))) : w.heap.size ≤ gb101)); clear HB; have HB := n0_; have J101 := n1_; have GW101 := n2_; have E101 := n3_; clear n0_ n1_ n2_ n3_; clear hb hbox hg; have hcz6_0 : w5.cell? ⟨gb101, 0, none⟩ = some (.int .i64 a0_0) := (Xi J101.out 0).trans rfl; have hcz6_1 : w5.cell? ⟨gb101, 1, none⟩ = some (.int .i64 a0_1) := (Xi J101.out 1).trans rfl; have hcz6_2 : w5.cell? ⟨gb101, 2, none⟩ = some (.slice A0_2 l0_2.length c0_2) := (Xi J101.out 2).trans rfl; have hcz6_3 : w5.cell? ⟨gb101, 3, none⟩ = some (.slice A0_3 l0_3.length c0_3) := (Xi J101.out 3).trans rfl; have hfz6_0 := Xh J101.out 0; have hfz6_1 := Xh J101.out 1; have hfz6_2 := Xh J101.out 2; have hfz6_3 := Xh J101.out 3) | ((with_reducible refine gate_dst (N := 13) rfl ?_); refine Kd.R_make (Kd.int .i64) _ 3 rfl (N := 13) rfl 22 _ _ rfl (l0_3.length : Int) rfl rfl Try.underlying22 (.int .i64 0) 8 info3 rfl (by decide) (by omega) 0 (ok := fun _ => True) (okp := fun _ => True) rfl (fun _ hk => hk) trivial (of_decide_eq_true (by first | (with_reducible assumption) | assumption)) (Nat.le_trans (Nat.mul_le_mul_right _ (of_decide_eq_true (by first | (with_reducible assumption) | assumption) : (l0_3.length : Int).toNat ≤ 35184372088832)) (by omega)) (Below.refl _ _) (Nat.le_refl _) ?_; intro v103 w7 ho8 hb hg_ hnew_; clear hg_ hnew_; (first | rw [← Ny102.out] at ho8 | (simp only [Int.reduceToNat] at ho8; rw [← Ny102.out] at ho8)); have n0_ := XB (Kd.R_lower ho8 (XC (by repeat (first | (with_reducible first | exact HB.out | apply Xc | apply Xa | apply Xb | refine Xd ?_ E101.out) | exact HB.out)))); have n1_ := XB (XA (g := gb101) (o := .cells #[.int .i64 a0_0, .int .i64 a0_1, .slice A0_2 l0_2.length c0_2, .slice A0_3 l0_3.length c0_3] 24 (0, 0)) (by (with_reducible repeat (first | refine Xf ?_ _ | refine Xg ?_ | refine Xe ?_ _)); exact J101.out) hb); have n2_ := XB (Xz (by repeat (first | (with_reducible first | exact HB.out | apply Xc | apply Xa | apply Xb | refine Xd ?_ E101.out) | exact HB.out)) hb); clear J101; clear HB; have HO104 := n0_; have J101 := n1_; have HB := n2_; clear n0_ n1_ n2_; clear hb ho8))
   go_loopg [7] k (fun kq v7 w' => ∃ (x6_1 : List Int) (x7_1 : Int), v7 = .int .i64 x7_1 ∧ Aside0 (diaphoneref03_at.l0 kq a1 x6_1 x7_1 a0_0 a0_1 l0_2 l0_3 = some (r1, r2)) ∧ Aside0 (kq ≤ k) ∧ Aside0 (Kd.R (Kd.int .i64) 3 w' w.heap.size (fun _ => True) v103 x6_1) ∧ Aside0 (w'.heap[gb101]? = some (.cells #[.int .i64 a0_0, .int .i64 a0_1, (.slice A0_2 l0_2.length c0_2), (.slice A0_3 l0_3.length c0_3)] 24 (0, 0))) ∧ Aside0 (Below w.heap.size w w'))
   case atStart => exact ⟨(y102), (0), (by first | rfl | (simp; done) | (simp [*]; done)), H', ⟨Nat.le_refl _⟩, ⟨by (with_reducible repeat (first | apply Xv | apply Xw | apply Xx)); exact HO104.out⟩, ⟨by (with_reducible repeat (first | refine Xf ?_ _ | refine Xg ?_ | refine Xe ?_ _)); exact J101.out⟩, ⟨by repeat (first | (with_reducible first | exact HB.out | apply Xc | apply Xa | apply Xb | refine Xd ?_ E101.out) | exact HB.out)⟩⟩
   case round =>
    clear H'; try clear p2
    try clear c3
    try clear c3b0
    try clear c3b1
    try clear c4
    try clear c4b0
    try clear c4b1
    try clear c8
    try clear hcz6_0
    try clear hcz6_1
    try clear hcz6_2
    try clear hcz6_3
    try clear hfz6_0
    try clear hfz6_1
    try clear hfz6_2
    try clear hfz6_3
    obtain ⟨x6_1, x7_1, rfl, HA, HK1, HO_6, J101, HB⟩ := hrel
    cases gk with
    | zero => exact absurd HA.out (by simp [diaphoneref03_at.l0])
    | succ k1 =>
     have H := HA.out; clear HA; simp only [diaphoneref03_at.l0] at H; by_cases c9 : x7_1 < (l0_3.length : Int)
     ·rw [if_pos c9] at H; have c9b0 : decide (x7_1 < (l0_3.length : Int)) = true := decide_eq_true c9; clear c9; by_cases c10 : 0 ≤ x7_1
      ·rw [if_pos c10] at H; have c10b0 : decide (0 ≤ x7_1) = true := decide_eq_true c10; clear c10; by_cases c11 : (rd l0_3 x7_1) = 0
       ·rw [if_pos c11] at H; have c11b0 : ((rd l0_3 x7_1) == 0) = true := beq_iff_eq.mpr c11; have c11b1 : ((rd l0_3 x7_1) != 0) = false := bne_eq_false_iff_eq.mpr c11; clear c11; have H' := XB H; clear H; have hcz12_0 : wr.cell? ⟨gb101, 0, none⟩ = some (.int .i64 a0_0) := (Xi J101.out 0).trans rfl; have hcz12_1 : wr.cell? ⟨gb101, 1, none⟩ = some (.int .i64 a0_1) := (Xi J101.out 1).trans rfl; have hcz12_2 : wr.cell? ⟨gb101, 2, none⟩ = some (.slice A0_2 l0_2.length c0_2) := (Xi J101.out 2).trans rfl; have hcz12_3 : wr.cell? ⟨gb101, 3, none⟩ = some (.slice A0_3 l0_3.length c0_3) := (Xi J101.out 3).trans rfl; have hfz12_0 := Xh J101.out 0; have hfz12_1 := Xh J101.out 1; have hfz12_2 := Xh J101.out 2; have hfz12_3 := Xh J101.out 3; have p105 : 0 ≤ (x7_1 : Int) := of_decide_eq_true (by first | (with_reducible assumption) | assumption); have q105 : x7_1 < (l0_3.length : Int) := of_decide_eq_true (by first | (with_reducible assumption) | assumption); obtain ⟨ad105, e105, hx105_0⟩ := Kd.at_int HR0_3.out x7_1 p105 q105
        cases e105
        replace hx105_0 := (HB.out.cell (World.block_lt_of_cell? w _ hx105_0)).trans hx105_0; replace p105 := eq_true p105; replace q105 := eq_true q105; go_wp2
        go_roundg k1
        case measure => have := HK1.out; omega
        case rel => exact ⟨(x6_1), (wrap64 (x7_1 + 1)), (by first | rfl | (simp; done) | (simp [*]; done)), H', ⟨by have := HK1.out; omega⟩, ⟨by (with_reducible repeat (first | apply Xv | apply Xw | apply Xx)); exact HO_6.out⟩, ⟨by (with_reducible repeat (first | refine Xf ?_ _ | refine Xg ?_ | refine Xe ?_ _)); exact J101.out⟩, ⟨by repeat (first | (with_reducible first | exact HB.out | apply Xc | apply Xa | apply Xb | refine Xd ?_ E101.out) | exact HB.out)⟩⟩
       ·rw [if_neg c11] at H; have c11b0 : ((rd l0_3 x7_1) == 0) = false := beq_eq_false_iff_ne.mpr c11; have c11b1 : ((rd l0_3 x7_1) != 0) = true := bne_iff_ne.mpr c11; have H' := XB H; clear H; have hcz13_0 : wr.cell? ⟨gb101, 0, none⟩ = some (.int .i64 a0_0) := (Xi J101.out 0).trans rfl; have hcz13_1 : wr.cell? ⟨gb101, 1, none⟩ = some (.int .i64 a0_1) := (Xi J101.out 1).trans rfl; have hcz13_2 : wr.cell? ⟨gb101, 2, none⟩ = some (.slice A0_2 l0_2.length c0_2) := (Xi J101.out 2).trans rfl; have hcz13_3 : wr.cell? ⟨gb101, 3, none⟩ = some (.slice A0_3 l0_3.length c0_3) := (Xi J101.out 3).trans rfl; have hfz13_0 := Xh J101.out 0; have hfz13_1 := Xh J101.out 1; have hfz13_2 := Xh J101.out 2; have hfz13_3 := Xh J101.out 3; have p105 : 0 ≤ (x7_1 : Int) := of_decide_eq_true (by first | (with_reducible assumption) | assumption); have q105 : x7_1 < (l0_3.length : Int) := of_decide_eq_true (by first | (with_reducible assumption) | assumption); obtain ⟨ad105, e105, hx105_0⟩ := Kd.at_int HR0_3.out x7_1 p105 q105
        cases e105
        replace hx105_0 := (HB.out.cell (World.block_lt_of_cell? w _ hx105_0)).trans hx105_0; replace p105 := eq_true p105; replace q105 := eq_true q105; go_wp2
        go_loopg [8, 9] k1 (fun kq v8 v9 w' => ∃ (x8_2 : Int) (x9_2 : Int), v8 = .int .i64 x8_2 ∧ v9 = .int .i64 x9_2 ∧ Aside0 (diaphoneref03_at.l1 kq a1 x6_1 x7_1 x8_2 x9_2 a0_0 a0_1 l0_2 l0_3 = some (r1, r2)) ∧ Aside0 (kq ≤ k1) ∧ Aside0 (Kd.R (Kd.int .i64) 3 w' w.heap.size (fun _ => True) v103 x6_1) ∧ Aside0 (w'.heap[gb101]? = some (.cells #[.int .i64 a0_0, .int .i64 a0_1, (.slice A0_2 l0_2.length c0_2), (.slice (some ad105) l0_3.length c0_3)] 24 (0, 0))) ∧ Aside0 (Below w.heap.size w w'))
        case atStart => exact ⟨((-1)), (0), (by first | rfl | (simp; done) | (simp [*]; done)), (by first | rfl | (simp; done) | (simp [*]; done)), H', ⟨Nat.le_refl _⟩, ⟨by (with_reducible repeat (first | apply Xv | apply Xw | apply Xx)); exact HO_6.out⟩, ⟨by (with_reducible repeat (first | refine Xf ?_ _ | refine Xg ?_ | refine Xe ?_ _)); exact J101.out⟩, ⟨by repeat (first | (with_reducible first | exact HB.out | apply Xc | apply Xa | apply Xb | refine Xd ?_ E101.out) | exact HB.out)⟩⟩
        case round =>
         clear H'; try clear c1
         try clear p1
         try clear q1
         try clear hx1
         try clear p2
         try clear c3
         try clear c3b0
         try clear c3b1
         try clear c4
         try clear c4b0
         try clear c4b1
         try clear p6
         try clear c8
         try clear c9
         try clear c9b0
         try clear c10
         try clear c10b0
         try clear p10
         try clear q10
         try clear hx10
         try clear c11
         try clear c11b0
         try clear c11b1
         try clear hcz12_0
         try clear hcz12_1
         try clear hcz12_2
         try clear hcz12_3
         try clear hcz13_0
         try clear hcz13_1
         try clear hcz13_2
         try clear hcz13_3
         try clear hcz6_0
         try clear hcz6_1
         try clear hcz6_2
         try clear hcz6_3
         try clear hfz12_0
         try clear hfz12_1
         try clear hfz12_2
         try clear hfz12_3
         try clear hfz13_0
         try clear hfz13_1
         try clear hfz13_2
         try clear hfz13_3
         try clear hfz6_0
         try clear hfz6_1
         try clear hfz6_2
         try clear hfz6_3
         try clear hx105_0
         try clear p105
         try clear p2
         try clear q105
         obtain ⟨x8_2, x9_2, rfl, rfl, HA, HK2, HO_6, J101, HB⟩ := hrel
         cases gk with
         | zero => exact absurd HA.out (by simp [diaphoneref03_at.l1])
         | succ k2 =>
          have H := HA.out; clear HA; simp only [diaphoneref03_at.l1] at H; by_cases c14 : x9_2 ≤ x7_1
          ·rw [if_pos c14] at H; have c14b0 : decide (x9_2 ≤ x7_1) = true := decide_eq_true c14; clear c14; obtain ⟨ji15, hji15⟩ : ∃ j_ : Int, (IntKind.u64.wrap (x9_2)) = j_ := ⟨_, rfl⟩
           replace H : (if 0 ≤ (ji15) then (if (Go.bits .and .i64 (shr .i64 a1 (ji15)) 1) = 1 then (if x8_2 < 0 then (diaphoneref03_at.l1 k2 a1 x6_1 x7_1 x9_2 (wrap64 (x9_2 + 1)) a0_0 a0_1 l0_2 l0_3) else ((diaphoneref03_way.f a0_0 a0_1 l0_2 l0_3 x9_2 x7_1).bind fun t109 => ((diaphoneref03_way.f a0_0 a0_1 l0_2 l0_3 x8_2 x7_1).bind fun t110 => (if t109 < t110 then (diaphoneref03_at.l1 k2 a1 x6_1 x7_1 x9_2 (wrap64 (x9_2 + 1)) a0_0 a0_1 l0_2 l0_3) else (diaphoneref03_at.l1 k2 a1 x6_1 x7_1 x8_2 (wrap64 (x9_2 + 1)) a0_0 a0_1 l0_2 l0_3))))) else (diaphoneref03_at.l1 k2 a1 x6_1 x7_1 x8_2 (wrap64 (x9_2 + 1)) a0_0 a0_1 l0_2 l0_3)) else (none)) = some (r1, r2) := by first | (rw [hji15] at H; exact H) | (simp only [hji15] at H ⊢; exact H)
           by_cases c16 : 0 ≤ (ji15)
           ·rw [if_pos c16] at H; have c16b0 := eq_true c16; have c16b1 : decide (0 ≤ (ji15)) = true := decide_eq_true c16; clear c16; obtain ⟨ji17, hji17⟩ : ∃ j_ : Int, (shr .i64 a1 (ji15)) = j_ := ⟨_, rfl⟩
            replace H : (if (Go.bits .and .i64 (ji17) 1) = 1 then (if x8_2 < 0 then (diaphoneref03_at.l1 k2 a1 x6_1 x7_1 x9_2 (wrap64 (x9_2 + 1)) a0_0 a0_1 l0_2 l0_3) else ((diaphoneref03_way.f a0_0 a0_1 l0_2 l0_3 x9_2 x7_1).bind fun t109 => ((diaphoneref03_way.f a0_0 a0_1 l0_2 l0_3 x8_2 x7_1).bind fun t110 => (if t109 < t110 then (diaphoneref03_at.l1 k2 a1 x6_1 x7_1 x9_2 (wrap64 (x9_2 + 1)) a0_0 a0_1 l0_2 l0_3) else (diaphoneref03_at.l1 k2 a1 x6_1 x7_1 x8_2 (wrap64 (x9_2 + 1)) a0_0 a0_1 l0_2 l0_3))))) else (diaphoneref03_at.l1 k2 a1 x6_1 x7_1 x8_2 (wrap64 (x9_2 + 1)) a0_0 a0_1 l0_2 l0_3)) = some (r1, r2) := by first | (rw [hji17] at H; exact H) | (simp only [hji17] at H ⊢; exact H)
            have hji17_ : (a1 / 2 ^ min (ji15).toNat 64) = ji17 := hji17; have hji17z : (ji15) ≤ 64 → (a1 / 2 ^ (ji15).toNat) = ji17 := shr_small hji17; by_cases c18 : (Go.bits .and .i64 (ji17) 1) = 1
            ·rw [if_pos c18] at H; have c18b0 : ((Go.bits .and .i64 (ji17) 1) == 1) = true := beq_iff_eq.mpr c18; have c18b1 : ((Go.bits .and .i64 (ji17) 1) != 1) = false := bne_eq_false_iff_eq.mpr c18; clear c18; by_cases c19 : x8_2 < 0
             ·rw [if_pos c19] at H; have c19b0 : decide (x8_2 < 0) = true := decide_eq_true c19; clear c19; have H' := XB H; clear H; try go_wp2
              have n0_ := XB (Xx HO_6.out); have n1_ := XB (Xg J101.out); have n2_ := XB (Xb HB.out); clear HO_6; clear J101; clear HB; have HO_6 := n0_; have J101 := n1_; have HB := n2_; clear n0_ n1_ n2_; refine start_ (n := 21) (S := fun w' => True) (ds := []) #[false, false, false, false, false, false, false, false, false, false, false, false, false, false, false, false, false, false, false, false, false] (by kernel_rfl) rfl rfl trivial (fun hHeld => ?_); refine with_tabW diaphoneref03_at.tab10 diaphoneref03_at.bits10 (fun HT_ HW_ => ?_); generalize wr.drew = w20 at HO_6 J101 HB hHeld ⊢
              refine pure_ (i := 0) (N := some 32) (v := ?_) (a' := ?_) (Bq 21 1) rfl rfl (any_of HT_.out (by kernel_rfl)) (fun _ _ _ h => h) (Or.inl ⟨by rfl, ?_⟩) ?_ ?_; rotate_left
              ·intro w'; go_simp; with_reducible rfl
              rotate_left
              ·simp only [Act.put, Xj, Xk, Xl, i64_w, i32_w]; rfl
              refine pure_ (i := 1) (N := some 33) (v := ?_) (a' := ?_) (Bq 21 3) rfl rfl (any_of HT_.out (by kernel_rfl)) (fun _ _ _ h => h) (Or.inl ⟨by rfl, ?_⟩) ?_ ?_; rotate_left
              ·intro w'; go_simp; with_reducible rfl
              rotate_left
              ·simp only [Act.put, Xj, Xk, Xl, i64_w, i32_w]; rfl
              refine pure_ (i := 2) (N := some 34) (v := ?_) (a' := ?_) (Bq 21 7) rfl rfl (any_of HT_.out (by kernel_rfl)) (fun _ _ _ h => h) (Or.inl ⟨by rfl, ?_⟩) ?_ ?_; rotate_left
              ·intro w'; go_simp; with_reducible rfl
              rotate_left
              ·simp only [Act.put, Xj, Xk, Xl, i64_w, i32_w]; rfl
              refine pure_ (i := 3) (N := some 35) (v := ?_) (a' := ?_) (Bq 21 15) rfl rfl (any_of HT_.out (by kernel_rfl)) (fun _ _ _ h => h) (Or.inl ⟨by rfl, ?_⟩) ?_ ?_; rotate_left
              ·intro w'; go_simp; with_reducible rfl
              rotate_left
              ·simp only [Act.put, Xj, Xk, Xl, i64_w, i32_w]; rfl
              refine pure_ (i := 4) (N := some 36) (v := ?_) (a' := ?_) (Bq 21 31) rfl rfl (any_of HT_.out (by kernel_rfl)) (fun _ _ _ h => h) (Or.inl ⟨by rfl, ?_⟩) ?_ ?_; rotate_left
              ·intro w'; go_simp; with_reducible rfl
              rotate_left
              ·simp only [Act.put, Xj, Xk, Xl, i64_w, i32_w]; rfl
              refine pure_ (i := 5) (N := some 37) (v := ?_) (a' := ?_) (Bq 21 63) rfl rfl (any_of HT_.out (by kernel_rfl)) (fun _ _ _ h => h) (Or.inl ⟨by rfl, ?_⟩) ?_ ?_; rotate_left
              ·intro w'; go_simp; with_reducible rfl
              rotate_left
              ·simp only [Act.put, Xj, Xk, Xl, i64_w, i32_w]; rfl
              refine pure_ (i := 6) (N := some 38) (v := ?_) (a' := ?_) (Bq 21 127) rfl rfl (any_of HT_.out (by kernel_rfl)) (fun _ _ _ h => h) (Or.inl ⟨by rfl, ?_⟩) ?_ ?_; rotate_left
              ·intro w'; go_simp; with_reducible rfl
              rotate_left
              ·simp only [Act.put, Xj, Xk, Xl, i64_w, i32_w]; rfl
              refine pure_ (i := 7) (N := some 39) (v := ?_) (a' := ?_) (Bq 21 255) rfl rfl (any_of HT_.out (by kernel_rfl)) (fun _ _ _ h => h) (Or.inl ⟨by rfl, ?_⟩) ?_ ?_; rotate_left
              ·intro w'; go_simp; with_reducible rfl
              rotate_left
              ·simp only [Act.put, Xj, Xk, Xl, i64_w, i32_w]; rfl
              refine pure_ (i := 8) (N := some 40) (v := ?_) (a' := ?_) (Bq 21 511) rfl rfl (any_of HT_.out (by kernel_rfl)) (fun _ _ _ h => h) (Or.inl ⟨by rfl, ?_⟩) ?_ ?_; rotate_left
              ·intro w'; go_simp; with_reducible rfl
              rotate_left
              ·simp only [Act.put, Xj, Xk, Xl, i64_w, i32_w]; rfl
              refine pure_ (i := 9) (N := some 41) (v := ?_) (a' := ?_) (Bq 21 1023) rfl rfl (any_of HT_.out (by kernel_rfl)) (fun _ _ _ h => h) (Or.inl ⟨by rfl, ?_⟩) ?_ ?_; rotate_left
              ·intro w'; go_simp; with_reducible rfl
              rotate_left
              ·simp only [Act.put, Xj, Xk, Xl, i64_w, i32_w]; rfl
              refine pure_ (i := 10) (N := some 42) (v := undef) (a' := ?_) (Bq 21 2047) rfl rfl (any_of HT_.out (by kernel_rfl)) (fun _ _ _ h => h) (Or.inr ⟨by rfl, rfl⟩) ?_ ?_; rotate_left
              ·simp only [Act.put, Xj, Xk, Xl, i64_w, i32_w]; rfl
              refine pure_ (i := 11) (N := some 43) (v := undef) (a' := ?_) (Bq 21 4095) rfl rfl (any_of HT_.out (by kernel_rfl)) (fun _ _ _ h => h) (Or.inr ⟨by rfl, rfl⟩) ?_ ?_; rotate_left
              ·simp only [Act.put, Xj, Xk, Xl, i64_w, i32_w]; rfl
              refine pure_ (i := 12) (N := some 44) (v := undef) (a' := ?_) (Bq 21 8191) rfl rfl (any_of HT_.out (by kernel_rfl)) (fun _ _ _ h => h) (Or.inr ⟨by rfl, rfl⟩) ?_ ?_; rotate_left
              ·simp only [Act.put, Xj, Xk, Xl, i64_w, i32_w]; rfl
              refine pure_ (i := 13) (N := some 45) (v := undef) (a' := ?_) (Bq 21 16383) rfl rfl (any_of HT_.out (by kernel_rfl)) (fun _ _ _ h => h) (Or.inr ⟨by rfl, rfl⟩) ?_ ?_; rotate_left
              ·simp only [Act.put, Xj, Xk, Xl, i64_w, i32_w]; rfl
              refine pure_ (i := 14) (N := some 46) (v := undef) (a' := ?_) (Bq 21 32767) rfl rfl (any_of HT_.out (by kernel_rfl)) (fun _ _ _ h => h) (Or.inr ⟨by rfl, rfl⟩) ?_ ?_; rotate_left
              ·simp only [Act.put, Xj, Xk, Xl, i64_w, i32_w]; rfl
              refine pure_ (i := 15) (N := some 47) (v := undef) (a' := ?_) (Bq 21 65535) rfl rfl (any_of HT_.out (by kernel_rfl)) (fun _ _ _ h => h) (Or.inr ⟨by rfl, rfl⟩) ?_ ?_; rotate_left
              ·simp only [Act.put, Xj, Xk, Xl, i64_w, i32_w]; rfl
              refine pure_ (i := 16) (N := some 48) (v := undef) (a' := ?_) (Bq 21 131071) rfl rfl (any_of HT_.out (by kernel_rfl)) (fun _ _ _ h => h) (Or.inr ⟨by rfl, rfl⟩) ?_ ?_; rotate_left
              ·simp only [Act.put, Xj, Xk, Xl, i64_w, i32_w]; rfl
              refine pure_ (i := 17) (N := some 49) (v := undef) (a' := ?_) (Bq 21 262143) rfl rfl (any_of HT_.out (by kernel_rfl)) (fun _ _ _ h => h) (Or.inr ⟨by rfl, rfl⟩) ?_ ?_; rotate_left
              ·simp only [Act.put, Xj, Xk, Xl, i64_w, i32_w]; rfl
              refine pure_ (i := 18) (N := some 50) (v := undef) (a' := ?_) (Bq 21 524287) rfl rfl (any_of HT_.out (by kernel_rfl)) (fun _ _ _ h => h) (Or.inr ⟨by rfl, rfl⟩) ?_ ?_; rotate_left
              ·simp only [Act.put, Xj, Xk, Xl, i64_w, i32_w]; rfl
              refine pure_ (i := 19) (N := some 51) (v := ?_) (a' := ?_) (Bq 21 1048575) rfl rfl (any_of HT_.out (by kernel_rfl)) (fun _ _ _ h => h) (Or.inl ⟨by rfl, ?_⟩) ?_ ?_; rotate_left
              ·intro w'; go_simp; with_reducible rfl
              rotate_left
              ·simp only [Act.put, Xj, Xk, Xl, i64_w, i32_w]; rfl
              refine pure_ (i := 20) (N := some 52) (v := ?_) (a' := ?_) (Bq 21 2097151) rfl rfl (any_of HT_.out (by kernel_rfl)) (fun _ _ _ h => h) (Or.inl ⟨by rfl, ?_⟩) ?_ ?_; rotate_left
              ·intro w'; go_simp; with_reducible rfl
              rotate_left
              ·simp only [Act.put, Xj, Xk, Xl, i64_w, i32_w]; rfl
              refine done_ (done_of HT_.out (by kernel_rfl)) ?_; try go_wp2
              go_roundg k2
              case measure => have := HK1.out; have := HK2.out; omega
              case rel => exact ⟨(x9_2), (wrap64 (x9_2 + 1)), (by first | rfl | (simp; done) | (simp [*]; done)), (by first | rfl | (simp; done) | (simp [*]; done)), H', ⟨by have := HK1.out; have := HK2.out; omega⟩, ⟨by (with_reducible repeat (first | apply Xv | apply Xw | apply Xx)); exact HO_6.out⟩, ⟨by (with_reducible repeat (first | refine Xf ?_ _ | refine Xg ?_ | refine Xe ?_ _)); exact J101.out⟩, ⟨by repeat (first | (with_reducible first | exact HB.out | apply Xc | apply Xa | apply Xb | refine Xd ?_ E101.out) | exact HB.out)⟩⟩
             ·rw [if_neg c19] at H; have c19b0 : decide (x8_2 < 0) = false := decide_eq_false c19; clear c19; replace H := Option.bind_eq_some_iff.mp H; obtain ⟨t109, A210, H⟩ := H; replace H : ((diaphoneref03_way.f a0_0 a0_1 l0_2 l0_3 x8_2 x7_1).bind fun t110 => (if t109 < t110 then (diaphoneref03_at.l1 k2 a1 x6_1 x7_1 x9_2 (wrap64 (x9_2 + 1)) a0_0 a0_1 l0_2 l0_3) else (diaphoneref03_at.l1 k2 a1 x6_1 x7_1 x8_2 (wrap64 (x9_2 + 1)) a0_0 a0_1 l0_2 l0_3))) = some (r1, r2) := H; have A21 := XB A210; clear A210; replace H := Option.bind_eq_some_iff.mp H; obtain ⟨t110, A220, H⟩ := H; replace H : (if t109 < t110 then (diaphoneref03_at.l1 k2 a1 x6_1 x7_1 x9_2 (wrap64 (x9_2 + 1)) a0_0 a0_1 l0_2 l0_3) else (diaphoneref03_at.l1 k2 a1 x6_1 x7_1 x8_2 (wrap64 (x9_2 + 1)) a0_0 a0_1 l0_2 l0_3)) = some (r1, r2) := H; have A22 := XB A220; clear A220; by_cases c23 : t109 < t110
              ·rw [if_pos c23] at H; have c23b0 : decide (t109 < t110) = true := decide_eq_true c23; clear c23; have H' := XB H; clear H; try go_wp2
               have n0_ := XB (Xx HO_6.out); have n1_ := XB (Xg J101.out); have n2_ := XB (Xb HB.out); clear HO_6; clear J101; clear HB; have HO_6 := n0_; have J101 := n1_; have HB := n2_; clear n0_ n1_ n2_; refine start_ (n := 21) (S := fun w' => w'.cell? ⟨gb101, 0, none⟩ = some (.int .i64 a0_0) ∧ w'.cell? ⟨gb101, 1, none⟩ = some (.int .i64 a0_1) ∧ w'.cell? ⟨gb101, 2, none⟩ = some (.slice A0_2 l0_2.length c0_2) ∧ w'.cell? ⟨gb101, 3, none⟩ = some (.slice (some ad105) l0_3.length c0_3)) (ds := []) #[false, false, false, false, false, false, false, false, false, false, false, false, false, false, false, false, false, false, false, false, false] (by kernel_rfl) rfl rfl ⟨(Xi J101.out 0).trans rfl, (Xi J101.out 1).trans rfl, (Xi J101.out 2).trans rfl, (Xi J101.out 3).trans rfl⟩ (fun hHeld => ?_); refine with_tabW diaphoneref03_at.tab10 diaphoneref03_at.bits10 (fun HT_ HW_ => ?_); generalize wr.drew = w24 at HO_6 J101 HB hHeld ⊢
               refine pure_ (i := 0) (N := some 32) (v := ?_) (a' := ?_) (Bq 21 1) rfl rfl (any_of HT_.out (by kernel_rfl)) (fun _ _ _ h => h) (Or.inl ⟨by rfl, ?_⟩) ?_ ?_; rotate_left
               ·intro w'; go_simp; with_reducible rfl
               rotate_left
               ·simp only [Act.put, Xj, Xk, Xl, i64_w, i32_w]; rfl
               refine pure_ (i := 1) (N := some 33) (v := ?_) (a' := ?_) (Bq 21 3) rfl rfl (any_of HT_.out (by kernel_rfl)) (fun _ _ _ h => h) (Or.inl ⟨by rfl, ?_⟩) ?_ ?_; rotate_left
               ·intro w'; go_simp; with_reducible rfl
               rotate_left
               ·simp only [Act.put, Xj, Xk, Xl, i64_w, i32_w]; rfl
               refine pure_ (i := 2) (N := some 34) (v := ?_) (a' := ?_) (Bq 21 7) rfl rfl (any_of HT_.out (by kernel_rfl)) (fun _ _ _ h => h) (Or.inl ⟨by rfl, ?_⟩) ?_ ?_; rotate_left
               ·intro w'; go_simp; with_reducible rfl
               rotate_left
               ·simp only [Act.put, Xj, Xk, Xl, i64_w, i32_w]; rfl
               refine pure_ (i := 3) (N := some 35) (v := ?_) (a' := ?_) (Bq 21 15) rfl rfl (any_of HT_.out (by kernel_rfl)) (fun _ _ _ h => h) (Or.inl ⟨by rfl, ?_⟩) ?_ ?_; rotate_left
               ·intro w'; go_simp; with_reducible rfl
               rotate_left
               ·simp only [Act.put, Xj, Xk, Xl, i64_w, i32_w]; rfl
               refine pure_ (i := 4) (N := some 36) (v := ?_) (a' := ?_) (Bq 21 31) rfl rfl (any_of HT_.out (by kernel_rfl)) (fun _ _ _ h => h) (Or.inl ⟨by rfl, ?_⟩) ?_ ?_; rotate_left
               ·intro w'; go_simp; with_reducible rfl
               rotate_left
               ·simp only [Act.put, Xj, Xk, Xl, i64_w, i32_w]; rfl
               refine pure_ (i := 5) (N := some 37) (v := ?_) (a' := ?_) (Bq 21 63) rfl rfl (any_of HT_.out (by kernel_rfl)) (fun _ _ _ h => h) (Or.inl ⟨by rfl, ?_⟩) ?_ ?_; rotate_left
               ·intro w'; go_simp; with_reducible rfl
               rotate_left
               ·simp only [Act.put, Xj, Xk, Xl, i64_w, i32_w]; rfl
               refine pure_ (i := 6) (N := some 38) (v := ?_) (a' := ?_) (Bq 21 127) rfl rfl (any_of HT_.out (by kernel_rfl)) (fun _ _ _ h => h) (Or.inl ⟨by rfl, ?_⟩) ?_ ?_; rotate_left
               ·intro w'; go_simp; with_reducible rfl
               rotate_left
               ·simp only [Act.put, Xj, Xk, Xl, i64_w, i32_w]; rfl
               refine pure_ (i := 7) (N := some 39) (v := ?_) (a' := ?_) (Bq 21 255) rfl rfl (any_of HT_.out (by kernel_rfl)) (fun _ _ _ h => h) (Or.inl ⟨by rfl, ?_⟩) ?_ ?_; rotate_left
               ·intro w'; go_simp; with_reducible rfl
               rotate_left
               ·simp only [Act.put, Xj, Xk, Xl, i64_w, i32_w]; rfl
               refine pure_ (i := 8) (N := some 40) (v := ?_) (a' := ?_) (Bq 21 511) rfl rfl (any_of HT_.out (by kernel_rfl)) (fun _ _ _ h => h) (Or.inl ⟨by rfl, ?_⟩) ?_ ?_; rotate_left
               ·intro w'; go_simp; with_reducible rfl
               rotate_left
               ·simp only [Act.put, Xj, Xk, Xl, i64_w, i32_w]; rfl
               refine pure_ (i := 9) (N := some 41) (v := ?_) (a' := ?_) (Bq 21 1023) rfl rfl (any_of HT_.out (by kernel_rfl)) (fun _ _ _ h => h) (Or.inl ⟨by rfl, ?_⟩) ?_ ?_; rotate_left
               ·intro w'; go_simp; with_reducible rfl
               rotate_left
               ·simp only [Act.put, Xj, Xk, Xl, i64_w, i32_w]; rfl
               refine pure_ (i := 11) (N := some 43) (v := ?_) (a' := ?_) (Bq 21 3071) rfl rfl (any_of HT_.out (by kernel_rfl)) (fun _ _ _ h => h) (Or.inl ⟨by rfl, ?_⟩) ?_ ?_; rotate_left
               ·intro w'; go_simp; with_reducible rfl
               rotate_left
               ·simp only [Act.put, Xj, Xk, Xl, i64_w, i32_w]; rfl
               refine pure_ (i := 12) (N := some 44) (v := ?_) (a' := ?_) (Bq 21 7167) rfl rfl (any_of HT_.out (by kernel_rfl)) (fun _ _ _ h => h) (Or.inl ⟨by rfl, ?_⟩) ?_ ?_; rotate_left
               ·intro w'; go_simp; with_reducible rfl
               rotate_left
               ·simp only [Act.put, Xj, Xk, Xl, i64_w, i32_w]; rfl
               refine pure_ (i := 15) (N := some 47) (v := ?_) (a' := ?_) (Bq 21 39935) rfl rfl (any_of HT_.out (by kernel_rfl)) (fun _ _ _ h => h) (Or.inl ⟨by rfl, ?_⟩) ?_ ?_; rotate_left
               ·intro w'; go_simp; with_reducible rfl
               rotate_left
               ·simp only [Act.put, Xj, Xk, Xl, i64_w, i32_w]; rfl
               refine pure_ (i := 16) (N := some 48) (v := ?_) (a' := ?_) (Bq 21 105471) rfl rfl (any_of HT_.out (by kernel_rfl)) (fun _ _ _ h => h) (Or.inl ⟨by rfl, ?_⟩) ?_ ?_; rotate_left
               ·intro w'; go_simp; with_reducible rfl
               rotate_left
               ·simp only [Act.put, Xj, Xk, Xl, i64_w, i32_w]; rfl
               refine take_ (i := 10) (N := some 42) (v := ?_) (a' := ?_) (Bq 21 106495) rfl rfl (take_ofW HT_.out HW_.out (by kernel_rfl)) (fun _ _ _ h => h) (Or.inl ⟨by rfl, ?_⟩) hHeld ?_ ?_; rotate_left
               ·rintro w' ⟨s0, s1, s2, s3⟩; go_simp; with_reducible rfl
               rotate_left
               ·simp only [Act.put, Xj, Xk, Xl, i64_w, i32_w]; rfl
               refine take_ (i := 14) (N := some 46) (v := ?_) (a' := ?_) (Bq 21 122879) rfl rfl (take_ofW HT_.out HW_.out (by kernel_rfl)) (fun _ _ _ h => h) (Or.inl ⟨by rfl, ?_⟩) hHeld ?_ ?_; rotate_left
               ·rintro w' ⟨s0, s1, s2, s3⟩; go_simp; with_reducible rfl
               rotate_left
               ·simp only [Act.put, Xj, Xk, Xl, i64_w, i32_w]; rfl
               refine one_ (i := 13) (N := some 45) (Bq 21 131071) rfl rfl (one_of HT_.out (by kernel_rfl)) (by decide) (fun K hK => ?_); refine goes_ Try.func66 (by kernel_rfl) rfl #[.agg #[.int .i64 a0_0, .int .i64 a0_1, .slice A0_2 l0_2.length c0_2, .slice (some ad105) l0_3.length c0_3], .int .i64 x9_2, .int .i64 x7_1] (by rfl) rfl rfl (by (try simp only [Xm, Xn, Xo]); first | done | rfl | (simp only [Xp, Xq]; rfl)) ?_; with_reducible refine (diaphoneref03_way.calls a0_0 a0_1 _ _ l0_2 _ _ l0_3 x9_2 x7_1 t109 _ ?side1 ?side2 ?side3 ?side4 A21.out).mono ?_
               (case side1 => repeat (first | exact (Xu HR0_2.out HB.out) | (with_reducible refine Xr ?_ _) | (with_reducible refine Xs ?_ _) | (with_reducible refine Xt ?_)))
               (case side2 => exact HC0_2.out)
               (case side3 => repeat (first | exact (Xu HR0_3.out HB.out) | (with_reducible refine Xr ?_ _) | (with_reducible refine Xs ?_ _) | (with_reducible refine Xt ?_)))
               (case side4 => exact HC0_3.out)
               rintro e w25 ⟨rfl, hb⟩; refine ⟨_, rfl, ?_⟩; have n0_ := XB (Xy (by (with_reducible repeat (first | apply Xv | apply Xw | apply Xx)); exact HO_6.out) hb); have n1_ := XB (XA (g := gb101) (o := .cells #[.int .i64 a0_0, .int .i64 a0_1, .slice A0_2 l0_2.length c0_2, .slice (some ad105) l0_3.length c0_3] 24 (0, 0)) (by (with_reducible repeat (first | refine Xf ?_ _ | refine Xg ?_ | refine Xe ?_ _)); exact J101.out) hb); have n2_ := XB (Xz (by repeat (first | (with_reducible first | exact HB.out | apply Xc | apply Xa | apply Xb | refine Xd ?_ E101.out) | exact HB.out)) hb); clear HO_6; clear J101; clear HB; have HO_6 := n0_; have J101 := n1_; have HB := n2_; clear n0_ n1_ n2_; (try clear hb)
               (try clear hb2)
               (try clear hk)
               (try clear hi)
               refine hK.out _ _ ⟨(Xi J101.out 0).trans rfl, (Xi J101.out 1).trans rfl, (Xi J101.out 2).trans rfl, (Xi J101.out 3).trans rfl⟩ (fun hHeld => ?_); clear hK K; refine norm_ (a' := ?_) ?_ ?_; rotate_left
               ·show Act.put _ (some 45) _ = _
                simp only [Act.put, Xj, Xk, Xl, i64_w, i32_w]; rfl
               refine one_ (i := 17) (N := some 49) (Bq 21 262143) rfl rfl (one_of HT_.out (by kernel_rfl)) (by decide) (fun K hK => ?_); refine goes_ Try.func66 (by kernel_rfl) rfl #[.agg #[.int .i64 a0_0, .int .i64 a0_1, .slice A0_2 l0_2.length c0_2, .slice (some ad105) l0_3.length c0_3], .int .i64 x8_2, .int .i64 x7_1] (by rfl) rfl rfl (by (try simp only [Xm, Xn, Xo]); first | done | rfl | (simp only [Xp, Xq]; rfl)) ?_; with_reducible refine (diaphoneref03_way.calls a0_0 a0_1 _ _ l0_2 _ _ l0_3 x8_2 x7_1 t110 _ ?side1 ?side2 ?side3 ?side4 A22.out).mono ?_
               (case side1 => repeat (first | exact (Xu HR0_2.out HB.out) | (with_reducible refine Xr ?_ _) | (with_reducible refine Xs ?_ _) | (with_reducible refine Xt ?_)))
               (case side2 => exact HC0_2.out)
               (case side3 => repeat (first | exact (Xu HR0_3.out HB.out) | (with_reducible refine Xr ?_ _) | (with_reducible refine Xs ?_ _) | (with_reducible refine Xt ?_)))
               (case side4 => exact HC0_3.out)
               rintro e w26 ⟨rfl, hb⟩; refine ⟨_, rfl, ?_⟩; have n0_ := XB (Xy (by (with_reducible repeat (first | apply Xv | apply Xw | apply Xx)); exact HO_6.out) hb); have n1_ := XB (XA (g := gb101) (o := .cells #[.int .i64 a0_0, .int .i64 a0_1, .slice A0_2 l0_2.length c0_2, .slice (some ad105) l0_3.length c0_3] 24 (0, 0)) (by (with_reducible repeat (first | refine Xf ?_ _ | refine Xg ?_ | refine Xe ?_ _)); exact J101.out) hb); have n2_ := XB (Xz (by repeat (first | (with_reducible first | exact HB.out | apply Xc | apply Xa | apply Xb | refine Xd ?_ E101.out) | exact HB.out)) hb); clear HO_6; clear J101; clear HB; have HO_6 := n0_; have J101 := n1_; have HB := n2_; clear n0_ n1_ n2_; (try clear hb)
               (try clear hb2)
               (try clear hk)
               (try clear hi)
               refine hK.out _ _ ⟨(Xi J101.out 0).trans rfl, (Xi J101.out 1).trans rfl, (Xi J101.out 2).trans rfl, (Xi J101.out 3).trans rfl⟩ (fun hHeld => ?_); clear hK K; refine norm_ (a' := ?_) ?_ ?_; rotate_left
               ·show Act.put _ (some 49) _ = _
                simp only [Act.put, Xj, Xk, Xl, i64_w, i32_w]; rfl
               refine pure_ (i := 18) (N := some 50) (v := ?_) (a' := ?_) (Bq 21 524287) rfl rfl (any_of HT_.out (by kernel_rfl)) (fun _ _ _ h => h) (Or.inl ⟨by rfl, ?_⟩) ?_ ?_; rotate_left
               ·intro w'; go_simp; with_reducible rfl
               rotate_left
               ·simp only [Act.put, Xj, Xk, Xl, i64_w, i32_w]; rfl
               refine pure_ (i := 19) (N := some 51) (v := ?_) (a' := ?_) (Bq 21 1048575) rfl rfl (any_of HT_.out (by kernel_rfl)) (fun _ _ _ h => h) (Or.inl ⟨by rfl, ?_⟩) ?_ ?_; rotate_left
               ·intro w'; go_simp; with_reducible rfl
               rotate_left
               ·simp only [Act.put, Xj, Xk, Xl, i64_w, i32_w]; rfl
               refine pure_ (i := 20) (N := some 52) (v := ?_) (a' := ?_) (Bq 21 2097151) rfl rfl (any_of HT_.out (by kernel_rfl)) (fun _ _ _ h => h) (Or.inl ⟨by rfl, ?_⟩) ?_ ?_; rotate_left
               ·intro w'; go_simp; with_reducible rfl
               rotate_left
               ·simp only [Act.put, Xj, Xk, Xl, i64_w, i32_w]; rfl
               refine done_ (done_of HT_.out (by kernel_rfl)) ?_; try go_wp2
               go_roundg k2
               case measure => have := HK1.out; have := HK2.out; omega
               case rel => exact ⟨(x9_2), (wrap64 (x9_2 + 1)), (by first | rfl | (simp; done) | (simp [*]; done)), (by first | rfl | (simp; done) | (simp [*]; done)), H', ⟨by have := HK1.out; have := HK2.out; omega⟩, ⟨by (with_reducible repeat (first | apply Xv | apply Xw | apply Xx)); exact HO_6.out⟩, ⟨by (with_reducible repeat (first | refine Xf ?_ _ | refine Xg ?_ | refine Xe ?_ _)); exact J101.out⟩, ⟨by repeat (first | (with_reducible first | exact HB.out | apply Xc | apply Xa | apply Xb | refine Xd ?_ E101.out) | exact HB.out)⟩⟩
              ·rw [if_neg c23] at H; have c23b0 : decide (t109 < t110) = false := decide_eq_false c23; clear c23; have H' := XB H; clear H; try go_wp2
               have n0_ := XB (Xx HO_6.out); have n1_ := XB (Xg J101.out); have n2_ := XB (Xb HB.out); clear HO_6; clear J101; clear HB; have HO_6 := n0_; have J101 := n1_; have HB := n2_; clear n0_ n1_ n2_; refine start_ (n := 21) (S := fun w' => w'.cell? ⟨gb101, 0, none⟩ = some (.int .i64 a0_0) ∧ w'.cell? ⟨gb101, 1, none⟩ = some (.int .i64 a0_1) ∧ w'.cell? ⟨gb101, 2, none⟩ = some (.slice A0_2 l0_2.length c0_2) ∧ w'.cell? ⟨gb101, 3, none⟩ = some (.slice (some ad105) l0_3.length c0_3)) (ds := []) #[false, false, false, false, false, false, false, false, false, false, false, false, false, false, false, false, false, false, false, false, false] (by kernel_rfl) rfl rfl ⟨(Xi J101.out 0).trans rfl, (Xi J101.out 1).trans rfl, (Xi J101.out 2).trans rfl, (Xi J101.out 3).trans rfl⟩ (fun hHeld => ?_); refine with_tabW diaphoneref03_at.tab10 diaphoneref03_at.bits10 (fun HT_ HW_ => ?_); generalize wr.drew = w27 at HO_6 J101 HB hHeld ⊢
               refine pure_ (i := 0) (N := some 32) (v := ?_) (a' := ?_) (Bq 21 1) rfl rfl (any_of HT_.out (by kernel_rfl)) (fun _ _ _ h => h) (Or.inl ⟨by rfl, ?_⟩) ?_ ?_; rotate_left
               ·intro w'; go_simp; with_reducible rfl
               rotate_left
               ·simp only [Act.put, Xj, Xk, Xl, i64_w, i32_w]; rfl
               refine pure_ (i := 1) (N := some 33) (v := ?_) (a' := ?_) (Bq 21 3) rfl rfl (any_of HT_.out (by kernel_rfl)) (fun _ _ _ h => h) (Or.inl ⟨by rfl, ?_⟩) ?_ ?_; rotate_left
               ·intro w'; go_simp; with_reducible rfl
               rotate_left
               ·simp only [Act.put, Xj, Xk, Xl, i64_w, i32_w]; rfl
               refine pure_ (i := 2) (N := some 34) (v := ?_) (a' := ?_) (Bq 21 7) rfl rfl (any_of HT_.out (by kernel_rfl)) (fun _ _ _ h => h) (Or.inl ⟨by rfl, ?_⟩) ?_ ?_; rotate_left
               ·intro w'; go_simp; with_reducible rfl
               rotate_left
               ·simp only [Act.put, Xj, Xk, Xl, i64_w, i32_w]; rfl
               refine pure_ (i := 3) (N := some 35) (v := ?_) (a' := ?_) (Bq 21 15) rfl rfl (any_of HT_.out (by kernel_rfl)) (fun _ _ _ h => h) (Or.inl ⟨by rfl, ?_⟩) ?_ ?_; rotate_left
               ·intro w'; go_simp; with_reducible rfl
               rotate_left
               ·simp only [Act.put, Xj, Xk, Xl, i64_w, i32_w]; rfl
               refine pure_ (i := 4) (N := some 36) (v := ?_) (a' := ?_) (Bq 21 31) rfl rfl (any_of HT_.out (by kernel_rfl)) (fun _ _ _ h => h) (Or.inl ⟨by rfl, ?_⟩) ?_ ?_; rotate_left
               ·intro w'; go_simp; with_reducible rfl
               rotate_left
               ·simp only [Act.put, Xj, Xk, Xl, i64_w, i32_w]; rfl
               refine pure_ (i := 5) (N := some 37) (v := ?_) (a' := ?_) (Bq 21 63) rfl rfl (any_of HT_.out (by kernel_rfl)) (fun _ _ _ h => h) (Or.inl ⟨by rfl, ?_⟩) ?_ ?_; rotate_left
               ·intro w'; go_simp; with_reducible rfl
               rotate_left
               ·simp only [Act.put, Xj, Xk, Xl, i64_w, i32_w]; rfl
               refine pure_ (i := 6) (N := some 38) (v := ?_) (a' := ?_) (Bq 21 127) rfl rfl (any_of HT_.out (by kernel_rfl)) (fun _ _ _ h => h) (Or.inl ⟨by rfl, ?_⟩) ?_ ?_; rotate_left
               ·intro w'; go_simp; with_reducible rfl
               rotate_left
               ·simp only [Act.put, Xj, Xk, Xl, i64_w, i32_w]; rfl
               refine pure_ (i := 7) (N := some 39) (v := ?_) (a' := ?_) (Bq 21 255) rfl rfl (any_of HT_.out (by kernel_rfl)) (fun _ _ _ h => h) (Or.inl ⟨by rfl, ?_⟩) ?_ ?_; rotate_left
               ·intro w'; go_simp; with_reducible rfl
               rotate_left
               ·simp only [Act.put, Xj, Xk, Xl, i64_w, i32_w]; rfl
               refine pure_ (i := 8) (N := some 40) (v := ?_) (a' := ?_) (Bq 21 511) rfl rfl (any_of HT_.out (by kernel_rfl)) (fun _ _ _ h => h) (Or.inl ⟨by rfl, ?_⟩) ?_ ?_; rotate_left
               ·intro w'; go_simp; with_reducible rfl
               rotate_left
               ·simp only [Act.put, Xj, Xk, Xl, i64_w, i32_w]; rfl
               refine pure_ (i := 9) (N := some 41) (v := ?_) (a' := ?_) (Bq 21 1023) rfl rfl (any_of HT_.out (by kernel_rfl)) (fun _ _ _ h => h) (Or.inl ⟨by rfl, ?_⟩) ?_ ?_; rotate_left
               ·intro w'; go_simp; with_reducible rfl
               rotate_left
               ·simp only [Act.put, Xj, Xk, Xl, i64_w, i32_w]; rfl
               refine pure_ (i := 11) (N := some 43) (v := ?_) (a' := ?_) (Bq 21 3071) rfl rfl (any_of HT_.out (by kernel_rfl)) (fun _ _ _ h => h) (Or.inl ⟨by rfl, ?_⟩) ?_ ?_; rotate_left
               ·intro w'; go_simp; with_reducible rfl
               rotate_left
               ·simp only [Act.put, Xj, Xk, Xl, i64_w, i32_w]; rfl
               refine pure_ (i := 12) (N := some 44) (v := ?_) (a' := ?_) (Bq 21 7167) rfl rfl (any_of HT_.out (by kernel_rfl)) (fun _ _ _ h => h) (Or.inl ⟨by rfl, ?_⟩) ?_ ?_; rotate_left
               ·intro w'; go_simp; with_reducible rfl
               rotate_left
               ·simp only [Act.put, Xj, Xk, Xl, i64_w, i32_w]; rfl
               refine pure_ (i := 15) (N := some 47) (v := ?_) (a' := ?_) (Bq 21 39935) rfl rfl (any_of HT_.out (by kernel_rfl)) (fun _ _ _ h => h) (Or.inl ⟨by rfl, ?_⟩) ?_ ?_; rotate_left
               ·intro w'; go_simp; with_reducible rfl
               rotate_left
               ·simp only [Act.put, Xj, Xk, Xl, i64_w, i32_w]; rfl
               refine pure_ (i := 16) (N := some 48) (v := ?_) (a' := ?_) (Bq 21 105471) rfl rfl (any_of HT_.out (by kernel_rfl)) (fun _ _ _ h => h) (Or.inl ⟨by rfl, ?_⟩) ?_ ?_; rotate_left
               ·intro w'; go_simp; with_reducible rfl
               rotate_left
               ·simp only [Act.put, Xj, Xk, Xl, i64_w, i32_w]; rfl
               refine take_ (i := 10) (N := some 42) (v := ?_) (a' := ?_) (Bq 21 106495) rfl rfl (take_ofW HT_.out HW_.out (by kernel_rfl)) (fun _ _ _ h => h) (Or.inl ⟨by rfl, ?_⟩) hHeld ?_ ?_; rotate_left
               ·rintro w' ⟨s0, s1, s2, s3⟩; go_simp; with_reducible rfl
               rotate_left
               ·simp only [Act.put, Xj, Xk, Xl, i64_w, i32_w]; rfl
               refine take_ (i := 14) (N := some 46) (v := ?_) (a' := ?_) (Bq 21 122879) rfl rfl (take_ofW HT_.out HW_.out (by kernel_rfl)) (fun _ _ _ h => h) (Or.inl ⟨by rfl, ?_⟩) hHeld ?_ ?_; rotate_left
               ·rintro w' ⟨s0, s1, s2, s3⟩; go_simp; with_reducible rfl
               rotate_left
               ·simp only [Act.put, Xj, Xk, Xl, i64_w, i32_w]; rfl
               refine one_ (i := 13) (N := some 45) (Bq 21 131071) rfl rfl (one_of HT_.out (by kernel_rfl)) (by decide) (fun K hK => ?_); refine goes_ Try.func66 (by kernel_rfl) rfl #[.agg #[.int .i64 a0_0, .int .i64 a0_1, .slice A0_2 l0_2.length c0_2, .slice (some ad105) l0_3.length c0_3], .int .i64 x9_2, .int .i64 x7_1] (by rfl) rfl rfl (by (try simp only [Xm, Xn, Xo]); first | done | rfl | (simp only [Xp, Xq]; rfl)) ?_; with_reducible refine (diaphoneref03_way.calls a0_0 a0_1 _ _ l0_2 _ _ l0_3 x9_2 x7_1 t109 _ ?side1 ?side2 ?side3 ?side4 A21.out).mono ?_
               (case side1 => repeat (first | exact (Xu HR0_2.out HB.out) | (with_reducible refine Xr ?_ _) | (with_reducible refine Xs ?_ _) | (with_reducible refine Xt ?_)))
               (case side2 => exact HC0_2.out)
               (case side3 => repeat (first | exact (Xu HR0_3.out HB.out) | (with_reducible refine Xr ?_ _) | (with_reducible refine Xs ?_ _) | (with_reducible refine Xt ?_)))
               (case side4 => exact HC0_3.out)
               rintro e w28 ⟨rfl, hb⟩; refine ⟨_, rfl, ?_⟩; have n0_ := XB (Xy (by (with_reducible repeat (first | apply Xv | apply Xw | apply Xx)); exact HO_6.out) hb); have n1_ := XB (XA (g := gb101) (o := .cells #[.int .i64 a0_0, .int .i64 a0_1, .slice A0_2 l0_2.length c0_2, .slice (some ad105) l0_3.length c0_3] 24 (0, 0)) (by (with_reducible repeat (first | refine Xf ?_ _ | refine Xg ?_ | refine Xe ?_ _)); exact J101.out) hb); have n2_ := XB (Xz (by repeat (first | (with_reducible first | exact HB.out | apply Xc | apply Xa | apply Xb | refine Xd ?_ E101.out) | exact HB.out)) hb); clear HO_6; clear J101; clear HB; have HO_6 := n0_; have J101 := n1_; have HB := n2_; clear n0_ n1_ n2_; (try clear hb)
               (try clear hb2)
               (try clear hk)
               (try clear hi)
               refine hK.out _ _ ⟨(Xi J101.out 0).trans rfl, (Xi J101.out 1).trans rfl, (Xi J101.out 2).trans rfl, (Xi J101.out 3).trans rfl⟩ (fun hHeld => ?_); clear hK K; refine norm_ (a' := ?_) ?_ ?_; rotate_left
               ·show Act.put _ (some 45) _ = _
                simp only [Act.put, Xj, Xk, Xl, i64_w, i32_w]; rfl
               refine one_ (i := 17) (N := some 49) (Bq 21 262143) rfl rfl (one_of HT_.out (by kernel_rfl)) (by decide) (fun K hK => ?_); refine goes_ Try.func66 (by kernel_rfl) rfl #[.agg #[.int .i64 a0_0, .int .i64 a0_1, .slice A0_2 l0_2.length c0_2, .slice (some ad105) l0_3.length c0_3], .int .i64 x8_2, .int .i64 x7_1] (by rfl) rfl rfl (by (try simp only [Xm, Xn, Xo]); first | done | rfl | (simp only [Xp, Xq]; rfl)) ?_; with_reducible refine (diaphoneref03_way.calls a0_0 a0_1 _ _ l0_2 _ _ l0_3 x8_2 x7_1 t110 _ ?side1 ?side2 ?side3 ?side4 A22.out).mono ?_
               (case side1 => repeat (first | exact (Xu HR0_2.out HB.out) | (with_reducible refine Xr ?_ _) | (with_reducible refine Xs ?_ _) | (with_reducible refine Xt ?_)))
               (case side2 => exact HC0_2.out)
               (case side3 => repeat (first | exact (Xu HR0_3.out HB.out) | (with_reducible refine Xr ?_ _) | (with_reducible refine Xs ?_ _) | (with_reducible refine Xt ?_)))
               (case side4 => exact HC0_3.out)
               rintro e w29 ⟨rfl, hb⟩; refine ⟨_, rfl, ?_⟩; have n0_ := XB (Xy (by (with_reducible repeat (first | apply Xv | apply Xw | apply Xx)); exact HO_6.out) hb); have n1_ := XB (XA (g := gb101) (o := .cells #[.int .i64 a0_0, .int .i64 a0_1, .slice A0_2 l0_2.length c0_2, .slice (some ad105) l0_3.length c0_3] 24 (0, 0)) (by (with_reducible repeat (first | refine Xf ?_ _ | refine Xg ?_ | refine Xe ?_ _)); exact J101.out) hb); have n2_ := XB (Xz (by repeat (first | (with_reducible first | exact HB.out | apply Xc | apply Xa | apply Xb | refine Xd ?_ E101.out) | exact HB.out)) hb); clear HO_6; clear J101; clear HB; have HO_6 := n0_; have J101 := n1_; have HB := n2_; clear n0_ n1_ n2_; (try clear hb)
               (try clear hb2)
               (try clear hk)
               (try clear hi)
               refine hK.out _ _ ⟨(Xi J101.out 0).trans rfl, (Xi J101.out 1).trans rfl, (Xi J101.out 2).trans rfl, (Xi J101.out 3).trans rfl⟩ (fun hHeld => ?_); clear hK K; refine norm_ (a' := ?_) ?_ ?_; rotate_left
               ·show Act.put _ (some 49) _ = _
                simp only [Act.put, Xj, Xk, Xl, i64_w, i32_w]; rfl
               refine pure_ (i := 18) (N := some 50) (v := ?_) (a' := ?_) (Bq 21 524287) rfl rfl (any_of HT_.out (by kernel_rfl)) (fun _ _ _ h => h) (Or.inl ⟨by rfl, ?_⟩) ?_ ?_; rotate_left
               ·intro w'; go_simp; with_reducible rfl
               rotate_left
               ·simp only [Act.put, Xj, Xk, Xl, i64_w, i32_w]; rfl
               refine pure_ (i := 19) (N := some 51) (v := ?_) (a' := ?_) (Bq 21 1048575) rfl rfl (any_of HT_.out (by kernel_rfl)) (fun _ _ _ h => h) (Or.inl ⟨by rfl, ?_⟩) ?_ ?_; rotate_left
               ·intro w'; go_simp; with_reducible rfl
               rotate_left
               ·simp only [Act.put, Xj, Xk, Xl, i64_w, i32_w]; rfl
               refine pure_ (i := 20) (N := some 52) (v := ?_) (a' := ?_) (Bq 21 2097151) rfl rfl (any_of HT_.out (by kernel_rfl)) (fun _ _ _ h => h) (Or.inl ⟨by rfl, ?_⟩) ?_ ?_; rotate_left
               ·intro w'; go_simp; with_reducible rfl
               rotate_left
               ·simp only [Act.put, Xj, Xk, Xl, i64_w, i32_w]; rfl
               refine done_ (done_of HT_.out (by kernel_rfl)) ?_; try go_wp2
               go_roundg k2
               case measure => have := HK1.out; have := HK2.out; omega
               case rel => exact ⟨(x8_2), (wrap64 (x9_2 + 1)), (by first | rfl | (simp; done) | (simp [*]; done)), (by first | rfl | (simp; done) | (simp [*]; done)), H', ⟨by have := HK1.out; have := HK2.out; omega⟩, ⟨by (with_reducible repeat (first | apply Xv | apply Xw | apply Xx)); exact HO_6.out⟩, ⟨by (with_reducible repeat (first | refine Xf ?_ _ | refine Xg ?_ | refine Xe ?_ _)); exact J101.out⟩, ⟨by repeat (first | (with_reducible first | exact HB.out | apply Xc | apply Xa | apply Xb | refine Xd ?_ E101.out) | exact HB.out)⟩⟩
            ·rw [if_neg c18] at H; have c18b0 : ((Go.bits .and .i64 (ji17) 1) == 1) = false := beq_eq_false_iff_ne.mpr c18; have c18b1 : ((Go.bits .and .i64 (ji17) 1) != 1) = true := bne_iff_ne.mpr c18; have H' := XB H; clear H; try go_wp2
             have n0_ := XB (Xx HO_6.out); have n1_ := XB (Xg J101.out); have n2_ := XB (Xb HB.out); clear HO_6; clear J101; clear HB; have HO_6 := n0_; have J101 := n1_; have HB := n2_; clear n0_ n1_ n2_; refine start_ (n := 21) (S := fun w' => True) (ds := []) #[false, false, false, false, false, false, false, false, false, false, false, false, false, false, false, false, false, false, false, false, false] (by kernel_rfl) rfl rfl trivial (fun hHeld => ?_); refine with_tabW diaphoneref03_at.tab10 diaphoneref03_at.bits10 (fun HT_ HW_ => ?_); generalize wr.drew = w30 at HO_6 J101 HB hHeld ⊢
             refine pure_ (i := 0) (N := some 32) (v := ?_) (a' := ?_) (Bq 21 1) rfl rfl (any_of HT_.out (by kernel_rfl)) (fun _ _ _ h => h) (Or.inl ⟨by rfl, ?_⟩) ?_ ?_; rotate_left
             ·intro w'; go_simp; with_reducible rfl
             rotate_left
             ·simp only [Act.put, Xj, Xk, Xl, i64_w, i32_w]; rfl
             refine pure_ (i := 1) (N := some 33) (v := ?_) (a' := ?_) (Bq 21 3) rfl rfl (any_of HT_.out (by kernel_rfl)) (fun _ _ _ h => h) (Or.inl ⟨by rfl, ?_⟩) ?_ ?_; rotate_left
             ·intro w'; go_simp; with_reducible rfl
             rotate_left
             ·simp only [Act.put, Xj, Xk, Xl, i64_w, i32_w]; rfl
             refine pure_ (i := 2) (N := some 34) (v := ?_) (a' := ?_) (Bq 21 7) rfl rfl (any_of HT_.out (by kernel_rfl)) (fun _ _ _ h => h) (Or.inl ⟨by rfl, ?_⟩) ?_ ?_; rotate_left
             ·intro w'; go_simp; with_reducible rfl
             rotate_left
             ·simp only [Act.put, Xj, Xk, Xl, i64_w, i32_w]; rfl
             refine pure_ (i := 3) (N := some 35) (v := ?_) (a' := ?_) (Bq 21 15) rfl rfl (any_of HT_.out (by kernel_rfl)) (fun _ _ _ h => h) (Or.inl ⟨by rfl, ?_⟩) ?_ ?_; rotate_left
             ·intro w'; go_simp; with_reducible rfl
             rotate_left
             ·simp only [Act.put, Xj, Xk, Xl, i64_w, i32_w]; rfl
             refine pure_ (i := 4) (N := some 36) (v := ?_) (a' := ?_) (Bq 21 31) rfl rfl (any_of HT_.out (by kernel_rfl)) (fun _ _ _ h => h) (Or.inl ⟨by rfl, ?_⟩) ?_ ?_; rotate_left
             ·intro w'; go_simp; with_reducible rfl
             rotate_left
             ·simp only [Act.put, Xj, Xk, Xl, i64_w, i32_w]; rfl
             refine pure_ (i := 5) (N := some 37) (v := ?_) (a' := ?_) (Bq 21 63) rfl rfl (any_of HT_.out (by kernel_rfl)) (fun _ _ _ h => h) (Or.inl ⟨by rfl, ?_⟩) ?_ ?_; rotate_left
             ·intro w'; go_simp; with_reducible rfl
             rotate_left
             ·simp only [Act.put, Xj, Xk, Xl, i64_w, i32_w]; rfl
             refine pure_ (i := 6) (N := some 38) (v := ?_) (a' := ?_) (Bq 21 127) rfl rfl (any_of HT_.out (by kernel_rfl)) (fun _ _ _ h => h) (Or.inl ⟨by rfl, ?_⟩) ?_ ?_; rotate_left
             ·intro w'; go_simp; with_reducible rfl
             rotate_left
             ·simp only [Act.put, Xj, Xk, Xl, i64_w, i32_w]; rfl
             refine pure_ (i := 7) (N := some 39) (v := undef) (a' := ?_) (Bq 21 255) rfl rfl (any_of HT_.out (by kernel_rfl)) (fun _ _ _ h => h) (Or.inr ⟨by rfl, rfl⟩) ?_ ?_; rotate_left
             ·simp only [Act.put, Xj, Xk, Xl, i64_w, i32_w]; rfl
             refine pure_ (i := 8) (N := some 40) (v := undef) (a' := ?_) (Bq 21 511) rfl rfl (any_of HT_.out (by kernel_rfl)) (fun _ _ _ h => h) (Or.inr ⟨by rfl, rfl⟩) ?_ ?_; rotate_left
             ·simp only [Act.put, Xj, Xk, Xl, i64_w, i32_w]; rfl
             refine pure_ (i := 9) (N := some 41) (v := undef) (a' := ?_) (Bq 21 1023) rfl rfl (any_of HT_.out (by kernel_rfl)) (fun _ _ _ h => h) (Or.inr ⟨by rfl, rfl⟩) ?_ ?_; rotate_left
             ·simp only [Act.put, Xj, Xk, Xl, i64_w, i32_w]; rfl
             refine pure_ (i := 10) (N := some 42) (v := undef) (a' := ?_) (Bq 21 2047) rfl rfl (any_of HT_.out (by kernel_rfl)) (fun _ _ _ h => h) (Or.inr ⟨by rfl, rfl⟩) ?_ ?_; rotate_left
             ·simp only [Act.put, Xj, Xk, Xl, i64_w, i32_w]; rfl
             refine pure_ (i := 11) (N := some 43) (v := undef) (a' := ?_) (Bq 21 4095) rfl rfl (any_of HT_.out (by kernel_rfl)) (fun _ _ _ h => h) (Or.inr ⟨by rfl, rfl⟩) ?_ ?_; rotate_left
             ·simp only [Act.put, Xj, Xk, Xl, i64_w, i32_w]; rfl
             refine pure_ (i := 12) (N := some 44) (v := undef) (a' := ?_) (Bq 21 8191) rfl rfl (any_of HT_.out (by kernel_rfl)) (fun _ _ _ h => h) (Or.inr ⟨by rfl, rfl⟩) ?_ ?_; rotate_left
             ·simp only [Act.put, Xj, Xk, Xl, i64_w, i32_w]; rfl
             refine pure_ (i := 13) (N := some 45) (v := undef) (a' := ?_) (Bq 21 16383) rfl rfl (any_of HT_.out (by kernel_rfl)) (fun _ _ _ h => h) (Or.inr ⟨by rfl, rfl⟩) ?_ ?_; rotate_left
             ·simp only [Act.put, Xj, Xk, Xl, i64_w, i32_w]; rfl
             refine pure_ (i := 14) (N := some 46) (v := undef) (a' := ?_) (Bq 21 32767) rfl rfl (any_of HT_.out (by kernel_rfl)) (fun _ _ _ h => h) (Or.inr ⟨by rfl, rfl⟩) ?_ ?_; rotate_left
             ·simp only [Act.put, Xj, Xk, Xl, i64_w, i32_w]; rfl
             refine pure_ (i := 15) (N := some 47) (v := undef) (a' := ?_) (Bq 21 65535) rfl rfl (any_of HT_.out (by kernel_rfl)) (fun _ _ _ h => h) (Or.inr ⟨by rfl, rfl⟩) ?_ ?_; rotate_left
             ·simp only [Act.put, Xj, Xk, Xl, i64_w, i32_w]; rfl
             refine pure_ (i := 16) (N := some 48) (v := undef) (a' := ?_) (Bq 21 131071) rfl rfl (any_of HT_.out (by kernel_rfl)) (fun _ _ _ h => h) (Or.inr ⟨by rfl, rfl⟩) ?_ ?_; rotate_left
             ·simp only [Act.put, Xj, Xk, Xl, i64_w, i32_w]; rfl
             refine pure_ (i := 17) (N := some 49) (v := undef) (a' := ?_) (Bq 21 262143) rfl rfl (any_of HT_.out (by kernel_rfl)) (fun _ _ _ h => h) (Or.inr ⟨by rfl, rfl⟩) ?_ ?_; rotate_left
             ·simp only [Act.put, Xj, Xk, Xl, i64_w, i32_w]; rfl
             refine pure_ (i := 18) (N := some 50) (v := undef) (a' := ?_) (Bq 21 524287) rfl rfl (any_of HT_.out (by kernel_rfl)) (fun _ _ _ h => h) (Or.inr ⟨by rfl, rfl⟩) ?_ ?_; rotate_left
             ·simp only [Act.put, Xj, Xk, Xl, i64_w, i32_w]; rfl
             refine pure_ (i := 19) (N := some 51) (v := undef) (a' := ?_) (Bq 21 1048575) rfl rfl (any_of HT_.out (by kernel_rfl)) (fun _ _ _ h => h) (Or.inr ⟨by rfl, rfl⟩) ?_ ?_; rotate_left
             ·simp only [Act.put, Xj, Xk, Xl, i64_w, i32_w]; rfl
             refine pure_ (i := 20) (N := some 52) (v := ?_) (a' := ?_) (Bq 21 2097151) rfl rfl (any_of HT_.out (by kernel_rfl)) (fun _ _ _ h => h) (Or.inl ⟨by rfl, ?_⟩) ?_ ?_; rotate_left
             ·intro w'; go_simp; with_reducible rfl
             rotate_left
             ·simp only [Act.put, Xj, Xk, Xl, i64_w, i32_w]; rfl
             refine done_ (done_of HT_.out (by kernel_rfl)) ?_; try go_wp2
             go_roundg k2
             case measure => have := HK1.out; have := HK2.out; omega
             case rel => exact ⟨(x8_2), (wrap64 (x9_2 + 1)), (by first | rfl | (simp; done) | (simp [*]; done)), (by first | rfl | (simp; done) | (simp [*]; done)), H', ⟨by have := HK1.out; have := HK2.out; omega⟩, ⟨by (with_reducible repeat (first | apply Xv | apply Xw | apply Xx)); exact HO_6.out⟩, ⟨by (with_reducible repeat (first | refine Xf ?_ _ | refine Xg ?_ | refine Xe ?_ _)); exact J101.out⟩, ⟨by repeat (first | (with_reducible first | exact HB.out | apply Xc | apply Xa | apply Xb | refine Xd ?_ E101.out) | exact HB.out)⟩⟩
           ·rw [if_neg c16] at H; exact absurd H (by simp)
          ·rw [if_neg c14] at H; have c14b0 : decide (x9_2 ≤ x7_1) = false := decide_eq_false c14; clear c14; by_cases c31 : x8_2 < 0
           ·rw [if_pos c31] at H; have c31b0 : decide (x8_2 < 0) = true := decide_eq_true c31; clear c31; simp only [Option.some.injEq, Prod.mk.injEq] at H; obtain ⟨rfl, rfl⟩ := H; go_wp2
            go_ret2
            exact ⟨_, by first | rfl | (simp [errW_none, errW_some] <;> rfl) | (simp [*, errW_none, errW_some] <;> rfl), by first | exact Kd.R_nil _ _ _ _ _ | exact Kd.N_nil _ _ _ _ _ | exact Kd.V_nil _ _ _ _ _ | exact Kd.Q_nil _ _ _ _ _ | exact Kd.S_nil _ _ _ _ _, by repeat (first | (with_reducible first | exact HB.out | apply Xc | apply Xa | apply Xb | refine Xd ?_ E101.out) | exact HB.out)⟩
           ·rw [if_neg c31] at H; have c31b0 : decide (x8_2 < 0) = false := decide_eq_false c31; clear c31; by_cases c32 : 0 ≤ x8_2
            ·rw [if_pos c32] at H; have c32b0 : decide (0 ≤ x8_2) = true := decide_eq_true c32; clear c32; by_cases c33 : x8_2 < (x6_1.length : Int)
             ·rw [if_pos c33] at H; have c33b0 : decide (x8_2 < (x6_1.length : Int)) = true := decide_eq_true c33; clear c33; by_cases c34 : 0 ≤ x7_1
              ·rw [if_pos c34] at H; have c34b0 : decide (0 ≤ x7_1) = true := decide_eq_true c34; clear c34; by_cases c35 : x7_1 < (l0_3.length : Int)
               ·rw [if_pos c35] at H; have c35b0 : decide (x7_1 < (l0_3.length : Int)) = true := decide_eq_true c35; clear c35; obtain ⟨y108, hy108⟩ : ∃ y_ : List Int, y_ = (x6_1.set (x8_2 : Int).toNat (wrap64 ((rd x6_1 x8_2) + (rd l0_3 x7_1)))) := ⟨_, rfl⟩
                replace H : (diaphoneref03_at.l0 k2 a1 y108 (wrap64 (x7_1 + 1)) a0_0 a0_1 l0_2 l0_3) = some (r1, r2) := by first | (rw [hy108]; with_reducible exact H) | (have H2_ := (Option.bind_some _ _).symm.trans H; rw [hy108]; with_reducible exact H2_) | (have H2_ := (Option.bind_some _ _).symm.trans H; with_reducible exact H2_) | with_reducible exact H | (rw [hy108]; exact H) | exact H
                have Ny108 := XB hy108; clear hy108; have H' := XB H; clear H; try go_wp2
                have n0_ := XB (Xx HO_6.out); have n1_ := XB (Xg J101.out); have n2_ := XB (Xb HB.out); clear HO_6; clear J101; clear HB; have HO_6 := n0_; have J101 := n1_; have HB := n2_; clear n0_ n1_ n2_; obtain ⟨Ao38, co38, eo38⟩ := Kd.R_slice HO_6.out; (first | subst eo38 | (injection eo38 with f1_ f2_ f3_; have f4_ := f1_.symm; have f5_ := f3_.symm; clear f1_ f2_ f3_; subst f4_; subst f5_))
                have p106 : 0 ≤ (x8_2 : Int) := of_decide_eq_true (by first | (with_reducible assumption) | assumption); have q106 : x8_2 < (x6_1.length : Int) := of_decide_eq_true (by first | (with_reducible assumption) | assumption); obtain ⟨ad106, e106, hx106_0⟩ := Kd.at_int (XD HO_6.out).2.2 x8_2 p106 q106
                cases e106
                replace p106 := eq_true p106; replace q106 := eq_true q106; have p107 : 0 ≤ (x7_1 : Int) := of_decide_eq_true (by first | (with_reducible assumption) | assumption); have q107 : x7_1 < (l0_3.length : Int) := of_decide_eq_true (by first | (with_reducible assumption) | assumption); obtain ⟨ad107, e107, hx107_0⟩ := Kd.at_int HR0_3.out x7_1 p107 q107; have hw107_0 := hx107_0; obtain rfl : ad105 = ad107 := (by injection e107); replace hx107_0 := (HB.out.cell (World.block_lt_of_cell? w _ hx107_0)).trans hx107_0; replace p107 := eq_true p107; replace q107 := eq_true q107; have p36 : 0 ≤ (x8_2 : Int) := of_decide_eq_true (by first | (with_reducible assumption) | assumption); have q36 : (x8_2 : Int) < ((x6_1.length : Int) : Int) := of_decide_eq_true (by first | (with_reducible assumption) | assumption); obtain ⟨go36, co36, eo36, gb36, gl36, cl36, HG36⟩ := Kd.R_form HO_6.out (by omega); (first | cases eo36 | (injection eo36 with ea_ en_ ec_; (first | subst ea_ | (injection ea_ with ea_; subst ea_)); subst ec_; clear en_))
                have GB36 := XB gb36; have GG36 := XB HG36; clear gb36 gl36 HG36; (first | simp only [add_plain] at hx106_0 | skip)
                obtain ⟨hx36_0, hf36_0⟩ := Kd.R_celln 0 HO_6.out (x8_2 : Int) p36 q36; replace p36 := eq_true p36; replace q36 := eq_true q36; have HP39 := Kd.R_putn HO_6.out (x8_2 : Int) (wrap64 ((rd x6_1 x8_2) + (rd l0_3 x7_1))); rw [← Ny108.out] at HP39; have HQ39 := XB HP39; clear HP39; refine start_ (n := 12) (S := fun w' => w'.cell? ⟨gb101, 0, none⟩ = some (.int .i64 a0_0) ∧ w'.cell? ⟨gb101, 1, none⟩ = some (.int .i64 a0_1) ∧ w'.cell? ⟨gb101, 2, none⟩ = some (.slice A0_2 l0_2.length c0_2) ∧ w'.cell? ⟨gb101, 3, none⟩ = some (.slice (some ad105) l0_3.length c0_3) ∧ w'.cell? ⟨go36, (x8_2).toNat, none⟩ = some (.int .i64 (rd x6_1 x8_2)) ∧ w'.cell? (ad105.add (x7_1).toNat) = some (.int .i64 (rd l0_3 x7_1))) (ds := [11]) #[false, false, false, false, false, false, false, false, false, false, false, false] (by kernel_rfl) rfl rfl ⟨(Xi J101.out 0).trans rfl, (Xi J101.out 1).trans rfl, (Xi J101.out 2).trans rfl, (Xi J101.out 3).trans rfl, hx106_0, ((HB.out.cell (World.block_lt_of_cell? w _ hw107_0)).trans hw107_0)⟩ (fun hHeld => ?_); refine with_tabW diaphoneref03_at.tab14 diaphoneref03_at.bits14 (fun HT_ HW_ => ?_); generalize wr.drew = w37 at HO_6 J101 HB GG36 HQ39 hf36_0 hx106_0 hx107_0 hx36_0 hHeld ⊢
                refine pure_ (i := 0) (N := some 56) (v := ?_) (a' := ?_) (Bq 12 1) rfl rfl (any_of HT_.out (by kernel_rfl)) (fun _ _ _ h => h) (Or.inl ⟨by rfl, ?_⟩) ?_ ?_; rotate_left
                ·intro w'; go_simp; with_reducible rfl
                rotate_left
                ·simp only [Act.put, Xj, Xk, Xl, i64_w, i32_w]; rfl
                refine pure_ (i := 1) (N := some 57) (v := ?_) (a' := ?_) (Bq 12 3) rfl rfl (any_of HT_.out (by kernel_rfl)) (fun _ _ _ h => h) (Or.inl ⟨by rfl, ?_⟩) ?_ ?_; rotate_left
                ·intro w'; go_simp; with_reducible rfl
                rotate_left
                ·simp only [Act.put, Xj, Xk, Xl, i64_w, i32_w]; rfl
                refine pure_ (i := 2) (N := some 58) (v := ?_) (a' := ?_) (Bq 12 7) rfl rfl (any_of HT_.out (by kernel_rfl)) (fun _ _ _ h => h) (Or.inl ⟨by rfl, ?_⟩) ?_ ?_; rotate_left
                ·intro w'; go_simp; with_reducible rfl
                rotate_left
                ·simp only [Act.put, Xj, Xk, Xl, i64_w, i32_w]; rfl
                refine pure_ (i := 4) (N := some 60) (v := ?_) (a' := ?_) (Bq 12 23) rfl rfl (any_of HT_.out (by kernel_rfl)) (fun _ _ _ h => h) (Or.inl ⟨by rfl, ?_⟩) ?_ ?_; rotate_left
                ·intro w'; go_simp; with_reducible rfl
                rotate_left
                ·simp only [Act.put, Xj, Xk, Xl, i64_w, i32_w]; rfl
                refine pure_ (i := 6) (N := some 62) (v := ?_) (a' := ?_) (Bq 12 87) rfl rfl (any_of HT_.out (by kernel_rfl)) (fun _ _ _ h => h) (Or.inl ⟨by rfl, ?_⟩) ?_ ?_; rotate_left
                ·intro w'; go_simp; with_reducible rfl
                rotate_left
                ·simp only [Act.put, Xj, Xk, Xl, i64_w, i32_w]; rfl
                refine take_ (i := 3) (N := some 59) (v := ?_) (a' := ?_) (Bq 12 95) rfl rfl (take_ofW HT_.out HW_.out (by kernel_rfl)) (fun _ _ _ h => h) (Or.inl ⟨by rfl, ?_⟩) hHeld ?_ ?_; rotate_left
                ·rintro w' ⟨s0, s1, s2, s3, s4, s5⟩; go_simp; with_reducible rfl
                rotate_left
                ·simp only [Act.put, Xj, Xk, Xl, i64_w, i32_w]; rfl
                refine take_ (i := 5) (N := some 61) (v := ?_) (a' := ?_) (Bq 12 127) rfl rfl (take_ofW HT_.out HW_.out (by kernel_rfl)) (fun _ _ _ h => h) (Or.inl ⟨by rfl, ?_⟩) hHeld ?_ ?_; rotate_left
                ·rintro w' ⟨s0, s1, s2, s3, s4, s5⟩; go_simp; with_reducible rfl
                rotate_left
                ·simp only [Act.put, Xj, Xk, Xl, i64_w, i32_w]; rfl
                refine pure_ (i := 7) (N := some 63) (v := ?_) (a' := ?_) (Bq 12 255) rfl rfl (any_of HT_.out (by kernel_rfl)) (fun _ _ _ h => h) (Or.inl ⟨by rfl, ?_⟩) ?_ ?_; rotate_left
                ·intro w'; go_simp; with_reducible rfl
                rotate_left
                ·simp only [Act.put, Xj, Xk, Xl, i64_w, i32_w]; rfl
                refine take_ (i := 8) (N := some 64) (v := ?_) (a' := ?_) (Bq 12 511) rfl rfl (take_ofW HT_.out HW_.out (by kernel_rfl)) (fun _ _ _ h => h) (Or.inl ⟨by rfl, ?_⟩) hHeld ?_ ?_; rotate_left
                ·rintro w' ⟨s0, s1, s2, s3, s4, s5⟩; go_simp; with_reducible rfl
                rotate_left
                ·simp only [Act.put, Xj, Xk, Xl, i64_w, i32_w]; rfl
                refine pure_ (i := 9) (N := some 65) (v := ?_) (a' := ?_) (Bq 12 1023) rfl rfl (any_of HT_.out (by kernel_rfl)) (fun _ _ _ h => h) (Or.inl ⟨by rfl, ?_⟩) ?_ ?_; rotate_left
                ·intro w'; go_simp; with_reducible rfl
                rotate_left
                ·simp only [Act.put, Xj, Xk, Xl, i64_w, i32_w]; rfl
                refine pure_ (i := 10) (N := some 66) (v := ?_) (a' := ?_) (Bq 12 2047) rfl rfl (any_of HT_.out (by kernel_rfl)) (fun _ _ _ h => h) (Or.inl ⟨by rfl, ?_⟩) ?_ ?_; rotate_left
                ·intro w'; go_simp; with_reducible rfl
                rotate_left
                ·simp only [Act.put, Xj, Xk, Xl, i64_w, i32_w]; rfl
                refine last_ (i := 11) (N := none) (Bq 12 4095) rfl rfl (one_of HT_.out (by kernel_rfl)) (by decide) (fun K hK => ?_); refine skip_ (w1 := ?_) (by rfl) rfl ?_ ?_; rotate_left
                ·go_simp; rfl
                refine hK.out _ _ ?_; clear hK K; refine done_ (done_of HT_.out (by kernel_rfl)) ?_; try go_wp2
                go_roundg k2
                case measure => have := HK1.out; have := HK2.out; omega
                case rel => exact ⟨(y108), (wrap64 (x7_1 + 1)), (by first | rfl | (simp; done) | (simp [*]; done)), H', ⟨by have := HK1.out; have := HK2.out; omega⟩, ⟨by (with_reducible repeat (first | apply Xv | apply Xw | apply Xx)); exact HQ39.out⟩, ⟨by (with_reducible repeat (first | refine Xf ?_ _ | refine Xg ?_ | refine Xe ?_ _)); refine blk_far ?_ (by have h_ := Kd.R_ne HO_6.out J101.out (by decide); intro e_; exact h_ (by rw [e_]; rfl)) _; (with_reducible repeat (first | refine Xf ?_ _ | refine Xg ?_ | refine Xe ?_ _)); exact J101.out⟩, ⟨by repeat (first | (with_reducible first | exact HB.out | apply Xc | apply Xa | apply Xb | refine Xd ?_ GB36.out | refine Xd ?_ E101.out) | exact HB.out)⟩⟩
               ·rw [if_neg c35] at H; exact absurd H (by simp)
              ·rw [if_neg c34] at H; exact absurd H (by simp)
             ·rw [if_neg c33] at H; exact absurd H (by simp)
            ·rw [if_neg c32] at H; exact absurd H (by simp)
      ·rw [if_neg c10] at H; exact absurd H (by simp)
     ·rw [if_neg c9] at H; have c9b0 : decide (x7_1 < (l0_3.length : Int)) = false := decide_eq_false c9; clear c9; simp only [Option.some.injEq, Prod.mk.injEq] at H; obtain ⟨rfl, rfl⟩ := H; have hcz40_0 : wr.cell? ⟨gb101, 0, none⟩ = some (.int .i64 a0_0) := (Xi J101.out 0).trans rfl; have hcz40_1 : wr.cell? ⟨gb101, 1, none⟩ = some (.int .i64 a0_1) := (Xi J101.out 1).trans rfl; have hcz40_2 : wr.cell? ⟨gb101, 2, none⟩ = some (.slice A0_2 l0_2.length c0_2) := (Xi J101.out 2).trans rfl; have hcz40_3 : wr.cell? ⟨gb101, 3, none⟩ = some (.slice A0_3 l0_3.length c0_3) := (Xi J101.out 3).trans rfl; have hfz40_0 := Xh J101.out 0; have hfz40_1 := Xh J101.out 1; have hfz40_2 := Xh J101.out 2; have hfz40_3 := Xh J101.out 3; go_wp2
      go_ret2
      exact ⟨_, by first | rfl | (simp [errW_none, errW_some] <;> rfl) | (simp [*, errW_none, errW_some] <;> rfl), by (with_reducible repeat (first | apply Xv | apply Xw | apply Xx)); exact HO_6.out, by repeat (first | (with_reducible first | exact HB.out | apply Xc | apply Xa | apply Xb | refine Xd ?_ E101.out) | exact HB.out)⟩
  ·rw [if_neg c4] at H; exact absurd H (by simp)
 ·rw [if_neg c3] at H; exact absurd H (by simp)

end Go.Proofs.Ytboefcikdfjfmaa.P
