-- laid by a program of this session (wip/tools): plain functions of the Go code and their contracts
-- thinned
import Derived.Test.YtcbepmdnhjojdaaPx0
import Derived.Test.YtcbepmdnhjojdaaPx7
import Derived.Test.YtcbepmdnhjojdaaPx44
namespace Go.Proofs.Ytcbepmdnhjojdaa.P
open Go.RowKit Go.Proofs.YtcbepmdnhjojdaaW.PrintWords Go.Proofs.YtcbepmdnhjojdaaW.PrintLast Go.Proofs.YtcbepmdnhjojdaaW.PrintMore
attribute [local go_sem] max2_int min2_int max_two min_two max_three min_three max_four min_four   -- for this text's walks alone
set_option linter.unusedVariables false
set_option linter.unusedSimpArgs false

/-! ### diaphoneref06_Table: function 47 -/
mutual
def diaphoneref06_Table.l0 : Nat → List Int → List Int → List (List Int) → Int → Int → Int → Int → Option ((List (List Int)) × Int)
 | 0, _, _, _, _, _, _, _ => none
 | k + 1, x0, x1, x9, x10, x102000, x102001, x102002 => if x10 ≤ (x0.length : Int) then (diaphoneref06_Table.l1 k x0 x1 x9 x10 ([] : List Int) 0 x102000 x102001 x102002) else (some (x9, 0))
def diaphoneref06_Table.l1 : Nat → List Int → List Int → List (List Int) → Int → List Int → Int → Int → Int → Int → Option ((List (List Int)) × Int)
 | 0, _, _, _, _, _, _, _, _, _ => none
 | k + 1, x0, x1, x9, x10, x11, x12, x102000, x102001, x102002 => if x12 ≤ (x1.length : Int) then (if 0 ≤ x10 then (if x10 ≤ (x0.length : Int) then (if 0 ≤ x12 then ((diaphoneref06_distance.f k (x0.take (x10 : Int).toNat) (x1.take (x12 : Int).toNat) x102000 x102001 x102002).bind fun t105 => (if x11.length < 17592186044416 then (diaphoneref06_Table.l1 k x0 x1 x9 x10 (x11 ++ [t105]) (wrap64 (x12 + 1)) x102000 x102001 x102002) else (none))) else (none)) else (none)) else (none)) else (if x9.length < 5864062014805 then (diaphoneref06_Table.l0 k x0 x1 (x9 ++ [x11]) (wrap64 (x10 + 1)) x102000 x102001 x102002) else (none))
end
def diaphoneref06_Table.f (k : Nat) (l0 : List Int) (l1 : List Int) (a2_0 : Int) (a2_1 : Int) (a2_2 : Int) : Option ((List (List Int)) × Int) := (diaphoneref06_costed.f k l0 l1 a2_0 a2_1 a2_2).bind fun t102 => (if t102 = 0 then (diaphoneref06_Table.l0 k l0 l1 ([] : List (List Int)) 0 a2_0 a2_1 a2_2) else (some (([] : List (List Int)), t102)))
theorem diaphoneref06_Table.mono_l : ∀ k, (∀ y0 y1 y2 y3 y4 y5 y6, LeO (diaphoneref06_Table.l0 k y0 y1 y2 y3 y4 y5 y6) (diaphoneref06_Table.l0 (k + 1) y0 y1 y2 y3 y4 y5 y6)) ∧ (∀ y0 y1 y2 y3 y4 y5 y6 y7 y8, LeO (diaphoneref06_Table.l1 k y0 y1 y2 y3 y4 y5 y6 y7 y8) (diaphoneref06_Table.l1 (k + 1) y0 y1 y2 y3 y4 y5 y6 y7 y8))
 | 0 => ⟨fun _ _ _ _ _ _ _ r h => by simp [diaphoneref06_Table.l0] at h, fun _ _ _ _ _ _ _ _ _ r h => by simp [diaphoneref06_Table.l1] at h⟩
 | k + 1 => by
  obtain ⟨ih0, ih1⟩ := diaphoneref06_Table.mono_l k; refine ⟨?_, ?_⟩
  ·intro y0 y1 y2 y3 y4 y5 y6; unfold diaphoneref06_Table.l0; repeat' first
   | (with_reducible exact ih0 _ _ _ _ _ _ _)
   | (with_reducible exact ih1 _ _ _ _ _ _ _ _ _)
   | (with_reducible exact diaphoneref06_costed.mono _ _ _ _ _ _)
   | (with_reducible exact diaphoneref06_distance.mono _ _ _ _ _ _)
   | (with_reducible exact LeO.refl _)
   | (with_reducible exact LeO.none _)
   | (with_reducible refine LeO.ite ?_ ?_)
   | (with_reducible refine LeO.bind ?_ (fun _ => ?_))
   | exact ih0 _ _ _ _ _ _ _
   | exact ih1 _ _ _ _ _ _ _ _ _
   | exact diaphoneref06_costed.mono _ _ _ _ _ _
   | exact diaphoneref06_distance.mono _ _ _ _ _ _
   | exact LeO.none _
   | refine LeO.ite ?_ ?_
   | refine LeO.bind ?_ (fun _ => ?_)
  ·intro y0 y1 y2 y3 y4 y5 y6 y7 y8; unfold diaphoneref06_Table.l1; repeat' first
   | (with_reducible exact ih0 _ _ _ _ _ _ _)
   | (with_reducible exact ih1 _ _ _ _ _ _ _ _ _)
   | (with_reducible exact diaphoneref06_costed.mono _ _ _ _ _ _)
   | (with_reducible exact diaphoneref06_distance.mono _ _ _ _ _ _)
   | (with_reducible exact LeO.refl _)
   | (with_reducible exact LeO.none _)
   | (with_reducible refine LeO.ite ?_ ?_)
   | (with_reducible refine LeO.bind ?_ (fun _ => ?_))
   | exact ih0 _ _ _ _ _ _ _
   | exact ih1 _ _ _ _ _ _ _ _ _
   | exact diaphoneref06_costed.mono _ _ _ _ _ _
   | exact diaphoneref06_distance.mono _ _ _ _ _ _
   | exact LeO.none _
   | refine LeO.ite ?_ ?_
   | refine LeO.bind ?_ (fun _ => ?_)
theorem diaphoneref06_Table.mono : ∀ a0 a1 a2 a3 a4 k, LeO (diaphoneref06_Table.f k a0 a1 a2 a3 a4) (diaphoneref06_Table.f (k + 1) a0 a1 a2 a3 a4) := by
 intro a0 a1 a2 a3 a4 k; obtain ⟨ih0, ih1⟩ := diaphoneref06_Table.mono_l k; unfold diaphoneref06_Table.f; repeat' first
   | (with_reducible exact ih0 _ _ _ _ _ _ _)
   | (with_reducible exact ih1 _ _ _ _ _ _ _ _ _)
   | (with_reducible exact diaphoneref06_costed.mono _ _ _ _ _ _)
   | (with_reducible exact diaphoneref06_distance.mono _ _ _ _ _ _)
   | (with_reducible exact LeO.refl _)
   | (with_reducible exact LeO.none _)
   | (with_reducible refine LeO.ite ?_ ?_)
   | (with_reducible refine LeO.bind ?_ (fun _ => ?_))
   | exact ih0 _ _ _ _ _ _ _
   | exact ih1 _ _ _ _ _ _ _ _ _
   | exact diaphoneref06_costed.mono _ _ _ _ _ _
   | exact diaphoneref06_distance.mono _ _ _ _ _ _
   | exact LeO.none _
   | refine LeO.ite ?_ ?_
   | refine LeO.bind ?_ (fun _ => ?_)
def diaphoneref06_Table.T12 : Bool × List (List Nat × List Nat) := (true, [([], []), ([], []), ([], []), ([1, 2], [1, 2]), ([], []), ([], []), ([4, 5], [4, 5]), ([], []), ([3, 6, 7], [3, 6, 7]), ([8], [8]), ([0, 9, 8], [0, 9]), ([10, 10, 0, 1, 2, 3, 4, 5, 6, 7, 8, 9, 10], [0, 10])])
def diaphoneref06_Table.B12 : List Nat := [0, 0, 0, 6, 0, 0, 48, 0, 254, 510, 1023, 2047]
theorem diaphoneref06_Table.tab12 : rtab .any (opsOf Try.f47 12) = diaphoneref06_Table.T12 := by kernel_rfl
theorem diaphoneref06_Table.bits12 : waitsOk diaphoneref06_Table.T12.2 diaphoneref06_Table.B12 = true := by kernel_rfl
set_option maxHeartbeats 8000000 in
set_option maxRecDepth 100000 in
theorem diaphoneref06_Table.calls (k : Nat) (A0 : Option Addr) (c0 : Nat) (l0 : List Int) (A1 : Option Addr) (c1 : Nat) (l1 : List Int) (a2_0 : Int) (a2_1 : Int) (a2_2 : Int) (r1 : List (List Int)) (r2 : Int) (w : World) (hr0 : Kd.C (Kd.int .i64) w A0 l0.length l0) (hc0 : l0.length ≤ c0) (hr1 : Kd.C (Kd.int .i64) w A1 l1.length l1) (hc1 : l1.length ≤ c1) (h : diaphoneref06_Table.f k l0 l1 a2_0 a2_1 a2_2 = some (r1, r2)) :
  Calls Try.prog 47 #[.slice A0 l0.length c0, .slice A1 l1.length c1, .agg #[.int .i64 a2_0, .int .i64 a2_1, .int .i64 a2_2]] w fun e w' => ∃ v0_ : Value, e = .returned (.tuple #[v0_, .int .i64 r2]) ∧ Kd.S (Kd.slice 3 (Kd.int .i64)) 22 w' w.heap.size (fun _ => True) v0_ r1 ∧ Below w.heap.size w w' := by
 have hu24 := Try.underlying24; have HR0 := XB hr0; have HC0 := XB hc0; clear hr0 hc0; have HR1 := XB hr1; have HC1 := XB hc1; clear hr1 hc1; have HB := XB (Below.refl w.heap.size w); have H : ((diaphoneref06_costed.f k l0 l1 a2_0 a2_1 a2_2).bind fun t102 => (if t102 = 0 then (diaphoneref06_Table.l0 k l0 l1 ([] : List (List Int)) 0 a2_0 a2_1 a2_2) else (some (([] : List (List Int)), t102)))) = some (r1, r2) := h; clear h; replace H := Option.bind_eq_some_iff.mp H; obtain ⟨t102, A40, H⟩ := H; replace H : (if t102 = 0 then (diaphoneref06_Table.l0 k l0 l1 ([] : List (List Int)) 0 a2_0 a2_1 a2_2) else (some (([] : List (List Int)), t102))) = some (r1, r2) := H; have A4 := XB A40; clear A40; by_cases c5 : t102 = 0
 ·rw [if_pos c5] at H; have c5b0 : (t102 == 0) = true := beq_iff_eq.mpr c5; have c5b1 : (t102 != 0) = false := bne_eq_false_iff_eq.mpr c5; clear c5; have H' := XB H; clear H; go_enter Try.func47, Try.ntmps47
  go_wp2_with (first | ((with_reducible refine gate_dst (N := 5) rfl ?_); refine box_event ?hg (N := 5) ?hd (cs := #[.int .i64 a2_0, .int .i64 a2_1, .int .i64 a2_2]) (t := 24) ?hr ?_; (case hd => rfl); (case hg => rfl); (case hr => first | (go_simp; done) | (go_simp; rfl)); intro gb101 hg w6 hbox hb; have n0_ := XB (Xz (by repeat (first | (with_reducible first | exact HB.out | apply Xc | apply Xa | apply Xb) | exact HB.out)) hb); have n1_ := XB (hbox); have n2_ := XB ((by rw [hg]; exact (XC (by repeat (first | (with_reducible first | exact HB.out | apply Xc | apply Xa | apply Xb) | exact HB.out))) : w.heap.size ≤ gb101)); have n3_ := XB ((by rw [hg]; exact (XC (by repeat (first | (with_reducible first | exact HB.out | apply Xc | apply Xa | apply Xb) | exact HB.out))) : w.heap.size ≤ gb101)); clear HB; have HB := n0_; have J101 := n1_; have GW101 := n2_; have E101 := n3_; clear n0_ n1_ n2_ n3_; clear hb hbox hg; have hcz7_0 : w6.cell? ⟨gb101, 0, none⟩ = some (.int .i64 a2_0) := (Xi J101.out 0).trans rfl; have hcz7_1 : w6.cell? ⟨gb101, 1, none⟩ = some (.int .i64 a2_1) := (Xi J101.out 1).trans rfl; have hcz7_2 : w6.cell? ⟨gb101, 2, none⟩ = some (.int .i64 a2_2) := (Xi J101.out 2).trans rfl; have hfz7_0 := Xh J101.out 0; have hfz7_1 := Xh J101.out 1; have hfz7_2 := Xh J101.out 2) | ((with_reducible refine gate_callee (f := 59) rfl ?_); refine goesL_ (some 16) rfl rfl Try.func59 (by kernel_rfl) rfl #[.slice A0 l0.length c0, .slice A1 l1.length c1, .agg #[.int .i64 a2_0, .int .i64 a2_1, .int .i64 a2_2]] rfl (by (try simp only [Xm, Xn, Xo]); first | done | rfl | (simp only [Xp, Xq]; rfl)) ?_; (with_reducible refine (diaphoneref06_costed.calls k _ _ l0 _ _ l1 a2_0 a2_1 a2_2 t102 _ ?side1 ?side2 ?side3 ?side4 A4.out).mono ?_); (case side1 => repeat (first | exact (Xu HR0.out HB.out) | (with_reducible refine Xr ?_ _) | (with_reducible refine Xs ?_ _) | (with_reducible refine Xt ?_))); (case side2 => exact HC0.out); (case side3 => repeat (first | exact (Xu HR1.out HB.out) | (with_reducible refine Xr ?_ _) | (with_reducible refine Xs ?_ _) | (with_reducible refine Xt ?_))); (case side4 => exact HC1.out); rintro e w8 ⟨rfl, hb⟩; refine ⟨_, rfl, ?_⟩; have n0_ := XB (XA (g := gb101) (o := .cells #[.int .i64 a2_0, .int .i64 a2_1, .int .i64 a2_2] 24 (0, 0)) (by (with_reducible repeat (first | refine Xf ?_ _ | refine Xg ?_ | refine Xe ?_ _)); exact J101.out) hb); have n1_ := XB (Xz (by repeat (first | (with_reducible first | exact HB.out | apply Xc | apply Xa | apply Xb | refine Xd ?_ E101.out) | exact HB.out)) hb); clear J101; clear HB; have J101 := n0_; have HB := n1_; clear n0_ n1_; (try clear hb); (try clear hb2); (try clear hk); (try clear hi)))
  go_loopg [9, 10] k (fun kq v9 v10 w' => ∃ (x9_1 : List (List Int)) (x10_1 : Int), v10 = .int .i64 x10_1 ∧ Aside0 (diaphoneref06_Table.l0 kq l0 l1 x9_1 x10_1 a2_0 a2_1 a2_2 = some (r1, r2)) ∧ Aside0 (kq ≤ k) ∧ Aside0 (Kd.S (Kd.slice 3 (Kd.int .i64)) 22 w' w.heap.size (fun _ => True) v9 x9_1) ∧ Aside0 (w'.heap[gb101]? = some (.cells #[.int .i64 a2_0, .int .i64 a2_1, .int .i64 a2_2] 24 (0, 0))) ∧ Aside0 (Below w.heap.size w w'))
  case atStart => exact ⟨(([] : List (List Int))), (0), (by first | rfl | (simp; done) | (simp [*]; done)), H', ⟨Nat.le_refl _⟩, ⟨by first | exact Kd.S_nil _ _ _ _ _ | exact Kd.N_nil _ _ _ _ _ | exact Kd.V_nil _ _ _ _ _ | exact Kd.Q_nil _ _ _ _ _ | exact Kd.R_nil _ _ _ _ _⟩, ⟨by (with_reducible repeat (first | refine Xf ?_ _ | refine Xg ?_ | refine Xe ?_ _)); exact J101.out⟩, ⟨by repeat (first | (with_reducible first | exact HB.out | apply Xc | apply Xa | apply Xb | refine Xd ?_ E101.out) | exact HB.out)⟩⟩
  case round =>
   clear H'; try clear c1
   try clear p2
   try clear c4
   try clear c5
   try clear c5b0
   try clear c5b1
   try clear hcz7_0
   try clear hcz7_1
   try clear hcz7_2
   try clear hfz7_0
   try clear hfz7_1
   try clear hfz7_2
   obtain ⟨x9_1, x10_1, rfl, HA, HK1, HO_9, J101, HB⟩ := hrel
   cases gk with
   | zero => exact absurd HA.out (by simp [diaphoneref06_Table.l0])
   | succ k1 =>
    have H := HA.out; clear HA; simp only [diaphoneref06_Table.l0] at H; by_cases c9 : x10_1 ≤ (l0.length : Int)
    ·rw [if_pos c9] at H; have c9b0 : decide (x10_1 ≤ (l0.length : Int)) = true := decide_eq_true c9; clear c9; have H' := XB H; clear H; go_wp2
     go_loopg [11, 12] k1 (fun kq v11 v12 w' => ∃ (x11_2 : List Int) (x12_2 : Int), v12 = .int .i64 x12_2 ∧ Aside0 (diaphoneref06_Table.l1 kq l0 l1 x9_1 x10_1 x11_2 x12_2 a2_0 a2_1 a2_2 = some (r1, r2)) ∧ Aside0 (kq ≤ k1) ∧ Aside0 (Kd.S (Kd.slice 3 (Kd.int .i64)) 22 w' w.heap.size (fun k_ => some k_ ≠ (v11 : Value).ownBlock) u9 x9_1) ∧ Aside0 (Kd.R (Kd.int .i64) 3 w' w.heap.size (fun _ => True) v11 x11_2) ∧ Aside0 (w'.heap[gb101]? = some (.cells #[.int .i64 a2_0, .int .i64 a2_1, .int .i64 a2_2] 24 (0, 0))) ∧ Aside0 (Below w.heap.size w w'))
     case atStart => exact ⟨(([] : List Int)), (0), (by first | rfl | (simp; done) | (simp [*]; done)), H', ⟨Nat.le_refl _⟩, ⟨by (with_reducible repeat (first | apply Kd.S_alloc | apply Kd.S_drewN | apply Kd.S_drew)); exact Kd.S_mono HO_9.out (fun _ hk => (by simp [Value.ownBlock]))⟩, ⟨by first | exact Kd.R_nil _ _ _ _ _ | exact Kd.N_nil _ _ _ _ _ | exact Kd.V_nil _ _ _ _ _ | exact Kd.Q_nil _ _ _ _ _ | exact Kd.S_nil _ _ _ _ _⟩, ⟨by (with_reducible repeat (first | refine Xf ?_ _ | refine Xg ?_ | refine Xe ?_ _)); exact J101.out⟩, ⟨by repeat (first | (with_reducible first | exact HB.out | apply Xc | apply Xa | apply Xb | refine Xd ?_ E101.out) | exact HB.out)⟩⟩
     case round =>
      clear H'; try clear c1
      try clear p2
      try clear c4
      try clear c5
      try clear c5b0
      try clear c5b1
      try clear c9
      try clear c9b0
      try clear hcz7_0
      try clear hcz7_1
      try clear hcz7_2
      try clear hfz7_0
      try clear hfz7_1
      try clear hfz7_2
      try clear p2
      obtain ⟨x11_2, x12_2, rfl, HA, HK2, HO_9, HO_11, J101, HB⟩ := hrel
      cases gk with
      | zero => exact absurd HA.out (by simp [diaphoneref06_Table.l1])
      | succ k2 =>
       have H := HA.out; clear HA; simp only [diaphoneref06_Table.l1] at H; by_cases c10 : x12_2 ≤ (l1.length : Int)
       ·rw [if_pos c10] at H; have c10b0 : decide (x12_2 ≤ (l1.length : Int)) = true := decide_eq_true c10; clear c10; by_cases c11 : 0 ≤ x10_1
        ·rw [if_pos c11] at H; have c11b0 := eq_true c11; have c11b1 : decide (0 ≤ x10_1) = true := decide_eq_true c11; clear c11; by_cases c12 : x10_1 ≤ (l0.length : Int)
         ·rw [if_pos c12] at H; have c12b0 := eq_true c12; have c12b1 : decide (x10_1 ≤ (l0.length : Int)) = true := decide_eq_true c12; clear c12; by_cases c13 : 0 ≤ x12_2
          ·rw [if_pos c13] at H; have c13b0 := eq_true c13; have c13b1 : decide (0 ≤ x12_2) = true := decide_eq_true c13; clear c13; have c14b0 := eq_true (of_decide_eq_true (by first | (with_reducible assumption) | assumption) : x12_2 ≤ (l1.length : Int)); replace H := Option.bind_eq_some_iff.mp H; obtain ⟨t105, A150, H⟩ := H; replace H : (if x11_2.length < 17592186044416 then (diaphoneref06_Table.l1 k2 l0 l1 x9_1 x10_1 (x11_2 ++ [t105]) (wrap64 (x12_2 + 1)) a2_0 a2_1 a2_2) else (none)) = some (r1, r2) := H; have A15 := XB A150; clear A150; by_cases c16 : x11_2.length < 17592186044416
           ·rw [if_pos c16] at H; have LMc16 := XB c16; clear c16; obtain ⟨y106, hy106⟩ : ∃ y_ : List Int, y_ = (x11_2 ++ [t105]) := ⟨_, rfl⟩
            replace H : (diaphoneref06_Table.l1 k2 l0 l1 x9_1 x10_1 y106 (wrap64 (x12_2 + 1)) a2_0 a2_1 a2_2) = some (r1, r2) := by first | (rw [hy106]; with_reducible exact H) | (have H2_ := (Option.bind_some _ _).symm.trans H; rw [hy106]; with_reducible exact H2_) | (have H2_ := (Option.bind_some _ _).symm.trans H; with_reducible exact H2_) | with_reducible exact H | (rw [hy106]; exact H) | exact H
            have Ny106 := XB hy106; clear hy106; have H' := XB H; clear H; try go_wp2
            have n0_ := XB (Kd.S_drew HO_9.out); have n1_ := XB (Xx HO_11.out); have n2_ := XB (Xg J101.out); have n3_ := XB (Xb HB.out); clear HO_9; clear HO_11; clear J101; clear HB; have HO_9 := n0_; have HO_11 := n1_; have J101 := n2_; have HB := n3_; clear n0_ n1_ n2_ n3_; obtain ⟨i018, hi018, _, hsz18, _⟩ := info_parts info3; obtain ⟨hcut18, hA18, hC18⟩ := print_take_of (P := Try.prog) (Value.int .i64) 0 22 3 .i64 Try.underlying22 hi018 hsz18 A0 c0 l0 x10_1 (of_decide_eq_true (by first | (with_reducible assumption) | assumption)) (of_decide_eq_true (by first | (with_reducible assumption) | assumption)) HC0.out; have HR103 := XB (Kd.C_of_reads (h1 := fun _ => rfl) (hA18 _ (Kd.reads_of_C HR0.out))); have HC103 := XB hC18; clear hA18 hC18 hi018 hsz18; obtain ⟨i019, hi019, _, hsz19, _⟩ := info_parts info3; obtain ⟨hcut19, hA19, hC19⟩ := print_take_of (P := Try.prog) (Value.int .i64) 0 22 3 .i64 Try.underlying22 hi019 hsz19 A1 c1 l1 x12_2 (of_decide_eq_true (by first | (with_reducible assumption) | assumption)) (of_decide_eq_true (by first | (with_reducible assumption) | assumption)) HC1.out; have HR104 := XB (Kd.C_of_reads (h1 := fun _ => rfl) (hA19 _ (Kd.reads_of_C HR1.out))); have HC104 := XB hC19; clear hA19 hC19 hi019 hsz19; refine start_ (n := 12) (S := fun w' => w'.cell? ⟨gb101, 0, none⟩ = some (.int .i64 a2_0) ∧ w'.cell? ⟨gb101, 1, none⟩ = some (.int .i64 a2_1) ∧ w'.cell? ⟨gb101, 2, none⟩ = some (.int .i64 a2_2)) (ds := []) #[false, false, false, false, false, false, false, false, false, false, false, false] (by kernel_rfl) rfl rfl ⟨(Xi J101.out 0).trans rfl, (Xi J101.out 1).trans rfl, (Xi J101.out 2).trans rfl⟩ (fun hHeld => ?_); refine with_tabW diaphoneref06_Table.tab12 diaphoneref06_Table.bits12 (fun HT_ HW_ => ?_)
            generalize wr.drew = w17 at HO_9 HO_11 J101 HB HR103 HR104 hHeld ⊢
            refine pure_ (i := 0) (N := some 32) (v := ?_) (a' := ?_) (Bq 12 1) rfl rfl (any_of HT_.out (by kernel_rfl)) (fun _ _ _ h => h) (Or.inl ⟨by rfl, ?_⟩) ?_ ?_; rotate_left
            ·intro w'; go_simp; with_reducible rfl
            rotate_left
            ·simp only [Act.put, Xj, Xk, Xl, i64_w, i32_w]; rfl
            refine pure_ (i := 1) (N := some 33) (v := ?_) (a' := ?_) (Bq 12 3) rfl rfl (any_of HT_.out (by kernel_rfl)) (fun _ _ _ h => h) (Or.inl ⟨by rfl, ?_⟩) ?_ ?_; rotate_left
            ·intro w'; go_simp; with_reducible rfl
            rotate_left
            ·simp only [Act.put, Xj, Xk, Xl, i64_w, i32_w]; rfl
            refine pure_ (i := 2) (N := some 34) (v := ?_) (a' := ?_) (Bq 12 7) rfl rfl (any_of HT_.out (by kernel_rfl)) (fun _ _ _ h => h) (Or.inl ⟨by rfl, ?_⟩) ?_ ?_; rotate_left
            ·intro w'; go_simp; with_reducible rfl
            rotate_left
            ·simp only [Act.put, Xj, Xk, Xl, i64_w, i32_w]; rfl
            refine pure_ (i := 3) (N := some 35) (v := ?_) (a' := ?_) (Bq 12 15) rfl rfl (any_of HT_.out (by kernel_rfl)) (fun _ _ _ h => h) (Or.inl ⟨by rfl, ?_⟩) ?_ ?_; rotate_left
            ·intro w'; go_simp; with_reducible rfl
            rotate_left
            ·simp only [Act.put, Xj, Xk, Xl, i64_w, i32_w]; rfl
            refine pure_ (i := 4) (N := some 36) (v := ?_) (a' := ?_) (Bq 12 31) rfl rfl (any_of HT_.out (by kernel_rfl)) (fun _ _ _ h => h) (Or.inl ⟨by rfl, ?_⟩) ?_ ?_; rotate_left
            ·intro w'; go_simp; with_reducible rfl
            rotate_left
            ·simp only [Act.put, Xj, Xk, Xl, i64_w, i32_w]; rfl
            refine pure_ (i := 5) (N := some 37) (v := ?_) (a' := ?_) (Bq 12 63) rfl rfl (any_of HT_.out (by kernel_rfl)) (fun _ _ _ h => h) (Or.inl ⟨by rfl, ?_⟩) ?_ ?_; rotate_left
            ·intro w'; go_simp; with_reducible rfl
            rotate_left
            ·simp only [Act.put, Xj, Xk, Xl, i64_w, i32_w]; rfl
            refine pure_ (i := 6) (N := some 38) (v := ?_) (a' := ?_) (Bq 12 127) rfl rfl (any_of HT_.out (by kernel_rfl)) (fun _ _ _ h => h) (Or.inl ⟨by rfl, ?_⟩) ?_ ?_; rotate_left
            ·intro w'; go_simp; with_reducible rfl
            rotate_left
            ·simp only [Act.put, Xj, Xk, Xl, i64_w, i32_w]; rfl
            refine take_ (i := 7) (N := some 39) (v := ?_) (a' := ?_) (Bq 12 255) rfl rfl (take_ofW HT_.out HW_.out (by kernel_rfl)) (fun _ _ _ h => h) (Or.inl ⟨by rfl, ?_⟩) hHeld ?_ ?_; rotate_left
            ·rintro w' ⟨s0, s1, s2⟩; go_simp; with_reducible rfl
            rotate_left
            ·simp only [Act.put, Xj, Xk, Xl, i64_w, i32_w]; rfl
            refine one_ (i := 8) (N := some 40) (Bq 12 511) rfl rfl (one_of HT_.out (by kernel_rfl)) (by decide) (fun K hK => ?_); refine goes_ Try.func62 (by kernel_rfl) rfl #[.slice A0 (l0.take (x10_1 : Int).toNat).length c0, .slice A1 (l1.take (x12_2 : Int).toNat).length c1, .agg #[.int .i64 a2_0, .int .i64 a2_1, .int .i64 a2_2]] (by rfl) rfl rfl (by (try simp only [Xm, Xn, Xo]); first | done | (rw [show (l0.take (x10_1 : Int).toNat).length = x10_1.toNat from (by rw [Xq]; have h_ : (x10_1 : Int) ≤ (l0.length : Int) := of_decide_eq_true (by first | (with_reducible assumption) | assumption); omega), show (l1.take (x12_2 : Int).toNat).length = x12_2.toNat from (by rw [Xq]; have h_ : (x12_2 : Int) ≤ (l1.length : Int) := of_decide_eq_true (by first | (with_reducible assumption) | assumption); omega)] <;> rfl) | (rw [show (l0.take (x10_1 : Int).toNat).length = x10_1.toNat from (by rw [Xq]; have h_ : (x10_1 : Int) ≤ (l0.length : Int) := of_decide_eq_true (by first | (with_reducible assumption) | assumption); omega)] <;> rfl) | (rw [show (l1.take (x12_2 : Int).toNat).length = x12_2.toNat from (by rw [Xq]; have h_ : (x12_2 : Int) ≤ (l1.length : Int) := of_decide_eq_true (by first | (with_reducible assumption) | assumption); omega)] <;> rfl) | rfl | (simp only [Xp, Xq]; rfl)) ?_; with_reducible refine (diaphoneref06_distance.calls k2 _ _ (l0.take (x10_1 : Int).toNat) _ _ (l1.take (x12_2 : Int).toNat) a2_0 a2_1 a2_2 t105 _ ?side1 ?side2 ?side3 ?side4 A15.out).mono ?_
            (case side1 => repeat (first | exact (Xu HR103.out HB.out) | (with_reducible refine Xr ?_ _) | (with_reducible refine Xs ?_ _) | (with_reducible refine Xt ?_)))
            (case side2 => exact HC103.out)
            (case side3 => repeat (first | exact (Xu HR104.out HB.out) | (with_reducible refine Xr ?_ _) | (with_reducible refine Xs ?_ _) | (with_reducible refine Xt ?_)))
            (case side4 => exact HC104.out)
            rintro e w20 ⟨rfl, hb⟩; refine ⟨_, rfl, ?_⟩; have n0_ := XB (Kd.S_below (by (with_reducible repeat (first | apply Kd.S_alloc | apply Kd.S_drewN | apply Kd.S_drew)); exact HO_9.out) hb); have n1_ := XB (Xy (by (with_reducible repeat (first | apply Xv | apply Xw | apply Xx)); exact HO_11.out) hb); have n2_ := XB (XA (g := gb101) (o := .cells #[.int .i64 a2_0, .int .i64 a2_1, .int .i64 a2_2] 24 (0, 0)) (by (with_reducible repeat (first | refine Xf ?_ _ | refine Xg ?_ | refine Xe ?_ _)); exact J101.out) hb); have n3_ := XB (Xz (by repeat (first | (with_reducible first | exact HB.out | apply Xc | apply Xa | apply Xb | refine Xd ?_ E101.out) | exact HB.out)) hb); clear HO_9; clear HO_11; clear J101; clear HB; have HO_9 := n0_; have HO_11 := n1_; have J101 := n2_; have HB := n3_; clear n0_ n1_ n2_ n3_; (try clear hb)
            (try clear hb2)
            (try clear hk)
            (try clear hi)
            refine hK.out _ _ ⟨(Xi J101.out 0).trans rfl, (Xi J101.out 1).trans rfl, (Xi J101.out 2).trans rfl⟩ (fun hHeld => ?_); clear hK K; refine norm_ (a' := ?_) ?_ ?_; rotate_left
            ·show Act.put _ (some 40) _ = _
             simp only [Act.put, Xj, Xk, Xl, i64_w, i32_w]; rfl
            refine one_ (i := 9) (N := some 41) (Bq 12 1023) rfl rfl (one_of HT_.out (by kernel_rfl)) (by decide) (fun K hK => ?_); refine value_ (w1 := ?_) (v := ?_) (by rfl) rfl ?_ ?_; rotate_left 2
            ·go_simp; constructor
             ·rfl
             ·rfl
            refine hK.out _ _ ⟨(Xi (Xe J101.out _) 0).trans rfl, (Xi (Xe J101.out _) 1).trans rfl, (Xi (Xe J101.out _) 2).trans rfl⟩ (fun hHeld => ?_); clear hK K; refine norm_ (a' := ?_) ?_ ?_; rotate_left
            ·show Act.put _ (some 41) _ = _
             simp only [Act.put, Xj, Xk, Xl, i64_w, i32_w]; rfl
            refine one_ (i := 10) (N := some 42) (Bq 12 2047) rfl rfl (one_of HT_.out (by kernel_rfl)) (by decide) (fun K hK => ?_); refine Kd.R_append_step (Kd.int .i64) (w0 := w) w.heap.size (by rfl) (.tmp 32) (.tmp 41) 22 3 (.int .i64 0) 8 rfl Try.underlying22 info3 rfl (by decide) (by omega) u11 x11_2 t105 [.int .i64 t105] (fun _ => True) (fun _ => False) rfl rfl ?aP (fun _ hk => hk.elim) ?aF ?aO ?aB ?aS ?aL ?_; (case aP => exact rfl)
            (case aB => exact (by repeat (first | (with_reducible first | exact HB.out | apply Xc | apply Xa | apply Xb | refine Xd ?_ E101.out) | exact HB.out)))
            (case aF => exact (fun _ _ => trivial))
            (case aO => exact (by (with_reducible repeat (first | apply Xv | apply Xw | apply Xx)); exact HO_11.out))
            (case aS => exact (XC (by repeat (first | (with_reducible first | exact HB.out | apply Xc | apply Xa | apply Xb | refine Xd ?_ E101.out) | exact HB.out))))
            (case aL => have := LMc16.out; omega)
            intro v107 w21 ho hb hg hat; rw [← Ny106.out] at ho; have n0_ := XB (Kd.S_after (ok := (fun _ => True)) (by (with_reducible repeat (first | apply Kd.S_alloc | apply Kd.S_drewN | apply Kd.S_drew)); exact Kd.S_mono HO_9.out (fun _ hk => ⟨trivial, hk⟩)) hg hat); have n1_ := XB (blk_grown (g := gb101) (o := .cells #[.int .i64 a2_0, .int .i64 a2_1, .int .i64 a2_2] 24 (0, 0)) (by (with_reducible repeat (first | refine Xf ?_ _ | refine Xg ?_ | refine Xe ?_ _)); exact J101.out) hg (Kd.R_ne HO_11.out J101.out (by decide))); have n2_ := XB (hb); have n3_ := XB (ho); clear HO_9; clear J101; clear HB; clear HO_11; have HO_9 := n0_; have J101 := n1_; have HB := n2_; have HO108 := n3_; clear n0_ n1_ n2_ n3_; clear ho hb hg hat; refine hK.out _ _ ⟨(Xi J101.out 0).trans rfl, (Xi J101.out 1).trans rfl, (Xi J101.out 2).trans rfl⟩ (fun hHeld => ?_); clear hK K; refine norm_ (a' := ?_) ?_ ?_; rotate_left
            ·show Act.put _ (some 42) _ = _
             simp only [Act.put, Xj, Xk, Xl, i64_w, i32_w]; rfl
            refine pure_ (i := 11) (N := some 11) (v := ?_) (a' := ?_) (Bq 12 4095) rfl rfl (any_of HT_.out (by kernel_rfl)) (fun _ _ _ h => h) (Or.inl ⟨by rfl, ?_⟩) ?_ ?_; rotate_left
            ·intro w'; go_simp; with_reducible rfl
            rotate_left
            ·simp only [Act.put, Xj, Xk, Xl, i64_w, i32_w]; rfl
            refine done_ (done_of HT_.out (by kernel_rfl)) ?_; try go_wp2
            go_roundg k2
            case measure => have := HK1.out; have := HK2.out; omega
            case rel => exact ⟨(y106), (wrap64 (x12_2 + 1)), (by first | rfl | (simp; done) | (simp [*]; done)), H', ⟨by have := HK1.out; have := HK2.out; omega⟩, ⟨by (with_reducible repeat (first | apply Kd.S_alloc | apply Kd.S_drewN | apply Kd.S_drew)); exact Kd.S_mono HO_9.out (fun _ hk => hk.2)⟩, ⟨by (with_reducible repeat (first | apply Xv | apply Xw | apply Xx)); exact HO108.out⟩, ⟨by (with_reducible repeat (first | refine Xf ?_ _ | refine Xg ?_ | refine Xe ?_ _)); exact J101.out⟩, ⟨by repeat (first | (with_reducible first | exact HB.out | apply Xc | apply Xa | apply Xb | refine Xd ?_ E101.out) | exact HB.out)⟩⟩
           ·rw [if_neg c16] at H; exact absurd H (by simp)
          ·rw [if_neg c13] at H; exact absurd H (by simp)
         ·rw [if_neg c12] at H; exact absurd H (by simp)
        ·rw [if_neg c11] at H; exact absurd H (by simp)
       ·rw [if_neg c10] at H; have c10b0 : decide (x12_2 ≤ (l1.length : Int)) = false := decide_eq_false c10; clear c10; by_cases c22 : x9_1.length < 5864062014805
        ·rw [if_pos c22] at H; have LMc22 := XB c22; clear c22; obtain ⟨y109, hy109⟩ : ∃ y_ : List (List Int), y_ = (x9_1 ++ [x11_2]) := ⟨_, rfl⟩
         replace H : (diaphoneref06_Table.l0 k2 l0 l1 y109 (wrap64 (x10_1 + 1)) a2_0 a2_1 a2_2) = some (r1, r2) := by first | (rw [hy109]; with_reducible exact H) | (have H2_ := (Option.bind_some _ _).symm.trans H; rw [hy109]; with_reducible exact H2_) | (have H2_ := (Option.bind_some _ _).symm.trans H; with_reducible exact H2_) | with_reducible exact H | (rw [hy109]; exact H) | exact H
         have Ny109 := XB hy109; clear hy109; have H' := XB H; clear H; obtain ⟨Ao24, co24, eo24⟩ := Kd.R_slice HO_11.out; subst eo24; go_wp2_with (first | ((with_reducible refine gate_builtin (b := .append) (xs := #[.tmp 43, .tmp 45]) rfl ?_); at_builtin; refine Kd.S_append (Kd.slice 3 (Kd.int .i64)) (w0 := w) w.heap.size rfl (.tmp 43) (.tmp 45) 44 22 (.slice none 0 0) 24 rfl Try.underlying44 info22 rfl (by decide) (by omega) u9 x9_1 x11_2 [.slice Ao24 x11_2.length co24] (fun _ => True) (fun k_ => some k_ = (.slice Ao24 x11_2.length co24 : Value).ownBlock) rfl rfl ?aP (fun k_ hk_ => ((Kd.R_mono (ok' := fun k_ => ((fun _ => True)) k_ ∧ some k_ ≠ (u9 : Value).ownBlock) (Kd.R_apart' (HO_11.out) (Kd.S_typed HO_9.out) (by decide)) (fun k_ hk => ⟨trivial, hk.2⟩))).1 k_ hk_.symm) ?aF ?aO ?aB ?aS ?aL ?_; (case aP => exact Kd.M_row (Kd.R_mono (Kd.R_tight rfl (Kd.R_mono (ok' := fun k_ => ((fun _ => True)) k_ ∧ some k_ ≠ (u9 : Value).ownBlock) (Kd.R_apart' (HO_11.out) (Kd.S_typed HO_9.out) (by decide)) (fun k_ hk => ⟨trivial, hk.2⟩))) (fun _ h_ => h_))); (case aB => exact (by repeat (first | (with_reducible first | exact HB.out | apply Xc | apply Xa | apply Xb | refine Xd ?_ E101.out) | exact HB.out))); (case aF => exact (fun _ _ => trivial)); (case aO => exact (by (with_reducible repeat (first | apply Kd.S_alloc | apply Kd.S_drewN | apply Kd.S_drew)); exact Kd.S_mono HO_9.out (fun k_ hk => ⟨trivial, fun e_ => hk e_⟩))); (case aS => exact (XC (by repeat (first | (with_reducible first | exact HB.out | apply Xc | apply Xa | apply Xb | refine Xd ?_ E101.out) | exact HB.out)))); (case aL => have := LMc22.out; omega); intro v110 w23 ho hb hg hat; rw [← Ny109.out] at ho; have n0_ := XB (blk_grown (g := gb101) (o := .cells #[.int .i64 a2_0, .int .i64 a2_1, .int .i64 a2_2] 24 (0, 0)) (by (with_reducible repeat (first | refine Xf ?_ _ | refine Xg ?_ | refine Xe ?_ _)); exact J101.out) hg (Kd.S_ne HO_9.out J101.out (by decide))); have n1_ := XB (hb); have n2_ := XB (ho); clear J101; clear HB; clear HO_9; clear HO_11; have J101 := n0_; have HB := n1_; have HO111 := n2_; clear n0_ n1_ n2_; clear ho hb hg hat))
         go_roundg k2
         case measure => have := HK1.out; have := HK2.out; omega
         case rel => exact ⟨(y109), (wrap64 (x10_1 + 1)), (by first | rfl | (simp; done) | (simp [*]; done)), H', ⟨by have := HK1.out; have := HK2.out; omega⟩, ⟨by (with_reducible repeat (first | apply Kd.S_alloc | apply Kd.S_drewN | apply Kd.S_drew)); exact HO111.out⟩, ⟨by (with_reducible repeat (first | refine Xf ?_ _ | refine Xg ?_ | refine Xe ?_ _)); exact J101.out⟩, ⟨by repeat (first | (with_reducible first | exact HB.out | apply Xc | apply Xa | apply Xb | refine Xd ?_ E101.out) | exact HB.out)⟩⟩
        ·rw [if_neg c22] at H; exact absurd H (by simp)
    ·rw [if_neg c9] at H; have c9b0 : decide (x10_1 ≤ (l0.length : Int)) = false := decide_eq_false c9; clear c9; simp only [Option.some.injEq, Prod.mk.injEq] at H; obtain ⟨rfl, rfl⟩ := H; go_wp2
     go_ret2
     exact ⟨_, by first | rfl | (simp [errW_none, errW_some] <;> rfl) | (simp [*, errW_none, errW_some] <;> rfl), by (with_reducible repeat (first | apply Kd.S_alloc | apply Kd.S_drewN | apply Kd.S_drew)); exact HO_9.out, by repeat (first | (with_reducible first | exact HB.out | apply Xc | apply Xa | apply Xb | refine Xd ?_ E101.out) | exact HB.out)⟩
 ·rw [if_neg c5] at H; have c5b0 : (t102 == 0) = false := beq_eq_false_iff_ne.mpr c5; have c5b1 : (t102 != 0) = true := bne_iff_ne.mpr c5; simp only [Option.some.injEq, Prod.mk.injEq] at H; obtain ⟨rfl, rfl⟩ := H; go_enter Try.func47, Try.ntmps47
  go_wp2_with (first | ((with_reducible refine gate_dst (N := 5) rfl ?_); refine box_event ?hg (N := 5) ?hd (cs := #[.int .i64 a2_0, .int .i64 a2_1, .int .i64 a2_2]) (t := 24) ?hr ?_; (case hd => rfl); (case hg => rfl); (case hr => first | (go_simp; done) | (go_simp; rfl)); intro gb101 hg w25 hbox hb; have n0_ := XB (Xz (by repeat (first | (with_reducible first | exact HB.out | apply Xc | apply Xa | apply Xb) | exact HB.out)) hb); have n1_ := XB (hbox); have n2_ := XB ((by rw [hg]; exact (XC (by repeat (first | (with_reducible first | exact HB.out | apply Xc | apply Xa | apply Xb) | exact HB.out))) : w.heap.size ≤ gb101)); have n3_ := XB ((by rw [hg]; exact (XC (by repeat (first | (with_reducible first | exact HB.out | apply Xc | apply Xa | apply Xb) | exact HB.out))) : w.heap.size ≤ gb101)); clear HB; have HB := n0_; have J101 := n1_; have GW101 := n2_; have E101 := n3_; clear n0_ n1_ n2_ n3_; clear hb hbox hg; have hcz26_0 : w25.cell? ⟨gb101, 0, none⟩ = some (.int .i64 a2_0) := (Xi J101.out 0).trans rfl; have hcz26_1 : w25.cell? ⟨gb101, 1, none⟩ = some (.int .i64 a2_1) := (Xi J101.out 1).trans rfl; have hcz26_2 : w25.cell? ⟨gb101, 2, none⟩ = some (.int .i64 a2_2) := (Xi J101.out 2).trans rfl; have hfz26_0 := Xh J101.out 0; have hfz26_1 := Xh J101.out 1; have hfz26_2 := Xh J101.out 2) | ((with_reducible refine gate_callee (f := 59) rfl ?_); refine goesL_ (some 16) rfl rfl Try.func59 (by kernel_rfl) rfl #[.slice A0 l0.length c0, .slice A1 l1.length c1, .agg #[.int .i64 a2_0, .int .i64 a2_1, .int .i64 a2_2]] rfl (by (try simp only [Xm, Xn, Xo]); first | done | rfl | (simp only [Xp, Xq]; rfl)) ?_; (with_reducible refine (diaphoneref06_costed.calls k _ _ l0 _ _ l1 a2_0 a2_1 a2_2 t102 _ ?side1 ?side2 ?side3 ?side4 A4.out).mono ?_); (case side1 => repeat (first | exact (Xu HR0.out HB.out) | (with_reducible refine Xr ?_ _) | (with_reducible refine Xs ?_ _) | (with_reducible refine Xt ?_))); (case side2 => exact HC0.out); (case side3 => repeat (first | exact (Xu HR1.out HB.out) | (with_reducible refine Xr ?_ _) | (with_reducible refine Xs ?_ _) | (with_reducible refine Xt ?_))); (case side4 => exact HC1.out); rintro e w27 ⟨rfl, hb⟩; refine ⟨_, rfl, ?_⟩; have n0_ := XB (XA (g := gb101) (o := .cells #[.int .i64 a2_0, .int .i64 a2_1, .int .i64 a2_2] 24 (0, 0)) (by (with_reducible repeat (first | refine Xf ?_ _ | refine Xg ?_ | refine Xe ?_ _)); exact J101.out) hb); have n1_ := XB (Xz (by repeat (first | (with_reducible first | exact HB.out | apply Xc | apply Xa | apply Xb | refine Xd ?_ E101.out) | exact HB.out)) hb); clear J101; clear HB; have J101 := n0_; have HB := n1_; clear n0_ n1_; (try clear hb); (try clear hb2); (try clear hk); (try clear hi)))
  go_ret2
  exact ⟨_, by first | rfl | (simp [errW_none, errW_some] <;> rfl) | (simp [*, errW_none, errW_some] <;> rfl), by first | exact Kd.S_nil _ _ _ _ _ | exact Kd.N_nil _ _ _ _ _ | exact Kd.V_nil _ _ _ _ _ | exact Kd.Q_nil _ _ _ _ _ | exact Kd.R_nil _ _ _ _ _, by repeat (first | (with_reducible first | exact HB.out | apply Xc | apply Xa | apply Xb | refine Xd ?_ E101.out) | exact HB.out)⟩

end Go.Proofs.Ytcbepmdnhjojdaa.P
