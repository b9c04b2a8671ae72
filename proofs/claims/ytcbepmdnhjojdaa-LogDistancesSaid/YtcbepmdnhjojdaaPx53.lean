-- laid by a program of this session (wip/tools): plain functions of the Go code and their contracts
-- thinned
import Derived.Test.YtcbepmdnhjojdaaPx0
import Derived.Test.YtcbepmdnhjojdaaPx2
import Derived.Test.YtcbepmdnhjojdaaPx21
namespace Go.Proofs.Ytcbepmdnhjojdaa.P
open Go.RowKit Go.Proofs.YtcbepmdnhjojdaaW.PrintWords Go.Proofs.YtcbepmdnhjojdaaW.PrintLast Go.Proofs.YtcbepmdnhjojdaaW.PrintMore
attribute [local go_sem] max2_int min2_int max_two min_two max_three min_three max_four min_four   -- for this text's walks alone
set_option linter.unusedVariables false
set_option linter.unusedSimpArgs false

/-! ### log_Best: function 42 -/
mutual
def log_Best.l0 : Nat → List Int → List Int → List (List Int) → List (S65) → Int → Int → Int → Int → Int → Option ((List (S65)) × Int)
 | 0, _, _, _, _, _, _, _, _, _ => none
 | k + 1, x0, x1, x9, x10, x11, x12, x102000, x102001, x102002 => if x11 > 0 then (log_Best.j1 k x0 x1 x9 x10 x11 x12 (decide (x12 > 0)) x102000 x102001 x102002) else (log_Best.j1 k x0 x1 x9 x10 x11 x12 false x102000 x102001 x102002)
def log_Best.j1 : Nat → List Int → List Int → List (List Int) → List (S65) → Int → Int → Bool → Int → Int → Int → Option ((List (S65)) × Int)
 | 0, _, _, _, _, _, _, _, _, _, _ => none
 | k + 1, x0, x1, x9, x10, x11, x12, x33, x102000, x102001, x102002 => if x33 = true then (if 0 ≤ x11 then (if x11 < (x9.length : Int) then (if 0 ≤ x12 then (if x12 < ((rd_L1 x9 x11).length : Int) then (if 0 ≤ (wrap64 (x11 - 1)) then (if (wrap64 (x11 - 1)) < (x9.length : Int) then (if 0 ≤ (wrap64 (x12 - 1)) then (if (wrap64 (x12 - 1)) < ((rd_L1 x9 (wrap64 (x11 - 1))).length : Int) then (if (wrap64 (x11 - 1)) < (x0.length : Int) then (if (wrap64 (x12 - 1)) < (x1.length : Int) then ((log_costBoth.f x102000 x102001 x102002 (rd x0 (wrap64 (x11 - 1))) (rd x1 (wrap64 (x12 - 1)))).bind fun t110 => (if (rd (rd_L1 x9 x11) x12) = (wrap64 ((rd (rd_L1 x9 (wrap64 (x11 - 1))) (wrap64 (x12 - 1))) + t110)) then (if x10.length < 8796093022208 then (log_Best.l0 k x0 x1 x9 (x10 ++ [(⟨wrap64 (x11 - 1), wrap64 (x12 - 1)⟩ : S65)]) (wrap64 (x11 - 1)) (wrap64 (x12 - 1)) x102000 x102001 x102002) else (none)) else (if x12 < ((rd_L1 x9 (wrap64 (x11 - 1))).length : Int) then ((log_costOut.f x102000 x102001 x102002).bind fun t116 => (if (rd (rd_L1 x9 x11) x12) = (wrap64 ((rd (rd_L1 x9 (wrap64 (x11 - 1))) x12) + t116)) then (log_Best.l0 k x0 x1 x9 x10 (wrap64 (x11 - 1)) x12 x102000 x102001 x102002) else (log_Best.l0 k x0 x1 x9 x10 x11 (wrap64 (x12 - 1)) x102000 x102001 x102002))) else (none)))) else (none)) else (none)) else (none)) else (none)) else (none)) else (none)) else (none)) else (none)) else (none)) else (none)) else ((api_Pair_78.f k x10).bind fun t103 => (some (t103, 0)))
end
def log_Best.f (k : Nat) (l0 : List Int) (l1 : List Int) (a2_0 : Int) (a2_1 : Int) (a2_2 : Int) : Option ((List (S65)) × Int) := (log_check.f k l0 l1 a2_0 a2_1 a2_2).bind fun t102 => (if t102 = 0 then (log_table.f l0 l1 a2_0 a2_1 a2_2).bind fun l3 => (log_Best.l0 k l0 l1 l3 ([] : List (S65)) (l0.length : Int) (l1.length : Int) a2_0 a2_1 a2_2) else (some (([] : List (S65)), t102)))
theorem log_Best.mono_l : ∀ k, (∀ y0 y1 y2 y3 y4 y5 y6 y7 y8, LeO (log_Best.l0 k y0 y1 y2 y3 y4 y5 y6 y7 y8) (log_Best.l0 (k + 1) y0 y1 y2 y3 y4 y5 y6 y7 y8)) ∧ (∀ y0 y1 y2 y3 y4 y5 y6 y7 y8 y9, LeO (log_Best.j1 k y0 y1 y2 y3 y4 y5 y6 y7 y8 y9) (log_Best.j1 (k + 1) y0 y1 y2 y3 y4 y5 y6 y7 y8 y9))
 | 0 => ⟨fun _ _ _ _ _ _ _ _ _ r h => by simp [log_Best.l0] at h, fun _ _ _ _ _ _ _ _ _ _ r h => by simp [log_Best.j1] at h⟩
 | k + 1 => by
  obtain ⟨ih0, ih1⟩ := log_Best.mono_l k; refine ⟨?_, ?_⟩
  ·intro y0 y1 y2 y3 y4 y5 y6 y7 y8; unfold log_Best.l0; repeat' first
   | (with_reducible exact ih0 _ _ _ _ _ _ _ _ _)
   | (with_reducible exact ih1 _ _ _ _ _ _ _ _ _ _)
   | (with_reducible exact api_Pair_78.mono _ _)
   | (with_reducible exact log_check.mono _ _ _ _ _ _)
   | (with_reducible exact LeO.refl _)
   | (with_reducible exact LeO.none _)
   | (with_reducible refine LeO.ite ?_ ?_)
   | (with_reducible refine LeO.bind ?_ (fun _ => ?_))
   | exact ih0 _ _ _ _ _ _ _ _ _
   | exact ih1 _ _ _ _ _ _ _ _ _ _
   | exact api_Pair_78.mono _ _
   | exact log_check.mono _ _ _ _ _ _
   | exact LeO.none _
   | refine LeO.ite ?_ ?_
   | refine LeO.bind ?_ (fun _ => ?_)
  ·intro y0 y1 y2 y3 y4 y5 y6 y7 y8 y9; unfold log_Best.j1; repeat' first
   | (with_reducible exact ih0 _ _ _ _ _ _ _ _ _)
   | (with_reducible exact ih1 _ _ _ _ _ _ _ _ _ _)
   | (with_reducible exact api_Pair_78.mono _ _)
   | (with_reducible exact log_check.mono _ _ _ _ _ _)
   | (with_reducible exact LeO.refl _)
   | (with_reducible exact LeO.none _)
   | (with_reducible refine LeO.ite ?_ ?_)
   | (with_reducible refine LeO.bind ?_ (fun _ => ?_))
   | exact ih0 _ _ _ _ _ _ _ _ _
   | exact ih1 _ _ _ _ _ _ _ _ _ _
   | exact api_Pair_78.mono _ _
   | exact log_check.mono _ _ _ _ _ _
   | exact LeO.none _
   | refine LeO.ite ?_ ?_
   | refine LeO.bind ?_ (fun _ => ?_)
theorem log_Best.mono : ∀ a0 a1 a2 a3 a4 k, LeO (log_Best.f k a0 a1 a2 a3 a4) (log_Best.f (k + 1) a0 a1 a2 a3 a4) := by
 intro a0 a1 a2 a3 a4 k; obtain ⟨ih0, ih1⟩ := log_Best.mono_l k; unfold log_Best.f; repeat' first
   | (with_reducible exact ih0 _ _ _ _ _ _ _ _ _)
   | (with_reducible exact ih1 _ _ _ _ _ _ _ _ _ _)
   | (with_reducible exact api_Pair_78.mono _ _)
   | (with_reducible exact log_check.mono _ _ _ _ _ _)
   | (with_reducible exact LeO.refl _)
   | (with_reducible exact LeO.none _)
   | (with_reducible refine LeO.ite ?_ ?_)
   | (with_reducible refine LeO.bind ?_ (fun _ => ?_))
   | exact ih0 _ _ _ _ _ _ _ _ _
   | exact ih1 _ _ _ _ _ _ _ _ _ _
   | exact api_Pair_78.mono _ _
   | exact log_check.mono _ _ _ _ _ _
   | exact LeO.none _
   | refine LeO.ite ?_ ?_
   | refine LeO.bind ?_ (fun _ => ?_)
def log_Best.T10 : Bool × List (List Nat × List Nat) := (true, [([], []), ([], []), ([1], [1]), ([0, 2], [0, 2]), ([3], [3]), ([], []), ([5], [5]), ([4, 6], [4, 6]), ([7], [7]), ([], []), ([], []), ([], []), ([11], [11]), ([10, 12], [10, 12]), ([13], [13]), ([], []), ([], []), ([16], [16]), ([15, 17], [15, 17]), ([18], [18]), ([14, 19], [14, 19]), ([20], [20]), ([9, 21], [9, 21]), ([8, 22], [8, 22]), ([23], [23]), ([24, 22], [24])])
def log_Best.B10 : List Nat := [0, 0, 2, 7, 15, 0, 32, 127, 255, 0, 0, 0, 2048, 7168, 15360, 0, 0, 65536, 229376, 491520, 1047552, 2096128, 4193792, 8388607, 16777215, 33554431]
theorem log_Best.tab10 : rtab .any (opsOf Try.f42 10) = log_Best.T10 := by kernel_rfl
theorem log_Best.bits10 : waitsOk log_Best.T10.2 log_Best.B10 = true := by kernel_rfl
def log_Best.T13 : Bool × List (List Nat × List Nat) := (true, [([], []), ([], []), ([1], [1]), ([0, 2], [0, 2]), ([3], [3]), ([], []), ([4, 5], [4, 5]), ([6], [6]), ([], []), ([], []), ([9], [9]), ([8, 10], [8, 10]), ([7, 11], [7, 11]), ([12], [12]), ([13, 11], [13])])
def log_Best.B13 : List Nat := [0, 0, 2, 7, 15, 0, 63, 127, 0, 0, 512, 1792, 4095, 8191, 16383]
theorem log_Best.tab13 : rtab .any (opsOf Try.f42 13) = log_Best.T13 := by kernel_rfl
theorem log_Best.bits13 : waitsOk log_Best.T13.2 log_Best.B13 = true := by kernel_rfl
set_option maxHeartbeats 8000000 in
set_option maxRecDepth 100000 in
theorem log_Best.calls (k : Nat) (A0 : Option Addr) (c0 : Nat) (l0 : List Int) (A1 : Option Addr) (c1 : Nat) (l1 : List Int) (a2_0 : Int) (a2_1 : Int) (a2_2 : Int) (r1 : List (S65)) (r2 : Int) (w : World) (hr0 : Kd.C (Kd.int .i64) w A0 l0.length l0) (hc0 : l0.length ≤ c0) (hr1 : Kd.C (Kd.int .i64) w A1 l1.length l1) (hc1 : l1.length ≤ c1) (h : log_Best.f k l0 l1 a2_0 a2_1 a2_2 = some (r1, r2)) :
  Calls Try.prog 42 #[.slice A0 l0.length c0, .slice A1 l1.length c1, .agg #[.int .i64 a2_0, .int .i64 a2_1, .int .i64 a2_2]] w fun e w' => ∃ v0_ : Value, e = .returned (.tuple #[v0_, .int .i64 r2]) ∧ Kd.R k65 65 w' w.heap.size (fun _ => True) v0_ r1 ∧ Below w.heap.size w w' := by
 have hu24 := Try.underlying24; have hu65 := Try.underlying65; have HR0 := XB hr0; have HC0 := XB hc0; clear hr0 hc0; have HR1 := XB hr1; have HC1 := XB hc1; clear hr1 hc1; have HB := XB (Below.refl w.heap.size w); have H : ((log_check.f k l0 l1 a2_0 a2_1 a2_2).bind fun t102 => (if t102 = 0 then ((log_table.f l0 l1 a2_0 a2_1 a2_2).bind fun l3 => (log_Best.l0 k l0 l1 l3 ([] : List (S65)) (l0.length : Int) (l1.length : Int) a2_0 a2_1 a2_2)) else (some (([] : List (S65)), t102)))) = some (r1, r2) := h; clear h; replace H := Option.bind_eq_some_iff.mp H; obtain ⟨t102, A50, H⟩ := H; replace H : (if t102 = 0 then ((log_table.f l0 l1 a2_0 a2_1 a2_2).bind fun l3 => (log_Best.l0 k l0 l1 l3 ([] : List (S65)) (l0.length : Int) (l1.length : Int) a2_0 a2_1 a2_2)) else (some (([] : List (S65)), t102))) = some (r1, r2) := H; have A5 := XB A50; clear A50; by_cases c6 : t102 = 0
 ·rw [if_pos c6] at H; obtain ⟨l3, A30, H⟩ := Option.bind_eq_some_iff.mp H; have AT3 := XB A30; clear A30; have c6b0 : (t102 == 0) = true := beq_iff_eq.mpr c6; have c6b1 : (t102 != 0) = false := bne_eq_false_iff_eq.mpr c6; clear c6; have H' := XB H; clear H; go_enter Try.func42, Try.ntmps42
  go_wp2_with (first | ((with_reducible refine gate_dst (N := 5) rfl ?_); refine box_event ?hg (N := 5) ?hd (cs := #[.int .i64 a2_0, .int .i64 a2_1, .int .i64 a2_2]) (t := 24) ?hr ?_; (case hd => rfl); (case hg => rfl); (case hr => first | (go_simp; done) | (go_simp; rfl)); intro gb101 hg w7 hbox hb; have n0_ := XB (Xz (by repeat (first | (with_reducible first | exact HB.out | apply Xc | apply Xa | apply Xb) | exact HB.out)) hb); have n1_ := XB (hbox); have n2_ := XB ((by rw [hg]; exact (XC (by repeat (first | (with_reducible first | exact HB.out | apply Xc | apply Xa | apply Xb) | exact HB.out))) : w.heap.size ≤ gb101)); have n3_ := XB ((by rw [hg]; exact (XC (by repeat (first | (with_reducible first | exact HB.out | apply Xc | apply Xa | apply Xb) | exact HB.out))) : w.heap.size ≤ gb101)); clear HB; have HB := n0_; have J101 := n1_; have GW101 := n2_; have E101 := n3_; clear n0_ n1_ n2_ n3_; clear hb hbox hg; have hcz8_0 : w7.cell? ⟨gb101, 0, none⟩ = some (.int .i64 a2_0) := (Xi J101.out 0).trans rfl; have hcz8_1 : w7.cell? ⟨gb101, 1, none⟩ = some (.int .i64 a2_1) := (Xi J101.out 1).trans rfl; have hcz8_2 : w7.cell? ⟨gb101, 2, none⟩ = some (.int .i64 a2_2) := (Xi J101.out 2).trans rfl; have hfz8_0 := Xh J101.out 0; have hfz8_1 := Xh J101.out 1; have hfz8_2 := Xh J101.out 2) | ((with_reducible refine gate_callee (f := 55) rfl ?_); refine goesL_ (some 16) rfl rfl Try.func55 (by kernel_rfl) rfl #[.slice A0 l0.length c0, .slice A1 l1.length c1, .agg #[.int .i64 a2_0, .int .i64 a2_1, .int .i64 a2_2]] rfl (by (try simp only [Xm, Xn, Xo]); first | done | rfl | (simp only [Xp, Xq]; rfl)) ?_; (with_reducible refine (log_check.calls k _ _ l0 _ _ l1 a2_0 a2_1 a2_2 t102 _ ?side1 ?side2 ?side3 ?side4 A5.out).mono ?_); (case side1 => repeat (first | exact (Xu HR0.out HB.out) | (with_reducible refine Xr ?_ _) | (with_reducible refine Xs ?_ _) | (with_reducible refine Xt ?_))); (case side2 => exact HC0.out); (case side3 => repeat (first | exact (Xu HR1.out HB.out) | (with_reducible refine Xr ?_ _) | (with_reducible refine Xs ?_ _) | (with_reducible refine Xt ?_))); (case side4 => exact HC1.out); rintro e w9 ⟨rfl, hb⟩; refine ⟨_, rfl, ?_⟩; have n0_ := XB (XA (g := gb101) (o := .cells #[.int .i64 a2_0, .int .i64 a2_1, .int .i64 a2_2] 24 (0, 0)) (by (with_reducible repeat (first | refine Xf ?_ _ | refine Xg ?_ | refine Xe ?_ _)); exact J101.out) hb); have n1_ := XB (Xz (by repeat (first | (with_reducible first | exact HB.out | apply Xc | apply Xa | apply Xb | refine Xd ?_ E101.out) | exact HB.out)) hb); clear J101; clear HB; have J101 := n0_; have HB := n1_; clear n0_ n1_; (try clear hb); (try clear hb2); (try clear hk); (try clear hi); have hcz10_0 : w9.cell? ⟨gb101, 0, none⟩ = some (.int .i64 a2_0) := (Xi J101.out 0).trans rfl; have hcz10_1 : w9.cell? ⟨gb101, 1, none⟩ = some (.int .i64 a2_1) := (Xi J101.out 1).trans rfl; have hcz10_2 : w9.cell? ⟨gb101, 2, none⟩ = some (.int .i64 a2_2) := (Xi J101.out 2).trans rfl; have hfz10_0 := Xh J101.out 0; have hfz10_1 := Xh J101.out 1; have hfz10_2 := Xh J101.out 2) | ((with_reducible refine gate_callee (f := 77) rfl ?_); refine goesL_ (some 23) rfl rfl Try.func77 (by kernel_rfl) rfl #[.slice A0 l0.length c0, .slice A1 l1.length c1, .agg #[.int .i64 a2_0, .int .i64 a2_1, .int .i64 a2_2]] rfl (by (try simp only [Xm, Xn, Xo]); first | done | rfl) ?_; refine (log_table.calls _ _ l0 _ _ l1 a2_0 a2_1 a2_2 l3 _ (Xu HR0.out (by repeat (first | (with_reducible first | exact HB.out | apply Xc | apply Xa | apply Xb) | exact HB.out))) HC0.out (Xu HR1.out (by repeat (first | (with_reducible first | exact HB.out | apply Xc | apply Xa | apply Xb) | exact HB.out))) HC1.out AT3.out).mono ?_; rintro e w6 ⟨A3, c3, rfl, hc3, hr3, hb⟩; refine ⟨_, rfl, ?_⟩; have HR3 := XB hr3; have HC3 := XB hc3; have HW6 := XB (show Below w.heap.size w w6 from Xz (by repeat (first | (with_reducible first | exact HB.out | apply Xc | apply Xa | apply Xb) | exact HB.out)) hb); have n0_ := XB (XA (by (with_reducible repeat (first | refine Xf ?_ _ | refine Xg ?_ | refine Xe ?_ _)); exact J101.out) hb); have n1_ := XB (Xu HR0.out HW6.out); have n2_ := XB (Xu HR1.out HW6.out); have n3_ := XB (Below.refl w6.heap.size w6); clear J101 HR0 HR1 HB; have J101 := n0_; have HR0 := n1_; have HR1 := n2_; have HB := n3_; clear n0_ n1_ n2_ n3_ hb hr3 hc3))
  go_loopg [10, 11, 12] k (fun kq v10 v11 v12 w6' => ∃ (x10_1 : List (S65)) (x11_1 : Int) (x12_1 : Int), v11 = .int .i64 x11_1 ∧ v12 = .int .i64 x12_1 ∧ Aside0 (log_Best.l0 kq l0 l1 l3 x10_1 x11_1 x12_1 a2_0 a2_1 a2_2 = some (r1, r2)) ∧ Aside0 (kq ≤ k) ∧ Aside0 (Kd.R k65 65 w6' w6.heap.size (fun _ => True) v10 x10_1) ∧ Aside0 (w6'.heap[gb101]? = some (.cells #[.int .i64 a2_0, .int .i64 a2_1, .int .i64 a2_2] 24 (0, 0))) ∧ Aside0 (Below w6.heap.size w6 w6'))
  case atStart => exact ⟨(([] : List (S65))), ((l0.length : Int)), ((l1.length : Int)), (by first | rfl | (simp; done) | (simp [*]; done)), (by first | rfl | (simp; done) | (simp [*]; done)), H', ⟨Nat.le_refl _⟩, ⟨by first | exact Kd.R_nil _ _ _ _ _ | exact Kd.N_nil _ _ _ _ _ | exact Kd.V_nil _ _ _ _ _ | exact Kd.Q_nil _ _ _ _ _ | exact Kd.S_nil _ _ _ _ _⟩, ⟨by (with_reducible repeat (first | refine Xf ?_ _ | refine Xg ?_ | refine Xe ?_ _)); exact J101.out⟩, ⟨by repeat (first | (with_reducible first | exact HB.out | apply Xc | apply Xa | apply Xb | refine Xd ?_ E101.out) | exact HB.out)⟩⟩
  case round =>
   clear H'; try clear c1
   try clear p2
   try clear c3
   try clear c4
   try clear c5
   try clear c6
   try clear c6b0
   try clear c6b1
   try clear hcz10_0
   try clear hcz10_1
   try clear hcz10_2
   try clear hcz8_0
   try clear hcz8_1
   try clear hcz8_2
   try clear hfz10_0
   try clear hfz10_1
   try clear hfz10_2
   try clear hfz8_0
   try clear hfz8_1
   try clear hfz8_2
   obtain ⟨x10_1, x11_1, x12_1, rfl, rfl, HA, HK1, HO_10, J101, HB⟩ := hrel
   cases gk with
   | zero => exact absurd HA.out (by simp [log_Best.l0])
   | succ k1 =>
    have H := HA.out; clear HA; simp only [log_Best.l0] at H; have HC11 := XB H; clear H; go_upto_region 7 with (fail)
    go_cut [33] (fun v33 wc => ∃ (kq : Nat) (x33_10 : Bool), v33 = .bool x33_10 ∧ Aside0 (log_Best.j1 kq l0 l1 l3 x10_1 x11_1 x12_1 x33_10 a2_0 a2_1 a2_2 = some (r1, r2)) ∧ Aside0 (kq ≤ k1) ∧ Aside0 (Kd.R k65 65 wc w6.heap.size (fun _ => True) u10 x10_1) ∧ Aside0 (wc.heap[gb101]? = some (.cells #[.int .i64 a2_0, .int .i64 a2_1, .int .i64 a2_2] 24 (0, 0))) ∧ Aside0 (Below w6.heap.size w6 wc))
    case first =>
     have H := HC11.out; clear HC11; by_cases c12 : x11_1 > 0
     ·rw [if_pos c12] at H; have c12b0 : decide (0 < x11_1) = true := decide_eq_true c12; clear c12; (first | rw [c12b0] | (simp only [i64_w, i32_w]; rw [c12b0]) | skip)
      have H' := XB H; clear H; go_wp2
      go_meet
      case rel => exact ⟨_, (decide (x12_1 > 0)), (by first | rfl | (simp; done) | (simp [*]; done)), H', ⟨by have := HK1.out; first | omega | exact Nat.le_refl _⟩, ⟨by (with_reducible repeat (first | apply Xv | apply Xw | apply Xx)); exact HO_10.out⟩, ⟨by (with_reducible repeat (first | refine Xf ?_ _ | refine Xg ?_ | refine Xe ?_ _)); exact J101.out⟩, ⟨by repeat (first | (with_reducible first | exact HB.out | apply Xc | apply Xa | apply Xb | refine Xd ?_ E101.out) | exact HB.out)⟩⟩
     ·rw [if_neg c12] at H; have c12b0 : decide (0 < x11_1) = false := decide_eq_false c12; clear c12; (first | rw [c12b0] | (simp only [i64_w, i32_w]; rw [c12b0]) | skip)
      have H' := XB H; clear H; go_wp2
      go_meet
      case rel => exact ⟨_, (false), (by first | rfl | (simp; done) | (simp [*]; done)), H', ⟨by have := HK1.out; first | omega | exact Nat.le_refl _⟩, ⟨by (with_reducible repeat (first | apply Xv | apply Xw | apply Xx)); exact HO_10.out⟩, ⟨by (with_reducible repeat (first | refine Xf ?_ _ | refine Xg ?_ | refine Xe ?_ _)); exact J101.out⟩, ⟨by repeat (first | (with_reducible first | exact HB.out | apply Xc | apply Xa | apply Xb | refine Xd ?_ E101.out) | exact HB.out)⟩⟩
    case rest =>
     clear HC11; try clear c1
     try clear p2
     try clear c3
     try clear c4
     try clear c5
     try clear c6
     try clear c6b0
     try clear c6b1
     try clear c12
     try clear c12b0
     try clear hcz10_0
     try clear hcz10_1
     try clear hcz10_2
     try clear hcz8_0
     try clear hcz8_1
     try clear hcz8_2
     try clear hfz10_0
     try clear hfz10_1
     try clear hfz10_2
     try clear hfz8_0
     try clear hfz8_1
     try clear hfz8_2
     try clear p2
     obtain ⟨kq, x33_10, rfl, HA, HJ10, HO_10, J101, HB⟩ := hcut
     cases kq with
     | zero => exact absurd HA.out (by simp [log_Best.j1])
     | succ kj10 =>
      have H := HA.out; clear HA; simp only [log_Best.j1] at H; by_cases c13 : x33_10 = true
      ·subst c13; have H1 : (if 0 ≤ x11_1 then (if x11_1 < (l3.length : Int) then (if 0 ≤ x12_1 then (if x12_1 < ((rd_L1 l3 x11_1).length : Int) then (if 0 ≤ (wrap64 (x11_1 - 1)) then (if (wrap64 (x11_1 - 1)) < (l3.length : Int) then (if 0 ≤ (wrap64 (x12_1 - 1)) then (if (wrap64 (x12_1 - 1)) < ((rd_L1 l3 (wrap64 (x11_1 - 1))).length : Int) then (if (wrap64 (x11_1 - 1)) < (l0.length : Int) then (if (wrap64 (x12_1 - 1)) < (l1.length : Int) then ((log_costBoth.f a2_0 a2_1 a2_2 (rd l0 (wrap64 (x11_1 - 1))) (rd l1 (wrap64 (x12_1 - 1)))).bind fun t110 => (if (rd (rd_L1 l3 x11_1) x12_1) = (wrap64 ((rd (rd_L1 l3 (wrap64 (x11_1 - 1))) (wrap64 (x12_1 - 1))) + t110)) then (if x10_1.length < 8796093022208 then (log_Best.l0 kj10 l0 l1 l3 (x10_1 ++ [(⟨wrap64 (x11_1 - 1), wrap64 (x12_1 - 1)⟩ : S65)]) (wrap64 (x11_1 - 1)) (wrap64 (x12_1 - 1)) a2_0 a2_1 a2_2) else (none)) else (if x12_1 < ((rd_L1 l3 (wrap64 (x11_1 - 1))).length : Int) then ((log_costOut.f a2_0 a2_1 a2_2).bind fun t116 => (if (rd (rd_L1 l3 x11_1) x12_1) = (wrap64 ((rd (rd_L1 l3 (wrap64 (x11_1 - 1))) x12_1) + t116)) then (log_Best.l0 kj10 l0 l1 l3 x10_1 (wrap64 (x11_1 - 1)) x12_1 a2_0 a2_1 a2_2) else (log_Best.l0 kj10 l0 l1 l3 x10_1 x11_1 (wrap64 (x12_1 - 1)) a2_0 a2_1 a2_2))) else (none)))) else (none)) else (none)) else (none)) else (none)) else (none)) else (none)) else (none)) else (none)) else (none)) else (none)) = some (r1, r2) := by rw [if_pos rfl] at H; exact H
       clear H; have H := H1; clear H1; by_cases c14 : 0 ≤ x11_1
       ·rw [if_pos c14] at H; have c14b0 : decide (0 ≤ x11_1) = true := decide_eq_true c14; clear c14; by_cases c15 : x11_1 < (l3.length : Int)
        ·rw [if_pos c15] at H; have c15b0 : decide (x11_1 < (l3.length : Int)) = true := decide_eq_true c15; clear c15; by_cases c16 : 0 ≤ x12_1
         ·rw [if_pos c16] at H; have c16b0 : decide (0 ≤ x12_1) = true := decide_eq_true c16; clear c16; by_cases c17 : x12_1 < ((rd_L1 l3 x11_1).length : Int)
          ·rw [if_pos c17] at H; have c17b0 : decide (x12_1 < ((rd_L1 l3 x11_1).length : Int)) = true := decide_eq_true c17; clear c17; obtain ⟨ji18, hji18⟩ : ∃ j_ : Int, (wrap64 (x11_1 - 1)) = j_ := ⟨_, rfl⟩
           replace H : (if 0 ≤ (ji18) then (if (ji18) < (l3.length : Int) then (if 0 ≤ (wrap64 (x12_1 - 1)) then (if (wrap64 (x12_1 - 1)) < ((rd_L1 l3 (ji18)).length : Int) then (if (ji18) < (l0.length : Int) then (if (wrap64 (x12_1 - 1)) < (l1.length : Int) then ((log_costBoth.f a2_0 a2_1 a2_2 (rd l0 (ji18)) (rd l1 (wrap64 (x12_1 - 1)))).bind fun t110 => (if (rd (rd_L1 l3 x11_1) x12_1) = (wrap64 ((rd (rd_L1 l3 (ji18)) (wrap64 (x12_1 - 1))) + t110)) then (if x10_1.length < 8796093022208 then (log_Best.l0 kj10 l0 l1 l3 (x10_1 ++ [(⟨ji18, wrap64 (x12_1 - 1)⟩ : S65)]) ji18 (wrap64 (x12_1 - 1)) a2_0 a2_1 a2_2) else (none)) else (if x12_1 < ((rd_L1 l3 (ji18)).length : Int) then ((log_costOut.f a2_0 a2_1 a2_2).bind fun t116 => (if (rd (rd_L1 l3 x11_1) x12_1) = (wrap64 ((rd (rd_L1 l3 (ji18)) x12_1) + t116)) then (log_Best.l0 kj10 l0 l1 l3 x10_1 ji18 x12_1 a2_0 a2_1 a2_2) else (log_Best.l0 kj10 l0 l1 l3 x10_1 x11_1 (wrap64 (x12_1 - 1)) a2_0 a2_1 a2_2))) else (none)))) else (none)) else (none)) else (none)) else (none)) else (none)) else (none)) = some (r1, r2) := by first | (rw [hji18] at H; exact H) | (simp only [hji18] at H ⊢; exact H)
           have hji18w : (IntKind.i64.wrap (x11_1 - 1)) = ji18 := (i64_w _).trans hji18; by_cases c19 : 0 ≤ (ji18)
           ·rw [if_pos c19] at H; have c19b0 : decide (0 ≤ (ji18)) = true := decide_eq_true c19; clear c19; by_cases c20 : (ji18) < (l3.length : Int)
            ·rw [if_pos c20] at H; have c20b0 : decide ((ji18) < (l3.length : Int)) = true := decide_eq_true c20; clear c20; obtain ⟨ji21, hji21⟩ : ∃ j_ : Int, (wrap64 (x12_1 - 1)) = j_ := ⟨_, rfl⟩
             replace H : (if 0 ≤ (ji21) then (if (ji21) < ((rd_L1 l3 (ji18)).length : Int) then (if (ji18) < (l0.length : Int) then (if (ji21) < (l1.length : Int) then ((log_costBoth.f a2_0 a2_1 a2_2 (rd l0 (ji18)) (rd l1 (ji21))).bind fun t110 => (if (rd (rd_L1 l3 x11_1) x12_1) = (wrap64 ((rd (rd_L1 l3 (ji18)) (ji21)) + t110)) then (if x10_1.length < 8796093022208 then (log_Best.l0 kj10 l0 l1 l3 (x10_1 ++ [(⟨ji18, ji21⟩ : S65)]) ji18 ji21 a2_0 a2_1 a2_2) else (none)) else (if x12_1 < ((rd_L1 l3 (ji18)).length : Int) then ((log_costOut.f a2_0 a2_1 a2_2).bind fun t116 => (if (rd (rd_L1 l3 x11_1) x12_1) = (wrap64 ((rd (rd_L1 l3 (ji18)) x12_1) + t116)) then (log_Best.l0 kj10 l0 l1 l3 x10_1 ji18 x12_1 a2_0 a2_1 a2_2) else (log_Best.l0 kj10 l0 l1 l3 x10_1 x11_1 ji21 a2_0 a2_1 a2_2))) else (none)))) else (none)) else (none)) else (none)) else (none)) = some (r1, r2) := by first | (rw [hji21] at H; exact H) | (simp only [hji21] at H ⊢; exact H)
             have hji21w : (IntKind.i64.wrap (x12_1 - 1)) = ji21 := (i64_w _).trans hji21; by_cases c22 : 0 ≤ (ji21)
             ·rw [if_pos c22] at H; have c22b0 : decide (0 ≤ (ji21)) = true := decide_eq_true c22; clear c22; by_cases c23 : (ji21) < ((rd_L1 l3 (ji18)).length : Int)
              ·rw [if_pos c23] at H; have c23b0 : decide ((ji21) < ((rd_L1 l3 (ji18)).length : Int)) = true := decide_eq_true c23; clear c23; by_cases c24 : (ji18) < (l0.length : Int)
               ·rw [if_pos c24] at H; have c24b0 : decide ((ji18) < (l0.length : Int)) = true := decide_eq_true c24; clear c24; by_cases c25 : (ji21) < (l1.length : Int)
                ·rw [if_pos c25] at H; have c25b0 : decide ((ji21) < (l1.length : Int)) = true := decide_eq_true c25; clear c25; replace H := Option.bind_eq_some_iff.mp H; obtain ⟨t110, A260, H⟩ := H; replace H : (if (rd (rd_L1 l3 x11_1) x12_1) = (wrap64 ((rd (rd_L1 l3 (ji18)) (ji21)) + t110)) then (if x10_1.length < 8796093022208 then (log_Best.l0 kj10 l0 l1 l3 (x10_1 ++ [(⟨ji18, ji21⟩ : S65)]) ji18 ji21 a2_0 a2_1 a2_2) else (none)) else (if x12_1 < ((rd_L1 l3 (ji18)).length : Int) then ((log_costOut.f a2_0 a2_1 a2_2).bind fun t116 => (if (rd (rd_L1 l3 x11_1) x12_1) = (wrap64 ((rd (rd_L1 l3 (ji18)) x12_1) + t116)) then (log_Best.l0 kj10 l0 l1 l3 x10_1 ji18 x12_1 a2_0 a2_1 a2_2) else (log_Best.l0 kj10 l0 l1 l3 x10_1 x11_1 ji21 a2_0 a2_1 a2_2))) else (none))) = some (r1, r2) := H; have A26 := XB A260; clear A260; by_cases c27 : (rd (rd_L1 l3 x11_1) x12_1) = (wrap64 ((rd (rd_L1 l3 (ji18)) (ji21)) + t110))
                 ·rw [if_pos c27] at H; have c27b0 : ((rd (rd_L1 l3 x11_1) x12_1) == (wrap64 ((rd (rd_L1 l3 (ji18)) (ji21)) + t110))) = true := beq_iff_eq.mpr c27; have c27b1 : ((rd (rd_L1 l3 x11_1) x12_1) != (wrap64 ((rd (rd_L1 l3 (ji18)) (ji21)) + t110))) = false := bne_eq_false_iff_eq.mpr c27; clear c27; by_cases c28 : x10_1.length < 8796093022208
                  ·rw [if_pos c28] at H; have LMc28 := XB c28; clear c28; obtain ⟨y111, hy111⟩ : ∃ y_ : List (S65), y_ = (x10_1 ++ [(⟨ji18, ji21⟩ : S65)]) := ⟨_, rfl⟩
                   replace H : (log_Best.l0 kj10 l0 l1 l3 y111 ji18 ji21 a2_0 a2_1 a2_2) = some (r1, r2) := by first | (rw [hy111]; with_reducible exact H) | (have H2_ := (Option.bind_some _ _).symm.trans H; rw [hy111]; with_reducible exact H2_) | (have H2_ := (Option.bind_some _ _).symm.trans H; with_reducible exact H2_) | with_reducible exact H | (rw [hy111]; exact H) | exact H
                   have Ny111 := XB hy111; clear hy111; have H' := XB H; clear H; have p104 : 0 ≤ (x11_1 : Int) := of_decide_eq_true (by first | (with_reducible assumption) | assumption); have q104 : x11_1 < (l3.length : Int) := of_decide_eq_true (by first | (with_reducible assumption) | assumption); obtain ⟨ad104, A104_0, c104_0, e104, hx104_0, hl104_0, hi104_0⟩ := at_L1 HR3.out x11_1 p104 q104
                   cases e104
                   replace hx104_0 := (HB.out.cell (World.block_lt_of_cell? w6 _ hx104_0)).trans hx104_0; have HR104_0 := XB hi104_0; have HC104_0 := XB hl104_0; clear hi104_0 hl104_0; replace p104 := eq_true p104; replace q104 := eq_true q104; have p105 : 0 ≤ (x12_1 : Int) := of_decide_eq_true (by first | (with_reducible assumption) | assumption); have q105 : x12_1 < ((rd_L1 l3 x11_1).length : Int) := of_decide_eq_true (by first | (with_reducible assumption) | assumption); obtain ⟨ad105, e105, hx105_0⟩ := Kd.at_int HR104_0.out x12_1 p105 q105
                   cases e105
                   replace hx105_0 := (HB.out.cell (World.block_lt_of_cell? w6 _ hx105_0)).trans hx105_0; replace p105 := eq_true p105; replace q105 := eq_true q105; try go_wp2
                   have n0_ := XB (Xx HO_10.out); have n1_ := XB (Xg J101.out); have n2_ := XB (Xb HB.out); clear HO_10; clear J101; clear HB; have HO_10 := n0_; have J101 := n1_; have HB := n2_; clear n0_ n1_ n2_; have p106 : 0 ≤ ((ji18) : Int) := of_decide_eq_true (by first | (with_reducible assumption) | assumption); have q106 : (ji18) < (l3.length : Int) := of_decide_eq_true (by first | (with_reducible assumption) | assumption); obtain ⟨ad106, A106_0, c106_0, e106, hx106_0, hl106_0, hi106_0⟩ := at_L1 HR3.out (ji18) p106 q106; have hw106_0 := hx106_0; obtain rfl : ad104 = ad106 := (by injection e106); replace hx106_0 := (HB.out.cell (World.block_lt_of_cell? w6 _ hx106_0)).trans hx106_0; have HR106_0 := XB hi106_0; have HC106_0 := XB hl106_0; clear hi106_0 hl106_0; replace p106 := eq_true p106; replace q106 := eq_true q106; have p107 : 0 ≤ ((ji21) : Int) := of_decide_eq_true (by first | (with_reducible assumption) | assumption); have q107 : (ji21) < ((rd_L1 l3 (ji18)).length : Int) := of_decide_eq_true (by first | (with_reducible assumption) | assumption); obtain ⟨ad107, e107, hx107_0⟩ := Kd.at_int HR106_0.out (ji21) p107 q107; have hw107_0 := hx107_0
                   cases e107
                   replace hx107_0 := (HB.out.cell (World.block_lt_of_cell? w6 _ hx107_0)).trans hx107_0; replace p107 := eq_true p107; replace q107 := eq_true q107; have p108 : 0 ≤ ((ji18) : Int) := of_decide_eq_true (by first | (with_reducible assumption) | assumption); have q108 : (ji18) < (l0.length : Int) := of_decide_eq_true (by first | (with_reducible assumption) | assumption); obtain ⟨ad108, e108, hx108_0⟩ := Kd.at_int HR0.out (ji18) p108 q108; have hw108_0 := hx108_0
                   cases e108
                   replace hx108_0 := (HB.out.cell (World.block_lt_of_cell? w6 _ hx108_0)).trans hx108_0; replace p108 := eq_true p108; replace q108 := eq_true q108; have p109 : 0 ≤ ((ji21) : Int) := of_decide_eq_true (by first | (with_reducible assumption) | assumption); have q109 : (ji21) < (l1.length : Int) := of_decide_eq_true (by first | (with_reducible assumption) | assumption); obtain ⟨ad109, e109, hx109_0⟩ := Kd.at_int HR1.out (ji21) p109 q109; have hw109_0 := hx109_0
                   cases e109
                   replace hx109_0 := (HB.out.cell (World.block_lt_of_cell? w6 _ hx109_0)).trans hx109_0; replace p109 := eq_true p109; replace q109 := eq_true q109; refine start_ (n := 26) (S := fun w6' => w6'.cell? ⟨gb101, 0, none⟩ = some (.int .i64 a2_0) ∧ w6'.cell? ⟨gb101, 1, none⟩ = some (.int .i64 a2_1) ∧ w6'.cell? ⟨gb101, 2, none⟩ = some (.int .i64 a2_2) ∧ w6'.cell? (ad104.add ((ji18)).toNat) = some (.slice (some ad107) (rd_L1 l3 (ji18)).length c106_0) ∧ w6'.cell? (ad107.add ((ji21)).toNat) = some (.int .i64 (rd (rd_L1 l3 (ji18)) (ji21))) ∧ w6'.cell? (ad108.add ((ji18)).toNat) = some (.int .i64 (rd l0 (ji18))) ∧ w6'.cell? (ad109.add ((ji21)).toNat) = some (.int .i64 (rd l1 (ji21)))) (ds := []) #[false, false, false, false, false, false, false, false, false, false, false, false, false, false, false, false, false, false, false, false, false, false, false, false, false, false] (by kernel_rfl) rfl rfl ⟨(Xi J101.out 0).trans rfl, (Xi J101.out 1).trans rfl, (Xi J101.out 2).trans rfl, ((HB.out.cell (World.block_lt_of_cell? w6 _ hw106_0)).trans hw106_0), ((HB.out.cell (World.block_lt_of_cell? w6 _ hw107_0)).trans hw107_0), ((HB.out.cell (World.block_lt_of_cell? w6 _ hw108_0)).trans hw108_0), ((HB.out.cell (World.block_lt_of_cell? w6 _ hw109_0)).trans hw109_0)⟩ (fun hHeld => ?_); refine with_tabW log_Best.tab10 log_Best.bits10 (fun HT_ HW_ => ?_); generalize wc.drew = w29 at HO_10 J101 HB HR106_0 hx106_0 hx107_0 hx108_0 hx109_0 hHeld ⊢
                   refine pure_ (i := 0) (N := some 44) (v := ?_) (a' := ?_) (Bq 26 1) rfl rfl (any_of HT_.out (by kernel_rfl)) (fun _ _ _ h => h) (Or.inl ⟨by rfl, ?_⟩) ?_ ?_; rotate_left
                   ·intro w6'; go_simp; with_reducible rfl
                   rotate_left
                   ·simp only [Act.put, Xj, Xk, Xl, i64_w, i32_w]; rfl
                   refine pure_ (i := 1) (N := some 45) (v := ?_) (a' := ?_) (Bq 26 3) rfl rfl (any_of HT_.out (by kernel_rfl)) (fun _ _ _ h => h) (Or.inl ⟨by rfl, ?_⟩) ?_ ?_; rotate_left
                   ·intro w6'; go_simp; with_reducible rfl
                   rotate_left
                   ·simp only [Act.put, Xj, Xk, Xl, i64_w, i32_w]; rfl
                   refine pure_ (i := 2) (N := some 46) (v := ?_) (a' := ?_) (Bq 26 7) rfl rfl (any_of HT_.out (by kernel_rfl)) (fun _ _ _ h => h) (Or.inl ⟨by rfl, ?_⟩) ?_ ?_; rotate_left
                   ·intro w6'; go_simp; with_reducible rfl
                   rotate_left
                   ·simp only [Act.put, Xj, Xk, Xl, i64_w, i32_w]; rfl
                   refine pure_ (i := 3) (N := some 47) (v := ?_) (a' := ?_) (Bq 26 15) rfl rfl (any_of HT_.out (by kernel_rfl)) (fun _ _ _ h => h) (Or.inl ⟨by rfl, ?_⟩) ?_ ?_; rotate_left
                   ·intro w6'; go_simp; with_reducible rfl
                   rotate_left
                   ·simp only [Act.put, Xj, Xk, Xl, i64_w, i32_w]; rfl
                   refine pure_ (i := 5) (N := some 49) (v := ?_) (a' := ?_) (Bq 26 47) rfl rfl (any_of HT_.out (by kernel_rfl)) (fun _ _ _ h => h) (Or.inl ⟨by rfl, ?_⟩) ?_ ?_; rotate_left
                   ·intro w6'; go_simp; with_reducible rfl
                   rotate_left
                   ·simp only [Act.put, Xj, Xk, Xl, i64_w, i32_w]; rfl
                   refine pure_ (i := 6) (N := some 50) (v := ?_) (a' := ?_) (Bq 26 111) rfl rfl (any_of HT_.out (by kernel_rfl)) (fun _ _ _ h => h) (Or.inl ⟨by rfl, ?_⟩) ?_ ?_; rotate_left
                   ·intro w6'; go_simp; with_reducible rfl
                   rotate_left
                   ·simp only [Act.put, Xj, Xk, Xl, i64_w, i32_w]; rfl
                   refine pure_ (i := 10) (N := some 54) (v := ?_) (a' := ?_) (Bq 26 1135) rfl rfl (any_of HT_.out (by kernel_rfl)) (fun _ _ _ h => h) (Or.inl ⟨by rfl, ?_⟩) ?_ ?_; rotate_left
                   ·intro w6'; go_simp; with_reducible rfl
                   rotate_left
                   ·simp only [Act.put, Xj, Xk, Xl, i64_w, i32_w]; rfl
                   refine pure_ (i := 11) (N := some 55) (v := ?_) (a' := ?_) (Bq 26 3183) rfl rfl (any_of HT_.out (by kernel_rfl)) (fun _ _ _ h => h) (Or.inl ⟨by rfl, ?_⟩) ?_ ?_; rotate_left
                   ·intro w6'; go_simp; with_reducible rfl
                   rotate_left
                   ·simp only [Act.put, Xj, Xk, Xl, i64_w, i32_w]; rfl
                   refine pure_ (i := 12) (N := some 56) (v := ?_) (a' := ?_) (Bq 26 7279) rfl rfl (any_of HT_.out (by kernel_rfl)) (fun _ _ _ h => h) (Or.inl ⟨by rfl, ?_⟩) ?_ ?_; rotate_left
                   ·intro w6'; go_simp; with_reducible rfl
                   rotate_left
                   ·simp only [Act.put, Xj, Xk, Xl, i64_w, i32_w]; rfl
                   refine pure_ (i := 13) (N := some 57) (v := ?_) (a' := ?_) (Bq 26 15471) rfl rfl (any_of HT_.out (by kernel_rfl)) (fun _ _ _ h => h) (Or.inl ⟨by rfl, ?_⟩) ?_ ?_; rotate_left
                   ·intro w6'; go_simp; with_reducible rfl
                   rotate_left
                   ·simp only [Act.put, Xj, Xk, Xl, i64_w, i32_w]; rfl
                   refine pure_ (i := 15) (N := some 59) (v := ?_) (a' := ?_) (Bq 26 48239) rfl rfl (any_of HT_.out (by kernel_rfl)) (fun _ _ _ h => h) (Or.inl ⟨by rfl, ?_⟩) ?_ ?_; rotate_left
                   ·intro w6'; go_simp; with_reducible rfl
                   rotate_left
                   ·simp only [Act.put, Xj, Xk, Xl, i64_w, i32_w]; rfl
                   refine pure_ (i := 16) (N := some 60) (v := ?_) (a' := ?_) (Bq 26 113775) rfl rfl (any_of HT_.out (by kernel_rfl)) (fun _ _ _ h => h) (Or.inl ⟨by rfl, ?_⟩) ?_ ?_; rotate_left
                   ·intro w6'; go_simp; with_reducible rfl
                   rotate_left
                   ·simp only [Act.put, Xj, Xk, Xl, i64_w, i32_w]; rfl
                   refine pure_ (i := 17) (N := some 61) (v := ?_) (a' := ?_) (Bq 26 244847) rfl rfl (any_of HT_.out (by kernel_rfl)) (fun _ _ _ h => h) (Or.inl ⟨by rfl, ?_⟩) ?_ ?_; rotate_left
                   ·intro w6'; go_simp; with_reducible rfl
                   rotate_left
                   ·simp only [Act.put, Xj, Xk, Xl, i64_w, i32_w]; rfl
                   refine pure_ (i := 18) (N := some 62) (v := ?_) (a' := ?_) (Bq 26 506991) rfl rfl (any_of HT_.out (by kernel_rfl)) (fun _ _ _ h => h) (Or.inl ⟨by rfl, ?_⟩) ?_ ?_; rotate_left
                   ·intro w6'; go_simp; with_reducible rfl
                   rotate_left
                   ·simp only [Act.put, Xj, Xk, Xl, i64_w, i32_w]; rfl
                   refine take_ (i := 4) (N := some 48) (v := ?_) (a' := ?_) (Bq 26 507007) rfl rfl (take_ofW HT_.out HW_.out (by kernel_rfl)) (fun _ _ _ h => h) (Or.inl ⟨by rfl, ?_⟩) hHeld ?_ ?_; rotate_left
                   ·rintro w6' ⟨s0, s1, s2, s3, s4, s5, s6⟩; go_simp; with_reducible rfl
                   rotate_left
                   ·simp only [Act.put, Xj, Xk, Xl, i64_w, i32_w]; rfl
                   refine pure_ (i := 7) (N := some 51) (v := ?_) (a' := ?_) (Bq 26 507135) rfl rfl (any_of HT_.out (by kernel_rfl)) (fun _ _ _ h => h) (Or.inl ⟨by rfl, ?_⟩) ?_ ?_; rotate_left
                   ·intro w6'; go_simp; with_reducible rfl
                   rotate_left
                   ·simp only [Act.put, Xj, Xk, Xl, i64_w, i32_w]; rfl
                   refine take_ (i := 8) (N := some 52) (v := ?_) (a' := ?_) (Bq 26 507391) rfl rfl (take_ofW HT_.out HW_.out (by kernel_rfl)) (fun _ _ _ h => h) (Or.inl ⟨by rfl, ?_⟩) hHeld ?_ ?_; rotate_left
                   ·rintro w6' ⟨s0, s1, s2, s3, s4, s5, s6⟩; go_simp; with_reducible rfl
                   rotate_left
                   ·simp only [Act.put, Xj, Xk, Xl, i64_w, i32_w]; rfl
                   refine take_ (i := 9) (N := some 53) (v := ?_) (a' := ?_) (Bq 26 507903) rfl rfl (take_ofW HT_.out HW_.out (by kernel_rfl)) (fun _ _ _ h => h) (Or.inl ⟨by rfl, ?_⟩) hHeld ?_ ?_; rotate_left
                   ·rintro w6' ⟨s0, s1, s2, s3, s4, s5, s6⟩; go_simp; with_reducible rfl
                   rotate_left
                   ·simp only [Act.put, Xj, Xk, Xl, i64_w, i32_w]; rfl
                   refine take_ (i := 14) (N := some 58) (v := ?_) (a' := ?_) (Bq 26 524287) rfl rfl (take_ofW HT_.out HW_.out (by kernel_rfl)) (fun _ _ _ h => h) (Or.inl ⟨by rfl, ?_⟩) hHeld ?_ ?_; rotate_left
                   ·rintro w6' ⟨s0, s1, s2, s3, s4, s5, s6⟩; go_simp; with_reducible rfl
                   rotate_left
                   ·simp only [Act.put, Xj, Xk, Xl, i64_w, i32_w]; rfl
                   refine take_ (i := 19) (N := some 63) (v := ?_) (a' := ?_) (Bq 26 1048575) rfl rfl (take_ofW HT_.out HW_.out (by kernel_rfl)) (fun _ _ _ h => h) (Or.inl ⟨by rfl, ?_⟩) hHeld ?_ ?_; rotate_left
                   ·rintro w6' ⟨s0, s1, s2, s3, s4, s5, s6⟩; go_simp; with_reducible rfl
                   rotate_left
                   ·simp only [Act.put, Xj, Xk, Xl, i64_w, i32_w]; rfl
                   refine pure_ (i := 20) (N := some 64) (v := ?_) (a' := ?_) (Bq 26 2097151) rfl rfl (any_of HT_.out (by kernel_rfl)) (fun _ _ _ h => h) (Or.inl ⟨by rfl, ?_⟩) ?_ ?_; rotate_left
                   ·intro w6'; go_simp; with_reducible rfl
                   rotate_left
                   ·simp only [Act.put, Xj, Xk, Xl, i64_w, i32_w]; rfl
                   refine pure_ (i := 21) (N := some 65) (v := ?_) (a' := ?_) (Bq 26 4194303) rfl rfl (any_of HT_.out (by kernel_rfl)) (fun _ _ _ h => h) (Or.inl ⟨by rfl, ?_⟩) ?_ ?_; rotate_left
                   ·intro w6'; go_simp; with_reducible rfl
                   rotate_left
                   ·simp only [Act.put, Xj, Xk, Xl, i64_w, i32_w]; rfl
                   refine one_ (i := 22) (N := some 66) (Bq 26 8388607) rfl rfl (one_of HT_.out (by kernel_rfl)) (by decide) (fun K hK => ?_); refine goes_ Try.func58 (by kernel_rfl) rfl #[.agg #[.int .i64 a2_0, .int .i64 a2_1, .int .i64 a2_2], .iface 70 (.agg #[.int .i64 (rd l0 (ji18)), .int .i64 (rd l1 (ji21))])] (by rfl) rfl rfl (by (try simp only [Xm, Xn, Xo]); first | done | (simp only [hji18, hji21]; rfl) | rfl | (simp only [Xp, Xq]; rfl)) ?_; with_reducible refine (log_costBoth.calls a2_0 a2_1 a2_2 (rd l0 (ji18)) (rd l1 (ji21)) t110 _ A26.out).mono ?_
                   rintro e w30 ⟨rfl, hb⟩; refine ⟨_, rfl, ?_⟩; have n0_ := XB (Xy (by (with_reducible repeat (first | apply Xv | apply Xw | apply Xx)); exact HO_10.out) hb); have n1_ := XB (XA (g := gb101) (o := .cells #[.int .i64 a2_0, .int .i64 a2_1, .int .i64 a2_2] 24 (0, 0)) (by (with_reducible repeat (first | refine Xf ?_ _ | refine Xg ?_ | refine Xe ?_ _)); exact J101.out) hb); have n2_ := XB (Xz (by repeat (first | (with_reducible first | exact HB.out | apply Xc | apply Xa | apply Xb | refine Xd ?_ E101.out) | exact HB.out)) hb); clear HO_10; clear J101; clear HB; have HO_10 := n0_; have J101 := n1_; have HB := n2_; clear n0_ n1_ n2_; (try clear hb)
                   (try clear hb2)
                   (try clear hk)
                   (try clear hi)
                   refine hK.out _ _ ⟨(Xi J101.out 0).trans rfl, (Xi J101.out 1).trans rfl, (Xi J101.out 2).trans rfl, ((HB.out.cell (World.block_lt_of_cell? w6 _ hw106_0)).trans hw106_0), ((HB.out.cell (World.block_lt_of_cell? w6 _ hw107_0)).trans hw107_0), ((HB.out.cell (World.block_lt_of_cell? w6 _ hw108_0)).trans hw108_0), ((HB.out.cell (World.block_lt_of_cell? w6 _ hw109_0)).trans hw109_0)⟩ (fun hHeld => ?_); clear hK K; refine norm_ (a' := ?_) ?_ ?_; rotate_left
                   ·show Act.put _ (some 66) _ = _
                    simp only [Act.put, Xj, Xk, Xl, i64_w, i32_w]; rfl
                   refine pure_ (i := 23) (N := some 67) (v := ?_) (a' := ?_) (Bq 26 16777215) rfl rfl (any_of HT_.out (by kernel_rfl)) (fun _ _ _ h => h) (Or.inl ⟨by rfl, ?_⟩) ?_ ?_; rotate_left
                   ·intro w6'; go_simp; with_reducible rfl
                   rotate_left
                   ·simp only [Act.put, Xj, Xk, Xl, i64_w, i32_w]; rfl
                   refine pure_ (i := 24) (N := some 68) (v := ?_) (a' := ?_) (Bq 26 33554431) rfl rfl (any_of HT_.out (by kernel_rfl)) (fun _ _ _ h => h) (Or.inl ⟨by rfl, ?_⟩) ?_ ?_; rotate_left
                   ·intro w6'; go_simp; with_reducible rfl
                   rotate_left
                   ·simp only [Act.put, Xj, Xk, Xl, i64_w, i32_w]; rfl
                   refine pure_ (i := 25) (N := some 43) (v := ?_) (a' := ?_) (Bq 26 67108863) rfl rfl (any_of HT_.out (by kernel_rfl)) (fun _ _ _ h => h) (Or.inl ⟨by rfl, ?_⟩) ?_ ?_; rotate_left
                   ·intro w6'; go_simp; with_reducible rfl
                   rotate_left
                   ·simp only [Act.put, Xj, Xk, Xl, i64_w, i32_w]; rfl
                   refine done_ (done_of HT_.out (by kernel_rfl)) ?_; try go_wp2_with (first | ((with_reducible refine gate_builtin (b := .append) (xs := #[.tmp 73, .tmp 77]) rfl ?_); at_builtin; refine Kd.R_append k65 (w0 := w6) w6.heap.size rfl (.tmp 73) (.tmp 77) 39 65 (.agg #[(.int .i64 0), (.int .i64 0)]) 16 rfl Try.underlying39 info65 rfl (by decide) (by omega) u10 x10_1 (⟨ji18, ji21⟩ : S65) [.int .i64 ji18, .int .i64 ji21] (fun _ => True) (fun _ => False) rfl rfl ?aP (fun _ hk => hk.elim) ?aF ?aO ?aB ?aS ?aL ?_; (case aP => exact k65_mkM _ _ _ (⟨ji18, ji21⟩ : S65)); (case aB => exact (by repeat (first | (with_reducible first | exact HB.out | apply Xc | apply Xa | apply Xb | refine Xd ?_ E101.out) | exact HB.out))); (case aF => exact (fun _ _ => trivial)); (case aO => exact (by (with_reducible repeat (first | apply Xv | apply Xw | apply Xx)); exact HO_10.out)); (case aS => exact (XC (by repeat (first | (with_reducible first | exact HB.out | apply Xc | apply Xa | apply Xb | refine Xd ?_ E101.out) | exact HB.out)))); (case aL => have := LMc28.out; omega); intro v112 w31 ho hb hg hat; rw [← Ny111.out] at ho; have n0_ := XB (blk_grown (g := gb101) (o := .cells #[.int .i64 a2_0, .int .i64 a2_1, .int .i64 a2_2] 24 (0, 0)) (by (with_reducible repeat (first | refine Xf ?_ _ | refine Xg ?_ | refine Xe ?_ _)); exact J101.out) hg (Kd.R_ne HO_10.out J101.out (by decide))); have n1_ := XB (hb); have n2_ := XB (ho); clear J101; clear HB; clear HO_10; have J101 := n0_; have HB := n1_; have HO113 := n2_; clear n0_ n1_ n2_; clear ho hb hg hat))
                   go_roundg kj10
                   case measure => have := HK1.out; have := HJ10.out; omega
                   case rel => exact ⟨(y111), (ji18), (ji21), (by first | rfl | (simp; done) | (simp only [← hji18] <;> (first | rfl | simp)) | (simp [*]; done)), (by first | rfl | (simp; done) | (simp only [← hji21] <;> (first | rfl | simp)) | (simp [*]; done)), H', ⟨by have := HK1.out; have := HJ10.out; omega⟩, ⟨by (with_reducible repeat (first | apply Xv | apply Xw | apply Xx)); exact HO113.out⟩, ⟨by (with_reducible repeat (first | refine Xf ?_ _ | refine Xg ?_ | refine Xe ?_ _)); exact J101.out⟩, ⟨by repeat (first | (with_reducible first | exact HB.out | apply Xc | apply Xa | apply Xb | refine Xd ?_ E101.out) | exact HB.out)⟩⟩
                  ·rw [if_neg c28] at H; exact absurd H (by simp)
                 ·rw [if_neg c27] at H; have c27b0 : ((rd (rd_L1 l3 x11_1) x12_1) == (wrap64 ((rd (rd_L1 l3 (ji18)) (ji21)) + t110))) = false := beq_eq_false_iff_ne.mpr c27; have c27b1 : ((rd (rd_L1 l3 x11_1) x12_1) != (wrap64 ((rd (rd_L1 l3 (ji18)) (ji21)) + t110))) = true := bne_iff_ne.mpr c27; by_cases c32 : x12_1 < ((rd_L1 l3 (ji18)).length : Int)
                  ·rw [if_pos c32] at H; have c32b0 : decide (x12_1 < ((rd_L1 l3 (ji18)).length : Int)) = true := decide_eq_true c32; clear c32; replace H := Option.bind_eq_some_iff.mp H; obtain ⟨t116, A330, H⟩ := H; replace H : (if (rd (rd_L1 l3 x11_1) x12_1) = (wrap64 ((rd (rd_L1 l3 (ji18)) x12_1) + t116)) then (log_Best.l0 kj10 l0 l1 l3 x10_1 ji18 x12_1 a2_0 a2_1 a2_2) else (log_Best.l0 kj10 l0 l1 l3 x10_1 x11_1 ji21 a2_0 a2_1 a2_2)) = some (r1, r2) := H; have A33 := XB A330; clear A330; by_cases c34 : (rd (rd_L1 l3 x11_1) x12_1) = (wrap64 ((rd (rd_L1 l3 (ji18)) x12_1) + t116))
                   ·rw [if_pos c34] at H; have c34b0 : ((rd (rd_L1 l3 x11_1) x12_1) == (wrap64 ((rd (rd_L1 l3 (ji18)) x12_1) + t116))) = true := beq_iff_eq.mpr c34; have c34b1 : ((rd (rd_L1 l3 x11_1) x12_1) != (wrap64 ((rd (rd_L1 l3 (ji18)) x12_1) + t116))) = false := bne_eq_false_iff_eq.mpr c34; clear c34; have H' := XB H; clear H; have p104 : 0 ≤ (x11_1 : Int) := of_decide_eq_true (by first | (with_reducible assumption) | assumption); have q104 : x11_1 < (l3.length : Int) := of_decide_eq_true (by first | (with_reducible assumption) | assumption); obtain ⟨ad104, A104_0, c104_0, e104, hx104_0, hl104_0, hi104_0⟩ := at_L1 HR3.out x11_1 p104 q104
                    cases e104
                    replace hx104_0 := (HB.out.cell (World.block_lt_of_cell? w6 _ hx104_0)).trans hx104_0; have HR104_0 := XB hi104_0; have HC104_0 := XB hl104_0; clear hi104_0 hl104_0; replace p104 := eq_true p104; replace q104 := eq_true q104; have p105 : 0 ≤ (x12_1 : Int) := of_decide_eq_true (by first | (with_reducible assumption) | assumption); have q105 : x12_1 < ((rd_L1 l3 x11_1).length : Int) := of_decide_eq_true (by first | (with_reducible assumption) | assumption); obtain ⟨ad105, e105, hx105_0⟩ := Kd.at_int HR104_0.out x12_1 p105 q105
                    cases e105
                    replace hx105_0 := (HB.out.cell (World.block_lt_of_cell? w6 _ hx105_0)).trans hx105_0; replace p105 := eq_true p105; replace q105 := eq_true q105; try go_wp2
                    have n0_ := XB (Xx HO_10.out); have n1_ := XB (Xg J101.out); have n2_ := XB (Xb HB.out); clear HO_10; clear J101; clear HB; have HO_10 := n0_; have J101 := n1_; have HB := n2_; clear n0_ n1_ n2_; have p106 : 0 ≤ ((ji18) : Int) := of_decide_eq_true (by first | (with_reducible assumption) | assumption); have q106 : (ji18) < (l3.length : Int) := of_decide_eq_true (by first | (with_reducible assumption) | assumption); obtain ⟨ad106, A106_0, c106_0, e106, hx106_0, hl106_0, hi106_0⟩ := at_L1 HR3.out (ji18) p106 q106; have hw106_0 := hx106_0; obtain rfl : ad104 = ad106 := (by injection e106); replace hx106_0 := (HB.out.cell (World.block_lt_of_cell? w6 _ hx106_0)).trans hx106_0; have HR106_0 := XB hi106_0; have HC106_0 := XB hl106_0; clear hi106_0 hl106_0; replace p106 := eq_true p106; replace q106 := eq_true q106; have p107 : 0 ≤ ((ji21) : Int) := of_decide_eq_true (by first | (with_reducible assumption) | assumption); have q107 : (ji21) < ((rd_L1 l3 (ji18)).length : Int) := of_decide_eq_true (by first | (with_reducible assumption) | assumption); obtain ⟨ad107, e107, hx107_0⟩ := Kd.at_int HR106_0.out (ji21) p107 q107; have hw107_0 := hx107_0
                    cases e107
                    replace hx107_0 := (HB.out.cell (World.block_lt_of_cell? w6 _ hx107_0)).trans hx107_0; replace p107 := eq_true p107; replace q107 := eq_true q107; have p108 : 0 ≤ ((ji18) : Int) := of_decide_eq_true (by first | (with_reducible assumption) | assumption); have q108 : (ji18) < (l0.length : Int) := of_decide_eq_true (by first | (with_reducible assumption) | assumption); obtain ⟨ad108, e108, hx108_0⟩ := Kd.at_int HR0.out (ji18) p108 q108; have hw108_0 := hx108_0
                    cases e108
                    replace hx108_0 := (HB.out.cell (World.block_lt_of_cell? w6 _ hx108_0)).trans hx108_0; replace p108 := eq_true p108; replace q108 := eq_true q108; have p109 : 0 ≤ ((ji21) : Int) := of_decide_eq_true (by first | (with_reducible assumption) | assumption); have q109 : (ji21) < (l1.length : Int) := of_decide_eq_true (by first | (with_reducible assumption) | assumption); obtain ⟨ad109, e109, hx109_0⟩ := Kd.at_int HR1.out (ji21) p109 q109; have hw109_0 := hx109_0
                    cases e109
                    replace hx109_0 := (HB.out.cell (World.block_lt_of_cell? w6 _ hx109_0)).trans hx109_0; replace p109 := eq_true p109; replace q109 := eq_true q109; refine start_ (n := 26) (S := fun w6' => w6'.cell? ⟨gb101, 0, none⟩ = some (.int .i64 a2_0) ∧ w6'.cell? ⟨gb101, 1, none⟩ = some (.int .i64 a2_1) ∧ w6'.cell? ⟨gb101, 2, none⟩ = some (.int .i64 a2_2) ∧ w6'.cell? (ad104.add ((ji18)).toNat) = some (.slice (some ad107) (rd_L1 l3 (ji18)).length c106_0) ∧ w6'.cell? (ad107.add ((ji21)).toNat) = some (.int .i64 (rd (rd_L1 l3 (ji18)) (ji21))) ∧ w6'.cell? (ad108.add ((ji18)).toNat) = some (.int .i64 (rd l0 (ji18))) ∧ w6'.cell? (ad109.add ((ji21)).toNat) = some (.int .i64 (rd l1 (ji21)))) (ds := []) #[false, false, false, false, false, false, false, false, false, false, false, false, false, false, false, false, false, false, false, false, false, false, false, false, false, false] (by kernel_rfl) rfl rfl ⟨(Xi J101.out 0).trans rfl, (Xi J101.out 1).trans rfl, (Xi J101.out 2).trans rfl, ((HB.out.cell (World.block_lt_of_cell? w6 _ hw106_0)).trans hw106_0), ((HB.out.cell (World.block_lt_of_cell? w6 _ hw107_0)).trans hw107_0), ((HB.out.cell (World.block_lt_of_cell? w6 _ hw108_0)).trans hw108_0), ((HB.out.cell (World.block_lt_of_cell? w6 _ hw109_0)).trans hw109_0)⟩ (fun hHeld => ?_); refine with_tabW log_Best.tab10 log_Best.bits10 (fun HT_ HW_ => ?_); generalize wc.drew = w35 at HO_10 J101 HB HR106_0 hx106_0 hx107_0 hx108_0 hx109_0 hHeld ⊢
                    refine pure_ (i := 0) (N := some 44) (v := ?_) (a' := ?_) (Bq 26 1) rfl rfl (any_of HT_.out (by kernel_rfl)) (fun _ _ _ h => h) (Or.inl ⟨by rfl, ?_⟩) ?_ ?_; rotate_left
                    ·intro w6'; go_simp; with_reducible rfl
                    rotate_left
                    ·simp only [Act.put, Xj, Xk, Xl, i64_w, i32_w]; rfl
                    refine pure_ (i := 1) (N := some 45) (v := ?_) (a' := ?_) (Bq 26 3) rfl rfl (any_of HT_.out (by kernel_rfl)) (fun _ _ _ h => h) (Or.inl ⟨by rfl, ?_⟩) ?_ ?_; rotate_left
                    ·intro w6'; go_simp; with_reducible rfl
                    rotate_left
                    ·simp only [Act.put, Xj, Xk, Xl, i64_w, i32_w]; rfl
                    refine pure_ (i := 2) (N := some 46) (v := ?_) (a' := ?_) (Bq 26 7) rfl rfl (any_of HT_.out (by kernel_rfl)) (fun _ _ _ h => h) (Or.inl ⟨by rfl, ?_⟩) ?_ ?_; rotate_left
                    ·intro w6'; go_simp; with_reducible rfl
                    rotate_left
                    ·simp only [Act.put, Xj, Xk, Xl, i64_w, i32_w]; rfl
                    refine pure_ (i := 3) (N := some 47) (v := ?_) (a' := ?_) (Bq 26 15) rfl rfl (any_of HT_.out (by kernel_rfl)) (fun _ _ _ h => h) (Or.inl ⟨by rfl, ?_⟩) ?_ ?_; rotate_left
                    ·intro w6'; go_simp; with_reducible rfl
                    rotate_left
                    ·simp only [Act.put, Xj, Xk, Xl, i64_w, i32_w]; rfl
                    refine pure_ (i := 5) (N := some 49) (v := ?_) (a' := ?_) (Bq 26 47) rfl rfl (any_of HT_.out (by kernel_rfl)) (fun _ _ _ h => h) (Or.inl ⟨by rfl, ?_⟩) ?_ ?_; rotate_left
                    ·intro w6'; go_simp; with_reducible rfl
                    rotate_left
                    ·simp only [Act.put, Xj, Xk, Xl, i64_w, i32_w]; rfl
                    refine pure_ (i := 6) (N := some 50) (v := ?_) (a' := ?_) (Bq 26 111) rfl rfl (any_of HT_.out (by kernel_rfl)) (fun _ _ _ h => h) (Or.inl ⟨by rfl, ?_⟩) ?_ ?_; rotate_left
                    ·intro w6'; go_simp; with_reducible rfl
                    rotate_left
                    ·simp only [Act.put, Xj, Xk, Xl, i64_w, i32_w]; rfl
                    refine pure_ (i := 10) (N := some 54) (v := ?_) (a' := ?_) (Bq 26 1135) rfl rfl (any_of HT_.out (by kernel_rfl)) (fun _ _ _ h => h) (Or.inl ⟨by rfl, ?_⟩) ?_ ?_; rotate_left
                    ·intro w6'; go_simp; with_reducible rfl
                    rotate_left
                    ·simp only [Act.put, Xj, Xk, Xl, i64_w, i32_w]; rfl
                    refine pure_ (i := 11) (N := some 55) (v := ?_) (a' := ?_) (Bq 26 3183) rfl rfl (any_of HT_.out (by kernel_rfl)) (fun _ _ _ h => h) (Or.inl ⟨by rfl, ?_⟩) ?_ ?_; rotate_left
                    ·intro w6'; go_simp; with_reducible rfl
                    rotate_left
                    ·simp only [Act.put, Xj, Xk, Xl, i64_w, i32_w]; rfl
                    refine pure_ (i := 12) (N := some 56) (v := ?_) (a' := ?_) (Bq 26 7279) rfl rfl (any_of HT_.out (by kernel_rfl)) (fun _ _ _ h => h) (Or.inl ⟨by rfl, ?_⟩) ?_ ?_; rotate_left
                    ·intro w6'; go_simp; with_reducible rfl
                    rotate_left
                    ·simp only [Act.put, Xj, Xk, Xl, i64_w, i32_w]; rfl
                    refine pure_ (i := 13) (N := some 57) (v := ?_) (a' := ?_) (Bq 26 15471) rfl rfl (any_of HT_.out (by kernel_rfl)) (fun _ _ _ h => h) (Or.inl ⟨by rfl, ?_⟩) ?_ ?_; rotate_left
                    ·intro w6'; go_simp; with_reducible rfl
                    rotate_left
                    ·simp only [Act.put, Xj, Xk, Xl, i64_w, i32_w]; rfl
                    refine pure_ (i := 15) (N := some 59) (v := ?_) (a' := ?_) (Bq 26 48239) rfl rfl (any_of HT_.out (by kernel_rfl)) (fun _ _ _ h => h) (Or.inl ⟨by rfl, ?_⟩) ?_ ?_; rotate_left
                    ·intro w6'; go_simp; with_reducible rfl
                    rotate_left
                    ·simp only [Act.put, Xj, Xk, Xl, i64_w, i32_w]; rfl
                    refine pure_ (i := 16) (N := some 60) (v := ?_) (a' := ?_) (Bq 26 113775) rfl rfl (any_of HT_.out (by kernel_rfl)) (fun _ _ _ h => h) (Or.inl ⟨by rfl, ?_⟩) ?_ ?_; rotate_left
                    ·intro w6'; go_simp; with_reducible rfl
                    rotate_left
                    ·simp only [Act.put, Xj, Xk, Xl, i64_w, i32_w]; rfl
                    refine pure_ (i := 17) (N := some 61) (v := ?_) (a' := ?_) (Bq 26 244847) rfl rfl (any_of HT_.out (by kernel_rfl)) (fun _ _ _ h => h) (Or.inl ⟨by rfl, ?_⟩) ?_ ?_; rotate_left
                    ·intro w6'; go_simp; with_reducible rfl
                    rotate_left
                    ·simp only [Act.put, Xj, Xk, Xl, i64_w, i32_w]; rfl
                    refine pure_ (i := 18) (N := some 62) (v := ?_) (a' := ?_) (Bq 26 506991) rfl rfl (any_of HT_.out (by kernel_rfl)) (fun _ _ _ h => h) (Or.inl ⟨by rfl, ?_⟩) ?_ ?_; rotate_left
                    ·intro w6'; go_simp; with_reducible rfl
                    rotate_left
                    ·simp only [Act.put, Xj, Xk, Xl, i64_w, i32_w]; rfl
                    refine take_ (i := 4) (N := some 48) (v := ?_) (a' := ?_) (Bq 26 507007) rfl rfl (take_ofW HT_.out HW_.out (by kernel_rfl)) (fun _ _ _ h => h) (Or.inl ⟨by rfl, ?_⟩) hHeld ?_ ?_; rotate_left
                    ·rintro w6' ⟨s0, s1, s2, s3, s4, s5, s6⟩; go_simp; with_reducible rfl
                    rotate_left
                    ·simp only [Act.put, Xj, Xk, Xl, i64_w, i32_w]; rfl
                    refine pure_ (i := 7) (N := some 51) (v := ?_) (a' := ?_) (Bq 26 507135) rfl rfl (any_of HT_.out (by kernel_rfl)) (fun _ _ _ h => h) (Or.inl ⟨by rfl, ?_⟩) ?_ ?_; rotate_left
                    ·intro w6'; go_simp; with_reducible rfl
                    rotate_left
                    ·simp only [Act.put, Xj, Xk, Xl, i64_w, i32_w]; rfl
                    refine take_ (i := 8) (N := some 52) (v := ?_) (a' := ?_) (Bq 26 507391) rfl rfl (take_ofW HT_.out HW_.out (by kernel_rfl)) (fun _ _ _ h => h) (Or.inl ⟨by rfl, ?_⟩) hHeld ?_ ?_; rotate_left
                    ·rintro w6' ⟨s0, s1, s2, s3, s4, s5, s6⟩; go_simp; with_reducible rfl
                    rotate_left
                    ·simp only [Act.put, Xj, Xk, Xl, i64_w, i32_w]; rfl
                    refine take_ (i := 9) (N := some 53) (v := ?_) (a' := ?_) (Bq 26 507903) rfl rfl (take_ofW HT_.out HW_.out (by kernel_rfl)) (fun _ _ _ h => h) (Or.inl ⟨by rfl, ?_⟩) hHeld ?_ ?_; rotate_left
                    ·rintro w6' ⟨s0, s1, s2, s3, s4, s5, s6⟩; go_simp; with_reducible rfl
                    rotate_left
                    ·simp only [Act.put, Xj, Xk, Xl, i64_w, i32_w]; rfl
                    refine take_ (i := 14) (N := some 58) (v := ?_) (a' := ?_) (Bq 26 524287) rfl rfl (take_ofW HT_.out HW_.out (by kernel_rfl)) (fun _ _ _ h => h) (Or.inl ⟨by rfl, ?_⟩) hHeld ?_ ?_; rotate_left
                    ·rintro w6' ⟨s0, s1, s2, s3, s4, s5, s6⟩; go_simp; with_reducible rfl
                    rotate_left
                    ·simp only [Act.put, Xj, Xk, Xl, i64_w, i32_w]; rfl
                    refine take_ (i := 19) (N := some 63) (v := ?_) (a' := ?_) (Bq 26 1048575) rfl rfl (take_ofW HT_.out HW_.out (by kernel_rfl)) (fun _ _ _ h => h) (Or.inl ⟨by rfl, ?_⟩) hHeld ?_ ?_; rotate_left
                    ·rintro w6' ⟨s0, s1, s2, s3, s4, s5, s6⟩; go_simp; with_reducible rfl
                    rotate_left
                    ·simp only [Act.put, Xj, Xk, Xl, i64_w, i32_w]; rfl
                    refine pure_ (i := 20) (N := some 64) (v := ?_) (a' := ?_) (Bq 26 2097151) rfl rfl (any_of HT_.out (by kernel_rfl)) (fun _ _ _ h => h) (Or.inl ⟨by rfl, ?_⟩) ?_ ?_; rotate_left
                    ·intro w6'; go_simp; with_reducible rfl
                    rotate_left
                    ·simp only [Act.put, Xj, Xk, Xl, i64_w, i32_w]; rfl
                    refine pure_ (i := 21) (N := some 65) (v := ?_) (a' := ?_) (Bq 26 4194303) rfl rfl (any_of HT_.out (by kernel_rfl)) (fun _ _ _ h => h) (Or.inl ⟨by rfl, ?_⟩) ?_ ?_; rotate_left
                    ·intro w6'; go_simp; with_reducible rfl
                    rotate_left
                    ·simp only [Act.put, Xj, Xk, Xl, i64_w, i32_w]; rfl
                    refine one_ (i := 22) (N := some 66) (Bq 26 8388607) rfl rfl (one_of HT_.out (by kernel_rfl)) (by decide) (fun K hK => ?_); refine goes_ Try.func58 (by kernel_rfl) rfl #[.agg #[.int .i64 a2_0, .int .i64 a2_1, .int .i64 a2_2], .iface 70 (.agg #[.int .i64 (rd l0 (ji18)), .int .i64 (rd l1 (ji21))])] (by rfl) rfl rfl (by (try simp only [Xm, Xn, Xo]); first | done | (simp only [hji18, hji21]; rfl) | rfl | (simp only [Xp, Xq]; rfl)) ?_; with_reducible refine (log_costBoth.calls a2_0 a2_1 a2_2 (rd l0 (ji18)) (rd l1 (ji21)) t110 _ A26.out).mono ?_
                    rintro e w36 ⟨rfl, hb⟩; refine ⟨_, rfl, ?_⟩; have n0_ := XB (Xy (by (with_reducible repeat (first | apply Xv | apply Xw | apply Xx)); exact HO_10.out) hb); have n1_ := XB (XA (g := gb101) (o := .cells #[.int .i64 a2_0, .int .i64 a2_1, .int .i64 a2_2] 24 (0, 0)) (by (with_reducible repeat (first | refine Xf ?_ _ | refine Xg ?_ | refine Xe ?_ _)); exact J101.out) hb); have n2_ := XB (Xz (by repeat (first | (with_reducible first | exact HB.out | apply Xc | apply Xa | apply Xb | refine Xd ?_ E101.out) | exact HB.out)) hb); clear HO_10; clear J101; clear HB; have HO_10 := n0_; have J101 := n1_; have HB := n2_; clear n0_ n1_ n2_; (try clear hb)
                    (try clear hb2)
                    (try clear hk)
                    (try clear hi)
                    refine hK.out _ _ ⟨(Xi J101.out 0).trans rfl, (Xi J101.out 1).trans rfl, (Xi J101.out 2).trans rfl, ((HB.out.cell (World.block_lt_of_cell? w6 _ hw106_0)).trans hw106_0), ((HB.out.cell (World.block_lt_of_cell? w6 _ hw107_0)).trans hw107_0), ((HB.out.cell (World.block_lt_of_cell? w6 _ hw108_0)).trans hw108_0), ((HB.out.cell (World.block_lt_of_cell? w6 _ hw109_0)).trans hw109_0)⟩ (fun hHeld => ?_); clear hK K; refine norm_ (a' := ?_) ?_ ?_; rotate_left
                    ·show Act.put _ (some 66) _ = _
                     simp only [Act.put, Xj, Xk, Xl, i64_w, i32_w]; rfl
                    refine pure_ (i := 23) (N := some 67) (v := ?_) (a' := ?_) (Bq 26 16777215) rfl rfl (any_of HT_.out (by kernel_rfl)) (fun _ _ _ h => h) (Or.inl ⟨by rfl, ?_⟩) ?_ ?_; rotate_left
                    ·intro w6'; go_simp; with_reducible rfl
                    rotate_left
                    ·simp only [Act.put, Xj, Xk, Xl, i64_w, i32_w]; rfl
                    refine pure_ (i := 24) (N := some 68) (v := ?_) (a' := ?_) (Bq 26 33554431) rfl rfl (any_of HT_.out (by kernel_rfl)) (fun _ _ _ h => h) (Or.inl ⟨by rfl, ?_⟩) ?_ ?_; rotate_left
                    ·intro w6'; go_simp; with_reducible rfl
                    rotate_left
                    ·simp only [Act.put, Xj, Xk, Xl, i64_w, i32_w]; rfl
                    refine pure_ (i := 25) (N := some 43) (v := ?_) (a' := ?_) (Bq 26 67108863) rfl rfl (any_of HT_.out (by kernel_rfl)) (fun _ _ _ h => h) (Or.inl ⟨by rfl, ?_⟩) ?_ ?_; rotate_left
                    ·intro w6'; go_simp; with_reducible rfl
                    rotate_left
                    ·simp only [Act.put, Xj, Xk, Xl, i64_w, i32_w]; rfl
                    refine done_ (done_of HT_.out (by kernel_rfl)) ?_; try go_wp2
                    have n0_ := XB (Xx HO_10.out); have n1_ := XB (Xg J101.out); have n2_ := XB (Xb HB.out); clear HO_10; clear J101; clear HB; have HO_10 := n0_; have J101 := n1_; have HB := n2_; clear n0_ n1_ n2_; have p114 : 0 ≤ ((ji18) : Int) := of_decide_eq_true (by first | (with_reducible assumption) | assumption); have q114 : (ji18) < (l3.length : Int) := of_decide_eq_true (by first | (with_reducible assumption) | assumption); obtain ⟨ad114, A114_0, c114_0, e114, hx114_0, hl114_0, hi114_0⟩ := at_L1 HR3.out (ji18) p114 q114; have hw114_0 := hx114_0; obtain rfl : ad104 = ad114 := (by injection e114); replace hx114_0 := (HB.out.cell (World.block_lt_of_cell? w6 _ hx114_0)).trans hx114_0; have HR114_0 := XB hi114_0; have HC114_0 := XB hl114_0; clear hi114_0 hl114_0; replace p114 := eq_true p114; replace q114 := eq_true q114; have p115 : 0 ≤ (x12_1 : Int) := of_decide_eq_true (by first | (with_reducible assumption) | assumption); have q115 : x12_1 < ((rd_L1 l3 (ji18)).length : Int) := of_decide_eq_true (by first | (with_reducible assumption) | assumption); obtain ⟨ad115, e115, hx115_0⟩ := Kd.at_int HR114_0.out x12_1 p115 q115; have hw115_0 := hx115_0
                    cases e115
                    replace hx115_0 := (HB.out.cell (World.block_lt_of_cell? w6 _ hx115_0)).trans hx115_0; replace p115 := eq_true p115; replace q115 := eq_true q115; refine start_ (n := 15) (S := fun w6' => w6'.cell? ⟨gb101, 0, none⟩ = some (.int .i64 a2_0) ∧ w6'.cell? ⟨gb101, 1, none⟩ = some (.int .i64 a2_1) ∧ w6'.cell? ⟨gb101, 2, none⟩ = some (.int .i64 a2_2) ∧ w6'.cell? (ad104.add ((ji18)).toNat) = some (.slice (some ad115) (rd_L1 l3 (ji18)).length c114_0) ∧ w6'.cell? (ad115.add (x12_1).toNat) = some (.int .i64 (rd (rd_L1 l3 (ji18)) x12_1))) (ds := []) #[false, false, false, false, false, false, false, false, false, false, false, false, false, false, false] (by kernel_rfl) rfl rfl ⟨(Xi J101.out 0).trans rfl, (Xi J101.out 1).trans rfl, (Xi J101.out 2).trans rfl, ((HB.out.cell (World.block_lt_of_cell? w6 _ hw114_0)).trans hw114_0), ((HB.out.cell (World.block_lt_of_cell? w6 _ hw115_0)).trans hw115_0)⟩ (fun hHeld => ?_); refine with_tabW log_Best.tab13 log_Best.bits13 (fun HT_ HW_ => ?_); generalize w36.drew = w37 at HO_10 J101 HB HR114_0 hx114_0 hx115_0 hHeld ⊢
                    refine pure_ (i := 0) (N := some 80) (v := ?_) (a' := ?_) (Bq 15 1) rfl rfl (any_of HT_.out (by kernel_rfl)) (fun _ _ _ h => h) (Or.inl ⟨by rfl, ?_⟩) ?_ ?_; rotate_left
                    ·intro w6'; go_simp; with_reducible rfl
                    rotate_left
                    ·simp only [Act.put, Xj, Xk, Xl, i64_w, i32_w]; rfl
                    refine pure_ (i := 1) (N := some 81) (v := ?_) (a' := ?_) (Bq 15 3) rfl rfl (any_of HT_.out (by kernel_rfl)) (fun _ _ _ h => h) (Or.inl ⟨by rfl, ?_⟩) ?_ ?_; rotate_left
                    ·intro w6'; go_simp; with_reducible rfl
                    rotate_left
                    ·simp only [Act.put, Xj, Xk, Xl, i64_w, i32_w]; rfl
                    refine pure_ (i := 2) (N := some 82) (v := ?_) (a' := ?_) (Bq 15 7) rfl rfl (any_of HT_.out (by kernel_rfl)) (fun _ _ _ h => h) (Or.inl ⟨by rfl, ?_⟩) ?_ ?_; rotate_left
                    ·intro w6'; go_simp; with_reducible rfl
                    rotate_left
                    ·simp only [Act.put, Xj, Xk, Xl, i64_w, i32_w]; rfl
                    refine pure_ (i := 3) (N := some 83) (v := ?_) (a' := ?_) (Bq 15 15) rfl rfl (any_of HT_.out (by kernel_rfl)) (fun _ _ _ h => h) (Or.inl ⟨by rfl, ?_⟩) ?_ ?_; rotate_left
                    ·intro w6'; go_simp; with_reducible rfl
                    rotate_left
                    ·simp only [Act.put, Xj, Xk, Xl, i64_w, i32_w]; rfl
                    refine pure_ (i := 5) (N := some 85) (v := ?_) (a' := ?_) (Bq 15 47) rfl rfl (any_of HT_.out (by kernel_rfl)) (fun _ _ _ h => h) (Or.inl ⟨by rfl, ?_⟩) ?_ ?_; rotate_left
                    ·intro w6'; go_simp; with_reducible rfl
                    rotate_left
                    ·simp only [Act.put, Xj, Xk, Xl, i64_w, i32_w]; rfl
                    refine pure_ (i := 9) (N := some 89) (v := ?_) (a' := ?_) (Bq 15 559) rfl rfl (any_of HT_.out (by kernel_rfl)) (fun _ _ _ h => h) (Or.inl ⟨by rfl, ?_⟩) ?_ ?_; rotate_left
                    ·intro w6'; go_simp; with_reducible rfl
                    rotate_left
                    ·simp only [Act.put, Xj, Xk, Xl, i64_w, i32_w]; rfl
                    refine pure_ (i := 10) (N := some 90) (v := ?_) (a' := ?_) (Bq 15 1583) rfl rfl (any_of HT_.out (by kernel_rfl)) (fun _ _ _ h => h) (Or.inl ⟨by rfl, ?_⟩) ?_ ?_; rotate_left
                    ·intro w6'; go_simp; with_reducible rfl
                    rotate_left
                    ·simp only [Act.put, Xj, Xk, Xl, i64_w, i32_w]; rfl
                    refine take_ (i := 4) (N := some 84) (v := ?_) (a' := ?_) (Bq 15 1599) rfl rfl (take_ofW HT_.out HW_.out (by kernel_rfl)) (fun _ _ _ h => h) (Or.inl ⟨by rfl, ?_⟩) hHeld ?_ ?_; rotate_left
                    ·rintro w6' ⟨s0, s1, s2, s3, s4⟩; go_simp; with_reducible rfl
                    rotate_left
                    ·simp only [Act.put, Xj, Xk, Xl, i64_w, i32_w]; rfl
                    refine pure_ (i := 6) (N := some 86) (v := ?_) (a' := ?_) (Bq 15 1663) rfl rfl (any_of HT_.out (by kernel_rfl)) (fun _ _ _ h => h) (Or.inl ⟨by rfl, ?_⟩) ?_ ?_; rotate_left
                    ·intro w6'; go_simp; with_reducible rfl
                    rotate_left
                    ·simp only [Act.put, Xj, Xk, Xl, i64_w, i32_w]; rfl
                    refine take_ (i := 7) (N := some 87) (v := ?_) (a' := ?_) (Bq 15 1791) rfl rfl (take_ofW HT_.out HW_.out (by kernel_rfl)) (fun _ _ _ h => h) (Or.inl ⟨by rfl, ?_⟩) hHeld ?_ ?_; rotate_left
                    ·rintro w6' ⟨s0, s1, s2, s3, s4⟩; go_simp; with_reducible rfl
                    rotate_left
                    ·simp only [Act.put, Xj, Xk, Xl, i64_w, i32_w]; rfl
                    refine take_ (i := 8) (N := some 88) (v := ?_) (a' := ?_) (Bq 15 2047) rfl rfl (take_ofW HT_.out HW_.out (by kernel_rfl)) (fun _ _ _ h => h) (Or.inl ⟨by rfl, ?_⟩) hHeld ?_ ?_; rotate_left
                    ·rintro w6' ⟨s0, s1, s2, s3, s4⟩; go_simp; with_reducible rfl
                    rotate_left
                    ·simp only [Act.put, Xj, Xk, Xl, i64_w, i32_w]; rfl
                    refine one_ (i := 11) (N := some 91) (Bq 15 4095) rfl rfl (one_of HT_.out (by kernel_rfl)) (by decide) (fun K hK => ?_); refine goes_ Try.func58 (by kernel_rfl) rfl #[.agg #[.int .i64 a2_0, .int .i64 a2_1, .int .i64 a2_2], .iface 87 (.agg #[])] (by rfl) rfl rfl (by (try simp only [Xm, Xn, Xo]); first | done | rfl | (simp only [Xp, Xq]; rfl)) ?_; with_reducible refine (log_costOut.calls a2_0 a2_1 a2_2 t116 _ A33.out).mono ?_
                    rintro e w38 ⟨rfl, hb⟩; refine ⟨_, rfl, ?_⟩; have n0_ := XB (Xy (by (with_reducible repeat (first | apply Xv | apply Xw | apply Xx)); exact HO_10.out) hb); have n1_ := XB (XA (g := gb101) (o := .cells #[.int .i64 a2_0, .int .i64 a2_1, .int .i64 a2_2] 24 (0, 0)) (by (with_reducible repeat (first | refine Xf ?_ _ | refine Xg ?_ | refine Xe ?_ _)); exact J101.out) hb); have n2_ := XB (Xz (by repeat (first | (with_reducible first | exact HB.out | apply Xc | apply Xa | apply Xb | refine Xd ?_ E101.out) | exact HB.out)) hb); clear HO_10; clear J101; clear HB; have HO_10 := n0_; have J101 := n1_; have HB := n2_; clear n0_ n1_ n2_; (try clear hb)
                    (try clear hb2)
                    (try clear hk)
                    (try clear hi)
                    refine hK.out _ _ ⟨(Xi J101.out 0).trans rfl, (Xi J101.out 1).trans rfl, (Xi J101.out 2).trans rfl, ((HB.out.cell (World.block_lt_of_cell? w6 _ hw114_0)).trans hw114_0), ((HB.out.cell (World.block_lt_of_cell? w6 _ hw115_0)).trans hw115_0)⟩ (fun hHeld => ?_); clear hK K; refine norm_ (a' := ?_) ?_ ?_; rotate_left
                    ·show Act.put _ (some 91) _ = _
                     simp only [Act.put, Xj, Xk, Xl, i64_w, i32_w]; rfl
                    refine pure_ (i := 12) (N := some 92) (v := ?_) (a' := ?_) (Bq 15 8191) rfl rfl (any_of HT_.out (by kernel_rfl)) (fun _ _ _ h => h) (Or.inl ⟨by rfl, ?_⟩) ?_ ?_; rotate_left
                    ·intro w6'; go_simp; with_reducible rfl
                    rotate_left
                    ·simp only [Act.put, Xj, Xk, Xl, i64_w, i32_w]; rfl
                    refine pure_ (i := 13) (N := some 93) (v := ?_) (a' := ?_) (Bq 15 16383) rfl rfl (any_of HT_.out (by kernel_rfl)) (fun _ _ _ h => h) (Or.inl ⟨by rfl, ?_⟩) ?_ ?_; rotate_left
                    ·intro w6'; go_simp; with_reducible rfl
                    rotate_left
                    ·simp only [Act.put, Xj, Xk, Xl, i64_w, i32_w]; rfl
                    refine pure_ (i := 14) (N := some 79) (v := ?_) (a' := ?_) (Bq 15 32767) rfl rfl (any_of HT_.out (by kernel_rfl)) (fun _ _ _ h => h) (Or.inl ⟨by rfl, ?_⟩) ?_ ?_; rotate_left
                    ·intro w6'; go_simp; with_reducible rfl
                    rotate_left
                    ·simp only [Act.put, Xj, Xk, Xl, i64_w, i32_w]; rfl
                    refine done_ (done_of HT_.out (by kernel_rfl)) ?_; try go_wp2
                    go_roundg kj10
                    case measure => have := HK1.out; have := HJ10.out; omega
                    case rel => exact ⟨(x10_1), (ji18), (x12_1), (by first | rfl | (simp; done) | (simp only [← hji18] <;> (first | rfl | simp)) | (simp [*]; done)), (by first | rfl | (simp; done) | (simp [*]; done)), H', ⟨by have := HK1.out; have := HJ10.out; omega⟩, ⟨by (with_reducible repeat (first | apply Xv | apply Xw | apply Xx)); exact HO_10.out⟩, ⟨by (with_reducible repeat (first | refine Xf ?_ _ | refine Xg ?_ | refine Xe ?_ _)); exact J101.out⟩, ⟨by repeat (first | (with_reducible first | exact HB.out | apply Xc | apply Xa | apply Xb | refine Xd ?_ E101.out) | exact HB.out)⟩⟩
                   ·rw [if_neg c34] at H; have c34b0 : ((rd (rd_L1 l3 x11_1) x12_1) == (wrap64 ((rd (rd_L1 l3 (ji18)) x12_1) + t116))) = false := beq_eq_false_iff_ne.mpr c34; have c34b1 : ((rd (rd_L1 l3 x11_1) x12_1) != (wrap64 ((rd (rd_L1 l3 (ji18)) x12_1) + t116))) = true := bne_iff_ne.mpr c34; have H' := XB H; clear H; have p104 : 0 ≤ (x11_1 : Int) := of_decide_eq_true (by first | (with_reducible assumption) | assumption); have q104 : x11_1 < (l3.length : Int) := of_decide_eq_true (by first | (with_reducible assumption) | assumption); obtain ⟨ad104, A104_0, c104_0, e104, hx104_0, hl104_0, hi104_0⟩ := at_L1 HR3.out x11_1 p104 q104
                    cases e104
                    replace hx104_0 := (HB.out.cell (World.block_lt_of_cell? w6 _ hx104_0)).trans hx104_0; have HR104_0 := XB hi104_0; have HC104_0 := XB hl104_0; clear hi104_0 hl104_0; replace p104 := eq_true p104; replace q104 := eq_true q104; have p105 : 0 ≤ (x12_1 : Int) := of_decide_eq_true (by first | (with_reducible assumption) | assumption); have q105 : x12_1 < ((rd_L1 l3 x11_1).length : Int) := of_decide_eq_true (by first | (with_reducible assumption) | assumption); obtain ⟨ad105, e105, hx105_0⟩ := Kd.at_int HR104_0.out x12_1 p105 q105
                    cases e105
                    replace hx105_0 := (HB.out.cell (World.block_lt_of_cell? w6 _ hx105_0)).trans hx105_0; replace p105 := eq_true p105; replace q105 := eq_true q105; try go_wp2
                    have n0_ := XB (Xx HO_10.out); have n1_ := XB (Xg J101.out); have n2_ := XB (Xb HB.out); clear HO_10; clear J101; clear HB; have HO_10 := n0_; have J101 := n1_; have HB := n2_; clear n0_ n1_ n2_; have p106 : 0 ≤ ((ji18) : Int) := of_decide_eq_true (by first | (with_reducible assumption) | assumption); have q106 : (ji18) < (l3.length : Int) := of_decide_eq_true (by first | (with_reducible assumption) | assumption); obtain ⟨ad106, A106_0, c106_0, e106, hx106_0, hl106_0, hi106_0⟩ := at_L1 HR3.out (ji18) p106 q106; have hw106_0 := hx106_0; obtain rfl : ad104 = ad106 := (by injection e106); replace hx106_0 := (HB.out.cell (World.block_lt_of_cell? w6 _ hx106_0)).trans hx106_0; have HR106_0 := XB hi106_0; have HC106_0 := XB hl106_0; clear hi106_0 hl106_0; replace p106 := eq_true p106; replace q106 := eq_true q106; have p107 : 0 ≤ ((ji21) : Int) := of_decide_eq_true (by first | (with_reducible assumption) | assumption); have q107 : (ji21) < ((rd_L1 l3 (ji18)).length : Int) := of_decide_eq_true (by first | (with_reducible assumption) | assumption); obtain ⟨ad107, e107, hx107_0⟩ := Kd.at_int HR106_0.out (ji21) p107 q107; have hw107_0 := hx107_0
                    cases e107
                    replace hx107_0 := (HB.out.cell (World.block_lt_of_cell? w6 _ hx107_0)).trans hx107_0; replace p107 := eq_true p107; replace q107 := eq_true q107; have p108 : 0 ≤ ((ji18) : Int) := of_decide_eq_true (by first | (with_reducible assumption) | assumption); have q108 : (ji18) < (l0.length : Int) := of_decide_eq_true (by first | (with_reducible assumption) | assumption); obtain ⟨ad108, e108, hx108_0⟩ := Kd.at_int HR0.out (ji18) p108 q108; have hw108_0 := hx108_0
                    cases e108
                    replace hx108_0 := (HB.out.cell (World.block_lt_of_cell? w6 _ hx108_0)).trans hx108_0; replace p108 := eq_true p108; replace q108 := eq_true q108; have p109 : 0 ≤ ((ji21) : Int) := of_decide_eq_true (by first | (with_reducible assumption) | assumption); have q109 : (ji21) < (l1.length : Int) := of_decide_eq_true (by first | (with_reducible assumption) | assumption); obtain ⟨ad109, e109, hx109_0⟩ := Kd.at_int HR1.out (ji21) p109 q109; have hw109_0 := hx109_0
                    cases e109
                    replace hx109_0 := (HB.out.cell (World.block_lt_of_cell? w6 _ hx109_0)).trans hx109_0; replace p109 := eq_true p109; replace q109 := eq_true q109; refine start_ (n := 26) (S := fun w6' => w6'.cell? ⟨gb101, 0, none⟩ = some (.int .i64 a2_0) ∧ w6'.cell? ⟨gb101, 1, none⟩ = some (.int .i64 a2_1) ∧ w6'.cell? ⟨gb101, 2, none⟩ = some (.int .i64 a2_2) ∧ w6'.cell? (ad104.add ((ji18)).toNat) = some (.slice (some ad107) (rd_L1 l3 (ji18)).length c106_0) ∧ w6'.cell? (ad107.add ((ji21)).toNat) = some (.int .i64 (rd (rd_L1 l3 (ji18)) (ji21))) ∧ w6'.cell? (ad108.add ((ji18)).toNat) = some (.int .i64 (rd l0 (ji18))) ∧ w6'.cell? (ad109.add ((ji21)).toNat) = some (.int .i64 (rd l1 (ji21)))) (ds := []) #[false, false, false, false, false, false, false, false, false, false, false, false, false, false, false, false, false, false, false, false, false, false, false, false, false, false] (by kernel_rfl) rfl rfl ⟨(Xi J101.out 0).trans rfl, (Xi J101.out 1).trans rfl, (Xi J101.out 2).trans rfl, ((HB.out.cell (World.block_lt_of_cell? w6 _ hw106_0)).trans hw106_0), ((HB.out.cell (World.block_lt_of_cell? w6 _ hw107_0)).trans hw107_0), ((HB.out.cell (World.block_lt_of_cell? w6 _ hw108_0)).trans hw108_0), ((HB.out.cell (World.block_lt_of_cell? w6 _ hw109_0)).trans hw109_0)⟩ (fun hHeld => ?_); refine with_tabW log_Best.tab10 log_Best.bits10 (fun HT_ HW_ => ?_); generalize wc.drew = w39 at HO_10 J101 HB HR106_0 hx106_0 hx107_0 hx108_0 hx109_0 hHeld ⊢
                    refine pure_ (i := 0) (N := some 44) (v := ?_) (a' := ?_) (Bq 26 1) rfl rfl (any_of HT_.out (by kernel_rfl)) (fun _ _ _ h => h) (Or.inl ⟨by rfl, ?_⟩) ?_ ?_; rotate_left
                    ·intro w6'; go_simp; with_reducible rfl
                    rotate_left
                    ·simp only [Act.put, Xj, Xk, Xl, i64_w, i32_w]; rfl
                    refine pure_ (i := 1) (N := some 45) (v := ?_) (a' := ?_) (Bq 26 3) rfl rfl (any_of HT_.out (by kernel_rfl)) (fun _ _ _ h => h) (Or.inl ⟨by rfl, ?_⟩) ?_ ?_; rotate_left
                    ·intro w6'; go_simp; with_reducible rfl
                    rotate_left
                    ·simp only [Act.put, Xj, Xk, Xl, i64_w, i32_w]; rfl
                    refine pure_ (i := 2) (N := some 46) (v := ?_) (a' := ?_) (Bq 26 7) rfl rfl (any_of HT_.out (by kernel_rfl)) (fun _ _ _ h => h) (Or.inl ⟨by rfl, ?_⟩) ?_ ?_; rotate_left
                    ·intro w6'; go_simp; with_reducible rfl
                    rotate_left
                    ·simp only [Act.put, Xj, Xk, Xl, i64_w, i32_w]; rfl
                    refine pure_ (i := 3) (N := some 47) (v := ?_) (a' := ?_) (Bq 26 15) rfl rfl (any_of HT_.out (by kernel_rfl)) (fun _ _ _ h => h) (Or.inl ⟨by rfl, ?_⟩) ?_ ?_; rotate_left
                    ·intro w6'; go_simp; with_reducible rfl
                    rotate_left
                    ·simp only [Act.put, Xj, Xk, Xl, i64_w, i32_w]; rfl
                    refine pure_ (i := 5) (N := some 49) (v := ?_) (a' := ?_) (Bq 26 47) rfl rfl (any_of HT_.out (by kernel_rfl)) (fun _ _ _ h => h) (Or.inl ⟨by rfl, ?_⟩) ?_ ?_; rotate_left
                    ·intro w6'; go_simp; with_reducible rfl
                    rotate_left
                    ·simp only [Act.put, Xj, Xk, Xl, i64_w, i32_w]; rfl
                    refine pure_ (i := 6) (N := some 50) (v := ?_) (a' := ?_) (Bq 26 111) rfl rfl (any_of HT_.out (by kernel_rfl)) (fun _ _ _ h => h) (Or.inl ⟨by rfl, ?_⟩) ?_ ?_; rotate_left
                    ·intro w6'; go_simp; with_reducible rfl
                    rotate_left
                    ·simp only [Act.put, Xj, Xk, Xl, i64_w, i32_w]; rfl
                    refine pure_ (i := 10) (N := some 54) (v := ?_) (a' := ?_) (Bq 26 1135) rfl rfl (any_of HT_.out (by kernel_rfl)) (fun _ _ _ h => h) (Or.inl ⟨by rfl, ?_⟩) ?_ ?_; rotate_left
                    ·intro w6'; go_simp; with_reducible rfl
                    rotate_left
                    ·simp only [Act.put, Xj, Xk, Xl, i64_w, i32_w]; rfl
                    refine pure_ (i := 11) (N := some 55) (v := ?_) (a' := ?_) (Bq 26 3183) rfl rfl (any_of HT_.out (by kernel_rfl)) (fun _ _ _ h => h) (Or.inl ⟨by rfl, ?_⟩) ?_ ?_; rotate_left
                    ·intro w6'; go_simp; with_reducible rfl
                    rotate_left
                    ·simp only [Act.put, Xj, Xk, Xl, i64_w, i32_w]; rfl
                    refine pure_ (i := 12) (N := some 56) (v := ?_) (a' := ?_) (Bq 26 7279) rfl rfl (any_of HT_.out (by kernel_rfl)) (fun _ _ _ h => h) (Or.inl ⟨by rfl, ?_⟩) ?_ ?_; rotate_left
                    ·intro w6'; go_simp; with_reducible rfl
                    rotate_left
                    ·simp only [Act.put, Xj, Xk, Xl, i64_w, i32_w]; rfl
                    refine pure_ (i := 13) (N := some 57) (v := ?_) (a' := ?_) (Bq 26 15471) rfl rfl (any_of HT_.out (by kernel_rfl)) (fun _ _ _ h => h) (Or.inl ⟨by rfl, ?_⟩) ?_ ?_; rotate_left
                    ·intro w6'; go_simp; with_reducible rfl
                    rotate_left
                    ·simp only [Act.put, Xj, Xk, Xl, i64_w, i32_w]; rfl
                    refine pure_ (i := 15) (N := some 59) (v := ?_) (a' := ?_) (Bq 26 48239) rfl rfl (any_of HT_.out (by kernel_rfl)) (fun _ _ _ h => h) (Or.inl ⟨by rfl, ?_⟩) ?_ ?_; rotate_left
                    ·intro w6'; go_simp; with_reducible rfl
                    rotate_left
                    ·simp only [Act.put, Xj, Xk, Xl, i64_w, i32_w]; rfl
                    refine pure_ (i := 16) (N := some 60) (v := ?_) (a' := ?_) (Bq 26 113775) rfl rfl (any_of HT_.out (by kernel_rfl)) (fun _ _ _ h => h) (Or.inl ⟨by rfl, ?_⟩) ?_ ?_; rotate_left
                    ·intro w6'; go_simp; with_reducible rfl
                    rotate_left
                    ·simp only [Act.put, Xj, Xk, Xl, i64_w, i32_w]; rfl
                    refine pure_ (i := 17) (N := some 61) (v := ?_) (a' := ?_) (Bq 26 244847) rfl rfl (any_of HT_.out (by kernel_rfl)) (fun _ _ _ h => h) (Or.inl ⟨by rfl, ?_⟩) ?_ ?_; rotate_left
                    ·intro w6'; go_simp; with_reducible rfl
                    rotate_left
                    ·simp only [Act.put, Xj, Xk, Xl, i64_w, i32_w]; rfl
                    refine pure_ (i := 18) (N := some 62) (v := ?_) (a' := ?_) (Bq 26 506991) rfl rfl (any_of HT_.out (by kernel_rfl)) (fun _ _ _ h => h) (Or.inl ⟨by rfl, ?_⟩) ?_ ?_; rotate_left
                    ·intro w6'; go_simp; with_reducible rfl
                    rotate_left
                    ·simp only [Act.put, Xj, Xk, Xl, i64_w, i32_w]; rfl
                    refine take_ (i := 4) (N := some 48) (v := ?_) (a' := ?_) (Bq 26 507007) rfl rfl (take_ofW HT_.out HW_.out (by kernel_rfl)) (fun _ _ _ h => h) (Or.inl ⟨by rfl, ?_⟩) hHeld ?_ ?_; rotate_left
                    ·rintro w6' ⟨s0, s1, s2, s3, s4, s5, s6⟩; go_simp; with_reducible rfl
                    rotate_left
                    ·simp only [Act.put, Xj, Xk, Xl, i64_w, i32_w]; rfl
                    refine pure_ (i := 7) (N := some 51) (v := ?_) (a' := ?_) (Bq 26 507135) rfl rfl (any_of HT_.out (by kernel_rfl)) (fun _ _ _ h => h) (Or.inl ⟨by rfl, ?_⟩) ?_ ?_; rotate_left
                    ·intro w6'; go_simp; with_reducible rfl
                    rotate_left
                    ·simp only [Act.put, Xj, Xk, Xl, i64_w, i32_w]; rfl
                    refine take_ (i := 8) (N := some 52) (v := ?_) (a' := ?_) (Bq 26 507391) rfl rfl (take_ofW HT_.out HW_.out (by kernel_rfl)) (fun _ _ _ h => h) (Or.inl ⟨by rfl, ?_⟩) hHeld ?_ ?_; rotate_left
                    ·rintro w6' ⟨s0, s1, s2, s3, s4, s5, s6⟩; go_simp; with_reducible rfl
                    rotate_left
                    ·simp only [Act.put, Xj, Xk, Xl, i64_w, i32_w]; rfl
                    refine take_ (i := 9) (N := some 53) (v := ?_) (a' := ?_) (Bq 26 507903) rfl rfl (take_ofW HT_.out HW_.out (by kernel_rfl)) (fun _ _ _ h => h) (Or.inl ⟨by rfl, ?_⟩) hHeld ?_ ?_; rotate_left
                    ·rintro w6' ⟨s0, s1, s2, s3, s4, s5, s6⟩; go_simp; with_reducible rfl
                    rotate_left
                    ·simp only [Act.put, Xj, Xk, Xl, i64_w, i32_w]; rfl
                    refine take_ (i := 14) (N := some 58) (v := ?_) (a' := ?_) (Bq 26 524287) rfl rfl (take_ofW HT_.out HW_.out (by kernel_rfl)) (fun _ _ _ h => h) (Or.inl ⟨by rfl, ?_⟩) hHeld ?_ ?_; rotate_left
                    ·rintro w6' ⟨s0, s1, s2, s3, s4, s5, s6⟩; go_simp; with_reducible rfl
                    rotate_left
                    ·simp only [Act.put, Xj, Xk, Xl, i64_w, i32_w]; rfl
                    refine take_ (i := 19) (N := some 63) (v := ?_) (a' := ?_) (Bq 26 1048575) rfl rfl (take_ofW HT_.out HW_.out (by kernel_rfl)) (fun _ _ _ h => h) (Or.inl ⟨by rfl, ?_⟩) hHeld ?_ ?_; rotate_left
                    ·rintro w6' ⟨s0, s1, s2, s3, s4, s5, s6⟩; go_simp; with_reducible rfl
                    rotate_left
                    ·simp only [Act.put, Xj, Xk, Xl, i64_w, i32_w]; rfl
                    refine pure_ (i := 20) (N := some 64) (v := ?_) (a' := ?_) (Bq 26 2097151) rfl rfl (any_of HT_.out (by kernel_rfl)) (fun _ _ _ h => h) (Or.inl ⟨by rfl, ?_⟩) ?_ ?_; rotate_left
                    ·intro w6'; go_simp; with_reducible rfl
                    rotate_left
                    ·simp only [Act.put, Xj, Xk, Xl, i64_w, i32_w]; rfl
                    refine pure_ (i := 21) (N := some 65) (v := ?_) (a' := ?_) (Bq 26 4194303) rfl rfl (any_of HT_.out (by kernel_rfl)) (fun _ _ _ h => h) (Or.inl ⟨by rfl, ?_⟩) ?_ ?_; rotate_left
                    ·intro w6'; go_simp; with_reducible rfl
                    rotate_left
                    ·simp only [Act.put, Xj, Xk, Xl, i64_w, i32_w]; rfl
                    refine one_ (i := 22) (N := some 66) (Bq 26 8388607) rfl rfl (one_of HT_.out (by kernel_rfl)) (by decide) (fun K hK => ?_); refine goes_ Try.func58 (by kernel_rfl) rfl #[.agg #[.int .i64 a2_0, .int .i64 a2_1, .int .i64 a2_2], .iface 70 (.agg #[.int .i64 (rd l0 (ji18)), .int .i64 (rd l1 (ji21))])] (by rfl) rfl rfl (by (try simp only [Xm, Xn, Xo]); first | done | (simp only [hji18, hji21]; rfl) | rfl | (simp only [Xp, Xq]; rfl)) ?_; with_reducible refine (log_costBoth.calls a2_0 a2_1 a2_2 (rd l0 (ji18)) (rd l1 (ji21)) t110 _ A26.out).mono ?_
                    rintro e w40 ⟨rfl, hb⟩; refine ⟨_, rfl, ?_⟩; have n0_ := XB (Xy (by (with_reducible repeat (first | apply Xv | apply Xw | apply Xx)); exact HO_10.out) hb); have n1_ := XB (XA (g := gb101) (o := .cells #[.int .i64 a2_0, .int .i64 a2_1, .int .i64 a2_2] 24 (0, 0)) (by (with_reducible repeat (first | refine Xf ?_ _ | refine Xg ?_ | refine Xe ?_ _)); exact J101.out) hb); have n2_ := XB (Xz (by repeat (first | (with_reducible first | exact HB.out | apply Xc | apply Xa | apply Xb | refine Xd ?_ E101.out) | exact HB.out)) hb); clear HO_10; clear J101; clear HB; have HO_10 := n0_; have J101 := n1_; have HB := n2_; clear n0_ n1_ n2_; (try clear hb)
                    (try clear hb2)
                    (try clear hk)
                    (try clear hi)
                    refine hK.out _ _ ⟨(Xi J101.out 0).trans rfl, (Xi J101.out 1).trans rfl, (Xi J101.out 2).trans rfl, ((HB.out.cell (World.block_lt_of_cell? w6 _ hw106_0)).trans hw106_0), ((HB.out.cell (World.block_lt_of_cell? w6 _ hw107_0)).trans hw107_0), ((HB.out.cell (World.block_lt_of_cell? w6 _ hw108_0)).trans hw108_0), ((HB.out.cell (World.block_lt_of_cell? w6 _ hw109_0)).trans hw109_0)⟩ (fun hHeld => ?_); clear hK K; refine norm_ (a' := ?_) ?_ ?_; rotate_left
                    ·show Act.put _ (some 66) _ = _
                     simp only [Act.put, Xj, Xk, Xl, i64_w, i32_w]; rfl
                    refine pure_ (i := 23) (N := some 67) (v := ?_) (a' := ?_) (Bq 26 16777215) rfl rfl (any_of HT_.out (by kernel_rfl)) (fun _ _ _ h => h) (Or.inl ⟨by rfl, ?_⟩) ?_ ?_; rotate_left
                    ·intro w6'; go_simp; with_reducible rfl
                    rotate_left
                    ·simp only [Act.put, Xj, Xk, Xl, i64_w, i32_w]; rfl
                    refine pure_ (i := 24) (N := some 68) (v := ?_) (a' := ?_) (Bq 26 33554431) rfl rfl (any_of HT_.out (by kernel_rfl)) (fun _ _ _ h => h) (Or.inl ⟨by rfl, ?_⟩) ?_ ?_; rotate_left
                    ·intro w6'; go_simp; with_reducible rfl
                    rotate_left
                    ·simp only [Act.put, Xj, Xk, Xl, i64_w, i32_w]; rfl
                    refine pure_ (i := 25) (N := some 43) (v := ?_) (a' := ?_) (Bq 26 67108863) rfl rfl (any_of HT_.out (by kernel_rfl)) (fun _ _ _ h => h) (Or.inl ⟨by rfl, ?_⟩) ?_ ?_; rotate_left
                    ·intro w6'; go_simp; with_reducible rfl
                    rotate_left
                    ·simp only [Act.put, Xj, Xk, Xl, i64_w, i32_w]; rfl
                    refine done_ (done_of HT_.out (by kernel_rfl)) ?_; try go_wp2
                    have n0_ := XB (Xx HO_10.out); have n1_ := XB (Xg J101.out); have n2_ := XB (Xb HB.out); clear HO_10; clear J101; clear HB; have HO_10 := n0_; have J101 := n1_; have HB := n2_; clear n0_ n1_ n2_; have p114 : 0 ≤ ((ji18) : Int) := of_decide_eq_true (by first | (with_reducible assumption) | assumption); have q114 : (ji18) < (l3.length : Int) := of_decide_eq_true (by first | (with_reducible assumption) | assumption); obtain ⟨ad114, A114_0, c114_0, e114, hx114_0, hl114_0, hi114_0⟩ := at_L1 HR3.out (ji18) p114 q114; have hw114_0 := hx114_0; obtain rfl : ad104 = ad114 := (by injection e114); replace hx114_0 := (HB.out.cell (World.block_lt_of_cell? w6 _ hx114_0)).trans hx114_0; have HR114_0 := XB hi114_0; have HC114_0 := XB hl114_0; clear hi114_0 hl114_0; replace p114 := eq_true p114; replace q114 := eq_true q114; have p115 : 0 ≤ (x12_1 : Int) := of_decide_eq_true (by first | (with_reducible assumption) | assumption); have q115 : x12_1 < ((rd_L1 l3 (ji18)).length : Int) := of_decide_eq_true (by first | (with_reducible assumption) | assumption); obtain ⟨ad115, e115, hx115_0⟩ := Kd.at_int HR114_0.out x12_1 p115 q115; have hw115_0 := hx115_0
                    cases e115
                    replace hx115_0 := (HB.out.cell (World.block_lt_of_cell? w6 _ hx115_0)).trans hx115_0; replace p115 := eq_true p115; replace q115 := eq_true q115; refine start_ (n := 15) (S := fun w6' => w6'.cell? ⟨gb101, 0, none⟩ = some (.int .i64 a2_0) ∧ w6'.cell? ⟨gb101, 1, none⟩ = some (.int .i64 a2_1) ∧ w6'.cell? ⟨gb101, 2, none⟩ = some (.int .i64 a2_2) ∧ w6'.cell? (ad104.add ((ji18)).toNat) = some (.slice (some ad115) (rd_L1 l3 (ji18)).length c114_0) ∧ w6'.cell? (ad115.add (x12_1).toNat) = some (.int .i64 (rd (rd_L1 l3 (ji18)) x12_1))) (ds := []) #[false, false, false, false, false, false, false, false, false, false, false, false, false, false, false] (by kernel_rfl) rfl rfl ⟨(Xi J101.out 0).trans rfl, (Xi J101.out 1).trans rfl, (Xi J101.out 2).trans rfl, ((HB.out.cell (World.block_lt_of_cell? w6 _ hw114_0)).trans hw114_0), ((HB.out.cell (World.block_lt_of_cell? w6 _ hw115_0)).trans hw115_0)⟩ (fun hHeld => ?_); refine with_tabW log_Best.tab13 log_Best.bits13 (fun HT_ HW_ => ?_); generalize w40.drew = w41 at HO_10 J101 HB HR114_0 hx114_0 hx115_0 hHeld ⊢
                    refine pure_ (i := 0) (N := some 80) (v := ?_) (a' := ?_) (Bq 15 1) rfl rfl (any_of HT_.out (by kernel_rfl)) (fun _ _ _ h => h) (Or.inl ⟨by rfl, ?_⟩) ?_ ?_; rotate_left
                    ·intro w6'; go_simp; with_reducible rfl
                    rotate_left
                    ·simp only [Act.put, Xj, Xk, Xl, i64_w, i32_w]; rfl
                    refine pure_ (i := 1) (N := some 81) (v := ?_) (a' := ?_) (Bq 15 3) rfl rfl (any_of HT_.out (by kernel_rfl)) (fun _ _ _ h => h) (Or.inl ⟨by rfl, ?_⟩) ?_ ?_; rotate_left
                    ·intro w6'; go_simp; with_reducible rfl
                    rotate_left
                    ·simp only [Act.put, Xj, Xk, Xl, i64_w, i32_w]; rfl
                    refine pure_ (i := 2) (N := some 82) (v := ?_) (a' := ?_) (Bq 15 7) rfl rfl (any_of HT_.out (by kernel_rfl)) (fun _ _ _ h => h) (Or.inl ⟨by rfl, ?_⟩) ?_ ?_; rotate_left
                    ·intro w6'; go_simp; with_reducible rfl
                    rotate_left
                    ·simp only [Act.put, Xj, Xk, Xl, i64_w, i32_w]; rfl
                    refine pure_ (i := 3) (N := some 83) (v := ?_) (a' := ?_) (Bq 15 15) rfl rfl (any_of HT_.out (by kernel_rfl)) (fun _ _ _ h => h) (Or.inl ⟨by rfl, ?_⟩) ?_ ?_; rotate_left
                    ·intro w6'; go_simp; with_reducible rfl
                    rotate_left
                    ·simp only [Act.put, Xj, Xk, Xl, i64_w, i32_w]; rfl
                    refine pure_ (i := 5) (N := some 85) (v := ?_) (a' := ?_) (Bq 15 47) rfl rfl (any_of HT_.out (by kernel_rfl)) (fun _ _ _ h => h) (Or.inl ⟨by rfl, ?_⟩) ?_ ?_; rotate_left
                    ·intro w6'; go_simp; with_reducible rfl
                    rotate_left
                    ·simp only [Act.put, Xj, Xk, Xl, i64_w, i32_w]; rfl
                    refine pure_ (i := 9) (N := some 89) (v := ?_) (a' := ?_) (Bq 15 559) rfl rfl (any_of HT_.out (by kernel_rfl)) (fun _ _ _ h => h) (Or.inl ⟨by rfl, ?_⟩) ?_ ?_; rotate_left
                    ·intro w6'; go_simp; with_reducible rfl
                    rotate_left
                    ·simp only [Act.put, Xj, Xk, Xl, i64_w, i32_w]; rfl
                    refine pure_ (i := 10) (N := some 90) (v := ?_) (a' := ?_) (Bq 15 1583) rfl rfl (any_of HT_.out (by kernel_rfl)) (fun _ _ _ h => h) (Or.inl ⟨by rfl, ?_⟩) ?_ ?_; rotate_left
                    ·intro w6'; go_simp; with_reducible rfl
                    rotate_left
                    ·simp only [Act.put, Xj, Xk, Xl, i64_w, i32_w]; rfl
                    refine take_ (i := 4) (N := some 84) (v := ?_) (a' := ?_) (Bq 15 1599) rfl rfl (take_ofW HT_.out HW_.out (by kernel_rfl)) (fun _ _ _ h => h) (Or.inl ⟨by rfl, ?_⟩) hHeld ?_ ?_; rotate_left
                    ·rintro w6' ⟨s0, s1, s2, s3, s4⟩; go_simp; with_reducible rfl
                    rotate_left
                    ·simp only [Act.put, Xj, Xk, Xl, i64_w, i32_w]; rfl
                    refine pure_ (i := 6) (N := some 86) (v := ?_) (a' := ?_) (Bq 15 1663) rfl rfl (any_of HT_.out (by kernel_rfl)) (fun _ _ _ h => h) (Or.inl ⟨by rfl, ?_⟩) ?_ ?_; rotate_left
                    ·intro w6'; go_simp; with_reducible rfl
                    rotate_left
                    ·simp only [Act.put, Xj, Xk, Xl, i64_w, i32_w]; rfl
                    refine take_ (i := 7) (N := some 87) (v := ?_) (a' := ?_) (Bq 15 1791) rfl rfl (take_ofW HT_.out HW_.out (by kernel_rfl)) (fun _ _ _ h => h) (Or.inl ⟨by rfl, ?_⟩) hHeld ?_ ?_; rotate_left
                    ·rintro w6' ⟨s0, s1, s2, s3, s4⟩; go_simp; with_reducible rfl
                    rotate_left
                    ·simp only [Act.put, Xj, Xk, Xl, i64_w, i32_w]; rfl
                    refine take_ (i := 8) (N := some 88) (v := ?_) (a' := ?_) (Bq 15 2047) rfl rfl (take_ofW HT_.out HW_.out (by kernel_rfl)) (fun _ _ _ h => h) (Or.inl ⟨by rfl, ?_⟩) hHeld ?_ ?_; rotate_left
                    ·rintro w6' ⟨s0, s1, s2, s3, s4⟩; go_simp; with_reducible rfl
                    rotate_left
                    ·simp only [Act.put, Xj, Xk, Xl, i64_w, i32_w]; rfl
                    refine one_ (i := 11) (N := some 91) (Bq 15 4095) rfl rfl (one_of HT_.out (by kernel_rfl)) (by decide) (fun K hK => ?_); refine goes_ Try.func58 (by kernel_rfl) rfl #[.agg #[.int .i64 a2_0, .int .i64 a2_1, .int .i64 a2_2], .iface 87 (.agg #[])] (by rfl) rfl rfl (by (try simp only [Xm, Xn, Xo]); first | done | rfl | (simp only [Xp, Xq]; rfl)) ?_; with_reducible refine (log_costOut.calls a2_0 a2_1 a2_2 t116 _ A33.out).mono ?_
                    rintro e w42 ⟨rfl, hb⟩; refine ⟨_, rfl, ?_⟩; have n0_ := XB (Xy (by (with_reducible repeat (first | apply Xv | apply Xw | apply Xx)); exact HO_10.out) hb); have n1_ := XB (XA (g := gb101) (o := .cells #[.int .i64 a2_0, .int .i64 a2_1, .int .i64 a2_2] 24 (0, 0)) (by (with_reducible repeat (first | refine Xf ?_ _ | refine Xg ?_ | refine Xe ?_ _)); exact J101.out) hb); have n2_ := XB (Xz (by repeat (first | (with_reducible first | exact HB.out | apply Xc | apply Xa | apply Xb | refine Xd ?_ E101.out) | exact HB.out)) hb); clear HO_10; clear J101; clear HB; have HO_10 := n0_; have J101 := n1_; have HB := n2_; clear n0_ n1_ n2_; (try clear hb)
                    (try clear hb2)
                    (try clear hk)
                    (try clear hi)
                    refine hK.out _ _ ⟨(Xi J101.out 0).trans rfl, (Xi J101.out 1).trans rfl, (Xi J101.out 2).trans rfl, ((HB.out.cell (World.block_lt_of_cell? w6 _ hw114_0)).trans hw114_0), ((HB.out.cell (World.block_lt_of_cell? w6 _ hw115_0)).trans hw115_0)⟩ (fun hHeld => ?_); clear hK K; refine norm_ (a' := ?_) ?_ ?_; rotate_left
                    ·show Act.put _ (some 91) _ = _
                     simp only [Act.put, Xj, Xk, Xl, i64_w, i32_w]; rfl
                    refine pure_ (i := 12) (N := some 92) (v := ?_) (a' := ?_) (Bq 15 8191) rfl rfl (any_of HT_.out (by kernel_rfl)) (fun _ _ _ h => h) (Or.inl ⟨by rfl, ?_⟩) ?_ ?_; rotate_left
                    ·intro w6'; go_simp; with_reducible rfl
                    rotate_left
                    ·simp only [Act.put, Xj, Xk, Xl, i64_w, i32_w]; rfl
                    refine pure_ (i := 13) (N := some 93) (v := ?_) (a' := ?_) (Bq 15 16383) rfl rfl (any_of HT_.out (by kernel_rfl)) (fun _ _ _ h => h) (Or.inl ⟨by rfl, ?_⟩) ?_ ?_; rotate_left
                    ·intro w6'; go_simp; with_reducible rfl
                    rotate_left
                    ·simp only [Act.put, Xj, Xk, Xl, i64_w, i32_w]; rfl
                    refine pure_ (i := 14) (N := some 79) (v := ?_) (a' := ?_) (Bq 15 32767) rfl rfl (any_of HT_.out (by kernel_rfl)) (fun _ _ _ h => h) (Or.inl ⟨by rfl, ?_⟩) ?_ ?_; rotate_left
                    ·intro w6'; go_simp; with_reducible rfl
                    rotate_left
                    ·simp only [Act.put, Xj, Xk, Xl, i64_w, i32_w]; rfl
                    refine done_ (done_of HT_.out (by kernel_rfl)) ?_; try go_wp2
                    go_roundg kj10
                    case measure => have := HK1.out; have := HJ10.out; omega
                    case rel => exact ⟨(x10_1), (x11_1), (ji21), (by first | rfl | (simp; done) | (simp [*]; done)), (by first | rfl | (simp; done) | (simp only [← hji21] <;> (first | rfl | simp)) | (simp [*]; done)), H', ⟨by have := HK1.out; have := HJ10.out; omega⟩, ⟨by (with_reducible repeat (first | apply Xv | apply Xw | apply Xx)); exact HO_10.out⟩, ⟨by (with_reducible repeat (first | refine Xf ?_ _ | refine Xg ?_ | refine Xe ?_ _)); exact J101.out⟩, ⟨by repeat (first | (with_reducible first | exact HB.out | apply Xc | apply Xa | apply Xb | refine Xd ?_ E101.out) | exact HB.out)⟩⟩
                  ·rw [if_neg c32] at H; exact absurd H (by simp)
                ·rw [if_neg c25] at H; exact absurd H (by simp)
               ·rw [if_neg c24] at H; exact absurd H (by simp)
              ·rw [if_neg c23] at H; exact absurd H (by simp)
             ·rw [if_neg c22] at H; exact absurd H (by simp)
            ·rw [if_neg c20] at H; exact absurd H (by simp)
           ·rw [if_neg c19] at H; exact absurd H (by simp)
          ·rw [if_neg c17] at H; exact absurd H (by simp)
         ·rw [if_neg c16] at H; exact absurd H (by simp)
        ·rw [if_neg c15] at H; exact absurd H (by simp)
       ·rw [if_neg c14] at H; exact absurd H (by simp)
      ·replace c13 := Bool.eq_false_iff.mpr c13; subst c13; have H1 : ((api_Pair_78.f kj10 x10_1).bind fun t103 => (some (t103, 0))) = some (r1, r2) := by rw [if_neg (show ¬ (false = true) by decide)] at H; exact H
       clear H; have H := H1; clear H1; replace H := Option.bind_eq_some_iff.mp H; obtain ⟨t103, A430, H⟩ := H; replace H : (some (t103, 0)) = some (r1, r2) := H; have A43 := XB A430; clear A430; simp only [Option.some.injEq, Prod.mk.injEq] at H; obtain ⟨rfl, rfl⟩ := H; obtain ⟨Ao44, co44, eo44⟩ := Kd.R_slice HO_10.out; subst eo44; go_wp2_with (first | ((with_reducible refine gate_callee (f := 78) rfl ?_); refine goesL_ (some 97) rfl rfl Try.func78 (by kernel_rfl) rfl #[.slice Ao44 x10_1.length co44] rfl (by (try simp only [Xm, Xn, Xo]); first | done | rfl | (simp only [Xp, Xq]; rfl)) ?_; (with_reducible refine (api_Pair_78.calls kj10 (fun k_ => some k_ = (.slice Ao44 x10_1.length co44 : Value).ownBlock) (.slice Ao44 x10_1.length co44) x10_1 t103 w6 _ ?side1 ?side2 A43.out).mono ?_); (case side1 => repeat (first | (with_reducible first | exact HB.out | apply Xc | apply Xa | apply Xb | refine Xd ?_ E101.out) | exact HB.out)); (case side2 => exact Kd.R_tight rfl HO_10.out); rintro e w45 ⟨rfl, hy0, hb, hkp⟩; refine ⟨_, rfl, ?_⟩; have n0_ := XB (Kd.R_reok rfl hy0 (fun k_ e_ => HO_10.out.1 k_ e_)); have n1_ := XB (blk_kept (by (with_reducible repeat (first | refine Xf ?_ _ | refine Xg ?_ | refine Xe ?_ _)); exact J101.out) hkp (fun hs_ => (fun e_ => (Kd.R_ne HO_10.out J101.out (by decide)) e_) hs_)); have n2_ := XB (hb); clear HO_10; clear J101; clear HB; have HO_10 := n0_; have J101 := n1_; have HB := n2_; clear n0_ n1_ n2_; (try clear hb); (try clear hkp); (try clear hy0)))
       go_ret2
       exact ⟨_, by first | rfl | (simp [errW_none, errW_some] <;> rfl) | (simp [*, errW_none, errW_some] <;> rfl), Kd.R_lower (by (with_reducible repeat (first | apply Xv | apply Xw | apply Xx)); exact HO_10.out) (XC HW6.out), HW6.out.trans (Below.mono (show Below w6.heap.size w6 _ from by repeat (first | (with_reducible first | exact HB.out | apply Xc | apply Xa | apply Xb | refine Xd ?_ E101.out) | exact HB.out)) (XC HW6.out))⟩
 ·rw [if_neg c6] at H; have c6b0 : (t102 == 0) = false := beq_eq_false_iff_ne.mpr c6; have c6b1 : (t102 != 0) = true := bne_iff_ne.mpr c6; simp only [Option.some.injEq, Prod.mk.injEq] at H; obtain ⟨rfl, rfl⟩ := H; go_enter Try.func42, Try.ntmps42
  go_wp2_with (first | ((with_reducible refine gate_dst (N := 5) rfl ?_); refine box_event ?hg (N := 5) ?hd (cs := #[.int .i64 a2_0, .int .i64 a2_1, .int .i64 a2_2]) (t := 24) ?hr ?_; (case hd => rfl); (case hg => rfl); (case hr => first | (go_simp; done) | (go_simp; rfl)); intro gb101 hg w46 hbox hb; have n0_ := XB (Xz (by repeat (first | (with_reducible first | exact HB.out | apply Xc | apply Xa | apply Xb) | exact HB.out)) hb); have n1_ := XB (hbox); have n2_ := XB ((by rw [hg]; exact (XC (by repeat (first | (with_reducible first | exact HB.out | apply Xc | apply Xa | apply Xb) | exact HB.out))) : w.heap.size ≤ gb101)); have n3_ := XB ((by rw [hg]; exact (XC (by repeat (first | (with_reducible first | exact HB.out | apply Xc | apply Xa | apply Xb) | exact HB.out))) : w.heap.size ≤ gb101)); clear HB; have HB := n0_; have J101 := n1_; have GW101 := n2_; have E101 := n3_; clear n0_ n1_ n2_ n3_; clear hb hbox hg; have hcz47_0 : w46.cell? ⟨gb101, 0, none⟩ = some (.int .i64 a2_0) := (Xi J101.out 0).trans rfl; have hcz47_1 : w46.cell? ⟨gb101, 1, none⟩ = some (.int .i64 a2_1) := (Xi J101.out 1).trans rfl; have hcz47_2 : w46.cell? ⟨gb101, 2, none⟩ = some (.int .i64 a2_2) := (Xi J101.out 2).trans rfl; have hfz47_0 := Xh J101.out 0; have hfz47_1 := Xh J101.out 1; have hfz47_2 := Xh J101.out 2) | ((with_reducible refine gate_callee (f := 55) rfl ?_); refine goesL_ (some 16) rfl rfl Try.func55 (by kernel_rfl) rfl #[.slice A0 l0.length c0, .slice A1 l1.length c1, .agg #[.int .i64 a2_0, .int .i64 a2_1, .int .i64 a2_2]] rfl (by (try simp only [Xm, Xn, Xo]); first | done | rfl | (simp only [Xp, Xq]; rfl)) ?_; (with_reducible refine (log_check.calls k _ _ l0 _ _ l1 a2_0 a2_1 a2_2 t102 _ ?side1 ?side2 ?side3 ?side4 A5.out).mono ?_); (case side1 => repeat (first | exact (Xu HR0.out HB.out) | (with_reducible refine Xr ?_ _) | (with_reducible refine Xs ?_ _) | (with_reducible refine Xt ?_))); (case side2 => exact HC0.out); (case side3 => repeat (first | exact (Xu HR1.out HB.out) | (with_reducible refine Xr ?_ _) | (with_reducible refine Xs ?_ _) | (with_reducible refine Xt ?_))); (case side4 => exact HC1.out); rintro e w48 ⟨rfl, hb⟩; refine ⟨_, rfl, ?_⟩; have n0_ := XB (XA (g := gb101) (o := .cells #[.int .i64 a2_0, .int .i64 a2_1, .int .i64 a2_2] 24 (0, 0)) (by (with_reducible repeat (first | refine Xf ?_ _ | refine Xg ?_ | refine Xe ?_ _)); exact J101.out) hb); have n1_ := XB (Xz (by repeat (first | (with_reducible first | exact HB.out | apply Xc | apply Xa | apply Xb | refine Xd ?_ E101.out) | exact HB.out)) hb); clear J101; clear HB; have J101 := n0_; have HB := n1_; clear n0_ n1_; (try clear hb); (try clear hb2); (try clear hk); (try clear hi)))
  go_ret2
  exact ⟨_, by first | rfl | (simp [errW_none, errW_some] <;> rfl) | (simp [*, errW_none, errW_some] <;> rfl), by first | exact Kd.R_nil _ _ _ _ _ | exact Kd.N_nil _ _ _ _ _ | exact Kd.V_nil _ _ _ _ _ | exact Kd.Q_nil _ _ _ _ _ | exact Kd.S_nil _ _ _ _ _, by repeat (first | (with_reducible first | exact HB.out | apply Xc | apply Xa | apply Xb | refine Xd ?_ E101.out) | exact HB.out)⟩

end Go.Proofs.Ytcbepmdnhjojdaa.P
