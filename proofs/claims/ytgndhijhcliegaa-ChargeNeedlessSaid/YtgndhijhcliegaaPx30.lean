-- laid by a program of this session (wip/tools): plain functions of the Go code and their contracts
-- thinned
import Derived.Test.YtgndhijhcliegaaPx0
import Derived.Test.YtgndhijhcliegaaPx1
import Derived.Test.YtgndhijhcliegaaPx3
import Derived.Test.YtgndhijhcliegaaPx5
import Derived.Test.YtgndhijhcliegaaPx14
import Derived.Test.YtgndhijhcliegaaPx22
namespace Go.Proofs.Ytgndhijhcliegaa.P
open Go.RowKit Go.Proofs.YtgndhijhcliegaaW.PrintWords Go.Proofs.YtgndhijhcliegaaW.PrintLast Go.Proofs.YtgndhijhcliegaaW.PrintMore
attribute [local go_sem] max2_int min2_int max_two min_two max_three min_three max_four min_four   -- for this text's walks alone
set_option linter.unusedVariables false
set_option linter.unusedSimpArgs false

/-! ### charge_Needless: function 51 -/
def charge_Needless.f (k : Nat) (l0 : List Int) : Option (List Int × Int) := (charge_Validate.f k l0).bind fun t101 => (if t101 = 0 then ((charge_needless.f k l0).bind fun t102 => (some (t102, 0))) else (some (([] : List Int), t101)))
theorem charge_Needless.mono : ∀ a0 k, LeO (charge_Needless.f k a0) (charge_Needless.f (k + 1) a0) := by
 intro a0 k; unfold charge_Needless.f; repeat' first
   | (with_reducible exact charge_Validate.mono _ _)
   | (with_reducible exact charge_needless.mono _ _)
   | (with_reducible exact LeO.refl _)
   | (with_reducible exact LeO.none _)
   | (with_reducible refine LeO.ite ?_ ?_)
   | (with_reducible refine LeO.bind ?_ (fun _ => ?_))
   | exact charge_Validate.mono _ _
   | exact charge_needless.mono _ _
   | exact LeO.none _
   | refine LeO.ite ?_ ?_
   | refine LeO.bind ?_ (fun _ => ?_)
set_option maxHeartbeats 8000000 in
set_option maxRecDepth 100000 in
theorem charge_Needless.calls (k : Nat) (A0 : Option Addr) (c0 : Nat) (l0 : List Int) (r1 : List Int) (r2 : Int) (w : World) (hr0 : Kd.C (Kd.int .i64) w A0 l0.length l0) (hc0 : l0.length ≤ c0) (h : charge_Needless.f k l0 = some (r1, r2)) :
  Calls Try.prog 51 #[.slice A0 l0.length c0] w fun e w' => ∃ v0_ : Value, e = .returned (.tuple #[v0_, .int .i64 r2]) ∧ Kd.R (Kd.int .i64) 3 w' w.heap.size (fun _ => True) v0_ r1 ∧ Below w.heap.size w w' := by
 have HR0 := XB hr0; have HC0 := XB hc0; clear hr0 hc0; have HB := XB (Below.refl w.heap.size w); have H : ((charge_Validate.f k l0).bind fun t101 => (if t101 = 0 then ((charge_needless.f k l0).bind fun t102 => (some (t102, 0))) else (some (([] : List Int), t101)))) = some (r1, r2) := h; clear h; replace H := Option.bind_eq_some_iff.mp H; obtain ⟨t101, A20, H⟩ := H; replace H : (if t101 = 0 then ((charge_needless.f k l0).bind fun t102 => (some (t102, 0))) else (some (([] : List Int), t101))) = some (r1, r2) := H; have A2 := XB A20; clear A20; by_cases c3 : t101 = 0
 ·rw [if_pos c3] at H; have c3b0 : (t101 == 0) = true := beq_iff_eq.mpr c3; have c3b1 : (t101 != 0) = false := bne_eq_false_iff_eq.mpr c3; clear c3; replace H := Option.bind_eq_some_iff.mp H; obtain ⟨t102, A40, H⟩ := H; replace H : (some (t102, 0)) = some (r1, r2) := H; have A4 := XB A40; clear A40; simp only [Option.some.injEq, Prod.mk.injEq] at H; obtain ⟨rfl, rfl⟩ := H; go_enter Try.func51, Try.ntmps51
  go_wp2_with (first | ((with_reducible refine gate_callee (f := 46) rfl ?_); refine goesL_ (some 6) rfl rfl Try.func46 (by kernel_rfl) rfl #[.slice A0 l0.length c0] rfl (by (try simp only [Xm, Xn, Xo]); first | done | rfl | (simp only [Xp, Xq]; rfl)) ?_; (with_reducible refine (charge_Validate.calls k _ _ l0 t101 _ ?side1 ?side2 A2.out).mono ?_); (case side1 => repeat (first | exact HR0.out | (with_reducible refine Xr ?_ _) | (with_reducible refine Xs ?_ _) | (with_reducible refine Xt ?_))); (case side2 => exact HC0.out); rintro e w' ⟨rfl, ⟨nd, rfl⟩⟩; refine ⟨_, rfl, ?_⟩) | ((with_reducible refine gate_callee (f := 78) rfl ?_); refine goesL_ (some 11) rfl rfl Try.func78 (by kernel_rfl) rfl #[.slice A0 l0.length c0] rfl (by (try simp only [Xm, Xn, Xo]); first | done | rfl | (simp only [Xp, Xq]; rfl)) ?_; (with_reducible refine (charge_needless.calls k _ _ l0 t102 _ ?side1 ?side2 A4.out).mono ?_); (case side1 => repeat (first | exact HR0.out | (with_reducible refine Xr ?_ _) | (with_reducible refine Xs ?_ _) | (with_reducible refine Xt ?_))); (case side2 => exact HC0.out); rintro e w5 ⟨v103, rfl, ho0, hb⟩; refine ⟨_, rfl, ?_⟩; have n0_ := XB (Kd.R_lower ho0 (XC (by repeat (first | (with_reducible first | exact HB.out | apply Xc | apply Xa | apply Xb) | exact HB.out)))); have n1_ := XB (Xz (by repeat (first | (with_reducible first | exact HB.out | apply Xc | apply Xa | apply Xb) | exact HB.out)) hb); clear HB; have HO104 := n0_; have HB := n1_; clear n0_ n1_; (try clear hb); (try clear hb2); (try clear hk); (try clear hi); (try clear ho0)))
  go_ret2
  exact ⟨_, by first | rfl | (simp [errW_none, errW_some] <;> rfl) | (simp [*, errW_none, errW_some] <;> rfl), by (with_reducible repeat (first | apply Xv | apply Xw | apply Xx)); exact HO104.out, by repeat (first | (with_reducible first | exact HB.out | apply Xc | apply Xa | apply Xb) | exact HB.out)⟩
 ·rw [if_neg c3] at H; have c3b0 : (t101 == 0) = false := beq_eq_false_iff_ne.mpr c3; have c3b1 : (t101 != 0) = true := bne_iff_ne.mpr c3; simp only [Option.some.injEq, Prod.mk.injEq] at H; obtain ⟨rfl, rfl⟩ := H; go_enter Try.func51, Try.ntmps51
  go_wp2_with (first | ((with_reducible refine gate_callee (f := 46) rfl ?_); refine goesL_ (some 6) rfl rfl Try.func46 (by kernel_rfl) rfl #[.slice A0 l0.length c0] rfl (by (try simp only [Xm, Xn, Xo]); first | done | rfl | (simp only [Xp, Xq]; rfl)) ?_; (with_reducible refine (charge_Validate.calls k _ _ l0 t101 _ ?side1 ?side2 A2.out).mono ?_); (case side1 => repeat (first | exact HR0.out | (with_reducible refine Xr ?_ _) | (with_reducible refine Xs ?_ _) | (with_reducible refine Xt ?_))); (case side2 => exact HC0.out); rintro e w' ⟨rfl, ⟨nd, rfl⟩⟩; refine ⟨_, rfl, ?_⟩))
  go_ret2
  exact ⟨_, by first | rfl | (simp [errW_none, errW_some] <;> rfl) | (simp [*, errW_none, errW_some] <;> rfl), by first | exact Kd.R_nil _ _ _ _ _ | exact Kd.N_nil _ _ _ _ _ | exact Kd.V_nil _ _ _ _ _ | exact Kd.Q_nil _ _ _ _ _ | exact Kd.S_nil _ _ _ _ _, by repeat (first | (with_reducible first | exact HB.out | apply Xc | apply Xa | apply Xb) | exact HB.out)⟩

/-! ### diaphoneref07_Needless: function 52 -/
def diaphoneref07_Needless.l0 : Nat → List Int → List Int → Int → Option (List Int × Int)
 | 0, _, _, _ => none
 | k + 1, x0, x5, x6 => if x6 < (x0.length : Int) then (if 0 ≤ x6 then (if x6 ≤ (x0.length : Int) then ((diaphoneref07_few.f k (x0.take (x6 : Int).toNat) (rd x0 x6)).bind fun t104 => (if 0 ≤ (rd x0 x6) then (if (rd x0 x6) < (t104.length : Int) then (if (rd t104 (rd x0 x6)) ≥ 0 then (if x5.length < 17592186044416 then (diaphoneref07_Needless.l0 k x0 (x5 ++ [rd x0 x6]) (wrap64 (x6 + 1))) else (none)) else (diaphoneref07_Needless.l0 k x0 x5 (wrap64 (x6 + 1)))) else (none)) else (none))) else (none)) else (none)) else (some (x5, 0))
def diaphoneref07_Needless.f (k : Nat) (l0 : List Int) : Option (List Int × Int) := (diaphoneref07_Validate.f k l0).bind fun t101 => (if t101 = 0 then (diaphoneref07_Needless.l0 k l0 ([] : List Int) 1) else (some (([] : List Int), t101)))
theorem diaphoneref07_Needless.mono_l : ∀ k, (∀ y0 y1 y2, LeO (diaphoneref07_Needless.l0 k y0 y1 y2) (diaphoneref07_Needless.l0 (k + 1) y0 y1 y2))
 | 0 => fun _ _ _ r h => by simp [diaphoneref07_Needless.l0] at h
 | k + 1 => by
  have ih0 := diaphoneref07_Needless.mono_l k
  ·intro y0 y1 y2; unfold diaphoneref07_Needless.l0; repeat' first
   | (with_reducible exact ih0 _ _ _)
   | (with_reducible exact diaphoneref07_Validate.mono _ _)
   | (with_reducible exact diaphoneref07_few.mono _ _ _)
   | (with_reducible exact LeO.refl _)
   | (with_reducible exact LeO.none _)
   | (with_reducible refine LeO.ite ?_ ?_)
   | (with_reducible refine LeO.bind ?_ (fun _ => ?_))
   | exact ih0 _ _ _
   | exact diaphoneref07_Validate.mono _ _
   | exact diaphoneref07_few.mono _ _ _
   | exact LeO.none _
   | refine LeO.ite ?_ ?_
   | refine LeO.bind ?_ (fun _ => ?_)
theorem diaphoneref07_Needless.mono : ∀ a0 k, LeO (diaphoneref07_Needless.f k a0) (diaphoneref07_Needless.f (k + 1) a0) := by
 intro a0 k; have ih0 := diaphoneref07_Needless.mono_l k; unfold diaphoneref07_Needless.f; repeat' first
   | (with_reducible exact ih0 _ _ _)
   | (with_reducible exact diaphoneref07_Validate.mono _ _)
   | (with_reducible exact diaphoneref07_few.mono _ _ _)
   | (with_reducible exact LeO.refl _)
   | (with_reducible exact LeO.none _)
   | (with_reducible refine LeO.ite ?_ ?_)
   | (with_reducible refine LeO.bind ?_ (fun _ => ?_))
   | exact ih0 _ _ _
   | exact diaphoneref07_Validate.mono _ _
   | exact diaphoneref07_few.mono _ _ _
   | exact LeO.none _
   | refine LeO.ite ?_ ?_
   | refine LeO.bind ?_ (fun _ => ?_)
def diaphoneref07_Needless.T8 : Bool × List (List Nat × List Nat) := (true, [([], []), ([], []), ([], []), ([0, 1, 2], [0, 1, 2]), ([], []), ([], []), ([4, 5], [4, 5]), ([6], [6]), ([3, 7], [3, 7]), ([], []), ([], []), ([9, 10], [9, 10]), ([11], [11]), ([8, 12], [8, 12]), ([13], [13]), ([14], [14])])
def diaphoneref07_Needless.B8 : List Nat := [0, 0, 0, 7, 0, 0, 48, 112, 255, 0, 0, 1536, 3584, 8191, 16383, 32767]
theorem diaphoneref07_Needless.tab8 : rtab .any (opsOf Try.f52 8) = diaphoneref07_Needless.T8 := by kernel_rfl
theorem diaphoneref07_Needless.bits8 : waitsOk diaphoneref07_Needless.T8.2 diaphoneref07_Needless.B8 = true := by kernel_rfl
theorem diaphoneref07_Needless.print_take3_of {P : Program} {α : Type} (enc : α → Value) (d : α) (t e : TypeId) (kl : IntKind) {i : TypeInfo} (ht : P.underlying t = some (.slice e)) (hi : P.info? e = some i) (hsz : i.size = 1) (A : Option Addr) (c : Nat) (xs : List α) (j : Int) (h0 : 0 ≤ j) (hm : j ≤ xs.length) (hc : xs.length ≤ c) :
  (∀ W : World, (Instr.slice t (.slice A xs.length c) none (some (.int kl j)) (some (.int kl j))).run P W = .ok (.slice A (xs.take j.toNat).length j.toNat) W) ∧
   (∀ w : World, ReadsOf enc d w A xs.length xs → ReadsOf enc d w A (xs.take j.toNat).length (xs.take j.toNat)) ∧ (xs.take j.toNat).length ≤ j.toNat := by
 have hl : (xs.take j.toNat).length = j.toNat := by rw [Xq]; omega
 refine ⟨fun W => ?_, fun w h => by rw [hl]; exact h.take_ j.toNat (by omega), by rw [hl]; omega⟩; have hel : P.elem t = e := by simp [Program.elem, ht]
 have hu : P.underlying t = some (.slice (P.elem t)) := by rw [hel]; exact ht
 have ha : (A.map fun x => x.add 0) = A := by cases A <;> simp [Addr.add]
 rw [run_slice_hm W t A xs.length c hu kl kl j j h0 (by omega) (by omega), hel, hl]; simp [sizeOf, typeInfo, hi, hsz, sliced, Result.andThen, ha]
set_option maxHeartbeats 8000000 in
set_option maxRecDepth 100000 in
theorem diaphoneref07_Needless.calls (k : Nat) (A0 : Option Addr) (c0 : Nat) (l0 : List Int) (r1 : List Int) (r2 : Int) (w : World) (hr0 : Kd.C (Kd.int .i64) w A0 l0.length l0) (hc0 : l0.length ≤ c0) (h : diaphoneref07_Needless.f k l0 = some (r1, r2)) :
  Calls Try.prog 52 #[.slice A0 l0.length c0] w fun e w' => ∃ v0_ : Value, e = .returned (.tuple #[v0_, .int .i64 r2]) ∧ Kd.R (Kd.int .i64) 3 w' w.heap.size (fun _ => True) v0_ r1 ∧ Below w.heap.size w w' := by
 have HR0 := XB hr0; have HC0 := XB hc0; clear hr0 hc0; have HB := XB (Below.refl w.heap.size w); have H : ((diaphoneref07_Validate.f k l0).bind fun t101 => (if t101 = 0 then (diaphoneref07_Needless.l0 k l0 ([] : List Int) 1) else (some (([] : List Int), t101)))) = some (r1, r2) := h; clear h; replace H := Option.bind_eq_some_iff.mp H; obtain ⟨t101, A20, H⟩ := H; replace H : (if t101 = 0 then (diaphoneref07_Needless.l0 k l0 ([] : List Int) 1) else (some (([] : List Int), t101))) = some (r1, r2) := H; have A2 := XB A20; clear A20; by_cases c3 : t101 = 0
 ·rw [if_pos c3] at H; have c3b0 : (t101 == 0) = true := beq_iff_eq.mpr c3; have c3b1 : (t101 != 0) = false := bne_eq_false_iff_eq.mpr c3; clear c3; have H' := XB H; clear H; go_enter Try.func52, Try.ntmps52
  go_wp2_with (first | ((with_reducible refine gate_callee (f := 47) rfl ?_); refine goesL_ (some 8) rfl rfl Try.func47 (by kernel_rfl) rfl #[.slice A0 l0.length c0] rfl (by (try simp only [Xm, Xn, Xo]); first | done | rfl | (simp only [Xp, Xq]; rfl)) ?_; (with_reducible refine (diaphoneref07_Validate.calls k _ _ l0 t101 _ ?side1 ?side2 A2.out).mono ?_); (case side1 => repeat (first | exact HR0.out | (with_reducible refine Xr ?_ _) | (with_reducible refine Xs ?_ _) | (with_reducible refine Xt ?_))); (case side2 => exact HC0.out); rintro e w' ⟨rfl, ⟨nd, rfl⟩⟩; refine ⟨_, rfl, ?_⟩))
  go_loopg [5, 6] k (fun kq v5 v6 w' => ∃ (x5_1 : List Int) (x6_1 : Int), v6 = .int .i64 x6_1 ∧ Aside0 (diaphoneref07_Needless.l0 kq l0 x5_1 x6_1 = some (r1, r2)) ∧ Aside0 (kq ≤ k) ∧ Aside0 (Kd.R (Kd.int .i64) 3 w' w.heap.size (fun _ => True) v5 x5_1) ∧ Aside0 (Below w.heap.size w w'))
  case atStart => exact ⟨(([] : List Int)), (1), (by first | rfl | (simp; done) | (simp [*]; done)), H', ⟨Nat.le_refl _⟩, ⟨by first | exact Kd.R_nil _ _ _ _ _ | exact Kd.N_nil _ _ _ _ _ | exact Kd.V_nil _ _ _ _ _ | exact Kd.Q_nil _ _ _ _ _ | exact Kd.S_nil _ _ _ _ _⟩, ⟨by repeat (first | (with_reducible first | exact HB.out | apply Xc | apply Xa | apply Xb) | exact HB.out)⟩⟩
  case round =>
   clear H'; try clear p2
   try clear c3
   try clear c3b0
   try clear c3b1
   obtain ⟨x5_1, x6_1, rfl, HA, HK1, HO_5, HB⟩ := hrel
   cases gk with
   | zero => exact absurd HA.out (by simp [diaphoneref07_Needless.l0])
   | succ k1 =>
    have H := HA.out; clear HA; simp only [diaphoneref07_Needless.l0] at H; by_cases c4 : x6_1 < (l0.length : Int)
    ·rw [if_pos c4] at H; have c4b0 : decide (x6_1 < (l0.length : Int)) = true := decide_eq_true c4; clear c4; by_cases c5 : 0 ≤ x6_1
     ·rw [if_pos c5] at H; have c5b0 := eq_true c5; have c5b1 : decide (0 ≤ x6_1) = true := decide_eq_true c5; clear c5; by_cases c6 : x6_1 ≤ (l0.length : Int)
      ·rw [if_pos c6] at H; have c6b0 := eq_true c6; have c6b1 : decide (x6_1 ≤ (l0.length : Int)) = true := decide_eq_true c6; clear c6; replace H := Option.bind_eq_some_iff.mp H; obtain ⟨t104, A70, H⟩ := H; replace H : (if 0 ≤ (rd l0 x6_1) then (if (rd l0 x6_1) < (t104.length : Int) then (if (rd t104 (rd l0 x6_1)) ≥ 0 then (if x5_1.length < 17592186044416 then (diaphoneref07_Needless.l0 k1 l0 (x5_1 ++ [rd l0 x6_1]) (wrap64 (x6_1 + 1))) else (none)) else (diaphoneref07_Needless.l0 k1 l0 x5_1 (wrap64 (x6_1 + 1)))) else (none)) else (none)) = some (r1, r2) := H; have A7 := XB A70; clear A70; by_cases c8 : 0 ≤ (rd l0 x6_1)
       ·rw [if_pos c8] at H; have c8b0 : decide (0 ≤ (rd l0 x6_1)) = true := decide_eq_true c8; clear c8; by_cases c9 : (rd l0 x6_1) < (t104.length : Int)
        ·rw [if_pos c9] at H; have c9b0 : decide ((rd l0 x6_1) < (t104.length : Int)) = true := decide_eq_true c9; clear c9; by_cases c10 : (rd t104 (rd l0 x6_1)) ≥ 0
         ·rw [if_pos c10] at H; have c10b0 : decide (0 ≤ (rd t104 (rd l0 x6_1))) = true := decide_eq_true c10; clear c10; by_cases c11 : x5_1.length < 17592186044416
          ·rw [if_pos c11] at H; have LMc11 := XB c11; clear c11; obtain ⟨y110, hy110⟩ : ∃ y_ : List Int, y_ = (x5_1 ++ [rd l0 x6_1]) := ⟨_, rfl⟩
           replace H : (diaphoneref07_Needless.l0 k1 l0 y110 (wrap64 (x6_1 + 1))) = some (r1, r2) := by first | (rw [hy110]; with_reducible exact H) | (have H2_ := (Option.bind_some _ _).symm.trans H; rw [hy110]; with_reducible exact H2_) | (have H2_ := (Option.bind_some _ _).symm.trans H; with_reducible exact H2_) | with_reducible exact H | (rw [hy110]; exact H) | exact H
           have Ny110 := XB hy110; clear hy110; have H' := XB H; clear H; try go_wp2
           have n0_ := XB (Xx HO_5.out); have n1_ := XB (Xb HB.out); clear HO_5; clear HB; have HO_5 := n0_; have HB := n1_; clear n0_ n1_; obtain ⟨i013, hi013, _, hsz13, _⟩ := info_parts info3; obtain ⟨hcut13, hA13, hC13⟩ := diaphoneref07_Needless.print_take3_of (P := Try.prog) (Value.int .i64) 0 22 3 .i64 Try.underlying22 hi013 hsz13 A0 c0 l0 x6_1 (of_decide_eq_true (by first | (with_reducible assumption) | assumption)) (of_decide_eq_true (by first | (with_reducible assumption) | assumption)) HC0.out; have HR102 := XB (Kd.C_of_reads (h1 := fun _ => rfl) (hA13 _ (Kd.reads_of_C HR0.out))); have HC102 := XB hC13; clear hA13 hC13 hi013 hsz13; have p103 : 0 ≤ (x6_1 : Int) := of_decide_eq_true (by first | (with_reducible assumption) | assumption); have q103 : x6_1 < (l0.length : Int) := of_decide_eq_true (by first | (with_reducible assumption) | assumption); obtain ⟨ad103, e103, hx103_0⟩ := Kd.at_int HR0.out x6_1 p103 q103; have hw103_0 := hx103_0
           cases e103
           replace hx103_0 := (HB.out.cell (World.block_lt_of_cell? w _ hx103_0)).trans hx103_0; replace p103 := eq_true p103; replace q103 := eq_true q103; have p107 : 0 ≤ (x6_1 : Int) := of_decide_eq_true (by first | (with_reducible assumption) | assumption); have q107 : x6_1 < (l0.length : Int) := of_decide_eq_true (by first | (with_reducible assumption) | assumption); obtain ⟨ad107, e107, hx107_0⟩ := Kd.at_int HR0.out x6_1 p107 q107; have hw107_0 := hx107_0; obtain rfl : ad103 = ad107 := (by injection e107); replace hx107_0 := (HB.out.cell (World.block_lt_of_cell? w _ hx107_0)).trans hx107_0; replace p107 := eq_true p107; replace q107 := eq_true q107; refine start_ (n := 16) (S := fun w' => w'.cell? (ad103.add (x6_1).toNat) = some (.int .i64 (rd l0 x6_1)) ∧ w'.cell? (ad103.add (x6_1).toNat) = some (.int .i64 (rd l0 x6_1))) (ds := []) #[false, false, false, false, false, false, false, false, false, false, false, false, false, false, false, false] (by kernel_rfl) rfl rfl ⟨((HB.out.cell (World.block_lt_of_cell? w _ hw103_0)).trans hw103_0), ((HB.out.cell (World.block_lt_of_cell? w _ hw107_0)).trans hw107_0)⟩ (fun hHeld => ?_); refine with_tabW diaphoneref07_Needless.tab8 diaphoneref07_Needless.bits8 (fun HT_ HW_ => ?_); generalize wr.drew = w12 at HO_5 HB HR102 hx103_0 hx107_0 hHeld ⊢
           refine pure_ (i := 0) (N := some 18) (v := ?_) (a' := ?_) (Bq 16 1) rfl rfl (any_of HT_.out (by kernel_rfl)) (fun _ _ _ h => h) (Or.inl ⟨by rfl, ?_⟩) ?_ ?_; rotate_left
           ·intro w'; go_simp; with_reducible rfl
           rotate_left
           ·simp only [Act.put, Xj, Xk, Xl, i64_w, i32_w]; rfl
           refine pure_ (i := 1) (N := some 19) (v := ?_) (a' := ?_) (Bq 16 3) rfl rfl (any_of HT_.out (by kernel_rfl)) (fun _ _ _ h => h) (Or.inl ⟨by rfl, ?_⟩) ?_ ?_; rotate_left
           ·intro w'; go_simp; with_reducible rfl
           rotate_left
           ·simp only [Act.put, Xj, Xk, Xl, i64_w, i32_w]; rfl
           refine pure_ (i := 2) (N := some 20) (v := ?_) (a' := ?_) (Bq 16 7) rfl rfl (any_of HT_.out (by kernel_rfl)) (fun _ _ _ h => h) (Or.inl ⟨by rfl, ?_⟩) ?_ ?_; rotate_left
           ·intro w'; go_simp; with_reducible rfl
           rotate_left
           ·simp only [Act.put, Xj, Xk, Xl, i64_w, i32_w]; rfl
           refine pure_ (i := 3) (N := some 21) (v := ?_) (a' := ?_) (Bq 16 15) rfl rfl (any_of HT_.out (by kernel_rfl)) (fun _ _ _ h => h) (Or.inl ⟨by rfl, ?_⟩) ?_ ?_; rotate_left
           ·intro w'; go_simp; with_reducible rfl
           rotate_left
           ·simp only [Act.put, Xj, Xk, Xl, i64_w, i32_w]; rfl
           refine pure_ (i := 4) (N := some 22) (v := ?_) (a' := ?_) (Bq 16 31) rfl rfl (any_of HT_.out (by kernel_rfl)) (fun _ _ _ h => h) (Or.inl ⟨by rfl, ?_⟩) ?_ ?_; rotate_left
           ·intro w'; go_simp; with_reducible rfl
           rotate_left
           ·simp only [Act.put, Xj, Xk, Xl, i64_w, i32_w]; rfl
           refine pure_ (i := 5) (N := some 23) (v := ?_) (a' := ?_) (Bq 16 63) rfl rfl (any_of HT_.out (by kernel_rfl)) (fun _ _ _ h => h) (Or.inl ⟨by rfl, ?_⟩) ?_ ?_; rotate_left
           ·intro w'; go_simp; with_reducible rfl
           rotate_left
           ·simp only [Act.put, Xj, Xk, Xl, i64_w, i32_w]; rfl
           refine pure_ (i := 6) (N := some 24) (v := ?_) (a' := ?_) (Bq 16 127) rfl rfl (any_of HT_.out (by kernel_rfl)) (fun _ _ _ h => h) (Or.inl ⟨by rfl, ?_⟩) ?_ ?_; rotate_left
           ·intro w'; go_simp; with_reducible rfl
           rotate_left
           ·simp only [Act.put, Xj, Xk, Xl, i64_w, i32_w]; rfl
           refine pure_ (i := 9) (N := some 27) (v := ?_) (a' := ?_) (Bq 16 639) rfl rfl (any_of HT_.out (by kernel_rfl)) (fun _ _ _ h => h) (Or.inl ⟨by rfl, ?_⟩) ?_ ?_; rotate_left
           ·intro w'; go_simp; with_reducible rfl
           rotate_left
           ·simp only [Act.put, Xj, Xk, Xl, i64_w, i32_w]; rfl
           refine pure_ (i := 10) (N := some 28) (v := ?_) (a' := ?_) (Bq 16 1663) rfl rfl (any_of HT_.out (by kernel_rfl)) (fun _ _ _ h => h) (Or.inl ⟨by rfl, ?_⟩) ?_ ?_; rotate_left
           ·intro w'; go_simp; with_reducible rfl
           rotate_left
           ·simp only [Act.put, Xj, Xk, Xl, i64_w, i32_w]; rfl
           refine pure_ (i := 11) (N := some 29) (v := ?_) (a' := ?_) (Bq 16 3711) rfl rfl (any_of HT_.out (by kernel_rfl)) (fun _ _ _ h => h) (Or.inl ⟨by rfl, ?_⟩) ?_ ?_; rotate_left
           ·intro w'; go_simp; with_reducible rfl
           rotate_left
           ·simp only [Act.put, Xj, Xk, Xl, i64_w, i32_w]; rfl
           refine take_ (i := 7) (N := some 25) (v := ?_) (a' := ?_) (Bq 16 3839) rfl rfl (take_ofW HT_.out HW_.out (by kernel_rfl)) (fun _ _ _ h => h) (Or.inl ⟨by rfl, ?_⟩) hHeld ?_ ?_; rotate_left
           ·rintro w' ⟨s0, s1⟩; go_simp; with_reducible rfl
           rotate_left
           ·simp only [Act.put, Xj, Xk, Xl, i64_w, i32_w]; rfl
           refine take_ (i := 12) (N := some 30) (v := ?_) (a' := ?_) (Bq 16 7935) rfl rfl (take_ofW HT_.out HW_.out (by kernel_rfl)) (fun _ _ _ h => h) (Or.inl ⟨by rfl, ?_⟩) hHeld ?_ ?_; rotate_left
           ·rintro w' ⟨s0, s1⟩; go_simp; with_reducible rfl
           rotate_left
           ·simp only [Act.put, Xj, Xk, Xl, i64_w, i32_w]; rfl
           refine one_ (i := 8) (N := some 26) (Bq 16 8191) rfl rfl (one_of HT_.out (by kernel_rfl)) (by decide) (fun K hK => ?_); refine goes_ Try.func62 (by kernel_rfl) rfl #[.slice (some ad103) (l0.take (x6_1 : Int).toNat).length (x6_1 : Int).toNat, .int .i64 (rd l0 x6_1)] (by rfl) rfl rfl (by (try simp only [Xm, Xn, Xo]); first | done | (rw [show (l0.take (x6_1 : Int).toNat).length = x6_1.toNat from (by rw [Xq]; have h_ : (x6_1 : Int) ≤ (l0.length : Int) := of_decide_eq_true (by first | (with_reducible assumption) | assumption); omega)] <;> rfl) | rfl | (simp only [Xp, Xq]; rfl)) ?_; with_reducible refine (diaphoneref07_few.calls k1 _ _ (l0.take (x6_1 : Int).toNat) (rd l0 x6_1) t104 _ ?side1 ?side2 A7.out).mono ?_
           (case side1 => repeat (first | exact (Xu HR102.out HB.out) | (with_reducible refine Xr ?_ _) | (with_reducible refine Xs ?_ _) | (with_reducible refine Xt ?_)))
           (case side2 => exact HC102.out)
           rintro e w14 ⟨v105, rfl, ho0, hb⟩; refine ⟨_, rfl, ?_⟩; have n0_ := XB (Kd.R_elder' (by (with_reducible repeat (first | apply Xv | apply Xw | apply Xx)); exact HO_5.out) (Kd.R_base ho0) hb); have n1_ := XB (Kd.R_lower (Kd.R_new' ho0 (Kd.R_lt (by (with_reducible repeat (first | apply Xv | apply Xw | apply Xx)); exact HO_5.out))) (XC (by repeat (first | (with_reducible first | exact HB.out | apply Xc | apply Xa | apply Xb) | exact HB.out)))); have n2_ := XB (Xz (by repeat (first | (with_reducible first | exact HB.out | apply Xc | apply Xa | apply Xb) | exact HB.out)) hb); clear HO_5; clear HB; have HO_5 := n0_; have HO106 := n1_; have HB := n2_; clear n0_ n1_ n2_; (try clear hb)
           (try clear hb2)
           (try clear hk)
           (try clear hi)
           (try clear ho0)
           obtain ⟨Ao15, co15, eo15⟩ := Kd.R_slice HO106.out; (first | subst eo15 | (injection eo15 with f1_ f2_ f3_; have f4_ := f1_.symm; have f5_ := f3_.symm; clear f1_ f2_ f3_; subst f4_; subst f5_))
           have p108 : 0 ≤ ((rd l0 x6_1) : Int) := of_decide_eq_true (by first | (with_reducible assumption) | assumption); have q108 : (rd l0 x6_1) < (t104.length : Int) := of_decide_eq_true (by first | (with_reducible assumption) | assumption); obtain ⟨ad108, e108, hx108_0⟩ := Kd.at_int (XD HO106.out).2.2 (rd l0 x6_1) p108 q108
           cases e108
           replace p108 := eq_true p108; replace q108 := eq_true q108; refine hK.out _ _ ⟨((HB.out.cell (World.block_lt_of_cell? w _ hw103_0)).trans hw103_0), ((HB.out.cell (World.block_lt_of_cell? w _ hw107_0)).trans hw107_0)⟩ (fun hHeld => ?_); clear hK K; refine norm_ (a' := ?_) ?_ ?_; rotate_left
           ·show Act.put _ (some 26) _ = _
            simp only [Act.put, Xj, Xk, Xl, i64_w, i32_w]; rfl
           refine pure_ (i := 13) (N := some 31) (v := ?_) (a' := ?_) (Bq 16 16383) rfl rfl (any_of HT_.out (by kernel_rfl)) (fun _ _ _ h => h) (Or.inl ⟨by rfl, ?_⟩) ?_ ?_; rotate_left
           ·intro w'; go_simp; with_reducible rfl
           rotate_left
           ·simp only [Act.put, Xj, Xk, Xl, i64_w, i32_w]; rfl
           refine one_ (i := 14) (N := some 32) (Bq 16 32767) rfl rfl (one_of HT_.out (by kernel_rfl)) (by decide) (fun K hK => ?_); refine value_ (v := .int .i64 (rd t104 (rd l0 x6_1))) (by rfl) rfl (by go_simp; with_reducible rfl) ?_; refine hK.out _ _ hHeld (fun hHeld => ?_); clear hK K; refine norm_ (a' := ?_) ?_ ?_; rotate_left
           ·show Act.put _ (some 32) _ = _
            simp only [Act.put, Xj, Xk, Xl, i64_w, i32_w]; rfl
           refine pure_ (i := 15) (N := some 33) (v := ?_) (a' := ?_) (Bq 16 65535) rfl rfl (any_of HT_.out (by kernel_rfl)) (fun _ _ _ h => h) (Or.inl ⟨by rfl, ?_⟩) ?_ ?_; rotate_left
           ·intro w'; go_simp; with_reducible rfl
           rotate_left
           ·simp only [Act.put, Xj, Xk, Xl, i64_w, i32_w]; rfl
           refine done_ (done_of HT_.out (by kernel_rfl)) ?_; have p109 : 0 ≤ (x6_1 : Int) := of_decide_eq_true (by first | (with_reducible assumption) | assumption); have q109 : x6_1 < (l0.length : Int) := of_decide_eq_true (by first | (with_reducible assumption) | assumption); obtain ⟨ad109, e109, hx109_0⟩ := Kd.at_int HR0.out x6_1 p109 q109; obtain rfl : ad103 = ad109 := (by injection e109); replace hx109_0 := (HB.out.cell (World.block_lt_of_cell? w _ hx109_0)).trans hx109_0; replace p109 := eq_true p109; replace q109 := eq_true q109; try go_wp2_with (first | ((with_reducible refine gate_builtin (b := .append) (xs := #[.tmp 34, .tmp 39]) rfl ?_); at_builtin; refine Kd.R_append (Kd.int .i64) (w0 := w) w.heap.size rfl (.tmp 34) (.tmp 39) 22 3 (.int .i64 0) 8 rfl Try.underlying22 info3 rfl (by decide) (by omega) u5 x5_1 (rd l0 x6_1) [.int .i64 (rd l0 x6_1)] (fun k_ => some k_ ≠ (.slice (some ad108) t104.length co15 : Value).ownBlock) (fun _ => False) rfl rfl ?aP (fun _ hk => hk.elim) ?aF ?aO ?aB ?aS ?aL ?_; (case aP => exact rfl); (case aB => exact (by repeat (first | (with_reducible first | exact HB.out | apply Xc | apply Xa | apply Xb) | exact HB.out))); (case aF => exact (fun k_ hk => Kd.fresh' (Kd.R_lt (by (with_reducible repeat (first | apply Xv | apply Xw | apply Xx)); exact HO106.out)) k_ hk)); (case aO => exact (by (with_reducible repeat (first | apply Xv | apply Xw | apply Xx)); exact Kd.R_mono HO_5.out (fun _ hk => hk.2))); (case aS => exact (XC (by repeat (first | (with_reducible first | exact HB.out | apply Xc | apply Xa | apply Xb) | exact HB.out)))); (case aL => have := LMc11.out; omega); intro v111 w16 ho hb hg hat; rw [← Ny110.out] at ho; have n0_ := XB (Kd.R_after (ok := (fun _ => True)) (by (with_reducible repeat (first | apply Xv | apply Xw | apply Xx)); exact HO106.out) hg hat); have n1_ := XB (hb); have n2_ := XB (ho); clear HO106; clear HB; clear HO_5; have HO106 := n0_; have HB := n1_; have HO112 := n2_; clear n0_ n1_ n2_; clear ho hb hg hat))
           go_roundg k1
           case measure => have := HK1.out; omega
           case rel => exact ⟨(y110), (wrap64 (x6_1 + 1)), (by first | rfl | (simp; done) | (simp [*]; done)), H', ⟨by have := HK1.out; omega⟩, ⟨by (with_reducible repeat (first | apply Xv | apply Xw | apply Xx)); exact Kd.R_mono HO112.out (fun _ hk => trivial)⟩, ⟨by repeat (first | (with_reducible first | exact HB.out | apply Xc | apply Xa | apply Xb) | exact HB.out)⟩⟩
          ·rw [if_neg c11] at H; exact absurd H (by simp)
         ·rw [if_neg c10] at H; have c10b0 : decide (0 ≤ (rd t104 (rd l0 x6_1))) = false := decide_eq_false c10; clear c10; have H' := XB H; clear H; try go_wp2
          have n0_ := XB (Xx HO_5.out); have n1_ := XB (Xb HB.out); clear HO_5; clear HB; have HO_5 := n0_; have HB := n1_; clear n0_ n1_; obtain ⟨i018, hi018, _, hsz18, _⟩ := info_parts info3; obtain ⟨hcut18, hA18, hC18⟩ := diaphoneref07_Needless.print_take3_of (P := Try.prog) (Value.int .i64) 0 22 3 .i64 Try.underlying22 hi018 hsz18 A0 c0 l0 x6_1 (of_decide_eq_true (by first | (with_reducible assumption) | assumption)) (of_decide_eq_true (by first | (with_reducible assumption) | assumption)) HC0.out; have HR102 := XB (Kd.C_of_reads (h1 := fun _ => rfl) (hA18 _ (Kd.reads_of_C HR0.out))); have HC102 := XB hC18; clear hA18 hC18 hi018 hsz18; have p103 : 0 ≤ (x6_1 : Int) := of_decide_eq_true (by first | (with_reducible assumption) | assumption); have q103 : x6_1 < (l0.length : Int) := of_decide_eq_true (by first | (with_reducible assumption) | assumption); obtain ⟨ad103, e103, hx103_0⟩ := Kd.at_int HR0.out x6_1 p103 q103; have hw103_0 := hx103_0
          cases e103
          replace hx103_0 := (HB.out.cell (World.block_lt_of_cell? w _ hx103_0)).trans hx103_0; replace p103 := eq_true p103; replace q103 := eq_true q103; have p107 : 0 ≤ (x6_1 : Int) := of_decide_eq_true (by first | (with_reducible assumption) | assumption); have q107 : x6_1 < (l0.length : Int) := of_decide_eq_true (by first | (with_reducible assumption) | assumption); obtain ⟨ad107, e107, hx107_0⟩ := Kd.at_int HR0.out x6_1 p107 q107; have hw107_0 := hx107_0; obtain rfl : ad103 = ad107 := (by injection e107); replace hx107_0 := (HB.out.cell (World.block_lt_of_cell? w _ hx107_0)).trans hx107_0; replace p107 := eq_true p107; replace q107 := eq_true q107; refine start_ (n := 16) (S := fun w' => w'.cell? (ad103.add (x6_1).toNat) = some (.int .i64 (rd l0 x6_1)) ∧ w'.cell? (ad103.add (x6_1).toNat) = some (.int .i64 (rd l0 x6_1))) (ds := []) #[false, false, false, false, false, false, false, false, false, false, false, false, false, false, false, false] (by kernel_rfl) rfl rfl ⟨((HB.out.cell (World.block_lt_of_cell? w _ hw103_0)).trans hw103_0), ((HB.out.cell (World.block_lt_of_cell? w _ hw107_0)).trans hw107_0)⟩ (fun hHeld => ?_); refine with_tabW diaphoneref07_Needless.tab8 diaphoneref07_Needless.bits8 (fun HT_ HW_ => ?_); generalize wr.drew = w17 at HO_5 HB HR102 hx103_0 hx107_0 hHeld ⊢
          refine pure_ (i := 0) (N := some 18) (v := ?_) (a' := ?_) (Bq 16 1) rfl rfl (any_of HT_.out (by kernel_rfl)) (fun _ _ _ h => h) (Or.inl ⟨by rfl, ?_⟩) ?_ ?_; rotate_left
          ·intro w'; go_simp; with_reducible rfl
          rotate_left
          ·simp only [Act.put, Xj, Xk, Xl, i64_w, i32_w]; rfl
          refine pure_ (i := 1) (N := some 19) (v := ?_) (a' := ?_) (Bq 16 3) rfl rfl (any_of HT_.out (by kernel_rfl)) (fun _ _ _ h => h) (Or.inl ⟨by rfl, ?_⟩) ?_ ?_; rotate_left
          ·intro w'; go_simp; with_reducible rfl
          rotate_left
          ·simp only [Act.put, Xj, Xk, Xl, i64_w, i32_w]; rfl
          refine pure_ (i := 2) (N := some 20) (v := ?_) (a' := ?_) (Bq 16 7) rfl rfl (any_of HT_.out (by kernel_rfl)) (fun _ _ _ h => h) (Or.inl ⟨by rfl, ?_⟩) ?_ ?_; rotate_left
          ·intro w'; go_simp; with_reducible rfl
          rotate_left
          ·simp only [Act.put, Xj, Xk, Xl, i64_w, i32_w]; rfl
          refine pure_ (i := 3) (N := some 21) (v := ?_) (a' := ?_) (Bq 16 15) rfl rfl (any_of HT_.out (by kernel_rfl)) (fun _ _ _ h => h) (Or.inl ⟨by rfl, ?_⟩) ?_ ?_; rotate_left
          ·intro w'; go_simp; with_reducible rfl
          rotate_left
          ·simp only [Act.put, Xj, Xk, Xl, i64_w, i32_w]; rfl
          refine pure_ (i := 4) (N := some 22) (v := ?_) (a' := ?_) (Bq 16 31) rfl rfl (any_of HT_.out (by kernel_rfl)) (fun _ _ _ h => h) (Or.inl ⟨by rfl, ?_⟩) ?_ ?_; rotate_left
          ·intro w'; go_simp; with_reducible rfl
          rotate_left
          ·simp only [Act.put, Xj, Xk, Xl, i64_w, i32_w]; rfl
          refine pure_ (i := 5) (N := some 23) (v := ?_) (a' := ?_) (Bq 16 63) rfl rfl (any_of HT_.out (by kernel_rfl)) (fun _ _ _ h => h) (Or.inl ⟨by rfl, ?_⟩) ?_ ?_; rotate_left
          ·intro w'; go_simp; with_reducible rfl
          rotate_left
          ·simp only [Act.put, Xj, Xk, Xl, i64_w, i32_w]; rfl
          refine pure_ (i := 6) (N := some 24) (v := ?_) (a' := ?_) (Bq 16 127) rfl rfl (any_of HT_.out (by kernel_rfl)) (fun _ _ _ h => h) (Or.inl ⟨by rfl, ?_⟩) ?_ ?_; rotate_left
          ·intro w'; go_simp; with_reducible rfl
          rotate_left
          ·simp only [Act.put, Xj, Xk, Xl, i64_w, i32_w]; rfl
          refine pure_ (i := 9) (N := some 27) (v := ?_) (a' := ?_) (Bq 16 639) rfl rfl (any_of HT_.out (by kernel_rfl)) (fun _ _ _ h => h) (Or.inl ⟨by rfl, ?_⟩) ?_ ?_; rotate_left
          ·intro w'; go_simp; with_reducible rfl
          rotate_left
          ·simp only [Act.put, Xj, Xk, Xl, i64_w, i32_w]; rfl
          refine pure_ (i := 10) (N := some 28) (v := ?_) (a' := ?_) (Bq 16 1663) rfl rfl (any_of HT_.out (by kernel_rfl)) (fun _ _ _ h => h) (Or.inl ⟨by rfl, ?_⟩) ?_ ?_; rotate_left
          ·intro w'; go_simp; with_reducible rfl
          rotate_left
          ·simp only [Act.put, Xj, Xk, Xl, i64_w, i32_w]; rfl
          refine pure_ (i := 11) (N := some 29) (v := ?_) (a' := ?_) (Bq 16 3711) rfl rfl (any_of HT_.out (by kernel_rfl)) (fun _ _ _ h => h) (Or.inl ⟨by rfl, ?_⟩) ?_ ?_; rotate_left
          ·intro w'; go_simp; with_reducible rfl
          rotate_left
          ·simp only [Act.put, Xj, Xk, Xl, i64_w, i32_w]; rfl
          refine take_ (i := 7) (N := some 25) (v := ?_) (a' := ?_) (Bq 16 3839) rfl rfl (take_ofW HT_.out HW_.out (by kernel_rfl)) (fun _ _ _ h => h) (Or.inl ⟨by rfl, ?_⟩) hHeld ?_ ?_; rotate_left
          ·rintro w' ⟨s0, s1⟩; go_simp; with_reducible rfl
          rotate_left
          ·simp only [Act.put, Xj, Xk, Xl, i64_w, i32_w]; rfl
          refine take_ (i := 12) (N := some 30) (v := ?_) (a' := ?_) (Bq 16 7935) rfl rfl (take_ofW HT_.out HW_.out (by kernel_rfl)) (fun _ _ _ h => h) (Or.inl ⟨by rfl, ?_⟩) hHeld ?_ ?_; rotate_left
          ·rintro w' ⟨s0, s1⟩; go_simp; with_reducible rfl
          rotate_left
          ·simp only [Act.put, Xj, Xk, Xl, i64_w, i32_w]; rfl
          refine one_ (i := 8) (N := some 26) (Bq 16 8191) rfl rfl (one_of HT_.out (by kernel_rfl)) (by decide) (fun K hK => ?_); refine goes_ Try.func62 (by kernel_rfl) rfl #[.slice (some ad103) (l0.take (x6_1 : Int).toNat).length (x6_1 : Int).toNat, .int .i64 (rd l0 x6_1)] (by rfl) rfl rfl (by (try simp only [Xm, Xn, Xo]); first | done | (rw [show (l0.take (x6_1 : Int).toNat).length = x6_1.toNat from (by rw [Xq]; have h_ : (x6_1 : Int) ≤ (l0.length : Int) := of_decide_eq_true (by first | (with_reducible assumption) | assumption); omega)] <;> rfl) | rfl | (simp only [Xp, Xq]; rfl)) ?_; with_reducible refine (diaphoneref07_few.calls k1 _ _ (l0.take (x6_1 : Int).toNat) (rd l0 x6_1) t104 _ ?side1 ?side2 A7.out).mono ?_
          (case side1 => repeat (first | exact (Xu HR102.out HB.out) | (with_reducible refine Xr ?_ _) | (with_reducible refine Xs ?_ _) | (with_reducible refine Xt ?_)))
          (case side2 => exact HC102.out)
          rintro e w19 ⟨v105, rfl, ho0, hb⟩; refine ⟨_, rfl, ?_⟩; have n0_ := XB (Kd.R_elder' (by (with_reducible repeat (first | apply Xv | apply Xw | apply Xx)); exact HO_5.out) (Kd.R_base ho0) hb); have n1_ := XB (Kd.R_lower (Kd.R_new' ho0 (Kd.R_lt (by (with_reducible repeat (first | apply Xv | apply Xw | apply Xx)); exact HO_5.out))) (XC (by repeat (first | (with_reducible first | exact HB.out | apply Xc | apply Xa | apply Xb) | exact HB.out)))); have n2_ := XB (Xz (by repeat (first | (with_reducible first | exact HB.out | apply Xc | apply Xa | apply Xb) | exact HB.out)) hb); clear HO_5; clear HB; have HO_5 := n0_; have HO106 := n1_; have HB := n2_; clear n0_ n1_ n2_; (try clear hb)
          (try clear hb2)
          (try clear hk)
          (try clear hi)
          (try clear ho0)
          obtain ⟨Ao20, co20, eo20⟩ := Kd.R_slice HO106.out; (first | subst eo20 | (injection eo20 with f1_ f2_ f3_; have f4_ := f1_.symm; have f5_ := f3_.symm; clear f1_ f2_ f3_; subst f4_; subst f5_))
          have p108 : 0 ≤ ((rd l0 x6_1) : Int) := of_decide_eq_true (by first | (with_reducible assumption) | assumption); have q108 : (rd l0 x6_1) < (t104.length : Int) := of_decide_eq_true (by first | (with_reducible assumption) | assumption); obtain ⟨ad108, e108, hx108_0⟩ := Kd.at_int (XD HO106.out).2.2 (rd l0 x6_1) p108 q108
          cases e108
          replace p108 := eq_true p108; replace q108 := eq_true q108; refine hK.out _ _ ⟨((HB.out.cell (World.block_lt_of_cell? w _ hw103_0)).trans hw103_0), ((HB.out.cell (World.block_lt_of_cell? w _ hw107_0)).trans hw107_0)⟩ (fun hHeld => ?_); clear hK K; refine norm_ (a' := ?_) ?_ ?_; rotate_left
          ·show Act.put _ (some 26) _ = _
           simp only [Act.put, Xj, Xk, Xl, i64_w, i32_w]; rfl
          refine pure_ (i := 13) (N := some 31) (v := ?_) (a' := ?_) (Bq 16 16383) rfl rfl (any_of HT_.out (by kernel_rfl)) (fun _ _ _ h => h) (Or.inl ⟨by rfl, ?_⟩) ?_ ?_; rotate_left
          ·intro w'; go_simp; with_reducible rfl
          rotate_left
          ·simp only [Act.put, Xj, Xk, Xl, i64_w, i32_w]; rfl
          refine one_ (i := 14) (N := some 32) (Bq 16 32767) rfl rfl (one_of HT_.out (by kernel_rfl)) (by decide) (fun K hK => ?_); refine value_ (v := .int .i64 (rd t104 (rd l0 x6_1))) (by rfl) rfl (by go_simp; with_reducible rfl) ?_; refine hK.out _ _ hHeld (fun hHeld => ?_); clear hK K; refine norm_ (a' := ?_) ?_ ?_; rotate_left
          ·show Act.put _ (some 32) _ = _
           simp only [Act.put, Xj, Xk, Xl, i64_w, i32_w]; rfl
          refine pure_ (i := 15) (N := some 33) (v := ?_) (a' := ?_) (Bq 16 65535) rfl rfl (any_of HT_.out (by kernel_rfl)) (fun _ _ _ h => h) (Or.inl ⟨by rfl, ?_⟩) ?_ ?_; rotate_left
          ·intro w'; go_simp; with_reducible rfl
          rotate_left
          ·simp only [Act.put, Xj, Xk, Xl, i64_w, i32_w]; rfl
          refine done_ (done_of HT_.out (by kernel_rfl)) ?_; try go_wp2
          go_roundg k1
          case measure => have := HK1.out; omega
          case rel => exact ⟨(x5_1), (wrap64 (x6_1 + 1)), (by first | rfl | (simp; done) | (simp [*]; done)), H', ⟨by have := HK1.out; omega⟩, ⟨by (with_reducible repeat (first | apply Xv | apply Xw | apply Xx)); exact Kd.R_mono HO_5.out (fun _ hk => trivial)⟩, ⟨by repeat (first | (with_reducible first | exact HB.out | apply Xc | apply Xa | apply Xb) | exact HB.out)⟩⟩
        ·rw [if_neg c9] at H; exact absurd H (by simp)
       ·rw [if_neg c8] at H; exact absurd H (by simp)
      ·rw [if_neg c6] at H; exact absurd H (by simp)
     ·rw [if_neg c5] at H; exact absurd H (by simp)
    ·rw [if_neg c4] at H; have c4b0 : decide (x6_1 < (l0.length : Int)) = false := decide_eq_false c4; clear c4; simp only [Option.some.injEq, Prod.mk.injEq] at H; obtain ⟨rfl, rfl⟩ := H; go_wp2
     go_ret2
     exact ⟨_, by first | rfl | (simp [errW_none, errW_some] <;> rfl) | (simp [*, errW_none, errW_some] <;> rfl), by (with_reducible repeat (first | apply Xv | apply Xw | apply Xx)); exact HO_5.out, by repeat (first | (with_reducible first | exact HB.out | apply Xc | apply Xa | apply Xb) | exact HB.out)⟩
 ·rw [if_neg c3] at H; have c3b0 : (t101 == 0) = false := beq_eq_false_iff_ne.mpr c3; have c3b1 : (t101 != 0) = true := bne_iff_ne.mpr c3; simp only [Option.some.injEq, Prod.mk.injEq] at H; obtain ⟨rfl, rfl⟩ := H; go_enter Try.func52, Try.ntmps52
  go_wp2_with (first | ((with_reducible refine gate_callee (f := 47) rfl ?_); refine goesL_ (some 8) rfl rfl Try.func47 (by kernel_rfl) rfl #[.slice A0 l0.length c0] rfl (by (try simp only [Xm, Xn, Xo]); first | done | rfl | (simp only [Xp, Xq]; rfl)) ?_; (with_reducible refine (diaphoneref07_Validate.calls k _ _ l0 t101 _ ?side1 ?side2 A2.out).mono ?_); (case side1 => repeat (first | exact HR0.out | (with_reducible refine Xr ?_ _) | (with_reducible refine Xs ?_ _) | (with_reducible refine Xt ?_))); (case side2 => exact HC0.out); rintro e w' ⟨rfl, ⟨nd, rfl⟩⟩; refine ⟨_, rfl, ?_⟩))
  go_ret2
  exact ⟨_, by first | rfl | (simp [errW_none, errW_some] <;> rfl) | (simp [*, errW_none, errW_some] <;> rfl), by first | exact Kd.R_nil _ _ _ _ _ | exact Kd.N_nil _ _ _ _ _ | exact Kd.V_nil _ _ _ _ _ | exact Kd.Q_nil _ _ _ _ _ | exact Kd.S_nil _ _ _ _ _, by repeat (first | (with_reducible first | exact HB.out | apply Xc | apply Xa | apply Xb) | exact HB.out)⟩

/-! ### diaphoneref07_Reduce: function 53 -/
def diaphoneref07_Reduce.l0 : Nat → List Int → List Int → List Int → Int → Option (List Int × Int)
 | 0, _, _, _, _ => none
 | k + 1, x0, x4, x6, x7 => if x7 < (x0.length : Int) then (if 0 ≤ x7 then ((diaphoneref07_Has.f k x4 (rd x0 x7)).bind fun t106 => (if t106 = true then (diaphoneref07_Reduce.l0 k x0 x4 x6 (wrap64 (x7 + 1))) else (if x6.length < 17592186044416 then (diaphoneref07_Reduce.l0 k x0 x4 (x6 ++ [rd x0 x7]) (wrap64 (x7 + 1))) else (none)))) else (none)) else (some (x6, 0))
def diaphoneref07_Reduce.f (k : Nat) (l0 : List Int) : Option (List Int × Int) := (diaphoneref07_Needless.f k l0).bind fun bt101 => (if bt101.2 = 0 then (diaphoneref07_Reduce.l0 k l0 bt101.1 ([] : List Int) 0) else (some (([] : List Int), bt101.2)))
theorem diaphoneref07_Reduce.mono_l : ∀ k, (∀ y0 y1 y2 y3, LeO (diaphoneref07_Reduce.l0 k y0 y1 y2 y3) (diaphoneref07_Reduce.l0 (k + 1) y0 y1 y2 y3))
 | 0 => fun _ _ _ _ r h => by simp [diaphoneref07_Reduce.l0] at h
 | k + 1 => by
  have ih0 := diaphoneref07_Reduce.mono_l k
  ·intro y0 y1 y2 y3; unfold diaphoneref07_Reduce.l0; repeat' first
   | (with_reducible exact ih0 _ _ _ _)
   | (with_reducible exact diaphoneref07_Has.mono _ _ _)
   | (with_reducible exact diaphoneref07_Needless.mono _ _)
   | (with_reducible exact LeO.refl _)
   | (with_reducible exact LeO.none _)
   | (with_reducible refine LeO.ite ?_ ?_)
   | (with_reducible refine LeO.bind ?_ (fun _ => ?_))
   | exact ih0 _ _ _ _
   | exact diaphoneref07_Has.mono _ _ _
   | exact diaphoneref07_Needless.mono _ _
   | exact LeO.none _
   | refine LeO.ite ?_ ?_
   | refine LeO.bind ?_ (fun _ => ?_)
theorem diaphoneref07_Reduce.mono : ∀ a0 k, LeO (diaphoneref07_Reduce.f k a0) (diaphoneref07_Reduce.f (k + 1) a0) := by
 intro a0 k; have ih0 := diaphoneref07_Reduce.mono_l k; unfold diaphoneref07_Reduce.f; repeat' first
   | (with_reducible exact ih0 _ _ _ _)
   | (with_reducible exact diaphoneref07_Has.mono _ _ _)
   | (with_reducible exact diaphoneref07_Needless.mono _ _)
   | (with_reducible exact LeO.refl _)
   | (with_reducible exact LeO.none _)
   | (with_reducible refine LeO.ite ?_ ?_)
   | (with_reducible refine LeO.bind ?_ (fun _ => ?_))
   | exact ih0 _ _ _ _
   | exact diaphoneref07_Has.mono _ _ _
   | exact diaphoneref07_Needless.mono _ _
   | exact LeO.none _
   | refine LeO.ite ?_ ?_
   | refine LeO.bind ?_ (fun _ => ?_)
set_option maxHeartbeats 8000000 in
set_option maxRecDepth 100000 in
theorem diaphoneref07_Reduce.calls (k : Nat) (A0 : Option Addr) (c0 : Nat) (l0 : List Int) (r1 : List Int) (r2 : Int) (w : World) (hr0 : Kd.C (Kd.int .i64) w A0 l0.length l0) (hc0 : l0.length ≤ c0) (h : diaphoneref07_Reduce.f k l0 = some (r1, r2)) :
  Calls Try.prog 53 #[.slice A0 l0.length c0] w fun e w' => ∃ v0_ : Value, e = .returned (.tuple #[v0_, .int .i64 r2]) ∧ Kd.R (Kd.int .i64) 3 w' w.heap.size (fun _ => True) v0_ r1 ∧ Below w.heap.size w w' := by
 have HR0 := XB hr0; have HC0 := XB hc0; clear hr0 hc0; have HB := XB (Below.refl w.heap.size w); have H : ((diaphoneref07_Needless.f k l0).bind fun bt101 => (if bt101.2 = 0 then (diaphoneref07_Reduce.l0 k l0 bt101.1 ([] : List Int) 0) else (some (([] : List Int), bt101.2)))) = some (r1, r2) := h; clear h; replace H := Option.bind_eq_some_iff.mp H; obtain ⟨⟨t101, t102⟩, A20, H⟩ := H; replace H : (if t102 = 0 then (diaphoneref07_Reduce.l0 k l0 t101 ([] : List Int) 0) else (some (([] : List Int), t102))) = some (r1, r2) := H; have A2 := XB A20; clear A20; by_cases c3 : t102 = 0
 ·rw [if_pos c3] at H; have c3b0 : (t102 == 0) = true := beq_iff_eq.mpr c3; have c3b1 : (t102 != 0) = false := bne_eq_false_iff_eq.mpr c3; clear c3; have H' := XB H; clear H; go_enter Try.func53, Try.ntmps53
  go_wp2_with (first | ((with_reducible refine gate_callee (f := 52) rfl ?_); refine goesL_ (some 10) rfl rfl Try.func52 (by kernel_rfl) rfl #[.slice A0 l0.length c0] rfl (by (try simp only [Xm, Xn, Xo]); first | done | rfl | (simp only [Xp, Xq]; rfl)) ?_; (with_reducible refine (diaphoneref07_Needless.calls k _ _ l0 t101 t102 _ ?side1 ?side2 A2.out).mono ?_); (case side1 => repeat (first | exact HR0.out | (with_reducible refine Xr ?_ _) | (with_reducible refine Xs ?_ _) | (with_reducible refine Xt ?_))); (case side2 => exact HC0.out); rintro e w4 ⟨v103, rfl, ho0, hb⟩; refine ⟨_, rfl, ?_⟩; have n0_ := XB (Kd.R_lower ho0 (XC (by repeat (first | (with_reducible first | exact HB.out | apply Xc | apply Xa | apply Xb) | exact HB.out)))); have n1_ := XB (Xz (by repeat (first | (with_reducible first | exact HB.out | apply Xc | apply Xa | apply Xb) | exact HB.out)) hb); clear HB; have HO104 := n0_; have HB := n1_; clear n0_ n1_; (try clear hb); (try clear hb2); (try clear hk); (try clear hi); (try clear ho0)))
  go_loopg [6, 7] k (fun kq v6 v7 w' => ∃ (x6_1 : List Int) (x7_1 : Int), v7 = .int .i64 x7_1 ∧ Aside0 (diaphoneref07_Reduce.l0 kq l0 t101 x6_1 x7_1 = some (r1, r2)) ∧ Aside0 (kq ≤ k) ∧ Aside0 (Kd.R (Kd.int .i64) 3 w' w.heap.size (fun k_ => some k_ ≠ (v6 : Value).ownBlock) v103 t101) ∧ Aside0 (Kd.R (Kd.int .i64) 3 w' w.heap.size (fun k_ => some k_ ≠ (v103 : Value).ownBlock) v6 x6_1) ∧ Aside0 (Below w.heap.size w w'))
  case atStart => exact ⟨(([] : List Int)), (0), (by first | rfl | (simp; done) | (simp [*]; done)), H', ⟨Nat.le_refl _⟩, ⟨by (with_reducible repeat (first | apply Xv | apply Xw | apply Xx)); exact Kd.R_mono HO104.out (fun _ hk => (by simp [Value.ownBlock]))⟩, ⟨by first | exact Kd.R_nil _ _ _ _ _ | exact Kd.N_nil _ _ _ _ _ | exact Kd.V_nil _ _ _ _ _ | exact Kd.Q_nil _ _ _ _ _ | exact Kd.S_nil _ _ _ _ _⟩, ⟨by repeat (first | (with_reducible first | exact HB.out | apply Xc | apply Xa | apply Xb) | exact HB.out)⟩⟩
  case round =>
   clear H'; try clear p2
   try clear c3
   try clear c3b0
   try clear c3b1
   obtain ⟨x6_1, x7_1, rfl, HA, HK1, HO_4, HO_6, HB⟩ := hrel
   cases gk with
   | zero => exact absurd HA.out (by simp [diaphoneref07_Reduce.l0])
   | succ k1 =>
    have H := HA.out; clear HA; simp only [diaphoneref07_Reduce.l0] at H; by_cases c5 : x7_1 < (l0.length : Int)
    ·rw [if_pos c5] at H; have c5b0 : decide (x7_1 < (l0.length : Int)) = true := decide_eq_true c5; clear c5; by_cases c6 : 0 ≤ x7_1
     ·rw [if_pos c6] at H; have c6b0 : decide (0 ≤ x7_1) = true := decide_eq_true c6; clear c6; replace H := Option.bind_eq_some_iff.mp H; obtain ⟨t106, A70, H⟩ := H; replace H : (if t106 = true then (diaphoneref07_Reduce.l0 k1 l0 t101 x6_1 (wrap64 (x7_1 + 1))) else (if x6_1.length < 17592186044416 then (diaphoneref07_Reduce.l0 k1 l0 t101 (x6_1 ++ [rd l0 x7_1]) (wrap64 (x7_1 + 1))) else (none))) = some (r1, r2) := H; have A7 := XB A70; clear A70; by_cases c8 : t106 = true
      ·subst c8; have H1 : (diaphoneref07_Reduce.l0 k1 l0 t101 x6_1 (wrap64 (x7_1 + 1))) = some (r1, r2) := by rw [if_pos rfl] at H; exact H
       clear H; have H := H1; clear H1; have H' := XB H; clear H; have p105 : 0 ≤ (x7_1 : Int) := of_decide_eq_true (by first | (with_reducible assumption) | assumption); have q105 : x7_1 < (l0.length : Int) := of_decide_eq_true (by first | (with_reducible assumption) | assumption); obtain ⟨ad105, e105, hx105_0⟩ := Kd.at_int HR0.out x7_1 p105 q105
       cases e105
       replace hx105_0 := (HB.out.cell (World.block_lt_of_cell? w _ hx105_0)).trans hx105_0; replace p105 := eq_true p105; replace q105 := eq_true q105; obtain ⟨Ao9, co9, eo9⟩ := Kd.R_slice HO_4.out; subst eo9; go_wp2_with (first | ((with_reducible refine gate_callee (f := 35) rfl ?_); refine goesL_ (some 27) rfl rfl Try.func35 (by kernel_rfl) rfl #[.slice Ao9 t101.length co9, .int .i64 (rd l0 x7_1)] rfl (by (try simp only [Xm, Xn, Xo]); first | done | rfl | (simp only [Xp, Xq]; rfl)) ?_; (with_reducible refine (diaphoneref07_Has.calls k1 _ _ t101 (rd l0 x7_1) true _ ?side1 ?side2 A7.out).mono ?_); (case side1 => repeat (first | exact (XD HO_4.out).2.2 | (with_reducible refine Xr ?_ _) | (with_reducible refine Xs ?_ _) | (with_reducible refine Xt ?_))); (case side2 => exact (XD HO_4.out).2.1); rintro e w' ⟨rfl, ⟨nd, rfl⟩⟩; refine ⟨_, rfl, ?_⟩))
       go_roundg k1
       case measure => have := HK1.out; omega
       case rel => exact ⟨(x6_1), (wrap64 (x7_1 + 1)), (by first | rfl | (simp; done) | (simp [*]; done)), H', ⟨by have := HK1.out; omega⟩, ⟨by (with_reducible repeat (first | apply Xv | apply Xw | apply Xx)); exact HO_4.out⟩, ⟨by (with_reducible repeat (first | apply Xv | apply Xw | apply Xx)); exact HO_6.out⟩, ⟨by repeat (first | (with_reducible first | exact HB.out | apply Xc | apply Xa | apply Xb) | exact HB.out)⟩⟩
      ·replace c8 := Bool.eq_false_iff.mpr c8; subst c8; have H1 : (if x6_1.length < 17592186044416 then (diaphoneref07_Reduce.l0 k1 l0 t101 (x6_1 ++ [rd l0 x7_1]) (wrap64 (x7_1 + 1))) else (none)) = some (r1, r2) := by rw [if_neg (show ¬ (false = true) by decide)] at H; exact H
       clear H; have H := H1; clear H1; by_cases c10 : x6_1.length < 17592186044416
       ·rw [if_pos c10] at H; have LMc10 := XB c10; clear c10; obtain ⟨y108, hy108⟩ : ∃ y_ : List Int, y_ = (x6_1 ++ [rd l0 x7_1]) := ⟨_, rfl⟩
        replace H : (diaphoneref07_Reduce.l0 k1 l0 t101 y108 (wrap64 (x7_1 + 1))) = some (r1, r2) := by first | (rw [hy108]; with_reducible exact H) | (have H2_ := (Option.bind_some _ _).symm.trans H; rw [hy108]; with_reducible exact H2_) | (have H2_ := (Option.bind_some _ _).symm.trans H; with_reducible exact H2_) | with_reducible exact H | (rw [hy108]; exact H) | exact H
        have Ny108 := XB hy108; clear hy108; have H' := XB H; clear H; have p105 : 0 ≤ (x7_1 : Int) := of_decide_eq_true (by first | (with_reducible assumption) | assumption); have q105 : x7_1 < (l0.length : Int) := of_decide_eq_true (by first | (with_reducible assumption) | assumption); obtain ⟨ad105, e105, hx105_0⟩ := Kd.at_int HR0.out x7_1 p105 q105
        cases e105
        replace hx105_0 := (HB.out.cell (World.block_lt_of_cell? w _ hx105_0)).trans hx105_0; replace p105 := eq_true p105; replace q105 := eq_true q105; obtain ⟨Ao11, co11, eo11⟩ := Kd.R_slice HO_4.out; subst eo11; go_wp2_with (first | ((with_reducible refine gate_callee (f := 35) rfl ?_); refine goesL_ (some 27) rfl rfl Try.func35 (by kernel_rfl) rfl #[.slice Ao11 t101.length co11, .int .i64 (rd l0 x7_1)] rfl (by (try simp only [Xm, Xn, Xo]); first | done | rfl | (simp only [Xp, Xq]; rfl)) ?_; (with_reducible refine (diaphoneref07_Has.calls k1 _ _ t101 (rd l0 x7_1) false _ ?side1 ?side2 A7.out).mono ?_); (case side1 => repeat (first | exact (XD HO_4.out).2.2 | (with_reducible refine Xr ?_ _) | (with_reducible refine Xs ?_ _) | (with_reducible refine Xt ?_))); (case side2 => exact (XD HO_4.out).2.1); rintro e w' ⟨rfl, ⟨nd, rfl⟩⟩; refine ⟨_, rfl, ?_⟩; have p107 : 0 ≤ (x7_1 : Int) := of_decide_eq_true (by first | (with_reducible assumption) | assumption); have q107 : x7_1 < (l0.length : Int) := of_decide_eq_true (by first | (with_reducible assumption) | assumption); obtain ⟨ad107, e107, hx107_0⟩ := Kd.at_int HR0.out x7_1 p107 q107; obtain rfl : ad105 = ad107 := (by injection e107); replace hx107_0 := (HB.out.cell (World.block_lt_of_cell? w _ hx107_0)).trans hx107_0; replace p107 := eq_true p107; replace q107 := eq_true q107) | ((with_reducible refine gate_builtin (b := .append) (xs := #[.tmp 29, .tmp 34]) rfl ?_); at_builtin; refine Kd.R_append (Kd.int .i64) (w0 := w) w.heap.size rfl (.tmp 29) (.tmp 34) 22 3 (.int .i64 0) 8 rfl Try.underlying22 info3 rfl (by decide) (by omega) u6 x6_1 (rd l0 x7_1) [.int .i64 (rd l0 x7_1)] (fun k_ => some k_ ≠ (.slice Ao11 t101.length co11 : Value).ownBlock) (fun _ => False) rfl rfl ?aP (fun _ hk => hk.elim) ?aF ?aO ?aB ?aS ?aL ?_; (case aP => exact rfl); (case aB => exact (by repeat (first | (with_reducible first | exact HB.out | apply Xc | apply Xa | apply Xb) | exact HB.out))); (case aF => exact (fun k_ hk => Kd.fresh' (Kd.R_lt (by (with_reducible repeat (first | apply Xv | apply Xw | apply Xx)); exact HO_4.out)) k_ hk)); (case aO => exact (by (with_reducible repeat (first | apply Xv | apply Xw | apply Xx)); exact HO_6.out)); (case aS => exact (XC (by repeat (first | (with_reducible first | exact HB.out | apply Xc | apply Xa | apply Xb) | exact HB.out)))); (case aL => have := LMc10.out; omega); intro v109 w12 ho hb hg hat; rw [← Ny108.out] at ho; have n0_ := XB (Kd.R_after (ok := (fun _ => True)) (by (with_reducible repeat (first | apply Xv | apply Xw | apply Xx)); exact Kd.R_mono HO_4.out (fun _ hk => ⟨trivial, hk⟩)) hg hat); have n1_ := XB (hb); have n2_ := XB (ho); clear HO_4; clear HB; clear HO_6; have HO_4 := n0_; have HB := n1_; have HO110 := n2_; clear n0_ n1_ n2_; clear ho hb hg hat))
        go_roundg k1
        case measure => have := HK1.out; omega
        case rel => exact ⟨(y108), (wrap64 (x7_1 + 1)), (by first | rfl | (simp; done) | (simp [*]; done)), H', ⟨by have := HK1.out; omega⟩, ⟨by (with_reducible repeat (first | apply Xv | apply Xw | apply Xx)); exact Kd.R_mono HO_4.out (fun _ hk => hk.2)⟩, ⟨by (with_reducible repeat (first | apply Xv | apply Xw | apply Xx)); exact HO110.out⟩, ⟨by repeat (first | (with_reducible first | exact HB.out | apply Xc | apply Xa | apply Xb) | exact HB.out)⟩⟩
       ·rw [if_neg c10] at H; exact absurd H (by simp)
     ·rw [if_neg c6] at H; exact absurd H (by simp)
    ·rw [if_neg c5] at H; have c5b0 : decide (x7_1 < (l0.length : Int)) = false := decide_eq_false c5; clear c5; simp only [Option.some.injEq, Prod.mk.injEq] at H; obtain ⟨rfl, rfl⟩ := H; go_wp2
     go_ret2
     exact ⟨_, by first | rfl | (simp [errW_none, errW_some] <;> rfl) | (simp [*, errW_none, errW_some] <;> rfl), by (with_reducible repeat (first | apply Xv | apply Xw | apply Xx)); exact Kd.R_mono HO_6.out (fun _ hk => trivial), by repeat (first | (with_reducible first | exact HB.out | apply Xc | apply Xa | apply Xb) | exact HB.out)⟩
 ·rw [if_neg c3] at H; have c3b0 : (t102 == 0) = false := beq_eq_false_iff_ne.mpr c3; have c3b1 : (t102 != 0) = true := bne_iff_ne.mpr c3; simp only [Option.some.injEq, Prod.mk.injEq] at H; obtain ⟨rfl, rfl⟩ := H; go_enter Try.func53, Try.ntmps53
  go_wp2_with (first | ((with_reducible refine gate_callee (f := 52) rfl ?_); refine goesL_ (some 10) rfl rfl Try.func52 (by kernel_rfl) rfl #[.slice A0 l0.length c0] rfl (by (try simp only [Xm, Xn, Xo]); first | done | rfl | (simp only [Xp, Xq]; rfl)) ?_; (with_reducible refine (diaphoneref07_Needless.calls k _ _ l0 t101 t102 _ ?side1 ?side2 A2.out).mono ?_); (case side1 => repeat (first | exact HR0.out | (with_reducible refine Xr ?_ _) | (with_reducible refine Xs ?_ _) | (with_reducible refine Xt ?_))); (case side2 => exact HC0.out); rintro e w13 ⟨v103, rfl, ho0, hb⟩; refine ⟨_, rfl, ?_⟩; have n0_ := XB (Kd.R_lower ho0 (XC (by repeat (first | (with_reducible first | exact HB.out | apply Xc | apply Xa | apply Xb) | exact HB.out)))); have n1_ := XB (Xz (by repeat (first | (with_reducible first | exact HB.out | apply Xc | apply Xa | apply Xb) | exact HB.out)) hb); clear HB; have HO104 := n0_; have HB := n1_; clear n0_ n1_; (try clear hb); (try clear hb2); (try clear hk); (try clear hi); (try clear ho0)))
  go_ret2
  exact ⟨_, by first | rfl | (simp [errW_none, errW_some] <;> rfl) | (simp [*, errW_none, errW_some] <;> rfl), by first | exact Kd.R_nil _ _ _ _ _ | exact Kd.N_nil _ _ _ _ _ | exact Kd.V_nil _ _ _ _ _ | exact Kd.Q_nil _ _ _ _ _ | exact Kd.S_nil _ _ _ _ _, by repeat (first | (with_reducible first | exact HB.out | apply Xc | apply Xa | apply Xb) | exact HB.out)⟩

end Go.Proofs.Ytgndhijhcliegaa.P
