-- laid by a program of this session (wip/tools): plain functions of the Go code and their contracts
-- thinned
import Derived.Test.YtgndhijhcliegaaPx0
import Derived.Test.YtgndhijhcliegaaPx27
namespace Go.Proofs.Ytgndhijhcliegaa.P
open Go.RowKit Go.Proofs.YtgndhijhcliegaaW.PrintWords Go.Proofs.YtgndhijhcliegaaW.PrintLast Go.Proofs.YtgndhijhcliegaaW.PrintMore
attribute [local go_sem] max2_int min2_int max_two min_two max_three min_three max_four min_four   -- for this text's walks alone
set_option linter.unusedVariables false
set_option linter.unusedSimpArgs false

/-! ### charge_Ways: function 38 -/
mutual
def charge_Ways.l0 : Nat → Int → List Int → List Int → Int → Int → Option (Int × Int)
 | 0, _, _, _, _, _ => none
 | k + 1, x1, x7, x24, x25, x26 => if x26 < x25 then (if 0 ≤ x26 then (if x26 < (x24.length : Int) then (charge_Ways.l1 k x1 x7 (rd x24 x26) (rd x24 x26) x24 x25 x26) else (none)) else (none)) else (if 0 ≤ x1 then (if x1 < (x7.length : Int) then (some (rd x7 x1, 0)) else (none)) else (none))
def charge_Ways.l1 : Nat → Int → List Int → Int → Int → List Int → Int → Int → Option (Int × Int)
 | 0, _, _, _, _, _, _, _ => none
 | k + 1, x1, x7, x9, x10, x24, x25, x26 => if x10 ≤ x1 then (if 0 ≤ x10 then (if x10 < (x7.length : Int) then (if 0 ≤ (wrap64 (x10 - x9)) then (if (wrap64 (x10 - x9)) < (x7.length : Int) then (charge_Ways.l1 k x1 (x7.set (x10 : Int).toNat (wrap64 ((rd x7 x10) + (rd x7 (wrap64 (x10 - x9)))))) x9 (wrap64 (x10 + 1)) x24 x25 x26) else (none)) else (none)) else (none)) else (none)) else (charge_Ways.l0 k x1 x7 x24 x25 (wrap64 (x26 + 1)))
end
def charge_Ways.f (k : Nat) (l0 : List Int) (a1 : Int) : Option (Int × Int) := (charge_amounted.f k l0 a1).bind fun t101 => (if t101 = 0 then (if a1 > 200 then (some (0, 3)) else (if 0 ≤ (wrap64 (a1 + 1)) then (if (wrap64 (a1 + 1) : Int).toNat ≤ 35184372088832 then ((some (List.replicate (wrap64 (a1 + 1) : Int).toNat 0 : List Int)).bind fun y102 => (if 0 < (y102.length : Int) then (charge_Ways.l0 k a1 (y102.set (0 : Int).toNat 1) l0 (l0.length : Int) 0) else (none))) else (none)) else (none))) else (some (0, t101)))
theorem charge_Ways.mono_l : ∀ k, (∀ y0 y1 y2 y3 y4, LeO (charge_Ways.l0 k y0 y1 y2 y3 y4) (charge_Ways.l0 (k + 1) y0 y1 y2 y3 y4)) ∧ (∀ y0 y1 y2 y3 y4 y5 y6, LeO (charge_Ways.l1 k y0 y1 y2 y3 y4 y5 y6) (charge_Ways.l1 (k + 1) y0 y1 y2 y3 y4 y5 y6))
 | 0 => ⟨fun _ _ _ _ _ r h => by simp [charge_Ways.l0] at h, fun _ _ _ _ _ _ _ r h => by simp [charge_Ways.l1] at h⟩
 | k + 1 => by
  obtain ⟨ih0, ih1⟩ := charge_Ways.mono_l k; refine ⟨?_, ?_⟩
  ·intro y0 y1 y2 y3 y4; unfold charge_Ways.l0; repeat' first
   | (with_reducible exact ih0 _ _ _ _ _)
   | (with_reducible exact ih1 _ _ _ _ _ _ _)
   | (with_reducible exact charge_amounted.mono _ _ _)
   | (with_reducible exact LeO.refl _)
   | (with_reducible exact LeO.none _)
   | (with_reducible refine LeO.ite ?_ ?_)
   | (with_reducible refine LeO.bind ?_ (fun _ => ?_))
   | exact ih0 _ _ _ _ _
   | exact ih1 _ _ _ _ _ _ _
   | exact charge_amounted.mono _ _ _
   | exact LeO.none _
   | refine LeO.ite ?_ ?_
   | refine LeO.bind ?_ (fun _ => ?_)
  ·intro y0 y1 y2 y3 y4 y5 y6; unfold charge_Ways.l1; repeat' first
   | (with_reducible exact ih0 _ _ _ _ _)
   | (with_reducible exact ih1 _ _ _ _ _ _ _)
   | (with_reducible exact charge_amounted.mono _ _ _)
   | (with_reducible exact LeO.refl _)
   | (with_reducible exact LeO.none _)
   | (with_reducible refine LeO.ite ?_ ?_)
   | (with_reducible refine LeO.bind ?_ (fun _ => ?_))
   | exact ih0 _ _ _ _ _
   | exact ih1 _ _ _ _ _ _ _
   | exact charge_amounted.mono _ _ _
   | exact LeO.none _
   | refine LeO.ite ?_ ?_
   | refine LeO.bind ?_ (fun _ => ?_)
theorem charge_Ways.mono : ∀ a0 a1 k, LeO (charge_Ways.f k a0 a1) (charge_Ways.f (k + 1) a0 a1) := by
 intro a0 a1 k; obtain ⟨ih0, ih1⟩ := charge_Ways.mono_l k; unfold charge_Ways.f; repeat' first
   | (with_reducible exact ih0 _ _ _ _ _)
   | (with_reducible exact ih1 _ _ _ _ _ _ _)
   | (with_reducible exact charge_amounted.mono _ _ _)
   | (with_reducible exact LeO.refl _)
   | (with_reducible exact LeO.none _)
   | (with_reducible refine LeO.ite ?_ ?_)
   | (with_reducible refine LeO.bind ?_ (fun _ => ?_))
   | exact ih0 _ _ _ _ _
   | exact ih1 _ _ _ _ _ _ _
   | exact charge_amounted.mono _ _ _
   | exact LeO.none _
   | refine LeO.ite ?_ ?_
   | refine LeO.bind ?_ (fun _ => ?_)
def charge_Ways.T14 : Bool × List (List Nat × List Nat) := (true, [([], []), ([], []), ([0, 1], [0, 1]), ([2], [2]), ([], []), ([], []), ([], []), ([5, 6], [5, 6]), ([4, 7], [4, 7]), ([8], [8]), ([3, 9], [3, 9]), ([0, 1, 0, 1, 2, 3, 4, 5, 6, 7, 8, 9, 10], [0, 1]), ([11, 10, 0, 1, 2, 3, 4, 5, 6, 7, 8, 9, 10], [10, 11])])
def charge_Ways.B14 : List Nat := [0, 0, 3, 7, 0, 0, 0, 96, 240, 496, 1023, 2047, 4095]
theorem charge_Ways.tab14 : rtab .any (opsOf Try.f38 14) = charge_Ways.T14 := by kernel_rfl
theorem charge_Ways.bits14 : waitsOk charge_Ways.T14.2 charge_Ways.B14 = true := by kernel_rfl
set_option maxHeartbeats 8000000 in
set_option maxRecDepth 100000 in
theorem charge_Ways.calls (k : Nat) (A0 : Option Addr) (c0 : Nat) (l0 : List Int) (a1 : Int) (r1 : Int) (r2 : Int) (w : World) (hr0 : Kd.C (Kd.int .i64) w A0 l0.length l0) (hc0 : l0.length ≤ c0) (h : charge_Ways.f k l0 a1 = some (r1, r2)) :
  Calls Try.prog 38 #[.slice A0 l0.length c0, .int .i64 a1] w fun e w' => e = .returned (.tuple #[.int .i64 r1, .int .i64 r2]) ∧ Below w.heap.size w w' := by
 have HR0 := XB hr0; have HC0 := XB hc0; clear hr0 hc0; have HB := XB (Below.refl w.heap.size w); have H : ((charge_amounted.f k l0 a1).bind fun t101 => (if t101 = 0 then (if a1 > 200 then (some (0, 3)) else (if 0 ≤ (wrap64 (a1 + 1)) then (if (wrap64 (a1 + 1) : Int).toNat ≤ 35184372088832 then ((some (List.replicate (wrap64 (a1 + 1) : Int).toNat 0 : List Int)).bind fun y102 => (if 0 < (y102.length : Int) then (charge_Ways.l0 k a1 (y102.set (0 : Int).toNat 1) l0 (l0.length : Int) 0) else (none))) else (none)) else (none))) else (some (0, t101)))) = some (r1, r2) := h; clear h; replace H := Option.bind_eq_some_iff.mp H; obtain ⟨t101, A30, H⟩ := H; replace H : (if t101 = 0 then (if a1 > 200 then (some (0, 3)) else (if 0 ≤ (wrap64 (a1 + 1)) then (if (wrap64 (a1 + 1) : Int).toNat ≤ 35184372088832 then ((some (List.replicate (wrap64 (a1 + 1) : Int).toNat 0 : List Int)).bind fun y102 => (if 0 < (y102.length : Int) then (charge_Ways.l0 k a1 (y102.set (0 : Int).toNat 1) l0 (l0.length : Int) 0) else (none))) else (none)) else (none))) else (some (0, t101))) = some (r1, r2) := H; have A3 := XB A30; clear A30; by_cases c4 : t101 = 0
 ·rw [if_pos c4] at H; have c4b0 : (t101 == 0) = true := beq_iff_eq.mpr c4; have c4b1 : (t101 != 0) = false := bne_eq_false_iff_eq.mpr c4; clear c4; by_cases c5 : a1 > 200
  ·rw [if_pos c5] at H; have c5b0 : decide (200 < a1) = true := decide_eq_true c5; clear c5; simp only [Option.some.injEq, Prod.mk.injEq] at H; obtain ⟨rfl, rfl⟩ := H; go_enter Try.func38, Try.ntmps38
   go_wp2_with (first | ((with_reducible refine gate_callee (f := 56) rfl ?_); refine goesL_ (some 13) rfl rfl Try.func56 (by kernel_rfl) rfl #[.slice A0 l0.length c0, .int .i64 a1] rfl (by (try simp only [Xm, Xn, Xo]); first | done | rfl | (simp only [Xp, Xq]; rfl)) ?_; (with_reducible refine (charge_amounted.calls k _ _ l0 a1 t101 _ ?side1 ?side2 A3.out).mono ?_); (case side1 => repeat (first | exact HR0.out | (with_reducible refine Xr ?_ _) | (with_reducible refine Xs ?_ _) | (with_reducible refine Xt ?_))); (case side2 => exact HC0.out); rintro e w' ⟨rfl, ⟨nd, rfl⟩⟩; refine ⟨_, rfl, ?_⟩))
   go_ret2
   exact ⟨by first | rfl | (simp [errW_none, errW_some] <;> rfl) | (simp [*, errW_none, errW_some] <;> rfl), by repeat (first | (with_reducible first | exact HB.out | apply Xc | apply Xa | apply Xb) | exact HB.out)⟩
  ·rw [if_neg c5] at H; have c5b0 : decide (200 < a1) = false := decide_eq_false c5; clear c5; obtain ⟨ji6, hji6⟩ : ∃ j_ : Int, (wrap64 (a1 + 1)) = j_ := ⟨_, rfl⟩
   replace H : (if 0 ≤ (ji6) then (if (ji6 : Int).toNat ≤ 35184372088832 then ((some (List.replicate (ji6 : Int).toNat 0 : List Int)).bind fun y102 => (if 0 < (y102.length : Int) then (charge_Ways.l0 k a1 (y102.set (0 : Int).toNat 1) l0 (l0.length : Int) 0) else (none))) else (none)) else (none)) = some (r1, r2) := by first | (rw [hji6] at H; exact H) | (simp only [hji6] at H ⊢; exact H)
   (try rw [hji6] at A3)
   have hji6w : (IntKind.i64.wrap (a1 + 1)) = ji6 := (i64_w _).trans hji6; by_cases c7 : 0 ≤ (ji6)
   ·rw [if_pos c7] at H; have c7b0 := eq_true c7; have c7b1 : decide (0 ≤ (ji6)) = true := decide_eq_true c7; clear c7; by_cases c8 : (ji6 : Int).toNat ≤ 35184372088832
    ·rw [if_pos c8] at H; have c8b0 := eq_true c8; have c8b1 : decide ((ji6 : Int).toNat ≤ 35184372088832) = true := decide_eq_true c8; clear c8; obtain ⟨y102, hy102⟩ : ∃ y_ : List Int, y_ = (List.replicate (ji6 : Int).toNat 0) := ⟨_, rfl⟩
     replace H : (if 0 < (y102.length : Int) then (charge_Ways.l0 k a1 (y102.set (0 : Int).toNat 1) l0 (l0.length : Int) 0) else (none)) = some (r1, r2) := by first | (rw [hy102]; with_reducible exact H) | (have H2_ := (Option.bind_some _ _).symm.trans H; rw [hy102]; with_reducible exact H2_) | (have H2_ := (Option.bind_some _ _).symm.trans H; with_reducible exact H2_) | with_reducible exact H | (rw [hy102]; exact H) | exact H
     have Ny102 := XB hy102; clear hy102; by_cases c9 : 0 < (y102.length : Int)
     ·rw [if_pos c9] at H; have c9b0 : decide (0 < (y102.length : Int)) = true := decide_eq_true c9; have c9b1 : decide (0 < y102.length) = true := decide_eq_true (by omega); clear c9; obtain ⟨y105, hy105⟩ : ∃ y_ : List Int, y_ = (y102.set (0 : Int).toNat 1) := ⟨_, rfl⟩
      replace H : (charge_Ways.l0 k a1 y105 l0 (l0.length : Int) 0) = some (r1, r2) := by first | (rw [hy105]; with_reducible exact H) | (have H2_ := (Option.bind_some _ _).symm.trans H; rw [hy105]; with_reducible exact H2_) | (have H2_ := (Option.bind_some _ _).symm.trans H; with_reducible exact H2_) | with_reducible exact H | (rw [hy105]; exact H) | exact H
      have Ny105 := XB hy105; clear hy105; have H' := XB H; clear H; go_enter Try.func38, Try.ntmps38
      go_wp2_with (first | ((with_reducible refine gate_callee (f := 56) rfl ?_); refine goesL_ (some 13) rfl rfl Try.func56 (by kernel_rfl) rfl #[.slice A0 l0.length c0, .int .i64 a1] rfl (by (try simp only [Xm, Xn, Xo]); first | done | rfl | (simp only [Xp, Xq]; rfl)) ?_; (with_reducible refine (charge_amounted.calls k _ _ l0 a1 t101 _ ?side1 ?side2 A3.out).mono ?_); (case side1 => repeat (first | exact HR0.out | (with_reducible refine Xr ?_ _) | (with_reducible refine Xs ?_ _) | (with_reducible refine Xt ?_))); (case side2 => exact HC0.out); rintro e w' ⟨rfl, ⟨nd, rfl⟩⟩; refine ⟨_, rfl, ?_⟩) | ((with_reducible refine gate_dst (N := 21) rfl ?_); refine Kd.R_make (Kd.int .i64) _ 3 rfl (N := 21) rfl 22 _ _ rfl ji6 rfl rfl Try.underlying22 (.int .i64 0) 8 info3 rfl (by decide) (by omega) 0 (ok := fun _ => True) (okp := fun _ => True) rfl (fun _ hk => hk) trivial (of_decide_eq_true (by first | (with_reducible assumption) | assumption)) (Nat.le_trans (Nat.mul_le_mul_right _ (of_decide_eq_true (by first | (with_reducible assumption) | assumption) : ji6.toNat ≤ 35184372088832)) (by omega)) (Below.refl _ _) (Nat.le_refl _) ?_; intro v103 w11 ho12 hb hg_ hnew_; clear hg_ hnew_; (first | rw [← Ny102.out] at ho12 | (simp only [Int.reduceToNat] at ho12; rw [← Ny102.out] at ho12)); have n0_ := XB (Kd.R_lower ho12 (XC (by repeat (first | (with_reducible first | exact HB.out | apply Xc | apply Xa | apply Xb) | exact HB.out)))); have n1_ := XB (Xz (by repeat (first | (with_reducible first | exact HB.out | apply Xc | apply Xa | apply Xb) | exact HB.out)) hb); clear HB; have HO104 := n0_; have HB := n1_; clear n0_ n1_; clear hb ho12; have p10 : 0 ≤ (0 : Int) := (by omega); have q10 : (0 : Int) < ((y102.length : Int) : Int) := of_decide_eq_true (by first | (with_reducible assumption) | assumption); have qi10 : (0 < y102.length) = True := eq_true (by omega); obtain ⟨go10, co10, eo10, gb10, gl10, cl10, HG10⟩ := Kd.R_form HO104.out (by omega); (first | cases eo10 | (injection eo10 with ea_ en_ ec_; (first | subst ea_ | (injection ea_ with ea_; subst ea_)); subst ec_; clear en_)); have GB10 := XB gb10; have GG10 := XB HG10; clear gb10 gl10 HG10; obtain ⟨hx10_0, hf10_0⟩ := Kd.R_celln 0 HO104.out (0 : Int) p10 q10; (try rw [show ((0 : Int)).toNat = 0 from rfl] at hx10_0); (try simp only [Nat.reduceMul, Nat.zero_mul, Nat.zero_add, Nat.reduceAdd] at hx10_0); (try rw [show ((0 : Int)).toNat = 0 from rfl] at hf10_0); (try simp only [Nat.reduceMul, Nat.zero_mul, Nat.zero_add, Nat.reduceAdd] at hf10_0); replace p10 := eq_true p10; replace q10 := eq_true q10; obtain ⟨hy13_, hz13_⟩ := Kd.R_celln 0 HO104.out (0 : Int) (by omega) (of_decide_eq_true (by first | (with_reducible assumption) | assumption)); (try simp only [Int.reduceToNat, Int.toNat_zero, Int.toNat_ofNat, Nat.reduceMul, Nat.zero_mul, Nat.zero_add] at hy13_ hz13_); (try rw [show ((0 : Int)).toNat = 0 from rfl] at hy13_); (try rw [show ((0 : Int)).toNat = 0 from rfl] at hz13_); have HP13 := Kd.R_putg HO104.out (0 : Int) 1) | ((with_reducible refine gate_store (t := 3) (p := 23) rfl ?_); refine store_event (t := 3) (p := 23) (v := ?vo_w14) (w1 := (w11.setCell ⟨go10, (0 : Int).toNat, none⟩ (.int .i64 1))) ?hg ?ho ?hn ?hr ?_; (case ho => rfl); (case hg => rfl); (case hn => rfl); (case hr => first | (go_simp; done) | (go_simp; rfl)); intro w14 hw; have hg : w11.grownBy w14 (some go10) := (by rw [hw]; exact HP13.2); have hp_ : Kd.R (Kd.int .i64) 3 w14 w.heap.size (fun _ => True) (.slice (some ⟨go10, 0, none⟩) y102.length co10) y105 := (by rw [hw, Ny105.out]; exact HP13.1); clear HP13; have n0_ := XB (hp_); have n1_ := XB ((by rw [hw]; exact Xd (HB.out) GB10.out : Below w.heap.size w w14)); clear HO104; clear HB; have HO104 := n0_; have HB := n1_; clear n0_ n1_; clear hg hw hp_))
      go_loopg [26] k (fun kq v26 w' => ∃ (x7_1 : List Int) (x26_1 : Int), v26 = .int .i64 x26_1 ∧ Aside0 (charge_Ways.l0 kq a1 x7_1 l0 (l0.length : Int) x26_1 = some (r1, r2)) ∧ Aside0 (kq ≤ k) ∧ Aside0 (Kd.R (Kd.int .i64) 3 w' w.heap.size (fun _ => True) (.slice (some ⟨go10, 0, none⟩) y102.length co10) x7_1) ∧ Aside0 (Below w.heap.size w w'))
      case atStart => exact ⟨(y105), (0), (by first | rfl | (simp; done) | (simp [*]; done)), H', ⟨Nat.le_refl _⟩, ⟨by (with_reducible repeat (first | apply Xv | apply Xw | apply Xx)); exact HO104.out⟩, ⟨by repeat (first | (with_reducible first | exact HB.out | apply Xc | apply Xa | apply Xb) | exact HB.out)⟩⟩
      case round =>
       clear H'; try clear p1
       try clear q1
       try clear hx1
       try clear qi1
       try clear p2
       try clear c3
       try clear c4
       try clear c4b0
       try clear c4b1
       try clear c5
       try clear c5b0
       try clear p6
       try clear c7
       try clear c7b0
       try clear c7b1
       try clear c8
       try clear c8b0
       try clear c8b1
       try clear c9
       try clear c9b0
       try clear c9b1
       try clear p10
       try clear q10
       try clear hx10
       try clear qi10
       try clear hf10
       try clear hx10_0
       try clear p10
       try clear q10
       obtain ⟨x7_1, x26_1, rfl, HA, HK1, HO_7, HB⟩ := hrel; have hl7_1 := (XD HO_7.out).1; rw [hl7_1] at HO_7; (try simp only [hl7_1])
       cases gk with
       | zero => exact absurd HA.out (by simp [charge_Ways.l0])
       | succ k1 =>
        have H := HA.out; clear HA; simp only [charge_Ways.l0] at H; by_cases c15 : x26_1 < (l0.length : Int)
        ·rw [if_pos c15] at H; have c15b0 : decide (x26_1 < (l0.length : Int)) = true := decide_eq_true c15; clear c15; by_cases c16 : 0 ≤ x26_1
         ·rw [if_pos c16] at H; have c16b0 : decide (0 ≤ x26_1) = true := decide_eq_true c16; clear c16; by_cases c17 : x26_1 < (l0.length : Int)
          ·rw [if_pos c17] at H; have c17b0 : decide (x26_1 < (l0.length : Int)) = true := decide_eq_true c17; clear c17; have H' := XB H; clear H; have p107 : 0 ≤ (x26_1 : Int) := of_decide_eq_true (by first | (with_reducible assumption) | assumption); have q107 : x26_1 < (l0.length : Int) := of_decide_eq_true (by first | (with_reducible assumption) | assumption); obtain ⟨ad107, e107, hx107_0⟩ := Kd.at_int HR0.out x26_1 p107 q107
           cases e107
           replace hx107_0 := (HB.out.cell (World.block_lt_of_cell? w _ hx107_0)).trans hx107_0; replace p107 := eq_true p107; replace q107 := eq_true q107; go_wp2
           go_loopg [10] k1 (fun kq v10 w' => ∃ (x7_2 : List Int) (x10_2 : Int), v10 = .int .i64 x10_2 ∧ Aside0 (charge_Ways.l1 kq a1 x7_2 (rd l0 x26_1) x10_2 l0 (l0.length : Int) x26_1 = some (r1, r2)) ∧ Aside0 (kq ≤ k1) ∧ Aside0 (Kd.R (Kd.int .i64) 3 w' w.heap.size (fun _ => True) (.slice (some ⟨go10, 0, none⟩) x7_1.length co10) x7_2) ∧ Aside0 (Below w.heap.size w w'))
           case atStart => exact ⟨(x7_1), (rd l0 x26_1), (by first | rfl | (simp; done) | (simp [*]; done)), H', ⟨Nat.le_refl _⟩, ⟨by (try simp only [hl7_1]); (with_reducible repeat (first | apply Xv | apply Xw | apply Xx)); exact HO_7.out⟩, ⟨by repeat (first | (with_reducible first | exact HB.out | apply Xc | apply Xa | apply Xb) | exact HB.out)⟩⟩
           case round =>
            clear H'; try clear c1
            try clear p1
            try clear q1
            try clear hx1
            try clear qi1
            try clear p2
            try clear c3
            try clear c4
            try clear c4b0
            try clear c4b1
            try clear c5
            try clear c5b0
            try clear p6
            try clear c7
            try clear c7b0
            try clear c7b1
            try clear c8
            try clear c8b0
            try clear c8b1
            try clear c9
            try clear c9b0
            try clear c9b1
            try clear p10
            try clear q10
            try clear hx10
            try clear qi10
            try clear hf10
            try clear c15
            try clear c15b0
            try clear c16
            try clear c16b0
            try clear c17
            try clear c17b0
            try clear hx107_0
            try clear hx10_0
            try clear p1
            try clear p10
            try clear p107
            try clear p2
            try clear p6
            try clear q1
            try clear q10
            try clear q107
            obtain ⟨x7_2, x10_2, rfl, HA, HK2, HO_7, HB⟩ := hrel; have hl7_2 := (XD HO_7.out).1; rw [hl7_2] at HO_7; (try simp only [hl7_2])
            cases gk with
            | zero => exact absurd HA.out (by simp [charge_Ways.l1])
            | succ k2 =>
             have H := HA.out; clear HA; simp only [charge_Ways.l1] at H; by_cases c18 : x10_2 ≤ a1
             ·rw [if_pos c18] at H; have c18b0 : decide (x10_2 ≤ a1) = true := decide_eq_true c18; clear c18; by_cases c19 : 0 ≤ x10_2
              ·rw [if_pos c19] at H; have c19b0 : decide (0 ≤ x10_2) = true := decide_eq_true c19; clear c19; by_cases c20 : x10_2 < (x7_2.length : Int)
               ·rw [if_pos c20] at H; have c20b0 : decide (x10_2 < (x7_2.length : Int)) = true := decide_eq_true c20; clear c20; obtain ⟨ji21, hji21⟩ : ∃ j_ : Int, (wrap64 (x10_2 - (rd l0 x26_1))) = j_ := ⟨_, rfl⟩
                replace H : (if 0 ≤ (ji21) then (if (ji21) < (x7_2.length : Int) then (charge_Ways.l1 k2 a1 (x7_2.set (x10_2 : Int).toNat (wrap64 ((rd x7_2 x10_2) + (rd x7_2 (ji21))))) (rd l0 x26_1) (wrap64 (x10_2 + 1)) l0 (l0.length : Int) x26_1) else (none)) else (none)) = some (r1, r2) := by first | (rw [hji21] at H; exact H) | (simp only [hji21] at H ⊢; exact H)
                have hji21w : (IntKind.i64.wrap (x10_2 - (rd l0 x26_1))) = ji21 := (i64_w _).trans hji21; by_cases c22 : 0 ≤ (ji21)
                ·rw [if_pos c22] at H; have c22b0 : decide (0 ≤ (ji21)) = true := decide_eq_true c22; clear c22; by_cases c23 : (ji21) < (x7_2.length : Int)
                 ·rw [if_pos c23] at H; have c23b0 : decide ((ji21) < (x7_2.length : Int)) = true := decide_eq_true c23; clear c23; obtain ⟨y110, hy110⟩ : ∃ y_ : List Int, y_ = (x7_2.set (x10_2 : Int).toNat (wrap64 ((rd x7_2 x10_2) + (rd x7_2 (ji21))))) := ⟨_, rfl⟩
                  replace H : (charge_Ways.l1 k2 a1 y110 (rd l0 x26_1) (wrap64 (x10_2 + 1)) l0 (l0.length : Int) x26_1) = some (r1, r2) := by first | (rw [hy110]; with_reducible exact H) | (have H2_ := (Option.bind_some _ _).symm.trans H; rw [hy110]; with_reducible exact H2_) | (have H2_ := (Option.bind_some _ _).symm.trans H; with_reducible exact H2_) | with_reducible exact H | (rw [hy110]; exact H) | exact H
                  have Ny110 := XB hy110; clear hy110; have H' := XB H; clear H; try go_wp2
                  have n0_ := XB (Xx HO_7.out); have n1_ := XB (Xb HB.out); clear HO_7; clear HB; have HO_7 := n0_; have HB := n1_; clear n0_ n1_; have p108 : 0 ≤ (x10_2 : Int) := of_decide_eq_true (by first | (with_reducible assumption) | assumption); have q108 : x10_2 < (x7_2.length : Int) := of_decide_eq_true (by first | (with_reducible assumption) | assumption); obtain ⟨ad108, e108, hx108_0⟩ := Kd.at_int (XD HO_7.out).2.2 x10_2 p108 q108; obtain rfl : (⟨go10, 0, none⟩ : Addr) = ad108 := (by injection e108); (first | simp only [add_plain] at hx108_0 | simp only [add_at] at hx108_0 | simp only [Addr.add, Nat.zero_add] at hx108_0 | skip)
                  replace p108 := eq_true p108; replace q108 := eq_true q108; have p109 : 0 ≤ ((ji21) : Int) := of_decide_eq_true (by first | (with_reducible assumption) | assumption); have q109 : (ji21) < (x7_2.length : Int) := of_decide_eq_true (by first | (with_reducible assumption) | assumption); obtain ⟨ad109, e109, hx109_0⟩ := Kd.at_int (XD HO_7.out).2.2 (ji21) p109 q109; obtain rfl : (⟨go10, 0, none⟩ : Addr) = ad109 := (by injection e109); (first | simp only [add_plain] at hx109_0 | simp only [add_at] at hx109_0 | simp only [Addr.add, Nat.zero_add] at hx109_0 | skip)
                  replace p109 := eq_true p109; replace q109 := eq_true q109; have p24 : 0 ≤ (x10_2 : Int) := of_decide_eq_true (by first | (with_reducible assumption) | assumption); have q24 : (x10_2 : Int) < ((x7_2.length : Int) : Int) := of_decide_eq_true (by first | (with_reducible assumption) | assumption); obtain ⟨hx24_0, hf24_0⟩ := Kd.R_celln 0 HO_7.out (x10_2 : Int) p24 q24; replace p24 := eq_true p24; replace q24 := eq_true q24; have HP26 := Kd.R_putn HO_7.out (x10_2 : Int) (wrap64 ((rd x7_2 x10_2) + (rd x7_2 (ji21)))); rw [← Ny110.out] at HP26; have HQ26 := XB HP26; clear HP26; refine start_ (n := 13) (S := fun w' => w'.cell? ⟨go10, (x10_2).toNat, none⟩ = some (.int .i64 (rd x7_2 x10_2)) ∧ w'.cell? ⟨go10, ((ji21)).toNat, none⟩ = some (.int .i64 (rd x7_2 (ji21)))) (ds := [12]) #[false, false, false, false, false, false, false, false, false, false, false, false, false] (by kernel_rfl) rfl rfl ⟨hx108_0, hx109_0⟩ (fun hHeld => ?_); refine with_tabW charge_Ways.tab14 charge_Ways.bits14 (fun HT_ HW_ => ?_); generalize wr.drew = w25 at HO_7 HB HQ26 hf24_0 hx108_0 hx109_0 hx24_0 hHeld ⊢
                  refine pure_ (i := 0) (N := some 36) (v := ?_) (a' := ?_) (Bq 13 1) rfl rfl (any_of HT_.out (by kernel_rfl)) (fun _ _ _ h => h) (Or.inl ⟨by rfl, ?_⟩) ?_ ?_; rotate_left
                  ·intro w'; go_simp; with_reducible rfl
                  rotate_left
                  ·simp only [Act.put, Xj, Xk, Xl, i64_w, i32_w]; rfl
                  refine pure_ (i := 1) (N := some 37) (v := ?_) (a' := ?_) (Bq 13 3) rfl rfl (any_of HT_.out (by kernel_rfl)) (fun _ _ _ h => h) (Or.inl ⟨by rfl, ?_⟩) ?_ ?_; rotate_left
                  ·intro w'; go_simp; with_reducible rfl
                  rotate_left
                  ·simp only [Act.put, Xj, Xk, Xl, i64_w, i32_w]; rfl
                  refine pure_ (i := 2) (N := some 38) (v := ?_) (a' := ?_) (Bq 13 7) rfl rfl (any_of HT_.out (by kernel_rfl)) (fun _ _ _ h => h) (Or.inl ⟨by rfl, ?_⟩) ?_ ?_; rotate_left
                  ·intro w'; go_simp; with_reducible rfl
                  rotate_left
                  ·simp only [Act.put, Xj, Xk, Xl, i64_w, i32_w]; rfl
                  refine pure_ (i := 4) (N := some 40) (v := ?_) (a' := ?_) (Bq 13 23) rfl rfl (any_of HT_.out (by kernel_rfl)) (fun _ _ _ h => h) (Or.inl ⟨by rfl, ?_⟩) ?_ ?_; rotate_left
                  ·intro w'; go_simp; with_reducible rfl
                  rotate_left
                  ·simp only [Act.put, Xj, Xk, Xl, i64_w, i32_w]; rfl
                  refine pure_ (i := 5) (N := some 41) (v := ?_) (a' := ?_) (Bq 13 55) rfl rfl (any_of HT_.out (by kernel_rfl)) (fun _ _ _ h => h) (Or.inl ⟨by rfl, ?_⟩) ?_ ?_; rotate_left
                  ·intro w'; go_simp; with_reducible rfl
                  rotate_left
                  ·simp only [Act.put, Xj, Xk, Xl, i64_w, i32_w]; rfl
                  refine pure_ (i := 6) (N := some 42) (v := ?_) (a' := ?_) (Bq 13 119) rfl rfl (any_of HT_.out (by kernel_rfl)) (fun _ _ _ h => h) (Or.inl ⟨by rfl, ?_⟩) ?_ ?_; rotate_left
                  ·intro w'; go_simp; with_reducible rfl
                  rotate_left
                  ·simp only [Act.put, Xj, Xk, Xl, i64_w, i32_w]; rfl
                  refine pure_ (i := 7) (N := some 43) (v := ?_) (a' := ?_) (Bq 13 247) rfl rfl (any_of HT_.out (by kernel_rfl)) (fun _ _ _ h => h) (Or.inl ⟨by rfl, ?_⟩) ?_ ?_; rotate_left
                  ·intro w'; go_simp; with_reducible rfl
                  rotate_left
                  ·simp only [Act.put, Xj, Xk, Xl, i64_w, i32_w]; rfl
                  refine pure_ (i := 8) (N := some 44) (v := ?_) (a' := ?_) (Bq 13 503) rfl rfl (any_of HT_.out (by kernel_rfl)) (fun _ _ _ h => h) (Or.inl ⟨by rfl, ?_⟩) ?_ ?_; rotate_left
                  ·intro w'; go_simp; with_reducible rfl
                  rotate_left
                  ·simp only [Act.put, Xj, Xk, Xl, i64_w, i32_w]; rfl
                  refine take_ (i := 3) (N := some 39) (v := ?_) (a' := ?_) (Bq 13 511) rfl rfl (take_ofW HT_.out HW_.out (by kernel_rfl)) (fun _ _ _ h => h) (Or.inl ⟨by rfl, ?_⟩) hHeld ?_ ?_; rotate_left
                  ·rintro w' ⟨s0, s1⟩; go_simp; with_reducible rfl
                  rotate_left
                  ·simp only [Act.put, Xj, Xk, Xl, i64_w, i32_w]; rfl
                  refine take_ (i := 9) (N := some 45) (v := ?_) (a' := ?_) (Bq 13 1023) rfl rfl (take_ofW HT_.out HW_.out (by kernel_rfl)) (fun _ _ _ h => h) (Or.inl ⟨by rfl, ?_⟩) hHeld ?_ ?_; rotate_left
                  ·rintro w' ⟨s0, s1⟩; go_simp; with_reducible rfl
                  rotate_left
                  ·simp only [Act.put, Xj, Xk, Xl, i64_w, i32_w]; rfl
                  refine pure_ (i := 10) (N := some 46) (v := ?_) (a' := ?_) (Bq 13 2047) rfl rfl (any_of HT_.out (by kernel_rfl)) (fun _ _ _ h => h) (Or.inl ⟨by rfl, ?_⟩) ?_ ?_; rotate_left
                  ·intro w'; go_simp; with_reducible rfl
                  rotate_left
                  ·simp only [Act.put, Xj, Xk, Xl, i64_w, i32_w]; rfl
                  refine pure_ (i := 11) (N := some 47) (v := ?_) (a' := ?_) (Bq 13 4095) rfl rfl (any_of HT_.out (by kernel_rfl)) (fun _ _ _ h => h) (Or.inl ⟨by rfl, ?_⟩) ?_ ?_; rotate_left
                  ·intro w'; go_simp; with_reducible rfl
                  rotate_left
                  ·simp only [Act.put, Xj, Xk, Xl, i64_w, i32_w]; rfl
                  refine last_ (i := 12) (N := none) (Bq 13 8191) rfl rfl (one_of HT_.out (by kernel_rfl)) (by decide) (fun K hK => ?_); refine skip_ (w1 := ?_) (by rfl) rfl ?_ ?_; rotate_left
                  ·go_simp; rfl
                  refine hK.out _ _ ?_; clear hK K; refine done_ (done_of HT_.out (by kernel_rfl)) ?_; try go_wp2
                  (try simp only [← hl7_2])
                  go_roundg k2
                  case measure => have := HK1.out; have := HK2.out; omega
                  case rel => exact ⟨(y110), (wrap64 (x10_2 + 1)), (by first | rfl | (simp; done) | (simp [*]; done)), H', ⟨by have := HK1.out; have := HK2.out; omega⟩, ⟨by (try simp only [hl7_1]); (try simp only [hl7_2]); (with_reducible repeat (first | apply Xv | apply Xw | apply Xx)); exact HQ26.out⟩, ⟨by repeat (first | (with_reducible first | exact HB.out | apply Xc | apply Xa | apply Xb | refine Xd ?_ GB10.out) | exact HB.out)⟩⟩
                 ·rw [if_neg c23] at H; exact absurd H (by simp)
                ·rw [if_neg c22] at H; exact absurd H (by simp)
               ·rw [if_neg c20] at H; exact absurd H (by simp)
              ·rw [if_neg c19] at H; exact absurd H (by simp)
             ·rw [if_neg c18] at H; have c18b0 : decide (x10_2 ≤ a1) = false := decide_eq_false c18; clear c18; have H' := XB H; clear H; go_wp2
              (try simp only [← hl7_1, ← hl7_2])
              go_roundg k2
              case measure => have := HK1.out; have := HK2.out; omega
              case rel => exact ⟨(x7_2), (wrap64 (x26_1 + 1)), (by first | rfl | (simp; done) | (simp [*]; done)), H', ⟨by have := HK1.out; have := HK2.out; omega⟩, ⟨by (try simp only [hl7_1]); (try simp only [hl7_2]); (with_reducible repeat (first | apply Xv | apply Xw | apply Xx)); exact HO_7.out⟩, ⟨by repeat (first | (with_reducible first | exact HB.out | apply Xc | apply Xa | apply Xb) | exact HB.out)⟩⟩
          ·rw [if_neg c17] at H; exact absurd H (by simp)
         ·rw [if_neg c16] at H; exact absurd H (by simp)
        ·rw [if_neg c15] at H; have c15b0 : decide (x26_1 < (l0.length : Int)) = false := decide_eq_false c15; clear c15; by_cases c27 : 0 ≤ a1
         ·rw [if_pos c27] at H; have c27b0 : decide (0 ≤ a1) = true := decide_eq_true c27; clear c27; by_cases c28 : a1 < (x7_1.length : Int)
          ·rw [if_pos c28] at H; have c28b0 : decide (a1 < (x7_1.length : Int)) = true := decide_eq_true c28; clear c28; simp only [Option.some.injEq, Prod.mk.injEq] at H; obtain ⟨rfl, rfl⟩ := H; have p106 : 0 ≤ (a1 : Int) := of_decide_eq_true (by first | (with_reducible assumption) | assumption); have q106 : a1 < (x7_1.length : Int) := of_decide_eq_true (by first | (with_reducible assumption) | assumption); obtain ⟨ad106, e106, hx106_0⟩ := Kd.at_int (XD HO_7.out).2.2 a1 p106 q106; obtain rfl : (⟨go10, 0, none⟩ : Addr) = ad106 := (by injection e106); (first | simp only [add_plain] at hx106_0 | simp only [add_at] at hx106_0 | simp only [Addr.add, Nat.zero_add] at hx106_0 | skip)
           replace p106 := eq_true p106; replace q106 := eq_true q106; go_wp2
           go_ret2
           exact ⟨by first | rfl | (simp [errW_none, errW_some] <;> rfl) | (simp only [← hji6]; first | rfl | (simp [errW_none, errW_some] <;> rfl)) | (simp [*, errW_none, errW_some] <;> rfl), by repeat (first | (with_reducible first | exact HB.out | apply Xc | apply Xa | apply Xb) | exact HB.out)⟩
          ·rw [if_neg c28] at H; exact absurd H (by simp)
         ·rw [if_neg c27] at H; exact absurd H (by simp)
     ·rw [if_neg c9] at H; exact absurd H (by simp)
    ·rw [if_neg c8] at H; exact absurd H (by simp)
   ·rw [if_neg c7] at H; exact absurd H (by simp)
 ·rw [if_neg c4] at H; have c4b0 : (t101 == 0) = false := beq_eq_false_iff_ne.mpr c4; have c4b1 : (t101 != 0) = true := bne_iff_ne.mpr c4; simp only [Option.some.injEq, Prod.mk.injEq] at H; obtain ⟨rfl, rfl⟩ := H; go_enter Try.func38, Try.ntmps38
  go_wp2_with (first | ((with_reducible refine gate_callee (f := 56) rfl ?_); refine goesL_ (some 13) rfl rfl Try.func56 (by kernel_rfl) rfl #[.slice A0 l0.length c0, .int .i64 a1] rfl (by (try simp only [Xm, Xn, Xo]); first | done | rfl | (simp only [Xp, Xq]; rfl)) ?_; (with_reducible refine (charge_amounted.calls k _ _ l0 a1 t101 _ ?side1 ?side2 A3.out).mono ?_); (case side1 => repeat (first | exact HR0.out | (with_reducible refine Xr ?_ _) | (with_reducible refine Xs ?_ _) | (with_reducible refine Xt ?_))); (case side2 => exact HC0.out); rintro e w' ⟨rfl, ⟨nd, rfl⟩⟩; refine ⟨_, rfl, ?_⟩))
  go_ret2
  exact ⟨by first | rfl | (simp [errW_none, errW_some] <;> rfl) | (simp [*, errW_none, errW_some] <;> rfl), by repeat (first | (with_reducible first | exact HB.out | apply Xc | apply Xa | apply Xb) | exact HB.out)⟩

end Go.Proofs.Ytgndhijhcliegaa.P
