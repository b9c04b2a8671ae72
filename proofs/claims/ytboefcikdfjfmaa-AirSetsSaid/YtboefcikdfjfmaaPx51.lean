-- laid by a program of this session (wip/tools): plain functions of the Go code and their contracts
-- thinned
import Derived.Test.YtboefcikdfjfmaaPx0
import Derived.Test.YtboefcikdfjfmaaPx8
import Derived.Test.YtboefcikdfjfmaaPx12
namespace Go.Proofs.Ytboefcikdfjfmaa.P
open Go.RowKit Go.Proofs.YtboefcikdfjfmaaW.PrintWords Go.Proofs.YtboefcikdfjfmaaW.PrintLast Go.Proofs.YtboefcikdfjfmaaW.PrintMore
attribute [local go_sem] max2_int min2_int max_two min_two max_three min_three max_four min_four   -- for this text's walks alone
set_option linter.unusedVariables false
set_option linter.unusedSimpArgs false

/-! ### diaphoneref03_mask: function 84 -/
def diaphoneref03_mask.l0 : Nat → List Int → Int → Int → Int → Option (Int × Bool)
 | 0, _, _, _, _ => none
 | k + 1, x0, x1, x6, x7 => if x7 < (x0.length : Int) then (if 0 ≤ x7 then ((diaphoneref03_within.f (rd x0 x7) 0 (wrap64 (x1 - 1))).bind fun t102 => (if t102 = true then (if x7 > 0 then (if 0 ≤ (wrap64 (x7 - 1)) then (if (wrap64 (x7 - 1)) < (x0.length : Int) then (if (rd x0 x7) ≤ (rd x0 (wrap64 (x7 - 1))) then (some (0, false)) else (if 0 ≤ (IntKind.u64.wrap (rd x0 x7)) then (diaphoneref03_mask.l0 k x0 x1 (Go.bits .or .i64 x6 (shl .i64 1 (IntKind.u64.wrap (rd x0 x7)))) (wrap64 (x7 + 1))) else (none))) else (none)) else (none)) else (if 0 ≤ (IntKind.u64.wrap (rd x0 x7)) then (diaphoneref03_mask.l0 k x0 x1 (Go.bits .or .i64 x6 (shl .i64 1 (IntKind.u64.wrap (rd x0 x7)))) (wrap64 (x7 + 1))) else (none))) else (some (0, false)))) else (none)) else (some (x6, true))
def diaphoneref03_mask.f (k : Nat) (l0 : List Int) (a1 : Int) : Option (Int × Bool) := diaphoneref03_mask.l0 k l0 a1 0 0
theorem diaphoneref03_mask.mono_l : ∀ k, (∀ y0 y1 y2 y3, LeO (diaphoneref03_mask.l0 k y0 y1 y2 y3) (diaphoneref03_mask.l0 (k + 1) y0 y1 y2 y3))
 | 0 => fun _ _ _ _ r h => by simp [diaphoneref03_mask.l0] at h
 | k + 1 => by
  have ih0 := diaphoneref03_mask.mono_l k
  ·intro y0 y1 y2 y3; unfold diaphoneref03_mask.l0; repeat' first
   | (with_reducible exact ih0 _ _ _ _)
   | (with_reducible exact LeO.refl _)
   | (with_reducible exact LeO.none _)
   | (with_reducible refine LeO.ite ?_ ?_)
   | (with_reducible refine LeO.bind ?_ (fun _ => ?_))
   | exact ih0 _ _ _ _
   | exact LeO.none _
   | refine LeO.ite ?_ ?_
   | refine LeO.bind ?_ (fun _ => ?_)
theorem diaphoneref03_mask.mono : ∀ a0 a1 k, LeO (diaphoneref03_mask.f k a0 a1) (diaphoneref03_mask.f (k + 1) a0 a1) := by
 intro a0 a1 k; have ih0 := diaphoneref03_mask.mono_l k; unfold diaphoneref03_mask.f; repeat' first
   | (with_reducible exact ih0 _ _ _ _)
   | (with_reducible exact LeO.refl _)
   | (with_reducible exact LeO.none _)
   | (with_reducible refine LeO.ite ?_ ?_)
   | (with_reducible refine LeO.bind ?_ (fun _ => ?_))
   | exact ih0 _ _ _ _
   | exact LeO.none _
   | refine LeO.ite ?_ ?_
   | refine LeO.bind ?_ (fun _ => ?_)
def diaphoneref03_mask.T5 : Bool × List (List Nat × List Nat) := (true, [([], []), ([], []), ([0, 1], [0, 1]), ([2], [2]), ([], []), ([4], [4]), ([3, 5], [3, 5]), ([6], [6]), ([7, 6], [7]), ([8], [8]), ([9, 8], [8, 9]), ([10, 8, 8], [8, 10]), ([11], [11]), ([11], [11]), ([12, 13, 11], [11, 12, 13]), ([14, 11], [11, 14]), ([11], [11]), ([11], [11]), ([17, 11], [11, 17]), ([16, 18, 11], [11, 16, 18]), ([19, 11], [11, 19]), ([15, 20, 11], [11, 15, 20]), ([11, 21, 8], [8, 11, 21]), ([8, 22], [8, 22])])
def diaphoneref03_mask.B5 : List Nat := [0, 0, 3, 7, 0, 16, 63, 127, 255, 511, 1023, 2047, 4095, 4095, 16383, 32767, 4095, 4095, 135167, 462847, 987135, 2097151, 4194303, 8388607]
theorem diaphoneref03_mask.tab5 : rtab .any (opsOf Try.f84 5) = diaphoneref03_mask.T5 := by kernel_rfl
theorem diaphoneref03_mask.bits5 : waitsOk diaphoneref03_mask.T5.2 diaphoneref03_mask.B5 = true := by kernel_rfl
set_option maxHeartbeats 8000000 in
set_option maxRecDepth 100000 in
theorem diaphoneref03_mask.calls (k : Nat) (A0 : Option Addr) (c0 : Nat) (l0 : List Int) (a1 : Int) (r1 : Int) (r2 : Bool) (w : World) (hr0 : Kd.C (Kd.int .i64) w A0 l0.length l0) (hc0 : l0.length ≤ c0) (h : diaphoneref03_mask.f k l0 a1 = some (r1, r2)) :
  Calls Try.prog 84 #[.slice A0 l0.length c0, .int .i64 a1] w fun e w' => e = .returned (.tuple #[.int .i64 r1, .bool r2]) ∧ Below w.heap.size w w' := by
 have HR0 := XB hr0; have HC0 := XB hc0; clear hr0 hc0; have HB := XB (Below.refl w.heap.size w); have H : (diaphoneref03_mask.l0 k l0 a1 0 0) = some (r1, r2) := h; clear h; have H' := XB H; clear H; go_enter Try.func84, Try.ntmps84
 go_wp2
 go_loopg [6, 7] k (fun kq v6 v7 w' => ∃ (x6_1 : Int) (x7_1 : Int), v6 = .int .i64 x6_1 ∧ v7 = .int .i64 x7_1 ∧ Aside0 (diaphoneref03_mask.l0 kq l0 a1 x6_1 x7_1 = some (r1, r2)) ∧ Aside0 (kq ≤ k) ∧ Aside0 (Below w.heap.size w w'))
 case atStart => exact ⟨(0), (0), (by first | rfl | (simp; done) | (simp [*]; done)), (by first | rfl | (simp; done) | (simp [*]; done)), H', ⟨Nat.le_refl _⟩, ⟨by repeat (first | (with_reducible first | exact HB.out | apply Xc | apply Xa | apply Xb) | exact HB.out)⟩⟩
 case round =>
  clear H'; try clear p2
  obtain ⟨x6_1, x7_1, rfl, rfl, HA, HK1, HB⟩ := hrel
  cases gk with
  | zero => exact absurd HA.out (by simp [diaphoneref03_mask.l0])
  | succ k1 =>
   have H := HA.out; clear HA; simp only [diaphoneref03_mask.l0] at H; by_cases c3 : x7_1 < (l0.length : Int)
   ·rw [if_pos c3] at H; have c3b0 : decide (x7_1 < (l0.length : Int)) = true := decide_eq_true c3; clear c3; by_cases c4 : 0 ≤ x7_1
    ·rw [if_pos c4] at H; have c4b0 : decide (0 ≤ x7_1) = true := decide_eq_true c4; clear c4; replace H := Option.bind_eq_some_iff.mp H; obtain ⟨t102, A50, H⟩ := H; replace H : (if t102 = true then (if x7_1 > 0 then (if 0 ≤ (wrap64 (x7_1 - 1)) then (if (wrap64 (x7_1 - 1)) < (l0.length : Int) then (if (rd l0 x7_1) ≤ (rd l0 (wrap64 (x7_1 - 1))) then (some (0, false)) else (if 0 ≤ (IntKind.u64.wrap (rd l0 x7_1)) then (diaphoneref03_mask.l0 k1 l0 a1 (Go.bits .or .i64 x6_1 (shl .i64 1 (IntKind.u64.wrap (rd l0 x7_1)))) (wrap64 (x7_1 + 1))) else (none))) else (none)) else (none)) else (if 0 ≤ (IntKind.u64.wrap (rd l0 x7_1)) then (diaphoneref03_mask.l0 k1 l0 a1 (Go.bits .or .i64 x6_1 (shl .i64 1 (IntKind.u64.wrap (rd l0 x7_1)))) (wrap64 (x7_1 + 1))) else (none))) else (some (0, false))) = some (r1, r2) := H; have A5 := XB A50; clear A50; by_cases c6 : t102 = true
     ·subst c6; have H1 : (if x7_1 > 0 then (if 0 ≤ (wrap64 (x7_1 - 1)) then (if (wrap64 (x7_1 - 1)) < (l0.length : Int) then (if (rd l0 x7_1) ≤ (rd l0 (wrap64 (x7_1 - 1))) then (some (0, false)) else (if 0 ≤ (IntKind.u64.wrap (rd l0 x7_1)) then (diaphoneref03_mask.l0 k1 l0 a1 (Go.bits .or .i64 x6_1 (shl .i64 1 (IntKind.u64.wrap (rd l0 x7_1)))) (wrap64 (x7_1 + 1))) else (none))) else (none)) else (none)) else (if 0 ≤ (IntKind.u64.wrap (rd l0 x7_1)) then (diaphoneref03_mask.l0 k1 l0 a1 (Go.bits .or .i64 x6_1 (shl .i64 1 (IntKind.u64.wrap (rd l0 x7_1)))) (wrap64 (x7_1 + 1))) else (none))) = some (r1, r2) := by rw [if_pos rfl] at H; exact H
      clear H; have H := H1; clear H1; by_cases c7 : x7_1 > 0
      ·rw [if_pos c7] at H; have c7b0 : decide (0 < x7_1) = true := decide_eq_true c7; clear c7; obtain ⟨ji8, hji8⟩ : ∃ j_ : Int, (wrap64 (x7_1 - 1)) = j_ := ⟨_, rfl⟩
       replace H : (if 0 ≤ (ji8) then (if (ji8) < (l0.length : Int) then (if (rd l0 x7_1) ≤ (rd l0 (ji8)) then (some (0, false)) else (if 0 ≤ (IntKind.u64.wrap (rd l0 x7_1)) then (diaphoneref03_mask.l0 k1 l0 a1 (Go.bits .or .i64 x6_1 (shl .i64 1 (IntKind.u64.wrap (rd l0 x7_1)))) (wrap64 (x7_1 + 1))) else (none))) else (none)) else (none)) = some (r1, r2) := by first | (rw [hji8] at H; exact H) | (simp only [hji8] at H ⊢; exact H)
       (try rw [hji8] at A5)
       have hji8w : (IntKind.i64.wrap (x7_1 - 1)) = ji8 := (i64_w _).trans hji8; by_cases c9 : 0 ≤ (ji8)
       ·rw [if_pos c9] at H; have c9b0 : decide (0 ≤ (ji8)) = true := decide_eq_true c9; clear c9; by_cases c10 : (ji8) < (l0.length : Int)
        ·rw [if_pos c10] at H; have c10b0 : decide ((ji8) < (l0.length : Int)) = true := decide_eq_true c10; clear c10; by_cases c11 : (rd l0 x7_1) ≤ (rd l0 (ji8))
         ·rw [if_pos c11] at H; have c11b0 : decide ((rd l0 x7_1) ≤ (rd l0 (ji8))) = true := decide_eq_true c11; clear c11; simp only [Option.some.injEq, Prod.mk.injEq] at H; obtain ⟨rfl, rfl⟩ := H; try go_wp2
          have n0_ := XB (Xb HB.out); clear HB; have HB := n0_; clear n0_; have p101 : 0 ≤ (x7_1 : Int) := of_decide_eq_true (by first | (with_reducible assumption) | assumption); have q101 : x7_1 < (l0.length : Int) := of_decide_eq_true (by first | (with_reducible assumption) | assumption); obtain ⟨ad101, e101, hx101_0⟩ := Kd.at_int HR0.out x7_1 p101 q101; have hw101_0 := hx101_0
          cases e101
          replace hx101_0 := (HB.out.cell (World.block_lt_of_cell? w _ hx101_0)).trans hx101_0; replace p101 := eq_true p101; replace q101 := eq_true q101; have p103 : 0 ≤ (x7_1 : Int) := of_decide_eq_true (by first | (with_reducible assumption) | assumption); have q103 : x7_1 < (l0.length : Int) := of_decide_eq_true (by first | (with_reducible assumption) | assumption); obtain ⟨ad103, e103, hx103_0⟩ := Kd.at_int HR0.out x7_1 p103 q103; have hw103_0 := hx103_0; obtain rfl : ad101 = ad103 := (by injection e103); replace hx103_0 := (HB.out.cell (World.block_lt_of_cell? w _ hx103_0)).trans hx103_0; replace p103 := eq_true p103; replace q103 := eq_true q103; have p104 : 0 ≤ ((ji8) : Int) := of_decide_eq_true (by first | (with_reducible assumption) | assumption); have q104 : (ji8) < (l0.length : Int) := of_decide_eq_true (by first | (with_reducible assumption) | assumption); obtain ⟨ad104, e104, hx104_0⟩ := Kd.at_int HR0.out (ji8) p104 q104; have hw104_0 := hx104_0; obtain rfl : ad101 = ad104 := (by injection e104); replace hx104_0 := (HB.out.cell (World.block_lt_of_cell? w _ hx104_0)).trans hx104_0; replace p104 := eq_true p104; replace q104 := eq_true q104; refine start_ (n := 24) (S := fun w' => w'.cell? (ad101.add (x7_1).toNat) = some (.int .i64 (rd l0 x7_1)) ∧ w'.cell? (ad101.add (x7_1).toNat) = some (.int .i64 (rd l0 x7_1)) ∧ w'.cell? (ad101.add ((ji8)).toNat) = some (.int .i64 (rd l0 (ji8)))) (ds := []) #[false, false, false, false, false, false, false, false, false, false, false, false, false, false, false, false, false, false, false, false, false, false, false, false] (by kernel_rfl) rfl rfl ⟨((HB.out.cell (World.block_lt_of_cell? w _ hw101_0)).trans hw101_0), ((HB.out.cell (World.block_lt_of_cell? w _ hw103_0)).trans hw103_0), ((HB.out.cell (World.block_lt_of_cell? w _ hw104_0)).trans hw104_0)⟩ (fun hHeld => ?_); refine with_tabW diaphoneref03_mask.tab5 diaphoneref03_mask.bits5 (fun HT_ HW_ => ?_)
          generalize wr.drew = w12 at HB hx101_0 hx103_0 hx104_0 hHeld ⊢
          refine pure_ (i := 0) (N := some 14) (v := ?_) (a' := ?_) (Bq 24 1) rfl rfl (any_of HT_.out (by kernel_rfl)) (fun _ _ _ h => h) (Or.inl ⟨by rfl, ?_⟩) ?_ ?_; rotate_left
          ·intro w'; go_simp; with_reducible rfl
          rotate_left
          ·simp only [Act.put, Xj, Xk, Xl, i64_w, i32_w]; rfl
          refine pure_ (i := 1) (N := some 15) (v := ?_) (a' := ?_) (Bq 24 3) rfl rfl (any_of HT_.out (by kernel_rfl)) (fun _ _ _ h => h) (Or.inl ⟨by rfl, ?_⟩) ?_ ?_; rotate_left
          ·intro w'; go_simp; with_reducible rfl
          rotate_left
          ·simp only [Act.put, Xj, Xk, Xl, i64_w, i32_w]; rfl
          refine pure_ (i := 2) (N := some 16) (v := ?_) (a' := ?_) (Bq 24 7) rfl rfl (any_of HT_.out (by kernel_rfl)) (fun _ _ _ h => h) (Or.inl ⟨by rfl, ?_⟩) ?_ ?_; rotate_left
          ·intro w'; go_simp; with_reducible rfl
          rotate_left
          ·simp only [Act.put, Xj, Xk, Xl, i64_w, i32_w]; rfl
          refine pure_ (i := 4) (N := some 18) (v := ?_) (a' := ?_) (Bq 24 23) rfl rfl (any_of HT_.out (by kernel_rfl)) (fun _ _ _ h => h) (Or.inl ⟨by rfl, ?_⟩) ?_ ?_; rotate_left
          ·intro w'; go_simp; with_reducible rfl
          rotate_left
          ·simp only [Act.put, Xj, Xk, Xl, i64_w, i32_w]; rfl
          refine pure_ (i := 5) (N := some 19) (v := ?_) (a' := ?_) (Bq 24 55) rfl rfl (any_of HT_.out (by kernel_rfl)) (fun _ _ _ h => h) (Or.inl ⟨by rfl, ?_⟩) ?_ ?_; rotate_left
          ·intro w'; go_simp; with_reducible rfl
          rotate_left
          ·simp only [Act.put, Xj, Xk, Xl, i64_w, i32_w]; rfl
          refine take_ (i := 3) (N := some 17) (v := ?_) (a' := ?_) (Bq 24 63) rfl rfl (take_ofW HT_.out HW_.out (by kernel_rfl)) (fun _ _ _ h => h) (Or.inl ⟨by rfl, ?_⟩) hHeld ?_ ?_; rotate_left
          ·rintro w' ⟨s0, s1, s2⟩; go_simp; with_reducible rfl
          rotate_left
          ·simp only [Act.put, Xj, Xk, Xl, i64_w, i32_w]; rfl
          refine one_ (i := 6) (N := some 20) (Bq 24 127) rfl rfl (one_of HT_.out (by kernel_rfl)) (by decide) (fun K hK => ?_); refine goes_ Try.func74 (by kernel_rfl) rfl #[.int .i64 (rd l0 x7_1), .int .i64 0, .int .i64 (wrap64 (a1 - 1))] (by rfl) rfl rfl (by (try simp only [Xm, Xn, Xo]); first | done | rfl | (simp only [Xp, Xq]; rfl)) ?_; with_reducible refine (diaphoneref03_within.calls (rd l0 x7_1) 0 (wrap64 (a1 - 1)) true _ A5.out).mono ?_
          rintro e w' ⟨rfl, ⟨nd, rfl⟩⟩; refine ⟨_, rfl, ?_⟩; refine hK.out _ _ ⟨((HB.out.cell (World.block_lt_of_cell? w _ hw101_0)).trans hw101_0), ((HB.out.cell (World.block_lt_of_cell? w _ hw103_0)).trans hw103_0), ((HB.out.cell (World.block_lt_of_cell? w _ hw104_0)).trans hw104_0)⟩ (fun hHeld => ?_); clear hK K; refine norm_ (a' := ?_) ?_ ?_; rotate_left
          ·show Act.put _ (some 20) _ = _
           simp only [Act.put, Xj, Xk, Xl, i64_w, i32_w]; rfl
          refine pure_ (i := 7) (N := some 21) (v := ?_) (a' := ?_) (Bq 24 255) rfl rfl (any_of HT_.out (by kernel_rfl)) (fun _ _ _ h => h) (Or.inl ⟨by rfl, ?_⟩) ?_ ?_; rotate_left
          ·intro w'; go_simp; with_reducible rfl
          rotate_left
          ·simp only [Act.put, Xj, Xk, Xl, i64_w, i32_w]; rfl
          refine pure_ (i := 8) (N := some 22) (v := ?_) (a' := ?_) (Bq 24 511) rfl rfl (any_of HT_.out (by kernel_rfl)) (fun _ _ _ h => h) (Or.inl ⟨by rfl, ?_⟩) ?_ ?_; rotate_left
          ·intro w'; go_simp; with_reducible rfl
          rotate_left
          ·simp only [Act.put, Xj, Xk, Xl, i64_w, i32_w]; rfl
          refine pure_ (i := 9) (N := some 23) (v := ?_) (a' := ?_) (Bq 24 1023) rfl rfl (any_of HT_.out (by kernel_rfl)) (fun _ _ _ h => h) (Or.inl ⟨by rfl, ?_⟩) ?_ ?_; rotate_left
          ·intro w'; go_simp; with_reducible rfl
          rotate_left
          ·simp only [Act.put, Xj, Xk, Xl, i64_w, i32_w]; rfl
          refine pure_ (i := 10) (N := some 24) (v := ?_) (a' := ?_) (Bq 24 2047) rfl rfl (any_of HT_.out (by kernel_rfl)) (fun _ _ _ h => h) (Or.inl ⟨by rfl, ?_⟩) ?_ ?_; rotate_left
          ·intro w'; go_simp; with_reducible rfl
          rotate_left
          ·simp only [Act.put, Xj, Xk, Xl, i64_w, i32_w]; rfl
          refine pure_ (i := 11) (N := some 25) (v := ?_) (a' := ?_) (Bq 24 4095) rfl rfl (any_of HT_.out (by kernel_rfl)) (fun _ _ _ h => h) (Or.inl ⟨by rfl, ?_⟩) ?_ ?_; rotate_left
          ·intro w'; go_simp; with_reducible rfl
          rotate_left
          ·simp only [Act.put, Xj, Xk, Xl, i64_w, i32_w]; rfl
          refine pure_ (i := 12) (N := some 26) (v := ?_) (a' := ?_) (Bq 24 8191) rfl rfl (any_of HT_.out (by kernel_rfl)) (fun _ _ _ h => h) (Or.inl ⟨by rfl, ?_⟩) ?_ ?_; rotate_left
          ·intro w'; go_simp; with_reducible rfl
          rotate_left
          ·simp only [Act.put, Xj, Xk, Xl, i64_w, i32_w]; rfl
          refine pure_ (i := 13) (N := some 27) (v := ?_) (a' := ?_) (Bq 24 16383) rfl rfl (any_of HT_.out (by kernel_rfl)) (fun _ _ _ h => h) (Or.inl ⟨by rfl, ?_⟩) ?_ ?_; rotate_left
          ·intro w'; go_simp; with_reducible rfl
          rotate_left
          ·simp only [Act.put, Xj, Xk, Xl, i64_w, i32_w]; rfl
          refine pure_ (i := 14) (N := some 28) (v := ?_) (a' := ?_) (Bq 24 32767) rfl rfl (any_of HT_.out (by kernel_rfl)) (fun _ _ _ h => h) (Or.inl ⟨by rfl, ?_⟩) ?_ ?_; rotate_left
          ·intro w'; go_simp; with_reducible rfl
          rotate_left
          ·simp only [Act.put, Xj, Xk, Xl, i64_w, i32_w]; rfl
          refine pure_ (i := 16) (N := some 30) (v := ?_) (a' := ?_) (Bq 24 98303) rfl rfl (any_of HT_.out (by kernel_rfl)) (fun _ _ _ h => h) (Or.inl ⟨by rfl, ?_⟩) ?_ ?_; rotate_left
          ·intro w'; go_simp; with_reducible rfl
          rotate_left
          ·simp only [Act.put, Xj, Xk, Xl, i64_w, i32_w]; rfl
          refine pure_ (i := 17) (N := some 31) (v := ?_) (a' := ?_) (Bq 24 229375) rfl rfl (any_of HT_.out (by kernel_rfl)) (fun _ _ _ h => h) (Or.inl ⟨by rfl, ?_⟩) ?_ ?_; rotate_left
          ·intro w'; go_simp; with_reducible rfl
          rotate_left
          ·simp only [Act.put, Xj, Xk, Xl, i64_w, i32_w]; rfl
          refine pure_ (i := 18) (N := some 32) (v := ?_) (a' := ?_) (Bq 24 491519) rfl rfl (any_of HT_.out (by kernel_rfl)) (fun _ _ _ h => h) (Or.inl ⟨by rfl, ?_⟩) ?_ ?_; rotate_left
          ·intro w'; go_simp; with_reducible rfl
          rotate_left
          ·simp only [Act.put, Xj, Xk, Xl, i64_w, i32_w]; rfl
          refine pure_ (i := 19) (N := some 33) (v := ?_) (a' := ?_) (Bq 24 1015807) rfl rfl (any_of HT_.out (by kernel_rfl)) (fun _ _ _ h => h) (Or.inl ⟨by rfl, ?_⟩) ?_ ?_; rotate_left
          ·intro w'; go_simp; with_reducible rfl
          rotate_left
          ·simp only [Act.put, Xj, Xk, Xl, i64_w, i32_w]; rfl
          refine take_ (i := 15) (N := some 29) (v := ?_) (a' := ?_) (Bq 24 1048575) rfl rfl (take_ofW HT_.out HW_.out (by kernel_rfl)) (fun _ _ _ h => h) (Or.inl ⟨by rfl, ?_⟩) hHeld ?_ ?_; rotate_left
          ·rintro w' ⟨s0, s1, s2⟩; go_simp; with_reducible rfl
          rotate_left
          ·simp only [Act.put, Xj, Xk, Xl, i64_w, i32_w]; rfl
          refine take_ (i := 20) (N := some 34) (v := ?_) (a' := ?_) (Bq 24 2097151) rfl rfl (take_ofW HT_.out HW_.out (by kernel_rfl)) (fun _ _ _ h => h) (Or.inl ⟨by rfl, ?_⟩) hHeld ?_ ?_; rotate_left
          ·rintro w' ⟨s0, s1, s2⟩; go_simp; with_reducible rfl
          rotate_left
          ·simp only [Act.put, Xj, Xk, Xl, i64_w, i32_w]; rfl
          refine pure_ (i := 21) (N := some 35) (v := ?_) (a' := ?_) (Bq 24 4194303) rfl rfl (any_of HT_.out (by kernel_rfl)) (fun _ _ _ h => h) (Or.inl ⟨by rfl, ?_⟩) ?_ ?_; rotate_left
          ·intro w'; go_simp; with_reducible rfl
          rotate_left
          ·simp only [Act.put, Xj, Xk, Xl, i64_w, i32_w]; rfl
          refine pure_ (i := 22) (N := some 36) (v := ?_) (a' := ?_) (Bq 24 8388607) rfl rfl (any_of HT_.out (by kernel_rfl)) (fun _ _ _ h => h) (Or.inl ⟨by rfl, ?_⟩) ?_ ?_; rotate_left
          ·intro w'; go_simp; with_reducible rfl
          rotate_left
          ·simp only [Act.put, Xj, Xk, Xl, i64_w, i32_w]; rfl
          refine pure_ (i := 23) (N := some 37) (v := ?_) (a' := ?_) (Bq 24 16777215) rfl rfl (any_of HT_.out (by kernel_rfl)) (fun _ _ _ h => h) (Or.inl ⟨by rfl, ?_⟩) ?_ ?_; rotate_left
          ·intro w'; go_simp; with_reducible rfl
          rotate_left
          ·simp only [Act.put, Xj, Xk, Xl, i64_w, i32_w]; rfl
          refine done_ (done_of HT_.out (by kernel_rfl)) ?_; try go_wp2
          go_ret2
          exact ⟨by first | rfl | (simp [errW_none, errW_some] <;> rfl) | (simp only [← hji8]; first | rfl | (simp [errW_none, errW_some] <;> rfl)) | (simp [*, errW_none, errW_some] <;> rfl), by repeat (first | (with_reducible first | exact HB.out | apply Xc | apply Xa | apply Xb) | exact HB.out)⟩
         ·rw [if_neg c11] at H; have c11b0 : decide ((rd l0 x7_1) ≤ (rd l0 (ji8))) = false := decide_eq_false c11; clear c11; obtain ⟨ji13, hji13⟩ : ∃ j_ : Int, (IntKind.u64.wrap (rd l0 x7_1)) = j_ := ⟨_, rfl⟩
          replace H : (if 0 ≤ (ji13) then (diaphoneref03_mask.l0 k1 l0 a1 (Go.bits .or .i64 x6_1 (shl .i64 1 (ji13))) (wrap64 (x7_1 + 1))) else (none)) = some (r1, r2) := by first | (rw [hji13] at H; exact H) | (simp only [hji13] at H ⊢; exact H)
          (try rw [hji13] at A5)
          by_cases c14 : 0 ≤ (ji13)
          ·rw [if_pos c14] at H; have c14b0 := eq_true c14; have c14b1 : decide (0 ≤ (ji13)) = true := decide_eq_true c14; clear c14; obtain ⟨ji15, hji15⟩ : ∃ j_ : Int, (shl .i64 1 (ji13)) = j_ := ⟨_, rfl⟩
           replace H : (diaphoneref03_mask.l0 k1 l0 a1 (Go.bits .or .i64 x6_1 (ji15)) (wrap64 (x7_1 + 1))) = some (r1, r2) := by first | (rw [hji15] at H; exact H) | (simp only [hji15] at H ⊢; exact H)
           (try rw [hji15] at A5)
           have hji15_ : (IntKind.i64.wrap (1 * 2 ^ min (ji13).toNat 64)) = ji15 := hji15; have hji15z : (ji13) ≤ 64 → (IntKind.i64.wrap (1 * 2 ^ (ji13).toNat)) = ji15 := shl_small hji15; have hji15u : (IntKind.i64.wrap (2 ^ min (ji13).toNat 64)) = ji15 := by have h_ := hji15_; rw [Int.one_mul] at h_; exact h_
           have hji15v : (ji13) ≤ 64 → (IntKind.i64.wrap (2 ^ (ji13).toNat)) = ji15 := fun hle_ => by have h_ := hji15z hle_; rw [Int.one_mul] at h_; exact h_
           have hji15y : (wrap64 (1 * 2 ^ min (ji13).toNat 64)) = ji15 := (i64_w _).symm.trans hji15_; have hji15x : (ji13) ≤ 64 → (wrap64 (1 * 2 ^ (ji13).toNat)) = ji15 := fun h_ => (i64_w _).symm.trans (hji15z h_)
           have H' := XB H; clear H; try go_wp2
           have n0_ := XB (Xb HB.out); clear HB; have HB := n0_; clear n0_; have p101 : 0 ≤ (x7_1 : Int) := of_decide_eq_true (by first | (with_reducible assumption) | assumption); have q101 : x7_1 < (l0.length : Int) := of_decide_eq_true (by first | (with_reducible assumption) | assumption); obtain ⟨ad101, e101, hx101_0⟩ := Kd.at_int HR0.out x7_1 p101 q101; have hw101_0 := hx101_0
           cases e101
           replace hx101_0 := (HB.out.cell (World.block_lt_of_cell? w _ hx101_0)).trans hx101_0; replace p101 := eq_true p101; replace q101 := eq_true q101; have p103 : 0 ≤ (x7_1 : Int) := of_decide_eq_true (by first | (with_reducible assumption) | assumption); have q103 : x7_1 < (l0.length : Int) := of_decide_eq_true (by first | (with_reducible assumption) | assumption); obtain ⟨ad103, e103, hx103_0⟩ := Kd.at_int HR0.out x7_1 p103 q103; have hw103_0 := hx103_0; obtain rfl : ad101 = ad103 := (by injection e103); replace hx103_0 := (HB.out.cell (World.block_lt_of_cell? w _ hx103_0)).trans hx103_0; replace p103 := eq_true p103; replace q103 := eq_true q103; have p104 : 0 ≤ ((ji8) : Int) := of_decide_eq_true (by first | (with_reducible assumption) | assumption); have q104 : (ji8) < (l0.length : Int) := of_decide_eq_true (by first | (with_reducible assumption) | assumption); obtain ⟨ad104, e104, hx104_0⟩ := Kd.at_int HR0.out (ji8) p104 q104; have hw104_0 := hx104_0; obtain rfl : ad101 = ad104 := (by injection e104); replace hx104_0 := (HB.out.cell (World.block_lt_of_cell? w _ hx104_0)).trans hx104_0; replace p104 := eq_true p104; replace q104 := eq_true q104; refine start_ (n := 24) (S := fun w' => w'.cell? (ad101.add (x7_1).toNat) = some (.int .i64 (rd l0 x7_1)) ∧ w'.cell? (ad101.add (x7_1).toNat) = some (.int .i64 (rd l0 x7_1)) ∧ w'.cell? (ad101.add ((ji8)).toNat) = some (.int .i64 (rd l0 (ji8)))) (ds := []) #[false, false, false, false, false, false, false, false, false, false, false, false, false, false, false, false, false, false, false, false, false, false, false, false] (by kernel_rfl) rfl rfl ⟨((HB.out.cell (World.block_lt_of_cell? w _ hw101_0)).trans hw101_0), ((HB.out.cell (World.block_lt_of_cell? w _ hw103_0)).trans hw103_0), ((HB.out.cell (World.block_lt_of_cell? w _ hw104_0)).trans hw104_0)⟩ (fun hHeld => ?_); refine with_tabW diaphoneref03_mask.tab5 diaphoneref03_mask.bits5 (fun HT_ HW_ => ?_)
           generalize wr.drew = w16 at HB hx101_0 hx103_0 hx104_0 hHeld ⊢
           refine pure_ (i := 0) (N := some 14) (v := ?_) (a' := ?_) (Bq 24 1) rfl rfl (any_of HT_.out (by kernel_rfl)) (fun _ _ _ h => h) (Or.inl ⟨by rfl, ?_⟩) ?_ ?_; rotate_left
           ·intro w'; go_simp; with_reducible rfl
           rotate_left
           ·simp only [Act.put, Xj, Xk, Xl, i64_w, i32_w]; rfl
           refine pure_ (i := 1) (N := some 15) (v := ?_) (a' := ?_) (Bq 24 3) rfl rfl (any_of HT_.out (by kernel_rfl)) (fun _ _ _ h => h) (Or.inl ⟨by rfl, ?_⟩) ?_ ?_; rotate_left
           ·intro w'; go_simp; with_reducible rfl
           rotate_left
           ·simp only [Act.put, Xj, Xk, Xl, i64_w, i32_w]; rfl
           refine pure_ (i := 2) (N := some 16) (v := ?_) (a' := ?_) (Bq 24 7) rfl rfl (any_of HT_.out (by kernel_rfl)) (fun _ _ _ h => h) (Or.inl ⟨by rfl, ?_⟩) ?_ ?_; rotate_left
           ·intro w'; go_simp; with_reducible rfl
           rotate_left
           ·simp only [Act.put, Xj, Xk, Xl, i64_w, i32_w]; rfl
           refine pure_ (i := 4) (N := some 18) (v := ?_) (a' := ?_) (Bq 24 23) rfl rfl (any_of HT_.out (by kernel_rfl)) (fun _ _ _ h => h) (Or.inl ⟨by rfl, ?_⟩) ?_ ?_; rotate_left
           ·intro w'; go_simp; with_reducible rfl
           rotate_left
           ·simp only [Act.put, Xj, Xk, Xl, i64_w, i32_w]; rfl
           refine pure_ (i := 5) (N := some 19) (v := ?_) (a' := ?_) (Bq 24 55) rfl rfl (any_of HT_.out (by kernel_rfl)) (fun _ _ _ h => h) (Or.inl ⟨by rfl, ?_⟩) ?_ ?_; rotate_left
           ·intro w'; go_simp; with_reducible rfl
           rotate_left
           ·simp only [Act.put, Xj, Xk, Xl, i64_w, i32_w]; rfl
           refine take_ (i := 3) (N := some 17) (v := ?_) (a' := ?_) (Bq 24 63) rfl rfl (take_ofW HT_.out HW_.out (by kernel_rfl)) (fun _ _ _ h => h) (Or.inl ⟨by rfl, ?_⟩) hHeld ?_ ?_; rotate_left
           ·rintro w' ⟨s0, s1, s2⟩; go_simp; with_reducible rfl
           rotate_left
           ·simp only [Act.put, Xj, Xk, Xl, i64_w, i32_w]; rfl
           refine one_ (i := 6) (N := some 20) (Bq 24 127) rfl rfl (one_of HT_.out (by kernel_rfl)) (by decide) (fun K hK => ?_); refine goes_ Try.func74 (by kernel_rfl) rfl #[.int .i64 (rd l0 x7_1), .int .i64 0, .int .i64 (wrap64 (a1 - 1))] (by rfl) rfl rfl (by (try simp only [Xm, Xn, Xo]); first | done | rfl | (simp only [Xp, Xq]; rfl)) ?_; with_reducible refine (diaphoneref03_within.calls (rd l0 x7_1) 0 (wrap64 (a1 - 1)) true _ A5.out).mono ?_
           rintro e w' ⟨rfl, ⟨nd, rfl⟩⟩; refine ⟨_, rfl, ?_⟩; refine hK.out _ _ ⟨((HB.out.cell (World.block_lt_of_cell? w _ hw101_0)).trans hw101_0), ((HB.out.cell (World.block_lt_of_cell? w _ hw103_0)).trans hw103_0), ((HB.out.cell (World.block_lt_of_cell? w _ hw104_0)).trans hw104_0)⟩ (fun hHeld => ?_); clear hK K; refine norm_ (a' := ?_) ?_ ?_; rotate_left
           ·show Act.put _ (some 20) _ = _
            simp only [Act.put, Xj, Xk, Xl, i64_w, i32_w]; rfl
           refine pure_ (i := 7) (N := some 21) (v := ?_) (a' := ?_) (Bq 24 255) rfl rfl (any_of HT_.out (by kernel_rfl)) (fun _ _ _ h => h) (Or.inl ⟨by rfl, ?_⟩) ?_ ?_; rotate_left
           ·intro w'; go_simp; with_reducible rfl
           rotate_left
           ·simp only [Act.put, Xj, Xk, Xl, i64_w, i32_w]; rfl
           refine pure_ (i := 8) (N := some 22) (v := ?_) (a' := ?_) (Bq 24 511) rfl rfl (any_of HT_.out (by kernel_rfl)) (fun _ _ _ h => h) (Or.inl ⟨by rfl, ?_⟩) ?_ ?_; rotate_left
           ·intro w'; go_simp; with_reducible rfl
           rotate_left
           ·simp only [Act.put, Xj, Xk, Xl, i64_w, i32_w]; rfl
           refine pure_ (i := 9) (N := some 23) (v := ?_) (a' := ?_) (Bq 24 1023) rfl rfl (any_of HT_.out (by kernel_rfl)) (fun _ _ _ h => h) (Or.inl ⟨by rfl, ?_⟩) ?_ ?_; rotate_left
           ·intro w'; go_simp; with_reducible rfl
           rotate_left
           ·simp only [Act.put, Xj, Xk, Xl, i64_w, i32_w]; rfl
           refine pure_ (i := 10) (N := some 24) (v := ?_) (a' := ?_) (Bq 24 2047) rfl rfl (any_of HT_.out (by kernel_rfl)) (fun _ _ _ h => h) (Or.inl ⟨by rfl, ?_⟩) ?_ ?_; rotate_left
           ·intro w'; go_simp; with_reducible rfl
           rotate_left
           ·simp only [Act.put, Xj, Xk, Xl, i64_w, i32_w]; rfl
           refine pure_ (i := 11) (N := some 25) (v := ?_) (a' := ?_) (Bq 24 4095) rfl rfl (any_of HT_.out (by kernel_rfl)) (fun _ _ _ h => h) (Or.inl ⟨by rfl, ?_⟩) ?_ ?_; rotate_left
           ·intro w'; go_simp; with_reducible rfl
           rotate_left
           ·simp only [Act.put, Xj, Xk, Xl, i64_w, i32_w]; rfl
           refine pure_ (i := 12) (N := some 26) (v := ?_) (a' := ?_) (Bq 24 8191) rfl rfl (any_of HT_.out (by kernel_rfl)) (fun _ _ _ h => h) (Or.inl ⟨by rfl, ?_⟩) ?_ ?_; rotate_left
           ·intro w'; go_simp; with_reducible rfl
           rotate_left
           ·simp only [Act.put, Xj, Xk, Xl, i64_w, i32_w]; rfl
           refine pure_ (i := 13) (N := some 27) (v := ?_) (a' := ?_) (Bq 24 16383) rfl rfl (any_of HT_.out (by kernel_rfl)) (fun _ _ _ h => h) (Or.inl ⟨by rfl, ?_⟩) ?_ ?_; rotate_left
           ·intro w'; go_simp; with_reducible rfl
           rotate_left
           ·simp only [Act.put, Xj, Xk, Xl, i64_w, i32_w]; rfl
           refine pure_ (i := 14) (N := some 28) (v := ?_) (a' := ?_) (Bq 24 32767) rfl rfl (any_of HT_.out (by kernel_rfl)) (fun _ _ _ h => h) (Or.inl ⟨by rfl, ?_⟩) ?_ ?_; rotate_left
           ·intro w'; go_simp; with_reducible rfl
           rotate_left
           ·simp only [Act.put, Xj, Xk, Xl, i64_w, i32_w]; rfl
           refine pure_ (i := 16) (N := some 30) (v := ?_) (a' := ?_) (Bq 24 98303) rfl rfl (any_of HT_.out (by kernel_rfl)) (fun _ _ _ h => h) (Or.inl ⟨by rfl, ?_⟩) ?_ ?_; rotate_left
           ·intro w'; go_simp; with_reducible rfl
           rotate_left
           ·simp only [Act.put, Xj, Xk, Xl, i64_w, i32_w]; rfl
           refine pure_ (i := 17) (N := some 31) (v := ?_) (a' := ?_) (Bq 24 229375) rfl rfl (any_of HT_.out (by kernel_rfl)) (fun _ _ _ h => h) (Or.inl ⟨by rfl, ?_⟩) ?_ ?_; rotate_left
           ·intro w'; go_simp; with_reducible rfl
           rotate_left
           ·simp only [Act.put, Xj, Xk, Xl, i64_w, i32_w]; rfl
           refine pure_ (i := 18) (N := some 32) (v := ?_) (a' := ?_) (Bq 24 491519) rfl rfl (any_of HT_.out (by kernel_rfl)) (fun _ _ _ h => h) (Or.inl ⟨by rfl, ?_⟩) ?_ ?_; rotate_left
           ·intro w'; go_simp; with_reducible rfl
           rotate_left
           ·simp only [Act.put, Xj, Xk, Xl, i64_w, i32_w]; rfl
           refine pure_ (i := 19) (N := some 33) (v := ?_) (a' := ?_) (Bq 24 1015807) rfl rfl (any_of HT_.out (by kernel_rfl)) (fun _ _ _ h => h) (Or.inl ⟨by rfl, ?_⟩) ?_ ?_; rotate_left
           ·intro w'; go_simp; with_reducible rfl
           rotate_left
           ·simp only [Act.put, Xj, Xk, Xl, i64_w, i32_w]; rfl
           refine take_ (i := 15) (N := some 29) (v := ?_) (a' := ?_) (Bq 24 1048575) rfl rfl (take_ofW HT_.out HW_.out (by kernel_rfl)) (fun _ _ _ h => h) (Or.inl ⟨by rfl, ?_⟩) hHeld ?_ ?_; rotate_left
           ·rintro w' ⟨s0, s1, s2⟩; go_simp; with_reducible rfl
           rotate_left
           ·simp only [Act.put, Xj, Xk, Xl, i64_w, i32_w]; rfl
           refine take_ (i := 20) (N := some 34) (v := ?_) (a' := ?_) (Bq 24 2097151) rfl rfl (take_ofW HT_.out HW_.out (by kernel_rfl)) (fun _ _ _ h => h) (Or.inl ⟨by rfl, ?_⟩) hHeld ?_ ?_; rotate_left
           ·rintro w' ⟨s0, s1, s2⟩; go_simp; with_reducible rfl
           rotate_left
           ·simp only [Act.put, Xj, Xk, Xl, i64_w, i32_w]; rfl
           refine pure_ (i := 21) (N := some 35) (v := ?_) (a' := ?_) (Bq 24 4194303) rfl rfl (any_of HT_.out (by kernel_rfl)) (fun _ _ _ h => h) (Or.inl ⟨by rfl, ?_⟩) ?_ ?_; rotate_left
           ·intro w'; go_simp; with_reducible rfl
           rotate_left
           ·simp only [Act.put, Xj, Xk, Xl, i64_w, i32_w]; rfl
           refine pure_ (i := 22) (N := some 36) (v := ?_) (a' := ?_) (Bq 24 8388607) rfl rfl (any_of HT_.out (by kernel_rfl)) (fun _ _ _ h => h) (Or.inl ⟨by rfl, ?_⟩) ?_ ?_; rotate_left
           ·intro w'; go_simp; with_reducible rfl
           rotate_left
           ·simp only [Act.put, Xj, Xk, Xl, i64_w, i32_w]; rfl
           refine pure_ (i := 23) (N := some 37) (v := ?_) (a' := ?_) (Bq 24 16777215) rfl rfl (any_of HT_.out (by kernel_rfl)) (fun _ _ _ h => h) (Or.inl ⟨by rfl, ?_⟩) ?_ ?_; rotate_left
           ·intro w'; go_simp; with_reducible rfl
           rotate_left
           ·simp only [Act.put, Xj, Xk, Xl, i64_w, i32_w]; rfl
           refine done_ (done_of HT_.out (by kernel_rfl)) ?_; have p105 : 0 ≤ (x7_1 : Int) := of_decide_eq_true (by first | (with_reducible assumption) | assumption); have q105 : x7_1 < (l0.length : Int) := of_decide_eq_true (by first | (with_reducible assumption) | assumption); obtain ⟨ad105, e105, hx105_0⟩ := Kd.at_int HR0.out x7_1 p105 q105; obtain rfl : ad101 = ad105 := (by injection e105); replace hx105_0 := (HB.out.cell (World.block_lt_of_cell? w _ hx105_0)).trans hx105_0; replace p105 := eq_true p105; replace q105 := eq_true q105; try go_wp2
           go_roundg k1
           case measure => have := HK1.out; omega
           case rel => exact ⟨(Go.bits .or .i64 x6_1 (ji15)), (wrap64 (x7_1 + 1)), (by first | rfl | (simp; done) | (simp only [← hji15] <;> (first | rfl | simp)) | (simp [*]; done)), (by first | rfl | (simp; done) | (simp [*]; done)), H', ⟨by have := HK1.out; omega⟩, ⟨by repeat (first | (with_reducible first | exact HB.out | apply Xc | apply Xa | apply Xb) | exact HB.out)⟩⟩
          ·rw [if_neg c14] at H; exact absurd H (by simp)
        ·rw [if_neg c10] at H; exact absurd H (by simp)
       ·rw [if_neg c9] at H; exact absurd H (by simp)
      ·rw [if_neg c7] at H; have c7b0 : decide (0 < x7_1) = false := decide_eq_false c7; clear c7; obtain ⟨ji17, hji17⟩ : ∃ j_ : Int, (IntKind.u64.wrap (rd l0 x7_1)) = j_ := ⟨_, rfl⟩
       replace H : (if 0 ≤ (ji17) then (diaphoneref03_mask.l0 k1 l0 a1 (Go.bits .or .i64 x6_1 (shl .i64 1 (ji17))) (wrap64 (x7_1 + 1))) else (none)) = some (r1, r2) := by first | (rw [hji17] at H; exact H) | (simp only [hji17] at H ⊢; exact H)
       (try rw [hji17] at A5)
       by_cases c18 : 0 ≤ (ji17)
       ·rw [if_pos c18] at H; have c18b0 := eq_true c18; have c18b1 : decide (0 ≤ (ji17)) = true := decide_eq_true c18; clear c18; obtain ⟨ji19, hji19⟩ : ∃ j_ : Int, (shl .i64 1 (ji17)) = j_ := ⟨_, rfl⟩
        replace H : (diaphoneref03_mask.l0 k1 l0 a1 (Go.bits .or .i64 x6_1 (ji19)) (wrap64 (x7_1 + 1))) = some (r1, r2) := by first | (rw [hji19] at H; exact H) | (simp only [hji19] at H ⊢; exact H)
        (try rw [hji19] at A5)
        have hji19_ : (IntKind.i64.wrap (1 * 2 ^ min (ji17).toNat 64)) = ji19 := hji19; have hji19z : (ji17) ≤ 64 → (IntKind.i64.wrap (1 * 2 ^ (ji17).toNat)) = ji19 := shl_small hji19; have hji19u : (IntKind.i64.wrap (2 ^ min (ji17).toNat 64)) = ji19 := by have h_ := hji19_; rw [Int.one_mul] at h_; exact h_
        have hji19v : (ji17) ≤ 64 → (IntKind.i64.wrap (2 ^ (ji17).toNat)) = ji19 := fun hle_ => by have h_ := hji19z hle_; rw [Int.one_mul] at h_; exact h_
        have hji19y : (wrap64 (1 * 2 ^ min (ji17).toNat 64)) = ji19 := (i64_w _).symm.trans hji19_; have hji19x : (ji17) ≤ 64 → (wrap64 (1 * 2 ^ (ji17).toNat)) = ji19 := fun h_ => (i64_w _).symm.trans (hji19z h_)
        have H' := XB H; clear H; try go_wp2
        have n0_ := XB (Xb HB.out); clear HB; have HB := n0_; clear n0_; have p101 : 0 ≤ (x7_1 : Int) := of_decide_eq_true (by first | (with_reducible assumption) | assumption); have q101 : x7_1 < (l0.length : Int) := of_decide_eq_true (by first | (with_reducible assumption) | assumption); obtain ⟨ad101, e101, hx101_0⟩ := Kd.at_int HR0.out x7_1 p101 q101; have hw101_0 := hx101_0
        cases e101
        replace hx101_0 := (HB.out.cell (World.block_lt_of_cell? w _ hx101_0)).trans hx101_0; replace p101 := eq_true p101; replace q101 := eq_true q101; refine start_ (n := 24) (S := fun w' => w'.cell? (ad101.add (x7_1).toNat) = some (.int .i64 (rd l0 x7_1))) (ds := []) #[false, false, false, false, false, false, false, false, false, false, false, false, false, false, false, false, false, false, false, false, false, false, false, false] (by kernel_rfl) rfl rfl (((HB.out.cell (World.block_lt_of_cell? w _ hw101_0)).trans hw101_0)) (fun hHeld => ?_); refine with_tabW diaphoneref03_mask.tab5 diaphoneref03_mask.bits5 (fun HT_ HW_ => ?_); generalize wr.drew = w20 at HB hx101_0 hHeld ⊢
        refine pure_ (i := 0) (N := some 14) (v := ?_) (a' := ?_) (Bq 24 1) rfl rfl (any_of HT_.out (by kernel_rfl)) (fun _ _ _ h => h) (Or.inl ⟨by rfl, ?_⟩) ?_ ?_; rotate_left
        ·intro w'; go_simp; with_reducible rfl
        rotate_left
        ·simp only [Act.put, Xj, Xk, Xl, i64_w, i32_w]; rfl
        refine pure_ (i := 1) (N := some 15) (v := ?_) (a' := ?_) (Bq 24 3) rfl rfl (any_of HT_.out (by kernel_rfl)) (fun _ _ _ h => h) (Or.inl ⟨by rfl, ?_⟩) ?_ ?_; rotate_left
        ·intro w'; go_simp; with_reducible rfl
        rotate_left
        ·simp only [Act.put, Xj, Xk, Xl, i64_w, i32_w]; rfl
        refine pure_ (i := 2) (N := some 16) (v := ?_) (a' := ?_) (Bq 24 7) rfl rfl (any_of HT_.out (by kernel_rfl)) (fun _ _ _ h => h) (Or.inl ⟨by rfl, ?_⟩) ?_ ?_; rotate_left
        ·intro w'; go_simp; with_reducible rfl
        rotate_left
        ·simp only [Act.put, Xj, Xk, Xl, i64_w, i32_w]; rfl
        refine pure_ (i := 4) (N := some 18) (v := ?_) (a' := ?_) (Bq 24 23) rfl rfl (any_of HT_.out (by kernel_rfl)) (fun _ _ _ h => h) (Or.inl ⟨by rfl, ?_⟩) ?_ ?_; rotate_left
        ·intro w'; go_simp; with_reducible rfl
        rotate_left
        ·simp only [Act.put, Xj, Xk, Xl, i64_w, i32_w]; rfl
        refine pure_ (i := 5) (N := some 19) (v := ?_) (a' := ?_) (Bq 24 55) rfl rfl (any_of HT_.out (by kernel_rfl)) (fun _ _ _ h => h) (Or.inl ⟨by rfl, ?_⟩) ?_ ?_; rotate_left
        ·intro w'; go_simp; with_reducible rfl
        rotate_left
        ·simp only [Act.put, Xj, Xk, Xl, i64_w, i32_w]; rfl
        refine take_ (i := 3) (N := some 17) (v := ?_) (a' := ?_) (Bq 24 63) rfl rfl (take_ofW HT_.out HW_.out (by kernel_rfl)) (fun _ _ _ h => h) (Or.inl ⟨by rfl, ?_⟩) hHeld ?_ ?_; rotate_left
        ·intro w' s0; go_simp; with_reducible rfl
        rotate_left
        ·simp only [Act.put, Xj, Xk, Xl, i64_w, i32_w]; rfl
        refine one_ (i := 6) (N := some 20) (Bq 24 127) rfl rfl (one_of HT_.out (by kernel_rfl)) (by decide) (fun K hK => ?_); refine goes_ Try.func74 (by kernel_rfl) rfl #[.int .i64 (rd l0 x7_1), .int .i64 0, .int .i64 (wrap64 (a1 - 1))] (by rfl) rfl rfl (by (try simp only [Xm, Xn, Xo]); first | done | rfl | (simp only [Xp, Xq]; rfl)) ?_; with_reducible refine (diaphoneref03_within.calls (rd l0 x7_1) 0 (wrap64 (a1 - 1)) true _ A5.out).mono ?_
        rintro e w' ⟨rfl, ⟨nd, rfl⟩⟩; refine ⟨_, rfl, ?_⟩; refine hK.out _ _ (((HB.out.cell (World.block_lt_of_cell? w _ hw101_0)).trans hw101_0)) (fun hHeld => ?_); clear hK K; refine norm_ (a' := ?_) ?_ ?_; rotate_left
        ·show Act.put _ (some 20) _ = _
         simp only [Act.put, Xj, Xk, Xl, i64_w, i32_w]; rfl
        refine pure_ (i := 7) (N := some 21) (v := ?_) (a' := ?_) (Bq 24 255) rfl rfl (any_of HT_.out (by kernel_rfl)) (fun _ _ _ h => h) (Or.inl ⟨by rfl, ?_⟩) ?_ ?_; rotate_left
        ·intro w'; go_simp; with_reducible rfl
        rotate_left
        ·simp only [Act.put, Xj, Xk, Xl, i64_w, i32_w]; rfl
        refine pure_ (i := 8) (N := some 22) (v := ?_) (a' := ?_) (Bq 24 511) rfl rfl (any_of HT_.out (by kernel_rfl)) (fun _ _ _ h => h) (Or.inl ⟨by rfl, ?_⟩) ?_ ?_; rotate_left
        ·intro w'; go_simp; with_reducible rfl
        rotate_left
        ·simp only [Act.put, Xj, Xk, Xl, i64_w, i32_w]; rfl
        refine pure_ (i := 9) (N := some 23) (v := ?_) (a' := ?_) (Bq 24 1023) rfl rfl (any_of HT_.out (by kernel_rfl)) (fun _ _ _ h => h) (Or.inl ⟨by rfl, ?_⟩) ?_ ?_; rotate_left
        ·intro w'; go_simp; with_reducible rfl
        rotate_left
        ·simp only [Act.put, Xj, Xk, Xl, i64_w, i32_w]; rfl
        refine pure_ (i := 10) (N := some 24) (v := ?_) (a' := ?_) (Bq 24 2047) rfl rfl (any_of HT_.out (by kernel_rfl)) (fun _ _ _ h => h) (Or.inl ⟨by rfl, ?_⟩) ?_ ?_; rotate_left
        ·intro w'; go_simp; with_reducible rfl
        rotate_left
        ·simp only [Act.put, Xj, Xk, Xl, i64_w, i32_w]; rfl
        refine pure_ (i := 11) (N := some 25) (v := ?_) (a' := ?_) (Bq 24 4095) rfl rfl (any_of HT_.out (by kernel_rfl)) (fun _ _ _ h => h) (Or.inl ⟨by rfl, ?_⟩) ?_ ?_; rotate_left
        ·intro w'; go_simp; with_reducible rfl
        rotate_left
        ·simp only [Act.put, Xj, Xk, Xl, i64_w, i32_w]; rfl
        refine pure_ (i := 12) (N := some 26) (v := undef) (a' := ?_) (Bq 24 8191) rfl rfl (any_of HT_.out (by kernel_rfl)) (fun _ _ _ h => h) (Or.inr ⟨by rfl, rfl⟩) ?_ ?_; rotate_left
        ·simp only [Act.put, Xj, Xk, Xl, i64_w, i32_w]; rfl
        refine pure_ (i := 13) (N := some 27) (v := undef) (a' := ?_) (Bq 24 16383) rfl rfl (any_of HT_.out (by kernel_rfl)) (fun _ _ _ h => h) (Or.inr ⟨by rfl, rfl⟩) ?_ ?_; rotate_left
        ·simp only [Act.put, Xj, Xk, Xl, i64_w, i32_w]; rfl
        refine pure_ (i := 14) (N := some 28) (v := undef) (a' := ?_) (Bq 24 32767) rfl rfl (any_of HT_.out (by kernel_rfl)) (fun _ _ _ h => h) (Or.inr ⟨by rfl, rfl⟩) ?_ ?_; rotate_left
        ·simp only [Act.put, Xj, Xk, Xl, i64_w, i32_w]; rfl
        refine pure_ (i := 15) (N := some 29) (v := undef) (a' := ?_) (Bq 24 65535) rfl rfl (any_of HT_.out (by kernel_rfl)) (fun _ _ _ h => h) (Or.inr ⟨by rfl, rfl⟩) ?_ ?_; rotate_left
        ·simp only [Act.put, Xj, Xk, Xl, i64_w, i32_w]; rfl
        refine pure_ (i := 16) (N := some 30) (v := undef) (a' := ?_) (Bq 24 131071) rfl rfl (any_of HT_.out (by kernel_rfl)) (fun _ _ _ h => h) (Or.inr ⟨by rfl, rfl⟩) ?_ ?_; rotate_left
        ·simp only [Act.put, Xj, Xk, Xl, i64_w, i32_w]; rfl
        refine pure_ (i := 17) (N := some 31) (v := undef) (a' := ?_) (Bq 24 262143) rfl rfl (any_of HT_.out (by kernel_rfl)) (fun _ _ _ h => h) (Or.inr ⟨by rfl, rfl⟩) ?_ ?_; rotate_left
        ·simp only [Act.put, Xj, Xk, Xl, i64_w, i32_w]; rfl
        refine pure_ (i := 18) (N := some 32) (v := undef) (a' := ?_) (Bq 24 524287) rfl rfl (any_of HT_.out (by kernel_rfl)) (fun _ _ _ h => h) (Or.inr ⟨by rfl, rfl⟩) ?_ ?_; rotate_left
        ·simp only [Act.put, Xj, Xk, Xl, i64_w, i32_w]; rfl
        refine pure_ (i := 19) (N := some 33) (v := undef) (a' := ?_) (Bq 24 1048575) rfl rfl (any_of HT_.out (by kernel_rfl)) (fun _ _ _ h => h) (Or.inr ⟨by rfl, rfl⟩) ?_ ?_; rotate_left
        ·simp only [Act.put, Xj, Xk, Xl, i64_w, i32_w]; rfl
        refine pure_ (i := 20) (N := some 34) (v := undef) (a' := ?_) (Bq 24 2097151) rfl rfl (any_of HT_.out (by kernel_rfl)) (fun _ _ _ h => h) (Or.inr ⟨by rfl, rfl⟩) ?_ ?_; rotate_left
        ·simp only [Act.put, Xj, Xk, Xl, i64_w, i32_w]; rfl
        refine pure_ (i := 21) (N := some 35) (v := undef) (a' := ?_) (Bq 24 4194303) rfl rfl (any_of HT_.out (by kernel_rfl)) (fun _ _ _ h => h) (Or.inr ⟨by rfl, rfl⟩) ?_ ?_; rotate_left
        ·simp only [Act.put, Xj, Xk, Xl, i64_w, i32_w]; rfl
        refine pure_ (i := 22) (N := some 36) (v := ?_) (a' := ?_) (Bq 24 8388607) rfl rfl (any_of HT_.out (by kernel_rfl)) (fun _ _ _ h => h) (Or.inl ⟨by rfl, ?_⟩) ?_ ?_; rotate_left
        ·intro w'; go_simp; with_reducible rfl
        rotate_left
        ·simp only [Act.put, Xj, Xk, Xl, i64_w, i32_w]; rfl
        refine pure_ (i := 23) (N := some 37) (v := ?_) (a' := ?_) (Bq 24 16777215) rfl rfl (any_of HT_.out (by kernel_rfl)) (fun _ _ _ h => h) (Or.inl ⟨by rfl, ?_⟩) ?_ ?_; rotate_left
        ·intro w'; go_simp; with_reducible rfl
        rotate_left
        ·simp only [Act.put, Xj, Xk, Xl, i64_w, i32_w]; rfl
        refine done_ (done_of HT_.out (by kernel_rfl)) ?_; have p106 : 0 ≤ (x7_1 : Int) := of_decide_eq_true (by first | (with_reducible assumption) | assumption); have q106 : x7_1 < (l0.length : Int) := of_decide_eq_true (by first | (with_reducible assumption) | assumption); obtain ⟨ad106, e106, hx106_0⟩ := Kd.at_int HR0.out x7_1 p106 q106; obtain rfl : ad101 = ad106 := (by injection e106); replace hx106_0 := (HB.out.cell (World.block_lt_of_cell? w _ hx106_0)).trans hx106_0; replace p106 := eq_true p106; replace q106 := eq_true q106; try go_wp2
        go_roundg k1
        case measure => have := HK1.out; omega
        case rel => exact ⟨(Go.bits .or .i64 x6_1 (ji19)), (wrap64 (x7_1 + 1)), (by first | rfl | (simp; done) | (simp only [← hji19] <;> (first | rfl | simp)) | (simp [*]; done)), (by first | rfl | (simp; done) | (simp [*]; done)), H', ⟨by have := HK1.out; omega⟩, ⟨by repeat (first | (with_reducible first | exact HB.out | apply Xc | apply Xa | apply Xb) | exact HB.out)⟩⟩
       ·rw [if_neg c18] at H; exact absurd H (by simp)
     ·replace c6 := Bool.eq_false_iff.mpr c6; subst c6; have H1 : (some (0, false)) = some (r1, r2) := by rw [if_neg (show ¬ (false = true) by decide)] at H; exact H
      clear H; have H := H1; clear H1; simp only [Option.some.injEq, Prod.mk.injEq] at H; obtain ⟨rfl, rfl⟩ := H; try go_wp2
      have n0_ := XB (Xb HB.out); clear HB; have HB := n0_; clear n0_; have p101 : 0 ≤ (x7_1 : Int) := of_decide_eq_true (by first | (with_reducible assumption) | assumption); have q101 : x7_1 < (l0.length : Int) := of_decide_eq_true (by first | (with_reducible assumption) | assumption); obtain ⟨ad101, e101, hx101_0⟩ := Kd.at_int HR0.out x7_1 p101 q101; have hw101_0 := hx101_0
      cases e101
      replace hx101_0 := (HB.out.cell (World.block_lt_of_cell? w _ hx101_0)).trans hx101_0; replace p101 := eq_true p101; replace q101 := eq_true q101; refine start_ (n := 24) (S := fun w' => w'.cell? (ad101.add (x7_1).toNat) = some (.int .i64 (rd l0 x7_1))) (ds := []) #[false, false, false, false, false, false, false, false, false, false, false, false, false, false, false, false, false, false, false, false, false, false, false, false] (by kernel_rfl) rfl rfl (((HB.out.cell (World.block_lt_of_cell? w _ hw101_0)).trans hw101_0)) (fun hHeld => ?_); refine with_tabW diaphoneref03_mask.tab5 diaphoneref03_mask.bits5 (fun HT_ HW_ => ?_); generalize wr.drew = w21 at HB hx101_0 hHeld ⊢
      refine pure_ (i := 0) (N := some 14) (v := ?_) (a' := ?_) (Bq 24 1) rfl rfl (any_of HT_.out (by kernel_rfl)) (fun _ _ _ h => h) (Or.inl ⟨by rfl, ?_⟩) ?_ ?_; rotate_left
      ·intro w'; go_simp; with_reducible rfl
      rotate_left
      ·simp only [Act.put, Xj, Xk, Xl, i64_w, i32_w]; rfl
      refine pure_ (i := 1) (N := some 15) (v := ?_) (a' := ?_) (Bq 24 3) rfl rfl (any_of HT_.out (by kernel_rfl)) (fun _ _ _ h => h) (Or.inl ⟨by rfl, ?_⟩) ?_ ?_; rotate_left
      ·intro w'; go_simp; with_reducible rfl
      rotate_left
      ·simp only [Act.put, Xj, Xk, Xl, i64_w, i32_w]; rfl
      refine pure_ (i := 2) (N := some 16) (v := ?_) (a' := ?_) (Bq 24 7) rfl rfl (any_of HT_.out (by kernel_rfl)) (fun _ _ _ h => h) (Or.inl ⟨by rfl, ?_⟩) ?_ ?_; rotate_left
      ·intro w'; go_simp; with_reducible rfl
      rotate_left
      ·simp only [Act.put, Xj, Xk, Xl, i64_w, i32_w]; rfl
      refine pure_ (i := 4) (N := some 18) (v := ?_) (a' := ?_) (Bq 24 23) rfl rfl (any_of HT_.out (by kernel_rfl)) (fun _ _ _ h => h) (Or.inl ⟨by rfl, ?_⟩) ?_ ?_; rotate_left
      ·intro w'; go_simp; with_reducible rfl
      rotate_left
      ·simp only [Act.put, Xj, Xk, Xl, i64_w, i32_w]; rfl
      refine pure_ (i := 5) (N := some 19) (v := ?_) (a' := ?_) (Bq 24 55) rfl rfl (any_of HT_.out (by kernel_rfl)) (fun _ _ _ h => h) (Or.inl ⟨by rfl, ?_⟩) ?_ ?_; rotate_left
      ·intro w'; go_simp; with_reducible rfl
      rotate_left
      ·simp only [Act.put, Xj, Xk, Xl, i64_w, i32_w]; rfl
      refine take_ (i := 3) (N := some 17) (v := ?_) (a' := ?_) (Bq 24 63) rfl rfl (take_ofW HT_.out HW_.out (by kernel_rfl)) (fun _ _ _ h => h) (Or.inl ⟨by rfl, ?_⟩) hHeld ?_ ?_; rotate_left
      ·intro w' s0; go_simp; with_reducible rfl
      rotate_left
      ·simp only [Act.put, Xj, Xk, Xl, i64_w, i32_w]; rfl
      refine one_ (i := 6) (N := some 20) (Bq 24 127) rfl rfl (one_of HT_.out (by kernel_rfl)) (by decide) (fun K hK => ?_); refine goes_ Try.func74 (by kernel_rfl) rfl #[.int .i64 (rd l0 x7_1), .int .i64 0, .int .i64 (wrap64 (a1 - 1))] (by rfl) rfl rfl (by (try simp only [Xm, Xn, Xo]); first | done | rfl | (simp only [Xp, Xq]; rfl)) ?_; with_reducible refine (diaphoneref03_within.calls (rd l0 x7_1) 0 (wrap64 (a1 - 1)) false _ A5.out).mono ?_
      rintro e w' ⟨rfl, ⟨nd, rfl⟩⟩; refine ⟨_, rfl, ?_⟩; refine hK.out _ _ (((HB.out.cell (World.block_lt_of_cell? w _ hw101_0)).trans hw101_0)) (fun hHeld => ?_); clear hK K; refine norm_ (a' := ?_) ?_ ?_; rotate_left
      ·show Act.put _ (some 20) _ = _
       simp only [Act.put, Xj, Xk, Xl, i64_w, i32_w]; rfl
      refine pure_ (i := 7) (N := some 21) (v := ?_) (a' := ?_) (Bq 24 255) rfl rfl (any_of HT_.out (by kernel_rfl)) (fun _ _ _ h => h) (Or.inl ⟨by rfl, ?_⟩) ?_ ?_; rotate_left
      ·intro w'; go_simp; with_reducible rfl
      rotate_left
      ·simp only [Act.put, Xj, Xk, Xl, i64_w, i32_w]; rfl
      refine pure_ (i := 8) (N := some 22) (v := ?_) (a' := ?_) (Bq 24 511) rfl rfl (any_of HT_.out (by kernel_rfl)) (fun _ _ _ h => h) (Or.inl ⟨by rfl, ?_⟩) ?_ ?_; rotate_left
      ·intro w'; go_simp; with_reducible rfl
      rotate_left
      ·simp only [Act.put, Xj, Xk, Xl, i64_w, i32_w]; rfl
      refine pure_ (i := 9) (N := some 23) (v := undef) (a' := ?_) (Bq 24 1023) rfl rfl (any_of HT_.out (by kernel_rfl)) (fun _ _ _ h => h) (Or.inr ⟨by rfl, rfl⟩) ?_ ?_; rotate_left
      ·simp only [Act.put, Xj, Xk, Xl, i64_w, i32_w]; rfl
      refine pure_ (i := 10) (N := some 24) (v := undef) (a' := ?_) (Bq 24 2047) rfl rfl (any_of HT_.out (by kernel_rfl)) (fun _ _ _ h => h) (Or.inr ⟨by rfl, rfl⟩) ?_ ?_; rotate_left
      ·simp only [Act.put, Xj, Xk, Xl, i64_w, i32_w]; rfl
      refine pure_ (i := 11) (N := some 25) (v := undef) (a' := ?_) (Bq 24 4095) rfl rfl (any_of HT_.out (by kernel_rfl)) (fun _ _ _ h => h) (Or.inr ⟨by rfl, rfl⟩) ?_ ?_; rotate_left
      ·simp only [Act.put, Xj, Xk, Xl, i64_w, i32_w]; rfl
      refine pure_ (i := 12) (N := some 26) (v := undef) (a' := ?_) (Bq 24 8191) rfl rfl (any_of HT_.out (by kernel_rfl)) (fun _ _ _ h => h) (Or.inr ⟨by rfl, rfl⟩) ?_ ?_; rotate_left
      ·simp only [Act.put, Xj, Xk, Xl, i64_w, i32_w]; rfl
      refine pure_ (i := 13) (N := some 27) (v := undef) (a' := ?_) (Bq 24 16383) rfl rfl (any_of HT_.out (by kernel_rfl)) (fun _ _ _ h => h) (Or.inr ⟨by rfl, rfl⟩) ?_ ?_; rotate_left
      ·simp only [Act.put, Xj, Xk, Xl, i64_w, i32_w]; rfl
      refine pure_ (i := 14) (N := some 28) (v := undef) (a' := ?_) (Bq 24 32767) rfl rfl (any_of HT_.out (by kernel_rfl)) (fun _ _ _ h => h) (Or.inr ⟨by rfl, rfl⟩) ?_ ?_; rotate_left
      ·simp only [Act.put, Xj, Xk, Xl, i64_w, i32_w]; rfl
      refine pure_ (i := 15) (N := some 29) (v := undef) (a' := ?_) (Bq 24 65535) rfl rfl (any_of HT_.out (by kernel_rfl)) (fun _ _ _ h => h) (Or.inr ⟨by rfl, rfl⟩) ?_ ?_; rotate_left
      ·simp only [Act.put, Xj, Xk, Xl, i64_w, i32_w]; rfl
      refine pure_ (i := 16) (N := some 30) (v := undef) (a' := ?_) (Bq 24 131071) rfl rfl (any_of HT_.out (by kernel_rfl)) (fun _ _ _ h => h) (Or.inr ⟨by rfl, rfl⟩) ?_ ?_; rotate_left
      ·simp only [Act.put, Xj, Xk, Xl, i64_w, i32_w]; rfl
      refine pure_ (i := 17) (N := some 31) (v := undef) (a' := ?_) (Bq 24 262143) rfl rfl (any_of HT_.out (by kernel_rfl)) (fun _ _ _ h => h) (Or.inr ⟨by rfl, rfl⟩) ?_ ?_; rotate_left
      ·simp only [Act.put, Xj, Xk, Xl, i64_w, i32_w]; rfl
      refine pure_ (i := 18) (N := some 32) (v := undef) (a' := ?_) (Bq 24 524287) rfl rfl (any_of HT_.out (by kernel_rfl)) (fun _ _ _ h => h) (Or.inr ⟨by rfl, rfl⟩) ?_ ?_; rotate_left
      ·simp only [Act.put, Xj, Xk, Xl, i64_w, i32_w]; rfl
      refine pure_ (i := 19) (N := some 33) (v := undef) (a' := ?_) (Bq 24 1048575) rfl rfl (any_of HT_.out (by kernel_rfl)) (fun _ _ _ h => h) (Or.inr ⟨by rfl, rfl⟩) ?_ ?_; rotate_left
      ·simp only [Act.put, Xj, Xk, Xl, i64_w, i32_w]; rfl
      refine pure_ (i := 20) (N := some 34) (v := undef) (a' := ?_) (Bq 24 2097151) rfl rfl (any_of HT_.out (by kernel_rfl)) (fun _ _ _ h => h) (Or.inr ⟨by rfl, rfl⟩) ?_ ?_; rotate_left
      ·simp only [Act.put, Xj, Xk, Xl, i64_w, i32_w]; rfl
      refine pure_ (i := 21) (N := some 35) (v := undef) (a' := ?_) (Bq 24 4194303) rfl rfl (any_of HT_.out (by kernel_rfl)) (fun _ _ _ h => h) (Or.inr ⟨by rfl, rfl⟩) ?_ ?_; rotate_left
      ·simp only [Act.put, Xj, Xk, Xl, i64_w, i32_w]; rfl
      refine pure_ (i := 22) (N := some 36) (v := undef) (a' := ?_) (Bq 24 8388607) rfl rfl (any_of HT_.out (by kernel_rfl)) (fun _ _ _ h => h) (Or.inr ⟨by rfl, rfl⟩) ?_ ?_; rotate_left
      ·simp only [Act.put, Xj, Xk, Xl, i64_w, i32_w]; rfl
      refine pure_ (i := 23) (N := some 37) (v := ?_) (a' := ?_) (Bq 24 16777215) rfl rfl (any_of HT_.out (by kernel_rfl)) (fun _ _ _ h => h) (Or.inl ⟨by rfl, ?_⟩) ?_ ?_; rotate_left
      ·intro w'; go_simp; with_reducible rfl
      rotate_left
      ·simp only [Act.put, Xj, Xk, Xl, i64_w, i32_w]; rfl
      refine done_ (done_of HT_.out (by kernel_rfl)) ?_; try go_wp2
      go_ret2
      exact ⟨by first | rfl | (simp [errW_none, errW_some] <;> rfl) | (simp [*, errW_none, errW_some] <;> rfl), by repeat (first | (with_reducible first | exact HB.out | apply Xc | apply Xa | apply Xb) | exact HB.out)⟩
    ·rw [if_neg c4] at H; exact absurd H (by simp)
   ·rw [if_neg c3] at H; have c3b0 : decide (x7_1 < (l0.length : Int)) = false := decide_eq_false c3; clear c3; simp only [Option.some.injEq, Prod.mk.injEq] at H; obtain ⟨rfl, rfl⟩ := H; go_wp2
    go_ret2
    exact ⟨by first | rfl | (simp [errW_none, errW_some] <;> rfl) | (simp [*, errW_none, errW_some] <;> rfl), by repeat (first | (with_reducible first | exact HB.out | apply Xc | apply Xa | apply Xb) | exact HB.out)⟩

/-! ### diaphoneref03_At: function 53 -/
def diaphoneref03_At.f (k : Nat) (a0_0 : Int) (a0_1 : Int) (l0_2 : List Int) (l0_3 : List Int) (l1 : List Int) : Option (List Int × Bool × Int) := (diaphoneref03_Validate.f k a0_0 a0_1 l0_2 l0_3).bind fun t102 => (if t102 = 0 then ((diaphoneref03_mask.f k l1 (l0_3.length : Int)).bind fun bt103 => (if bt103.2 = true then ((diaphoneref03_at.f k a0_0 a0_1 l0_2 l0_3 bt103.1).bind fun bt105 => (some (bt105.1, bt105.2, 0))) else (some (([] : List Int), false, 1)))) else (some (([] : List Int), false, t102)))
theorem diaphoneref03_At.mono : ∀ a0 a1 a2 a3 a4 k, LeO (diaphoneref03_At.f k a0 a1 a2 a3 a4) (diaphoneref03_At.f (k + 1) a0 a1 a2 a3 a4) := by
 intro a0 a1 a2 a3 a4 k; unfold diaphoneref03_At.f; repeat' first
   | (with_reducible exact diaphoneref03_Validate.mono _ _ _ _ _)
   | (with_reducible exact diaphoneref03_at.mono _ _ _ _ _ _)
   | (with_reducible exact diaphoneref03_mask.mono _ _ _)
   | (with_reducible exact LeO.refl _)
   | (with_reducible exact LeO.none _)
   | (with_reducible refine LeO.ite ?_ ?_)
   | (with_reducible refine LeO.bind ?_ (fun _ => ?_))
   | exact diaphoneref03_Validate.mono _ _ _ _ _
   | exact diaphoneref03_at.mono _ _ _ _ _ _
   | exact diaphoneref03_mask.mono _ _ _
   | exact LeO.none _
   | refine LeO.ite ?_ ?_
   | refine LeO.bind ?_ (fun _ => ?_)
set_option maxHeartbeats 8000000 in
set_option maxRecDepth 100000 in
theorem diaphoneref03_At.calls (k : Nat) (a0_0 : Int) (a0_1 : Int) (A0_2 : Option Addr) (c0_2 : Nat) (l0_2 : List Int) (A0_3 : Option Addr) (c0_3 : Nat) (l0_3 : List Int) (A1 : Option Addr) (c1 : Nat) (l1 : List Int) (r1 : List Int) (r2 : Bool) (r3 : Int) (w : World) (hr0_2 : Kd.C (Kd.int .i64) w A0_2 l0_2.length l0_2) (hc0_2 : l0_2.length ≤ c0_2) (hr0_3 : Kd.C (Kd.int .i64) w A0_3 l0_3.length l0_3) (hc0_3 : l0_3.length ≤ c0_3) (hr1 : Kd.C (Kd.int .i64) w A1 l1.length l1) (hc1 : l1.length ≤ c1) (h : diaphoneref03_At.f k a0_0 a0_1 l0_2 l0_3 l1 = some (r1, r2, r3)) :
  Calls Try.prog 53 #[.agg #[.int .i64 a0_0, .int .i64 a0_1, .slice A0_2 l0_2.length c0_2, .slice A0_3 l0_3.length c0_3], .slice A1 l1.length c1] w fun e w' => ∃ v0_ : Value, e = .returned (.tuple #[v0_, .bool r2, .int .i64 r3]) ∧ Kd.R (Kd.int .i64) 3 w' w.heap.size (fun _ => True) v0_ r1 ∧ Below w.heap.size w w' := by
 have hu24 := Try.underlying24; have HR0_2 := XB hr0_2; have HC0_2 := XB hc0_2; clear hr0_2 hc0_2; have HR0_3 := XB hr0_3; have HC0_3 := XB hc0_3; clear hr0_3 hc0_3; have HR1 := XB hr1; have HC1 := XB hc1; clear hr1 hc1; have HB := XB (Below.refl w.heap.size w); have H : ((diaphoneref03_Validate.f k a0_0 a0_1 l0_2 l0_3).bind fun t102 => (if t102 = 0 then ((diaphoneref03_mask.f k l1 (l0_3.length : Int)).bind fun bt103 => (if bt103.2 = true then ((diaphoneref03_at.f k a0_0 a0_1 l0_2 l0_3 bt103.1).bind fun bt105 => (some (bt105.1, bt105.2, 0))) else (some (([] : List Int), false, 1)))) else (some (([] : List Int), false, t102)))) = some (r1, r2, r3) := h; clear h; replace H := Option.bind_eq_some_iff.mp H; obtain ⟨t102, A30, H⟩ := H; replace H : (if t102 = 0 then ((diaphoneref03_mask.f k l1 (l0_3.length : Int)).bind fun bt103 => (if bt103.2 = true then ((diaphoneref03_at.f k a0_0 a0_1 l0_2 l0_3 bt103.1).bind fun bt105 => (some (bt105.1, bt105.2, 0))) else (some (([] : List Int), false, 1)))) else (some (([] : List Int), false, t102))) = some (r1, r2, r3) := H; have A3 := XB A30; clear A30; by_cases c4 : t102 = 0
 ·rw [if_pos c4] at H; have c4b0 : (t102 == 0) = true := beq_iff_eq.mpr c4; have c4b1 : (t102 != 0) = false := bne_eq_false_iff_eq.mpr c4; clear c4; replace H := Option.bind_eq_some_iff.mp H; obtain ⟨⟨t103, t104⟩, A50, H⟩ := H; replace H : (if t104 = true then ((diaphoneref03_at.f k a0_0 a0_1 l0_2 l0_3 t103).bind fun bt105 => (some (bt105.1, bt105.2, 0))) else (some (([] : List Int), false, 1))) = some (r1, r2, r3) := H; have A5 := XB A50; clear A50; by_cases c6 : t104 = true
  ·subst c6; have H1 : ((diaphoneref03_at.f k a0_0 a0_1 l0_2 l0_3 t103).bind fun bt105 => (some (bt105.1, bt105.2, 0))) = some (r1, r2, r3) := by rw [if_pos rfl] at H; exact H
   clear H; have H := H1; clear H1; replace H := Option.bind_eq_some_iff.mp H; obtain ⟨⟨t105, t108⟩, A70, H⟩ := H; replace H : (some (t105, t108, 0)) = some (r1, r2, r3) := H; have A7 := XB A70; clear A70; simp only [Option.some.injEq, Prod.mk.injEq] at H; obtain ⟨rfl, rfl, rfl⟩ := H; go_enter Try.func53, Try.ntmps53
   go_wp2_with (first | ((with_reducible refine gate_dst (N := 2) rfl ?_); refine box_event ?hg (N := 2) ?hd (cs := #[.int .i64 a0_0, .int .i64 a0_1, .slice A0_2 l0_2.length c0_2, .slice A0_3 l0_3.length c0_3]) (t := 24) ?hr ?_; (case hd => rfl); (case hg => rfl); (case hr => first | (go_simp; done) | (go_simp; rfl)); intro gb101 hg w8 hbox hb; have n0_ := XB (Xz (by repeat (first | (with_reducible first | exact HB.out | apply Xc | apply Xa | apply Xb) | exact HB.out)) hb); have n1_ := XB (hbox); have n2_ := XB ((by rw [hg]; exact (XC (by repeat (first | (with_reducible first | exact HB.out | apply Xc | apply Xa | apply Xb) | exact HB.out))) : w.heap.size ≤ gb101)); have n3_ := XB ((by rw [hg]; exact (XC (by repeat (first | (with_reducible first | exact HB.out | apply Xc | apply Xa | apply Xb) | exact HB.out))) : w.heap.size ≤ gb101)); clear HB; have HB := n0_; have J101 := n1_; have GW101 := n2_; have E101 := n3_; clear n0_ n1_ n2_ n3_; clear hb hbox hg; have hcz9_0 : w8.cell? ⟨gb101, 0, none⟩ = some (.int .i64 a0_0) := (Xi J101.out 0).trans rfl; have hcz9_1 : w8.cell? ⟨gb101, 1, none⟩ = some (.int .i64 a0_1) := (Xi J101.out 1).trans rfl; have hcz9_2 : w8.cell? ⟨gb101, 2, none⟩ = some (.slice A0_2 l0_2.length c0_2) := (Xi J101.out 2).trans rfl; have hcz9_3 : w8.cell? ⟨gb101, 3, none⟩ = some (.slice A0_3 l0_3.length c0_3) := (Xi J101.out 3).trans rfl; have hfz9_0 := Xh J101.out 0; have hfz9_1 := Xh J101.out 1; have hfz9_2 := Xh J101.out 2; have hfz9_3 := Xh J101.out 3) | ((with_reducible refine gate_callee (f := 43) rfl ?_); refine goesL_ (some 12) rfl rfl Try.func43 (by kernel_rfl) rfl #[.agg #[.int .i64 a0_0, .int .i64 a0_1, .slice A0_2 l0_2.length c0_2, .slice A0_3 l0_3.length c0_3]] rfl (by (try simp only [Xm, Xn, Xo]); first | done | rfl | (simp only [Xp, Xq]; rfl)) ?_; (with_reducible refine (diaphoneref03_Validate.calls k a0_0 a0_1 _ _ l0_2 _ _ l0_3 t102 _ ?side1 ?side2 ?side3 ?side4 A3.out).mono ?_); (case side1 => repeat (first | exact (Xu HR0_2.out HB.out) | (with_reducible refine Xr ?_ _) | (with_reducible refine Xs ?_ _) | (with_reducible refine Xt ?_))); (case side2 => exact HC0_2.out); (case side3 => repeat (first | exact (Xu HR0_3.out HB.out) | (with_reducible refine Xr ?_ _) | (with_reducible refine Xs ?_ _) | (with_reducible refine Xt ?_))); (case side4 => exact HC0_3.out); rintro e w10 ⟨rfl, hb⟩; refine ⟨_, rfl, ?_⟩; have n0_ := XB (XA (g := gb101) (o := .cells #[.int .i64 a0_0, .int .i64 a0_1, .slice A0_2 l0_2.length c0_2, .slice A0_3 l0_3.length c0_3] 24 (0, 0)) (by (with_reducible repeat (first | refine Xf ?_ _ | refine Xg ?_ | refine Xe ?_ _)); exact J101.out) hb); have n1_ := XB (Xz (by repeat (first | (with_reducible first | exact HB.out | apply Xc | apply Xa | apply Xb | refine Xd ?_ E101.out) | exact HB.out)) hb); clear J101; clear HB; have J101 := n0_; have HB := n1_; clear n0_ n1_; (try clear hb); (try clear hb2); (try clear hk); (try clear hi); have hcz11_0 : w10.cell? ⟨gb101, 0, none⟩ = some (.int .i64 a0_0) := (Xi J101.out 0).trans rfl; have hcz11_1 : w10.cell? ⟨gb101, 1, none⟩ = some (.int .i64 a0_1) := (Xi J101.out 1).trans rfl; have hcz11_2 : w10.cell? ⟨gb101, 2, none⟩ = some (.slice A0_2 l0_2.length c0_2) := (Xi J101.out 2).trans rfl; have hcz11_3 : w10.cell? ⟨gb101, 3, none⟩ = some (.slice A0_3 l0_3.length c0_3) := (Xi J101.out 3).trans rfl; have hfz11_0 := Xh J101.out 0; have hfz11_1 := Xh J101.out 1; have hfz11_2 := Xh J101.out 2; have hfz11_3 := Xh J101.out 3) | ((with_reducible refine gate_callee (f := 84) rfl ?_); refine goesL_ (some 21) rfl rfl Try.func84 (by kernel_rfl) rfl #[.slice A1 l1.length c1, .int .i64 (l0_3.length : Int)] rfl (by (try simp only [Xm, Xn, Xo]); first | done | rfl | (simp only [Xp, Xq]; rfl)) ?_; (with_reducible refine (diaphoneref03_mask.calls k _ _ l1 (l0_3.length : Int) t103 true _ ?side1 ?side2 A5.out).mono ?_); (case side1 => repeat (first | exact (Xu HR1.out HB.out) | (with_reducible refine Xr ?_ _) | (with_reducible refine Xs ?_ _) | (with_reducible refine Xt ?_))); (case side2 => exact HC1.out); rintro e w12 ⟨rfl, hb⟩; refine ⟨_, rfl, ?_⟩; have n0_ := XB (XA (g := gb101) (o := .cells #[.int .i64 a0_0, .int .i64 a0_1, .slice A0_2 l0_2.length c0_2, .slice A0_3 l0_3.length c0_3] 24 (0, 0)) (by (with_reducible repeat (first | refine Xf ?_ _ | refine Xg ?_ | refine Xe ?_ _)); exact J101.out) hb); have n1_ := XB (Xz (by repeat (first | (with_reducible first | exact HB.out | apply Xc | apply Xa | apply Xb | refine Xd ?_ E101.out) | exact HB.out)) hb); clear J101; clear HB; have J101 := n0_; have HB := n1_; clear n0_ n1_; (try clear hb); (try clear hb2); (try clear hk); (try clear hi); have hcz13_0 : w12.cell? ⟨gb101, 0, none⟩ = some (.int .i64 a0_0) := (Xi J101.out 0).trans rfl; have hcz13_1 : w12.cell? ⟨gb101, 1, none⟩ = some (.int .i64 a0_1) := (Xi J101.out 1).trans rfl; have hcz13_2 : w12.cell? ⟨gb101, 2, none⟩ = some (.slice A0_2 l0_2.length c0_2) := (Xi J101.out 2).trans rfl; have hcz13_3 : w12.cell? ⟨gb101, 3, none⟩ = some (.slice A0_3 l0_3.length c0_3) := (Xi J101.out 3).trans rfl; have hfz13_0 := Xh J101.out 0; have hfz13_1 := Xh J101.out 1; have hfz13_2 := Xh J101.out 2; have hfz13_3 := Xh J101.out 3) | ((with_reducible refine gate_callee (f := 83) rfl ?_); refine goesL_ (some 29) rfl rfl Try.func83 (by kernel_rfl) rfl #[.agg #[.int .i64 a0_0, .int .i64 a0_1, .slice A0_2 l0_2.length c0_2, .slice A0_3 l0_3.length c0_3], .int .i64 t103] rfl (by (try simp only [Xm, Xn, Xo]); first | done | rfl | (simp only [Xp, Xq]; rfl)) ?_; (with_reducible refine (diaphoneref03_at.calls k a0_0 a0_1 _ _ l0_2 _ _ l0_3 t103 t105 t108 _ ?side1 ?side2 ?side3 ?side4 A7.out).mono ?_); (case side1 => repeat (first | exact (Xu HR0_2.out HB.out) | (with_reducible refine Xr ?_ _) | (with_reducible refine Xs ?_ _) | (with_reducible refine Xt ?_))); (case side2 => exact HC0_2.out); (case side3 => repeat (first | exact (Xu HR0_3.out HB.out) | (with_reducible refine Xr ?_ _) | (with_reducible refine Xs ?_ _) | (with_reducible refine Xt ?_))); (case side4 => exact HC0_3.out); rintro e w14 ⟨v106, rfl, ho0, hb⟩; refine ⟨_, rfl, ?_⟩; have n0_ := XB (Kd.R_lower ho0 (XC (by repeat (first | (with_reducible first | exact HB.out | apply Xc | apply Xa | apply Xb | refine Xd ?_ E101.out) | exact HB.out)))); have n1_ := XB (XA (g := gb101) (o := .cells #[.int .i64 a0_0, .int .i64 a0_1, .slice A0_2 l0_2.length c0_2, .slice A0_3 l0_3.length c0_3] 24 (0, 0)) (by (with_reducible repeat (first | refine Xf ?_ _ | refine Xg ?_ | refine Xe ?_ _)); exact J101.out) hb); have n2_ := XB (Xz (by repeat (first | (with_reducible first | exact HB.out | apply Xc | apply Xa | apply Xb | refine Xd ?_ E101.out) | exact HB.out)) hb); clear J101; clear HB; have HO107 := n0_; have J101 := n1_; have HB := n2_; clear n0_ n1_ n2_; (try clear hb); (try clear hb2); (try clear hk); (try clear hi); (try clear ho0)))
   go_ret3
   exact ⟨_, by first | rfl | (simp [errW_none, errW_some] <;> rfl) | (simp [*, errW_none, errW_some] <;> rfl), by (with_reducible repeat (first | apply Xv | apply Xw | apply Xx)); exact HO107.out, by repeat (first | (with_reducible first | exact HB.out | apply Xc | apply Xa | apply Xb | refine Xd ?_ E101.out) | exact HB.out)⟩
  ·replace c6 := Bool.eq_false_iff.mpr c6; subst c6; have H1 : (some (([] : List Int), false, 1)) = some (r1, r2, r3) := by rw [if_neg (show ¬ (false = true) by decide)] at H; exact H
   clear H; have H := H1; clear H1; simp only [Option.some.injEq, Prod.mk.injEq] at H; obtain ⟨rfl, rfl, rfl⟩ := H; go_enter Try.func53, Try.ntmps53
   go_wp2_with (first | ((with_reducible refine gate_dst (N := 2) rfl ?_); refine box_event ?hg (N := 2) ?hd (cs := #[.int .i64 a0_0, .int .i64 a0_1, .slice A0_2 l0_2.length c0_2, .slice A0_3 l0_3.length c0_3]) (t := 24) ?hr ?_; (case hd => rfl); (case hg => rfl); (case hr => first | (go_simp; done) | (go_simp; rfl)); intro gb101 hg w15 hbox hb; have n0_ := XB (Xz (by repeat (first | (with_reducible first | exact HB.out | apply Xc | apply Xa | apply Xb) | exact HB.out)) hb); have n1_ := XB (hbox); have n2_ := XB ((by rw [hg]; exact (XC (by repeat (first | (with_reducible first | exact HB.out | apply Xc | apply Xa | apply Xb) | exact HB.out))) : w.heap.size ≤ gb101)); have n3_ := XB ((by rw [hg]; exact (XC (by repeat (first | (with_reducible first | exact HB.out | apply Xc | apply Xa | apply Xb) | exact HB.out))) : w.heap.size ≤ gb101)); clear HB; have HB := n0_; have J101 := n1_; have GW101 := n2_; have E101 := n3_; clear n0_ n1_ n2_ n3_; clear hb hbox hg; have hcz16_0 : w15.cell? ⟨gb101, 0, none⟩ = some (.int .i64 a0_0) := (Xi J101.out 0).trans rfl; have hcz16_1 : w15.cell? ⟨gb101, 1, none⟩ = some (.int .i64 a0_1) := (Xi J101.out 1).trans rfl; have hcz16_2 : w15.cell? ⟨gb101, 2, none⟩ = some (.slice A0_2 l0_2.length c0_2) := (Xi J101.out 2).trans rfl; have hcz16_3 : w15.cell? ⟨gb101, 3, none⟩ = some (.slice A0_3 l0_3.length c0_3) := (Xi J101.out 3).trans rfl; have hfz16_0 := Xh J101.out 0; have hfz16_1 := Xh J101.out 1; have hfz16_2 := Xh J101.out 2; have hfz16_3 := Xh J101.out 3) | ((with_reducible refine gate_callee (f := 43) rfl ?_); refine goesL_ (some 12) rfl rfl Try.func43 (by kernel_rfl) rfl #[.agg #[.int .i64 a0_0, .int .i64 a0_1, .slice A0_2 l0_2.length c0_2, .slice A0_3 l0_3.length c0_3]] rfl (by (try simp only [Xm, Xn, Xo]); first | done | rfl | (simp only [Xp, Xq]; rfl)) ?_; (with_reducible refine (diaphoneref03_Validate.calls k a0_0 a0_1 _ _ l0_2 _ _ l0_3 t102 _ ?side1 ?side2 ?side3 ?side4 A3.out).mono ?_); (case side1 => repeat (first | exact (Xu HR0_2.out HB.out) | (with_reducible refine Xr ?_ _) | (with_reducible refine Xs ?_ _) | (with_reducible refine Xt ?_))); (case side2 => exact HC0_2.out); (case side3 => repeat (first | exact (Xu HR0_3.out HB.out) | (with_reducible refine Xr ?_ _) | (with_reducible refine Xs ?_ _) | (with_reducible refine Xt ?_))); (case side4 => exact HC0_3.out); rintro e w17 ⟨rfl, hb⟩; refine ⟨_, rfl, ?_⟩; have n0_ := XB (XA (g := gb101) (o := .cells #[.int .i64 a0_0, .int .i64 a0_1, .slice A0_2 l0_2.length c0_2, .slice A0_3 l0_3.length c0_3] 24 (0, 0)) (by (with_reducible repeat (first | refine Xf ?_ _ | refine Xg ?_ | refine Xe ?_ _)); exact J101.out) hb); have n1_ := XB (Xz (by repeat (first | (with_reducible first | exact HB.out | apply Xc | apply Xa | apply Xb | refine Xd ?_ E101.out) | exact HB.out)) hb); clear J101; clear HB; have J101 := n0_; have HB := n1_; clear n0_ n1_; (try clear hb); (try clear hb2); (try clear hk); (try clear hi); have hcz18_0 : w17.cell? ⟨gb101, 0, none⟩ = some (.int .i64 a0_0) := (Xi J101.out 0).trans rfl; have hcz18_1 : w17.cell? ⟨gb101, 1, none⟩ = some (.int .i64 a0_1) := (Xi J101.out 1).trans rfl; have hcz18_2 : w17.cell? ⟨gb101, 2, none⟩ = some (.slice A0_2 l0_2.length c0_2) := (Xi J101.out 2).trans rfl; have hcz18_3 : w17.cell? ⟨gb101, 3, none⟩ = some (.slice A0_3 l0_3.length c0_3) := (Xi J101.out 3).trans rfl; have hfz18_0 := Xh J101.out 0; have hfz18_1 := Xh J101.out 1; have hfz18_2 := Xh J101.out 2; have hfz18_3 := Xh J101.out 3) | ((with_reducible refine gate_callee (f := 84) rfl ?_); refine goesL_ (some 21) rfl rfl Try.func84 (by kernel_rfl) rfl #[.slice A1 l1.length c1, .int .i64 (l0_3.length : Int)] rfl (by (try simp only [Xm, Xn, Xo]); first | done | rfl | (simp only [Xp, Xq]; rfl)) ?_; (with_reducible refine (diaphoneref03_mask.calls k _ _ l1 (l0_3.length : Int) t103 false _ ?side1 ?side2 A5.out).mono ?_); (case side1 => repeat (first | exact (Xu HR1.out HB.out) | (with_reducible refine Xr ?_ _) | (with_reducible refine Xs ?_ _) | (with_reducible refine Xt ?_))); (case side2 => exact HC1.out); rintro e w19 ⟨rfl, hb⟩; refine ⟨_, rfl, ?_⟩; have n0_ := XB (XA (g := gb101) (o := .cells #[.int .i64 a0_0, .int .i64 a0_1, .slice A0_2 l0_2.length c0_2, .slice A0_3 l0_3.length c0_3] 24 (0, 0)) (by (with_reducible repeat (first | refine Xf ?_ _ | refine Xg ?_ | refine Xe ?_ _)); exact J101.out) hb); have n1_ := XB (Xz (by repeat (first | (with_reducible first | exact HB.out | apply Xc | apply Xa | apply Xb | refine Xd ?_ E101.out) | exact HB.out)) hb); clear J101; clear HB; have J101 := n0_; have HB := n1_; clear n0_ n1_; (try clear hb); (try clear hb2); (try clear hk); (try clear hi)))
   go_ret3
   exact ⟨_, by first | rfl | (simp [errW_none, errW_some] <;> rfl) | (simp [*, errW_none, errW_some] <;> rfl), by first | exact Kd.R_nil _ _ _ _ _ | exact Kd.N_nil _ _ _ _ _ | exact Kd.V_nil _ _ _ _ _ | exact Kd.Q_nil _ _ _ _ _ | exact Kd.S_nil _ _ _ _ _, by repeat (first | (with_reducible first | exact HB.out | apply Xc | apply Xa | apply Xb | refine Xd ?_ E101.out) | exact HB.out)⟩
 ·rw [if_neg c4] at H; have c4b0 : (t102 == 0) = false := beq_eq_false_iff_ne.mpr c4; have c4b1 : (t102 != 0) = true := bne_iff_ne.mpr c4; simp only [Option.some.injEq, Prod.mk.injEq] at H; obtain ⟨rfl, rfl, rfl⟩ := H; go_enter Try.func53, Try.ntmps53
  go_wp2_with (first | ((with_reducible refine gate_dst (N := 2) rfl ?_); refine box_event ?hg (N := 2) ?hd (cs := #[.int .i64 a0_0, .int .i64 a0_1, .slice A0_2 l0_2.length c0_2, .slice A0_3 l0_3.length c0_3]) (t := 24) ?hr ?_; (case hd => rfl); (case hg => rfl); (case hr => first | (go_simp; done) | (go_simp; rfl)); intro gb101 hg w20 hbox hb; have n0_ := XB (Xz (by repeat (first | (with_reducible first | exact HB.out | apply Xc | apply Xa | apply Xb) | exact HB.out)) hb); have n1_ := XB (hbox); have n2_ := XB ((by rw [hg]; exact (XC (by repeat (first | (with_reducible first | exact HB.out | apply Xc | apply Xa | apply Xb) | exact HB.out))) : w.heap.size ≤ gb101)); have n3_ := XB ((by rw [hg]; exact (XC (by repeat (first | (with_reducible first | exact HB.out | apply Xc | apply Xa | apply Xb) | exact HB.out))) : w.heap.size ≤ gb101)); clear HB; have HB := n0_; have J101 := n1_; have GW101 := n2_; have E101 := n3_; clear n0_ n1_ n2_ n3_; clear hb hbox hg; have hcz21_0 : w20.cell? ⟨gb101, 0, none⟩ = some (.int .i64 a0_0) := (Xi J101.out 0).trans rfl; have hcz21_1 : w20.cell? ⟨gb101, 1, none⟩ = some (.int .i64 a0_1) := (Xi J101.out 1).trans rfl; have hcz21_2 : w20.cell? ⟨gb101, 2, none⟩ = some (.slice A0_2 l0_2.length c0_2) := (Xi J101.out 2).trans rfl; have hcz21_3 : w20.cell? ⟨gb101, 3, none⟩ = some (.slice A0_3 l0_3.length c0_3) := (Xi J101.out 3).trans rfl; have hfz21_0 := Xh J101.out 0; have hfz21_1 := Xh J101.out 1; have hfz21_2 := Xh J101.out 2; have hfz21_3 := Xh J101.out 3) | ((with_reducible refine gate_callee (f := 43) rfl ?_); refine goesL_ (some 12) rfl rfl Try.func43 (by kernel_rfl) rfl #[.agg #[.int .i64 a0_0, .int .i64 a0_1, .slice A0_2 l0_2.length c0_2, .slice A0_3 l0_3.length c0_3]] rfl (by (try simp only [Xm, Xn, Xo]); first | done | rfl | (simp only [Xp, Xq]; rfl)) ?_; (with_reducible refine (diaphoneref03_Validate.calls k a0_0 a0_1 _ _ l0_2 _ _ l0_3 t102 _ ?side1 ?side2 ?side3 ?side4 A3.out).mono ?_); (case side1 => repeat (first | exact (Xu HR0_2.out HB.out) | (with_reducible refine Xr ?_ _) | (with_reducible refine Xs ?_ _) | (with_reducible refine Xt ?_))); (case side2 => exact HC0_2.out); (case side3 => repeat (first | exact (Xu HR0_3.out HB.out) | (with_reducible refine Xr ?_ _) | (with_reducible refine Xs ?_ _) | (with_reducible refine Xt ?_))); (case side4 => exact HC0_3.out); rintro e w22 ⟨rfl, hb⟩; refine ⟨_, rfl, ?_⟩; have n0_ := XB (XA (g := gb101) (o := .cells #[.int .i64 a0_0, .int .i64 a0_1, .slice A0_2 l0_2.length c0_2, .slice A0_3 l0_3.length c0_3] 24 (0, 0)) (by (with_reducible repeat (first | refine Xf ?_ _ | refine Xg ?_ | refine Xe ?_ _)); exact J101.out) hb); have n1_ := XB (Xz (by repeat (first | (with_reducible first | exact HB.out | apply Xc | apply Xa | apply Xb | refine Xd ?_ E101.out) | exact HB.out)) hb); clear J101; clear HB; have J101 := n0_; have HB := n1_; clear n0_ n1_; (try clear hb); (try clear hb2); (try clear hk); (try clear hi)))
  go_ret3
  exact ⟨_, by first | rfl | (simp [errW_none, errW_some] <;> rfl) | (simp [*, errW_none, errW_some] <;> rfl), by first | exact Kd.R_nil _ _ _ _ _ | exact Kd.N_nil _ _ _ _ _ | exact Kd.V_nil _ _ _ _ _ | exact Kd.Q_nil _ _ _ _ _ | exact Kd.S_nil _ _ _ _ _, by repeat (first | (with_reducible first | exact HB.out | apply Xc | apply Xa | apply Xb | refine Xd ?_ E101.out) | exact HB.out)⟩

end Go.Proofs.Ytboefcikdfjfmaa.P
