-- laid by a program of this session (wip/tools): plain functions of the Go code and their contracts
-- thinned
import Derived.Test.YtgndhijhcliegaaPx0
import Derived.Test.YtgndhijhcliegaaPx1
import Derived.Test.YtgndhijhcliegaaPx26
import Derived.Test.YtgndhijhcliegaaPx27
namespace Go.Proofs.Ytgndhijhcliegaa.P
open Go.RowKit Go.Proofs.YtgndhijhcliegaaW.PrintWords Go.Proofs.YtgndhijhcliegaaW.PrintLast Go.Proofs.YtgndhijhcliegaaW.PrintMore
attribute [local go_sem] max2_int min2_int max_two min_two max_three min_three max_four min_four   -- for this text's walks alone
set_option linter.unusedVariables false
set_option linter.unusedSimpArgs false

/-! ### charge_single: function 64 -/
def charge_single.f (k : Nat) (l0 : List Int) : Option (Int) := (charge_Validate.f k l0).bind fun t101 => (if t101 = 0 then ((charge_measure.f k l0).bind fun t102 => (if t102 = 1 then (some 0) else (some 4))) else (some t101))
theorem charge_single.mono : ∀ a0 k, LeO (charge_single.f k a0) (charge_single.f (k + 1) a0) := by
 intro a0 k; unfold charge_single.f; repeat' first
   | (with_reducible exact charge_Validate.mono _ _)
   | (with_reducible exact charge_measure.mono _ _)
   | (with_reducible exact LeO.refl _)
   | (with_reducible exact LeO.none _)
   | (with_reducible refine LeO.ite ?_ ?_)
   | (with_reducible refine LeO.bind ?_ (fun _ => ?_))
   | exact charge_Validate.mono _ _
   | exact charge_measure.mono _ _
   | exact LeO.none _
   | refine LeO.ite ?_ ?_
   | refine LeO.bind ?_ (fun _ => ?_)
set_option maxHeartbeats 8000000 in
set_option maxRecDepth 100000 in
theorem charge_single.calls (k : Nat) (A0 : Option Addr) (c0 : Nat) (l0 : List Int) (r : Int) (w : World) (hr0 : Kd.C (Kd.int .i64) w A0 l0.length l0) (hc0 : l0.length ≤ c0) (h : charge_single.f k l0 = some r) :
  Calls Try.prog 64 #[.slice A0 l0.length c0] w fun e w' => e = .returned (.int .i64 r) ∧ Drawn0 w w' := by
 have HR0 := XB hr0; have HC0 := XB hc0; clear hr0 hc0; have H : ((charge_Validate.f k l0).bind fun t101 => (if t101 = 0 then ((charge_measure.f k l0).bind fun t102 => (if t102 = 1 then (some 0) else (some 4))) else (some t101))) = some r := h; clear h; replace H := Option.bind_eq_some_iff.mp H; obtain ⟨t101, A20, H⟩ := H; replace H : (if t101 = 0 then ((charge_measure.f k l0).bind fun t102 => (if t102 = 1 then (some 0) else (some 4))) else (some t101)) = some r := H; have A2 := XB A20; clear A20; by_cases c3 : t101 = 0
 ·rw [if_pos c3] at H; have c3b0 : (t101 == 0) = true := beq_iff_eq.mpr c3; have c3b1 : (t101 != 0) = false := bne_eq_false_iff_eq.mpr c3; clear c3; replace H := Option.bind_eq_some_iff.mp H; obtain ⟨t102, A40, H⟩ := H; replace H : (if t102 = 1 then (some 0) else (some 4)) = some r := H; have A4 := XB A40; clear A40; by_cases c5 : t102 = 1
  ·rw [if_pos c5] at H; have c5b0 : (t102 == 1) = true := beq_iff_eq.mpr c5; have c5b1 : (t102 != 1) = false := bne_eq_false_iff_eq.mpr c5; clear c5; obtain rfl := Option.some.inj H; go_enter Try.func64, Try.ntmps64
   go_wp2_with (first | ((with_reducible refine gate_callee (f := 46) rfl ?_); refine goesL_ (some 5) rfl rfl Try.func46 (by kernel_rfl) rfl #[.slice A0 l0.length c0] rfl (by (try simp only [Xm, Xn, Xo]); first | done | rfl | (simp only [Xp, Xq]; rfl)) ?_; (with_reducible refine (charge_Validate.calls k _ _ l0 t101 _ ?side1 ?side2 A2.out).mono ?_); (case side1 => repeat (first | exact HR0.out | (with_reducible refine Xr ?_ _) | (with_reducible refine Xs ?_ _) | (with_reducible refine Xt ?_))); (case side2 => exact HC0.out); rintro e w' ⟨rfl, ⟨nd, rfl⟩⟩; refine ⟨_, rfl, ?_⟩) | ((with_reducible refine gate_callee (f := 63) rfl ?_); refine goesL_ (some 10) rfl rfl Try.func63 (by kernel_rfl) rfl #[.slice A0 l0.length c0] rfl (by (try simp only [Xm, Xn, Xo]); first | done | rfl | (simp only [Xp, Xq]; rfl)) ?_; (with_reducible refine (charge_measure.calls k _ _ l0 t102 _ ?side1 ?side2 A4.out).mono ?_); (case side1 => repeat (first | exact HR0.out | (with_reducible refine Xr ?_ _) | (with_reducible refine Xs ?_ _) | (with_reducible refine Xt ?_))); (case side2 => exact HC0.out); rintro e w' ⟨rfl, ⟨nd, rfl⟩⟩; refine ⟨_, rfl, ?_⟩))
   go_ret
   exact ⟨by first | rfl | (simp; done) | (simp [*]; done), by repeat (first | exact Drawn0.refl _ | apply Drawn0.step)⟩
  ·rw [if_neg c5] at H; have c5b0 : (t102 == 1) = false := beq_eq_false_iff_ne.mpr c5; have c5b1 : (t102 != 1) = true := bne_iff_ne.mpr c5; obtain rfl := Option.some.inj H; go_enter Try.func64, Try.ntmps64
   go_wp2_with (first | ((with_reducible refine gate_callee (f := 46) rfl ?_); refine goesL_ (some 5) rfl rfl Try.func46 (by kernel_rfl) rfl #[.slice A0 l0.length c0] rfl (by (try simp only [Xm, Xn, Xo]); first | done | rfl | (simp only [Xp, Xq]; rfl)) ?_; (with_reducible refine (charge_Validate.calls k _ _ l0 t101 _ ?side1 ?side2 A2.out).mono ?_); (case side1 => repeat (first | exact HR0.out | (with_reducible refine Xr ?_ _) | (with_reducible refine Xs ?_ _) | (with_reducible refine Xt ?_))); (case side2 => exact HC0.out); rintro e w' ⟨rfl, ⟨nd, rfl⟩⟩; refine ⟨_, rfl, ?_⟩) | ((with_reducible refine gate_callee (f := 63) rfl ?_); refine goesL_ (some 10) rfl rfl Try.func63 (by kernel_rfl) rfl #[.slice A0 l0.length c0] rfl (by (try simp only [Xm, Xn, Xo]); first | done | rfl | (simp only [Xp, Xq]; rfl)) ?_; (with_reducible refine (charge_measure.calls k _ _ l0 t102 _ ?side1 ?side2 A4.out).mono ?_); (case side1 => repeat (first | exact HR0.out | (with_reducible refine Xr ?_ _) | (with_reducible refine Xs ?_ _) | (with_reducible refine Xt ?_))); (case side2 => exact HC0.out); rintro e w' ⟨rfl, ⟨nd, rfl⟩⟩; refine ⟨_, rfl, ?_⟩))
   go_ret
   exact ⟨by first | rfl | (simp; done) | (simp [*]; done), by repeat (first | exact Drawn0.refl _ | apply Drawn0.step)⟩
 ·rw [if_neg c3] at H; have c3b0 : (t101 == 0) = false := beq_eq_false_iff_ne.mpr c3; have c3b1 : (t101 != 0) = true := bne_iff_ne.mpr c3; obtain rfl := Option.some.inj H; go_enter Try.func64, Try.ntmps64
  go_wp2_with (first | ((with_reducible refine gate_callee (f := 46) rfl ?_); refine goesL_ (some 5) rfl rfl Try.func46 (by kernel_rfl) rfl #[.slice A0 l0.length c0] rfl (by (try simp only [Xm, Xn, Xo]); first | done | rfl | (simp only [Xp, Xq]; rfl)) ?_; (with_reducible refine (charge_Validate.calls k _ _ l0 t101 _ ?side1 ?side2 A2.out).mono ?_); (case side1 => repeat (first | exact HR0.out | (with_reducible refine Xr ?_ _) | (with_reducible refine Xs ?_ _) | (with_reducible refine Xt ?_))); (case side2 => exact HC0.out); rintro e w' ⟨rfl, ⟨nd, rfl⟩⟩; refine ⟨_, rfl, ?_⟩))
  go_ret
  exact ⟨by first | rfl | (simp; done) | (simp [*]; done), by repeat (first | exact Drawn0.refl _ | apply Drawn0.step)⟩

/-! ### charge_gaps: function 65 -/
def charge_gaps.f (k : Nat) (l0 : List Int) : Option (List Int) := (charge_fill.f k l0 900).bind fun t => (if 900 < t.1.length then (some (charge_where.fl (fun n => !decide (rd t.1 n ≥ 0)) 901)) else none)
theorem charge_gaps.mono : ∀ a0 k, LeO (charge_gaps.f k a0) (charge_gaps.f (k + 1) a0) := by
 intro a0 k; unfold charge_gaps.f; exact LeO.bind (charge_fill.mono _ _ _) (fun _ => LeO.refl _)
set_option maxHeartbeats 8000000 in
set_option maxRecDepth 100000 in
theorem charge_gaps.lit_calls (g2 : Nat) (A1 : Option Addr) (c1 : Nat) (l1 : List Int) (A2 : Option Addr) (c2 : Nat) (l2 : List Int) (x : Int) (r : Bool) (w : World)
  (hblk : w.heap[g2]? = some (.cells #[.func (.func 58) #[.agg #[.slice A1 l1.length c1, .slice A2 l2.length c2]] #[]] 52 (0, 0)))
  (hr1 : Kd.C (Kd.int .i64) w A1 l1.length l1) (hc1 : l1.length ≤ c1) (hr2 : Kd.C (Kd.int .i64) w A2 l2.length l2) (hc2 : l2.length ≤ c2) (h : charge_table_can.f l1 l2 x = some r) :
  Calls Try.prog 82 #[.int .i64 x, .pointer (some ⟨g2, 0, none⟩)] w fun e w' => e = .returned (.bool (!r)) ∧ Below w.heap.size w w' := by
 have BK := XB hblk; have HR1 := XB hr1; have HC1 := XB hc1; have HR2 := XB hr2; have HC2 := XB hc2; have HH := XB h; clear hblk hr1 hc1 hr2 hc2 h; have hcz : w.cell? ⟨g2, 0, none⟩ = some (.func (.func 58) #[.agg #[.slice A1 l1.length c1, .slice A2 l2.length c2]] #[]) := (Xi BK.out 0).trans rfl; have hfz := Xh BK.out 0; go_enter Try.func82, Try.ntmps82
 go_wp2_with ((with_reducible refine Go.Proofs.YtgndhijhcliegaaW.PrintHand.gate_calleeT (t := 4) rfl ?_); refine charge_where.goesC_ (t := 4) (some 6) rfl rfl Try.func58 (by kernel_rfl) rfl #[.agg #[.slice A1 l1.length c1, .slice A2 l2.length c2]] #[] #[.agg #[.slice A1 l1.length c1, .slice A2 l2.length c2], .int .i64 x] rfl rfl (by (try simp only [Xm, Xn, Xo]); first | done | rfl) ?_; (refine (charge_table_can.calls _ _ l1 _ _ l2 x r _ HR1.out HC1.out HR2.out HC2.out HH.out).mono ?_); rintro e w5 ⟨rfl, hb⟩; refine ⟨_, rfl, ?_⟩; have HB := XB hb; clear hb)
 go_ret
 exact ⟨rfl, HB.out⟩
set_option maxHeartbeats 8000000 in
set_option maxRecDepth 100000 in
theorem charge_gaps.calls (k : Nat) (A0 : Option Addr) (c0 : Nat) (l0 : List Int) (r : List Int) (w : World) (hr0 : Kd.C (Kd.int .i64) w A0 l0.length l0) (hc0 : l0.length ≤ c0) (h : charge_gaps.f k l0 = some r) :
  Calls Try.prog 65 #[.slice A0 l0.length c0] w fun e w' => ∃ v0_ : Value, e = .returned (v0_) ∧ Kd.R (Kd.int .i64) 3 w' w.heap.size (fun _ => True) v0_ r ∧ Below w.heap.size w w' := by
 have hu50 := Try.underlying50; have HR0 := XB hr0; have HC0 := XB hc0; clear hr0 hc0; have HB := XB (Below.refl w.heap.size w); have H : ((charge_fill.f k l0 900).bind fun t => (if 900 < t.1.length then (some (charge_where.fl (fun n => !decide (rd t.1 n ≥ 0)) 901)) else none)) = some r := h; clear h; obtain ⟨⟨t102, t105⟩, A50, H⟩ := Option.bind_eq_some_iff.mp H; have A5 := XB A50; clear A50; replace H : (if 900 < t102.length then (some (charge_where.fl (fun n => !decide (rd t102 n ≥ 0)) 901)) else none) = some r := H; by_cases c : 900 < t102.length
 ·rw [if_pos c] at H; have HL := XB c; clear c; have HE := XB (Option.some.inj H); clear H; go_enter Try.func65, Try.ntmps65
  go_wp2_with (first
   | ((with_reducible refine gate_callee (f := 57) rfl ?_); refine goesL_ (some 6) rfl rfl Try.func57 (by kernel_rfl) rfl #[.slice A0 l0.length c0, .int .i64 900] rfl (by (try simp only [Xm, Xn, Xo]); first | done | rfl) ?_; (with_reducible refine (charge_fill.calls k _ _ l0 900 t102 t105 _ ?side1 ?side2 A5.out).mono ?_); (case side1 => exact HR0.out); (case side2 => exact HC0.out); rintro e w10 ⟨v103, v106, rfl, ho0, ho1, hb⟩; refine ⟨_, rfl, ?_⟩; have HO104 := XB ho0; have HO107 := XB ho1; have n2_ := XB (Xz HB.out hb); clear HB; have HB := n2_; clear n2_ hb ho0 ho1)
   | ((with_reducible refine gate_dst (N := 3) rfl ?_); refine box_event ?hg (N := 3) ?hd (cs := #[.slice none 0 0, .slice none 0 0]) (t := 50) ?hr ?_; (case hd => rfl); (case hg => rfl); (case hr => first | (go_simp; done) | (go_simp; rfl)); intro gb108 hg w11 hbox hb; have n0_ := XB (Xy HO104.out hb); have n1_ := XB (Xy HO107.out hb); have n2_ := XB (Xz HB.out hb); have n3_ := XB hbox; have n5_ := XB ((by rw [hg]; exact (XC HB.out)) : w.heap.size ≤ gb108); clear HO104; clear HO107; clear HB; have HO104 := n0_; have HO107 := n1_; have HB := n2_; have J108 := n3_; have E108 := n5_; clear n0_ n1_ n2_ n3_ n5_; clear hb hbox hg; obtain ⟨Ao12, co12, eo12⟩ := Kd.R_slice HO104.out; subst eo12; have hcz13_0 : w11.cell? ⟨gb108, 0, none⟩ = some (.slice none 0 0) := (Xi J108.out 0).trans rfl; have hcz13_1 : w11.cell? ⟨gb108, 1, none⟩ = some (.slice none 0 0) := (Xi J108.out 1).trans rfl; have hfz13_0 := Xh J108.out 0; have hfz13_1 := Xh J108.out 1; obtain ⟨Ao14, co14, eo14⟩ := Kd.R_slice HO107.out; subst eo14)
   | ((with_reducible refine gate_dst (N := 4) rfl ?_); refine box_event ?hg (N := 4) ?hd (cs := #[.nilFunc]) (t := 52) ?hr ?_; (case hd => rfl); (case hg => rfl); (case hr => first | (go_simp; done) | (go_simp; rfl)); intro gb2 hg w12 hbox hb;
         have n0_ := XB (Xy (Kd.R_mono (ok' := fun k_ => some k_ ≠ (.slice Ao14 t105.length co14 : Value).ownBlock) (Kd.R_far (p := ⟨gb108, 1, none⟩) (Kd.R_far (p := ⟨gb108, 0, none⟩) (Kd.R_types HO104.out J108.out (by decide)) (fun _ hk => hk.2) (.slice Ao12 t102.length co12)) (fun _ hk => hk.2) (.slice Ao14 t105.length co14)) (fun _ h_ => h_.1)) hb);
         have n1_ := XB (Xy (Kd.R_mono (ok' := fun k_ => some k_ ≠ (.slice Ao12 t102.length co12 : Value).ownBlock) (Kd.R_far (p := ⟨gb108, 1, none⟩) (Kd.R_far (p := ⟨gb108, 0, none⟩) (Kd.R_types HO107.out J108.out (by decide)) (fun _ hk => hk.2) (.slice Ao12 t102.length co12)) (fun _ hk => hk.2) (.slice Ao14 t105.length co14)) (fun _ h_ => h_.1)) hb);
         have n2_ := XB (Xz (Xd (Xd HB.out E108.out) E108.out) hb); have n3_ := XB hbox; have n5_ := XB ((by rw [hg]; exact (XC (Xd (Xd HB.out E108.out) E108.out))) : w.heap.size ≤ gb2);
         clear HO104 HO107 HB; have HO104 := n0_; have HO107 := n1_; have HB := n2_; have J2 := n3_; have E2 := n5_; clear n0_ n1_ n2_ n3_ n5_; clear hb hbox hg; have hcz14 : w12.cell? ⟨gb2, 0, none⟩ = some .nilFunc := (Xi J2.out 0).trans rfl; have hfz14 := Xh J2.out 0)
   | ((with_reducible refine gate_callee (f := 60) rfl ?_); refine goesL_ (some 10) rfl rfl Try.func60 (by kernel_rfl) rfl #[.int .i64 900, .func (.func 82) #[] #[.pointer (some ⟨gb2, 0, none⟩)]] rfl (by (try simp only [Xm, Xn, Xo]); first | done | rfl) ?_;
         have n0_ := XB (Kd.R_far (p := ⟨gb2, 0, none⟩) (Kd.R_types HO104.out J2.out (by decide)) (fun _ hk => hk.2) (.func (.func 58) #[.agg #[.slice Ao12 t102.length co12, .slice Ao14 t105.length co14]] #[]));
         have n1_ := XB (Kd.R_far (p := ⟨gb2, 0, none⟩) (Kd.R_types HO107.out J2.out (by decide)) (fun _ hk => hk.2) (.func (.func 58) #[.agg #[.slice Ao12 t102.length co12, .slice Ao14 t105.length co14]] #[]));
         have n2_ := XB (Xd HB.out E2.out (v := .func (.func 58) #[.agg #[.slice Ao12 t102.length co12, .slice Ao14 t105.length co14]] #[]) (j := 0));
         have n3_ := XB (blk_put (cs := #[.nilFunc]) J2.out 0 (.func (.func 58) #[.agg #[.slice Ao12 t102.length co12, .slice Ao14 t105.length co14]] #[]) rfl);
         clear HO104 HO107 HB J2; have HO104 := n0_; have HO107 := n1_; have HB := n2_; have J2 := n3_; clear n0_ n1_ n2_ n3_;
         (refine (charge_where.calls_ 82 _ #[] #[.pointer (some ⟨gb2, 0, none⟩)] (fun n => !decide (rd t102 n ≥ 0)) 900 _ (by omega) Try.func82 (by kernel_rfl) rfl ?hp).mono ?_);
         (case hp => intro W x hx hb; exact charge_gaps.lit_calls gb2 Ao12 co12 t102 Ao14 co14 t105 x (decide (rd t102 x ≥ 0)) W ((hb.block _ (blk_lt J2.out)).trans J2.out) (Xu (XD HO104.out).2.2 hb) (XD HO104.out).2.1 (Xu (XD HO107.out).2.2 hb) (XD HO107.out).2.1 (by have := HL.out; unfold charge_table_can.f; rw [if_pos (by omega), if_pos (by omega)]));
         rintro e w20 ⟨v20, rfl, ho, hb⟩; refine ⟨_, rfl, ?_⟩; have HO := XB (Kd.R_lower ho (XC HB.out)); have HB2 := XB (Xz HB.out hb); clear ho hb))
  go_ret
  exact ⟨_, rfl, by rw [← HE.out]; exact HO.out, HB2.out⟩
 ·rw [if_neg c] at H; exact absurd H (by simp)


/-! ### charge_Gaps: function 26 -/
def charge_Gaps.f (k : Nat) (l0 : List Int) : Option (List Int × Int) := (charge_single.f k l0).bind fun t101 => (if t101 = 0 then ((charge_gaps.f k l0).bind fun t102 => (some (t102, 0))) else (some (([] : List Int), t101)))
theorem charge_Gaps.mono : ∀ a0 k, LeO (charge_Gaps.f k a0) (charge_Gaps.f (k + 1) a0) := by
 intro a0 k; unfold charge_Gaps.f; repeat' first
   | (with_reducible exact charge_gaps.mono _ _)
   | (with_reducible exact charge_single.mono _ _)
   | (with_reducible exact LeO.refl _)
   | (with_reducible exact LeO.none _)
   | (with_reducible refine LeO.ite ?_ ?_)
   | (with_reducible refine LeO.bind ?_ (fun _ => ?_))
   | exact charge_gaps.mono _ _
   | exact charge_single.mono _ _
   | exact LeO.none _
   | refine LeO.ite ?_ ?_
   | refine LeO.bind ?_ (fun _ => ?_)
set_option maxHeartbeats 8000000 in
set_option maxRecDepth 100000 in
theorem charge_Gaps.calls (k : Nat) (A0 : Option Addr) (c0 : Nat) (l0 : List Int) (r1 : List Int) (r2 : Int) (w : World) (hr0 : Kd.C (Kd.int .i64) w A0 l0.length l0) (hc0 : l0.length ≤ c0) (h : charge_Gaps.f k l0 = some (r1, r2)) :
  Calls Try.prog 26 #[.slice A0 l0.length c0] w fun e w' => ∃ v0_ : Value, e = .returned (.tuple #[v0_, .int .i64 r2]) ∧ Kd.R (Kd.int .i64) 3 w' w.heap.size (fun _ => True) v0_ r1 ∧ Below w.heap.size w w' := by
 have HR0 := XB hr0; have HC0 := XB hc0; clear hr0 hc0; have HB := XB (Below.refl w.heap.size w); have H : ((charge_single.f k l0).bind fun t101 => (if t101 = 0 then ((charge_gaps.f k l0).bind fun t102 => (some (t102, 0))) else (some (([] : List Int), t101)))) = some (r1, r2) := h; clear h; replace H := Option.bind_eq_some_iff.mp H; obtain ⟨t101, A20, H⟩ := H; replace H : (if t101 = 0 then ((charge_gaps.f k l0).bind fun t102 => (some (t102, 0))) else (some (([] : List Int), t101))) = some (r1, r2) := H; have A2 := XB A20; clear A20; by_cases c3 : t101 = 0
 ·rw [if_pos c3] at H; have c3b0 : (t101 == 0) = true := beq_iff_eq.mpr c3; have c3b1 : (t101 != 0) = false := bne_eq_false_iff_eq.mpr c3; clear c3; replace H := Option.bind_eq_some_iff.mp H; obtain ⟨t102, A40, H⟩ := H; replace H : (some (t102, 0)) = some (r1, r2) := H; have A4 := XB A40; clear A40; simp only [Option.some.injEq, Prod.mk.injEq] at H; obtain ⟨rfl, rfl⟩ := H; go_enter Try.func26, Try.ntmps26
  go_wp2_with (first | ((with_reducible refine gate_callee (f := 64) rfl ?_); refine goesL_ (some 6) rfl rfl Try.func64 (by kernel_rfl) rfl #[.slice A0 l0.length c0] rfl (by (try simp only [Xm, Xn, Xo]); first | done | rfl | (simp only [Xp, Xq]; rfl)) ?_; (with_reducible refine (charge_single.calls k _ _ l0 t101 _ ?side1 ?side2 A2.out).mono ?_); (case side1 => repeat (first | exact HR0.out | (with_reducible refine Xr ?_ _) | (with_reducible refine Xs ?_ _) | (with_reducible refine Xt ?_))); (case side2 => exact HC0.out); rintro e w' ⟨rfl, ⟨nd, rfl⟩⟩; refine ⟨_, rfl, ?_⟩) | ((with_reducible refine gate_callee (f := 65) rfl ?_); refine goesL_ (some 11) rfl rfl Try.func65 (by kernel_rfl) rfl #[.slice A0 l0.length c0] rfl (by (try simp only [Xm, Xn, Xo]); first | done | rfl | (simp only [Xp, Xq]; rfl)) ?_; (with_reducible refine (charge_gaps.calls k _ _ l0 t102 _ ?side1 ?side2 A4.out).mono ?_); (case side1 => repeat (first | exact HR0.out | (with_reducible refine Xr ?_ _) | (with_reducible refine Xs ?_ _) | (with_reducible refine Xt ?_))); (case side2 => exact HC0.out); rintro e w5 ⟨v103, rfl, ho0, hb⟩; refine ⟨_, rfl, ?_⟩; have n0_ := XB (Kd.R_lower ho0 (XC (by repeat (first | (with_reducible first | exact HB.out | apply Xc | apply Xa | apply Xb) | exact HB.out)))); have n1_ := XB (Xz (by repeat (first | (with_reducible first | exact HB.out | apply Xc | apply Xa | apply Xb) | exact HB.out)) hb); clear HB; have HO104 := n0_; have HB := n1_; clear n0_ n1_; (try clear hb); (try clear hb2); (try clear hk); (try clear hi); (try clear ho0)))
  go_ret2
  exact ⟨_, by first | rfl | (simp [errW_none, errW_some] <;> rfl) | (simp [*, errW_none, errW_some] <;> rfl), by (with_reducible repeat (first | apply Xv | apply Xw | apply Xx)); exact HO104.out, by repeat (first | (with_reducible first | exact HB.out | apply Xc | apply Xa | apply Xb) | exact HB.out)⟩
 ·rw [if_neg c3] at H; have c3b0 : (t101 == 0) = false := beq_eq_false_iff_ne.mpr c3; have c3b1 : (t101 != 0) = true := bne_iff_ne.mpr c3; simp only [Option.some.injEq, Prod.mk.injEq] at H; obtain ⟨rfl, rfl⟩ := H; go_enter Try.func26, Try.ntmps26
  go_wp2_with (first | ((with_reducible refine gate_callee (f := 64) rfl ?_); refine goesL_ (some 6) rfl rfl Try.func64 (by kernel_rfl) rfl #[.slice A0 l0.length c0] rfl (by (try simp only [Xm, Xn, Xo]); first | done | rfl | (simp only [Xp, Xq]; rfl)) ?_; (with_reducible refine (charge_single.calls k _ _ l0 t101 _ ?side1 ?side2 A2.out).mono ?_); (case side1 => repeat (first | exact HR0.out | (with_reducible refine Xr ?_ _) | (with_reducible refine Xs ?_ _) | (with_reducible refine Xt ?_))); (case side2 => exact HC0.out); rintro e w' ⟨rfl, ⟨nd, rfl⟩⟩; refine ⟨_, rfl, ?_⟩))
  go_ret2
  exact ⟨_, by first | rfl | (simp [errW_none, errW_some] <;> rfl) | (simp [*, errW_none, errW_some] <;> rfl), by first | exact Kd.R_nil _ _ _ _ _ | exact Kd.N_nil _ _ _ _ _ | exact Kd.V_nil _ _ _ _ _ | exact Kd.Q_nil _ _ _ _ _ | exact Kd.S_nil _ _ _ _ _, by repeat (first | (with_reducible first | exact HB.out | apply Xc | apply Xa | apply Xb) | exact HB.out)⟩

end Go.Proofs.Ytgndhijhcliegaa.P
