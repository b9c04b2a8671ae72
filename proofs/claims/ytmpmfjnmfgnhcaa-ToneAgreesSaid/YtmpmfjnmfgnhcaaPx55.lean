-- laid by a program of this session (wip/tools): plain functions of the Go code and their contracts
import Derived.Test.YtmpmfjnmfgnhcaaPx0
import Derived.Test.YtmpmfjnmfgnhcaaPx1
import Derived.Test.YtmpmfjnmfgnhcaaPx23
import Derived.Test.YtmpmfjnmfgnhcaaPx36
import Derived.Test.YtmpmfjnmfgnhcaaPx39
import Derived.Test.YtmpmfjnmfgnhcaaPx54
namespace Go.Proofs.Ytmpmfjnmfgnhcaa.P
open Go.RowKit Go.Proofs.YtmpmfjnmfgnhcaaW.PrintWords Go.Proofs.YtmpmfjnmfgnhcaaW.PrintLast Go.Proofs.YtmpmfjnmfgnhcaaW.PrintMore
attribute [local go_sem] max2_int min2_int max_two min_two max_three min_three max_four min_four   -- for this text's walks alone
set_option linter.unusedVariables false
set_option linter.unusedSimpArgs false

/-! ### diaphonelaw01_ToneAgrees: function 12 -/
mutual
def diaphonelaw01_ToneAgrees.j0 : Nat → List Int → List Int → Bool → Option (Bool)
  | 0, _, _, _ => none
  | k + 1, x0, x1, x27 => if x27 = true then ((diaphonelaw01_known.f k).bind fun t103 => (some t103)) else ((tone_Agree.f k x0 x1).bind fun bt104 => ((diaphoneref01_Agree.f k x0 x1).bind fun bt107 => ((tone_Listen.f k x0 x1).bind fun bt110 => ((diaphoneref01_Listen.f k x0 x1).bind fun bt113 => (if bt104.1 = bt107.1 then (if (bt104.2.1 != bt107.2.1) = true then (diaphonelaw01_ToneAgrees.j1 k x0 x1 bt104.1 bt104.2.1 bt104.2.2 bt110.1 bt110.2.1 true) else (if bt104.2.2 = bt107.2.2 then (if bt110.1 = bt113.1 then (if (bt110.2.1 != bt113.2.1) = true then (diaphonelaw01_ToneAgrees.j1 k x0 x1 bt104.1 bt104.2.1 bt104.2.2 bt110.1 bt110.2.1 true) else (diaphonelaw01_ToneAgrees.j1 k x0 x1 bt104.1 bt104.2.1 bt104.2.2 bt110.1 bt110.2.1 (bt110.2.2 != bt113.2.2))) else (diaphonelaw01_ToneAgrees.j1 k x0 x1 bt104.1 bt104.2.1 bt104.2.2 bt110.1 bt110.2.1 true)) else (diaphonelaw01_ToneAgrees.j1 k x0 x1 bt104.1 bt104.2.1 bt104.2.2 bt110.1 bt110.2.1 true))) else (diaphonelaw01_ToneAgrees.j1 k x0 x1 bt104.1 bt104.2.1 bt104.2.2 bt110.1 bt110.2.1 true))))))
def diaphonelaw01_ToneAgrees.j1 : Nat → List Int → List Int → Int → Bool → Int → Int → Bool → Bool → Option (Bool)
  | 0, _, _, _, _, _, _, _, _ => none
  | k + 1, x0, x1, x5, x6, x7, x11, x12, x84 => if x84 = true then (some false) else ((tone_Period.f k x0).bind fun bt116 => ((tone_Period.f k x1).bind fun bt118 => (if x7 = 0 then (if bt116.2 = 0 then (if bt118.2 = 0 then (if bt116.1 < 1 then (diaphonelaw01_ToneAgrees.j2 k x5 x6 x11 x12 bt116.1 bt118.1 true) else (diaphonelaw01_ToneAgrees.j2 k x5 x6 x11 x12 bt116.1 bt118.1 (decide (bt118.1 < 1)))) else (diaphonelaw01_ToneAgrees.j2 k x5 x6 x11 x12 bt116.1 bt118.1 true)) else (diaphonelaw01_ToneAgrees.j2 k x5 x6 x11 x12 bt116.1 bt118.1 true)) else ((diaphonelaw01_known.f k).bind fun t120 => (some t120)))))
def diaphonelaw01_ToneAgrees.j2 : Nat → Int → Bool → Int → Bool → Int → Int → Bool → Option (Bool)
  | 0, _, _, _, _, _, _, _ => none
  | k + 1, x5, x6, x11, x12, x17, x19, x111 => if x111 = true then (some false) else ((diaphoneref01_Gcd.f k x17 x19).bind fun t121 => (if x6 = true then (if x5 < (wrap64 ((wrap64 (x17 + x19)) - t121)) then (if x12 = true then (if x11 ≤ (wrap64 ((wrap64 (x17 + x19)) - t121)) then ((diaphonelaw01_known.f k).bind fun t122 => (some t122)) else (some false)) else ((diaphonelaw01_known.f k).bind fun t123 => (some t123))) else (some false)) else (if x12 = true then (if x11 ≤ (wrap64 ((wrap64 (x17 + x19)) - t121)) then ((diaphonelaw01_known.f k).bind fun t124 => (some t124)) else (some false)) else ((diaphonelaw01_known.f k).bind fun t125 => (some t125)))))
end
def diaphonelaw01_ToneAgrees.f (k : Nat) (l0 : List Int) (l1 : List Int) : Option (Bool) := (diaphonelaw01_Long.f l0).bind fun t101 => (if t101 = true then (diaphonelaw01_ToneAgrees.j0 k l0 l1 true) else ((diaphonelaw01_Long.f l1).bind fun t102 => (diaphonelaw01_ToneAgrees.j0 k l0 l1 t102)))
theorem diaphonelaw01_ToneAgrees.mono_l : ∀ k, (∀ y0 y1 y2, LeO (diaphonelaw01_ToneAgrees.j0 k y0 y1 y2) (diaphonelaw01_ToneAgrees.j0 (k + 1) y0 y1 y2)) ∧ (∀ y0 y1 y2 y3 y4 y5 y6 y7, LeO (diaphonelaw01_ToneAgrees.j1 k y0 y1 y2 y3 y4 y5 y6 y7) (diaphonelaw01_ToneAgrees.j1 (k + 1) y0 y1 y2 y3 y4 y5 y6 y7)) ∧ (∀ y0 y1 y2 y3 y4 y5 y6, LeO (diaphonelaw01_ToneAgrees.j2 k y0 y1 y2 y3 y4 y5 y6) (diaphonelaw01_ToneAgrees.j2 (k + 1) y0 y1 y2 y3 y4 y5 y6))
  | 0 => ⟨fun _ _ _ r h => by simp [diaphonelaw01_ToneAgrees.j0] at h, fun _ _ _ _ _ _ _ _ r h => by simp [diaphonelaw01_ToneAgrees.j1] at h, fun _ _ _ _ _ _ _ r h => by simp [diaphonelaw01_ToneAgrees.j2] at h⟩
  | k + 1 => by
    obtain ⟨ih0, ih1, ih2⟩ := diaphonelaw01_ToneAgrees.mono_l k
    refine ⟨?_, ?_, ?_⟩
    · intro y0 y1 y2
      unfold diaphonelaw01_ToneAgrees.j0
      repeat' first
      | (with_reducible exact ih0 _ _ _)
      | (with_reducible exact ih1 _ _ _ _ _ _ _ _)
      | (with_reducible exact ih2 _ _ _ _ _ _ _)
      | (with_reducible exact diaphonelaw01_known.mono _)
      | (with_reducible exact diaphoneref01_Agree.mono _ _ _)
      | (with_reducible exact diaphoneref01_Gcd.mono _ _ _)
      | (with_reducible exact diaphoneref01_Listen.mono _ _ _)
      | (with_reducible exact tone_Agree.mono _ _ _)
      | (with_reducible exact tone_Listen.mono _ _ _)
      | (with_reducible exact tone_Period.mono _ _)
      | (with_reducible exact LeO.refl _)
      | (with_reducible exact LeO.none _)
      | (with_reducible refine LeO.ite ?_ ?_)
      | (with_reducible refine LeO.bind ?_ (fun _ => ?_))
      | exact ih0 _ _ _
      | exact ih1 _ _ _ _ _ _ _ _
      | exact ih2 _ _ _ _ _ _ _
      | exact diaphonelaw01_known.mono _
      | exact diaphoneref01_Agree.mono _ _ _
      | exact diaphoneref01_Gcd.mono _ _ _
      | exact diaphoneref01_Listen.mono _ _ _
      | exact tone_Agree.mono _ _ _
      | exact tone_Listen.mono _ _ _
      | exact tone_Period.mono _ _
      | exact LeO.none _
      | refine LeO.ite ?_ ?_
      | refine LeO.bind ?_ (fun _ => ?_)
    · intro y0 y1 y2 y3 y4 y5 y6 y7
      unfold diaphonelaw01_ToneAgrees.j1
      repeat' first
      | (with_reducible exact ih0 _ _ _)
      | (with_reducible exact ih1 _ _ _ _ _ _ _ _)
      | (with_reducible exact ih2 _ _ _ _ _ _ _)
      | (with_reducible exact diaphonelaw01_known.mono _)
      | (with_reducible exact diaphoneref01_Agree.mono _ _ _)
      | (with_reducible exact diaphoneref01_Gcd.mono _ _ _)
      | (with_reducible exact diaphoneref01_Listen.mono _ _ _)
      | (with_reducible exact tone_Agree.mono _ _ _)
      | (with_reducible exact tone_Listen.mono _ _ _)
      | (with_reducible exact tone_Period.mono _ _)
      | (with_reducible exact LeO.refl _)
      | (with_reducible exact LeO.none _)
      | (with_reducible refine LeO.ite ?_ ?_)
      | (with_reducible refine LeO.bind ?_ (fun _ => ?_))
      | exact ih0 _ _ _
      | exact ih1 _ _ _ _ _ _ _ _
      | exact ih2 _ _ _ _ _ _ _
      | exact diaphonelaw01_known.mono _
      | exact diaphoneref01_Agree.mono _ _ _
      | exact diaphoneref01_Gcd.mono _ _ _
      | exact diaphoneref01_Listen.mono _ _ _
      | exact tone_Agree.mono _ _ _
      | exact tone_Listen.mono _ _ _
      | exact tone_Period.mono _ _
      | exact LeO.none _
      | refine LeO.ite ?_ ?_
      | refine LeO.bind ?_ (fun _ => ?_)
    · intro y0 y1 y2 y3 y4 y5 y6
      unfold diaphonelaw01_ToneAgrees.j2
      repeat' first
      | (with_reducible exact ih0 _ _ _)
      | (with_reducible exact ih1 _ _ _ _ _ _ _ _)
      | (with_reducible exact ih2 _ _ _ _ _ _ _)
      | (with_reducible exact diaphonelaw01_known.mono _)
      | (with_reducible exact diaphoneref01_Agree.mono _ _ _)
      | (with_reducible exact diaphoneref01_Gcd.mono _ _ _)
      | (with_reducible exact diaphoneref01_Listen.mono _ _ _)
      | (with_reducible exact tone_Agree.mono _ _ _)
      | (with_reducible exact tone_Listen.mono _ _ _)
      | (with_reducible exact tone_Period.mono _ _)
      | (with_reducible exact LeO.refl _)
      | (with_reducible exact LeO.none _)
      | (with_reducible refine LeO.ite ?_ ?_)
      | (with_reducible refine LeO.bind ?_ (fun _ => ?_))
      | exact ih0 _ _ _
      | exact ih1 _ _ _ _ _ _ _ _
      | exact ih2 _ _ _ _ _ _ _
      | exact diaphonelaw01_known.mono _
      | exact diaphoneref01_Agree.mono _ _ _
      | exact diaphoneref01_Gcd.mono _ _ _
      | exact diaphoneref01_Listen.mono _ _ _
      | exact tone_Agree.mono _ _ _
      | exact tone_Listen.mono _ _ _
      | exact tone_Period.mono _ _
      | exact LeO.none _
      | refine LeO.ite ?_ ?_
      | refine LeO.bind ?_ (fun _ => ?_)
theorem diaphonelaw01_ToneAgrees.mono : ∀ a0 a1 k, LeO (diaphonelaw01_ToneAgrees.f k a0 a1) (diaphonelaw01_ToneAgrees.f (k + 1) a0 a1) := by
  intro a0 a1 k
  obtain ⟨ih0, ih1, ih2⟩ := diaphonelaw01_ToneAgrees.mono_l k
  unfold diaphonelaw01_ToneAgrees.f
  repeat' first
      | (with_reducible exact ih0 _ _ _)
      | (with_reducible exact ih1 _ _ _ _ _ _ _ _)
      | (with_reducible exact ih2 _ _ _ _ _ _ _)
      | (with_reducible exact diaphonelaw01_known.mono _)
      | (with_reducible exact diaphoneref01_Agree.mono _ _ _)
      | (with_reducible exact diaphoneref01_Gcd.mono _ _ _)
      | (with_reducible exact diaphoneref01_Listen.mono _ _ _)
      | (with_reducible exact tone_Agree.mono _ _ _)
      | (with_reducible exact tone_Listen.mono _ _ _)
      | (with_reducible exact tone_Period.mono _ _)
      | (with_reducible exact LeO.refl _)
      | (with_reducible exact LeO.none _)
      | (with_reducible refine LeO.ite ?_ ?_)
      | (with_reducible refine LeO.bind ?_ (fun _ => ?_))
      | exact ih0 _ _ _
      | exact ih1 _ _ _ _ _ _ _ _
      | exact ih2 _ _ _ _ _ _ _
      | exact diaphonelaw01_known.mono _
      | exact diaphoneref01_Agree.mono _ _ _
      | exact diaphoneref01_Gcd.mono _ _ _
      | exact diaphoneref01_Listen.mono _ _ _
      | exact tone_Agree.mono _ _ _
      | exact tone_Listen.mono _ _ _
      | exact tone_Period.mono _ _
      | exact LeO.none _
      | refine LeO.ite ?_ ?_
      | refine LeO.bind ?_ (fun _ => ?_)
set_option maxHeartbeats 8000000 in
set_option maxRecDepth 100000 in
theorem diaphonelaw01_ToneAgrees.calls (k : Nat) (A0 : Option Addr) (c0 : Nat) (l0 : List Int) (A1 : Option Addr) (c1 : Nat) (l1 : List Int) (r : Bool) (w : World) (hr0 : Kd.C (Kd.int .i64) w A0 l0.length l0) (hc0 : l0.length ≤ c0) (hr1 : Kd.C (Kd.int .i64) w A1 l1.length l1) (hc1 : l1.length ≤ c1) (h : diaphonelaw01_ToneAgrees.f k l0 l1 = some r) :
    Calls Try.prog 12 #[.slice A0 l0.length c0, .slice A1 l1.length c1] w fun e w' => e = .returned (.bool r) ∧ Below w.heap.size w w' := by
  have HR0 := Aside0.mk hr0
  have HC0 := Aside0.mk hc0
  clear hr0 hc0
  have HR1 := Aside0.mk hr1
  have HC1 := Aside0.mk hc1
  clear hr1 hc1
  have HB := Aside0.mk (Below.refl w.heap.size w)
  have H : ((diaphonelaw01_Long.f l0).bind fun t101 => (if t101 = true then (diaphonelaw01_ToneAgrees.j0 k l0 l1 true) else ((diaphonelaw01_Long.f l1).bind fun t102 => (diaphonelaw01_ToneAgrees.j0 k l0 l1 t102)))) = some r := h
  clear h
  have HC3 := Aside0.mk H
  clear H
  go_enter Try.func12, Try.ntmps12
  go_upto_region 1 with (fail)
  go_cut [27] (fun v27 wc => ∃ (kq : Nat) (x27_2 : Bool), v27 = .bool x27_2 ∧ Aside0 (diaphonelaw01_ToneAgrees.j0 kq l0 l1 x27_2 = some r) ∧ Aside0 (kq ≤ k) ∧ Aside0 (Below w.heap.size w wc))
  case first =>
    have H := HC3.out
    clear HC3
    replace H := Option.bind_eq_some_iff.mp H
    obtain ⟨t101, A40, H⟩ := H
    replace H : (if t101 = true then (diaphonelaw01_ToneAgrees.j0 k l0 l1 true) else ((diaphonelaw01_Long.f l1).bind fun t102 => (diaphonelaw01_ToneAgrees.j0 k l0 l1 t102))) = some r := H
    have A4 := Aside0.mk A40
    clear A40
    by_cases c5 : t101 = true
    · subst c5
      have H1 : (diaphonelaw01_ToneAgrees.j0 k l0 l1 true) = some r := by rw [if_pos rfl] at H; exact H
      clear H
      have H := H1
      clear H1
      have H' := Aside0.mk H
      clear H
      go_wp2_with (first | ((with_reducible refine gate_callee (f := 18) rfl ?_); refine goesL_ (some 23) rfl rfl Try.func18 (by kernel_rfl) rfl #[.slice A0 l0.length c0] rfl (by (try simp only [List.map_toArray, List.map_cons, List.map_nil]); first | done | rfl | (simp only [List.length_drop, List.length_take]; rfl)) ?_; (with_reducible refine (diaphonelaw01_Long.calls _ _ l0 true _ ?side1 ?side2 A4.out).mono ?_); (case side1 => repeat (first | exact (Kd.C_below HR0.out HB.out) | (with_reducible refine Kd.C_alloc ?_ _) | (with_reducible refine Kd.C_drewN ?_ _) | (with_reducible refine Kd.C_drew ?_))); (case side2 => exact HC0.out); rintro e w' ⟨rfl, ⟨nd, rfl⟩⟩; refine ⟨_, rfl, ?_⟩))
      go_meet
      case rel => exact ⟨_, (true), (by first | rfl | (simp; done) | (simp [*]; done)), H', ⟨by first | omega | exact Nat.le_refl _⟩, ⟨by repeat (first | (with_reducible first | exact HB.out | apply below_alloc | apply pw_below_drewN | apply below_drew1) | exact HB.out)⟩⟩
    · replace c5 := Bool.eq_false_iff.mpr c5
      subst c5
      have H1 : ((diaphonelaw01_Long.f l1).bind fun t102 => (diaphonelaw01_ToneAgrees.j0 k l0 l1 t102)) = some r := by rw [if_neg (show ¬ (false = true) by decide)] at H; exact H
      clear H
      have H := H1
      clear H1
      replace H := Option.bind_eq_some_iff.mp H
      obtain ⟨t102, A60, H⟩ := H
      replace H : (diaphonelaw01_ToneAgrees.j0 k l0 l1 t102) = some r := H
      have A6 := Aside0.mk A60
      clear A60
      have H' := Aside0.mk H
      clear H
      go_wp2_with (first | ((with_reducible refine gate_callee (f := 18) rfl ?_); refine goesL_ (some 23) rfl rfl Try.func18 (by kernel_rfl) rfl #[.slice A0 l0.length c0] rfl (by (try simp only [List.map_toArray, List.map_cons, List.map_nil]); first | done | rfl | (simp only [List.length_drop, List.length_take]; rfl)) ?_; (with_reducible refine (diaphonelaw01_Long.calls _ _ l0 false _ ?side1 ?side2 A4.out).mono ?_); (case side1 => repeat (first | exact (Kd.C_below HR0.out HB.out) | (with_reducible refine Kd.C_alloc ?_ _) | (with_reducible refine Kd.C_drewN ?_ _) | (with_reducible refine Kd.C_drew ?_))); (case side2 => exact HC0.out); rintro e w' ⟨rfl, ⟨nd, rfl⟩⟩; refine ⟨_, rfl, ?_⟩) | (go_at_call 18; (with_reducible refine (diaphonelaw01_Long.calls _ _ l1 t102 _ ?side1 ?side2 A6.out).mono ?_); (case side1 => repeat (first | exact (Kd.C_below HR1.out (by repeat (first | (with_reducible first | exact HB.out | apply below_alloc | apply pw_below_drewN | apply below_drew1) | exact HB.out))) | (with_reducible refine Kd.C_alloc ?_ _) | (with_reducible refine Kd.C_drewN ?_ _) | (with_reducible refine Kd.C_drew ?_))); (case side2 => exact HC1.out); rintro e w' ⟨rfl, ⟨nd, rfl⟩⟩))
      go_meet
      case rel => exact ⟨_, (t102), (by first | rfl | (simp; done) | (simp [*]; done)), H', ⟨by first | omega | exact Nat.le_refl _⟩, ⟨by repeat (first | (with_reducible first | exact HB.out | apply below_alloc | apply pw_below_drewN | apply below_drew1) | exact HB.out)⟩⟩
  case rest =>
    clear HC3
    try clear c1
    try clear p2
    try clear c5
    obtain ⟨kq, x27_2, rfl, HA, HJ2, HB⟩ := hcut
    cases kq with
    | zero => exact absurd HA.out (by simp [diaphonelaw01_ToneAgrees.j0])
    | succ kj2 =>
      have H := HA.out
      clear HA
      simp only [diaphonelaw01_ToneAgrees.j0] at H
      by_cases c7 : x27_2 = true
      · subst c7
        have H1 : ((diaphonelaw01_known.f kj2).bind fun t103 => (some t103)) = some r := by rw [if_pos rfl] at H; exact H
        clear H
        have H := H1
        clear H1
        replace H := Option.bind_eq_some_iff.mp H
        obtain ⟨t103, A80, H⟩ := H
        replace H : (some t103) = some r := H
        have A8 := Aside0.mk A80
        clear A80
        obtain rfl := Option.some.inj H
        go_wp2_with (first | ((with_reducible refine gate_callee (f := 19) rfl ?_); refine goesL_ (some 28) rfl rfl Try.func19 (by kernel_rfl) rfl #[] rfl (by (try simp only [List.map_toArray, List.map_cons, List.map_nil]); first | done | rfl | (simp only [List.length_drop, List.length_take]; rfl)) ?_; (with_reducible refine (diaphonelaw01_known.calls kj2  t103 _ A8.out).mono ?_); rintro e w9 ⟨rfl, hb⟩; refine ⟨_, rfl, ?_⟩; have n0_ := Aside0.mk (below_step (by repeat (first | (with_reducible first | exact HB.out | apply below_alloc | apply pw_below_drewN | apply below_drew1) | exact HB.out)) hb); clear HB; have HB := n0_; clear n0_; (try clear hb); (try clear hb2); (try clear hk); (try clear hi)))
        go_ret
        exact ⟨by first | rfl | (simp [errW_none, errW_some] <;> rfl) | (simp [*, errW_none, errW_some] <;> rfl), by repeat (first | (with_reducible first | exact HB.out | apply below_alloc | apply pw_below_drewN | apply below_drew1) | exact HB.out)⟩
      · replace c7 := Bool.eq_false_iff.mpr c7
        subst c7
        have H1 : ((tone_Agree.f kj2 l0 l1).bind fun bt104 => ((diaphoneref01_Agree.f kj2 l0 l1).bind fun bt107 => ((tone_Listen.f kj2 l0 l1).bind fun bt110 => ((diaphoneref01_Listen.f kj2 l0 l1).bind fun bt113 => (if bt104.1 = bt107.1 then (if (bt104.2.1 != bt107.2.1) = true then (diaphonelaw01_ToneAgrees.j1 kj2 l0 l1 bt104.1 bt104.2.1 bt104.2.2 bt110.1 bt110.2.1 true) else (if bt104.2.2 = bt107.2.2 then (if bt110.1 = bt113.1 then (if (bt110.2.1 != bt113.2.1) = true then (diaphonelaw01_ToneAgrees.j1 kj2 l0 l1 bt104.1 bt104.2.1 bt104.2.2 bt110.1 bt110.2.1 true) else (diaphonelaw01_ToneAgrees.j1 kj2 l0 l1 bt104.1 bt104.2.1 bt104.2.2 bt110.1 bt110.2.1 (bt110.2.2 != bt113.2.2))) else (diaphonelaw01_ToneAgrees.j1 kj2 l0 l1 bt104.1 bt104.2.1 bt104.2.2 bt110.1 bt110.2.1 true)) else (diaphonelaw01_ToneAgrees.j1 kj2 l0 l1 bt104.1 bt104.2.1 bt104.2.2 bt110.1 bt110.2.1 true))) else (diaphonelaw01_ToneAgrees.j1 kj2 l0 l1 bt104.1 bt104.2.1 bt104.2.2 bt110.1 bt110.2.1 true)))))) = some r := by rw [if_neg (show ¬ (false = true) by decide)] at H; exact H
        clear H
        have H := H1
        clear H1
        replace H := Option.bind_eq_some_iff.mp H
        obtain ⟨⟨t104, t105, t106⟩, A100, H⟩ := H
        replace H : ((diaphoneref01_Agree.f kj2 l0 l1).bind fun bt107 => ((tone_Listen.f kj2 l0 l1).bind fun bt110 => ((diaphoneref01_Listen.f kj2 l0 l1).bind fun bt113 => (if t104 = bt107.1 then (if (t105 != bt107.2.1) = true then (diaphonelaw01_ToneAgrees.j1 kj2 l0 l1 t104 t105 t106 bt110.1 bt110.2.1 true) else (if t106 = bt107.2.2 then (if bt110.1 = bt113.1 then (if (bt110.2.1 != bt113.2.1) = true then (diaphonelaw01_ToneAgrees.j1 kj2 l0 l1 t104 t105 t106 bt110.1 bt110.2.1 true) else (diaphonelaw01_ToneAgrees.j1 kj2 l0 l1 t104 t105 t106 bt110.1 bt110.2.1 (bt110.2.2 != bt113.2.2))) else (diaphonelaw01_ToneAgrees.j1 kj2 l0 l1 t104 t105 t106 bt110.1 bt110.2.1 true)) else (diaphonelaw01_ToneAgrees.j1 kj2 l0 l1 t104 t105 t106 bt110.1 bt110.2.1 true))) else (diaphonelaw01_ToneAgrees.j1 kj2 l0 l1 t104 t105 t106 bt110.1 bt110.2.1 true))))) = some r := H
        have A10 := Aside0.mk A100
        clear A100
        replace H := Option.bind_eq_some_iff.mp H
        obtain ⟨⟨t107, t108, t109⟩, A110, H⟩ := H
        replace H : ((tone_Listen.f kj2 l0 l1).bind fun bt110 => ((diaphoneref01_Listen.f kj2 l0 l1).bind fun bt113 => (if t104 = t107 then (if (t105 != t108) = true then (diaphonelaw01_ToneAgrees.j1 kj2 l0 l1 t104 t105 t106 bt110.1 bt110.2.1 true) else (if t106 = t109 then (if bt110.1 = bt113.1 then (if (bt110.2.1 != bt113.2.1) = true then (diaphonelaw01_ToneAgrees.j1 kj2 l0 l1 t104 t105 t106 bt110.1 bt110.2.1 true) else (diaphonelaw01_ToneAgrees.j1 kj2 l0 l1 t104 t105 t106 bt110.1 bt110.2.1 (bt110.2.2 != bt113.2.2))) else (diaphonelaw01_ToneAgrees.j1 kj2 l0 l1 t104 t105 t106 bt110.1 bt110.2.1 true)) else (diaphonelaw01_ToneAgrees.j1 kj2 l0 l1 t104 t105 t106 bt110.1 bt110.2.1 true))) else (diaphonelaw01_ToneAgrees.j1 kj2 l0 l1 t104 t105 t106 bt110.1 bt110.2.1 true)))) = some r := H
        have A11 := Aside0.mk A110
        clear A110
        replace H := Option.bind_eq_some_iff.mp H
        obtain ⟨⟨t110, t111, t112⟩, A120, H⟩ := H
        replace H : ((diaphoneref01_Listen.f kj2 l0 l1).bind fun bt113 => (if t104 = t107 then (if (t105 != t108) = true then (diaphonelaw01_ToneAgrees.j1 kj2 l0 l1 t104 t105 t106 t110 t111 true) else (if t106 = t109 then (if t110 = bt113.1 then (if (t111 != bt113.2.1) = true then (diaphonelaw01_ToneAgrees.j1 kj2 l0 l1 t104 t105 t106 t110 t111 true) else (diaphonelaw01_ToneAgrees.j1 kj2 l0 l1 t104 t105 t106 t110 t111 (t112 != bt113.2.2))) else (diaphonelaw01_ToneAgrees.j1 kj2 l0 l1 t104 t105 t106 t110 t111 true)) else (diaphonelaw01_ToneAgrees.j1 kj2 l0 l1 t104 t105 t106 t110 t111 true))) else (diaphonelaw01_ToneAgrees.j1 kj2 l0 l1 t104 t105 t106 t110 t111 true))) = some r := H
        have A12 := Aside0.mk A120
        clear A120
        replace H := Option.bind_eq_some_iff.mp H
        obtain ⟨⟨t113, t114, t115⟩, A130, H⟩ := H
        replace H : (if t104 = t107 then (if (t105 != t108) = true then (diaphonelaw01_ToneAgrees.j1 kj2 l0 l1 t104 t105 t106 t110 t111 true) else (if t106 = t109 then (if t110 = t113 then (if (t111 != t114) = true then (diaphonelaw01_ToneAgrees.j1 kj2 l0 l1 t104 t105 t106 t110 t111 true) else (diaphonelaw01_ToneAgrees.j1 kj2 l0 l1 t104 t105 t106 t110 t111 (t112 != t115))) else (diaphonelaw01_ToneAgrees.j1 kj2 l0 l1 t104 t105 t106 t110 t111 true)) else (diaphonelaw01_ToneAgrees.j1 kj2 l0 l1 t104 t105 t106 t110 t111 true))) else (diaphonelaw01_ToneAgrees.j1 kj2 l0 l1 t104 t105 t106 t110 t111 true)) = some r := H
        have A13 := Aside0.mk A130
        clear A130
        have HC14 := Aside0.mk H
        clear H
        go_upto_region 7 with (first | ((with_reducible refine gate_callee (f := 52) rfl ?_); refine goesL_ (some 32) rfl rfl Try.func52 (by kernel_rfl) rfl #[.slice A0 l0.length c0, .slice A1 l1.length c1] rfl (by (try simp only [List.map_toArray, List.map_cons, List.map_nil]); first | done | rfl | (simp only [List.length_drop, List.length_take]; rfl)) ?_; (with_reducible refine (tone_Agree.calls kj2 _ _ l0 _ _ l1 t104 t105 t106 _ ?side1 ?side2 ?side3 ?side4 A10.out).mono ?_); (case side1 => repeat (first | exact (Kd.C_below HR0.out HB.out) | (with_reducible refine Kd.C_alloc ?_ _) | (with_reducible refine Kd.C_drewN ?_ _) | (with_reducible refine Kd.C_drew ?_))); (case side2 => exact HC0.out); (case side3 => repeat (first | exact (Kd.C_below HR1.out HB.out) | (with_reducible refine Kd.C_alloc ?_ _) | (with_reducible refine Kd.C_drewN ?_ _) | (with_reducible refine Kd.C_drew ?_))); (case side4 => exact HC1.out); rintro e w' ⟨rfl, ⟨nd, rfl⟩⟩; refine ⟨_, rfl, ?_⟩) | ((with_reducible refine gate_callee (f := 53) rfl ?_); refine goesL_ (some 39) rfl rfl Try.func53 (by kernel_rfl) rfl #[.slice A0 l0.length c0, .slice A1 l1.length c1] rfl (by (try simp only [List.map_toArray, List.map_cons, List.map_nil]); first | done | rfl | (simp only [List.length_drop, List.length_take]; rfl)) ?_; (with_reducible refine (diaphoneref01_Agree.calls kj2 _ _ l0 _ _ l1 t107 t108 t109 _ ?side1 ?side2 ?side3 ?side4 A11.out).mono ?_); (case side1 => repeat (first | exact (Kd.C_below HR0.out (by repeat (first | (with_reducible first | exact HB.out | apply below_alloc | apply pw_below_drewN | apply below_drew1) | exact HB.out))) | (with_reducible refine Kd.C_alloc ?_ _) | (with_reducible refine Kd.C_drewN ?_ _) | (with_reducible refine Kd.C_drew ?_))); (case side2 => exact HC0.out); (case side3 => repeat (first | exact (Kd.C_below HR1.out (by repeat (first | (with_reducible first | exact HB.out | apply below_alloc | apply pw_below_drewN | apply below_drew1) | exact HB.out))) | (with_reducible refine Kd.C_alloc ?_ _) | (with_reducible refine Kd.C_drewN ?_ _) | (with_reducible refine Kd.C_drew ?_))); (case side4 => exact HC1.out); rintro e w' ⟨rfl, ⟨nd, rfl⟩⟩; refine ⟨_, rfl, ?_⟩) | ((with_reducible refine gate_callee (f := 54) rfl ?_); refine goesL_ (some 46) rfl rfl Try.func54 (by kernel_rfl) rfl #[.slice A0 l0.length c0, .slice A1 l1.length c1] rfl (by (try simp only [List.map_toArray, List.map_cons, List.map_nil]); first | done | rfl | (simp only [List.length_drop, List.length_take]; rfl)) ?_; (with_reducible refine (tone_Listen.calls kj2 _ _ l0 _ _ l1 t110 t111 t112 _ ?side1 ?side2 ?side3 ?side4 A12.out).mono ?_); (case side1 => repeat (first | exact (Kd.C_below HR0.out (by repeat (first | (with_reducible first | exact HB.out | apply below_alloc | apply pw_below_drewN | apply below_drew1) | exact HB.out))) | (with_reducible refine Kd.C_alloc ?_ _) | (with_reducible refine Kd.C_drewN ?_ _) | (with_reducible refine Kd.C_drew ?_))); (case side2 => exact HC0.out); (case side3 => repeat (first | exact (Kd.C_below HR1.out (by repeat (first | (with_reducible first | exact HB.out | apply below_alloc | apply pw_below_drewN | apply below_drew1) | exact HB.out))) | (with_reducible refine Kd.C_alloc ?_ _) | (with_reducible refine Kd.C_drewN ?_ _) | (with_reducible refine Kd.C_drew ?_))); (case side4 => exact HC1.out); rintro e w15 ⟨rfl, hb⟩; refine ⟨_, rfl, ?_⟩; have n0_ := Aside0.mk (below_step (by repeat (first | (with_reducible first | exact HB.out | apply below_alloc | apply pw_below_drewN | apply below_drew1) | exact HB.out)) hb); clear HB; have HB := n0_; clear n0_; (try clear hb); (try clear hb2); (try clear hk); (try clear hi)) | ((with_reducible refine gate_callee (f := 55) rfl ?_); refine goesL_ (some 53) rfl rfl Try.func55 (by kernel_rfl) rfl #[.slice A0 l0.length c0, .slice A1 l1.length c1] rfl (by (try simp only [List.map_toArray, List.map_cons, List.map_nil]); first | done | rfl | (simp only [List.length_drop, List.length_take]; rfl)) ?_; (with_reducible refine (diaphoneref01_Listen.calls kj2 _ _ l0 _ _ l1 t113 t114 t115 _ ?side1 ?side2 ?side3 ?side4 A13.out).mono ?_); (case side1 => repeat (first | exact (Kd.C_below HR0.out HB.out) | (with_reducible refine Kd.C_alloc ?_ _) | (with_reducible refine Kd.C_drewN ?_ _) | (with_reducible refine Kd.C_drew ?_))); (case side2 => exact HC0.out); (case side3 => repeat (first | exact (Kd.C_below HR1.out HB.out) | (with_reducible refine Kd.C_alloc ?_ _) | (with_reducible refine Kd.C_drewN ?_ _) | (with_reducible refine Kd.C_drew ?_))); (case side4 => exact HC1.out); rintro e w16 ⟨rfl, hb⟩; refine ⟨_, rfl, ?_⟩; have n0_ := Aside0.mk (below_step (by repeat (first | (with_reducible first | exact HB.out | apply below_alloc | apply pw_below_drewN | apply below_drew1) | exact HB.out)) hb); clear HB; have HB := n0_; clear n0_; (try clear hb); (try clear hb2); (try clear hk); (try clear hi)))
        (try simp only [Act.put, List.setIfInBounds_toArray, List.set_cons_zero, List.set_cons_succ])
        go_cut [84] (fun v84 wc => ∃ (kq : Nat) (x84_13 : Bool), v84 = .bool x84_13 ∧ Aside0 (diaphonelaw01_ToneAgrees.j1 kq l0 l1 t104 t105 t106 t110 t111 x84_13 = some r) ∧ Aside0 (kq ≤ kj2) ∧ Aside0 (Below w.heap.size w wc))
        case first =>
          have H := HC14.out
          clear HC14
          by_cases c17 : t104 = t107
          · rw [if_pos c17] at H
            have c17b0 : (t104 == t107) = true := beq_iff_eq.mpr c17
            have c17b1 : (t104 != t107) = false := bne_eq_false_iff_eq.mpr c17
            clear c17
            (first | rw [c17b0] | (simp only [i64_w, i32_w]; rw [c17b0]) | skip)
            by_cases c18 : (t105 != t108) = true
            · rw [if_pos c18] at H
              have c18b0 : (t105 != t108) = true := c18
              (try (have c18b1 : decide (t105 = t108) = false := by simpa using c18))
              (try (have c18b2 : (t105 == t108) = false := by simpa using c18))
              (try (have c18b3 : ¬ (t105 = t108) := by simpa using c18))
              clear c18
              have H' := Aside0.mk H
              clear H
              go_wp2
              go_meet
              case rel => exact ⟨_, (true), (by first | rfl | (simp; done) | (simp [*]; done)), H', ⟨by have := HJ2.out; first | omega | exact Nat.le_refl _⟩, ⟨by repeat (first | (with_reducible first | exact HB.out | apply below_alloc | apply pw_below_drewN | apply below_drew1) | exact HB.out)⟩⟩
            · rw [if_neg c18] at H
              have c18b0 : (t105 != t108) = false := by simpa using c18
              (try (have c18b1 : decide (t105 = t108) = true := by simpa using c18))
              (try (have c18b2 : (t105 == t108) = true := by simpa using c18))
              clear c18
              by_cases c19 : t106 = t109
              · rw [if_pos c19] at H
                have c19b0 : (t106 == t109) = true := beq_iff_eq.mpr c19
                have c19b1 : (t106 != t109) = false := bne_eq_false_iff_eq.mpr c19
                clear c19
                by_cases c20 : t110 = t113
                · rw [if_pos c20] at H
                  have c20b0 : (t110 == t113) = true := beq_iff_eq.mpr c20
                  have c20b1 : (t110 != t113) = false := bne_eq_false_iff_eq.mpr c20
                  clear c20
                  by_cases c21 : (t111 != t114) = true
                  · rw [if_pos c21] at H
                    have c21b0 : (t111 != t114) = true := c21
                    (try (have c21b1 : decide (t111 = t114) = false := by simpa using c21))
                    (try (have c21b2 : (t111 == t114) = false := by simpa using c21))
                    (try (have c21b3 : ¬ (t111 = t114) := by simpa using c21))
                    clear c21
                    have H' := Aside0.mk H
                    clear H
                    go_wp2
                    go_meet
                    case rel => exact ⟨_, (true), (by first | rfl | (simp; done) | (simp [*]; done)), H', ⟨by have := HJ2.out; first | omega | exact Nat.le_refl _⟩, ⟨by repeat (first | (with_reducible first | exact HB.out | apply below_alloc | apply pw_below_drewN | apply below_drew1) | exact HB.out)⟩⟩
                  · rw [if_neg c21] at H
                    have c21b0 : (t111 != t114) = false := by simpa using c21
                    (try (have c21b1 : decide (t111 = t114) = true := by simpa using c21))
                    (try (have c21b2 : (t111 == t114) = true := by simpa using c21))
                    clear c21
                    have H' := Aside0.mk H
                    clear H
                    go_wp2
                    go_meet
                    case rel => exact ⟨_, ((t112 != t115)), (by first | rfl | (simp; done) | (simp [*]; done)), H', ⟨by have := HJ2.out; first | omega | exact Nat.le_refl _⟩, ⟨by repeat (first | (with_reducible first | exact HB.out | apply below_alloc | apply pw_below_drewN | apply below_drew1) | exact HB.out)⟩⟩
                · rw [if_neg c20] at H
                  have c20b0 : (t110 == t113) = false := beq_eq_false_iff_ne.mpr c20
                  have c20b1 : (t110 != t113) = true := bne_iff_ne.mpr c20
                  have H' := Aside0.mk H
                  clear H
                  go_wp2
                  go_meet
                  case rel => exact ⟨_, (true), (by first | rfl | (simp; done) | (simp [*]; done)), H', ⟨by have := HJ2.out; first | omega | exact Nat.le_refl _⟩, ⟨by repeat (first | (with_reducible first | exact HB.out | apply below_alloc | apply pw_below_drewN | apply below_drew1) | exact HB.out)⟩⟩
              · rw [if_neg c19] at H
                have c19b0 : (t106 == t109) = false := beq_eq_false_iff_ne.mpr c19
                have c19b1 : (t106 != t109) = true := bne_iff_ne.mpr c19
                have H' := Aside0.mk H
                clear H
                go_wp2
                go_meet
                case rel => exact ⟨_, (true), (by first | rfl | (simp; done) | (simp [*]; done)), H', ⟨by have := HJ2.out; first | omega | exact Nat.le_refl _⟩, ⟨by repeat (first | (with_reducible first | exact HB.out | apply below_alloc | apply pw_below_drewN | apply below_drew1) | exact HB.out)⟩⟩
          · rw [if_neg c17] at H
            have c17b0 : (t104 == t107) = false := beq_eq_false_iff_ne.mpr c17
            have c17b1 : (t104 != t107) = true := bne_iff_ne.mpr c17
            (first | rw [c17b0] | (simp only [i64_w, i32_w]; rw [c17b0]) | skip)
            have H' := Aside0.mk H
            clear H
            go_wp2
            go_meet
            case rel => exact ⟨_, (true), (by first | rfl | (simp; done) | (simp [*]; done)), H', ⟨by have := HJ2.out; first | omega | exact Nat.le_refl _⟩, ⟨by repeat (first | (with_reducible first | exact HB.out | apply below_alloc | apply pw_below_drewN | apply below_drew1) | exact HB.out)⟩⟩
        case rest =>
          clear HC14
          try clear c1
          try clear c2
          try clear p2
          try clear c5
          try clear c7
          try clear c12
          try clear c17
          try clear c17b0
          try clear c17b1
          try clear c18
          try clear c18b0
          try clear c18b1
          try clear c18b2
          try clear c19
          try clear c19b0
          try clear c19b1
          try clear c20
          try clear c20b0
          try clear c20b1
          try clear c21
          try clear c21b0
          try clear c21b1
          try clear c21b2
          try clear p2
          obtain ⟨kq, x84_13, rfl, HA, HJ13, HB⟩ := hcut
          cases kq with
          | zero => exact absurd HA.out (by simp [diaphonelaw01_ToneAgrees.j1])
          | succ kj13 =>
            have H := HA.out
            clear HA
            simp only [diaphonelaw01_ToneAgrees.j1] at H
            by_cases c22 : x84_13 = true
            · subst c22
              have H1 : (some false) = some r := by rw [if_pos rfl] at H; exact H
              clear H
              have H := H1
              clear H1
              obtain rfl := Option.some.inj H
              go_wp2
              go_ret
              exact ⟨by first | rfl | (simp [errW_none, errW_some] <;> rfl) | (simp [*, errW_none, errW_some] <;> rfl), by repeat (first | (with_reducible first | exact HB.out | apply below_alloc | apply pw_below_drewN | apply below_drew1) | exact HB.out)⟩
            · replace c22 := Bool.eq_false_iff.mpr c22
              subst c22
              have H1 : ((tone_Period.f kj13 l0).bind fun bt116 => ((tone_Period.f kj13 l1).bind fun bt118 => (if t106 = 0 then (if bt116.2 = 0 then (if bt118.2 = 0 then (if bt116.1 < 1 then (diaphonelaw01_ToneAgrees.j2 kj13 t104 t105 t110 t111 bt116.1 bt118.1 true) else (diaphonelaw01_ToneAgrees.j2 kj13 t104 t105 t110 t111 bt116.1 bt118.1 (decide (bt118.1 < 1)))) else (diaphonelaw01_ToneAgrees.j2 kj13 t104 t105 t110 t111 bt116.1 bt118.1 true)) else (diaphonelaw01_ToneAgrees.j2 kj13 t104 t105 t110 t111 bt116.1 bt118.1 true)) else ((diaphonelaw01_known.f kj13).bind fun t120 => (some t120))))) = some r := by rw [if_neg (show ¬ (false = true) by decide)] at H; exact H
              clear H
              have H := H1
              clear H1
              replace H := Option.bind_eq_some_iff.mp H
              obtain ⟨⟨t116, t117⟩, A230, H⟩ := H
              replace H : ((tone_Period.f kj13 l1).bind fun bt118 => (if t106 = 0 then (if t117 = 0 then (if bt118.2 = 0 then (if t116 < 1 then (diaphonelaw01_ToneAgrees.j2 kj13 t104 t105 t110 t111 t116 bt118.1 true) else (diaphonelaw01_ToneAgrees.j2 kj13 t104 t105 t110 t111 t116 bt118.1 (decide (bt118.1 < 1)))) else (diaphonelaw01_ToneAgrees.j2 kj13 t104 t105 t110 t111 t116 bt118.1 true)) else (diaphonelaw01_ToneAgrees.j2 kj13 t104 t105 t110 t111 t116 bt118.1 true)) else ((diaphonelaw01_known.f kj13).bind fun t120 => (some t120)))) = some r := H
              have A23 := Aside0.mk A230
              clear A230
              replace H := Option.bind_eq_some_iff.mp H
              obtain ⟨⟨t118, t119⟩, A240, H⟩ := H
              replace H : (if t106 = 0 then (if t117 = 0 then (if t119 = 0 then (if t116 < 1 then (diaphonelaw01_ToneAgrees.j2 kj13 t104 t105 t110 t111 t116 t118 true) else (diaphonelaw01_ToneAgrees.j2 kj13 t104 t105 t110 t111 t116 t118 (decide (t118 < 1)))) else (diaphonelaw01_ToneAgrees.j2 kj13 t104 t105 t110 t111 t116 t118 true)) else (diaphonelaw01_ToneAgrees.j2 kj13 t104 t105 t110 t111 t116 t118 true)) else ((diaphonelaw01_known.f kj13).bind fun t120 => (some t120))) = some r := H
              have A24 := Aside0.mk A240
              clear A240
              by_cases c25 : t106 = 0
              · rw [if_pos c25] at H
                have c25b0 : (t106 == 0) = true := beq_iff_eq.mpr c25
                have c25b1 : (t106 != 0) = false := bne_eq_false_iff_eq.mpr c25
                clear c25
                have HC26 := Aside0.mk H
                clear H
                go_upto_region 13 with (first | ((with_reducible refine gate_callee (f := 28) rfl ?_); refine goesL_ (some 87) rfl rfl Try.func28 (by kernel_rfl) rfl #[.slice A0 l0.length c0] rfl (by (try simp only [List.map_toArray, List.map_cons, List.map_nil]); first | done | rfl | (simp only [List.length_drop, List.length_take]; rfl)) ?_; (with_reducible refine (tone_Period.calls kj13 _ _ l0 t116 t117 _ ?side1 ?side2 A23.out).mono ?_); (case side1 => repeat (first | exact (Kd.C_below HR0.out HB.out) | (with_reducible refine Kd.C_alloc ?_ _) | (with_reducible refine Kd.C_drewN ?_ _) | (with_reducible refine Kd.C_drew ?_))); (case side2 => exact HC0.out); rintro e w27 ⟨rfl, hb⟩; refine ⟨_, rfl, ?_⟩; have n0_ := Aside0.mk (below_step (by repeat (first | (with_reducible first | exact HB.out | apply below_alloc | apply pw_below_drewN | apply below_drew1) | exact HB.out)) hb); clear HB; have HB := n0_; clear n0_; (try clear hb); (try clear hb2); (try clear hk); (try clear hi)) | ((with_reducible refine gate_callee (f := 28) rfl ?_); refine goesL_ (some 92) rfl rfl Try.func28 (by kernel_rfl) rfl #[.slice A1 l1.length c1] rfl (by (try simp only [List.map_toArray, List.map_cons, List.map_nil]); first | done | rfl | (simp only [List.length_drop, List.length_take]; rfl)) ?_; (with_reducible refine (tone_Period.calls kj13 _ _ l1 t118 t119 _ ?side1 ?side2 A24.out).mono ?_); (case side1 => repeat (first | exact (Kd.C_below HR1.out HB.out) | (with_reducible refine Kd.C_alloc ?_ _) | (with_reducible refine Kd.C_drewN ?_ _) | (with_reducible refine Kd.C_drew ?_))); (case side2 => exact HC1.out); rintro e w28 ⟨rfl, hb⟩; refine ⟨_, rfl, ?_⟩; have n0_ := Aside0.mk (below_step (by repeat (first | (with_reducible first | exact HB.out | apply below_alloc | apply pw_below_drewN | apply below_drew1) | exact HB.out)) hb); clear HB; have HB := n0_; clear n0_; (try clear hb); (try clear hb2); (try clear hk); (try clear hi)))
                (try simp only [Act.put, List.setIfInBounds_toArray, List.set_cons_zero, List.set_cons_succ])
                go_cut [111] (fun v111 wc => ∃ (kq : Nat) (x111_25 : Bool), v111 = .bool x111_25 ∧ Aside0 (diaphonelaw01_ToneAgrees.j2 kq t104 t105 t110 t111 t116 t118 x111_25 = some r) ∧ Aside0 (kq ≤ kj13) ∧ Aside0 (Below w.heap.size w wc))
                case first =>
                  have H := HC26.out
                  clear HC26
                  by_cases c29 : t117 = 0
                  · rw [if_pos c29] at H
                    have c29b0 : (t117 == 0) = true := beq_iff_eq.mpr c29
                    have c29b1 : (t117 != 0) = false := bne_eq_false_iff_eq.mpr c29
                    clear c29
                    (first | rw [c29b0] | (simp only [i64_w, i32_w]; rw [c29b0]) | skip)
                    by_cases c30 : t119 = 0
                    · rw [if_pos c30] at H
                      have c30b0 : (t119 == 0) = true := beq_iff_eq.mpr c30
                      have c30b1 : (t119 != 0) = false := bne_eq_false_iff_eq.mpr c30
                      clear c30
                      by_cases c31 : t116 < 1
                      · rw [if_pos c31] at H
                        have c31b0 : decide (t116 < 1) = true := decide_eq_true c31
                        clear c31
                        have H' := Aside0.mk H
                        clear H
                        go_wp2
                        go_meet
                        case rel => exact ⟨_, (true), (by first | rfl | (simp; done) | (simp [*]; done)), H', ⟨by have := HJ2.out; have := HJ13.out; first | omega | exact Nat.le_refl _⟩, ⟨by repeat (first | (with_reducible first | exact HB.out | apply below_alloc | apply pw_below_drewN | apply below_drew1) | exact HB.out)⟩⟩
                      · rw [if_neg c31] at H
                        have c31b0 : decide (t116 < 1) = false := decide_eq_false c31
                        clear c31
                        have H' := Aside0.mk H
                        clear H
                        go_wp2
                        go_meet
                        case rel => exact ⟨_, (decide (t118 < 1)), (by first | rfl | (simp; done) | (simp [*]; done)), H', ⟨by have := HJ2.out; have := HJ13.out; first | omega | exact Nat.le_refl _⟩, ⟨by repeat (first | (with_reducible first | exact HB.out | apply below_alloc | apply pw_below_drewN | apply below_drew1) | exact HB.out)⟩⟩
                    · rw [if_neg c30] at H
                      have c30b0 : (t119 == 0) = false := beq_eq_false_iff_ne.mpr c30
                      have c30b1 : (t119 != 0) = true := bne_iff_ne.mpr c30
                      have H' := Aside0.mk H
                      clear H
                      go_wp2
                      go_meet
                      case rel => exact ⟨_, (true), (by first | rfl | (simp; done) | (simp [*]; done)), H', ⟨by have := HJ2.out; have := HJ13.out; first | omega | exact Nat.le_refl _⟩, ⟨by repeat (first | (with_reducible first | exact HB.out | apply below_alloc | apply pw_below_drewN | apply below_drew1) | exact HB.out)⟩⟩
                  · rw [if_neg c29] at H
                    have c29b0 : (t117 == 0) = false := beq_eq_false_iff_ne.mpr c29
                    have c29b1 : (t117 != 0) = true := bne_iff_ne.mpr c29
                    (first | rw [c29b0] | (simp only [i64_w, i32_w]; rw [c29b0]) | skip)
                    have H' := Aside0.mk H
                    clear H
                    go_wp2
                    go_meet
                    case rel => exact ⟨_, (true), (by first | rfl | (simp; done) | (simp [*]; done)), H', ⟨by have := HJ2.out; have := HJ13.out; first | omega | exact Nat.le_refl _⟩, ⟨by repeat (first | (with_reducible first | exact HB.out | apply below_alloc | apply pw_below_drewN | apply below_drew1) | exact HB.out)⟩⟩
                case rest =>
                  clear HC26
                  try clear c1
                  try clear c2
                  try clear p2
                  try clear c3
                  try clear c5
                  try clear c7
                  try clear c12
                  try clear c17
                  try clear c17b0
                  try clear c17b1
                  try clear c18
                  try clear c18b0
                  try clear c18b1
                  try clear c18b2
                  try clear c19
                  try clear c19b0
                  try clear c19b1
                  try clear c20
                  try clear c20b0
                  try clear c20b1
                  try clear c21
                  try clear c21b0
                  try clear c21b1
                  try clear c21b2
                  try clear c22
                  try clear c25
                  try clear c25b0
                  try clear c25b1
                  try clear c28
                  try clear c29
                  try clear c29b0
                  try clear c29b1
                  try clear c30
                  try clear c30b0
                  try clear c30b1
                  try clear c31
                  try clear c31b0
                  try clear p2
                  obtain ⟨kq, x111_25, rfl, HA, HJ25, HB⟩ := hcut
                  cases kq with
                  | zero => exact absurd HA.out (by simp [diaphonelaw01_ToneAgrees.j2])
                  | succ kj25 =>
                    have H := HA.out
                    clear HA
                    simp only [diaphonelaw01_ToneAgrees.j2] at H
                    by_cases c32 : x111_25 = true
                    · subst c32
                      have H1 : (some false) = some r := by rw [if_pos rfl] at H; exact H
                      clear H
                      have H := H1
                      clear H1
                      obtain rfl := Option.some.inj H
                      go_wp2
                      go_ret
                      exact ⟨by first | rfl | (simp [errW_none, errW_some] <;> rfl) | (simp [*, errW_none, errW_some] <;> rfl), by repeat (first | (with_reducible first | exact HB.out | apply below_alloc | apply pw_below_drewN | apply below_drew1) | exact HB.out)⟩
                    · replace c32 := Bool.eq_false_iff.mpr c32
                      subst c32
                      have H1 : ((diaphoneref01_Gcd.f kj25 t116 t118).bind fun t121 => (if t105 = true then (if t104 < (wrap64 ((wrap64 (t116 + t118)) - t121)) then (if t111 = true then (if t110 ≤ (wrap64 ((wrap64 (t116 + t118)) - t121)) then ((diaphonelaw01_known.f kj25).bind fun t122 => (some t122)) else (some false)) else ((diaphonelaw01_known.f kj25).bind fun t123 => (some t123))) else (some false)) else (if t111 = true then (if t110 ≤ (wrap64 ((wrap64 (t116 + t118)) - t121)) then ((diaphonelaw01_known.f kj25).bind fun t124 => (some t124)) else (some false)) else ((diaphonelaw01_known.f kj25).bind fun t125 => (some t125))))) = some r := by rw [if_neg (show ¬ (false = true) by decide)] at H; exact H
                      clear H
                      have H := H1
                      clear H1
                      replace H := Option.bind_eq_some_iff.mp H
                      obtain ⟨t121, A330, H⟩ := H
                      replace H : (if t105 = true then (if t104 < (wrap64 ((wrap64 (t116 + t118)) - t121)) then (if t111 = true then (if t110 ≤ (wrap64 ((wrap64 (t116 + t118)) - t121)) then ((diaphonelaw01_known.f kj25).bind fun t122 => (some t122)) else (some false)) else ((diaphonelaw01_known.f kj25).bind fun t123 => (some t123))) else (some false)) else (if t111 = true then (if t110 ≤ (wrap64 ((wrap64 (t116 + t118)) - t121)) then ((diaphonelaw01_known.f kj25).bind fun t124 => (some t124)) else (some false)) else ((diaphonelaw01_known.f kj25).bind fun t125 => (some t125)))) = some r := H
                      have A33 := Aside0.mk A330
                      clear A330
                      by_cases c34 : t105 = true
                      · subst c34
                        have H1 : (if t104 < (wrap64 ((wrap64 (t116 + t118)) - t121)) then (if t111 = true then (if t110 ≤ (wrap64 ((wrap64 (t116 + t118)) - t121)) then ((diaphonelaw01_known.f kj25).bind fun t122 => (some t122)) else (some false)) else ((diaphonelaw01_known.f kj25).bind fun t123 => (some t123))) else (some false)) = some r := by rw [if_pos rfl] at H; exact H
                        clear H
                        have H := H1
                        clear H1
                        by_cases c35 : t104 < (wrap64 ((wrap64 (t116 + t118)) - t121))
                        · rw [if_pos c35] at H
                          have c35b0 : decide (t104 < (wrap64 ((wrap64 (t116 + t118)) - t121))) = true := decide_eq_true c35
                          clear c35
                          by_cases c36 : t111 = true
                          · subst c36
                            have H1 : (if t110 ≤ (wrap64 ((wrap64 (t116 + t118)) - t121)) then ((diaphonelaw01_known.f kj25).bind fun t122 => (some t122)) else (some false)) = some r := by rw [if_pos rfl] at H; exact H
                            clear H
                            have H := H1
                            clear H1
                            by_cases c37 : t110 ≤ (wrap64 ((wrap64 (t116 + t118)) - t121))
                            · rw [if_pos c37] at H
                              have c37b0 : decide (t110 ≤ (wrap64 ((wrap64 (t116 + t118)) - t121))) = true := decide_eq_true c37
                              clear c37
                              replace H := Option.bind_eq_some_iff.mp H
                              obtain ⟨t122, A380, H⟩ := H
                              replace H : (some t122) = some r := H
                              have A38 := Aside0.mk A380
                              clear A380
                              obtain rfl := Option.some.inj H
                              go_wp2_with (first | ((with_reducible refine gate_callee (f := 56) rfl ?_); refine goesL_ (some 117) rfl rfl Try.func56 (by kernel_rfl) rfl #[.int .i64 t116, .int .i64 t118] rfl (by (try simp only [List.map_toArray, List.map_cons, List.map_nil]); first | done | rfl | (simp only [List.length_drop, List.length_take]; rfl)) ?_; (with_reducible refine (diaphoneref01_Gcd.calls kj25 t116 t118 t121 _ A33.out).mono ?_); rintro e w' ⟨rfl, ⟨nd, rfl⟩⟩; refine ⟨_, rfl, ?_⟩) | (go_at_call 19; (with_reducible refine (diaphonelaw01_known.calls kj25  t122 _ A38.out).mono ?_); rintro e w39 ⟨rfl, hb⟩; have n0_ := Aside0.mk (below_step (by repeat (first | (with_reducible first | exact HB.out | apply below_alloc | apply pw_below_drewN | apply below_drew1) | exact HB.out)) hb); clear HB; have HB := n0_; clear n0_; (try clear hb); (try clear hb2); (try clear hk); (try clear hi)))
                              go_ret
                              exact ⟨by first | rfl | (simp [errW_none, errW_some] <;> rfl) | (simp [*, errW_none, errW_some] <;> rfl), by repeat (first | (with_reducible first | exact HB.out | apply below_alloc | apply pw_below_drewN | apply below_drew1) | exact HB.out)⟩
                            · rw [if_neg c37] at H
                              have c37b0 : decide (t110 ≤ (wrap64 ((wrap64 (t116 + t118)) - t121))) = false := decide_eq_false c37
                              clear c37
                              obtain rfl := Option.some.inj H
                              go_wp2_with (first | ((with_reducible refine gate_callee (f := 56) rfl ?_); refine goesL_ (some 117) rfl rfl Try.func56 (by kernel_rfl) rfl #[.int .i64 t116, .int .i64 t118] rfl (by (try simp only [List.map_toArray, List.map_cons, List.map_nil]); first | done | rfl | (simp only [List.length_drop, List.length_take]; rfl)) ?_; (with_reducible refine (diaphoneref01_Gcd.calls kj25 t116 t118 t121 _ A33.out).mono ?_); rintro e w' ⟨rfl, ⟨nd, rfl⟩⟩; refine ⟨_, rfl, ?_⟩))
                              go_ret
                              exact ⟨by first | rfl | (simp [errW_none, errW_some] <;> rfl) | (simp [*, errW_none, errW_some] <;> rfl), by repeat (first | (with_reducible first | exact HB.out | apply below_alloc | apply pw_below_drewN | apply below_drew1) | exact HB.out)⟩
                          · replace c36 := Bool.eq_false_iff.mpr c36
                            subst c36
                            have H1 : ((diaphonelaw01_known.f kj25).bind fun t123 => (some t123)) = some r := by rw [if_neg (show ¬ (false = true) by decide)] at H; exact H
                            clear H
                            have H := H1
                            clear H1
                            replace H := Option.bind_eq_some_iff.mp H
                            obtain ⟨t123, A400, H⟩ := H
                            replace H : (some t123) = some r := H
                            have A40 := Aside0.mk A400
                            clear A400
                            obtain rfl := Option.some.inj H
                            go_wp2_with (first | ((with_reducible refine gate_callee (f := 56) rfl ?_); refine goesL_ (some 117) rfl rfl Try.func56 (by kernel_rfl) rfl #[.int .i64 t116, .int .i64 t118] rfl (by (try simp only [List.map_toArray, List.map_cons, List.map_nil]); first | done | rfl | (simp only [List.length_drop, List.length_take]; rfl)) ?_; (with_reducible refine (diaphoneref01_Gcd.calls kj25 t116 t118 t121 _ A33.out).mono ?_); rintro e w' ⟨rfl, ⟨nd, rfl⟩⟩; refine ⟨_, rfl, ?_⟩) | (go_at_call 19; (with_reducible refine (diaphonelaw01_known.calls kj25  t123 _ A40.out).mono ?_); rintro e w41 ⟨rfl, hb⟩; have n0_ := Aside0.mk (below_step (by repeat (first | (with_reducible first | exact HB.out | apply below_alloc | apply pw_below_drewN | apply below_drew1) | exact HB.out)) hb); clear HB; have HB := n0_; clear n0_; (try clear hb); (try clear hb2); (try clear hk); (try clear hi)))
                            go_ret
                            exact ⟨by first | rfl | (simp [errW_none, errW_some] <;> rfl) | (simp [*, errW_none, errW_some] <;> rfl), by repeat (first | (with_reducible first | exact HB.out | apply below_alloc | apply pw_below_drewN | apply below_drew1) | exact HB.out)⟩
                        · rw [if_neg c35] at H
                          have c35b0 : decide (t104 < (wrap64 ((wrap64 (t116 + t118)) - t121))) = false := decide_eq_false c35
                          clear c35
                          obtain rfl := Option.some.inj H
                          go_wp2_with (first | ((with_reducible refine gate_callee (f := 56) rfl ?_); refine goesL_ (some 117) rfl rfl Try.func56 (by kernel_rfl) rfl #[.int .i64 t116, .int .i64 t118] rfl (by (try simp only [List.map_toArray, List.map_cons, List.map_nil]); first | done | rfl | (simp only [List.length_drop, List.length_take]; rfl)) ?_; (with_reducible refine (diaphoneref01_Gcd.calls kj25 t116 t118 t121 _ A33.out).mono ?_); rintro e w' ⟨rfl, ⟨nd, rfl⟩⟩; refine ⟨_, rfl, ?_⟩))
                          go_ret
                          exact ⟨by first | rfl | (simp [errW_none, errW_some] <;> rfl) | (simp [*, errW_none, errW_some] <;> rfl), by repeat (first | (with_reducible first | exact HB.out | apply below_alloc | apply pw_below_drewN | apply below_drew1) | exact HB.out)⟩
                      · replace c34 := Bool.eq_false_iff.mpr c34
                        subst c34
                        have H1 : (if t111 = true then (if t110 ≤ (wrap64 ((wrap64 (t116 + t118)) - t121)) then ((diaphonelaw01_known.f kj25).bind fun t124 => (some t124)) else (some false)) else ((diaphonelaw01_known.f kj25).bind fun t125 => (some t125))) = some r := by rw [if_neg (show ¬ (false = true) by decide)] at H; exact H
                        clear H
                        have H := H1
                        clear H1
                        by_cases c42 : t111 = true
                        · subst c42
                          have H1 : (if t110 ≤ (wrap64 ((wrap64 (t116 + t118)) - t121)) then ((diaphonelaw01_known.f kj25).bind fun t124 => (some t124)) else (some false)) = some r := by rw [if_pos rfl] at H; exact H
                          clear H
                          have H := H1
                          clear H1
                          by_cases c43 : t110 ≤ (wrap64 ((wrap64 (t116 + t118)) - t121))
                          · rw [if_pos c43] at H
                            have c43b0 : decide (t110 ≤ (wrap64 ((wrap64 (t116 + t118)) - t121))) = true := decide_eq_true c43
                            clear c43
                            replace H := Option.bind_eq_some_iff.mp H
                            obtain ⟨t124, A440, H⟩ := H
                            replace H : (some t124) = some r := H
                            have A44 := Aside0.mk A440
                            clear A440
                            obtain rfl := Option.some.inj H
                            go_wp2_with (first | ((with_reducible refine gate_callee (f := 56) rfl ?_); refine goesL_ (some 117) rfl rfl Try.func56 (by kernel_rfl) rfl #[.int .i64 t116, .int .i64 t118] rfl (by (try simp only [List.map_toArray, List.map_cons, List.map_nil]); first | done | rfl | (simp only [List.length_drop, List.length_take]; rfl)) ?_; (with_reducible refine (diaphoneref01_Gcd.calls kj25 t116 t118 t121 _ A33.out).mono ?_); rintro e w' ⟨rfl, ⟨nd, rfl⟩⟩; refine ⟨_, rfl, ?_⟩) | (go_at_call 19; (with_reducible refine (diaphonelaw01_known.calls kj25  t124 _ A44.out).mono ?_); rintro e w45 ⟨rfl, hb⟩; have n0_ := Aside0.mk (below_step (by repeat (first | (with_reducible first | exact HB.out | apply below_alloc | apply pw_below_drewN | apply below_drew1) | exact HB.out)) hb); clear HB; have HB := n0_; clear n0_; (try clear hb); (try clear hb2); (try clear hk); (try clear hi)))
                            go_ret
                            exact ⟨by first | rfl | (simp [errW_none, errW_some] <;> rfl) | (simp [*, errW_none, errW_some] <;> rfl), by repeat (first | (with_reducible first | exact HB.out | apply below_alloc | apply pw_below_drewN | apply below_drew1) | exact HB.out)⟩
                          · rw [if_neg c43] at H
                            have c43b0 : decide (t110 ≤ (wrap64 ((wrap64 (t116 + t118)) - t121))) = false := decide_eq_false c43
                            clear c43
                            obtain rfl := Option.some.inj H
                            go_wp2_with (first | ((with_reducible refine gate_callee (f := 56) rfl ?_); refine goesL_ (some 117) rfl rfl Try.func56 (by kernel_rfl) rfl #[.int .i64 t116, .int .i64 t118] rfl (by (try simp only [List.map_toArray, List.map_cons, List.map_nil]); first | done | rfl | (simp only [List.length_drop, List.length_take]; rfl)) ?_; (with_reducible refine (diaphoneref01_Gcd.calls kj25 t116 t118 t121 _ A33.out).mono ?_); rintro e w' ⟨rfl, ⟨nd, rfl⟩⟩; refine ⟨_, rfl, ?_⟩))
                            go_ret
                            exact ⟨by first | rfl | (simp [errW_none, errW_some] <;> rfl) | (simp [*, errW_none, errW_some] <;> rfl), by repeat (first | (with_reducible first | exact HB.out | apply below_alloc | apply pw_below_drewN | apply below_drew1) | exact HB.out)⟩
                        · replace c42 := Bool.eq_false_iff.mpr c42
                          subst c42
                          have H1 : ((diaphonelaw01_known.f kj25).bind fun t125 => (some t125)) = some r := by rw [if_neg (show ¬ (false = true) by decide)] at H; exact H
                          clear H
                          have H := H1
                          clear H1
                          replace H := Option.bind_eq_some_iff.mp H
                          obtain ⟨t125, A460, H⟩ := H
                          replace H : (some t125) = some r := H
                          have A46 := Aside0.mk A460
                          clear A460
                          obtain rfl := Option.some.inj H
                          go_wp2_with (first | ((with_reducible refine gate_callee (f := 56) rfl ?_); refine goesL_ (some 117) rfl rfl Try.func56 (by kernel_rfl) rfl #[.int .i64 t116, .int .i64 t118] rfl (by (try simp only [List.map_toArray, List.map_cons, List.map_nil]); first | done | rfl | (simp only [List.length_drop, List.length_take]; rfl)) ?_; (with_reducible refine (diaphoneref01_Gcd.calls kj25 t116 t118 t121 _ A33.out).mono ?_); rintro e w' ⟨rfl, ⟨nd, rfl⟩⟩; refine ⟨_, rfl, ?_⟩) | (go_at_call 19; (with_reducible refine (diaphonelaw01_known.calls kj25  t125 _ A46.out).mono ?_); rintro e w47 ⟨rfl, hb⟩; have n0_ := Aside0.mk (below_step (by repeat (first | (with_reducible first | exact HB.out | apply below_alloc | apply pw_below_drewN | apply below_drew1) | exact HB.out)) hb); clear HB; have HB := n0_; clear n0_; (try clear hb); (try clear hb2); (try clear hk); (try clear hi)))
                          go_ret
                          exact ⟨by first | rfl | (simp [errW_none, errW_some] <;> rfl) | (simp [*, errW_none, errW_some] <;> rfl), by repeat (first | (with_reducible first | exact HB.out | apply below_alloc | apply pw_below_drewN | apply below_drew1) | exact HB.out)⟩
              · rw [if_neg c25] at H
                have c25b0 : (t106 == 0) = false := beq_eq_false_iff_ne.mpr c25
                have c25b1 : (t106 != 0) = true := bne_iff_ne.mpr c25
                replace H := Option.bind_eq_some_iff.mp H
                obtain ⟨t120, A480, H⟩ := H
                replace H : (some t120) = some r := H
                have A48 := Aside0.mk A480
                clear A480
                obtain rfl := Option.some.inj H
                go_wp2_with (first | ((with_reducible refine gate_callee (f := 28) rfl ?_); refine goesL_ (some 87) rfl rfl Try.func28 (by kernel_rfl) rfl #[.slice A0 l0.length c0] rfl (by (try simp only [List.map_toArray, List.map_cons, List.map_nil]); first | done | rfl | (simp only [List.length_drop, List.length_take]; rfl)) ?_; (with_reducible refine (tone_Period.calls kj13 _ _ l0 t116 t117 _ ?side1 ?side2 A23.out).mono ?_); (case side1 => repeat (first | exact (Kd.C_below HR0.out HB.out) | (with_reducible refine Kd.C_alloc ?_ _) | (with_reducible refine Kd.C_drewN ?_ _) | (with_reducible refine Kd.C_drew ?_))); (case side2 => exact HC0.out); rintro e w49 ⟨rfl, hb⟩; refine ⟨_, rfl, ?_⟩; have n0_ := Aside0.mk (below_step (by repeat (first | (with_reducible first | exact HB.out | apply below_alloc | apply pw_below_drewN | apply below_drew1) | exact HB.out)) hb); clear HB; have HB := n0_; clear n0_; (try clear hb); (try clear hb2); (try clear hk); (try clear hi)) | ((with_reducible refine gate_callee (f := 28) rfl ?_); refine goesL_ (some 92) rfl rfl Try.func28 (by kernel_rfl) rfl #[.slice A1 l1.length c1] rfl (by (try simp only [List.map_toArray, List.map_cons, List.map_nil]); first | done | rfl | (simp only [List.length_drop, List.length_take]; rfl)) ?_; (with_reducible refine (tone_Period.calls kj13 _ _ l1 t118 t119 _ ?side1 ?side2 A24.out).mono ?_); (case side1 => repeat (first | exact (Kd.C_below HR1.out HB.out) | (with_reducible refine Kd.C_alloc ?_ _) | (with_reducible refine Kd.C_drewN ?_ _) | (with_reducible refine Kd.C_drew ?_))); (case side2 => exact HC1.out); rintro e w50 ⟨rfl, hb⟩; refine ⟨_, rfl, ?_⟩; have n0_ := Aside0.mk (below_step (by repeat (first | (with_reducible first | exact HB.out | apply below_alloc | apply pw_below_drewN | apply below_drew1) | exact HB.out)) hb); clear HB; have HB := n0_; clear n0_; (try clear hb); (try clear hb2); (try clear hk); (try clear hi)) | ((with_reducible refine gate_callee (f := 19) rfl ?_); refine goesL_ (some 97) rfl rfl Try.func19 (by kernel_rfl) rfl #[] rfl (by (try simp only [List.map_toArray, List.map_cons, List.map_nil]); first | done | rfl | (simp only [List.length_drop, List.length_take]; rfl)) ?_; (with_reducible refine (diaphonelaw01_known.calls kj13  t120 _ A48.out).mono ?_); rintro e w51 ⟨rfl, hb⟩; refine ⟨_, rfl, ?_⟩; have n0_ := Aside0.mk (below_step (by repeat (first | (with_reducible first | exact HB.out | apply below_alloc | apply pw_below_drewN | apply below_drew1) | exact HB.out)) hb); clear HB; have HB := n0_; clear n0_; (try clear hb); (try clear hb2); (try clear hk); (try clear hi)))
                go_ret
                exact ⟨by first | rfl | (simp [errW_none, errW_some] <;> rfl) | (simp [*, errW_none, errW_some] <;> rfl), by repeat (first | (with_reducible first | exact HB.out | apply below_alloc | apply pw_below_drewN | apply below_drew1) | exact HB.out)⟩

end Go.Proofs.Ytmpmfjnmfgnhcaa.P
