-- laid by a program of this session (wip/tools): plain functions of the Go code and their contracts
import Derived.Test.YtgndhijhcliegaaPx0
import Derived.Test.YtgndhijhcliegaaPx1
import Derived.Test.YtgndhijhcliegaaPx6
import Derived.Test.YtgndhijhcliegaaPx7
import Derived.Test.YtgndhijhcliegaaPx27
import Derived.Test.YtgndhijhcliegaaPx28
import Derived.Test.YtgndhijhcliegaaPx32
namespace Go.Proofs.Ytgndhijhcliegaa.P
open Go.RowKit Go.Proofs.YtgndhijhcliegaaW.PrintWords Go.Proofs.YtgndhijhcliegaaW.PrintLast Go.Proofs.YtgndhijhcliegaaW.PrintMore
attribute [local go_sem] max2_int min2_int max_two min_two max_three min_three max_four min_four   -- for this text's walks alone
set_option linter.unusedVariables false
set_option linter.unusedSimpArgs false

/-! ### diaphonelaw07_ChargeCans: function 5 -/
def diaphonelaw07_ChargeCans.j0 : Nat → List Int → Int → Bool → Bool → Option (Bool)
  | 0, _, _, _, _ => none
  | k + 1, x0, x1, x5, x61 => if x61 = true then (some false) else ((charge_Measure.f k x0).bind fun bt114 => (if x5 = true then (if bt114.2 = 0 then (if bt114.1 > 0 then (if bt114.1 = 0 then (none) else (if (Int.tmod x1 bt114.1) = 0 then ((diaphonelaw07_sane.f k).bind fun t116 => (some t116)) else (some false))) else (some false)) else (some false)) else ((diaphonelaw07_sane.f k).bind fun t117 => (some t117))))
def diaphonelaw07_ChargeCans.f (k : Nat) (l0 : List Int) (a1 : Int) : Option (Bool) := (diaphonelaw07_Long.f k (([l0] : List (List Int)))).bind fun t104 => (if t104 = true then ((diaphonelaw07_sane.f k).bind fun t105 => (some t105)) else ((charge_Can.f k l0 a1).bind fun bt106 => ((charge_Fewest.f k l0 a1).bind fun bt108 => ((diaphoneref07_Fewest.f k l0 a1).bind fun bt111 => (if (bt106.1 != bt111.2.1) = true then (diaphonelaw07_ChargeCans.j0 k l0 a1 bt106.1 true) else (if bt106.2 = bt111.2.2 then (if bt108.1 = bt111.1 then (if (bt108.2.1 != bt111.2.1) = true then (diaphonelaw07_ChargeCans.j0 k l0 a1 bt106.1 true) else (diaphonelaw07_ChargeCans.j0 k l0 a1 bt106.1 (bt108.2.2 != bt111.2.2))) else (diaphonelaw07_ChargeCans.j0 k l0 a1 bt106.1 true)) else (diaphonelaw07_ChargeCans.j0 k l0 a1 bt106.1 true)))))))
theorem diaphonelaw07_ChargeCans.mono_l : ∀ k, (∀ y0 y1 y2 y3, LeO (diaphonelaw07_ChargeCans.j0 k y0 y1 y2 y3) (diaphonelaw07_ChargeCans.j0 (k + 1) y0 y1 y2 y3))
  | 0 => fun _ _ _ _ r h => by simp [diaphonelaw07_ChargeCans.j0] at h
  | k + 1 => by
    have ih0 := diaphonelaw07_ChargeCans.mono_l k
    · intro y0 y1 y2 y3
      unfold diaphonelaw07_ChargeCans.j0
      repeat' first
      | (with_reducible exact ih0 _ _ _ _)
      | (with_reducible exact charge_Can.mono _ _ _)
      | (with_reducible exact charge_Fewest.mono _ _ _)
      | (with_reducible exact charge_Measure.mono _ _)
      | (with_reducible exact diaphonelaw07_Long.mono _ _)
      | (with_reducible exact diaphonelaw07_sane.mono _)
      | (with_reducible exact diaphoneref07_Fewest.mono _ _ _)
      | (with_reducible exact LeO.refl _)
      | (with_reducible exact LeO.none _)
      | (with_reducible refine LeO.ite ?_ ?_)
      | (with_reducible refine LeO.bind ?_ (fun _ => ?_))
      | exact ih0 _ _ _ _
      | exact charge_Can.mono _ _ _
      | exact charge_Fewest.mono _ _ _
      | exact charge_Measure.mono _ _
      | exact diaphonelaw07_Long.mono _ _
      | exact diaphonelaw07_sane.mono _
      | exact diaphoneref07_Fewest.mono _ _ _
      | exact LeO.none _
      | refine LeO.ite ?_ ?_
      | refine LeO.bind ?_ (fun _ => ?_)
theorem diaphonelaw07_ChargeCans.mono : ∀ a0 a1 k, LeO (diaphonelaw07_ChargeCans.f k a0 a1) (diaphonelaw07_ChargeCans.f (k + 1) a0 a1) := by
  intro a0 a1 k
  have ih0 := diaphonelaw07_ChargeCans.mono_l k
  unfold diaphonelaw07_ChargeCans.f
  repeat' first
      | (with_reducible exact ih0 _ _ _ _)
      | (with_reducible exact charge_Can.mono _ _ _)
      | (with_reducible exact charge_Fewest.mono _ _ _)
      | (with_reducible exact charge_Measure.mono _ _)
      | (with_reducible exact diaphonelaw07_Long.mono _ _)
      | (with_reducible exact diaphonelaw07_sane.mono _)
      | (with_reducible exact diaphoneref07_Fewest.mono _ _ _)
      | (with_reducible exact LeO.refl _)
      | (with_reducible exact LeO.none _)
      | (with_reducible refine LeO.ite ?_ ?_)
      | (with_reducible refine LeO.bind ?_ (fun _ => ?_))
      | exact ih0 _ _ _ _
      | exact charge_Can.mono _ _ _
      | exact charge_Fewest.mono _ _ _
      | exact charge_Measure.mono _ _
      | exact diaphonelaw07_Long.mono _ _
      | exact diaphonelaw07_sane.mono _
      | exact diaphoneref07_Fewest.mono _ _ _
      | exact LeO.none _
      | refine LeO.ite ?_ ?_
      | refine LeO.bind ?_ (fun _ => ?_)
set_option maxHeartbeats 8000000 in
set_option maxRecDepth 100000 in
theorem diaphonelaw07_ChargeCans.calls (k : Nat) (P0_ : Nat → Prop) (A0 : Option Addr) (c0 : Nat) (l0 : List Int) (a1 : Int) (r : Bool) (w : World) (hs0 : Kd.V (Kd.int .i64) 3 w w.heap.size (fun k_ => P0_ k_) (.slice A0 l0.length c0) l0) (h : diaphonelaw07_ChargeCans.f k l0 a1 = some r) :
    Calls Try.prog 5 #[.slice A0 l0.length c0, .int .i64 a1] w fun e w' => e = .returned (.bool r) ∧ Below w.heap.size w w' := by
  have HO0 := Aside0.mk (show Kd.V (Kd.int .i64) 3 w w.heap.size (fun k_ => (P0_ k_ ∨ w.heap.size ≤ k_)) (.slice A0 l0.length c0) l0 from Kd.V_mono hs0 (fun k_ hk => .inl hk))
  have HB := Aside0.mk (Below.refl w.heap.size w)
  have H : ((diaphonelaw07_Long.f k (([l0] : List (List Int)))).bind fun t104 => (if t104 = true then ((diaphonelaw07_sane.f k).bind fun t105 => (some t105)) else ((charge_Can.f k l0 a1).bind fun bt106 => ((charge_Fewest.f k l0 a1).bind fun bt108 => ((diaphoneref07_Fewest.f k l0 a1).bind fun bt111 => (if (bt106.1 != bt111.2.1) = true then (diaphonelaw07_ChargeCans.j0 k l0 a1 bt106.1 true) else (if bt106.2 = bt111.2.2 then (if bt108.1 = bt111.1 then (if (bt108.2.1 != bt111.2.1) = true then (diaphonelaw07_ChargeCans.j0 k l0 a1 bt106.1 true) else (diaphonelaw07_ChargeCans.j0 k l0 a1 bt106.1 (bt108.2.2 != bt111.2.2))) else (diaphonelaw07_ChargeCans.j0 k l0 a1 bt106.1 true)) else (diaphonelaw07_ChargeCans.j0 k l0 a1 bt106.1 true)))))))) = some r := h
  clear h
  obtain ⟨y101, hy101⟩ : ∃ y_ : List (List Int), y_ = (([l0] : List (List Int))) := ⟨_, rfl⟩
  replace H : ((diaphonelaw07_Long.f k y101).bind fun t104 => (if t104 = true then ((diaphonelaw07_sane.f k).bind fun t105 => (some t105)) else ((charge_Can.f k l0 a1).bind fun bt106 => ((charge_Fewest.f k l0 a1).bind fun bt108 => ((diaphoneref07_Fewest.f k l0 a1).bind fun bt111 => (if (bt106.1 != bt111.2.1) = true then (diaphonelaw07_ChargeCans.j0 k l0 a1 bt106.1 true) else (if bt106.2 = bt111.2.2 then (if bt108.1 = bt111.1 then (if (bt108.2.1 != bt111.2.1) = true then (diaphonelaw07_ChargeCans.j0 k l0 a1 bt106.1 true) else (diaphonelaw07_ChargeCans.j0 k l0 a1 bt106.1 (bt108.2.2 != bt111.2.2))) else (diaphonelaw07_ChargeCans.j0 k l0 a1 bt106.1 true)) else (diaphonelaw07_ChargeCans.j0 k l0 a1 bt106.1 true)))))))) = some r := by first | (rw [hy101]; with_reducible exact H) | (have H2_ := (Option.bind_some _ _).symm.trans H; rw [hy101]; with_reducible exact H2_) | (have H2_ := (Option.bind_some _ _).symm.trans H; with_reducible exact H2_) | with_reducible exact H | (rw [hy101]; exact H) | exact H
  have Ny101 := Aside0.mk hy101
  clear hy101
  replace H := Option.bind_eq_some_iff.mp H
  obtain ⟨t104, A30, H⟩ := H
  replace H : (if t104 = true then ((diaphonelaw07_sane.f k).bind fun t105 => (some t105)) else ((charge_Can.f k l0 a1).bind fun bt106 => ((charge_Fewest.f k l0 a1).bind fun bt108 => ((diaphoneref07_Fewest.f k l0 a1).bind fun bt111 => (if (bt106.1 != bt111.2.1) = true then (diaphonelaw07_ChargeCans.j0 k l0 a1 bt106.1 true) else (if bt106.2 = bt111.2.2 then (if bt108.1 = bt111.1 then (if (bt108.2.1 != bt111.2.1) = true then (diaphonelaw07_ChargeCans.j0 k l0 a1 bt106.1 true) else (diaphonelaw07_ChargeCans.j0 k l0 a1 bt106.1 (bt108.2.2 != bt111.2.2))) else (diaphonelaw07_ChargeCans.j0 k l0 a1 bt106.1 true)) else (diaphonelaw07_ChargeCans.j0 k l0 a1 bt106.1 true))))))) = some r := H
  have A3 := Aside0.mk A30
  clear A30
  by_cases c4 : t104 = true
  · subst c4
    have H1 : ((diaphonelaw07_sane.f k).bind fun t105 => (some t105)) = some r := by rw [if_pos rfl] at H; exact H
    clear H
    have H := H1
    clear H1
    replace H := Option.bind_eq_some_iff.mp H
    obtain ⟨t105, A50, H⟩ := H
    replace H : (some t105) = some r := H
    have A5 := Aside0.mk A50
    clear A50
    obtain rfl := Option.some.inj H
    go_enter Try.func5, Try.ntmps5
    go_wp2_with (first | ((with_reducible refine gate_dst (N := 16) rfl ?_); refine Kd.N_lit (Kd.slice 3 (Kd.int .i64)) _ 22 ?hg (N' := 16) ?hd (xs := ([l0] : List (List Int))) (inner := [.slice A0 l0.length c0]) (ok := (fun k_ => (P0_ k_ ∨ w.heap.size ≤ k_))) (okp := (fun k_ => (P0_ k_ ∨ w.heap.size ≤ k_))) ?hr ?hp (fun _ hk => hk) ((show ∀ k_, w.heap.size ≤ k_ → (fun k_ => (P0_ k_ ∨ w.heap.size ≤ k_)) k_ from fun k_ hk => (.inr (Nat.le_trans (below_size (by repeat (first | (with_reducible first | exact HB.out | apply below_alloc | apply pw_below_drewN | apply below_drew1) | exact HB.out))) hk))) _ (Nat.le_refl _)) (Below.refl _ _) (Nat.le_refl _) (by simp) ?_; (case hd => rfl); (case hg => rfl); (case hr => first | (go_simp; done) | (go_simp; rfl)); (case hp => exact (Reps.one (show Kd.FK (Kd.slice 3 (Kd.int .i64)) _ _ l0 [.slice A0 l0.length c0] from (Kd.FK_slice_mk (Kd.V_reads' (Kd.V_mono (ok' := (fun k_ => (P0_ k_ ∨ w.heap.size ≤ k_))) (HO0.out) (fun k_ hk => hk))).2.1 (Kd.V_F (Kd.V_mono (ok' := (fun k_ => (P0_ k_ ∨ w.heap.size ≤ k_))) (HO0.out) (fun k_ hk => hk))))) (Reps.none _ _))); intro v102 w6 ho7 hb hg_ hnew_; clear hg_ hnew_; (first | rw [← Ny101.out] at ho7 | (simp only [Int.reduceToNat] at ho7; rw [← Ny101.out] at ho7)); have n0_ := Aside0.mk (Kd.V_elder' (by (with_reducible repeat (first | apply Kd.V_alloc | apply Kd.V_drewN | apply Kd.V_drew)); exact HO0.out) (Kd.N_base ho7) hb); have n1_ := Aside0.mk (Kd.N_lower ho7 (below_size (by repeat (first | (with_reducible first | exact HB.out | apply below_alloc | apply pw_below_drewN | apply below_drew1) | exact HB.out)))); have n2_ := Aside0.mk (below_step (by repeat (first | (with_reducible first | exact HB.out | apply below_alloc | apply pw_below_drewN | apply below_drew1) | exact HB.out)) hb); clear HO0; clear HB; have HO0 := n0_; have HO103 := n1_; have HB := n2_; clear n0_ n1_ n2_; clear hb ho7; obtain ⟨Ao8, co8, eo8⟩ := Kd.N_slice HO103.out; subst eo8) | ((with_reducible refine gate_callee (f := 19) rfl ?_); refine goesL_ (some 17) rfl rfl Try.func19 (by kernel_rfl) rfl #[.slice Ao8 y101.length co8] rfl (by (try simp only [List.map_toArray, List.map_cons, List.map_nil]); first | done | rfl | (simp only [List.length_drop, List.length_take]; rfl)) ?_; (with_reducible refine (diaphonelaw07_Long.calls k _ _ y101 true _ ?side1 ?side2 A3.out).mono ?_); (case side1 => repeat (first | exact (Kd.N_reads' HO103.out).2.2 | (with_reducible refine Kd.C_alloc ?_ _) | (with_reducible refine Kd.C_drewN ?_ _) | (with_reducible refine Kd.C_drew ?_))); (case side2 => exact (Kd.N_reads' HO103.out).2.1); rintro e w' ⟨rfl, ⟨nd, rfl⟩⟩; refine ⟨_, rfl, ?_⟩) | ((with_reducible refine gate_callee (f := 20) rfl ?_); refine goesL_ (some 18) rfl rfl Try.func20 (by kernel_rfl) rfl #[] rfl (by (try simp only [List.map_toArray, List.map_cons, List.map_nil]); first | done | rfl | (simp only [List.length_drop, List.length_take]; rfl)) ?_; (with_reducible refine (diaphonelaw07_sane.calls k  t105 _ A5.out).mono ?_); rintro e w9 ⟨rfl, hb⟩; refine ⟨_, rfl, ?_⟩; have n0_ := Aside0.mk (Kd.V_below (by (with_reducible repeat (first | apply Kd.V_alloc | apply Kd.V_drewN | apply Kd.V_drew)); exact HO0.out) hb); have n1_ := Aside0.mk (Kd.N_below (by (with_reducible repeat (first | apply Kd.N_alloc | apply Kd.N_drewN | apply Kd.N_drew)); exact HO103.out) hb); have n2_ := Aside0.mk (below_step (by repeat (first | (with_reducible first | exact HB.out | apply below_alloc | apply pw_below_drewN | apply below_drew1) | exact HB.out)) hb); clear HO0; clear HO103; clear HB; have HO0 := n0_; have HO103 := n1_; have HB := n2_; clear n0_ n1_ n2_; (try clear hb); (try clear hb2); (try clear hk); (try clear hi)))
    go_ret
    exact ⟨by first | rfl | (simp [errW_none, errW_some] <;> rfl) | (simp [*, errW_none, errW_some] <;> rfl), by repeat (first | (with_reducible first | exact HB.out | apply below_alloc | apply pw_below_drewN | apply below_drew1) | exact HB.out)⟩
  · replace c4 := Bool.eq_false_iff.mpr c4
    subst c4
    have H1 : ((charge_Can.f k l0 a1).bind fun bt106 => ((charge_Fewest.f k l0 a1).bind fun bt108 => ((diaphoneref07_Fewest.f k l0 a1).bind fun bt111 => (if (bt106.1 != bt111.2.1) = true then (diaphonelaw07_ChargeCans.j0 k l0 a1 bt106.1 true) else (if bt106.2 = bt111.2.2 then (if bt108.1 = bt111.1 then (if (bt108.2.1 != bt111.2.1) = true then (diaphonelaw07_ChargeCans.j0 k l0 a1 bt106.1 true) else (diaphonelaw07_ChargeCans.j0 k l0 a1 bt106.1 (bt108.2.2 != bt111.2.2))) else (diaphonelaw07_ChargeCans.j0 k l0 a1 bt106.1 true)) else (diaphonelaw07_ChargeCans.j0 k l0 a1 bt106.1 true)))))) = some r := by rw [if_neg (show ¬ (false = true) by decide)] at H; exact H
    clear H
    have H := H1
    clear H1
    replace H := Option.bind_eq_some_iff.mp H
    obtain ⟨⟨t106, t107⟩, A100, H⟩ := H
    replace H : ((charge_Fewest.f k l0 a1).bind fun bt108 => ((diaphoneref07_Fewest.f k l0 a1).bind fun bt111 => (if (t106 != bt111.2.1) = true then (diaphonelaw07_ChargeCans.j0 k l0 a1 t106 true) else (if t107 = bt111.2.2 then (if bt108.1 = bt111.1 then (if (bt108.2.1 != bt111.2.1) = true then (diaphonelaw07_ChargeCans.j0 k l0 a1 t106 true) else (diaphonelaw07_ChargeCans.j0 k l0 a1 t106 (bt108.2.2 != bt111.2.2))) else (diaphonelaw07_ChargeCans.j0 k l0 a1 t106 true)) else (diaphonelaw07_ChargeCans.j0 k l0 a1 t106 true))))) = some r := H
    have A10 := Aside0.mk A100
    clear A100
    replace H := Option.bind_eq_some_iff.mp H
    obtain ⟨⟨t108, t109, t110⟩, A110, H⟩ := H
    replace H : ((diaphoneref07_Fewest.f k l0 a1).bind fun bt111 => (if (t106 != bt111.2.1) = true then (diaphonelaw07_ChargeCans.j0 k l0 a1 t106 true) else (if t107 = bt111.2.2 then (if t108 = bt111.1 then (if (t109 != bt111.2.1) = true then (diaphonelaw07_ChargeCans.j0 k l0 a1 t106 true) else (diaphonelaw07_ChargeCans.j0 k l0 a1 t106 (t110 != bt111.2.2))) else (diaphonelaw07_ChargeCans.j0 k l0 a1 t106 true)) else (diaphonelaw07_ChargeCans.j0 k l0 a1 t106 true)))) = some r := H
    have A11 := Aside0.mk A110
    clear A110
    replace H := Option.bind_eq_some_iff.mp H
    obtain ⟨⟨t111, t112, t113⟩, A120, H⟩ := H
    replace H : (if (t106 != t112) = true then (diaphonelaw07_ChargeCans.j0 k l0 a1 t106 true) else (if t107 = t113 then (if t108 = t111 then (if (t109 != t112) = true then (diaphonelaw07_ChargeCans.j0 k l0 a1 t106 true) else (diaphonelaw07_ChargeCans.j0 k l0 a1 t106 (t110 != t113))) else (diaphonelaw07_ChargeCans.j0 k l0 a1 t106 true)) else (diaphonelaw07_ChargeCans.j0 k l0 a1 t106 true))) = some r := H
    have A12 := Aside0.mk A120
    clear A120
    have HC13 := Aside0.mk H
    clear H
    go_enter Try.func5, Try.ntmps5
    go_upto_region 6 with (first | ((with_reducible refine gate_dst (N := 16) rfl ?_); refine Kd.N_lit (Kd.slice 3 (Kd.int .i64)) _ 22 ?hg (N' := 16) ?hd (xs := ([l0] : List (List Int))) (inner := [.slice A0 l0.length c0]) (ok := (fun k_ => (P0_ k_ ∨ w.heap.size ≤ k_))) (okp := (fun k_ => (P0_ k_ ∨ w.heap.size ≤ k_))) ?hr ?hp (fun _ hk => hk) ((show ∀ k_, w.heap.size ≤ k_ → (fun k_ => (P0_ k_ ∨ w.heap.size ≤ k_)) k_ from fun k_ hk => (.inr (Nat.le_trans (below_size (by repeat (first | (with_reducible first | exact HB.out | apply below_alloc | apply pw_below_drewN | apply below_drew1) | exact HB.out))) hk))) _ (Nat.le_refl _)) (Below.refl _ _) (Nat.le_refl _) (by simp) ?_; (case hd => rfl); (case hg => rfl); (case hr => first | (go_simp; done) | (go_simp; rfl)); (case hp => exact (Reps.one (show Kd.FK (Kd.slice 3 (Kd.int .i64)) _ _ l0 [.slice A0 l0.length c0] from (Kd.FK_slice_mk (Kd.V_reads' (Kd.V_mono (ok' := (fun k_ => (P0_ k_ ∨ w.heap.size ≤ k_))) (HO0.out) (fun k_ hk => hk))).2.1 (Kd.V_F (Kd.V_mono (ok' := (fun k_ => (P0_ k_ ∨ w.heap.size ≤ k_))) (HO0.out) (fun k_ hk => hk))))) (Reps.none _ _))); intro v102 w14 ho15 hb hg_ hnew_; clear hg_ hnew_; (first | rw [← Ny101.out] at ho15 | (simp only [Int.reduceToNat] at ho15; rw [← Ny101.out] at ho15)); have n0_ := Aside0.mk (Kd.V_elder' (by (with_reducible repeat (first | apply Kd.V_alloc | apply Kd.V_drewN | apply Kd.V_drew)); exact HO0.out) (Kd.N_base ho15) hb); have n1_ := Aside0.mk (Kd.N_lower ho15 (below_size (by repeat (first | (with_reducible first | exact HB.out | apply below_alloc | apply pw_below_drewN | apply below_drew1) | exact HB.out)))); have n2_ := Aside0.mk (below_step (by repeat (first | (with_reducible first | exact HB.out | apply below_alloc | apply pw_below_drewN | apply below_drew1) | exact HB.out)) hb); clear HO0; clear HB; have HO0 := n0_; have HO103 := n1_; have HB := n2_; clear n0_ n1_ n2_; clear hb ho15; obtain ⟨Ao16, co16, eo16⟩ := Kd.N_slice HO103.out; subst eo16) | ((with_reducible refine gate_callee (f := 19) rfl ?_); refine goesL_ (some 17) rfl rfl Try.func19 (by kernel_rfl) rfl #[.slice Ao16 y101.length co16] rfl (by (try simp only [List.map_toArray, List.map_cons, List.map_nil]); first | done | rfl | (simp only [List.length_drop, List.length_take]; rfl)) ?_; (with_reducible refine (diaphonelaw07_Long.calls k _ _ y101 false _ ?side1 ?side2 A3.out).mono ?_); (case side1 => repeat (first | exact (Kd.N_reads' HO103.out).2.2 | (with_reducible refine Kd.C_alloc ?_ _) | (with_reducible refine Kd.C_drewN ?_ _) | (with_reducible refine Kd.C_drew ?_))); (case side2 => exact (Kd.N_reads' HO103.out).2.1); rintro e w' ⟨rfl, ⟨nd, rfl⟩⟩; refine ⟨_, rfl, ?_⟩) | ((with_reducible refine gate_callee (f := 21) rfl ?_); refine goesL_ (some 22) rfl rfl Try.func21 (by kernel_rfl) rfl #[.slice A0 l0.length c0, .int .i64 a1] rfl (by (try simp only [List.map_toArray, List.map_cons, List.map_nil]); first | done | rfl | (simp only [List.length_drop, List.length_take]; rfl)) ?_; (with_reducible refine (charge_Can.calls k _ _ l0 a1 t106 t107 _ ?side1 ?side2 A10.out).mono ?_); (case side1 => repeat (first | exact (Kd.V_reads' HO0.out).2.2 | (with_reducible refine Kd.C_alloc ?_ _) | (with_reducible refine Kd.C_drewN ?_ _) | (with_reducible refine Kd.C_drew ?_))); (case side2 => exact (Kd.V_reads' HO0.out).2.1); rintro e w17 ⟨rfl, hb⟩; refine ⟨_, rfl, ?_⟩; have n0_ := Aside0.mk (Kd.V_below (by (with_reducible repeat (first | apply Kd.V_alloc | apply Kd.V_drewN | apply Kd.V_drew)); exact HO0.out) hb); have n1_ := Aside0.mk (Kd.N_below (by (with_reducible repeat (first | apply Kd.N_alloc | apply Kd.N_drewN | apply Kd.N_drew)); exact HO103.out) hb); have n2_ := Aside0.mk (below_step (by repeat (first | (with_reducible first | exact HB.out | apply below_alloc | apply pw_below_drewN | apply below_drew1) | exact HB.out)) hb); clear HO0; clear HO103; clear HB; have HO0 := n0_; have HO103 := n1_; have HB := n2_; clear n0_ n1_ n2_; (try clear hb); (try clear hb2); (try clear hk); (try clear hi)) | ((with_reducible refine gate_callee (f := 23) rfl ?_); refine goesL_ (some 28) rfl rfl Try.func23 (by kernel_rfl) rfl #[.slice A0 l0.length c0, .int .i64 a1] rfl (by (try simp only [List.map_toArray, List.map_cons, List.map_nil]); first | done | rfl | (simp only [List.length_drop, List.length_take]; rfl)) ?_; (with_reducible refine (charge_Fewest.calls k _ _ l0 a1 t108 t109 t110 _ ?side1 ?side2 A11.out).mono ?_); (case side1 => repeat (first | exact (Kd.V_reads' HO0.out).2.2 | (with_reducible refine Kd.C_alloc ?_ _) | (with_reducible refine Kd.C_drewN ?_ _) | (with_reducible refine Kd.C_drew ?_))); (case side2 => exact (Kd.V_reads' HO0.out).2.1); rintro e w18 ⟨rfl, hb⟩; refine ⟨_, rfl, ?_⟩; have n0_ := Aside0.mk (Kd.V_below (by (with_reducible repeat (first | apply Kd.V_alloc | apply Kd.V_drewN | apply Kd.V_drew)); exact HO0.out) hb); have n1_ := Aside0.mk (Kd.N_below (by (with_reducible repeat (first | apply Kd.N_alloc | apply Kd.N_drewN | apply Kd.N_drew)); exact HO103.out) hb); have n2_ := Aside0.mk (below_step (by repeat (first | (with_reducible first | exact HB.out | apply below_alloc | apply pw_below_drewN | apply below_drew1) | exact HB.out)) hb); clear HO0; clear HO103; clear HB; have HO0 := n0_; have HO103 := n1_; have HB := n2_; clear n0_ n1_ n2_; (try clear hb); (try clear hb2); (try clear hk); (try clear hi)) | ((with_reducible refine gate_callee (f := 24) rfl ?_); refine goesL_ (some 35) rfl rfl Try.func24 (by kernel_rfl) rfl #[.slice A0 l0.length c0, .int .i64 a1] rfl (by (try simp only [List.map_toArray, List.map_cons, List.map_nil]); first | done | rfl | (simp only [List.length_drop, List.length_take]; rfl)) ?_; (with_reducible refine (diaphoneref07_Fewest.calls k _ _ l0 a1 t111 t112 t113 _ ?side1 ?side2 A12.out).mono ?_); (case side1 => repeat (first | exact (Kd.V_reads' HO0.out).2.2 | (with_reducible refine Kd.C_alloc ?_ _) | (with_reducible refine Kd.C_drewN ?_ _) | (with_reducible refine Kd.C_drew ?_))); (case side2 => exact (Kd.V_reads' HO0.out).2.1); rintro e w19 ⟨rfl, hb⟩; refine ⟨_, rfl, ?_⟩; have n0_ := Aside0.mk (Kd.V_below (by (with_reducible repeat (first | apply Kd.V_alloc | apply Kd.V_drewN | apply Kd.V_drew)); exact HO0.out) hb); have n1_ := Aside0.mk (Kd.N_below (by (with_reducible repeat (first | apply Kd.N_alloc | apply Kd.N_drewN | apply Kd.N_drew)); exact HO103.out) hb); have n2_ := Aside0.mk (below_step (by repeat (first | (with_reducible first | exact HB.out | apply below_alloc | apply pw_below_drewN | apply below_drew1) | exact HB.out)) hb); clear HO0; clear HO103; clear HB; have HO0 := n0_; have HO103 := n1_; have HB := n2_; clear n0_ n1_ n2_; (try clear hb); (try clear hb2); (try clear hk); (try clear hi)))
    (try simp only [Act.put, List.setIfInBounds_toArray, List.set_cons_zero, List.set_cons_succ])
    go_cut [61] (fun v61 wc => ∃ (kq : Nat) (x61_12 : Bool), v61 = .bool x61_12 ∧ Aside0 (diaphonelaw07_ChargeCans.j0 kq l0 a1 t106 x61_12 = some r) ∧ Aside0 (kq ≤ k) ∧ Aside0 (Kd.V (Kd.int .i64) 3 wc w.heap.size (fun k_ => (P0_ k_ ∨ w.heap.size ≤ k_)) (.slice A0 l0.length c0) l0) ∧ Aside0 (Below w.heap.size w wc))
    case first =>
      have H := HC13.out
      clear HC13
      by_cases c20 : (t106 != t112) = true
      · rw [if_pos c20] at H
        have c20b0 : (t106 != t112) = true := c20
        (try (have c20b1 : decide (t106 = t112) = false := by simpa using c20))
        (try (have c20b2 : (t106 == t112) = false := by simpa using c20))
        (try (have c20b3 : ¬ (t106 = t112) := by simpa using c20))
        clear c20
        (first | rw [c20b0] | (simp only [i64_w, i32_w]; rw [c20b0]) | skip)
        have H' := Aside0.mk H
        clear H
        go_wp2
        go_meet
        case rel => exact ⟨_, (true), (by first | rfl | (simp; done) | (simp [*]; done)), H', ⟨by first | omega | exact Nat.le_refl _⟩, ⟨by (with_reducible repeat (first | apply Kd.V_alloc | apply Kd.V_drewN | apply Kd.V_drew)); exact Kd.V_mono HO0.out (fun _ hk => hk.1)⟩, ⟨by repeat (first | (with_reducible first | exact HB.out | apply below_alloc | apply pw_below_drewN | apply below_drew1) | exact HB.out)⟩⟩
      · rw [if_neg c20] at H
        have c20b0 : (t106 != t112) = false := by simpa using c20
        (try (have c20b1 : decide (t106 = t112) = true := by simpa using c20))
        (try (have c20b2 : (t106 == t112) = true := by simpa using c20))
        clear c20
        (first | rw [c20b0] | (simp only [i64_w, i32_w]; rw [c20b0]) | skip)
        by_cases c21 : t107 = t113
        · rw [if_pos c21] at H
          have c21b0 : (t107 == t113) = true := beq_iff_eq.mpr c21
          have c21b1 : (t107 != t113) = false := bne_eq_false_iff_eq.mpr c21
          clear c21
          by_cases c22 : t108 = t111
          · rw [if_pos c22] at H
            have c22b0 : (t108 == t111) = true := beq_iff_eq.mpr c22
            have c22b1 : (t108 != t111) = false := bne_eq_false_iff_eq.mpr c22
            clear c22
            by_cases c23 : (t109 != t112) = true
            · rw [if_pos c23] at H
              have c23b0 : (t109 != t112) = true := c23
              (try (have c23b1 : decide (t109 = t112) = false := by simpa using c23))
              (try (have c23b2 : (t109 == t112) = false := by simpa using c23))
              (try (have c23b3 : ¬ (t109 = t112) := by simpa using c23))
              clear c23
              have H' := Aside0.mk H
              clear H
              go_wp2
              go_meet
              case rel => exact ⟨_, (true), (by first | rfl | (simp; done) | (simp [*]; done)), H', ⟨by first | omega | exact Nat.le_refl _⟩, ⟨by (with_reducible repeat (first | apply Kd.V_alloc | apply Kd.V_drewN | apply Kd.V_drew)); exact Kd.V_mono HO0.out (fun _ hk => hk.1)⟩, ⟨by repeat (first | (with_reducible first | exact HB.out | apply below_alloc | apply pw_below_drewN | apply below_drew1) | exact HB.out)⟩⟩
            · rw [if_neg c23] at H
              have c23b0 : (t109 != t112) = false := by simpa using c23
              (try (have c23b1 : decide (t109 = t112) = true := by simpa using c23))
              (try (have c23b2 : (t109 == t112) = true := by simpa using c23))
              clear c23
              have H' := Aside0.mk H
              clear H
              go_wp2
              go_meet
              case rel => exact ⟨_, ((t110 != t113)), (by first | rfl | (simp; done) | (simp [*]; done)), H', ⟨by first | omega | exact Nat.le_refl _⟩, ⟨by (with_reducible repeat (first | apply Kd.V_alloc | apply Kd.V_drewN | apply Kd.V_drew)); exact Kd.V_mono HO0.out (fun _ hk => hk.1)⟩, ⟨by repeat (first | (with_reducible first | exact HB.out | apply below_alloc | apply pw_below_drewN | apply below_drew1) | exact HB.out)⟩⟩
          · rw [if_neg c22] at H
            have c22b0 : (t108 == t111) = false := beq_eq_false_iff_ne.mpr c22
            have c22b1 : (t108 != t111) = true := bne_iff_ne.mpr c22
            have H' := Aside0.mk H
            clear H
            go_wp2
            go_meet
            case rel => exact ⟨_, (true), (by first | rfl | (simp; done) | (simp [*]; done)), H', ⟨by first | omega | exact Nat.le_refl _⟩, ⟨by (with_reducible repeat (first | apply Kd.V_alloc | apply Kd.V_drewN | apply Kd.V_drew)); exact Kd.V_mono HO0.out (fun _ hk => hk.1)⟩, ⟨by repeat (first | (with_reducible first | exact HB.out | apply below_alloc | apply pw_below_drewN | apply below_drew1) | exact HB.out)⟩⟩
        · rw [if_neg c21] at H
          have c21b0 : (t107 == t113) = false := beq_eq_false_iff_ne.mpr c21
          have c21b1 : (t107 != t113) = true := bne_iff_ne.mpr c21
          have H' := Aside0.mk H
          clear H
          go_wp2
          go_meet
          case rel => exact ⟨_, (true), (by first | rfl | (simp; done) | (simp [*]; done)), H', ⟨by first | omega | exact Nat.le_refl _⟩, ⟨by (with_reducible repeat (first | apply Kd.V_alloc | apply Kd.V_drewN | apply Kd.V_drew)); exact Kd.V_mono HO0.out (fun _ hk => hk.1)⟩, ⟨by repeat (first | (with_reducible first | exact HB.out | apply below_alloc | apply pw_below_drewN | apply below_drew1) | exact HB.out)⟩⟩
    case rest =>
      clear HC13
      try clear c1
      try clear c2
      try clear p2
      try clear c4
      try clear c5
      try clear c19
      try clear c20
      try clear c20b0
      try clear c20b1
      try clear c20b2
      try clear c21
      try clear c21b0
      try clear c21b1
      try clear c22
      try clear c22b0
      try clear c22b1
      try clear c23
      try clear c23b0
      try clear c23b1
      try clear c23b2
      obtain ⟨kq, x61_12, rfl, HA, HJ12, HO_0, HB⟩ := hcut
      cases kq with
      | zero => exact absurd HA.out (by simp [diaphonelaw07_ChargeCans.j0])
      | succ kj12 =>
        have H := HA.out
        clear HA
        simp only [diaphonelaw07_ChargeCans.j0] at H
        by_cases c24 : x61_12 = true
        · subst c24
          have H1 : (some false) = some r := by rw [if_pos rfl] at H; exact H
          clear H
          have H := H1
          clear H1
          obtain rfl := Option.some.inj H
          go_wp2
          go_ret
          exact ⟨by first | rfl | (simp [errW_none, errW_some] <;> rfl) | (simp [*, errW_none, errW_some] <;> rfl), by repeat (first | (with_reducible first | exact HB.out | apply below_alloc | apply pw_below_drewN | apply below_drew1) | exact HB.out)⟩
        · replace c24 := Bool.eq_false_iff.mpr c24
          subst c24
          have H1 : ((charge_Measure.f kj12 l0).bind fun bt114 => (if t106 = true then (if bt114.2 = 0 then (if bt114.1 > 0 then (if bt114.1 = 0 then (none) else (if (Int.tmod a1 bt114.1) = 0 then ((diaphonelaw07_sane.f kj12).bind fun t116 => (some t116)) else (some false))) else (some false)) else (some false)) else ((diaphonelaw07_sane.f kj12).bind fun t117 => (some t117)))) = some r := by rw [if_neg (show ¬ (false = true) by decide)] at H; exact H
          clear H
          have H := H1
          clear H1
          replace H := Option.bind_eq_some_iff.mp H
          obtain ⟨⟨t114, t115⟩, A250, H⟩ := H
          replace H : (if t106 = true then (if t115 = 0 then (if t114 > 0 then (if t114 = 0 then (none) else (if (Int.tmod a1 t114) = 0 then ((diaphonelaw07_sane.f kj12).bind fun t116 => (some t116)) else (some false))) else (some false)) else (some false)) else ((diaphonelaw07_sane.f kj12).bind fun t117 => (some t117))) = some r := H
          have A25 := Aside0.mk A250
          clear A250
          by_cases c26 : t106 = true
          · subst c26
            have H1 : (if t115 = 0 then (if t114 > 0 then (if t114 = 0 then (none) else (if (Int.tmod a1 t114) = 0 then ((diaphonelaw07_sane.f kj12).bind fun t116 => (some t116)) else (some false))) else (some false)) else (some false)) = some r := by rw [if_pos rfl] at H; exact H
            clear H
            have H := H1
            clear H1
            by_cases c27 : t115 = 0
            · rw [if_pos c27] at H
              have c27b0 : (t115 == 0) = true := beq_iff_eq.mpr c27
              have c27b1 : (t115 != 0) = false := bne_eq_false_iff_eq.mpr c27
              clear c27
              by_cases c28 : t114 > 0
              · rw [if_pos c28] at H
                have c28b0 : decide (0 < t114) = true := decide_eq_true c28
                clear c28
                by_cases c29 : t114 = 0
                · rw [if_pos c29] at H
                  exact absurd H (by simp)
                · rw [if_neg c29] at H
                  have c29b0 : (t114 == 0) = false := beq_eq_false_iff_ne.mpr c29
                  have c29b1 : (t114 != 0) = true := bne_iff_ne.mpr c29
                  by_cases c30 : (Int.tmod a1 t114) = 0
                  · rw [if_pos c30] at H
                    have c30b0 : ((Int.tmod a1 t114) == 0) = true := beq_iff_eq.mpr c30
                    have c30b1 : ((Int.tmod a1 t114) != 0) = false := bne_eq_false_iff_eq.mpr c30
                    clear c30
                    replace H := Option.bind_eq_some_iff.mp H
                    obtain ⟨t116, A310, H⟩ := H
                    replace H : (some t116) = some r := H
                    have A31 := Aside0.mk A310
                    clear A310
                    obtain rfl := Option.some.inj H
                    go_wp2_with (first | ((with_reducible refine gate_callee (f := 25) rfl ?_); refine goesL_ (some 64) rfl rfl Try.func25 (by kernel_rfl) rfl #[.slice A0 l0.length c0] rfl (by (try simp only [List.map_toArray, List.map_cons, List.map_nil]); first | done | rfl | (simp only [List.length_drop, List.length_take]; rfl)) ?_; (with_reducible refine (charge_Measure.calls kj12 _ _ l0 t114 t115 _ ?side1 ?side2 A25.out).mono ?_); (case side1 => repeat (first | exact (Kd.V_reads' HO_0.out).2.2 | (with_reducible refine Kd.C_alloc ?_ _) | (with_reducible refine Kd.C_drewN ?_ _) | (with_reducible refine Kd.C_drew ?_))); (case side2 => exact (Kd.V_reads' HO_0.out).2.1); rintro e w' ⟨rfl, ⟨nd, rfl⟩⟩; refine ⟨_, rfl, ?_⟩) | (go_at_call 20; (with_reducible refine (diaphonelaw07_sane.calls kj12  t116 _ A31.out).mono ?_); rintro e w32 ⟨rfl, hb⟩; have n0_ := Aside0.mk (Kd.V_below (by (with_reducible repeat (first | apply Kd.V_alloc | apply Kd.V_drewN | apply Kd.V_drew)); exact HO_0.out) hb); have n1_ := Aside0.mk (below_step (by repeat (first | (with_reducible first | exact HB.out | apply below_alloc | apply pw_below_drewN | apply below_drew1) | exact HB.out)) hb); clear HO_0; clear HB; have HO_0 := n0_; have HB := n1_; clear n0_ n1_; (try clear hb); (try clear hb2); (try clear hk); (try clear hi)))
                    go_ret
                    exact ⟨by first | rfl | (simp [errW_none, errW_some] <;> rfl) | (simp [*, errW_none, errW_some] <;> rfl), by repeat (first | (with_reducible first | exact HB.out | apply below_alloc | apply pw_below_drewN | apply below_drew1) | exact HB.out)⟩
                  · rw [if_neg c30] at H
                    have c30b0 : ((Int.tmod a1 t114) == 0) = false := beq_eq_false_iff_ne.mpr c30
                    have c30b1 : ((Int.tmod a1 t114) != 0) = true := bne_iff_ne.mpr c30
                    obtain rfl := Option.some.inj H
                    go_wp2_with (first | ((with_reducible refine gate_callee (f := 25) rfl ?_); refine goesL_ (some 64) rfl rfl Try.func25 (by kernel_rfl) rfl #[.slice A0 l0.length c0] rfl (by (try simp only [List.map_toArray, List.map_cons, List.map_nil]); first | done | rfl | (simp only [List.length_drop, List.length_take]; rfl)) ?_; (with_reducible refine (charge_Measure.calls kj12 _ _ l0 t114 t115 _ ?side1 ?side2 A25.out).mono ?_); (case side1 => repeat (first | exact (Kd.V_reads' HO_0.out).2.2 | (with_reducible refine Kd.C_alloc ?_ _) | (with_reducible refine Kd.C_drewN ?_ _) | (with_reducible refine Kd.C_drew ?_))); (case side2 => exact (Kd.V_reads' HO_0.out).2.1); rintro e w' ⟨rfl, ⟨nd, rfl⟩⟩; refine ⟨_, rfl, ?_⟩))
                    go_ret
                    exact ⟨by first | rfl | (simp [errW_none, errW_some] <;> rfl) | (simp [*, errW_none, errW_some] <;> rfl), by repeat (first | (with_reducible first | exact HB.out | apply below_alloc | apply pw_below_drewN | apply below_drew1) | exact HB.out)⟩
              · rw [if_neg c28] at H
                have c28b0 : decide (0 < t114) = false := decide_eq_false c28
                clear c28
                obtain rfl := Option.some.inj H
                go_wp2_with (first | ((with_reducible refine gate_callee (f := 25) rfl ?_); refine goesL_ (some 64) rfl rfl Try.func25 (by kernel_rfl) rfl #[.slice A0 l0.length c0] rfl (by (try simp only [List.map_toArray, List.map_cons, List.map_nil]); first | done | rfl | (simp only [List.length_drop, List.length_take]; rfl)) ?_; (with_reducible refine (charge_Measure.calls kj12 _ _ l0 t114 t115 _ ?side1 ?side2 A25.out).mono ?_); (case side1 => repeat (first | exact (Kd.V_reads' HO_0.out).2.2 | (with_reducible refine Kd.C_alloc ?_ _) | (with_reducible refine Kd.C_drewN ?_ _) | (with_reducible refine Kd.C_drew ?_))); (case side2 => exact (Kd.V_reads' HO_0.out).2.1); rintro e w' ⟨rfl, ⟨nd, rfl⟩⟩; refine ⟨_, rfl, ?_⟩))
                go_ret
                exact ⟨by first | rfl | (simp [errW_none, errW_some] <;> rfl) | (simp [*, errW_none, errW_some] <;> rfl), by repeat (first | (with_reducible first | exact HB.out | apply below_alloc | apply pw_below_drewN | apply below_drew1) | exact HB.out)⟩
            · rw [if_neg c27] at H
              have c27b0 : (t115 == 0) = false := beq_eq_false_iff_ne.mpr c27
              have c27b1 : (t115 != 0) = true := bne_iff_ne.mpr c27
              obtain rfl := Option.some.inj H
              go_wp2_with (first | ((with_reducible refine gate_callee (f := 25) rfl ?_); refine goesL_ (some 64) rfl rfl Try.func25 (by kernel_rfl) rfl #[.slice A0 l0.length c0] rfl (by (try simp only [List.map_toArray, List.map_cons, List.map_nil]); first | done | rfl | (simp only [List.length_drop, List.length_take]; rfl)) ?_; (with_reducible refine (charge_Measure.calls kj12 _ _ l0 t114 t115 _ ?side1 ?side2 A25.out).mono ?_); (case side1 => repeat (first | exact (Kd.V_reads' HO_0.out).2.2 | (with_reducible refine Kd.C_alloc ?_ _) | (with_reducible refine Kd.C_drewN ?_ _) | (with_reducible refine Kd.C_drew ?_))); (case side2 => exact (Kd.V_reads' HO_0.out).2.1); rintro e w' ⟨rfl, ⟨nd, rfl⟩⟩; refine ⟨_, rfl, ?_⟩))
              go_ret
              exact ⟨by first | rfl | (simp [errW_none, errW_some] <;> rfl) | (simp [*, errW_none, errW_some] <;> rfl), by repeat (first | (with_reducible first | exact HB.out | apply below_alloc | apply pw_below_drewN | apply below_drew1) | exact HB.out)⟩
          · replace c26 := Bool.eq_false_iff.mpr c26
            subst c26
            have H1 : ((diaphonelaw07_sane.f kj12).bind fun t117 => (some t117)) = some r := by rw [if_neg (show ¬ (false = true) by decide)] at H; exact H
            clear H
            have H := H1
            clear H1
            replace H := Option.bind_eq_some_iff.mp H
            obtain ⟨t117, A330, H⟩ := H
            replace H : (some t117) = some r := H
            have A33 := Aside0.mk A330
            clear A330
            obtain rfl := Option.some.inj H
            go_wp2_with (first | ((with_reducible refine gate_callee (f := 25) rfl ?_); refine goesL_ (some 64) rfl rfl Try.func25 (by kernel_rfl) rfl #[.slice A0 l0.length c0] rfl (by (try simp only [List.map_toArray, List.map_cons, List.map_nil]); first | done | rfl | (simp only [List.length_drop, List.length_take]; rfl)) ?_; (with_reducible refine (charge_Measure.calls kj12 _ _ l0 t114 t115 _ ?side1 ?side2 A25.out).mono ?_); (case side1 => repeat (first | exact (Kd.V_reads' HO_0.out).2.2 | (with_reducible refine Kd.C_alloc ?_ _) | (with_reducible refine Kd.C_drewN ?_ _) | (with_reducible refine Kd.C_drew ?_))); (case side2 => exact (Kd.V_reads' HO_0.out).2.1); rintro e w' ⟨rfl, ⟨nd, rfl⟩⟩; refine ⟨_, rfl, ?_⟩) | (go_at_call 20; (with_reducible refine (diaphonelaw07_sane.calls kj12  t117 _ A33.out).mono ?_); rintro e w34 ⟨rfl, hb⟩; have n0_ := Aside0.mk (Kd.V_below (by (with_reducible repeat (first | apply Kd.V_alloc | apply Kd.V_drewN | apply Kd.V_drew)); exact HO_0.out) hb); have n1_ := Aside0.mk (below_step (by repeat (first | (with_reducible first | exact HB.out | apply below_alloc | apply pw_below_drewN | apply below_drew1) | exact HB.out)) hb); clear HO_0; clear HB; have HO_0 := n0_; have HB := n1_; clear n0_ n1_; (try clear hb); (try clear hb2); (try clear hk); (try clear hi)))
            go_ret
            exact ⟨by first | rfl | (simp [errW_none, errW_some] <;> rfl) | (simp [*, errW_none, errW_some] <;> rfl), by repeat (first | (with_reducible first | exact HB.out | apply below_alloc | apply pw_below_drewN | apply below_drew1) | exact HB.out)⟩

end Go.Proofs.Ytgndhijhcliegaa.P
