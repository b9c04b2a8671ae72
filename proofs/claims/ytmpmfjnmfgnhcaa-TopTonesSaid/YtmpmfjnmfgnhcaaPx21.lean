-- laid by a program of this session (wip/tools): plain functions of the Go code and their contracts
import Derived.Test.YtmpmfjnmfgnhcaaPx0
import Derived.Test.YtmpmfjnmfgnhcaaPx2
import Derived.Test.YtmpmfjnmfgnhcaaPx50
namespace Go.Proofs.Ytmpmfjnmfgnhcaa.P
open Go.RowKit Go.Proofs.YtmpmfjnmfgnhcaaW.PrintWords Go.Proofs.YtmpmfjnmfgnhcaaW.PrintLast Go.Proofs.YtmpmfjnmfgnhcaaW.PrintMore
attribute [local go_sem] max2_int min2_int max_two min_two max_three min_three max_four min_four   -- for this text's walks alone
set_option linter.unusedVariables false
set_option linter.unusedSimpArgs false

/-! ### tone_tones: function 89 -/
def tone_tones.l0 : Nat → List (List Int) → Int → Int → Option (Int)
 | 0, _, _, _ => none
 | k + 1, x9, x10, x11 => if x11 < x10 then (if 0 ≤ x11 then (if x11 < (x9.length : Int) then ((tone_Validate.f k (rd_L1 x9 x11)).bind fun t102 => (if t102 = 0 then (tone_tones.l0 k x9 x10 (wrap64 (x11 + 1))) else (some t102))) else (none)) else (none)) else (some 0)
def tone_tones.f (k : Nat) (l0 : List (List Int)) : Option (Int) := if (l0.length : Int) > 6 then (some 3) else (tone_tones.l0 k l0 (l0.length : Int) 0)
theorem tone_tones.mono_l : ∀ k, (∀ y0 y1 y2, LeO (tone_tones.l0 k y0 y1 y2) (tone_tones.l0 (k + 1) y0 y1 y2))
 | 0 => fun _ _ _ r h => by simp [tone_tones.l0] at h
 | k + 1 => by
  have ih0 := tone_tones.mono_l k
  ·intro y0 y1 y2
   unfold tone_tones.l0
   repeat' first
   | (with_reducible exact ih0 _ _ _)
   | (with_reducible exact tone_Validate.mono _ _)
   | (with_reducible exact LeO.refl _)
   | (with_reducible exact LeO.none _)
   | (with_reducible refine LeO.ite ?_ ?_)
   | (with_reducible refine LeO.bind ?_ (fun _ => ?_))
   | exact ih0 _ _ _
   | exact tone_Validate.mono _ _
   | exact LeO.none _
   | refine LeO.ite ?_ ?_
   | refine LeO.bind ?_ (fun _ => ?_)
theorem tone_tones.mono : ∀ a0 k, LeO (tone_tones.f k a0) (tone_tones.f (k + 1) a0) := by
 intro a0 k
 have ih0 := tone_tones.mono_l k
 unfold tone_tones.f
 repeat' first
   | (with_reducible exact ih0 _ _ _)
   | (with_reducible exact tone_Validate.mono _ _)
   | (with_reducible exact LeO.refl _)
   | (with_reducible exact LeO.none _)
   | (with_reducible refine LeO.ite ?_ ?_)
   | (with_reducible refine LeO.bind ?_ (fun _ => ?_))
   | exact ih0 _ _ _
   | exact tone_Validate.mono _ _
   | exact LeO.none _
   | refine LeO.ite ?_ ?_
   | refine LeO.bind ?_ (fun _ => ?_)
set_option maxHeartbeats 8000000 in
set_option maxRecDepth 100000 in
theorem tone_tones.calls (k : Nat) (A0 : Option Addr) (c0 : Nat) (l0 : List (List Int)) (r : Int) (w : World) (hr0 : Kd.C (Kd.slice 3 (Kd.int .i64)) w A0 l0.length l0) (hc0 : l0.length ≤ c0) (h : tone_tones.f k l0 = some r) :
  Calls Try.prog 89 #[.slice A0 l0.length c0] w fun e w' => e = .returned (.int .i64 r) ∧ Drawn0 w w' := by
 have HR0 := Aside0.mk hr0
 have HC0 := Aside0.mk hc0
 clear hr0 hc0
 have H : (if (l0.length : Int) > 6 then (some 3) else (tone_tones.l0 k l0 (l0.length : Int) 0)) = some r := h
 clear h
 by_cases c2 : (l0.length : Int) > 6
 ·rw [if_pos c2] at H
  have c2b0 : decide (6 < (l0.length : Int)) = true := decide_eq_true c2
  have c2b1 : decide (6 < l0.length) = true := decide_eq_true (by omega)
  clear c2
  obtain rfl := Option.some.inj H
  go_enter Try.func89, Try.ntmps89
  go_wp2
  go_ret
  exact ⟨by first | rfl | (simp; done) | (simp [*]; done), by repeat (first | exact Drawn0.refl _ | apply Drawn0.step)⟩
 ·rw [if_neg c2] at H
  have c2b0 : decide (6 < (l0.length : Int)) = false := decide_eq_false c2
  have c2b1 : decide (6 < l0.length) = false := decide_eq_false (by omega)
  clear c2
  have H' := Aside0.mk H
  clear H
  go_enter Try.func89, Try.ntmps89
  go_wp2
  go_loopg [11] k (fun kq v11 w' => ∃ (x11_1 : Int), v11 = .int .i64 x11_1 ∧ Aside0 (tone_tones.l0 kq l0 (l0.length : Int) x11_1 = some r) ∧ Aside0 (kq ≤ k) ∧ Drawn0 w w')
  case atStart => exact ⟨(0), (by first | rfl | (simp; done) | (simp [*]; done)), H', ⟨Nat.le_refl _⟩, by repeat (first | exact Drawn0.refl _ | apply Drawn0.step)⟩
  case round =>
   clear H'
   try clear c2
   try clear c2b0
   try clear c2b1
   try clear p2
   obtain ⟨x11_1, rfl, HA, HK1, ⟨m1, rfl⟩⟩ := hrel
   cases gk with
   | zero => exact absurd HA.out (by simp [tone_tones.l0])
   | succ k1 =>
    have H := HA.out
    clear HA
    simp only [tone_tones.l0] at H
    by_cases c3 : x11_1 < (l0.length : Int)
    ·rw [if_pos c3] at H
     have c3b0 : decide (x11_1 < (l0.length : Int)) = true := decide_eq_true c3
     clear c3
     by_cases c4 : 0 ≤ x11_1
     ·rw [if_pos c4] at H
      have c4b0 : decide (0 ≤ x11_1) = true := decide_eq_true c4
      clear c4
      by_cases c5 : x11_1 < (l0.length : Int)
      ·rw [if_pos c5] at H
       have c5b0 : decide (x11_1 < (l0.length : Int)) = true := decide_eq_true c5
       clear c5
       replace H := Option.bind_eq_some_iff.mp H
       obtain ⟨t102, A60, H⟩ := H
       replace H : (if t102 = 0 then (tone_tones.l0 k1 l0 (l0.length : Int) (wrap64 (x11_1 + 1))) else (some t102)) = some r := H
       have A6 := Aside0.mk A60
       clear A60
       by_cases c7 : t102 = 0
       ·rw [if_pos c7] at H
        have c7b0 : (t102 == 0) = true := beq_iff_eq.mpr c7
        have c7b1 : (t102 != 0) = false := bne_eq_false_iff_eq.mpr c7
        clear c7
        have H' := Aside0.mk H
        clear H
        have p101 : 0 ≤ (x11_1 : Int) := of_decide_eq_true (by first | (with_reducible assumption) | assumption)
        have q101 : x11_1 < (l0.length : Int) := of_decide_eq_true (by first | (with_reducible assumption) | assumption)
        obtain ⟨ad101, A101_0, c101_0, e101, hx101_0, hl101_0, hi101_0⟩ := at_L1 HR0.out x11_1 p101 q101
        cases e101
        have HR101_0 := Aside0.mk hi101_0
        have HC101_0 := Aside0.mk hl101_0
        clear hi101_0 hl101_0
        replace p101 := eq_true p101
        replace q101 := eq_true q101
        go_wp2_with (first | ((with_reducible refine gate_callee (f := 26) rfl ?_); refine goesL_ (some 16) rfl rfl Try.func26 (by kernel_rfl) rfl #[.slice A101_0 (rd_L1 l0 x11_1).length c101_0] rfl (by (try simp only [List.map_toArray, List.map_cons, List.map_nil]); first | done | rfl | (simp only [List.length_drop, List.length_take]; rfl)) ?_; (with_reducible refine (tone_Validate.calls k1 _ _ (rd_L1 l0 x11_1) t102 _ ?side1 ?side2 A6.out).mono ?_); (case side1 => repeat (first | exact HR101_0.out | (with_reducible refine Kd.C_alloc ?_ _) | (with_reducible refine Kd.C_drewN ?_ _) | (with_reducible refine Kd.C_drew ?_))); (case side2 => exact HC101_0.out); rintro e w' ⟨rfl, ⟨nd, rfl⟩⟩; refine ⟨_, rfl, ?_⟩))
        go_roundg k1
        case measure => have := HK1.out; omega
        case rel => exact ⟨(wrap64 (x11_1 + 1)), (by first | rfl | (simp; done) | (simp [*]; done)), H', ⟨by have := HK1.out; omega⟩, by repeat (first | exact Drawn0.refl _ | apply Drawn0.step)⟩
       ·rw [if_neg c7] at H
        have c7b0 : (t102 == 0) = false := beq_eq_false_iff_ne.mpr c7
        have c7b1 : (t102 != 0) = true := bne_iff_ne.mpr c7
        obtain rfl := Option.some.inj H
        have p101 : 0 ≤ (x11_1 : Int) := of_decide_eq_true (by first | (with_reducible assumption) | assumption)
        have q101 : x11_1 < (l0.length : Int) := of_decide_eq_true (by first | (with_reducible assumption) | assumption)
        obtain ⟨ad101, A101_0, c101_0, e101, hx101_0, hl101_0, hi101_0⟩ := at_L1 HR0.out x11_1 p101 q101
        cases e101
        have HR101_0 := Aside0.mk hi101_0
        have HC101_0 := Aside0.mk hl101_0
        clear hi101_0 hl101_0
        replace p101 := eq_true p101
        replace q101 := eq_true q101
        go_wp2_with (first | ((with_reducible refine gate_callee (f := 26) rfl ?_); refine goesL_ (some 16) rfl rfl Try.func26 (by kernel_rfl) rfl #[.slice A101_0 (rd_L1 l0 x11_1).length c101_0] rfl (by (try simp only [List.map_toArray, List.map_cons, List.map_nil]); first | done | rfl | (simp only [List.length_drop, List.length_take]; rfl)) ?_; (with_reducible refine (tone_Validate.calls k1 _ _ (rd_L1 l0 x11_1) t102 _ ?side1 ?side2 A6.out).mono ?_); (case side1 => repeat (first | exact HR101_0.out | (with_reducible refine Kd.C_alloc ?_ _) | (with_reducible refine Kd.C_drewN ?_ _) | (with_reducible refine Kd.C_drew ?_))); (case side2 => exact HC101_0.out); rintro e w' ⟨rfl, ⟨nd, rfl⟩⟩; refine ⟨_, rfl, ?_⟩))
        go_ret
        exact ⟨by first | rfl | (simp; done) | (simp [*]; done), by repeat (first | exact Drawn0.refl _ | apply Drawn0.step)⟩
      ·rw [if_neg c5] at H
       exact absurd H (by simp)
     ·rw [if_neg c4] at H
      exact absurd H (by simp)
    ·rw [if_neg c3] at H
     have c3b0 : decide (x11_1 < (l0.length : Int)) = false := decide_eq_false c3
     clear c3
     obtain rfl := Option.some.inj H
     go_wp2
     go_ret
     exact ⟨by first | rfl | (simp; done) | (simp [*]; done), by repeat (first | exact Drawn0.refl _ | apply Drawn0.step)⟩

/-! ### tone_Tell: function 50 -/
def tone_Tell.l0 : Nat → List (List Int) → List Int → List Int → Int → Option (List Int × Int)
 | 0, _, _, _, _ => none
 | k + 1, x0, x1, x8, x27 => if x27 < (x0.length : Int) then (if 0 ≤ x27 then ((tone_pieces.f (rd_L1 x0 x27) (x1.length : Int)).bind fun t1 => (if x1 ∈ t1 then (if x8.length < 17592186044416 then (tone_Tell.l0 k x0 x1 (x8 ++ [x27]) (wrap64 (x27 + 1))) else none) else (tone_Tell.l0 k x0 x1 x8 (wrap64 (x27 + 1))))) else none) else (some (x8, 0))
def tone_Tell.f (k : Nat) (l0 : List (List Int)) (l1 : List Int) : Option (List Int × Int) := (tone_tones.f k l0).bind fun t101 => (if t101 = 0 then (if (l1.length : Int) > 60 then (some (([] : List Int), 3)) else ((tone_isSeconds.f k l1).bind fun t102 => (if t102 = true then (if l1.all (fun x => x == 0 || x == 1) = true then (tone_Tell.l0 k l0 l1 ([] : List Int) 0) else none) else (some (([] : List Int), 1))))) else (some (([] : List Int), t101)))
theorem tone_Tell.mono_l : ∀ k, (∀ y0 y1 y2 y3, LeO (tone_Tell.l0 k y0 y1 y2 y3) (tone_Tell.l0 (k + 1) y0 y1 y2 y3))
 | 0 => fun _ _ _ _ r h => by simp [tone_Tell.l0] at h
 | k + 1 => by
  have ih0 := tone_Tell.mono_l k
  intro y0 y1 y2 y3
  unfold tone_Tell.l0
  repeat' first
   | (with_reducible exact ih0 _ _ _ _)
   | (with_reducible exact LeO.refl _)
   | (with_reducible exact LeO.none _)
   | (with_reducible refine LeO.ite ?_ ?_)
   | (with_reducible refine LeO.bind ?_ (fun _ => ?_))
   | exact ih0 _ _ _ _
   | exact LeO.none _
theorem tone_Tell.mono : ∀ a0 a1 k, LeO (tone_Tell.f k a0 a1) (tone_Tell.f (k + 1) a0 a1) := by
 intro a0 a1 k
 have ih0 := tone_Tell.mono_l k
 unfold tone_Tell.f
 repeat' first
   | (with_reducible exact ih0 _ _ _ _)
   | (with_reducible exact tone_tones.mono _ _)
   | (with_reducible exact tone_isSeconds.mono _ _)
   | (with_reducible exact LeO.refl _)
   | (with_reducible exact LeO.none _)
   | (with_reducible refine LeO.ite ?_ ?_)
   | (with_reducible refine LeO.bind ?_ (fun _ => ?_))
   | exact ih0 _ _ _ _
   | exact tone_tones.mono _ _
   | exact tone_isSeconds.mono _ _
   | exact LeO.none _
theorem tp_src {w : World} {A : Option Addr} {xs : List Int} (h : Kd.C (Kd.int .i64) w A xs.length xs) (h0 : 0 < xs.length) : ∃ ad, A = some ad ∧ ∀ j v, (xs.map (Value.int .i64))[j]? = some v → w.cell? (ad.add j) = some v := by
 obtain ⟨ad, e, _⟩ := Kd.at_int h 0 (by omega) (by omega)
 refine ⟨ad, e, fun j v hj => ?_⟩
 rw [List.getElem?_map] at hj
 obtain ⟨x, hx, rfl⟩ := Option.map_eq_some_iff.1 hj
 obtain ⟨hl, hx⟩ := List.getElem?_eq_some_iff.1 hx
 obtain ⟨ad2, e2, hc⟩ := Kd.at_int h (j : Int) (by omega) (by omega)
 rw [e] at e2
 injection e2 with e2
 subst e2
 have : rd xs (j : Int) = x := by simp [rd, hl, hx]
 rw [this] at hc
 exact hc
theorem tp_range {W : World} {b : Nat} {xs : List Int} (h : W.heap[b]? = some (.cells (tp_cells xs).toArray 67 (0, 0))) : W.rangeAt b 0 (tp_cells xs) := fun j v hv => by
 have := blk_cell h j
 rw [Nat.zero_add, this, List.getElem?_toArray, hv]
theorem tp_bits {xs : List Int} (h : xs.all (fun x => x == 0 || x == 1) = true) (hl : xs.length ≤ 60) : tp_ok xs := ⟨hl, fun x hx => by
 have := List.all_eq_true.1 h x hx
 simp only [Bool.or_eq_true, beq_iff_eq] at this
 rcases this with e | e <;> (subst e; decide)⟩
theorem tp_found {n : Nat} {L : List (List Int)} (h : tp_all n L) {x : List Int} (hx : tp_ok x) (hl : x.length = n) {c : Bool} {ps : List MemPlace} (e : ((tp_set L).atKey (tp_lit x) (.lit (.bool false)), ps) = (DataW.lit (.bool c), [])) : c = decide (x ∈ L) := by
 have e := (Prod.ext_iff.1 e).1
 rw [tp_atKey h hx hl] at e
 injection e with e
 injection e with e
 exact e.symm
theorem tp_bool_inv2 {v : Value} {z : DataW Unit × List MemPlace} (h : plainElem Try.prog 4 v = some z) : ∃ c, v = .bool c ∧ z = (.lit (.bool c), []) := by
 unfold plainElem at h
 rw [Try.underlying4] at h
 split at h
 ·rename_i x _ _; injection h with h; exact ⟨_, rfl, h.symm⟩
 all_goals simp_all
theorem tp_copied {xs : List Int} (h : xs.length ≤ 60) : splice (List.replicate 60 (Value.int .i64 0)) 0 (xs.map (Value.int .i64)) = tp_cells xs := by
 unfold splice tp_cells tp_pad
 rw [List.map_append, List.map_replicate, List.take_zero, List.nil_append, List.length_map, Nat.zero_add, List.drop_replicate]
set_option maxHeartbeats 8000000 in
set_option maxRecDepth 100000 in
theorem tone_Tell.calls (k : Nat) (A0 : Option Addr) (c0 : Nat) (l0 : List (List Int)) (A1 : Option Addr) (c1 : Nat) (l1 : List Int) (r1 : List Int) (r2 : Int) (w : World) (hr0 : Kd.C (Kd.slice 3 (Kd.int .i64)) w A0 l0.length l0) (hc0 : l0.length ≤ c0) (hr1 : Kd.C (Kd.int .i64) w A1 l1.length l1) (hc1 : l1.length ≤ c1) (h : tone_Tell.f k l0 l1 = some (r1, r2)) :
  Calls Try.prog 50 #[.slice A0 l0.length c0, .slice A1 l1.length c1] w fun e w' => ∃ v0_ : Value, e = .returned (.tuple #[v0_, .int .i64 r2]) ∧ Kd.R (Kd.int .i64) 3 w' w.heap.size (fun _ => True) v0_ r1 ∧ Below w.heap.size w w' := by
 have HR0 := Aside0.mk hr0
 have HC0 := Aside0.mk hc0
 clear hr0 hc0
 have HR1 := Aside0.mk hr1
 have HC1 := Aside0.mk hc1
 clear hr1 hc1
 have HB := Aside0.mk (Below.refl w.heap.size w)
 have H : ((tone_tones.f k l0).bind fun t101 => (if t101 = 0 then (if (l1.length : Int) > 60 then (some (([] : List Int), 3)) else ((tone_isSeconds.f k l1).bind fun t102 => (if t102 = true then (if l1.all (fun x => x == 0 || x == 1) = true then (tone_Tell.l0 k l0 l1 ([] : List Int) 0) else none) else (some (([] : List Int), 1))))) else (some (([] : List Int), t101)))) = some (r1, r2) := h
 clear h
 obtain ⟨t101, A30, H⟩ := Option.bind_eq_some_iff.mp H
 have A3 := Aside0.mk A30
 clear A30
 by_cases c4 : t101 = 0
 ·rw [if_pos c4] at H
  have c4b0 : (t101 == 0) = true := beq_iff_eq.mpr c4
  have c4b1 : (t101 != 0) = false := bne_eq_false_iff_eq.mpr c4
  clear c4
  by_cases c5 : (l1.length : Int) > 60
  ·rw [if_pos c5] at H
   have c5b0 : decide (60 < (l1.length : Int)) = true := decide_eq_true c5
   have c5b1 : decide (60 < l1.length) = true := decide_eq_true (by omega)
   clear c5
   simp only [Option.some.injEq, Prod.mk.injEq] at H
   obtain ⟨rfl, rfl⟩ := H
   go_enter Try.func50, Try.ntmps50
   go_wp2_with (first | ((with_reducible refine gate_callee (f := 89) rfl ?_); refine goesL_ (some 12) rfl rfl Try.func89 (by kernel_rfl) rfl #[.slice A0 l0.length c0] rfl (by (try simp only [List.map_toArray, List.map_cons, List.map_nil]); first | done | rfl) ?_; (with_reducible refine (tone_tones.calls k _ _ l0 t101 _ ?side1 ?side2 A3.out).mono ?_); (case side1 => repeat (first | exact HR0.out | (with_reducible refine Kd.C_alloc ?_ _) | (with_reducible refine Kd.C_drewN ?_ _) | (with_reducible refine Kd.C_drew ?_))); (case side2 => exact HC0.out); rintro e w' ⟨rfl, ⟨nd, rfl⟩⟩; refine ⟨_, rfl, ?_⟩))
   go_ret2
   exact ⟨_, rfl, Kd.R_nil _ _ _ _ _, by repeat (first | (with_reducible first | exact HB.out | apply below_alloc | apply pw_below_drewN | apply below_drew1) | exact HB.out)⟩
  ·rw [if_neg c5] at H
   have c5b0 : decide (60 < (l1.length : Int)) = false := decide_eq_false c5
   have c5b1 : decide (60 < l1.length) = false := decide_eq_false (by omega)
   have HC5 := Aside0.mk (show l1.length ≤ 60 by omega)
   clear c5
   obtain ⟨t102, A60, H⟩ := Option.bind_eq_some_iff.mp H
   have A6 := Aside0.mk A60
   clear A60
   by_cases c7 : t102 = true
   ·subst c7
    rw [if_pos rfl] at H
    by_cases cb : l1.all (fun x => x == 0 || x == 1) = true
    case neg => rw [if_neg cb] at H; cases H
    rw [if_pos cb] at H
    have HBITS := Aside0.mk cb
    clear cb
    have H' := Aside0.mk H
    clear H
    go_enter Try.func50, Try.ntmps50
    go_wp2_with (first | ((with_reducible refine gate_callee (f := 89) rfl ?_); refine goesL_ (some 12) rfl rfl Try.func89 (by kernel_rfl) rfl #[.slice A0 l0.length c0] rfl (by (try simp only [List.map_toArray, List.map_cons, List.map_nil]); first | done | rfl) ?_; (with_reducible refine (tone_tones.calls k _ _ l0 t101 _ ?side1 ?side2 A3.out).mono ?_); (case side1 => repeat (first | exact HR0.out | (with_reducible refine Kd.C_alloc ?_ _) | (with_reducible refine Kd.C_drewN ?_ _) | (with_reducible refine Kd.C_drew ?_))); (case side2 => exact HC0.out); rintro e w' ⟨rfl, ⟨nd, rfl⟩⟩; refine ⟨_, rfl, ?_⟩) | ((with_reducible refine gate_callee (f := 72) rfl ?_); refine goesL_ (some 20) rfl rfl Try.func72 (by kernel_rfl) rfl #[.slice A1 l1.length c1] rfl (by (try simp only [List.map_toArray, List.map_cons, List.map_nil]); first | done | rfl) ?_; (with_reducible refine (tone_isSeconds.calls k _ _ l1 true _ ?side1 ?side2 A6.out).mono ?_); (case side1 => repeat (first | exact HR1.out | (with_reducible refine Kd.C_alloc ?_ _) | (with_reducible refine Kd.C_drewN ?_ _) | (with_reducible refine Kd.C_drew ?_))); (case side2 => exact HC1.out); rintro e w' ⟨rfl, ⟨nd2, rfl⟩⟩; refine ⟨_, rfl, ?_⟩) | (refine wpList_copy_splice rfl (.tmp 22) (.tmp 23) 22 22 rfl 3 Try.underlying22 (by kernel_rfl) _ _ 60 60 l1.length c1 rfl rfl w.heap.size 0 (List.replicate 60 (Value.int .i64 0)) 67 ?cg (l1.map (Value.int .i64)) ?cn ?cp ?cf ?c1 w.heap.size w ?cb (Nat.le_refl _) ?_; (case cg => exact (MapKept.heap_alloc _ _).1); (case cn => have := HC5.out; rw [List.length_map]; exact (Nat.min_eq_left this).symm); (case cp => intro h0; rw [List.length_map] at h0; exact ⟨rfl, tp_src (by repeat (first | exact HR1.out | (with_reducible refine Kd.C_alloc ?_ _) | (with_reducible refine Kd.C_drewN ?_ _) | (with_reducible refine Kd.C_drew ?_))) h0⟩); (case cf => have := HC5.out; simp; omega); (case c1 => intro v hv; obtain ⟨x, _, rfl⟩ := List.mem_map.1 hv; rfl); (case cb => repeat (first | (with_reducible first | exact HB.out | apply below_alloc | apply pw_below_drewN | apply below_drew1) | exact HB.out)); intro w1 hk1 hb1; rw [tp_copied HC5.out] at hk1))
    have HK1 : Aside0 (w1.heap[w.heap.size]? = some (.cells (tp_cells l1).toArray 67 (0, 0))) := ⟨hk1.out⟩
    have HB1 := Aside0.mk hb1
    clear hk1 hb1
    have HOK := Aside0.mk (tp_bits HBITS.out HC5.out)
    have hr0 := Kd.C_below HR0.out HB1.out
    have hr1 := Kd.C_below HR1.out HB1.out
    clear HR0 HR1 HB
    have HR0 := Aside0.mk hr0
    have HR1 := Aside0.mk hr1
    clear hr0 hr1
    have HB := Aside0.mk (Below.refl w1.heap.size w1)
    have HSZ : Aside0 (w.heap.size < w1.heap.size) := ⟨(Array.getElem?_eq_some_iff.1 HK1.out).1⟩
    go_loopg [8, 27] k (fun kq v8 v27 w' => ∃ (x8 : List Int) (x27 : Int), v27 = .int .i64 x27 ∧ Aside0 (tone_Tell.l0 kq l0 l1 x8 x27 = some (r1, r2)) ∧ Aside0 (kq ≤ k) ∧ Aside0 (Kd.R (Kd.int .i64) 3 w' w1.heap.size (fun _ => True) v8 x8) ∧ Aside0 (Below w1.heap.size w1 w'))
    case atStart => exact ⟨[], 0, rfl, H', ⟨Nat.le_refl _⟩, ⟨Kd.R_nil _ _ _ _ _⟩, HB⟩
    case round =>
     clear H' HB
     obtain ⟨x8_1, x27_1, rfl, HA, HK, HO_8, HB⟩ := hrel
     cases gk with
     | zero => exact absurd HA.out (by simp [tone_Tell.l0])
     | succ k1 =>
      have H := HA.out
      clear HA
      simp only [tone_Tell.l0] at H
      by_cases c8 : x27_1 < (l0.length : Int)
      ·rw [if_pos c8] at H
       have c8b0 : decide (x27_1 < (l0.length : Int)) = true := decide_eq_true c8
       by_cases c9 : 0 ≤ x27_1
       case neg => rw [if_neg c9] at H; cases H
       rw [if_pos c9] at H
       obtain ⟨t1, B1, H⟩ := Option.bind_eq_some_iff.mp H
       have B1 := Aside0.mk B1
       have H' := Aside0.mk H
       clear H
       obtain ⟨ad103, A103_0, c103_0, e103, hx103_0, hl103_0, hi103_0⟩ := at_L1 HR0.out x27_1 c9 c8
       cases e103
       replace hx103_0 := (HB.out.cell (World.block_lt_of_cell? w1 _ hx103_0)).trans hx103_0
       have HR103_0 := Aside0.mk hi103_0
       have HC103_0 := Aside0.mk hl103_0
       clear hi103_0 hl103_0
       have p103 := eq_true c9
       have q103 := eq_true c8
       clear c8 c9
       go_wp2
       have hkr : wr.heap[w.heap.size]? = some (.cells (tp_cells l1).toArray 67 (0, 0)) := (HB.out.block _ HSZ.out).trans HK1.out
       have HKR := Aside0.mk hkr
       have hrange : wr.rangeAt w.heap.size 0 (tp_cells l1) := tp_range hkr
       have hu67 := Try.underlying67
       have hi67 : (Try.prog.info? 67).map (·.size) = some (tp_cells l1).length := by rw [tp_cells_len HC5.out]; kernel_rfl
       have HLT : Aside0 (w.heap.size < wr.heap.size) := ⟨(Array.getElem?_eq_some_iff.1 hkr).1⟩
       clear hkr
       have hdbg : ∀ (b1 : Nat) (w2 : World), tp_map w2 ((l1.length : Int)).toNat b1 t1 → ∃ cv, cv = decide (l1 ∈ t1) ∧ (Instr.lookup 61 (.map (some b1)) (.agg (tp_cells l1).toArray) false).run Try.prog w2 = .ok (.bool cv) w2 := by
        intro b1 w2 hm1
        obtain ⟨v, ps, hlk2, hv2⟩ := hm1.2.lookup tp_keyed Try.underlying61 (z := .bool false) (by kernel_rfl) (plainElem_bool Try.underlying4 false) (tp_keyOf HOK.out)
        obtain ⟨cv, rfl, hcv⟩ := tp_bool_inv2 hv2
        exact ⟨cv, tp_found hm1.1 HOK.out (by simp) hcv, hlk2⟩
       have HDBG := Aside0.mk hdbg
       clear hdbg
       go_region_held3 (fun w' => w'.rangeAt w.heap.size 0 (tp_cells l1)) (first | assumption | (simp only [World.rangeAt_drew]; assumption)) (first | (go_at_call 84; refine (tone_pieces.calls _ _ (rd_L1 l0 x27_1) (l1.length : Int) t1 _ ?side1 ?side2 B1.out).mono ?_; (case side1 => repeat (first | exact (Kd.C_below HR103_0.out HB.out) | (with_reducible refine Kd.C_alloc ?_ _) | (with_reducible refine Kd.C_drewN ?_ _) | (with_reducible refine Kd.C_drew ?_))); (case side2 => exact HC103_0.out); rintro e w2 ⟨b1, rfl, hb1, hm1, hB2⟩; have HM1 := Aside0.mk hm1; have HB2 := Aside0.mk hB2; have hrange2 : w2.rangeAt w.heap.size 0 (tp_cells l1) := tp_range ((hB2.block _ HLT.out).trans HKR.out); obtain ⟨cv, hcv, hlk3⟩ := HDBG.out b1 w2 hm1; have HCV := Aside0.mk hcv; clear hm1 hB2 hcv))
       have HB3 : Aside0 (Below w1.heap.size w1 w2) := ⟨HB.out.drew.trans (HB2.out.mono (below_size HB.out.drew))⟩
       have HO2 : Aside0 (Kd.R (Kd.int .i64) 3 w2 w1.heap.size (fun _ => True) u8 x8_1) := ⟨Kd.R_below (Kd.R_drew HO_8.out) HB2.out⟩
       clear HM1 HDBG HB2 HKR hrange hu67 hi67 HLT
       by_cases cm : l1 ∈ t1
       ·have H := H'.out
        clear H'
        rw [if_pos cm] at H
        obtain rfl : cv = true := HCV.out.trans (decide_eq_true cm)
        clear HCV
        by_cases c18 : x8_1.length < 17592186044416
        case neg => rw [if_neg c18] at H; cases H
        rw [if_pos c18] at H
        have LMc18 := Aside0.mk c18
        clear c18 cm
        have H' := Aside0.mk H
        clear H
        have HB4 := HB3
        obtain ⟨Ao, co, eo⟩ := Kd.R_slice HO2.out
        subst eo
        go_wp2_with (first | ((with_reducible refine gate_builtin (b := .append) (xs := #[.tmp 38, .tmp 40]) rfl ?_); (try (refine gate_guard (by rfl) ?_; dsimp only)); at_builtin; refine Kd.R_append (Kd.int .i64) (w0 := w1) w1.heap.size rfl (.tmp 38) (.tmp 40) 22 3 (.int .i64 0) 8 rfl Try.underlying22 info3 rfl (by decide) (by omega) (.slice Ao x8_1.length co) x8_1 x27_1 [.int .i64 x27_1] (fun _ => True) (fun _ => False) rfl rfl ?aP (fun _ hk => hk.elim) ?aF ?aO ?aB ?aS ?aL ?_; (case aP => exact rfl); (case aB => exact HB3.out); (case aF => exact (fun _ _ => trivial)); (case aO => exact HO2.out); (case aS => exact (below_size HB3.out)); (case aL => have := LMc18.out; omega); intro v110 w19 ho hb hg hat; have HB5 := Aside0.mk hb; have HO111 := Aside0.mk ho; clear ho hb hg hat))
        go_roundg k1
        case measure => have := HK.out; omega
        case rel => exact ⟨x8_1 ++ [x27_1], wrap64 (x27_1 + 1), (by first | rfl | (simp; done) | (simp [*]; done)), H', ⟨by have := HK.out; omega⟩, HO111, HB5⟩
       ·have H := H'.out
        clear H'
        rw [if_neg cm] at H
        obtain rfl : cv = false := HCV.out.trans (decide_eq_false cm)
        clear HCV cm
        have H' := Aside0.mk H
        clear H
        go_wp2
        go_roundg k1
        case measure => have := HK.out; omega
        case rel => exact ⟨x8_1, wrap64 (x27_1 + 1), (by first | rfl | (simp; done) | (simp [*]; done)), H', ⟨by have := HK.out; omega⟩, HO2, HB3⟩
      ·rw [if_neg c8] at H
       have c8b0 : decide (x27_1 < (l0.length : Int)) = false := decide_eq_false c8
       clear c8
       simp only [Option.some.injEq, Prod.mk.injEq] at H
       obtain ⟨rfl, rfl⟩ := H
       go_wp2
       go_ret2
       exact ⟨_, rfl, Kd.R_lower HO_8.out (Nat.le_of_lt HSZ.out), HB1.out.trans (HB.out.mono (Nat.le_of_lt HSZ.out))⟩
   ·replace c7 := Bool.eq_false_iff.mpr c7
    subst c7
    rw [if_neg (by decide)] at H
    simp only [Option.some.injEq, Prod.mk.injEq] at H
    obtain ⟨rfl, rfl⟩ := H
    go_enter Try.func50, Try.ntmps50
    go_wp2_with (first | ((with_reducible refine gate_callee (f := 89) rfl ?_); refine goesL_ (some 12) rfl rfl Try.func89 (by kernel_rfl) rfl #[.slice A0 l0.length c0] rfl (by (try simp only [List.map_toArray, List.map_cons, List.map_nil]); first | done | rfl) ?_; (with_reducible refine (tone_tones.calls k _ _ l0 t101 _ ?side1 ?side2 A3.out).mono ?_); (case side1 => repeat (first | exact HR0.out | (with_reducible refine Kd.C_alloc ?_ _) | (with_reducible refine Kd.C_drewN ?_ _) | (with_reducible refine Kd.C_drew ?_))); (case side2 => exact HC0.out); rintro e w' ⟨rfl, ⟨nd, rfl⟩⟩; refine ⟨_, rfl, ?_⟩) | ((with_reducible refine gate_callee (f := 72) rfl ?_); refine goesL_ (some 20) rfl rfl Try.func72 (by kernel_rfl) rfl #[.slice A1 l1.length c1] rfl (by (try simp only [List.map_toArray, List.map_cons, List.map_nil]); first | done | rfl) ?_; (with_reducible refine (tone_isSeconds.calls k _ _ l1 false _ ?side1 ?side2 A6.out).mono ?_); (case side1 => repeat (first | exact HR1.out | (with_reducible refine Kd.C_alloc ?_ _) | (with_reducible refine Kd.C_drewN ?_ _) | (with_reducible refine Kd.C_drew ?_))); (case side2 => exact HC1.out); rintro e w' ⟨rfl, ⟨nd2, rfl⟩⟩; refine ⟨_, rfl, ?_⟩))
    go_ret2
    exact ⟨_, rfl, Kd.R_nil _ _ _ _ _, by repeat (first | (with_reducible first | exact HB.out | apply below_alloc | apply pw_below_drewN | apply below_drew1) | exact HB.out)⟩
 ·rw [if_neg c4] at H
  have c4b0 : (t101 == 0) = false := beq_eq_false_iff_ne.mpr c4
  have c4b1 : (t101 != 0) = true := bne_iff_ne.mpr c4
  simp only [Option.some.injEq, Prod.mk.injEq] at H
  obtain ⟨rfl, rfl⟩ := H
  go_enter Try.func50, Try.ntmps50
  go_wp2_with (first | ((with_reducible refine gate_callee (f := 89) rfl ?_); refine goesL_ (some 12) rfl rfl Try.func89 (by kernel_rfl) rfl #[.slice A0 l0.length c0] rfl (by (try simp only [List.map_toArray, List.map_cons, List.map_nil]); first | done | rfl) ?_; (with_reducible refine (tone_tones.calls k _ _ l0 t101 _ ?side1 ?side2 A3.out).mono ?_); (case side1 => repeat (first | exact HR0.out | (with_reducible refine Kd.C_alloc ?_ _) | (with_reducible refine Kd.C_drewN ?_ _) | (with_reducible refine Kd.C_drew ?_))); (case side2 => exact HC0.out); rintro e w' ⟨rfl, ⟨nd, rfl⟩⟩; refine ⟨_, rfl, ?_⟩))
  go_ret2
  exact ⟨_, rfl, Kd.R_nil _ _ _ _ _, by repeat (first | (with_reducible first | exact HB.out | apply below_alloc | apply pw_below_drewN | apply below_drew1) | exact HB.out)⟩


end Go.Proofs.Ytmpmfjnmfgnhcaa.P
