-- laid by a program of this session (wip/tools): plain functions of the Go code and their contracts
import Derived.Test.YtmpmfjnmfgnhcaaPx0
import Derived.Test.YtmpmfjnmfgnhcaaPx2
import Derived.Test.YtmpmfjnmfgnhcaaPx34
import Derived.Test.YtmpmfjnmfgnhcaaPx50
namespace Go.Proofs.Ytmpmfjnmfgnhcaa.P
open Go.RowKit Go.Proofs.YtmpmfjnmfgnhcaaW.PrintWords Go.Proofs.YtmpmfjnmfgnhcaaW.PrintLast Go.Proofs.YtmpmfjnmfgnhcaaW.PrintMore
attribute [local go_sem] max2_int min2_int max_two min_two max_three min_three max_four min_four   -- for this text's walks alone
set_option linter.unusedVariables false
set_option linter.unusedSimpArgs false

/-! ### tone_meet: function 100 -/
def tone_meet.f (l0 l1 : List Int) (a2 : Int) : Option Bool := (tone_pieces.f l1 a2).bind fun L => (tone_pieces.f l0 a2).bind fun M => some (M.any (fun x => decide (x ∈ L)))
theorem tp_bool_inv {v : Value} {z : DataW Unit × List MemPlace} (h : plainElem Try.prog 4 v = some z) : ∃ c, v = .bool c ∧ z = (.lit (.bool c), []) := by
 unfold plainElem at h
 rw [Try.underlying4] at h
 split at h
 ·rename_i x _ _; injection h with h; exact ⟨_, rfl, h.symm⟩
 all_goals simp_all
theorem tp_store {w' : World} {n : Nat} (hn : w'.heap.size = n) {x : List Int} (hx : x.length ≤ 60) : ∀ c : Array Value, c.size = 60 → (storeCells ⟨n, 0, none⟩ (tp_cells x)).run Try.prog (w'.alloc (.cells c 67)) = .ok () (w'.alloc (.cells (tp_cells x).toArray 67)) := by
 subst hn
 intro c hc
 have hl := tp_cells_len hx
 have hi : (Try.prog.info? 67).map (·.size) = some (tp_cells x).toArray.size := by rw [List.size_toArray, hl]; kernel_rfl
 exact run_storeCells_new (P := Try.prog) w' 67 c (tp_cells x).toArray hi (by rw [hc, List.size_toArray, hl]) (by simp [tp_cells, Value.oneCell'])
set_option maxHeartbeats 8000000 in
set_option maxRecDepth 100000 in
theorem tone_meet.calls (A0 : Option Addr) (c0 : Nat) (l0 : List Int) (A1 : Option Addr) (c1 : Nat) (l1 : List Int) (a2 : Int) (r : Bool) (w : World) (hr0 : Kd.C (Kd.int .i64) w A0 l0.length l0) (hc0 : l0.length ≤ c0) (hr1 : Kd.C (Kd.int .i64) w A1 l1.length l1) (hc1 : l1.length ≤ c1) (h : tone_meet.f l0 l1 a2 = some r) :
  Calls Try.prog 100 #[.slice A0 l0.length c0, .slice A1 l1.length c1, .int .i64 a2] w fun e w' => e = .returned (.bool r) ∧ Below w.heap.size w w' := by
 have HR0 := Aside0.mk hr0
 have HC0 := Aside0.mk hc0
 have HR1 := Aside0.mk hr1
 have HC1 := Aside0.mk hc1
 have HB := Aside0.mk (Below.refl w.heap.size w)
 clear hr0 hc0 hr1 hc1
 unfold tone_meet.f at h
 obtain ⟨L, h1, h⟩ := Option.bind_eq_some_iff.mp h
 obtain ⟨M, h2, h⟩ := Option.bind_eq_some_iff.mp h
 have A1' := Aside0.mk h1
 have A2' := Aside0.mk h2
 have HRES := Aside0.mk (Option.some.inj h)
 clear h1 h2 h
 go_enter Try.func100, Try.ntmps100
 go_wp2_with (first | ((with_reducible refine gate_callee (f := 84) rfl ?_); refine goesL_ (some 11) rfl rfl Try.func84 (by kernel_rfl) rfl #[.slice A1 l1.length c1, .int .i64 a2] rfl (by (try simp only [List.map_toArray, List.map_cons, List.map_nil]); first | done | rfl) ?_; (with_reducible refine (tone_pieces.calls _ _ l1 a2 L _ ?side1 ?side2 A1'.out).mono ?_); (case side1 => exact HR1.out); (case side2 => exact HC1.out); rintro e w1 ⟨b1, rfl, hb1, hm1, hB1⟩; refine ⟨_, rfl, ?_⟩; have HB1 := Aside0.mk hB1; have HM1 := Aside0.mk hm1; have HG1 := Aside0.mk hb1; clear hb1 hm1 hB1) | ((with_reducible refine gate_callee (f := 84) rfl ?_); refine goesL_ (some 14) rfl rfl Try.func84 (by kernel_rfl) rfl #[.slice A0 l0.length c0, .int .i64 a2] rfl (by (try simp only [List.map_toArray, List.map_cons, List.map_nil]); first | done | rfl) ?_; (with_reducible refine (tone_pieces.calls _ _ l0 a2 M _ ?side1 ?side2 A2'.out).mono ?_); (case side1 => exact Kd.C_below HR0.out HB1.out); (case side2 => exact HC0.out); rintro e w2 ⟨b2, rfl, hb2, hm2, hB2⟩; refine ⟨_, rfl, ?_⟩) | (at_range; refine wpList_range_own _ rfl _ 61 rfl 67 4 tp_keyed Try.underlying61 (plainElem Try.prog 4) b2 M.length (tp_set M) rfl hm2.2 ?_; intro w3 hrg hgr hsz))
 go_frame
 have hlt1 : b1 < w1.heap.size := by obtain ⟨_, es, cl, hb, _⟩ := HM1.out; exact (Array.getElem?_eq_some_iff.1 hb).1
 have hlt2 : b2 < w2.heap.size := by obtain ⟨_, es, cl, hb, _⟩ := hm2; exact (Array.getElem?_eq_some_iff.1 hb).1
 have hs12 := hB2.size
 have hs01 := HB1.out.size
 have HM3 := Aside0.mk (tp_map_of (w' := w3) HM1.out ((hgr.block b1 (by omega) (by simp)).trans (hB2.block b1 hlt1)))
 have HB3 : Aside0 (Below w.heap.size w w3) := ⟨(HB1.out.trans (hB2.mono hs01)).grown hgr (by omega) (fun k hk => by simp at hk)⟩
 have HLEFT : Aside0 (∀ x ∈ M, x ∈ L → Maps.has (tp_set M) (tp_lit x) = true) := ⟨fun x hx _ => by rw [tp_has hm2.1 (hm2.1 x hx).1 (hm2.1 x hx).2]; simpa using hx⟩
 have HONE : Aside0 (∀ kl, Maps.has (tp_set M) kl = true → ∃ x ∈ M, kl = tp_lit x) := ⟨fun kl hk => by
  unfold tp_set at hk
  rw [Maps.has_setOf _ _ _ (tp_lits hm2.1), List.any_map, List.any_eq_true] at hk
  obtain ⟨x, hx, hk⟩ := hk
  exact ⟨x, hx, (WideAt.sameKey_eq hk).symm⟩⟩
 have HALL := Aside0.mk hm2.1
 have HALL1 := Aside0.mk HM1.out.1
 have HRG := Aside0.mk hrg
 clear hrg hgr hm2 hB2
 go_loopw [] (fun wr => ∃ left cnt, Aside0 (wr.ranges Try.prog 67 (plainElem Try.prog 4) b2 w2.heap.size M.length (tp_set M) left cnt) ∧ Aside0 (tp_map wr a2.toNat b1 L) ∧ Aside0 (∀ x ∈ M, x ∈ L → left (tp_lit x) = true) ∧ Aside0 (∀ kl, left kl = true → ∃ x ∈ M, kl = tp_lit x) ∧ Aside0 (Below w.heap.size w wr)) (fun wr => wr.rangeLeft b2 w2.heap.size)
 case atStart => exact ⟨_, _, HRG, HM3, HLEFT, HONE, HB3⟩
 case round =>
  clear HRG HM3 HLEFT HONE HB3
  obtain ⟨left, cnt, HRG, HM3, HLEFT, HONE, HB3⟩ := hrel
  go_wp2_with (first | (at_next; refine wpList_next_ranges _ rfl _ rfl 67 tp_keyed (plainElem Try.prog 4) (fun v : Value => v) Value.bool (fun key kl _ => ⟨key, rfl⟩) (fun v y hv => by obtain ⟨c, e, _⟩ := tp_bool_inv hv; exact ⟨c, e⟩) b2 w2.heap.size M.length (tp_set M) left cnt rfl HRG.out (fun h0 hl => ?_) (fun x c kl y w' cnt' hkey hlk hv hat hrg' hlt hgr' hsz' hen => ?_); rotate_left; obtain ⟨x', hx', rfl⟩ := HONE.out kl hlk; obtain rfl : x = .agg (tp_cells x').toArray := tp_keyed.inj hkey (tp_keyOf (HALL.out x' hx').1); have hst := tp_store (w' := w') (n := wr.heap.size) hsz' (HALL.out x' hx').1.1; have hcl := tp_cells_len (HALL.out x' hx').1.1; rotate_right))
  ·have e : r = false := by
    rw [← HRES.out, List.any_eq_false]
    intro x hx
    have := HLEFT.out x hx
    rw [hl] at this
    simpa using this
   subst e
   go_wp2
   go_ret
   exact ⟨rfl, HB3.out⟩
  ·have HRG' := Aside0.mk hrg'
   have HHAT := Aside0.mk hgr'
   have hlt3 : b1 < wr.heap.size := by obtain ⟨_, es, cl, hb, _⟩ := HM3.out; exact (Array.getElem?_eq_some_iff.1 hb).1
   have HM4 : tp_map (w'.alloc (.cells (tp_cells x').toArray 67)) a2.toNat b1 L := tp_map_of HM3.out (((MapKept.heap_alloc w' _).2 b1 (by omega)).trans (hgr'.block b1 hlt3 (by intro e; injection e with e; omega)))
   obtain ⟨v, ps, hlk2, hv2⟩ := HM4.2.lookup tp_keyed Try.underlying61 (z := .bool false) (by kernel_rfl) (plainElem_bool Try.underlying4 false) (tp_keyOf (HALL.out x' hx').1)
   obtain ⟨cv, rfl, hcv⟩ := tp_bool_inv hv2
   have hsz2 : (Try.prog.info? 67).map (·.size) = some (tp_cells x').toArray.size := by rw [List.size_toArray, hcl]; kernel_rfl
   have hgp : (w'.alloc (.cells (tp_cells x').toArray 67)).heap[wr.heap.size]? = some (.cells (tp_cells x').toArray 67 (0, 0)) := by rw [← hsz']; exact (MapKept.heap_alloc _ _).1
   go_wp2
   refine wp_load_row 67 (.tmp 8) rfl wr.heap.size rfl 67 (tp_cells x').toArray (0, 0) _ hgp Try.underlying67 rfl hsz2 ?_
   have hlk3 : (Instr.lookup 61 (.map (some b1)) (.agg (tp_cells x').toArray) false).run Try.prog (w'.alloc (.cells (tp_cells x').toArray 67)) = .ok (.bool cv) (w'.alloc (.cells (tp_cells x').toArray 67)) := hlk2
   clear hlk2
   have hmem : cv = decide (x' ∈ L) := by
    have e := (Prod.ext_iff.1 hcv).1
    rw [tp_atKey HALL1.out (HALL.out x' hx').1 (HALL.out x' hx').2] at e
    injection e with e
    injection e with e
    exact e.symm
   have hsz4 : w2.heap.size ≤ wr.heap.size := by have := HRG.out.lt; omega
   have hB5 : Below w.heap.size w (w'.alloc (.cells (tp_cells x').toArray 67)) := Below.alloc (HB3.out.grown hgr' (by omega) (fun k hk => by injection hk with hk; omega)) (by omega) _
   have HMEM := Aside0.mk hmem
   clear hmem
   cases cv with
   | false =>
    go_wp2
    have hnot : x' ∉ L := by simpa using HMEM.out.symm
    refine ⟨⟨_, cnt', ⟨hrg'.alloc _⟩, ⟨HM4⟩, ⟨fun x hx hxl => ?_⟩, ⟨fun kl hk => ?_⟩, ⟨hB5⟩⟩, ?_⟩
    ·simp only [HLEFT.out x hx hxl, Bool.true_and]
     rw [tp_same (HALL.out x hx).1 (HALL.out x' hx').1 ((HALL.out x hx).2.trans (HALL.out x' hx').2.symm)]
     have : x ≠ x' := fun e => hnot (e ▸ hxl)
     simp [this]
    ·simp only [Bool.and_eq_true] at hk
     exact HONE.out kl hk.1
    ·rw [(hrg'.alloc _).left_eq, HRG.out.left_eq]; exact hlt
   | true =>
    go_wp2
    have hin : x' ∈ L := by simpa using HMEM.out.symm
    have e : r = true := by rw [← HRES.out, List.any_eq_true]; exact ⟨x', hx', by simpa using hin⟩
    subst e
    go_ret
    exact ⟨rfl, hB5⟩


/-! ### tone_listen: function 91 -/
def tone_listen.l0 : Nat → List Int → List Int → Int → Option (Int × Bool)
 | 0, _, _, _ => none
 | k + 1, x0, x1, x6 => (tone_meet.f x0 x1 x6).bind fun t108 => (if t108 = true then (tone_listen.l0 k x0 x1 (wrap64 (x6 + 1))) else (some (x6, true)))
def tone_listen.f (k : Nat) (l0 : List Int) (l1 : List Int) : Option (Int × Bool) := (tone_name.f k l0).bind fun t101 => ((tone_name.f k l1).bind fun t104 => ((slices_Equal_int_int.f k t101 t104).bind fun t107 => (if t107 = true then (some (0, false)) else (tone_listen.l0 k l0 l1 0))))
theorem tone_listen.mono_l : ∀ k, (∀ y0 y1 y2, LeO (tone_listen.l0 k y0 y1 y2) (tone_listen.l0 (k + 1) y0 y1 y2))
 | 0 => fun _ _ _ r h => by simp [tone_listen.l0] at h
 | k + 1 => by
  have ih0 := tone_listen.mono_l k
  ·intro y0 y1 y2
   unfold tone_listen.l0
   repeat' first
   | (with_reducible exact ih0 _ _ _)
   | (with_reducible exact slices_Equal_int_int.mono _ _ _)
   | (with_reducible exact tone_name.mono _ _)
   | (with_reducible exact LeO.refl _)
   | (with_reducible exact LeO.none _)
   | (with_reducible refine LeO.ite ?_ ?_)
   | (with_reducible refine LeO.bind ?_ (fun _ => ?_))
   | exact ih0 _ _ _
   | exact slices_Equal_int_int.mono _ _ _
   | exact tone_name.mono _ _
   | exact LeO.none _
   | refine LeO.ite ?_ ?_
   | refine LeO.bind ?_ (fun _ => ?_)
theorem tone_listen.mono : ∀ a0 a1 k, LeO (tone_listen.f k a0 a1) (tone_listen.f (k + 1) a0 a1) := by
 intro a0 a1 k
 have ih0 := tone_listen.mono_l k
 unfold tone_listen.f
 repeat' first
   | (with_reducible exact ih0 _ _ _)
   | (with_reducible exact slices_Equal_int_int.mono _ _ _)
   | (with_reducible exact tone_name.mono _ _)
   | (with_reducible exact LeO.refl _)
   | (with_reducible exact LeO.none _)
   | (with_reducible refine LeO.ite ?_ ?_)
   | (with_reducible refine LeO.bind ?_ (fun _ => ?_))
   | exact ih0 _ _ _
   | exact slices_Equal_int_int.mono _ _ _
   | exact tone_name.mono _ _
   | exact LeO.none _
   | refine LeO.ite ?_ ?_
   | refine LeO.bind ?_ (fun _ => ?_)
set_option maxHeartbeats 8000000 in
set_option maxRecDepth 100000 in
theorem tone_listen.calls (k : Nat) (A0 : Option Addr) (c0 : Nat) (l0 : List Int) (A1 : Option Addr) (c1 : Nat) (l1 : List Int) (r1 : Int) (r2 : Bool) (w : World) (hr0 : Kd.C (Kd.int .i64) w A0 l0.length l0) (hc0 : l0.length ≤ c0) (hr1 : Kd.C (Kd.int .i64) w A1 l1.length l1) (hc1 : l1.length ≤ c1) (h : tone_listen.f k l0 l1 = some (r1, r2)) :
  Calls Try.prog 91 #[.slice A0 l0.length c0, .slice A1 l1.length c1] w fun e w' => e = .returned (.tuple #[.int .i64 r1, .bool r2]) ∧ Below w.heap.size w w' := by
 have HR0 := Aside0.mk hr0
 have HC0 := Aside0.mk hc0
 clear hr0 hc0
 have HR1 := Aside0.mk hr1
 have HC1 := Aside0.mk hc1
 clear hr1 hc1
 have HB := Aside0.mk (Below.refl w.heap.size w)
 have H : ((tone_name.f k l0).bind fun t101 => ((tone_name.f k l1).bind fun t104 => ((slices_Equal_int_int.f k t101 t104).bind fun t107 => (if t107 = true then (some (0, false)) else (tone_listen.l0 k l0 l1 0))))) = some (r1, r2) := h
 clear h
 replace H := Option.bind_eq_some_iff.mp H
 obtain ⟨t101, A30, H⟩ := H
 replace H : ((tone_name.f k l1).bind fun t104 => ((slices_Equal_int_int.f k t101 t104).bind fun t107 => (if t107 = true then (some (0, false)) else (tone_listen.l0 k l0 l1 0)))) = some (r1, r2) := H
 have A3 := Aside0.mk A30
 clear A30
 replace H := Option.bind_eq_some_iff.mp H
 obtain ⟨t104, A40, H⟩ := H
 replace H : ((slices_Equal_int_int.f k t101 t104).bind fun t107 => (if t107 = true then (some (0, false)) else (tone_listen.l0 k l0 l1 0))) = some (r1, r2) := H
 have A4 := Aside0.mk A40
 clear A40
 replace H := Option.bind_eq_some_iff.mp H
 obtain ⟨t107, A50, H⟩ := H
 replace H : (if t107 = true then (some (0, false)) else (tone_listen.l0 k l0 l1 0)) = some (r1, r2) := H
 have A5 := Aside0.mk A50
 clear A50
 by_cases c6 : t107 = true
 ·subst c6
  have H1 : (some (0, false)) = some (r1, r2) := by rw [if_pos rfl] at H; exact H
  clear H
  have H := H1
  clear H1
  simp only [Option.some.injEq, Prod.mk.injEq] at H
  obtain ⟨rfl, rfl⟩ := H
  go_enter Try.func91, Try.ntmps91
  go_wp2_with (first | ((with_reducible refine gate_callee (f := 68) rfl ?_); refine goesL_ (some 8) rfl rfl Try.func68 (by kernel_rfl) rfl #[.slice A0 l0.length c0] rfl (by (try simp only [List.map_toArray, List.map_cons, List.map_nil]); first | done | rfl | (simp only [List.length_drop, List.length_take]; rfl)) ?_; (with_reducible refine (tone_name.calls k _ _ l0 t101 _ ?side1 ?side2 A3.out).mono ?_); (case side1 => repeat (first | exact HR0.out | (with_reducible refine Kd.C_alloc ?_ _) | (with_reducible refine Kd.C_drewN ?_ _) | (with_reducible refine Kd.C_drew ?_))); (case side2 => exact HC0.out); rintro e w7 ⟨v102, rfl, ho0, hb⟩; refine ⟨_, rfl, ?_⟩; have n0_ := Aside0.mk (Kd.R_lower ho0 (below_size (by repeat (first | (with_reducible first | exact HB.out | apply below_alloc | apply pw_below_drewN | apply below_drew1) | exact HB.out)))); have n1_ := Aside0.mk (below_step (by repeat (first | (with_reducible first | exact HB.out | apply below_alloc | apply pw_below_drewN | apply below_drew1) | exact HB.out)) hb); clear HB; have HO103 := n0_; have HB := n1_; clear n0_ n1_; (try clear hb); (try clear hb2); (try clear hk); (try clear hi); (try clear ho0)) | ((with_reducible refine gate_callee (f := 68) rfl ?_); refine goesL_ (some 10) rfl rfl Try.func68 (by kernel_rfl) rfl #[.slice A1 l1.length c1] rfl (by (try simp only [List.map_toArray, List.map_cons, List.map_nil]); first | done | rfl | (simp only [List.length_drop, List.length_take]; rfl)) ?_; (with_reducible refine (tone_name.calls k _ _ l1 t104 _ ?side1 ?side2 A4.out).mono ?_); (case side1 => repeat (first | exact (Kd.C_below HR1.out HB.out) | (with_reducible refine Kd.C_alloc ?_ _) | (with_reducible refine Kd.C_drewN ?_ _) | (with_reducible refine Kd.C_drew ?_))); (case side2 => exact HC1.out); rintro e w8 ⟨v105, rfl, ho0, hb⟩; refine ⟨_, rfl, ?_⟩; have n0_ := Aside0.mk (Kd.R_elder' (by (with_reducible repeat (first | apply Kd.R_alloc | apply Kd.R_drewN | apply Kd.R_drew)); exact HO103.out) (Kd.R_base ho0) hb); have n1_ := Aside0.mk (Kd.R_lower (Kd.R_new' ho0 (Kd.R_lt (by (with_reducible repeat (first | apply Kd.R_alloc | apply Kd.R_drewN | apply Kd.R_drew)); exact HO103.out))) (below_size (by repeat (first | (with_reducible first | exact HB.out | apply below_alloc | apply pw_below_drewN | apply below_drew1) | exact HB.out)))); have n2_ := Aside0.mk (below_step (by repeat (first | (with_reducible first | exact HB.out | apply below_alloc | apply pw_below_drewN | apply below_drew1) | exact HB.out)) hb); clear HO103; clear HB; have HO103 := n0_; have HO106 := n1_; have HB := n2_; clear n0_ n1_ n2_; (try clear hb); (try clear hb2); (try clear hk); (try clear hi); (try clear ho0); obtain ⟨Ao9, co9, eo9⟩ := Kd.R_slice HO103.out; subst eo9; obtain ⟨Ao10, co10, eo10⟩ := Kd.R_slice HO106.out; subst eo10) | ((with_reducible refine gate_callee (f := 80) rfl ?_); refine goesL_ (some 11) rfl rfl Try.func80 (by kernel_rfl) rfl #[.slice Ao9 t101.length co9, .slice Ao10 t104.length co10] rfl (by (try simp only [List.map_toArray, List.map_cons, List.map_nil]); first | done | rfl | (simp only [List.length_drop, List.length_take]; rfl)) ?_; (with_reducible refine (slices_Equal_int_int.calls k _ _ t101 _ _ t104 true _ ?side1 ?side2 ?side3 ?side4 A5.out).mono ?_); (case side1 => repeat (first | exact (Kd.R_reads' HO103.out).2.2 | (with_reducible refine Kd.C_alloc ?_ _) | (with_reducible refine Kd.C_drewN ?_ _) | (with_reducible refine Kd.C_drew ?_))); (case side2 => exact (Kd.R_reads' HO103.out).2.1); (case side3 => repeat (first | exact (Kd.R_reads' HO106.out).2.2 | (with_reducible refine Kd.C_alloc ?_ _) | (with_reducible refine Kd.C_drewN ?_ _) | (with_reducible refine Kd.C_drew ?_))); (case side4 => exact (Kd.R_reads' HO106.out).2.1); rintro e w' ⟨rfl, ⟨nd, rfl⟩⟩; refine ⟨_, rfl, ?_⟩))
  go_ret2
  exact ⟨by first | rfl | (simp [errW_none, errW_some] <;> rfl) | (simp [*, errW_none, errW_some] <;> rfl), by repeat (first | (with_reducible first | exact HB.out | apply below_alloc | apply pw_below_drewN | apply below_drew1) | exact HB.out)⟩
 ·replace c6 := Bool.eq_false_iff.mpr c6
  subst c6
  have H1 : (tone_listen.l0 k l0 l1 0) = some (r1, r2) := by rw [if_neg (show ¬ (false = true) by decide)] at H; exact H
  clear H
  have H := H1
  clear H1
  have H' := Aside0.mk H
  clear H
  go_enter Try.func91, Try.ntmps91
  go_wp2_with (first | ((with_reducible refine gate_callee (f := 68) rfl ?_); refine goesL_ (some 8) rfl rfl Try.func68 (by kernel_rfl) rfl #[.slice A0 l0.length c0] rfl (by (try simp only [List.map_toArray, List.map_cons, List.map_nil]); first | done | rfl | (simp only [List.length_drop, List.length_take]; rfl)) ?_; (with_reducible refine (tone_name.calls k _ _ l0 t101 _ ?side1 ?side2 A3.out).mono ?_); (case side1 => repeat (first | exact HR0.out | (with_reducible refine Kd.C_alloc ?_ _) | (with_reducible refine Kd.C_drewN ?_ _) | (with_reducible refine Kd.C_drew ?_))); (case side2 => exact HC0.out); rintro e w11 ⟨v102, rfl, ho0, hb⟩; refine ⟨_, rfl, ?_⟩; have n0_ := Aside0.mk (Kd.R_lower ho0 (below_size (by repeat (first | (with_reducible first | exact HB.out | apply below_alloc | apply pw_below_drewN | apply below_drew1) | exact HB.out)))); have n1_ := Aside0.mk (below_step (by repeat (first | (with_reducible first | exact HB.out | apply below_alloc | apply pw_below_drewN | apply below_drew1) | exact HB.out)) hb); clear HB; have HO103 := n0_; have HB := n1_; clear n0_ n1_; (try clear hb); (try clear hb2); (try clear hk); (try clear hi); (try clear ho0)) | ((with_reducible refine gate_callee (f := 68) rfl ?_); refine goesL_ (some 10) rfl rfl Try.func68 (by kernel_rfl) rfl #[.slice A1 l1.length c1] rfl (by (try simp only [List.map_toArray, List.map_cons, List.map_nil]); first | done | rfl | (simp only [List.length_drop, List.length_take]; rfl)) ?_; (with_reducible refine (tone_name.calls k _ _ l1 t104 _ ?side1 ?side2 A4.out).mono ?_); (case side1 => repeat (first | exact (Kd.C_below HR1.out HB.out) | (with_reducible refine Kd.C_alloc ?_ _) | (with_reducible refine Kd.C_drewN ?_ _) | (with_reducible refine Kd.C_drew ?_))); (case side2 => exact HC1.out); rintro e w12 ⟨v105, rfl, ho0, hb⟩; refine ⟨_, rfl, ?_⟩; have n0_ := Aside0.mk (Kd.R_elder' (by (with_reducible repeat (first | apply Kd.R_alloc | apply Kd.R_drewN | apply Kd.R_drew)); exact HO103.out) (Kd.R_base ho0) hb); have n1_ := Aside0.mk (Kd.R_lower (Kd.R_new' ho0 (Kd.R_lt (by (with_reducible repeat (first | apply Kd.R_alloc | apply Kd.R_drewN | apply Kd.R_drew)); exact HO103.out))) (below_size (by repeat (first | (with_reducible first | exact HB.out | apply below_alloc | apply pw_below_drewN | apply below_drew1) | exact HB.out)))); have n2_ := Aside0.mk (below_step (by repeat (first | (with_reducible first | exact HB.out | apply below_alloc | apply pw_below_drewN | apply below_drew1) | exact HB.out)) hb); clear HO103; clear HB; have HO103 := n0_; have HO106 := n1_; have HB := n2_; clear n0_ n1_ n2_; (try clear hb); (try clear hb2); (try clear hk); (try clear hi); (try clear ho0); obtain ⟨Ao13, co13, eo13⟩ := Kd.R_slice HO103.out; subst eo13; obtain ⟨Ao14, co14, eo14⟩ := Kd.R_slice HO106.out; subst eo14) | ((with_reducible refine gate_callee (f := 80) rfl ?_); refine goesL_ (some 11) rfl rfl Try.func80 (by kernel_rfl) rfl #[.slice Ao13 t101.length co13, .slice Ao14 t104.length co14] rfl (by (try simp only [List.map_toArray, List.map_cons, List.map_nil]); first | done | rfl | (simp only [List.length_drop, List.length_take]; rfl)) ?_; (with_reducible refine (slices_Equal_int_int.calls k _ _ t101 _ _ t104 false _ ?side1 ?side2 ?side3 ?side4 A5.out).mono ?_); (case side1 => repeat (first | exact (Kd.R_reads' HO103.out).2.2 | (with_reducible refine Kd.C_alloc ?_ _) | (with_reducible refine Kd.C_drewN ?_ _) | (with_reducible refine Kd.C_drew ?_))); (case side2 => exact (Kd.R_reads' HO103.out).2.1); (case side3 => repeat (first | exact (Kd.R_reads' HO106.out).2.2 | (with_reducible refine Kd.C_alloc ?_ _) | (with_reducible refine Kd.C_drewN ?_ _) | (with_reducible refine Kd.C_drew ?_))); (case side4 => exact (Kd.R_reads' HO106.out).2.1); rintro e w' ⟨rfl, ⟨nd, rfl⟩⟩; refine ⟨_, rfl, ?_⟩))
  go_loopg [6] k (fun kq v6 w' => ∃ (x6_1 : Int), v6 = .int .i64 x6_1 ∧ Aside0 (tone_listen.l0 kq l0 l1 x6_1 = some (r1, r2)) ∧ Aside0 (kq ≤ k) ∧ Aside0 (Below w.heap.size w w'))
  case atStart => exact ⟨(0), (by first | rfl | (simp; done) | (simp [*]; done)), H', ⟨Nat.le_refl _⟩, ⟨by repeat (first | (with_reducible first | exact HB.out | apply below_alloc | apply pw_below_drewN | apply below_drew1) | exact HB.out)⟩⟩
  case round =>
   clear H'
   try clear c1
   try clear p2
   try clear c6
   try clear c8
   try clear c9
   obtain ⟨x6_1, rfl, HA, HK1, HB⟩ := hrel
   cases gk with
   | zero => exact absurd HA.out (by simp [tone_listen.l0])
   | succ k1 =>
    have H := HA.out
    clear HA
    simp only [tone_listen.l0] at H
    replace H := Option.bind_eq_some_iff.mp H
    obtain ⟨t108, A150, H⟩ := H
    replace H : (if t108 = true then (tone_listen.l0 k1 l0 l1 (wrap64 (x6_1 + 1))) else (some (x6_1, true))) = some (r1, r2) := H
    have A15 := Aside0.mk A150
    clear A150
    by_cases c16 : t108 = true
    ·subst c16
     have H1 : (tone_listen.l0 k1 l0 l1 (wrap64 (x6_1 + 1))) = some (r1, r2) := by rw [if_pos rfl] at H; exact H
     clear H
     have H := H1
     clear H1
     have H' := Aside0.mk H
     clear H
     go_wp2_with (first | ((with_reducible refine gate_callee (f := 100) rfl ?_); refine goesL_ (some 15) rfl rfl Try.func100 (by kernel_rfl) rfl #[.slice A0 l0.length c0, .slice A1 l1.length c1, .int .i64 x6_1] rfl (by (try simp only [List.map_toArray, List.map_cons, List.map_nil]); first | done | rfl | (simp only [List.length_drop, List.length_take]; rfl)) ?_; (with_reducible refine (tone_meet.calls _ _ l0 _ _ l1 x6_1 true _ ?side1 ?side2 ?side3 ?side4 A15.out).mono ?_); (case side1 => repeat (first | exact (Kd.C_below HR0.out HB.out) | (with_reducible refine Kd.C_alloc ?_ _) | (with_reducible refine Kd.C_drewN ?_ _) | (with_reducible refine Kd.C_drew ?_))); (case side2 => exact HC0.out); (case side3 => repeat (first | exact (Kd.C_below HR1.out HB.out) | (with_reducible refine Kd.C_alloc ?_ _) | (with_reducible refine Kd.C_drewN ?_ _) | (with_reducible refine Kd.C_drew ?_))); (case side4 => exact HC1.out); rintro e w17 ⟨rfl, hb⟩; refine ⟨_, rfl, ?_⟩; have n0_ := Aside0.mk (below_step (by repeat (first | (with_reducible first | exact HB.out | apply below_alloc | apply pw_below_drewN | apply below_drew1) | exact HB.out)) hb); clear HB; have HB := n0_; clear n0_; (try clear hb); (try clear hb2); (try clear hk); (try clear hi)))
     go_roundg k1
     case measure => have := HK1.out; omega
     case rel => exact ⟨(wrap64 (x6_1 + 1)), (by first | rfl | (simp; done) | (simp [*]; done)), H', ⟨by have := HK1.out; omega⟩, ⟨by repeat (first | (with_reducible first | exact HB.out | apply below_alloc | apply pw_below_drewN | apply below_drew1) | exact HB.out)⟩⟩
    ·replace c16 := Bool.eq_false_iff.mpr c16
     subst c16
     have H1 : (some (x6_1, true)) = some (r1, r2) := by rw [if_neg (show ¬ (false = true) by decide)] at H; exact H
     clear H
     have H := H1
     clear H1
     simp only [Option.some.injEq, Prod.mk.injEq] at H
     obtain ⟨rfl, rfl⟩ := H
     go_wp2_with (first | ((with_reducible refine gate_callee (f := 100) rfl ?_); refine goesL_ (some 15) rfl rfl Try.func100 (by kernel_rfl) rfl #[.slice A0 l0.length c0, .slice A1 l1.length c1, .int .i64 x6_1] rfl (by (try simp only [List.map_toArray, List.map_cons, List.map_nil]); first | done | rfl | (simp only [List.length_drop, List.length_take]; rfl)) ?_; (with_reducible refine (tone_meet.calls _ _ l0 _ _ l1 x6_1 false _ ?side1 ?side2 ?side3 ?side4 A15.out).mono ?_); (case side1 => repeat (first | exact (Kd.C_below HR0.out HB.out) | (with_reducible refine Kd.C_alloc ?_ _) | (with_reducible refine Kd.C_drewN ?_ _) | (with_reducible refine Kd.C_drew ?_))); (case side2 => exact HC0.out); (case side3 => repeat (first | exact (Kd.C_below HR1.out HB.out) | (with_reducible refine Kd.C_alloc ?_ _) | (with_reducible refine Kd.C_drewN ?_ _) | (with_reducible refine Kd.C_drew ?_))); (case side4 => exact HC1.out); rintro e w18 ⟨rfl, hb⟩; refine ⟨_, rfl, ?_⟩; have n0_ := Aside0.mk (below_step (by repeat (first | (with_reducible first | exact HB.out | apply below_alloc | apply pw_below_drewN | apply below_drew1) | exact HB.out)) hb); clear HB; have HB := n0_; clear n0_; (try clear hb); (try clear hb2); (try clear hk); (try clear hi)))
     go_ret2
     exact ⟨by first | rfl | (simp [errW_none, errW_some] <;> rfl) | (simp [*, errW_none, errW_some] <;> rfl), by repeat (first | (with_reducible first | exact HB.out | apply below_alloc | apply pw_below_drewN | apply below_drew1) | exact HB.out)⟩

end Go.Proofs.Ytmpmfjnmfgnhcaa.P
