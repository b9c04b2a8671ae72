-- laid by a program of this session (wip/tools): plain functions of the Go code and their contracts
-- thinned
import Derived.Test.YtcbepmdnhjojdaaPx0
import Derived.Test.YtcbepmdnhjojdaaPx2
namespace Go.Proofs.Ytcbepmdnhjojdaa.P
open Go.RowKit Go.Proofs.YtcbepmdnhjojdaaW.PrintWords Go.Proofs.YtcbepmdnhjojdaaW.PrintLast Go.Proofs.YtcbepmdnhjojdaaW.PrintMore
attribute [local go_sem] max2_int min2_int max_two min_two max_three min_three max_four min_four   -- for this text's walks alone
set_option linter.unusedVariables false
set_option linter.unusedSimpArgs false

/-! ### log_Count: function 20 -/
/-! ### The smaller one of two costs -/
theorem log_res1 {P : Program} {fn : Func} {p : Tmp} {ty : TypeId} (h : fn.results = #[.cell p ty]) (tmps : Array Value) (w : World) (g : Nat) (t : TypeId) (cs : Array Value) (fr : Nat × Nat) (d : TypeDesc)
  (hp : tmps.getD p undef = .pointer (some ⟨g, 0, none⟩)) (hg : w.heap[g]? = some (.cells cs t fr))
  (hu : P.underlying ty = some d) (hd : (match d with | .struct _ | .array _ _ => true | _ => false) = true) (hi : (P.info? ty).map (·.size) = some cs.size) :
  (results fn tmps).run P w = .ok (.agg cs) w := by
 have hp' : tmps[p]?.getD undef = .pointer (some ⟨g, 0, none⟩) := by simpa using hp
 simp [results, h, hp', asAddr, run_loadVar_row w g t ty cs fr d hg hu hd hi]
theorem log_heap3 (w : World) (A B C : Obj) : (((w.alloc A).alloc B).alloc C).heap[w.heap.size + 1 + 1]? = some C := by
 have e : ((w.alloc A).alloc B).heap.size = w.heap.size + 1 + 1 := by rw [World.size_alloc, World.size_alloc]
 rw [← e]; exact blk_new _ _
def log_with (a b : Int × Int) : Int × Int := if a.2 = 0 ∨ (0 < b.2 ∧ b.1 < a.1) then b else if 0 < b.2 ∧ a.1 = b.1 then (a.1, wrap64 (a.2 + b.2)) else a
set_option maxHeartbeats 8000000 in
set_option maxRecDepth 100000 in
theorem log_with.t1 (a1 a2 b1 b2 : Int) (w : World) (h : a2 = 0) : Calls Try.prog 57 #[.agg #[.int .i64 a1, .int .i64 a2], .agg #[.int .i64 b1, .int .i64 b2]] w fun e w' => e = .returned (.agg #[.int .i64 b1, .int .i64 b2]) ∧ Below w.heap.size w w' := by
 have hu63 := Try.underlying63; have hd : (a2 == 0) = true := beq_iff_eq.mpr h; go_enter Try.func57, Try.ntmps57
 go_wp2
 refine bodyPost_ret (log_res1 (p := 4) (ty := 63) (by kernel_rfl) _ _ (w.heap.size + 1 + 1) 63 #[.int .i64 b1, .int .i64 b2] (0, 0) _ rfl ?hh Try.underlying63 rfl (by kernel_rfl)) rfl ⟨?hr, ?hb⟩
 case hh => exact log_heap3 _ _ _ _
 case hr => first | rfl | (simp [*]; done)
 case hb => repeat (first | (with_reducible first | exact Below.refl _ _ | apply Xc) | exact Below.refl _ _)
set_option maxHeartbeats 8000000 in
set_option maxRecDepth 100000 in
theorem log_with.t2 (a1 a2 b1 b2 : Int) (w : World) (h : a2 ≠ 0) (h2 : 0 < b2) (h3 : b1 < a1) : Calls Try.prog 57 #[.agg #[.int .i64 a1, .int .i64 a2], .agg #[.int .i64 b1, .int .i64 b2]] w fun e w' => e = .returned (.agg #[.int .i64 b1, .int .i64 b2]) ∧ Below w.heap.size w w' := by
 have hu63 := Try.underlying63; have hd : (a2 == 0) = false := beq_eq_false_iff_ne.mpr h; have hd2 : decide (0 < b2) = true := decide_eq_true h2; have hd3 : decide (b1 < a1) = true := decide_eq_true h3; go_enter Try.func57, Try.ntmps57
 go_wp2
 refine bodyPost_ret (log_res1 (p := 4) (ty := 63) (by kernel_rfl) _ _ (w.heap.size + 1 + 1) 63 #[.int .i64 b1, .int .i64 b2] (0, 0) _ rfl ?hh Try.underlying63 rfl (by kernel_rfl)) rfl ⟨?hr, ?hb⟩
 case hh => exact log_heap3 _ _ _ _
 case hr => first | rfl | (simp [*]; done)
 case hb => repeat (first | (with_reducible first | exact Below.refl _ _ | apply Xc) | exact Below.refl _ _)
set_option maxHeartbeats 8000000 in
set_option maxRecDepth 100000 in
theorem log_with.t3 (a1 a2 b1 b2 : Int) (w : World) (h : a2 ≠ 0) (h2 : 0 < b2) (h3 : ¬ b1 < a1) (h4 : a1 = b1) : Calls Try.prog 57 #[.agg #[.int .i64 a1, .int .i64 a2], .agg #[.int .i64 b1, .int .i64 b2]] w fun e w' => e = .returned (.agg #[.int .i64 b1, .int .i64 (wrap64 (a2 + b2))]) ∧ Below w.heap.size w w' := by
 have hu63 := Try.underlying63; have hd : (a2 == 0) = false := beq_eq_false_iff_ne.mpr h; have hd2 : decide (0 < b2) = true := decide_eq_true h2; have hd3 : decide (b1 < a1) = false := decide_eq_false h3; have hd4 : (a1 == b1) = true := beq_iff_eq.mpr h4; go_enter Try.func57, Try.ntmps57
 go_wp2
 refine bodyPost_ret (log_res1 (p := 4) (ty := 63) (by kernel_rfl) _ _ (w.heap.size + 1 + 1) 63 #[.int .i64 b1, .int .i64 (wrap64 (a2 + b2))] (0, 0) _ rfl ?hh Try.underlying63 rfl (by kernel_rfl)) rfl ⟨?hr, ?hb⟩
 case hh => exact log_heap3 _ _ _ _
 case hr => first | rfl | (simp [*]; done)
 case hb => repeat (first | (with_reducible first | exact Below.refl _ _ | apply Xc) | exact Below.refl _ _)
set_option maxHeartbeats 8000000 in
set_option maxRecDepth 100000 in
theorem log_with.t4 (a1 a2 b1 b2 : Int) (w : World) (h : a2 ≠ 0) (h2 : 0 < b2) (h3 : ¬ b1 < a1) (h4 : a1 ≠ b1) : Calls Try.prog 57 #[.agg #[.int .i64 a1, .int .i64 a2], .agg #[.int .i64 b1, .int .i64 b2]] w fun e w' => e = .returned (.agg #[.int .i64 a1, .int .i64 a2]) ∧ Below w.heap.size w w' := by
 have hu63 := Try.underlying63; have hd : (a2 == 0) = false := beq_eq_false_iff_ne.mpr h; have hd2 : decide (0 < b2) = true := decide_eq_true h2; have hd3 : decide (b1 < a1) = false := decide_eq_false h3; have hd4 : (a1 == b1) = false := beq_eq_false_iff_ne.mpr h4; go_enter Try.func57, Try.ntmps57
 go_wp2
 refine bodyPost_ret (log_res1 (p := 4) (ty := 63) (by kernel_rfl) _ _ (w.heap.size + 1 + 1) 63 #[.int .i64 a1, .int .i64 a2] (0, 0) _ rfl ?hh Try.underlying63 rfl (by kernel_rfl)) rfl ⟨?hr, ?hb⟩
 case hh => exact log_heap3 _ _ _ _
 case hr => first | rfl | (simp [*]; done)
 case hb => repeat (first | (with_reducible first | exact Below.refl _ _ | apply Xc) | exact Below.refl _ _)
set_option maxHeartbeats 8000000 in
set_option maxRecDepth 100000 in
theorem log_with.t5 (a1 a2 b1 b2 : Int) (w : World) (h : a2 ≠ 0) (h2 : ¬ 0 < b2) : Calls Try.prog 57 #[.agg #[.int .i64 a1, .int .i64 a2], .agg #[.int .i64 b1, .int .i64 b2]] w fun e w' => e = .returned (.agg #[.int .i64 a1, .int .i64 a2]) ∧ Below w.heap.size w w' := by
 have hu63 := Try.underlying63; have hd : (a2 == 0) = false := beq_eq_false_iff_ne.mpr h; have hd2 : decide (0 < b2) = false := decide_eq_false h2; go_enter Try.func57, Try.ntmps57
 go_wp2
 refine bodyPost_ret (log_res1 (p := 4) (ty := 63) (by kernel_rfl) _ _ (w.heap.size + 1 + 1) 63 #[.int .i64 a1, .int .i64 a2] (0, 0) _ rfl ?hh Try.underlying63 rfl (by kernel_rfl)) rfl ⟨?hr, ?hb⟩
 case hh => exact log_heap3 _ _ _ _
 case hr => first | rfl | (simp [*]; done)
 case hb => repeat (first | (with_reducible first | exact Below.refl _ _ | apply Xc) | exact Below.refl _ _)
theorem log_with.calls (a b : Int × Int) (w : World) : Calls Try.prog 57 #[.agg #[.int .i64 a.1, .int .i64 a.2], .agg #[.int .i64 b.1, .int .i64 b.2]] w fun e w' => e = .returned (.agg #[.int .i64 (log_with a b).1, .int .i64 (log_with a b).2]) ∧ Below w.heap.size w w' := by
 unfold log_with; by_cases h : a.2 = 0
 ·rw [if_pos (.inl h)]; exact log_with.t1 _ _ _ _ w h
 by_cases h2 : 0 < b.2
 ·by_cases h3 : b.1 < a.1
  ·rw [if_pos (.inr ⟨h2, h3⟩)]; exact log_with.t2 _ _ _ _ w h h2 h3
  rw [if_neg (fun q => q.elim h (fun q => h3 q.2))]; by_cases h4 : a.1 = b.1
  ·rw [if_pos ⟨h2, h4⟩]; exact (log_with.t3 _ _ _ _ w h h2 h3 h4).mono (fun e w' q => ⟨by rw [q.1, h4], q.2⟩)
  ·rw [if_neg (fun q => h4 q.2)]; exact log_with.t4 _ _ _ _ w h h2 h3 h4
 ·rw [if_neg (fun q => q.elim h (fun q => h2 q.1)), if_neg (fun q => h2 q.1)]; exact log_with.t5 _ _ _ _ w h h2

/-! ### The map of the last pairs -/
theorem log_laidOut : laidOutB Try.prog = true := by kernel_rfl
theorem log_row65 : (65 : TypeId) < Try.prog.types.size := of_decide_eq_true (by kernel_rfl)
theorem log_wide65 : (match Try.prog.underlying 65 with | some (.array _ _) | some (.struct _) => true | _ => false) = true := by rw [Try.underlying65]
theorem log_keyed : Maps.Keyed Try.prog 65 := Maps.Keyed.of_law (deep_law_laid log_laidOut (m := 2) (by omega) log_row65 (by kernel_rfl) log_wide65)
def log_key (a b : Int) : Value := .agg #[.int .i64 a, .int .i64 b]
def log_lit (a b : Int) : Lit := .string (keyBytes [Lit.int .i64 a, Lit.int .i64 b])
def log_elem (v : Value) : Option (DataW Unit × List MemPlace) :=
 match v with
 | .agg cs => (match cs.toList with | [.int .i64 a, .int .i64 b] => some (.agg [.lit (.int .i64 a), .lit (.int .i64 b)], []) | _ => none)
 | _ => none
theorem log_elem_mk (a b : Int) : log_elem (.agg #[.int .i64 a, .int .i64 b]) = some (.agg [.lit (.int .i64 a), .lit (.int .i64 b)], []) := rfl
theorem log_elem_inv {v : Value} {a b : Int} {ps : List MemPlace} (h : log_elem v = some (.agg [.lit (.int .i64 a), .lit (.int .i64 b)], ps)) : v = .agg #[.int .i64 a, .int .i64 b] := by
 unfold log_elem at h; split at h
 ·rename_i cs
  split at h
  ·rename_i x y e
   injection h with h; injection h with h1 h2; injection h1 with h1; injection h1 with h3 h4; injection h4 with h5 _; injection h3 with h3; injection h5 with h5; injection h3 with _ h3; injection h5 with _ h5; subst h3 h5; have : cs = #[.int .i64 x, .int .i64 y] := by
    have := congrArg List.toArray e; simpa using this
   rw [this]
  ·cases h
 ·cases h
theorem log_cellsOf : Try.prog.cellsOf 65 = 2 := by kernel_rfl
theorem log_cellsOf3 : Try.prog.cellsOf 3 = 1 := by kernel_rfl
theorem log_keyType : Try.prog.keyType 65 = true := by kernel_rfl
theorem log_keyOf {a b : Int} (ha : (Lit.int .i64 a).wf = true) (hb : (Lit.int .i64 b).wf = true) : keyOf Try.prog 65 (log_key a b) = some (log_lit a b) := by
 have hf : (log_key a b).formed Try.prog 65 = true := by
  simp [log_key, Value.formed, Try.underlying65, log_cellsOf]
 have hsz : Try.prog.types.size + 1 = (Try.prog.types.size - 1 + 1) + 1 := by
  have := log_row65; have h2 : (65 : Nat) < Try.prog.types.size := this; omega
 unfold keyOf; rw [Try.underlying65]; simp only [log_keyType, hf, Bool.and_self, if_true]; rw [hsz]; generalize Try.prog.types.size - 1 = d
 have hc : (log_key a b).cells.toList = [.int .i64 a, .int .i64 b] := rfl; rw [hc]; simp only [Program.keyLits, Try.underlying65, log_cellsOf, log_cellsOf3]; simp [Program.keyLits, Try.underlying3, log_cellsOf3, ha, hb, log_lit, List.mapM_cons]
theorem log_islit {a b : Int} (ha : (Lit.int .i64 a).wf = true) (hb : (Lit.int .i64 b).wf = true) : WideAt.IsKeyLit (log_lit a b) := log_keyed.key (log_keyOf ha hb)
theorem log_lit_inj {a b c d : Int} (ha : (Lit.int .i64 a).wf = true) (hb : (Lit.int .i64 b).wf = true) (hc : (Lit.int .i64 c).wf = true) (hd : (Lit.int .i64 d).wf = true) (e : log_lit a b = log_lit c d) : a = c ∧ b = d := by
 have e1 := log_keyOf hc hd; rw [← e] at e1; have e2 : log_key a b = log_key c d := log_keyed.inj (log_keyOf ha hb) e1; unfold log_key at e2; injection e2 with e3; have e4 : [Value.int .i64 a, Value.int .i64 b] = [Value.int .i64 c, Value.int .i64 d] := by simpa using e3
 injection e4 with e5 e6; injection e6 with e7 _; injection e5 with _ e5; injection e7 with _ e7; exact ⟨e5, e7⟩
theorem log_wf {n : Nat} (h : n ≤ 1000) : (Lit.int .i64 (n : Int)).wf = true := by
 simp only [Lit.wf, IntKind.min, IntKind.max, IntKind.signed, IntKind.bits, Bool.and_eq_true, decide_eq_true_eq, if_true]; omega
def log_zero : DataW Unit := .agg [.lit (.int .i64 0), .lit (.int .i64 0)]
def log_val (v : Int × Int) : DataW Unit := .agg [.lit (.int .i64 v.1), .lit (.int .i64 v.2)]
/-- Block b is the map that holds F at all places below p, row by row. -/
def log_map (w : World) (b n W p : Nat) (F : Nat → Nat → Int × Int) : Prop := ∃ D, w.ownsMap Try.prog 65 log_elem b n D ∧ Maps.IsMap D ∧ ∀ x y : Nat, y < W → x * W + y < p → D.atKey (log_lit (x : Int) (y : Int)) log_zero = log_val (F x y)
theorem log_map_of {w w' : World} {b n W p : Nat} {F : Nat → Nat → Int × Int} (h : log_map w b n W p F) (e : w'.heap[b]? = w.heap[b]?) : log_map w' b n W p F := by
 obtain ⟨D, ⟨es, clock, hb, rest⟩, h2, h3⟩ := h; exact ⟨D, ⟨es, clock, e.trans hb, rest⟩, h2, h3⟩
theorem log_map_lt {w : World} {b n W p : Nat} {F : Nat → Nat → Int × Int} (h : log_map w b n W p F) : b < w.heap.size := by
 obtain ⟨D, ⟨es, clock, hb, _⟩, _⟩ := h; exact (Array.getElem?_eq_some_iff.1 hb).1
theorem log_map_look {w : World} {b n W p : Nat} {F : Nat → Nat → Int × Int} (h : log_map w b n W p F) {x y : Nat} (hy : y < W) (hp : x * W + y < p) (hx : x ≤ 1000) (hy2 : y ≤ 1000) :
  (Instr.lookup 61 (.map (some b)) (.agg #[.int .i64 (x : Int), .int .i64 (y : Int)]) false).run Try.prog w = .ok (.agg #[.int .i64 (F x y).1, .int .i64 (F x y).2]) w := by
 obtain ⟨D, h1, h2, h3⟩ := h; obtain ⟨v, ps, hrun, hv⟩ := h1.lookup log_keyed Try.underlying61 (z := .agg #[.int .i64 0, .int .i64 0]) (by kernel_rfl) (log_elem_mk 0 0) (log_keyOf (log_wf hx) (log_wf hy2)); have e : D.atKey (log_lit (x : Int) (y : Int)) (.agg [.lit (.int .i64 0), .lit (.int .i64 0)]) = _ := h3 x y hy hp; rw [e] at hv; rw [log_elem_inv hv] at hrun; exact hrun
theorem log_map_put {D : DataW Unit} {W p a k : Nat} {F : Nat → Nat → Int × Int} (hm : Maps.IsMap D) (h : ∀ x y : Nat, y < W → x * W + y < p → D.atKey (log_lit (x : Int) (y : Int)) log_zero = log_val (F x y)) (hk : k < W) (ep : p = a * W + k) (hW : W ≤ 100) (ha : a ≤ 100) :
  ∀ x y : Nat, y < W → x * W + y < p + 1 → (D.put (log_lit (a : Int) (k : Int)) (log_val (F a k))).atKey (log_lit (x : Int) (y : Int)) log_zero = log_val (F x y) := by
 intro x y hy hp; by_cases e : x = a ∧ y = k
 ·obtain ⟨rfl, rfl⟩ := e; exact Maps.atKey_put_same hm (log_islit (log_wf (by omega)) (log_wf (by omega))) _ _
 ·have hlt : x * W + y < p := by
   refine Nat.lt_of_le_of_ne (Nat.lt_succ_iff.1 hp) (fun q => e ?_); have d1 := log_div (a := x) hy; have d2 := log_div (a := a) hk; rw [q, ep] at d1; exact ⟨d1.1.symm.trans d2.1, d1.2.symm.trans d2.2⟩
  have hx : x ≤ 1000 := by
   have h1 : x * W ≤ a * W + k := by omega
   have h2 : a * W + k ≤ 100 * W + W := Nat.add_le_add (Nat.mul_le_mul_right _ ha) (by omega); have h3 : x * W ≤ 101 * W := by rw [show 101 * W = 100 * W + W by omega]; omega
   have := Nat.le_of_mul_le_mul_right h3 (by omega); omega
  have hne : log_lit (a : Int) (k : Int) ≠ log_lit (x : Int) (y : Int) := fun q => by
   have := log_lit_inj (log_wf (by omega)) (log_wf (by omega)) (log_wf hx) (log_wf (by omega)) q; exact e (by omega)
  rw [Maps.atKey_put_other (fun q => hne q.symm)]; exact h x y hy hlt
/-! ### The closure of Count -/
def log_shift (o i : Int) (a k x y : Nat) : Int := ((a : Int) - 1 - x) * o + ((k : Int) - 1 - y) * i
def log_upin (F : Nat → Nat → Int × Int) (o i : Int) (a k x : Nat) (acc : Int × Int) : Nat → Int × Int
 | 0 => acc
 | y + 1 => log_with (log_upin F o i a k x acc y) ((F x y).1 + log_shift o i a k x y, (F x y).2)
def log_upout (F : Nat → Nat → Int × Int) (o i : Int) (a k : Nat) : Nat → Int × Int
 | 0 => ((a : Int) * o + (k : Int) * i, 1)
 | x + 1 => log_upin F o i a k x (log_upout F o i a k x) k
/-- What holds of the memory in the closure's loops. -/
def log_cinv (w w' : World) (gb gl mb n W p : Nat) (a0 a1 a2 : Int) (F : Nat → Nat → Int × Int) (acc : Int × Int) : Prop :=
 w'.heap[w.heap.size]? = some (.cells #[.int .i64 0, .int .i64 0] 63 (0, 0)) ∧ w'.heap[w.heap.size + 1]? = some (.cells #[.int .i64 acc.1, .int .i64 acc.2] 63 (0, 0)) ∧
 w'.heap[gb]? = some (.cells #[.int .i64 a0, .int .i64 a1, .int .i64 a2] 24 (0, 0)) ∧ w'.cell? ⟨gl, 0, none⟩ = some (.map (some mb)) ∧ log_map w' mb n W p F ∧ Below w.heap.size w w'
theorem log_cinv_below {w w1 w2 : World} {gb gl mb n W p : Nat} {a0 a1 a2 : Int} {F : Nat → Nat → Int × Int} {acc : Int × Int} (h : log_cinv w w1 gb gl mb n W p a0 a1 a2 F acc) (hb : Below w1.heap.size w1 w2) : log_cinv w w2 gb gl mb n W p a0 a1 a2 F acc :=
 ⟨XA h.1 hb, XA h.2.1 hb, XA h.2.2.1 hb, log_cell_below hb h.2.2.2.1, log_map_of h.2.2.2.2.1 (hb.block mb (log_map_lt h.2.2.2.2.1)), Xz h.2.2.2.2.2 hb⟩
theorem log_cinv_cells {w w1 : World} {gb gl mb n W p : Nat} {a0 a1 a2 : Int} {F : Nat → Nat → Int × Int} {acc : Int × Int} (h : log_cinv w w1 gb gl mb n W p a0 a1 a2 F acc) :
  w1.cell? ⟨gb, 0, none⟩ = some (.int .i64 a0) ∧ w1.cell? ⟨gb, 1, none⟩ = some (.int .i64 a1) ∧ w1.cell? ⟨w.heap.size + 1, 0, none⟩ = some (.int .i64 acc.1) ∧ w1.cell? ⟨w.heap.size + 1, 1, none⟩ = some (.int .i64 acc.2) :=
 ⟨(Xi h.2.2.1 0).trans rfl, (Xi h.2.2.1 1).trans rfl, (Xi h.2.1 0).trans rfl, (Xi h.2.1 1).trans rfl⟩
theorem log_cinv_alloc {w w1 : World} {gb gl mb n W p : Nat} {a0 a1 a2 : Int} {F : Nat → Nat → Int × Int} {acc : Int × Int} (h : log_cinv w w1 gb gl mb n W p a0 a1 a2 F acc) (o : Obj) : log_cinv w (w1.alloc o) gb gl mb n W p a0 a1 a2 F acc := log_cinv_below h (Xc (Below.refl _ _) o)
theorem log_cinv_store {w w1 : World} {gb gl mb n W p : Nat} {a0 a1 a2 : Int} {F : Nat → Nat → Int × Int} {acc : Int × Int} (h : log_cinv w w1 gb gl mb n W p a0 a1 a2 F acc) (hl : gb < w.heap.size ∧ gl < w.heap.size ∧ mb < w.heap.size) (r : Int × Int) : log_cinv w ((w1.setCell ⟨w.heap.size + 1, 0, none⟩ (.int .i64 r.1)).setCell ⟨w.heap.size + 1, 1, none⟩ (.int .i64 r.2)) gb gl mb n W p a0 a1 a2 F r := by
 have k : ∀ j, j ≠ w.heap.size + 1 → ((w1.setCell ⟨w.heap.size + 1, 0, none⟩ (.int .i64 r.1)).setCell ⟨w.heap.size + 1, 1, none⟩ (.int .i64 r.2)).heap[j]? = w1.heap[j]? := fun j hj => (Below.heap_setCell _ _ _ _ hj).trans (Below.heap_setCell _ _ _ _ hj)
 have hle : w.heap.size ≤ w.heap.size + 1 := Nat.le_succ _; refine ⟨(k _ (Nat.ne_of_lt (Nat.lt_succ_self _))).trans h.1, ?_, (k _ (by omega)).trans h.2.2.1, ?_, log_map_of h.2.2.2.2.1 (k _ (by omega)), Xd (Xd h.2.2.2.2.2 hle) hle⟩
 ·exact blk_put (blk_put h.2.1 0 _ rfl) 1 _ rfl
 ·rw [World.cell?_setCell_other _ _ _ _ (fun e => by injection e with e; omega), World.cell?_setCell_other _ _ _ _ (fun e => by injection e with e; omega)]; exact h.2.2.2.1
theorem log_w1 {k : Nat} (h : k ≤ 1000) : wrap64 ((k : Int) + 1) = ((k + 1 : Nat) : Int) := by unfold wrap64; omega
theorem log_shift_facts {o i : Int} (ho : 0 ≤ o ∧ o ≤ 9) (hi : 0 ≤ i ∧ i ≤ 9) {a k x y : Nat} (ha : a ≤ 10) (hk : k ≤ 10) (hx : x < a) (hy : y < k) {f : Int} (hf : 0 ≤ f ∧ f ≤ 9 * ((x : Int) + y) + 9) :
  IntKind.i64.wrap ((a : Int) - 1) = (a : Int) - 1 ∧ IntKind.i64.wrap ((a : Int) - 1 - x) = (a : Int) - 1 - x ∧ IntKind.i64.wrap (((a : Int) - 1 - x) * o) = ((a : Int) - 1 - x) * o ∧
  IntKind.i64.wrap ((k : Int) - 1) = (k : Int) - 1 ∧ IntKind.i64.wrap ((k : Int) - 1 - y) = (k : Int) - 1 - y ∧ IntKind.i64.wrap (((k : Int) - 1 - y) * i) = ((k : Int) - 1 - y) * i ∧
  IntKind.i64.wrap (((a : Int) - 1 - x) * o + ((k : Int) - 1 - y) * i) = log_shift o i a k x y ∧ IntKind.i64.wrap (f + log_shift o i a k x y) = f + log_shift o i a k x y := by
 have h1 : (0 : Int) ≤ ((a : Int) - 1 - x) * o := Int.mul_nonneg (by omega) ho.1; have h2 : ((a : Int) - 1 - x) * o ≤ ((a : Int) - 1 - x) * 9 := Int.mul_le_mul_of_nonneg_left ho.2 (by omega); have h3 : (0 : Int) ≤ ((k : Int) - 1 - y) * i := Int.mul_nonneg (by omega) hi.1; have h4 : ((k : Int) - 1 - y) * i ≤ ((k : Int) - 1 - y) * 9 := Int.mul_le_mul_of_nonneg_left hi.2 (by omega); unfold log_shift; simp only [i64_w]; generalize ((a : Int) - 1 - x) * o = u at *
 generalize ((k : Int) - 1 - y) * i = v at *
 refine ⟨?_, ?_, ?_, ?_, ?_, ?_, ?_, ?_⟩ <;> (unfold wrap64; omega)
set_option maxHeartbeats 8000000 in
set_option maxRecDepth 100000 in
theorem log_up.calls (a k : Nat) (gb gl mb n W p : Nat) (a0 a1 a2 : Int) (F : Nat → Nat → Int × Int) (w : World) (ha : a ≤ 10) (hk : k ≤ 10) (hkW : k ≤ W) (hp : ∀ x y, x < a → y < k → x * W + y < p) (ho : 0 ≤ a0 ∧ a0 ≤ 9) (hi : 0 ≤ a1 ∧ a1 ≤ 9)
  (hF : ∀ x y : Nat, x < a → y < k → 0 ≤ (F x y).1 ∧ (F x y).1 ≤ 9 * ((x : Int) + y) + 9)
  (hbox : w.heap[gb]? = some (.cells #[.int .i64 a0, .int .i64 a1, .int .i64 a2] 24 (0, 0))) (hcell : w.cell? ⟨gl, 0, none⟩ = some (.map (some mb))) (hmap : log_map w mb n W p F) :
  Calls Try.prog 56 #[.int .i64 (a : Int), .int .i64 (k : Int), .pointer (some ⟨gb, 0, none⟩), .pointer (some ⟨gl, 0, none⟩)] w fun e w' => e = .returned (.agg #[.int .i64 (log_upout F a0 a1 a k a).1, .int .i64 (log_upout F a0 a1 a k a).2]) ∧ Below w.heap.size w w' := by
 have GA := XB ha; have GK := XB hk; have HBX := XB hbox; have HCL := XB hcell; have HMP := XB hmap; have HP := XB hp; have HF := XB hF; have GO := XB ho; have GI := XB hi; have HKW := XB hkW; have hb0 : ∀ o : Obj, (w.alloc o).cell? ⟨gb, 0, none⟩ = some (.int .i64 a0) := fun o => (Xi (XA HBX.out (Xc (Below.refl _ _) o)) 0).trans rfl
 have hb1 : ∀ o : Obj, (w.alloc o).cell? ⟨gb, 1, none⟩ = some (.int .i64 a1) := fun o => (Xi (XA HBX.out (Xc (Below.refl _ _) o)) 1).trans rfl
 have em1 : IntKind.i64.wrap ((a : Int) * a0) = (a : Int) * a0 := by rw [i64_w]; exact log_w90 ha ho
 have em2 : IntKind.i64.wrap ((k : Int) * a1) = (k : Int) * a1 := by rw [i64_w]; exact log_w90 hk hi
 obtain ⟨s0, hs0⟩ : ∃ s0, s0 = (a : Int) * a0 + (k : Int) * a1 := ⟨_, rfl⟩
 have em3 : IntKind.i64.wrap ((a : Int) * a0 + (k : Int) * a1) = s0 := by
  have h1 : (0 : Int) ≤ (a : Int) * a0 := Int.mul_nonneg (by omega) ho.1; have h2 : (a : Int) * a0 ≤ (a : Int) * 9 := Int.mul_le_mul_of_nonneg_left ho.2 (by omega); have h3 : (0 : Int) ≤ (k : Int) * a1 := Int.mul_nonneg (by omega) hi.1; have h4 : (k : Int) * a1 ≤ (k : Int) * 9 := Int.mul_le_mul_of_nonneg_left hi.2 (by omega); rw [hs0, i64_w]; clear em1 em2 hs0; generalize (a : Int) * a0 = u at *
  generalize (k : Int) * a1 = v at *
  unfold wrap64; omega
 have HS0 := XB hs0; have HLT : Aside0 (gb < w.heap.size ∧ gl < w.heap.size ∧ mb < w.heap.size) := ⟨(Array.getElem?_eq_some_iff.1 hbox).1, World.block_lt_of_cell? w ⟨gl, 0, none⟩ hcell, log_map_lt hmap⟩; have hu24 := Try.underlying24; have hu63 := Try.underlying63; clear ha hk hbox hcell hmap hp hF ho hi hkW hs0; go_enter Try.func56, Try.ntmps56
 go_wp2
 have HI0 : Aside0 (log_cinv w ((w.alloc (.cells #[.int .i64 0, .int .i64 0] 63)).alloc (.cells #[.int .i64 s0, .int .i64 1] 63)) gb gl mb n W p a0 a1 a2 F (log_upout F a0 a1 a k 0)) := ⟨by
  have hb2 : Below w.heap.size w ((w.alloc (.cells #[.int .i64 0, .int .i64 0] 63)).alloc (.cells #[.int .i64 s0, .int .i64 1] 63)) := Xc (Xc (Below.refl _ _) _) _
  have e : (w.alloc (.cells #[.int .i64 0, .int .i64 0] 63)).heap.size = w.heap.size + 1 := World.size_alloc ..
  refine ⟨XA (blk_new w _) (Xc (Below.refl _ _) _), ?_, XA HBX.out hb2, log_cell_below hb2 HCL.out, log_map_of HMP.out (hb2.block mb (log_map_lt HMP.out)), hb2⟩
  rw [← e, log_upout, ← HS0.out]; exact blk_new _ _⟩
 clear hb0 hb1 em1 em2 em3; go_loopg [22] a (fun kq v22 w' => ∃ (x : Nat), v22 = .int .i64 (x : Int) ∧ Aside0 (x + kq = a) ∧ Aside0 (log_cinv w w' gb gl mb n W p a0 a1 a2 F (log_upout F a0 a1 a k x)))
 case atStart => exact ⟨0, rfl, ⟨by omega⟩, HI0⟩
 case round =>
  clear HI0; obtain ⟨x, rfl, HK, HI⟩ := hrel; obtain ⟨wo, hwo⟩ : ∃ wo, wo = wr := ⟨_, rfl⟩
  subst hwo; by_cases c3 : (x : Int) < (a : Int)
  ·have c3b0 : decide ((x : Int) < (a : Int)) = true := decide_eq_true c3; obtain ⟨q0, rfl⟩ : ∃ q, gk = q + 1 := ⟨gk - 1, by have := HK.out; omega⟩
   have HXA : Aside0 (x < a) := ⟨by omega⟩; go_wp2
   go_loopg [26] k (fun kq v26 w2 => ∃ (y : Nat), v26 = .int .i64 (y : Int) ∧ Aside0 (y + kq = k) ∧ Aside0 (log_cinv w w2 gb gl mb n W p a0 a1 a2 F (log_upin F a0 a1 a k x (log_upout F a0 a1 a k x) y)))
   case atStart => exact ⟨0, rfl, ⟨by omega⟩, HI⟩
   case round =>
    clear HI; obtain ⟨y, rfl, HK2, HI⟩ := hrel; by_cases c4 : (y : Int) < (k : Int)
    ·have c4b0 : decide ((y : Int) < (k : Int)) = true := decide_eq_true c4; obtain ⟨q1, rfl⟩ : ∃ q, gk = q + 1 := ⟨gk - 1, by have := HK2.out; omega⟩
     have HYK : Aside0 (y < k) := ⟨by omega⟩; obtain ⟨acc, hacc⟩ : ∃ acc, acc = log_upin F a0 a1 a k x (log_upout F a0 a1 a k x) y := ⟨_, rfl⟩
     rw [← hacc] at HI; have HACC := XB hacc; clear hacc; have hcl := HI.out.2.2.2.1; have hlk := log_map_look HI.out.2.2.2.2.1 (Nat.lt_of_lt_of_le HYK.out HKW.out) (HP.out x y HXA.out HYK.out) (show x ≤ 1000 by have := HXA.out; have := GA.out; omega) (show y ≤ 1000 by have := HYK.out; have := GK.out; omega); obtain ⟨f1, hf1⟩ : ∃ f1, f1 = (F x y).1 := ⟨_, rfl⟩
     obtain ⟨f2, hf2⟩ : ∃ f2, f2 = (F x y).2 := ⟨_, rfl⟩
     obtain ⟨sh, hsh⟩ : ∃ sh, sh = log_shift a0 a1 a k x y := ⟨_, rfl⟩
     obtain ⟨e1, e2, e3, e4, e5, e6, e7, e8⟩ := log_shift_facts GO.out GI.out GA.out GK.out HXA.out HYK.out (f := f1) (by rw [hf1]; exact HF.out x y HXA.out HYK.out); rw [← hsh] at e7 e8; rw [← hf1, ← hf2] at hlk; have HF1 := XB hf1; have HF2 := XB hf2; have HSH := XB hsh; clear hf1 hf2 hsh; have d0 : ∀ o : Obj, (wr.alloc o).cell? ⟨gb, 0, none⟩ = some (.int .i64 a0) := fun o => (log_cinv_cells (log_cinv_alloc HI.out o)).1
     have d1 : ∀ o : Obj, (wr.alloc o).cell? ⟨gb, 1, none⟩ = some (.int .i64 a1) := fun o => (log_cinv_cells (log_cinv_alloc HI.out o)).2.1
     have d2 : ∀ o : Obj, (wr.alloc o).cell? ⟨w.heap.size + 1, 0, none⟩ = some (.int .i64 acc.1) := fun o => (log_cinv_cells (log_cinv_alloc HI.out o)).2.2.1
     have d3 : ∀ o : Obj, (wr.alloc o).cell? ⟨w.heap.size + 1, 1, none⟩ = some (.int .i64 acc.2) := fun o => (log_cinv_cells (log_cinv_alloc HI.out o)).2.2.2
     go_wp2_with ((with_reducible refine gate_callee (f := 57) rfl ?_); refine goesL_ (some 55) rfl rfl Try.func57 (by kernel_rfl) rfl #[.agg #[.int .i64 acc.1, .int .i64 acc.2], .agg #[.int .i64 (f1 + sh), .int .i64 f2]] rfl (by (try simp only [Xm, Xn, Xo]); first | done | rfl) ?_; refine (log_with.calls acc (f1 + sh, f2) _).mono ?_; rintro e w7 ⟨rfl, hb7⟩; refine ⟨_, rfl, ?_⟩; have HI7 : Aside0 (log_cinv w w7 gb gl mb n W p a0 a1 a2 F acc) := ⟨log_cinv_below (log_cinv_alloc HI.out _) hb7⟩; have z0 := (log_cinv_cells HI7.out).2.2.1; have z1 := (log_cinv_cells HI7.out).2.2.2; have y0 : w7.frozen? ⟨w.heap.size + 1, 0, none⟩ = false := Xh HI7.out.2.1 0; have y1 : w7.frozen? ⟨w.heap.size + 1, 1, none⟩ = false := Xh HI7.out.2.1 1; clear hb7)
     have eacc : log_with acc (f1 + sh, f2) = log_upin F a0 a1 a k x (log_upout F a0 a1 a k x) (y + 1) := by rw [log_upin, ← HACC.out, HF1.out, HF2.out, HSH.out]
     have EACC := XB eacc; clear eacc; go_roundg q1
     case measure => omega
     case rel => exact ⟨y + 1, (by first | rfl | (rw [log_w1 (by have := HYK.out; have := GK.out; omega)]; done) | (simp; done)), ⟨by have := HK2.out; omega⟩, ⟨by rw [← EACC.out]; exact log_cinv_store HI7.out HLT.out _⟩⟩
    ·have c4b0 : decide ((y : Int) < (k : Int)) = false := decide_eq_false c4; have eyk : y = k := by have := HK2.out; omega
     subst eyk; go_wp2
     go_roundg q0
     case measure => omega
     case rel => exact ⟨x + 1, (by first | rfl | (rw [log_w1 (by have := HXA.out; have := GA.out; omega)]; done) | (simp; done)), ⟨by have := HK.out; omega⟩, ⟨by rw [log_upout]; exact HI.out⟩⟩
  ·have c3b0 : decide ((x : Int) < (a : Int)) = false := decide_eq_false c3; have exa : x = a := by have := HK.out; omega
   subst exa; have z0 := (log_cinv_cells HI.out).2.2.1; have z1 := (log_cinv_cells HI.out).2.2.2; have u0 : wo.cell? ⟨w.heap.size, 0, none⟩ = some (.int .i64 0) := (Xi HI.out.1 0).trans rfl; have u1 : wo.cell? ⟨w.heap.size, 1, none⟩ = some (.int .i64 0) := (Xi HI.out.1 1).trans rfl; have y0 : wo.frozen? ⟨w.heap.size, 0, none⟩ = false := Xh HI.out.1 0; have y1 : wo.frozen? ⟨w.heap.size, 1, none⟩ = false := Xh HI.out.1 1; go_wp2
   refine bodyPost_ret (log_res1 (p := 6) (ty := 63) (by kernel_rfl) _ _ w.heap.size 63 #[.int .i64 (log_upout F a0 a1 x k x).1, .int .i64 (log_upout F a0 a1 x k x).2] (0, 0) _ rfl ?hh Try.underlying63 rfl (by kernel_rfl)) rfl ⟨rfl, ?hb⟩
   case hh => exact blk_put (blk_put HI.out.1 0 _ rfl) 1 _ rfl
   case hb => exact Xd (Xd HI.out.2.2.2.2.2 (Nat.le_refl _)) (Nat.le_refl _)
/-! ### How many comparisons have the smallest cost -/
theorem log_goesC {P : Program} {ops : Array Oper} {rest : List Oper} {oi : Oper} {a : Act} {Q : Exit → Act → World → Prop} {w : World} {t : Tmp} (N : Option Tmp) (hd : oi.dst = N) (hg : oi.guard = none) {f : FuncId} {fn : Func} {as1 : Array Operand} {ts : Array TypeId} (hf : P.funcs[f]? = some fn) (hname : (fn.name == "runtime.NumGoroutine") = false) (hb : fn.body.isSome = true) (fs cs args : Array Value)
  (hop : oi.op = .call { callee := .value (.tmp t), args := as1, argTypes := ts }) (hev : a.eval (.tmp t) = .func (.func f) fs cs) (hargs : fs ++ as1.map a.eval ++ cs = args)
  (h : Calls P f args w fun e w' => ∃ v, e = .returned v ∧ wpList P ops Q rest (a.put N v) w') : wpList P ops Q (oi :: rest) a w := by
 subst hargs; refine wpList_plain hg fun K hK => ?_
 have he := enters_ hf hname hb (fs ++ as1.map a.eval ++ cs) w; have hrun : (execOp a.eval oi).run P w = .ok (.enter f (fs ++ as1.map a.eval ++ cs)) w := by
  unfold execOp; simp [hop, hev, resolve, Deferred.ofValue, invoke]
  simpa using he
 unfold Oper.wp; rw [hrun, Oper.upon_enter]; refine h.mono fun e w'' hh => ?_
 obtain ⟨v, rfl, hk⟩ := hh; subst hd; exact hK _ _ hk
/-- The comparisons with a given last pair, stage by stage. -/
def log_G (l m : List Int) (o i c : Int) : Nat → Nat → Nat → Int × Int
 | 0 => fun _ _ => (0, 0)
 | n + 1 => fun a k => ((log_upout (log_G l m o i c n) o i a k a).1 + log_ch c (rd l (a : Int)) (rd m (k : Int)), (log_upout (log_G l m o i c n) o i a k a).2)
def log_F (l m : List Int) (o i c : Int) (a k : Nat) : Int × Int := log_G l m o i c (a + 1) a k
theorem log_upin_congr {F F' : Nat → Nat → Int × Int} {o i : Int} {a k x : Nat} {acc : Int × Int} : ∀ y : Nat, (∀ y', y' < y → F x y' = F' x y') → log_upin F o i a k x acc y = log_upin F' o i a k x acc y
 | 0, _ => rfl
 | y + 1, h => by rw [log_upin, log_upin, log_upin_congr y (fun y' hy => h y' (by omega)), h y (by omega)]
theorem log_upout_congr {F F' : Nat → Nat → Int × Int} {o i : Int} {a k : Nat} : ∀ x : Nat, (∀ x' y', x' < x → y' < k → F x' y' = F' x' y') → log_upout F o i a k x = log_upout F' o i a k x
 | 0, _ => rfl
 | x + 1, h => by rw [log_upout, log_upout, log_upout_congr x (fun x' y' hx hy => h x' y' (by omega) hy), log_upin_congr k (fun y' hy => h x y' (by omega) hy)]
theorem log_G_stable (l m : List Int) (o i c : Int) : ∀ n a k : Nat, a < n → log_G l m o i c n a k = log_F l m o i c a k := by
 intro n; induction n using Nat.strongRecOn with
 | _ n ih =>
  intro a k ha; obtain ⟨n, rfl⟩ : ∃ n', n = n' + 1 := ⟨n - 1, by omega⟩
  have e : log_upout (log_G l m o i c n) o i a k a = log_upout (log_G l m o i c a) o i a k a := log_upout_congr a (fun x y hx hy => by rw [ih n (by omega) x y (by omega), ih a (by omega) x y hx]); rw [log_F, log_G, log_G]; show ((log_upout (log_G l m o i c n) o i a k a).1 + log_ch c (rd l (a : Int)) (rd m (k : Int)), (log_upout (log_G l m o i c n) o i a k a).2) = ((log_upout (log_G l m o i c a) o i a k a).1 + log_ch c (rd l (a : Int)) (rd m (k : Int)), (log_upout (log_G l m o i c a) o i a k a).2)
  rw [e]
theorem log_F_eq (l m : List Int) (o i c : Int) (a k : Nat) : log_F l m o i c a k = ((log_upout (log_F l m o i c) o i a k a).1 + log_ch c (rd l (a : Int)) (rd m (k : Int)), (log_upout (log_F l m o i c) o i a k a).2) := by
 have e : log_upout (log_G l m o i c a) o i a k a = log_upout (log_F l m o i c) o i a k a := log_upout_congr a (fun x y hx hy => log_G_stable l m o i c a x y hx); rw [← e]; conv => lhs; rw [log_F, log_G]
theorem log_with_range {a b : Int × Int} {u : Int} (ha : 0 ≤ a.1 ∧ a.1 ≤ u) (hb : 0 ≤ b.1 ∧ b.1 ≤ u) : 0 ≤ (log_with a b).1 ∧ (log_with a b).1 ≤ u := by
 unfold log_with; split
 ·exact hb
 ·split
  ·exact ha
  ·exact ha
theorem log_shift_range {o i : Int} (ho : 0 ≤ o ∧ o ≤ 9) (hi : 0 ≤ i ∧ i ≤ 9) {a k x y : Nat} (hx : x < a) (hy : y < k) : 0 ≤ log_shift o i a k x y ∧ log_shift o i a k x y ≤ 9 * ((a : Int) - 1 - x) + 9 * ((k : Int) - 1 - y) := by
 have h1 : (0 : Int) ≤ ((a : Int) - 1 - x) * o := Int.mul_nonneg (by omega) ho.1; have h2 : ((a : Int) - 1 - x) * o ≤ ((a : Int) - 1 - x) * 9 := Int.mul_le_mul_of_nonneg_left ho.2 (by omega); have h3 : (0 : Int) ≤ ((k : Int) - 1 - y) * i := Int.mul_nonneg (by omega) hi.1; have h4 : ((k : Int) - 1 - y) * i ≤ ((k : Int) - 1 - y) * 9 := Int.mul_le_mul_of_nonneg_left hi.2 (by omega); unfold log_shift; generalize ((a : Int) - 1 - x) * o = u at *
 generalize ((k : Int) - 1 - y) * i = v at *
 omega
theorem log_up_range {F : Nat → Nat → Int × Int} {o i : Int} (ho : 0 ≤ o ∧ o ≤ 9) (hi : 0 ≤ i ∧ i ≤ 9) {a k : Nat} (hF : ∀ x y : Nat, x < a → y < k → 0 ≤ (F x y).1 ∧ (F x y).1 ≤ 9 * ((x : Int) + y) + 9) : ∀ x : Nat, x ≤ a → 0 ≤ (log_upout F o i a k x).1 ∧ (log_upout F o i a k x).1 ≤ 9 * ((a : Int) + k)
 | 0, _ => by
  rw [log_upout]; have h1 : (0 : Int) ≤ (a : Int) * o := Int.mul_nonneg (by omega) ho.1; have h2 : (a : Int) * o ≤ (a : Int) * 9 := Int.mul_le_mul_of_nonneg_left ho.2 (by omega); have h3 : (0 : Int) ≤ (k : Int) * i := Int.mul_nonneg (by omega) hi.1; have h4 : (k : Int) * i ≤ (k : Int) * 9 := Int.mul_le_mul_of_nonneg_left hi.2 (by omega); simp only; generalize (a : Int) * o = u at *
  generalize (k : Int) * i = v at *
  omega
 | x + 1, hx => by
  rw [log_upout]; have h0 := log_up_range ho hi hF x (by omega); have key : ∀ y : Nat, y ≤ k → 0 ≤ (log_upin F o i a k x (log_upout F o i a k x) y).1 ∧ (log_upin F o i a k x (log_upout F o i a k x) y).1 ≤ 9 * ((a : Int) + k) := by
   intro y; induction y with
   | zero => intro _; exact h0
   | succ y ih =>
    intro hy; rw [log_upin]; have hf := hF x y (by omega) (by omega); have hs := log_shift_range ho hi (a := a) (k := k) (x := x) (y := y) (by omega) (by omega); exact log_with_range (ih (by omega)) (by simp only; omega)
  exact key k (Nat.le_refl _)
theorem log_F_range (l m : List Int) {o i c : Int} (ho : 0 ≤ o ∧ o ≤ 9) (hi : 0 ≤ i ∧ i ≤ 9) (hc : 0 ≤ c ∧ c ≤ 9) : ∀ a k : Nat, 0 ≤ (log_F l m o i c a k).1 ∧ (log_F l m o i c a k).1 ≤ 9 * ((a : Int) + k) + 9 := by
 intro a; induction a using Nat.strongRecOn with
 | _ a ih =>
  intro k; have h := log_up_range ho hi (F := log_F l m o i c) (a := a) (k := k) (fun x y hx _ => ih x hx y) a (Nat.le_refl _); have h2 := log_ch_range hc (rd l (a : Int)) (rd m (k : Int)); rw [log_F_eq]; simp only; omega
theorem log_sum2 {a k : Nat} {u x : Int} (ha : a ≤ 10) (hk : k ≤ 10) (hu : 0 ≤ u ∧ u ≤ 9 * ((a : Int) + k)) (hx : 0 ≤ x ∧ x ≤ 9) : wrap64 (u + x) = u + x := by unfold wrap64; omega
theorem log_drew_blk {w w2 : World} {g : Nat} {o : Obj} (h : w.heap[g]? = some o) (hb : Below w.drew.heap.size w.drew w2) : w2.heap[g]? = some o := XA (w := w.drew) h hb
theorem log_wf2 {n : Int} (h : 0 ≤ n ∧ n ≤ 100000000000) : (Lit.int .i64 n).wf = true := by
 simp only [Lit.wf, IntKind.min, IntKind.max, IntKind.signed, IntKind.bits, Bool.and_eq_true, decide_eq_true_eq, if_true]; omega
def log_Count.f (k : Nat) (l0 l1 : List Int) (a0 a1 a2 : Int) : Option (Int × Int) := (log_check.f k l0 l1 a0 a1 a2).bind fun t1 => (if t1 = 0 then (if l0.length ≤ 10 ∧ l1.length ≤ 10 ∧ (0 ≤ a0 ∧ a0 ≤ 9) ∧ (0 ≤ a1 ∧ a1 ≤ 9) ∧ (0 ≤ a2 ∧ a2 ≤ 9) then some ((log_upout (log_F l0 l1 a0 a1 a2) a0 a1 l0.length l1.length l0.length).2, 0) else none) else some (0, t1))
theorem log_Count.mono : ∀ a0 a1 a2 a3 a4 k, LeO (log_Count.f k a0 a1 a2 a3 a4) (log_Count.f (k + 1) a0 a1 a2 a3 a4) := by
 intro a0 a1 a2 a3 a4 k; unfold log_Count.f; exact LeO.bind (log_check.mono _ _ _ _ _ _) (fun _ => LeO.refl _)
/-- What holds of the memory in Count's loops. -/
def log_ninv (w w' : World) (gb gl mb W p : Nat) (a0 a1 a2 : Int) (F : Nat → Nat → Int × Int) : Prop :=
 w'.heap[gb]? = some (.cells #[.int .i64 a0, .int .i64 a1, .int .i64 a2] 24 (0, 0)) ∧ w'.heap[gl]? = some (.cells #[.map (some mb)] 61 (0, 0)) ∧ log_map w' mb p W p F ∧ Below w.heap.size w w'
theorem log_ninv_below {w w1 w2 : World} {gb gl mb W p : Nat} {a0 a1 a2 : Int} {F : Nat → Nat → Int × Int} (h : log_ninv w w1 gb gl mb W p a0 a1 a2 F) (hb : Below w1.heap.size w1 w2) : log_ninv w w2 gb gl mb W p a0 a1 a2 F :=
 ⟨XA h.1 hb, XA h.2.1 hb, log_map_of h.2.2.1 (hb.block mb (log_map_lt h.2.2.1)), Xz h.2.2.2 hb⟩
theorem log_five_below {w1 w2 : World} (hb : Below w1.heap.size w1 w2) {x1 x2 x3 x4 x5 : Addr} {v1 v2 v3 v4 v5 : Value}
  (h : w1.cell? x1 = some v1 ∧ w1.cell? x2 = some v2 ∧ w1.cell? x3 = some v3 ∧ w1.cell? x4 = some v4 ∧ w1.cell? x5 = some v5) :
  w2.cell? x1 = some v1 ∧ w2.cell? x2 = some v2 ∧ w2.cell? x3 = some v3 ∧ w2.cell? x4 = some v4 ∧ w2.cell? x5 = some v5 :=
 ⟨log_cell_below hb h.1, log_cell_below hb h.2.1, log_cell_below hb h.2.2.1, log_cell_below hb h.2.2.2.1, log_cell_below hb h.2.2.2.2⟩
theorem log_five_set {w1 : World} {p x1 x2 x3 x4 x5 : Addr} {v v1 v2 v3 v4 v5 : Value} (n : Aside0 (x1 ≠ p ∧ x2 ≠ p ∧ x3 ≠ p ∧ x4 ≠ p ∧ x5 ≠ p))
  (h : w1.cell? x1 = some v1 ∧ w1.cell? x2 = some v2 ∧ w1.cell? x3 = some v3 ∧ w1.cell? x4 = some v4 ∧ w1.cell? x5 = some v5) :
  (w1.setCell p v).cell? x1 = some v1 ∧ (w1.setCell p v).cell? x2 = some v2 ∧ (w1.setCell p v).cell? x3 = some v3 ∧ (w1.setCell p v).cell? x4 = some v4 ∧ (w1.setCell p v).cell? x5 = some v5 := by
 obtain ⟨n1, n2, n3, n4, n5⟩ := n.out; obtain ⟨h1, h2, h3, h4, h5⟩ := h; have k : ∀ {x : Addr} {u : Value}, x ≠ p → w1.cell? x = some u → (w1.setCell p v).cell? x = some u := fun hx hc => (World.cell?_setCell_other _ _ _ _ (Ne.symm hx)).trans hc
 exact ⟨k n1 h1, k n2 h2, k n3 h3, k n4 h4, k n5 h5⟩
theorem log_ninv_set {w w1 : World} {gb gl mb W p g j : Nat} {a0 a1 a2 : Int} {F : Nat → Nat → Int × Int} {v : Value} (h : log_ninv w w1 gb gl mb W p a0 a1 a2 F) (h1 : gb ≠ g) (h2 : gl ≠ g) (h3 : mb ≠ g) (h4 : w.heap.size ≤ g) : log_ninv w (w1.setCell ⟨g, j, none⟩ v) gb gl mb W p a0 a1 a2 F :=
 ⟨(Below.heap_setCell _ _ _ _ h1).trans h.1, (Below.heap_setCell _ _ _ _ h2).trans h.2.1, log_map_of h.2.2.1 (Below.heap_setCell _ _ _ _ h3), Xd h.2.2.2 h4⟩
theorem log_field (x y : Int) (w : World) : (Instr.field 63 (.agg #[.int .i64 x, .int .i64 y]) 1).run Try.prog w = .ok (.int .i64 y) w := by kernel_rfl
set_option maxHeartbeats 8000000 in
set_option maxRecDepth 100000 in
theorem log_Count.calls (k : Nat) (A0 : Option Addr) (c0 : Nat) (l0 : List Int) (A1 : Option Addr) (c1 : Nat) (l1 : List Int) (a2_0 a2_1 a2_2 : Int) (r1 r2 : Int) (w : World) (hr0 : Kd.C (Kd.int .i64) w A0 l0.length l0) (hc0 : l0.length ≤ c0) (hr1 : Kd.C (Kd.int .i64) w A1 l1.length l1) (hc1 : l1.length ≤ c1) (h : log_Count.f k l0 l1 a2_0 a2_1 a2_2 = some (r1, r2)) :
  Calls Try.prog 20 #[.slice A0 l0.length c0, .slice A1 l1.length c1, .agg #[.int .i64 a2_0, .int .i64 a2_1, .int .i64 a2_2]] w fun e w' => e = .returned (.tuple #[.int .i64 r1, .int .i64 r2]) ∧ Below w.heap.size w w' := by
 have HR0 := XB hr0; have HC0 := XB hc0; have HR1 := XB hr1; have HC1 := XB hc1; clear hr0 hc0 hr1 hc1; unfold log_Count.f at h; obtain ⟨t1, A1', h⟩ := Option.bind_eq_some_iff.mp h; have HCK := XB A1'; clear A1'; have hu24 := Try.underlying24; have hu63 := Try.underlying63; have hmm := @run_makeMap Try.prog; by_cases c4 : t1 = 0
 case neg =>
  rw [if_neg c4] at h; have c4b1 : (t1 != 0) = true := bne_iff_ne.mpr c4; simp only [Option.some.injEq, Prod.mk.injEq] at h; obtain ⟨rfl, rfl⟩ := h; go_enter Try.func20, Try.ntmps20
  go_wp2_with ((with_reducible refine gate_callee (f := 55) rfl ?_); refine goesL_ (some 17) rfl rfl Try.func55 (by kernel_rfl) rfl #[.slice A0 l0.length c0, .slice A1 l1.length c1, .agg #[.int .i64 a2_0, .int .i64 a2_1, .int .i64 a2_2]] rfl (by (try simp only [Xm, Xn, Xo]); first | done | rfl) ?_; (with_reducible refine (log_check.calls k _ _ l0 _ _ l1 a2_0 a2_1 a2_2 t1 _ ?side1 ?side2 ?side3 ?side4 HCK.out).mono ?_); (case side1 => exact Xr HR0.out _); (case side2 => exact HC0.out); (case side3 => exact Xr HR1.out _); (case side4 => exact HC1.out); rintro e w6 ⟨rfl, hb6⟩; refine ⟨_, rfl, ?_⟩; have HB6 := XB hb6; clear hb6)
  first | go_ret | go_ret2
  exact ⟨by first | rfl | (simp; done) | (simp [*]; done), (Xc (Below.refl _ _) _).trans (HB6.out.mono (by rw [World.size_alloc]; exact Nat.le_succ _))⟩
 rw [if_pos c4] at h; have c4b1 : (t1 != 0) = false := bne_eq_false_iff_eq.mpr c4; subst c4; split at h
 case isFalse => cases h
 case isTrue hg =>
 obtain ⟨g1, g2, go, gi, gc⟩ := hg; simp only [Option.some.injEq, Prod.mk.injEq] at h; obtain ⟨hres, rfl⟩ := h; have HRES := XB hres; have G1 := XB g1; have G2 := XB g2; have GO := XB go; have GI := XB gi; have GC := XB gc; clear hres g1 g2 go gi gc; go_enter Try.func20, Try.ntmps20
 go_wp2_with ((with_reducible refine gate_callee (f := 55) rfl ?_); refine goesL_ (some 17) rfl rfl Try.func55 (by kernel_rfl) rfl #[.slice A0 l0.length c0, .slice A1 l1.length c1, .agg #[.int .i64 a2_0, .int .i64 a2_1, .int .i64 a2_2]] rfl (by (try simp only [Xm, Xn, Xo]); first | done | rfl) ?_; (with_reducible refine (log_check.calls k _ _ l0 _ _ l1 a2_0 a2_1 a2_2 0 _ ?side1 ?side2 ?side3 ?side4 HCK.out).mono ?_); (case side1 => exact Xr HR0.out _); (case side2 => exact HC0.out); (case side3 => exact Xr HR1.out _); (case side4 => exact HC1.out); rintro e w6 ⟨rfl, hb6⟩; refine ⟨_, rfl, ?_⟩; have HB6 := XB hb6; clear hb6)
 try clear h
 have HI0 : Aside0 (log_ninv w ((w6.alloc (.map #[] 0)).alloc (.cells #[.map (some w6.heap.size)] 61)) w.heap.size (w6.heap.size + 1) w6.heap.size l1.length (0 * l1.length) a2_0 a2_1 a2_2 (log_F l0 l1 a2_0 a2_1 a2_2)) := ⟨by
  have e : (w6.alloc (.map #[] 0)).heap.size = w6.heap.size + 1 := World.size_alloc ..
  have hb2 : Below w6.heap.size w6 ((w6.alloc (.map #[] 0)).alloc (.cells #[.map (some w6.heap.size)] 61)) := Xc (Xc (Below.refl _ _) _) _
  have hbb : Below w.heap.size w w6 := (Xc (Below.refl _ _) _).trans (HB6.out.mono (by rw [World.size_alloc]; exact Nat.le_succ _))
  refine ⟨XA (XA (blk_new w _) HB6.out) hb2, ?_, ?_, Xc (Xc hbb _) _⟩
  ·have := blk_new (w6.alloc (.map #[] 0)) (.cells #[.map (some w6.heap.size)] 61 (0, 0))
   rw [e] at this
   exact this
  ·rw [Nat.zero_mul]
   have hm : log_map (w6.alloc (.map #[] 0)) w6.heap.size 0 l1.length 0 (log_F l0 l1 a2_0 a2_1 a2_2) := ⟨_, World.ownsMap_made w6 _ _ _, Maps.isMap_empty, fun x y _ hq => absurd hq (Nat.not_lt_zero _)⟩
   exact log_map_of hm ((Xc (Below.refl _ _) (.cells #[.map (some w6.heap.size)] 61) : Below (w6.alloc (.map #[] 0)).heap.size _ _).block _ (by rw [e]; exact Nat.lt_succ_self _))⟩
 have HSZ : Aside0 (w.heap.size < w6.heap.size) := ⟨by have := XC HB6.out; rw [World.size_alloc] at this; omega⟩; have HFR : Aside0 (∀ x y : Nat, 0 ≤ (log_F l0 l1 a2_0 a2_1 a2_2 x y).1 ∧ (log_F l0 l1 a2_0 a2_1 a2_2 x y).1 ≤ 9 * ((x : Int) + y) + 9) := ⟨log_F_range l0 l1 GO.out GI.out GC.out⟩; obtain ⟨F, hFe⟩ : ∃ F, F = log_F l0 l1 a2_0 a2_1 a2_2 := ⟨_, rfl⟩
 rw [← hFe] at HI0 HFR HRES; have HFE := XB hFe; clear hFe HB6; go_loopg [25] l0.length (fun kq v25 w' => ∃ (a : Nat), v25 = .int .i64 (a : Int) ∧ Aside0 (a + kq = l0.length) ∧ Aside0 (log_ninv w w' w.heap.size (w6.heap.size + 1) w6.heap.size l1.length (a * l1.length) a2_0 a2_1 a2_2 F))
 case atStart => exact ⟨0, rfl, ⟨by omega⟩, HI0⟩
 case round =>
  clear HI0; obtain ⟨a, rfl, HK, HI⟩ := hrel; obtain ⟨wo, hwo⟩ : ∃ wo, wo = wr := ⟨_, rfl⟩
  subst hwo; by_cases c3 : (a : Int) < (l0.length : Int)
  ·have c3b0 : decide ((a : Int) < (l0.length : Int)) = true := decide_eq_true c3; obtain ⟨q0, rfl⟩ : ∃ q, gk = q + 1 := ⟨gk - 1, by have := HK.out; omega⟩
   have HAL : Aside0 (a < l0.length) := ⟨by omega⟩; go_wp2
   go_loopg [30] l1.length (fun kq v30 w2 => ∃ (k : Nat), v30 = .int .i64 (k : Int) ∧ Aside0 (k + kq = l1.length) ∧ Aside0 (log_ninv w w2 w.heap.size (w6.heap.size + 1) w6.heap.size l1.length (a * l1.length + k) a2_0 a2_1 a2_2 F))
   case atStart => exact ⟨0, rfl, ⟨by omega⟩, HI⟩
   case round =>
    clear HI; obtain ⟨kk, rfl, HK2, HI⟩ := hrel; by_cases c4 : (kk : Int) < (l1.length : Int)
    ·have c4b0 : decide ((kk : Int) < (l1.length : Int)) = true := decide_eq_true c4; obtain ⟨q1, rfl⟩ : ∃ q, gk = q + 1 := ⟨gk - 1, by have := HK2.out; omega⟩
     have HKL : Aside0 (kk < l1.length) := ⟨by omega⟩; have HA10 : Aside0 (a ≤ 10) := ⟨by have := HAL.out; have := G1.out; omega⟩; have HK10 : Aside0 (kk ≤ 10) := ⟨by have := HKL.out; have := G2.out; omega⟩; have HPP : Aside0 (∀ x y : Nat, x < a → y < kk → x * l1.length + y < a * l1.length + kk) := ⟨fun x y hx hy => by
      have := Nat.mul_le_mul_right l1.length (Nat.le_of_lt hx)
      omega⟩
     have HUP := XB (log_up.calls a kk w.heap.size (w6.heap.size + 1) w6.heap.size (a * l1.length + kk) l1.length (a * l1.length + kk) a2_0 a2_1 a2_2 F wr HA10.out HK10.out (Nat.le_of_lt HKL.out) HPP.out GO.out GI.out (fun x y _ _ => HFR.out x y) HI.out.1 ((Xi HI.out.2.1 0).trans rfl) HI.out.2.2.1); obtain ⟨u1, hu1⟩ : ∃ u1, u1 = (log_upout F a2_0 a2_1 a kk a).1 := ⟨_, rfl⟩
     obtain ⟨u2, hu2⟩ : ∃ u2, u2 = (log_upout F a2_0 a2_1 a kk a).2 := ⟨_, rfl⟩
     rw [← hu1, ← hu2] at HUP; have HU1 := XB hu1; have HU2 := XB hu2; clear hu1 hu2 HPP; obtain ⟨ad0, e10, h10⟩ := Kd.at_int HR0.out (a : Int) (by omega) (by have := HAL.out; omega); obtain ⟨ad1, e11, h11⟩ := Kd.at_int HR1.out (kk : Int) (by omega) (by have := HKL.out; omega); subst e10; subst e11; rw [Int.toNat_natCast] at h10 h11; have H10 := XB h10; have H11 := XB h11; clear h10 h11; go_wp2_with ((with_reducible refine Go.Proofs.YtcbepmdnhjojdaaW.PrintHand.gate_calleeT (t := 33) rfl ?_); refine log_goesC (t := 33) (some 36) rfl rfl Try.func56 (by kernel_rfl) rfl #[] #[.pointer (some ⟨w.heap.size, 0, none⟩), .pointer (some ⟨w6.heap.size + 1, 0, none⟩)] #[.int .i64 (a : Int), .int .i64 (kk : Int), .pointer (some ⟨w.heap.size, 0, none⟩), .pointer (some ⟨w6.heap.size + 1, 0, none⟩)] rfl rfl (by (try simp only [Xm, Xn, Xo]); first | done | rfl) ?_; refine HUP.out.mono ?_; rintro e w7 ⟨rfl, hb7⟩; refine ⟨_, rfl, ?_⟩; have HI7 := XB (log_ninv_below HI.out hb7); clear hb7)
     have hg13 : (w7.alloc (.cells #[.int .i64 u1, .int .i64 u2] 63)).heap[w7.heap.size]? = some (.cells #[.int .i64 u1, .int .i64 u2] 63 (0, 0)) := blk_new w7 _; have hIv : log_ninv w (w7.alloc (.cells #[.int .i64 u1, .int .i64 u2] 63)) w.heap.size (w6.heap.size + 1) w6.heap.size l1.length (a * l1.length + kk) a2_0 a2_1 a2_2 F := log_ninv_below HI7.out (Xc (Below.refl _ _) _); obtain ⟨wv, hwv⟩ : ∃ wv, wv = w7.alloc (.cells #[.int .i64 u1, .int .i64 u2] 63) := ⟨_, rfl⟩
     rw [← hwv] at hg13 hIv ⊢; clear hwv; obtain ⟨g13, hgg⟩ : ∃ g13, g13 = w7.heap.size := ⟨_, rfl⟩
     have hgl : w6.heap.size + 1 < g13 := by rw [hgg]; exact (Array.getElem?_eq_some_iff.1 HI7.out.2.1).1
     rw [← hgg] at hg13 ⊢; clear hgg; have HGL := XB hgl; have HG := XB hg13; have HI := XB hIv; have v0 : wv.cell? ⟨g13, 0, none⟩ = some (.int .i64 u1) := (Xi HG.out 0).trans rfl; have hS := And.intro ((Xi HI.out.1 0).trans rfl : wv.cell? ⟨w.heap.size, 0, none⟩ = some (.int .i64 a2_0)) (And.intro ((Xi HI.out.1 1).trans rfl : wv.cell? ⟨w.heap.size, 1, none⟩ = some (.int .i64 a2_1)) (And.intro ((Xi HI.out.1 2).trans rfl : wv.cell? ⟨w.heap.size, 2, none⟩ = some (.int .i64 a2_2)) (And.intro (log_cell_below' HI.out.2.2.2 H10.out) (log_cell_below' HI.out.2.2.2 H11.out)))); have hw0 : ad0.block < w.heap.size := by have := World.block_lt_of_cell? w _ H10.out; rwa [log_add_blk] at this
     have hw1 : ad1.block < w.heap.size := by have := World.block_lt_of_cell? w _ H11.out; rwa [log_add_blk] at this
     have hsz := HSZ.out; have HN5 : Aside0 ((⟨w.heap.size, 0, none⟩ : Addr) ≠ ⟨g13, 0, none⟩ ∧ (⟨w.heap.size, 1, none⟩ : Addr) ≠ ⟨g13, 0, none⟩ ∧ (⟨w.heap.size, 2, none⟩ : Addr) ≠ ⟨g13, 0, none⟩ ∧ ad0.add a ≠ ⟨g13, 0, none⟩ ∧ ad1.add kk ≠ ⟨g13, 0, none⟩) :=
      ⟨log_blk (by show w.heap.size ≠ g13; omega), log_blk (by show w.heap.size ≠ g13; omega), log_blk (by show w.heap.size ≠ g13; omega), log_blk (by rw [log_add_blk]; omega), log_blk (by rw [log_add_blk]; omega)⟩
     obtain ⟨v, hv⟩ : ∃ v, v = u1 + log_ch a2_2 (rd l0 (a : Int)) (rd l1 (kk : Int)) := ⟨_, rfl⟩
     have hur : 0 ≤ u1 ∧ u1 ≤ 9 * ((a : Int) + kk) := by rw [HU1.out]; exact log_up_range GO.out GI.out (fun x y _ _ => HFR.out x y) a (Nat.le_refl _)
     have es : IntKind.i64.wrap (u1 + log_ch a2_2 (rd l0 (a : Int)) (rd l1 (kk : Int))) = v := by
      rw [hv, i64_w]; exact log_sum2 HA10.out HK10.out hur (log_ch_range GC.out _ _)
     have HV := XB hv; have b5 : (0 : Int) ≤ (a : Int) := by omega
     have b6 : (0 : Int) ≤ (kk : Int) := by omega
     clear hgl hg13 hIv hw0 hw1 hsz hv hur; obtain ⟨hs1, hs2, hs3, hs4, hs5⟩ := hS; go_upto_region 13 with (fail)
     go_cut [] (fun wc => Aside0 (log_ninv w wc w.heap.size (w6.heap.size + 1) w6.heap.size l1.length (a * l1.length + kk) a2_0 a2_1 a2_2 F) ∧ Aside0 (wc.heap[g13]? = some (.cells #[.int .i64 v, .int .i64 u2] 63 (0, 0))))
     case first =>
      go_region_with (first | (go_at_call 58; refine (log_cost.any (a0 := a2_0) (a1 := a2_1) (a2 := a2_2) (by first | exact log_edit.out | exact log_edit.ins | exact log_edit.both _ _) _).mono ?_; rintro e w9 ⟨rfl, hb9⟩; have HG9 : Aside0 (w9.heap[g13]? = some (.cells #[.int .i64 u1, .int .i64 u2] 63 (0, 0))) := ⟨log_drew_blk HG.out hb9⟩; have v0 : w9.cell? ⟨g13, 0, none⟩ = some (.int .i64 u1) := (Xi HG9.out 0).trans rfl; have y0 : w9.frozen? ⟨g13, 0, none⟩ = false := Xh HG9.out 0; have HI9 : Aside0 (log_ninv w w9 w.heap.size (w6.heap.size + 1) w6.heap.size l1.length (a * l1.length + kk) a2_0 a2_1 a2_2 F) := ⟨log_ninv_below (log_ninv_below HI.out (Below.refl _ _).drew) hb9⟩; clear hb9))
      all_goals go_wp2
      all_goals go_meet
      all_goals exact ⟨⟨log_ninv_set HI9.out (by have := HGL.out; have := HSZ.out; omega) (by have := HGL.out; omega) (by have := HGL.out; omega) (by have := HGL.out; have := HSZ.out; omega)⟩, ⟨blk_put HG9.out 0 _ rfl⟩⟩
     case rest =>
      obtain ⟨HIc, HGc⟩ := hcut; clear v0 hs1 hs2 hs3 hs4 hs5 HG HI es; have z0 : wc.cell? ⟨w6.heap.size + 1, 0, none⟩ = some (.map (some w6.heap.size)) := (Xi HIc.out.2.1 0).trans rfl; have z1 : wc.cell? ⟨g13, 0, none⟩ = some (.int .i64 v) := (Xi HGc.out 0).trans rfl; have z2 : wc.cell? ⟨g13, 1, none⟩ = some (.int .i64 u2) := (Xi HGc.out 1).trans rfl; obtain ⟨D, hD1, hD2, hD3⟩ := HIc.out.2.2.1; have HD1 := XB hD1; have HD2 := XB hD2; have HD3 := XB hD3; clear hD1 hD2 hD3; have hnl : a * l1.length + kk < maxLen := by
       have h1 : a * l1.length ≤ 10 * 10 := Nat.mul_le_mul HA10.out G2.out; have h2 := HK10.out; have : (1000 : Nat) < maxLen := by decide
       omega
      have HNL := XB hnl; clear hnl; have efv : (v, u2) = F a kk := by
       have e := log_F_eq l0 l1 a2_0 a2_1 a2_2 a kk; rw [← HFE.out] at e; rw [e, ← HU1.out, ← HU2.out, ← HV.out]
      have EFV := XB efv; clear efv; go_wp2_with (at_mapUpdate; refine wpList_mapUpdate_own _ rfl _ _ _ 61 rfl 65 63 log_keyed Try.underlying61 log_elem w6.heap.size (a * l1.length + kk) D rfl HD1.out HNL.out (.agg #[.int .i64 (a : Int), .int .i64 (kk : Int)]) (.agg #[.int .i64 v, .int .i64 u2]) (log_lit (a : Int) (kk : Int)) rfl rfl (log_keyOf (log_wf (by have := HA10.out; omega)) (log_wf (by have := HK10.out; omega))) (log_val (F a kk)) [] (by rw [← EFV.out]; exact log_elem_mk v u2) ?_; intro w10 hown10 hgrow10; have HOW := XB hown10; have HGR := XB hgrow10; clear hown10 hgrow10)
      go_roundg q1
      case measure => omega
      case rel =>
       refine ⟨kk + 1, (by first | rfl | (rw [log_w1 (by have := HK10.out; omega)]; done) | (simp; done)), ⟨by have := HK2.out; omega⟩, ⟨?_, ?_, ⟨_, HOW.out, HD2.out.put _ _, ?_⟩, ?_⟩⟩
       ·exact (HGR.out.block _ (Array.getElem?_eq_some_iff.1 HIc.out.1).1 (by intro e; injection e with e; have := HSZ.out; omega)).trans HIc.out.1
       ·exact (HGR.out.block _ (Array.getElem?_eq_some_iff.1 HIc.out.2.1).1 (by intro e; injection e with e; omega)).trans HIc.out.2.1
       ·exact log_map_put HD2.out HD3.out HKL.out rfl (by have := G2.out; omega) (by have := HA10.out; omega)
       ·exact HIc.out.2.2.2.grown HGR.out (XC HIc.out.2.2.2) (fun j hj => by injection hj with hj; have := HSZ.out; omega)
    ·have c4b0 : decide ((kk : Int) < (l1.length : Int)) = false := decide_eq_false c4; have ek : kk = l1.length := by have := HK2.out; omega
     subst ek; go_wp2
     go_roundg q0
     case measure => omega
     case rel => exact ⟨a + 1, (by first | rfl | (rw [log_w1 (by have := HAL.out; have := G1.out; omega)]; done) | (simp; done)), ⟨by have := HK.out; omega⟩, ⟨by rw [Nat.add_mul, Nat.one_mul]; exact HI.out⟩⟩
  ·have c3b0 : decide ((a : Int) < (l0.length : Int)) = false := decide_eq_false c3; have ea : a = l0.length := by have := HK.out; omega
   subst ea; have HUP := XB (log_up.calls l0.length l1.length w.heap.size (w6.heap.size + 1) w6.heap.size (l0.length * l1.length) l1.length (l0.length * l1.length) a2_0 a2_1 a2_2 F wo G1.out G2.out (Nat.le_refl _) (fun x y hx hy => by
        have := Nat.mul_le_mul_right l1.length (show x + 1 ≤ l0.length from hx)
        rw [Nat.add_mul, Nat.one_mul] at this
        omega) GO.out GI.out (fun x y _ _ => HFR.out x y) HI.out.1 ((Xi HI.out.2.1 0).trans rfl) HI.out.2.2.1)
   rw [HRES.out] at HUP; have hfld := log_field; go_wp2_with ((with_reducible refine Go.Proofs.YtcbepmdnhjojdaaW.PrintHand.gate_calleeT (t := 60) rfl ?_); refine log_goesC (t := 60) (some 65) rfl rfl Try.func56 (by kernel_rfl) rfl #[] #[.pointer (some ⟨w.heap.size, 0, none⟩), .pointer (some ⟨w6.heap.size + 1, 0, none⟩)] #[.int .i64 (l0.length : Int), .int .i64 (l1.length : Int), .pointer (some ⟨w.heap.size, 0, none⟩), .pointer (some ⟨w6.heap.size + 1, 0, none⟩)] rfl rfl (by (try simp only [Xm, Xn, Xo]); first | done | rfl) ?_; refine HUP.out.mono ?_; rintro e w7 ⟨rfl, hb7⟩; refine ⟨_, rfl, ?_⟩; have HI7 := XB (log_ninv_below HI.out hb7); clear hb7)
   first | go_ret | go_ret2
   exact ⟨by first | rfl | (simp; done) | (simp [*]; done), HI7.out.2.2.2⟩


end Go.Proofs.Ytcbepmdnhjojdaa.P
