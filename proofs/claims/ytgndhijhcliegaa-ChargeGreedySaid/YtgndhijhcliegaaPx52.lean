-- laid by a program of this session (wip/tools): plain functions of the Go code and their contracts
-- thinned
import Derived.RangeFuncNested
import Derived.RangeFuncBound
import Derived.RangeFuncCalls
import Derived.RangeFuncLeaves
import Derived.RangeFuncBox
import Derived.Shelf.Abstract
import Derived.OwnWalkIn
import Derived.TacticsInMore
import Derived.LoopNIn
import Derived.LoopIn
import Derived.Shelf.RegionOpen
import Derived.Test.YtgndhijhcliegaaPx0
import Derived.Test.YtgndhijhcliegaaPx4
import Derived.Test.YtgndhijhcliegaaPx27
namespace Go.Proofs.Ytgndhijhcliegaa.P
open Go.RowKit Go.Proofs.YtgndhijhcliegaaW.PrintWords Go.Proofs.YtgndhijhcliegaaW.PrintLast Go.Proofs.YtgndhijhcliegaaW.PrintMore
attribute [local go_sem] max2_int min2_int max_two min_two max_three min_three max_four min_four   -- for this text's walks alone
set_option linter.unusedVariables false
set_option linter.unusedSimpArgs false

/-! ### charge_Greedy: function 40 -/
attribute [local go_sem] Oper.semAt_some
/-- What has come when k rounds are over: the last ones, from the end. -/
def charge_Greedy.up {α : Type} (f : Nat → α) (k : Nat) : List α := (List.range k).map f
theorem charge_Greedy.up_succ {α : Type} (f : Nat → α) (k : Nat) : charge_Greedy.up f (k + 1) = charge_Greedy.up f k ++ [f k] := by simp [charge_Greedy.up, List.range_succ]
theorem charge_Greedy.up_length {α : Type} (f : Nat → α) (k : Nat) : (charge_Greedy.up f k).length = k := by simp [charge_Greedy.up]
/-- A place and what stands there. -/
abbrev charge_Greedy.El (zs : List Int) : Type := { x : Nat × Int // x.1 < zs.length ∧ x.2 = rd zs (x.1 : Int) }
def charge_Greedy.pr (zs : List Int) (h0 : 0 < zs.length) (k : Nat) : charge_Greedy.El zs := ⟨(zs.length - 1 - k, rd zs ((zs.length - 1 - k : Nat) : Int)), by omega, rfl⟩
/-- What a round keeps: all that lay below n₀, and the box of the slice. -/
def charge_Greedy.Kp (n₀ Bs : Nat) (W W' : World) : Prop := Below n₀ W W' ∧ W'.heap[Bs]? = W.heap[Bs]?
theorem charge_Greedy.Kp.refl {n₀ Bs : Nat} (W : World) : charge_Greedy.Kp n₀ Bs W W := ⟨Below.refl _ _, rfl⟩
theorem charge_Greedy.Kp.trans {n₀ Bs : Nat} {A B C : World} (h : charge_Greedy.Kp n₀ Bs A B) (k : charge_Greedy.Kp n₀ Bs B C) : charge_Greedy.Kp n₀ Bs A C := ⟨h.1.trans k.1, k.2.trans h.2⟩
theorem charge_Greedy.Kp.cell {n₀ Bs : Nat} {A B : World} (h : charge_Greedy.Kp n₀ Bs A B) : B.cell? ⟨Bs, 0, none⟩ = A.cell? ⟨Bs, 0, none⟩ := by unfold World.cell?; rw [h.2]
set_option maxRecDepth 100000 in
set_option maxHeartbeats 4000000 in
theorem charge_Greedy.back1 (F : Fence) (n : Nat) (h8 : F.fn 83) (hro : F.round = none) (hn : 1 ≤ n) (l Bs n₀ : Nat) (ad : Addr) (cap : Nat) (zs : List Int) (hl : zs.length ≤ 1000) (hz : 0 < zs.length) (J Jx : List (charge_Greedy.El zs) → World → Prop)
  (hY : ∀ pre x W, J pre W → pre.length < zs.length → YieldAt F (n - 1) Try.prog l #[.int .i64 (x.1.1 : Int), .int .i64 x.1.2] W fun e W' =>
   (e = .returned (.bool true) ∧ J (pre ++ [x]) W' ∧ charge_Greedy.Kp n₀ Bs W W') ∨ (e = .returned (.bool false) ∧ Jx (pre ++ [x]) W'))
  (W : World) (hBs : W.cell? ⟨Bs, 0, none⟩ = some (.slice (some ad) zs.length cap)) (hb : ∀ j : Nat, j < zs.length → (ad.add j).block < n₀) (hc : ∀ j : Nat, j < zs.length → W.cell? (ad.add j) = some (.int .i64 (rd zs (j : Int)))) (h0 : J [] W) :
  CallsIn F n Try.prog 83 #[.func (.yield l) #[] #[], .pointer (some ⟨Bs, 0, none⟩)] W fun e W' => (∃ v, e = .returned v) ∧
   ((∃ ys, ys = charge_Greedy.up (charge_Greedy.pr zs hz) zs.length ∧ J ys W') ∨ (∃ pre, (∃ k, k ≤ zs.length ∧ pre = charge_Greedy.up (charge_Greedy.pr zs hz) k) ∧ Jx pre W')) := by
 refine callsIn_of_wp Try.func83 rfl h8 ?_ hro; simp only [Try.ntmps83, List.size_toArray, List.length_cons, List.length_nil, Nat.reduceAdd, Nat.reduceSub, Array.replicate_succ, Array.replicate_zero, List.push_toArray, List.append_toArray, List.nil_append, List.cons_append]; gi_wp2
 gi_loopw [3] (fun i wr => ∃ k : Nat, k ≤ zs.length ∧ i = .int .i64 ((zs.length : Int) - 1 - (k : Int)) ∧ J (charge_Greedy.up (charge_Greedy.pr zs hz) k) wr ∧ charge_Greedy.Kp n₀ Bs W wr)
  (fun i _ => (intOf i + 1).toNat)
 case atStart => exact ⟨0, Nat.zero_le _, by simp, h0, charge_Greedy.Kp.refl _⟩
 case round =>
  obtain ⟨k, hk, rfl, hJs, hnx⟩ := hrel; have hBs' := hnx.cell.trans hBs; by_cases hlt : k < zs.length
  ·have ej : ((zs.length : Int) - 1 - (k : Int)).toNat = zs.length - 1 - k := by omega
   have e0 : ((zs.length - 1 - k : Nat) : Int) = (zs.length : Int) - 1 - (k : Int) := by omega
   have hp0 : 0 ≤ (zs.length : Int) - 1 - (k : Int) := by omega
   have hp1 : (zs.length : Int) - 1 - (k : Int) < (zs.length : Int) := by omega
   have hcx : wr.cell? (ad.add (zs.length - 1 - k)) = some (.int .i64 (rd zs ((zs.length : Int) - 1 - (k : Int)))) := by
    rw [← e0]; exact (hnx.1.cell (p := ad.add (zs.length - 1 - k)) (hb _ (by omega))).trans (hc _ (by omega))
   obtain ⟨fn, tmps, assign, body, hy, hR⟩ := hY _ (charge_Greedy.pr zs hz k) wr hJs (by rw [charge_Greedy.up_length]; exact hlt); simp only [charge_Greedy.pr, e0] at hy; have hb0 : decide (0 ≤ (zs.length : Int) - 1 - (k : Int)) = true := decide_eq_true hp0; have hb2 : decide ((zs.length : Int) - 1 - (k : Int) ≥ 0) = true := decide_eq_true hp0; have hw : wrap64 ((zs.length : Int) - 1 - (k : Int) - 1) = (zs.length : Int) - 1 - ((k + 1 : Nat) : Int) := by unfold wrap64; omega
   gi_wp2
   refine hR.mono ?_; rintro e W3 (⟨rfl, hJ3, hk3⟩ | ⟨rfl, hJx3⟩)
   ·gi_wp2
    go_roundw
    case rel => exact ⟨k + 1, by omega, by first | rfl | (simp only [Int.natCast_add]; rfl) | (congr 1; omega), by rw [charge_Greedy.up_succ]; exact hJ3, hnx.trans hk3⟩
    case measure => simp [intOf]; omega
   ·gi_wp2
    refine bodyPost_ret (results_none rfl _ _ _) rfl ?_; exact ⟨⟨_, rfl⟩, .inr ⟨_, ⟨k + 1, by omega, (charge_Greedy.up_succ _ _).symm⟩, hJx3⟩⟩
  ·obtain rfl : k = zs.length := by omega
   have hb2 : decide ((zs.length : Int) - 1 - (zs.length : Int) ≥ 0) = false := decide_eq_false (by omega); gi_wp2
   go_end0
   exact ⟨⟨_, rfl⟩, .inl ⟨_, rfl, hJs⟩⟩
theorem charge_Greedy.stops (F : Fence) (n : Nat) (h8 : F.fn 83) (hro : F.round = none) (hn : 1 ≤ n) (Bs n₀ : Nat) (ad : Addr) (cap : Nat) (zs : List Int) (hl : zs.length ≤ 1000) (hz : 0 < zs.length) (w : World) (hw : Bs < w.heap.size) (hn₀ : n₀ ≤ w.heap.size)
  (hBs : w.cell? ⟨Bs, 0, none⟩ = some (.slice (some ad) zs.length cap)) (hb : ∀ j : Nat, j < zs.length → (ad.add j).block < n₀) (hc : ∀ j : Nat, j < zs.length → w.cell? (ad.add j) = some (.int .i64 (rd zs (j : Int)))) :
  SeqStopsK F n Try.prog 83 #[.pointer (some ⟨Bs, 0, none⟩)] (fun x : charge_Greedy.El zs => #[Value.int .i64 (x.1.1 : Int), Value.int .i64 x.1.2]) (charge_Greedy.Kp n₀ Bs) (fun ys => ys = charge_Greedy.up (charge_Greedy.pr zs hz) zs.length)
   (fun pre => ∃ k, k ≤ zs.length ∧ pre = charge_Greedy.up (charge_Greedy.pr zs hz) k) zs.length w := fun l J Jx W hW _ _ hY h0 =>
 charge_Greedy.back1 F n h8 hro hn l Bs n₀ ad cap zs hl hz J Jx hY W ((hW.cell (p := ⟨Bs, 0, none⟩) hw).trans hBs) hb (fun j hj => (hW.cell (p := ad.add j) (Nat.lt_of_lt_of_le (hb j hj) hn₀)).trans (hc j hj)) h0
theorem charge_Greedy.backward (ad : Option Addr) (len cap : Nat) (w : World) :
  Calls Try.prog 70 #[.slice ad len cap] w fun e w' => e = .returned (.func (.func 83) #[] #[.pointer (some ⟨w.heap.size, 0, none⟩)]) ∧ w' = w.alloc (.cells #[.slice ad len cap] 22) := by
 go_enter Try.func70, Try.ntmps70
 go_wp2
 go_ret
 exact ⟨rfl, rfl⟩
/-- What is left of the amount, and the counts, when these have come. -/
def charge_Greedy.st (zs : List Int) (a : Int) (pre : List (charge_Greedy.El zs)) : Int × List Int := pre.foldl (fun s x => (Int.tmod s.1 x.1.2, s.2.set x.1.1 (wrap64 (Int.tdiv s.1 x.1.2)))) (a, List.replicate zs.length 0)
theorem charge_Greedy.st_snoc (zs : List Int) (a : Int) (pre : List (charge_Greedy.El zs)) (x : charge_Greedy.El zs) : charge_Greedy.st zs a (pre ++ [x]) = (Int.tmod (charge_Greedy.st zs a pre).1 x.1.2, (charge_Greedy.st zs a pre).2.set x.1.1 (wrap64 (Int.tdiv (charge_Greedy.st zs a pre).1 x.1.2))) := by
 unfold charge_Greedy.st; rw [List.foldl_append]; rfl
theorem charge_Greedy.st_len (zs : List Int) (a : Int) : ∀ pre : List (charge_Greedy.El zs), (charge_Greedy.st zs a pre).2.length = zs.length := by
 intro pre; unfold charge_Greedy.st; suffices h : ∀ s : Int × List Int, s.2.length = zs.length → (pre.foldl (fun s x => (Int.tmod s.1 x.1.2, s.2.set x.1.1 (wrap64 (Int.tdiv s.1 x.1.2)))) s).2.length = zs.length from h _ (by simp)
 induction pre with
 | nil => intro s h; exact h
 | cons x t ih => intro s h; exact ih _ (by simpa using h)
def charge_Greedy.go (zs : List Int) (a : Int) : Option (List Int × Bool × Int) :=
 if h : 0 < zs.length ∧ zs.length ≤ 1000 ∧ ∀ j : Nat, j < zs.length → rd zs (j : Int) ≠ 0 then (if (charge_Greedy.st zs a (charge_Greedy.up (charge_Greedy.pr zs h.1) zs.length)).1 > 0 then some ([], false, 0) else some ((charge_Greedy.st zs a (charge_Greedy.up (charge_Greedy.pr zs h.1) zs.length)).2, true, 0)) else none
def charge_Greedy.f (k : Nat) (l0 : List Int) (a1 : Int) : Option (List Int × Bool × Int) := (charge_amounted.f k l0 a1).bind fun t => (if t = 0 then charge_Greedy.go l0 a1 else (some (([] : List Int), false, t)))
theorem charge_Greedy.mono : ∀ a0 a1 k, LeO (charge_Greedy.f k a0 a1) (charge_Greedy.f (k + 1) a0 a1) := by
 intro a0 a1 k; unfold charge_Greedy.f; exact LeO.bind (charge_amounted.mono _ _ _) (fun _ => LeO.refl _)
set_option maxHeartbeats 8000000 in
set_option maxRecDepth 100000 in
theorem charge_Greedy.calls (k : Nat) (A0 : Option Addr) (c0 : Nat) (l0 : List Int) (a1 : Int) (r1 : List Int) (r2 : Bool) (r3 : Int) (w : World) (hr0 : Kd.C (Kd.int .i64) w A0 l0.length l0) (hc0 : l0.length ≤ c0) (h : charge_Greedy.f k l0 a1 = some (r1, r2, r3)) :
  Calls Try.prog 40 #[.slice A0 l0.length c0, .int .i64 a1] w fun e w' => ∃ v0_ : Value, e = .returned (.tuple #[v0_, .bool r2, .int .i64 r3]) ∧ Kd.R (Kd.int .i64) 3 w' w.heap.size (fun _ => True) v0_ r1 ∧ Below w.heap.size w w' := by
 have HR0 := XB hr0; have HC0 := XB hc0; clear hr0 hc0; have HB := XB (Below.refl w.heap.size w); unfold charge_Greedy.f at h; obtain ⟨t, A, H⟩ := Option.bind_eq_some_iff.mp h; clear h; refine callsIn_wide.1 (callsIn_of_wp_marks (F := Fence.wide) (n := 6) Try.func40 rfl trivial (wpIn_wide.2 ?_) rfl); simp only [Try.ntmps40, List.size_toArray, List.length_cons, List.length_nil, Nat.reduceAdd, Nat.reduceSub, Array.replicate_succ, Array.replicate_zero, List.push_toArray, List.append_toArray, List.nil_append, List.cons_append]; by_cases c : t = 0
 ·subst c; rw [if_pos rfl] at H; unfold charge_Greedy.go at H; by_cases hg : 0 < l0.length ∧ l0.length ≤ 1000 ∧ ∀ j : Nat, j < l0.length → rd l0 (j : Int) ≠ 0
  case neg => rw [dif_neg hg] at H; exact absurd H (by simp)
  rw [dif_pos hg] at H; have hz := hg.1; have hl := hg.2.1; have HN := XB hg.2.2; replace H : (if (charge_Greedy.st l0 a1 (charge_Greedy.up (charge_Greedy.pr l0 hz) l0.length)).1 > 0 then some (([] : List Int), false, (0 : Int)) else some ((charge_Greedy.st l0 a1 (charge_Greedy.up (charge_Greedy.pr l0 hz) l0.length)).2, true, 0)) = some (r1, r2, r3) := H; clear hg; have HH := XB H; clear H; go_wp2_with (first
   | (go_at_call 56; (with_reducible refine (charge_amounted.calls k _ _ l0 a1 0 _ ?side1 ?side2 A).mono ?_); (case side1 => repeat (first | exact HR0.out | (with_reducible refine Xr ?_ _))); (case side2 => exact HC0.out); rintro e w' ⟨rfl, ⟨nd, rfl⟩⟩)
   | ((with_reducible refine gate_dst (N := 19) rfl ?_); refine Kd.R_make (Kd.int .i64) _ 3 rfl (N := 19) rfl 22 _ _ rfl (l0.length : Int) rfl rfl Try.underlying22 (.int .i64 0) 8 info3 rfl (by decide) (by omega) 0 (ok := fun k_ => k_ = w.heap.size + 1) (okp := fun k_ => k_ = w.heap.size + 1) rfl (fun _ hk => hk) (by simp) (by omega) (by omega) (Below.refl _ _) (Nat.le_refl _) ?_; intro v1 w1 ho1 hb1 hg1 hnew1; obtain ⟨go, co, eo, gb, gl, cl, HG⟩ := Kd.R_form ho1 (by simpa using hz); simp only [List.length_replicate, Int.toNat_natCast] at eo; subst eo)
   | (go_at_call 70; refine (charge_Greedy.backward _ _ _ _).mono ?_; rintro e w' ⟨rfl, rfl⟩))
  have hgo : w.heap.size + 1 ≤ go := by simpa using gb
  have hw1 : w.heap.size + 1 ≤ w1.heap.size := by have := hb1.size; simp at this; omega
  have hB1 : Below w.heap.size w w1 := (Xa ((Below.refl _ w).alloc (Nat.le_refl _) _) nd).trans (hb1.mono (by simp)); have hA1 : w1.heap[w.heap.size]? = some (.cells #[.int .i64 a1] 3 (0, 0)) := by
   refine blk_grown ?_ hg1 (by simp); rw [World.heap_drewN]; exact World.alloc_heap_new w _
  have ho2 : Kd.R (Kd.int .i64) 3 w1 w.heap.size (fun k_ => k_ = w.heap.size + 1) (.slice (some ⟨go, 0, none⟩) l0.length co) (List.replicate l0.length 0) := Kd.R_lower (by simpa using ho1) (by simp); clear ho1 hb1 hg1 hnew1 HG gb; obtain ⟨ad, ea, hx0⟩ := Kd.at_int HR0.out 0 (by omega) (by omega); subst ea; have hcs : ∀ j : Nat, j < l0.length → w.cell? (ad.add j) = some (.int .i64 (rd l0 (j : Int))) := fun j hj => by
   obtain ⟨ad2, e2, h2⟩ := Kd.at_int HR0.out (j : Int) (by omega) (by omega)
   cases e2
   simpa using h2
  have hbl : ∀ j : Nat, j < l0.length → (ad.add j).block < w.heap.size := fun j hj => World.block_lt_of_cell? w _ (hcs j hj)
  have hBs : ((w1.alloc (Obj.cells #[Value.slice (some ⟨go, 0, none⟩) l0.length co] 22)).alloc (Obj.cells #[Value.slice (some ad) l0.length c0] 22)).cell? ⟨w1.heap.size + 1, 0, none⟩ = some (.slice (some ad) l0.length c0) := by
   have := World.alloc_heap_new (w1.alloc (Obj.cells #[Value.slice (some ⟨go, 0, none⟩) l0.length co] 22)) (Obj.cells #[Value.slice (some ad) l0.length c0] 22); rw [World.size_alloc] at this; exact (Xi this 0).trans rfl
  have hB2 : Below w.heap.size w ((w1.alloc (Obj.cells #[Value.slice (some ⟨go, 0, none⟩) l0.length co] 22)).alloc (Obj.cells #[Value.slice (some ad) l0.length c0] 22)) := (hB1.alloc (by omega) _).alloc (by simp; omega) _; have hO2 : ((w1.alloc (Obj.cells #[Value.slice (some ⟨go, 0, none⟩) l0.length co] 22)).alloc (Obj.cells #[Value.slice (some ad) l0.length c0] 22)).heap[w1.heap.size]? = some (.cells #[.slice (some ⟨go, 0, none⟩) l0.length co] 22 (0, 0)) := Xe (World.alloc_heap_new w1 _) _; refine wpIn_wide.1 (wpIn_rangeFunc_ownF (F := Fence.wide) (n := 6) rfl (by omega) (gf := 83) (lb := #[.pointer (some ⟨w1.heap.size + 1, 0, none⟩)]) rfl trivial (enters_of Try.func83 (by kernel_rfl) rfl)
   (charge_Greedy.stops Fence.wide (6 - 1) trivial rfl (by omega) (w1.heap.size + 1) w.heap.size ad c0 l0 hl hz _ (by simp) (by simp; omega) hBs hbl (fun j hj => (hB2.cell (p := ad.add j) (hbl j hj)).trans (hcs j hj))) charge_Greedy.Kp.trans
   (fun W l o o' hle ho _ hw => ⟨belowK_b (n₀ := w.heap.size) (w := ((w1.alloc (Obj.cells #[Value.slice (some ⟨go, 0, none⟩) l0.length co] 22)).alloc (Obj.cells #[Value.slice (some ad) l0.length c0] 22))) (by simp; omega) W l o o' hle ho ‹_› hw, World.putObj_heap_other (fun e => by simp at hle; omega)⟩)
   (Below.refl _ _) (fun _ => rfl)
   (fun pre W => ((W.heap[w.heap.size]? = some (.cells #[.int .i64 (charge_Greedy.st l0 a1 pre).1] 3 (0, 0)) ∧ W.heap[w1.heap.size]? = some (.cells #[.slice (some ⟨go, 0, none⟩) l0.length co] 22 (0, 0))) ∧ Kd.R (Kd.int .i64) 3 W w.heap.size (fun k_ => k_ = w.heap.size + 1) (.slice (some ⟨go, 0, none⟩) l0.length co) (charge_Greedy.st l0 a1 pre).2) ∧ Below w.heap.size w W)
   (fun _ _ _ => False)
   (OwnFrom.and (fun s A B row hs hg hr => ⟨⟨blk_grown hs.1.1 hg (fun e => by have := (hr _ e.symm).1; simp at this; omega), blk_grown hs.1.2 hg (fun e => by have := (hr _ e.symm).1; simp at this; omega)⟩, Kd.R_grown hs.2 hg (fun k hk e => by have := (hr _ e.symm).1; simp at this; omega)⟩) (ownFrom_below (Nat.le_refl _) (by simp; omega)))
   (fun _ _ _ _ _ hs _ _ => hs)
   ⟨⟨⟨Xe (Xe hA1 _) _, hO2⟩, Xv (Xv ho2 _) _⟩, hB2⟩
   (fun x => { tmps := #[.slice (some ad) l0.length c0, .int .i64 a1, undef, .pointer (some ⟨w.heap.size, 0, none⟩), .slice none 0 0, .bool false, .int .i64 0, .int .i64 0, .pointer (some ⟨w1.heap.size, 0, none⟩), .int .i64 (x.1.1 : Int), .int .i64 x.1.2, .slice (some ad) l0.length c0, .int .i64 a1, .int .i64 0, .int .i64 0, .bool false, undef, .slice (some ad) l0.length c0, .int .i64 (l0.length : Int), .slice (some ⟨go, 0, none⟩) l0.length co, .slice (some ad) l0.length c0, .func (.func 83) #[] #[.pointer (some ⟨w1.heap.size + 1, 0, none⟩)], .int .i64 (x.1.1 : Int), .int .i64 x.1.2, undef, undef, undef, undef, undef, undef, undef, undef, undef, undef, undef, undef], defers := [] }) ?assign ?body ?done ?stop)
  case assign =>
   intro l x W K hK; gi_wp2
   exact hK
  case body =>
   rintro l pre x W ⟨⟨⟨hA, hO⟩, hR⟩, hB⟩ _; have hx1 := x.2.1; have hx2 : x.1.2 ≠ 0 := by rw [x.2.2]; exact HN.out _ x.2.1
   obtain ⟨⟨xi, xv⟩, hx3, hx4⟩ := x; simp only at hx1 hx2; generalize hs : charge_Greedy.st l0 a1 pre = s at hA hR
   have hcA : W.cell? ⟨w.heap.size, 0, none⟩ = some (.int .i64 s.1) := (Xi hA 0).trans rfl; have hfA := Xh hA 0; have hcO : W.cell? ⟨w1.heap.size, 0, none⟩ = some (.slice (some ⟨go, 0, none⟩) l0.length co) := (Xi hO 0).trans rfl; obtain ⟨hcR, hfR⟩ := Kd.R_celln 0 hR (xi : Int) (by omega) (by omega); have HP := Kd.R_putg hR (xi : Int) (IntKind.i64.wrap (Int.tdiv s.1 xv)); rw [Int.toNat_natCast] at hcR hfR HP; have hq : decide ((xi : Int) < (l0.length : Int)) = true := decide_eq_true (by omega); have hq2 : xi < l0.length := hx1; have hmx : Try.prog.follows .mixedOrders = true := by kernel_rfl
   gi_wp2
   gi_region_with_o (fail)
   all_goals
    have hA2 : (W.setCell ⟨go, xi, none⟩ (.int .i64 (IntKind.i64.wrap (s.1.tdiv xv)))).drew.heap[w.heap.size]? = some (.cells #[.int .i64 s.1] 3 (0, 0)) := Xg (blk_far hA (p := ⟨go, xi, none⟩) (by show w.heap.size ≠ go; omega) _); have hO2' : (W.setCell ⟨go, xi, none⟩ (.int .i64 (IntKind.i64.wrap (s.1.tdiv xv)))).drew.heap[w1.heap.size]? = some (.cells #[.slice (some ⟨go, 0, none⟩) l0.length co] 22 (0, 0)) := Xg (blk_far hO (p := ⟨go, xi, none⟩) (by show w1.heap.size ≠ go; omega) _); have hR2 : Kd.R (Kd.int .i64) 3 (W.setCell ⟨go, xi, none⟩ (.int .i64 (IntKind.i64.wrap (s.1.tdiv xv)))).drew w.heap.size (fun k_ => k_ = w.heap.size + 1) (.slice (some ⟨go, 0, none⟩) l0.length co) (s.2.set xi (IntKind.i64.wrap (s.1.tdiv xv))) := Xx HP.1; have hB2' : Below w.heap.size w (W.setCell ⟨go, xi, none⟩ (.int .i64 (IntKind.i64.wrap (s.1.tdiv xv)))).drew := Xb (hB.setCell (p := ⟨go, xi, none⟩) (by show w.heap.size ≤ go; omega) _); have hN2 : Below w.heap.size W (W.setCell ⟨go, xi, none⟩ (.int .i64 (IntKind.i64.wrap (s.1.tdiv xv)))).drew := Xb ((Below.refl w.heap.size W).setCell (p := ⟨go, xi, none⟩) (by show w.heap.size ≤ go; omega) _); have hK2 : KeepsOthers W (W.setCell ⟨go, xi, none⟩ (.int .i64 (IntKind.i64.wrap (s.1.tdiv xv)))).drew := (KeepsOthers.setCell _ _ _).trans (KeepsOthers.drew _); have hS2 : (W.setCell ⟨go, xi, none⟩ (.int .i64 (IntKind.i64.wrap (s.1.tdiv xv)))).drew.heap[w1.heap.size + 1]? = W.heap[w1.heap.size + 1]? := Below.heap_setCell W ⟨go, xi, none⟩ _ _ (by show w1.heap.size + 1 ≠ go; omega)
    clear HP hcA hfA hcO hcR hfR hA hO hR hB; generalize (W.setCell ⟨go, xi, none⟩ (.int .i64 (IntKind.i64.wrap (s.1.tdiv xv)))).drew = W3 at *
    have hcA3 : W3.cell? ⟨w.heap.size, 0, none⟩ = some (.int .i64 s.1) := (Xi hA2 0).trans rfl; have hfA3 := Xh hA2 0; gi_wp2
    refine ⟨hK2.trans (KeepsOthers.setCell _ _ _), ⟨hN2.setCell (p := ⟨w.heap.size, 0, none⟩) (Nat.le_refl _) _, (Below.heap_setCell W3 ⟨w.heap.size, 0, none⟩ _ _ (by show w1.heap.size + 1 ≠ w.heap.size; omega)).trans hS2⟩, ⟨⟨?_, blk_far hO2' (p := ⟨w.heap.size, 0, none⟩) (by show w1.heap.size ≠ w.heap.size; omega) _⟩, ?_⟩, hB2'.setCell (p := ⟨w.heap.size, 0, none⟩) (Nat.le_refl _) _⟩
    ·rw [charge_Greedy.st_snoc, hs]; exact blk_put hA2 0 _ rfl
    ·rw [charge_Greedy.st_snoc, hs]; simp only [i64_w] at hR2 ⊢; exact Kd.R_far hR2 (p := ⟨w.heap.size, 0, none⟩) (fun k hk => by show k ≠ w.heap.size; omega) _
  case done =>
   rintro D xs W hD rfl ⟨⟨⟨hA, hO⟩, hR⟩, hB⟩ hK; have HHo := HH.out; clear HH; generalize charge_Greedy.st l0 a1 (charge_Greedy.up (charge_Greedy.pr l0 hz) l0.length) = s at hA hR HHo
   have hcA : W.cell? ⟨w.heap.size, 0, none⟩ = some (.int .i64 s.1) := (Xi hA 0).trans rfl; have hcO : W.cell? ⟨w1.heap.size, 0, none⟩ = some (.slice (some ⟨go, 0, none⟩) l0.length co) := (Xi hO 0).trans rfl; by_cases c : s.1 > 0
   ·rw [if_pos c] at HHo; simp only [Option.some.injEq, Prod.mk.injEq] at HHo; obtain ⟨rfl, rfl, rfl⟩ := HHo; have hc : decide (s.1 > 0) = true := decide_eq_true c; go_wp2
    refine ⟨by simp, .inl ⟨_, _, rfl, run_takeDeferred hK, ?_⟩⟩; exact ⟨_, results_tmp3 rfl _ _ _, _, rfl, Kd.R_nil _ _ _ _ _, hB.trans (belowK_b (w := w) (Nat.le_refl _) W D _ _ (by simp at hD; omega) hK rfl rfl)⟩
   ·rw [if_neg c] at HHo; simp only [Option.some.injEq, Prod.mk.injEq] at HHo; obtain ⟨rfl, rfl, rfl⟩ := HHo; have hc : decide (s.1 > 0) = false := decide_eq_false c; go_wp2
    refine ⟨by simp, .inl ⟨_, _, rfl, run_takeDeferred hK, ?_⟩⟩; exact ⟨_, results_tmp3 rfl _ _ _, _, rfl, Kd.R_mono (Kd.R_grown hR (grownBy_putObj' W D (.deferred none)) (fun k hk e => by cases e; simp at hD; omega)) (fun _ _ => trivial), hB.trans (belowK_b (w := w) (Nat.le_refl _) W D _ _ (by simp at hD; omega) hK rfl rfl)⟩
  case stop =>
   rintro D c pre W _ _ hs _; exact hs.elim
 ·rw [if_neg c] at H; simp only [Option.some.injEq, Prod.mk.injEq] at H; obtain ⟨rfl, rfl, rfl⟩ := H; have hc : (t != 0) = true := bne_iff_ne.mpr c; go_wp2_with (go_at_call 56; (with_reducible refine (charge_amounted.calls k _ _ l0 a1 t _ ?side1 ?side2 A).mono ?_); (case side1 => repeat (first | exact HR0.out | (with_reducible refine Xr ?_ _))); (case side2 => exact HC0.out); rintro e w' ⟨rfl, ⟨nd, rfl⟩⟩)
  exact ⟨_, results_tmp3 rfl _ _ _, _, rfl, Kd.R_nil _ _ _ _ _, Xa ((Below.refl _ w).alloc (Nat.le_refl _) _) nd⟩


/-! ### diaphoneref07_Greedy: function 41 -/
def diaphoneref07_Greedy.l0 : Nat → List Int → Int → List Int → Int → Option (List Int × Bool × Int)
 | 0, _, _, _, _ => none
 | k + 1, x0, x1, x8, x9 => if x9 ≥ 0 then (if 0 ≤ x9 then (if x9 < (x0.length : Int) then (if (rd x0 x9) = 0 then (none) else (if x9 < (x8.length : Int) then ((some (x8.set (x9 : Int).toNat (wrap64 (Int.tdiv x1 (rd x0 x9))) : List Int)).bind fun y106 => (diaphoneref07_Greedy.l0 k x0 (wrap64 (x1 - (wrap64 ((rd y106 x9) * (rd x0 x9))))) y106 (wrap64 (x9 - 1)))) else (none))) else (none)) else (none)) else (if x1 > 0 then (some (([] : List Int), false, 0)) else (some (x8, true, 0)))
def diaphoneref07_Greedy.f (k : Nat) (l0 : List Int) (a1 : Int) : Option (List Int × Bool × Int) := (diaphoneref07_asked.f k l0 a1).bind fun t101 => (if t101 = 0 then (if 0 ≤ (l0.length : Int) then (if ((l0.length : Int) : Int).toNat ≤ 35184372088832 then (diaphoneref07_Greedy.l0 k l0 a1 (List.replicate ((l0.length : Int) : Int).toNat 0) (wrap64 ((l0.length : Int) - 1))) else (none)) else (none)) else (some (([] : List Int), false, t101)))
theorem diaphoneref07_Greedy.mono_l : ∀ k, (∀ y0 y1 y2 y3, LeO (diaphoneref07_Greedy.l0 k y0 y1 y2 y3) (diaphoneref07_Greedy.l0 (k + 1) y0 y1 y2 y3))
 | 0 => fun _ _ _ _ r h => by simp [diaphoneref07_Greedy.l0] at h
 | k + 1 => by
  have ih0 := diaphoneref07_Greedy.mono_l k
  ·intro y0 y1 y2 y3; unfold diaphoneref07_Greedy.l0; repeat' first
   | (with_reducible exact ih0 _ _ _ _)
   | (with_reducible exact diaphoneref07_asked.mono _ _ _)
   | (with_reducible exact LeO.refl _)
   | (with_reducible exact LeO.none _)
   | (with_reducible refine LeO.ite ?_ ?_)
   | (with_reducible refine LeO.bind ?_ (fun _ => ?_))
   | exact ih0 _ _ _ _
   | exact diaphoneref07_asked.mono _ _ _
   | exact LeO.none _
   | refine LeO.ite ?_ ?_
   | refine LeO.bind ?_ (fun _ => ?_)
theorem diaphoneref07_Greedy.mono : ∀ a0 a1 k, LeO (diaphoneref07_Greedy.f k a0 a1) (diaphoneref07_Greedy.f (k + 1) a0 a1) := by
 intro a0 a1 k; have ih0 := diaphoneref07_Greedy.mono_l k; unfold diaphoneref07_Greedy.f; repeat' first
   | (with_reducible exact ih0 _ _ _ _)
   | (with_reducible exact diaphoneref07_asked.mono _ _ _)
   | (with_reducible exact LeO.refl _)
   | (with_reducible exact LeO.none _)
   | (with_reducible refine LeO.ite ?_ ?_)
   | (with_reducible refine LeO.bind ?_ (fun _ => ?_))
   | exact ih0 _ _ _ _
   | exact diaphoneref07_asked.mono _ _ _
   | exact LeO.none _
   | refine LeO.ite ?_ ?_
   | refine LeO.bind ?_ (fun _ => ?_)
set_option maxHeartbeats 8000000 in
set_option maxRecDepth 100000 in
theorem diaphoneref07_Greedy.calls (k : Nat) (A0 : Option Addr) (c0 : Nat) (l0 : List Int) (a1 : Int) (r1 : List Int) (r2 : Bool) (r3 : Int) (w : World) (hr0 : Kd.C (Kd.int .i64) w A0 l0.length l0) (hc0 : l0.length ≤ c0) (h : diaphoneref07_Greedy.f k l0 a1 = some (r1, r2, r3)) :
  Calls Try.prog 41 #[.slice A0 l0.length c0, .int .i64 a1] w fun e w' => ∃ v0_ : Value, e = .returned (.tuple #[v0_, .bool r2, .int .i64 r3]) ∧ Kd.R (Kd.int .i64) 3 w' w.heap.size (fun _ => True) v0_ r1 ∧ Below w.heap.size w w' := by
 have HR0 := XB hr0; have HC0 := XB hc0; clear hr0 hc0; have HB := XB (Below.refl w.heap.size w); have H : ((diaphoneref07_asked.f k l0 a1).bind fun t101 => (if t101 = 0 then (if 0 ≤ (l0.length : Int) then (if ((l0.length : Int) : Int).toNat ≤ 35184372088832 then (diaphoneref07_Greedy.l0 k l0 a1 (List.replicate ((l0.length : Int) : Int).toNat 0) (wrap64 ((l0.length : Int) - 1))) else (none)) else (none)) else (some (([] : List Int), false, t101)))) = some (r1, r2, r3) := h; clear h; replace H := Option.bind_eq_some_iff.mp H; obtain ⟨t101, A30, H⟩ := H; replace H : (if t101 = 0 then (if 0 ≤ (l0.length : Int) then (if ((l0.length : Int) : Int).toNat ≤ 35184372088832 then (diaphoneref07_Greedy.l0 k l0 a1 (List.replicate ((l0.length : Int) : Int).toNat 0) (wrap64 ((l0.length : Int) - 1))) else (none)) else (none)) else (some (([] : List Int), false, t101))) = some (r1, r2, r3) := H; have A3 := XB A30; clear A30; by_cases c4 : t101 = 0
 ·rw [if_pos c4] at H; have c4b0 : (t101 == 0) = true := beq_iff_eq.mpr c4; have c4b1 : (t101 != 0) = false := bne_eq_false_iff_eq.mpr c4; clear c4; by_cases c5 : 0 ≤ (l0.length : Int)
  ·rw [if_pos c5] at H; have c5b0 := eq_true c5; have c5b1 : decide (0 ≤ (l0.length : Int)) = true := decide_eq_true c5; clear c5; by_cases c6 : ((l0.length : Int) : Int).toNat ≤ 35184372088832
   ·rw [if_pos c6] at H; have c6b0 := eq_true c6; have c6b1 : decide (((l0.length : Int) : Int).toNat ≤ 35184372088832) = true := decide_eq_true c6; clear c6; obtain ⟨y102, hy102⟩ : ∃ y_ : List Int, y_ = (List.replicate ((l0.length : Int) : Int).toNat 0) := ⟨_, rfl⟩
    replace H : (diaphoneref07_Greedy.l0 k l0 a1 y102 (wrap64 ((l0.length : Int) - 1))) = some (r1, r2, r3) := by first | (rw [hy102]; with_reducible exact H) | (have H2_ := (Option.bind_some _ _).symm.trans H; rw [hy102]; with_reducible exact H2_) | (have H2_ := (Option.bind_some _ _).symm.trans H; with_reducible exact H2_) | with_reducible exact H | (rw [hy102]; exact H) | exact H
    have Ny102 := XB hy102; clear hy102; have H' := XB H; clear H; go_enter Try.func41, Try.ntmps41
    go_wp2_with (first | (go_at_call 61; (with_reducible refine (diaphoneref07_asked.calls k _ _ l0 a1 t101 _ ?side1 ?side2 A3.out).mono ?_); (case side1 => repeat (first | exact HR0.out | (with_reducible refine Xr ?_ _) | (with_reducible refine Xs ?_ _) | (with_reducible refine Xt ?_))); (case side2 => exact HC0.out); rintro e w' ⟨rfl, ⟨nd, rfl⟩⟩; (try first | exact ⟨rfl, _, World.drewN_drewN _ _ _⟩ | exact ⟨rfl, _, Eq.trans (World.drewN_drewN _ _ _) (congrArg (World.drewN _) (Nat.add_assoc _ _ _))⟩)) | ((with_reducible refine gate_dst (N := 18) rfl ?_); refine Kd.R_make (Kd.int .i64) _ 3 rfl (N := 18) rfl 22 _ _ rfl (l0.length : Int) rfl rfl Try.underlying22 (.int .i64 0) 8 info3 rfl (by decide) (by omega) 0 (ok := fun _ => True) (okp := fun _ => True) rfl (fun _ hk => hk) trivial (of_decide_eq_true (by first | (with_reducible assumption) | assumption)) (Nat.le_trans (Nat.mul_le_mul_right _ (of_decide_eq_true (by first | (with_reducible assumption) | assumption) : (l0.length : Int).toNat ≤ 35184372088832)) (by omega)) (Below.refl _ _) (Nat.le_refl _) ?_; intro v103 w7 ho8 hb hg_ hnew_; clear hg_ hnew_; (first | rw [← Ny102.out] at ho8 | (simp only [Int.reduceToNat] at ho8; rw [← Ny102.out] at ho8)); have n0_ := XB (Kd.R_lower ho8 (XC (by repeat (first | (with_reducible first | exact HB.out | apply Xc | apply Xa | apply Xb) | exact HB.out)))); have n1_ := XB (Xz (by repeat (first | (with_reducible first | exact HB.out | apply Xc | apply Xa | apply Xb) | exact HB.out)) hb); clear HB; have HO104 := n0_; have HB := n1_; clear n0_ n1_; clear hb ho8))
    repeat (go_quiet (first | (go_at_call 61; (with_reducible refine (diaphoneref07_asked.calls k _ _ l0 a1 t101 _ ?side1 ?side2 A3.out).mono ?_); (case side1 => repeat (first | exact HR0.out | (with_reducible refine Xr ?_ _) | (with_reducible refine Xs ?_ _) | (with_reducible refine Xt ?_))); (case side2 => exact HC0.out); rintro e w' ⟨rfl, ⟨nd, rfl⟩⟩; (try first | exact ⟨rfl, _, World.drewN_drewN _ _ _⟩ | exact ⟨rfl, _, Eq.trans (World.drewN_drewN _ _ _) (congrArg (World.drewN _) (Nat.add_assoc _ _ _))⟩)) | ((with_reducible refine gate_dst (N := 18) rfl ?_); refine Kd.R_make (Kd.int .i64) _ 3 rfl (N := 18) rfl 22 _ _ rfl (l0.length : Int) rfl rfl Try.underlying22 (.int .i64 0) 8 info3 rfl (by decide) (by omega) 0 (ok := fun _ => True) (okp := fun _ => True) rfl (fun _ hk => hk) trivial (of_decide_eq_true (by first | (with_reducible assumption) | assumption)) (Nat.le_trans (Nat.mul_le_mul_right _ (of_decide_eq_true (by first | (with_reducible assumption) | assumption) : (l0.length : Int).toNat ≤ 35184372088832)) (by omega)) (Below.refl _ _) (Nat.le_refl _) ?_; intro v103 w7 ho8 hb hg_ hnew_; clear hg_ hnew_; (first | rw [← Ny102.out] at ho8 | (simp only [Int.reduceToNat] at ho8; rw [← Ny102.out] at ho8)); have n0_ := XB (Kd.R_lower ho8 (XC (by repeat (first | (with_reducible first | exact HB.out | apply Xc | apply Xa | apply Xb) | exact HB.out)))); have n1_ := XB (Xz (by repeat (first | (with_reducible first | exact HB.out | apply Xc | apply Xa | apply Xb) | exact HB.out)) hb); clear HB; have HO104 := n0_; have HB := n1_; clear n0_ n1_; clear hb ho8)); try go_wp2_with (first | (go_at_call 61; (with_reducible refine (diaphoneref07_asked.calls k _ _ l0 a1 t101 _ ?side1 ?side2 A3.out).mono ?_); (case side1 => repeat (first | exact HR0.out | (with_reducible refine Xr ?_ _) | (with_reducible refine Xs ?_ _) | (with_reducible refine Xt ?_))); (case side2 => exact HC0.out); rintro e w' ⟨rfl, ⟨nd, rfl⟩⟩; (try first | exact ⟨rfl, _, World.drewN_drewN _ _ _⟩ | exact ⟨rfl, _, Eq.trans (World.drewN_drewN _ _ _) (congrArg (World.drewN _) (Nat.add_assoc _ _ _))⟩)) | ((with_reducible refine gate_dst (N := 18) rfl ?_); refine Kd.R_make (Kd.int .i64) _ 3 rfl (N := 18) rfl 22 _ _ rfl (l0.length : Int) rfl rfl Try.underlying22 (.int .i64 0) 8 info3 rfl (by decide) (by omega) 0 (ok := fun _ => True) (okp := fun _ => True) rfl (fun _ hk => hk) trivial (of_decide_eq_true (by first | (with_reducible assumption) | assumption)) (Nat.le_trans (Nat.mul_le_mul_right _ (of_decide_eq_true (by first | (with_reducible assumption) | assumption) : (l0.length : Int).toNat ≤ 35184372088832)) (by omega)) (Below.refl _ _) (Nat.le_refl _) ?_; intro v103 w7 ho8 hb hg_ hnew_; clear hg_ hnew_; (first | rw [← Ny102.out] at ho8 | (simp only [Int.reduceToNat] at ho8; rw [← Ny102.out] at ho8)); have n0_ := XB (Kd.R_lower ho8 (XC (by repeat (first | (with_reducible first | exact HB.out | apply Xc | apply Xa | apply Xb) | exact HB.out)))); have n1_ := XB (Xz (by repeat (first | (with_reducible first | exact HB.out | apply Xc | apply Xa | apply Xb) | exact HB.out)) hb); clear HB; have HO104 := n0_; have HB := n1_; clear n0_ n1_; clear hb ho8)))
    go_loopg [1, 9] k (fun kq v1 v9 w' => ∃ (x1_1 : Int) (x8_1 : List Int) (x9_1 : Int), v1 = .int .i64 x1_1 ∧ v9 = .int .i64 x9_1 ∧ Aside0 (diaphoneref07_Greedy.l0 kq l0 x1_1 x8_1 x9_1 = some (r1, r2, r3)) ∧ Aside0 (kq ≤ k) ∧ Aside0 (Kd.R (Kd.int .i64) 3 w' w.heap.size (fun _ => True) v103 x8_1) ∧ Aside0 (Below w.heap.size w w'))
    case atStart => exact ⟨(a1), (y102), (wrap64 ((l0.length : Int) - 1)), (by first | rfl | (simp; done) | (simp [*]; done)), (by first | rfl | (simp; done) | (simp [*]; done)), H', ⟨Nat.le_refl _⟩, ⟨by (with_reducible repeat (first | apply Xv | apply Xw | apply Xx)); exact HO104.out⟩, ⟨by repeat (first | (with_reducible first | exact HB.out | apply Xc | apply Xa | apply Xb) | exact HB.out)⟩⟩
    case round =>
     clear H'; try clear p2
     try clear c4
     try clear c4b0
     try clear c4b1
     try clear c5
     try clear c5b0
     try clear c5b1
     try clear c6
     try clear c6b0
     try clear c6b1
     try clear p6
     obtain ⟨x1_1, x8_1, x9_1, rfl, rfl, HA, HK1, HO_8, HB⟩ := hrel
     cases gk with
     | zero => exact absurd HA.out (by simp [diaphoneref07_Greedy.l0])
     | succ k1 =>
      have H := HA.out; clear HA; simp only [diaphoneref07_Greedy.l0] at H; by_cases c9 : x9_1 ≥ 0
      ·rw [if_pos c9] at H; have c9b0 : decide (0 ≤ x9_1) = true := decide_eq_true c9; clear c9; by_cases c10 : 0 ≤ x9_1
       ·rw [if_pos c10] at H; have c10b0 : decide (0 ≤ x9_1) = true := decide_eq_true c10; clear c10; by_cases c11 : x9_1 < (l0.length : Int)
        ·rw [if_pos c11] at H; have c11b0 : decide (x9_1 < (l0.length : Int)) = true := decide_eq_true c11; clear c11; by_cases c12 : (rd l0 x9_1) = 0
         ·rw [if_pos c12] at H; exact absurd H (by simp)
         ·rw [if_neg c12] at H; have c12b0 : ((rd l0 x9_1) == 0) = false := beq_eq_false_iff_ne.mpr c12; have c12b1 : ((rd l0 x9_1) != 0) = true := bne_iff_ne.mpr c12; by_cases c13 : x9_1 < (x8_1.length : Int)
          ·rw [if_pos c13] at H; have c13b0 : decide (x9_1 < (x8_1.length : Int)) = true := decide_eq_true c13; clear c13; obtain ⟨y106, hy106⟩ : ∃ y_ : List Int, y_ = (x8_1.set (x9_1 : Int).toNat (wrap64 (Int.tdiv x1_1 (rd l0 x9_1)))) := ⟨_, rfl⟩
           replace H : (diaphoneref07_Greedy.l0 k1 l0 (wrap64 (x1_1 - (wrap64 ((rd y106 x9_1) * (rd l0 x9_1))))) y106 (wrap64 (x9_1 - 1))) = some (r1, r2, r3) := by first | (rw [hy106]; with_reducible exact H) | (have H2_ := (Option.bind_some _ _).symm.trans H; rw [hy106]; with_reducible exact H2_) | (have H2_ := (Option.bind_some _ _).symm.trans H; with_reducible exact H2_) | with_reducible exact H | (rw [hy106]; exact H) | exact H
           have Ny106 := XB hy106; clear hy106; have H' := XB H; clear H; have p105 : 0 ≤ (x9_1 : Int) := of_decide_eq_true (by first | (with_reducible assumption) | assumption); have q105 : x9_1 < (l0.length : Int) := of_decide_eq_true (by first | (with_reducible assumption) | assumption); obtain ⟨ad105, e105, hx105_0⟩ := Kd.at_int HR0.out x9_1 p105 q105
           cases e105
           replace hx105_0 := (HB.out.cell (World.block_lt_of_cell? w _ hx105_0)).trans hx105_0; replace p105 := eq_true p105; replace q105 := eq_true q105; have p14 : 0 ≤ (x9_1 : Int) := of_decide_eq_true (by first | (with_reducible assumption) | assumption); have q14 : (x9_1 : Int) < ((x8_1.length : Int) : Int) := of_decide_eq_true (by first | (with_reducible assumption) | assumption); obtain ⟨go14, co14, eo14, gb14, gl14, cl14, HG14⟩ := Kd.R_form HO_8.out (by omega); (first | cases eo14 | (injection eo14 with ea_ en_ ec_; (first | subst ea_ | (injection ea_ with ea_; subst ea_)); subst ec_; clear en_))
           have GB14 := XB gb14; have GG14 := XB HG14; clear gb14 gl14 HG14; obtain ⟨hx14_0, hf14_0⟩ := Kd.R_celln 0 HO_8.out (x9_1 : Int) p14 q14; replace p14 := eq_true p14; replace q14 := eq_true q14; have HP15 := Kd.R_putg HO_8.out (x9_1 : Int) (wrap64 (Int.tdiv x1_1 (rd l0 x9_1))); go_wp2_with (first | ((with_reducible refine gate_store (t := 3) (p := 34) rfl ?_); (try (rw [drewN_self wr]; generalize hq_ : World.drewN wr _ = wr; have n0_ := XB (Kd.R_at hq_ HO_8.out); have n1_ := XB (below_at hq_ HB.out); clear hq_ HO_8 HB; have HO_8 := n0_; have HB := n1_; clear n0_ n1_; (try (have HP15 := Kd.R_putg HO_8.out (x9_1 : Int) (wrap64 (Int.tdiv x1_1 (rd l0 x9_1))))))); refine store_event (t := 3) (p := 34) (v := ?vo_w16) (w1 := (wr.setCell ⟨go14, (x9_1 : Int).toNat, none⟩ (.int .i64 (wrap64 (Int.tdiv x1_1 (rd l0 x9_1)))))) ?hg ?ho ?hn ?hr ?_; (case ho => rfl); (case hg => rfl); (case hn => rfl); (case hr => first | (go_simp; done) | (go_simp; rfl)); intro w16 hw; have hg : wr.grownBy w16 (some go14) := (by rw [hw]; exact HP15.2); have hp_ : Kd.R (Kd.int .i64) 3 w16 w.heap.size (fun _ => True) (.slice (some ⟨go14, 0, none⟩) x8_1.length co14) y106 := (by rw [hw, Ny106.out]; exact HP15.1); clear HP15; have n0_ := XB (hp_); have n1_ := XB ((by rw [hw]; exact Xd (HB.out) GB14.out : Below w.heap.size w w16)); clear HO_8; clear HB; have HO_8 := n0_; have HB := n1_; clear n0_ n1_; clear hg hw hp_; have p107 : 0 ≤ (x9_1 : Int) := of_decide_eq_true (by first | (with_reducible assumption) | assumption); have q107 : x9_1 < (y106.length : Int) := (by have h_ : (x9_1 : Int) < ((x8_1.length : Int) : Int) := of_decide_eq_true (by first | (with_reducible assumption) | assumption); first | (have e_ := (XD HO_8.out).1; omega) | simpa only [Ny106.out, List.length_set] using h_); have ql107 : ((x9_1 : Int) < ((x8_1.length : Int) : Int)) = True := eq_true (of_decide_eq_true (by first | (with_reducible assumption) | assumption)); obtain ⟨ad107, e107, hx107_0⟩ := Kd.at_int (XD HO_8.out).2.2 x9_1 p107 q107; obtain rfl : (⟨go14, 0, none⟩ : Addr) = ad107 := (by injection e107); (first | simp only [add_plain] at hx107_0 | simp only [add_at] at hx107_0 | simp only [Addr.add, Nat.zero_add] at hx107_0 | skip); replace p107 := eq_true p107; replace q107 := eq_true q107; have p108 : 0 ≤ (x9_1 : Int) := of_decide_eq_true (by first | (with_reducible assumption) | assumption); have q108 : x9_1 < (l0.length : Int) := of_decide_eq_true (by first | (with_reducible assumption) | assumption); obtain ⟨ad108, e108, hx108_0⟩ := Kd.at_int HR0.out x9_1 p108 q108; obtain rfl : ad105 = ad108 := (by injection e108); replace hx108_0 := (HB.out.cell (World.block_lt_of_cell? w _ hx108_0)).trans hx108_0; replace p108 := eq_true p108; replace q108 := eq_true q108))
           repeat (go_quiet (first | ((with_reducible refine gate_store (t := 3) (p := 34) rfl ?_); (try (rw [drewN_self wr]; generalize hq_ : World.drewN wr _ = wr; have n0_ := XB (Kd.R_at hq_ HO_8.out); have n1_ := XB (below_at hq_ HB.out); clear hq_ HO_8 HB; have HO_8 := n0_; have HB := n1_; clear n0_ n1_; (try (have HP15 := Kd.R_putg HO_8.out (x9_1 : Int) (wrap64 (Int.tdiv x1_1 (rd l0 x9_1))))))); refine store_event (t := 3) (p := 34) (v := ?vo_w16) (w1 := (wr.setCell ⟨go14, (x9_1 : Int).toNat, none⟩ (.int .i64 (wrap64 (Int.tdiv x1_1 (rd l0 x9_1)))))) ?hg ?ho ?hn ?hr ?_; (case ho => rfl); (case hg => rfl); (case hn => rfl); (case hr => first | (go_simp; done) | (go_simp; rfl)); intro w16 hw; have hg : wr.grownBy w16 (some go14) := (by rw [hw]; exact HP15.2); have hp_ : Kd.R (Kd.int .i64) 3 w16 w.heap.size (fun _ => True) (.slice (some ⟨go14, 0, none⟩) x8_1.length co14) y106 := (by rw [hw, Ny106.out]; exact HP15.1); clear HP15; have n0_ := XB (hp_); have n1_ := XB ((by rw [hw]; exact Xd (HB.out) GB14.out : Below w.heap.size w w16)); clear HO_8; clear HB; have HO_8 := n0_; have HB := n1_; clear n0_ n1_; clear hg hw hp_; have p107 : 0 ≤ (x9_1 : Int) := of_decide_eq_true (by first | (with_reducible assumption) | assumption); have q107 : x9_1 < (y106.length : Int) := (by have h_ : (x9_1 : Int) < ((x8_1.length : Int) : Int) := of_decide_eq_true (by first | (with_reducible assumption) | assumption); first | (have e_ := (XD HO_8.out).1; omega) | simpa only [Ny106.out, List.length_set] using h_); have ql107 : ((x9_1 : Int) < ((x8_1.length : Int) : Int)) = True := eq_true (of_decide_eq_true (by first | (with_reducible assumption) | assumption)); obtain ⟨ad107, e107, hx107_0⟩ := Kd.at_int (XD HO_8.out).2.2 x9_1 p107 q107; obtain rfl : (⟨go14, 0, none⟩ : Addr) = ad107 := (by injection e107); (first | simp only [add_plain] at hx107_0 | simp only [add_at] at hx107_0 | simp only [Addr.add, Nat.zero_add] at hx107_0 | skip); replace p107 := eq_true p107; replace q107 := eq_true q107; have p108 : 0 ≤ (x9_1 : Int) := of_decide_eq_true (by first | (with_reducible assumption) | assumption); have q108 : x9_1 < (l0.length : Int) := of_decide_eq_true (by first | (with_reducible assumption) | assumption); obtain ⟨ad108, e108, hx108_0⟩ := Kd.at_int HR0.out x9_1 p108 q108; obtain rfl : ad105 = ad108 := (by injection e108); replace hx108_0 := (HB.out.cell (World.block_lt_of_cell? w _ hx108_0)).trans hx108_0; replace p108 := eq_true p108; replace q108 := eq_true q108)); try go_wp2_with (first | ((with_reducible refine gate_store (t := 3) (p := 34) rfl ?_); (try (rw [drewN_self wr]; generalize hq_ : World.drewN wr _ = wr; have n0_ := XB (Kd.R_at hq_ HO_8.out); have n1_ := XB (below_at hq_ HB.out); clear hq_ HO_8 HB; have HO_8 := n0_; have HB := n1_; clear n0_ n1_; (try (have HP15 := Kd.R_putg HO_8.out (x9_1 : Int) (wrap64 (Int.tdiv x1_1 (rd l0 x9_1))))))); refine store_event (t := 3) (p := 34) (v := ?vo_w16) (w1 := (wr.setCell ⟨go14, (x9_1 : Int).toNat, none⟩ (.int .i64 (wrap64 (Int.tdiv x1_1 (rd l0 x9_1)))))) ?hg ?ho ?hn ?hr ?_; (case ho => rfl); (case hg => rfl); (case hn => rfl); (case hr => first | (go_simp; done) | (go_simp; rfl)); intro w16 hw; have hg : wr.grownBy w16 (some go14) := (by rw [hw]; exact HP15.2); have hp_ : Kd.R (Kd.int .i64) 3 w16 w.heap.size (fun _ => True) (.slice (some ⟨go14, 0, none⟩) x8_1.length co14) y106 := (by rw [hw, Ny106.out]; exact HP15.1); clear HP15; have n0_ := XB (hp_); have n1_ := XB ((by rw [hw]; exact Xd (HB.out) GB14.out : Below w.heap.size w w16)); clear HO_8; clear HB; have HO_8 := n0_; have HB := n1_; clear n0_ n1_; clear hg hw hp_; have p107 : 0 ≤ (x9_1 : Int) := of_decide_eq_true (by first | (with_reducible assumption) | assumption); have q107 : x9_1 < (y106.length : Int) := (by have h_ : (x9_1 : Int) < ((x8_1.length : Int) : Int) := of_decide_eq_true (by first | (with_reducible assumption) | assumption); first | (have e_ := (XD HO_8.out).1; omega) | simpa only [Ny106.out, List.length_set] using h_); have ql107 : ((x9_1 : Int) < ((x8_1.length : Int) : Int)) = True := eq_true (of_decide_eq_true (by first | (with_reducible assumption) | assumption)); obtain ⟨ad107, e107, hx107_0⟩ := Kd.at_int (XD HO_8.out).2.2 x9_1 p107 q107; obtain rfl : (⟨go14, 0, none⟩ : Addr) = ad107 := (by injection e107); (first | simp only [add_plain] at hx107_0 | simp only [add_at] at hx107_0 | simp only [Addr.add, Nat.zero_add] at hx107_0 | skip); replace p107 := eq_true p107; replace q107 := eq_true q107; have p108 : 0 ≤ (x9_1 : Int) := of_decide_eq_true (by first | (with_reducible assumption) | assumption); have q108 : x9_1 < (l0.length : Int) := of_decide_eq_true (by first | (with_reducible assumption) | assumption); obtain ⟨ad108, e108, hx108_0⟩ := Kd.at_int HR0.out x9_1 p108 q108; obtain rfl : ad105 = ad108 := (by injection e108); replace hx108_0 := (HB.out.cell (World.block_lt_of_cell? w _ hx108_0)).trans hx108_0; replace p108 := eq_true p108; replace q108 := eq_true q108)))
           go_roundg k1
           case measure => have := HK1.out; omega
           case rel => exact ⟨(wrap64 (x1_1 - (wrap64 ((rd y106 x9_1) * (rd l0 x9_1))))), (y106), (wrap64 (x9_1 - 1)), (by first | rfl | (simp; done) | (simp [*]; done)), (by first | rfl | (simp; done) | (simp [*]; done)), H', ⟨by have := HK1.out; omega⟩, ⟨by (with_reducible repeat (first | apply Xv | apply Xw | apply Xx)); exact HO_8.out⟩, ⟨by repeat (first | (with_reducible first | exact HB.out | apply Xc | apply Xa | apply Xb) | exact HB.out)⟩⟩
          ·rw [if_neg c13] at H; exact absurd H (by simp)
        ·rw [if_neg c11] at H; exact absurd H (by simp)
       ·rw [if_neg c10] at H; exact absurd H (by simp)
      ·rw [if_neg c9] at H; have c9b0 : decide (0 ≤ x9_1) = false := decide_eq_false c9; clear c9; by_cases c17 : x1_1 > 0
       ·rw [if_pos c17] at H; have c17b0 : decide (0 < x1_1) = true := decide_eq_true c17; clear c17; simp only [Option.some.injEq, Prod.mk.injEq] at H; obtain ⟨rfl, rfl, rfl⟩ := H; go_wp2
        repeat (go_quiet (fail); try go_wp2)
        go_ret3
        exact ⟨_, by first | rfl | (simp [errW_none, errW_some] <;> rfl) | (simp [*, errW_none, errW_some] <;> rfl), by first | exact Kd.R_nil _ _ _ _ _ | exact Kd.N_nil _ _ _ _ _ | exact Kd.V_nil _ _ _ _ _ | exact Kd.Q_nil _ _ _ _ _ | exact Kd.S_nil _ _ _ _ _, by repeat (first | (with_reducible first | exact HB.out | apply Xc | apply Xa | apply Xb) | exact HB.out)⟩
       ·rw [if_neg c17] at H; have c17b0 : decide (0 < x1_1) = false := decide_eq_false c17; clear c17; simp only [Option.some.injEq, Prod.mk.injEq] at H; obtain ⟨rfl, rfl, rfl⟩ := H; go_wp2
        repeat (go_quiet (fail); try go_wp2)
        go_ret3
        exact ⟨_, by first | rfl | (simp [errW_none, errW_some] <;> rfl) | (simp [*, errW_none, errW_some] <;> rfl), by (with_reducible repeat (first | apply Xv | apply Xw | apply Xx)); exact HO_8.out, by repeat (first | (with_reducible first | exact HB.out | apply Xc | apply Xa | apply Xb) | exact HB.out)⟩
   ·rw [if_neg c6] at H; exact absurd H (by simp)
  ·rw [if_neg c5] at H; exact absurd H (by simp)
 ·rw [if_neg c4] at H; have c4b0 : (t101 == 0) = false := beq_eq_false_iff_ne.mpr c4; have c4b1 : (t101 != 0) = true := bne_iff_ne.mpr c4; simp only [Option.some.injEq, Prod.mk.injEq] at H; obtain ⟨rfl, rfl, rfl⟩ := H; go_enter Try.func41, Try.ntmps41
  go_wp2_with (first | (go_at_call 61; (with_reducible refine (diaphoneref07_asked.calls k _ _ l0 a1 t101 _ ?side1 ?side2 A3.out).mono ?_); (case side1 => repeat (first | exact HR0.out | (with_reducible refine Xr ?_ _) | (with_reducible refine Xs ?_ _) | (with_reducible refine Xt ?_))); (case side2 => exact HC0.out); rintro e w' ⟨rfl, ⟨nd, rfl⟩⟩; (try first | exact ⟨rfl, _, World.drewN_drewN _ _ _⟩ | exact ⟨rfl, _, Eq.trans (World.drewN_drewN _ _ _) (congrArg (World.drewN _) (Nat.add_assoc _ _ _))⟩)))
  repeat (go_quiet (first | (go_at_call 61; (with_reducible refine (diaphoneref07_asked.calls k _ _ l0 a1 t101 _ ?side1 ?side2 A3.out).mono ?_); (case side1 => repeat (first | exact HR0.out | (with_reducible refine Xr ?_ _) | (with_reducible refine Xs ?_ _) | (with_reducible refine Xt ?_))); (case side2 => exact HC0.out); rintro e w' ⟨rfl, ⟨nd, rfl⟩⟩; (try first | exact ⟨rfl, _, World.drewN_drewN _ _ _⟩ | exact ⟨rfl, _, Eq.trans (World.drewN_drewN _ _ _) (congrArg (World.drewN _) (Nat.add_assoc _ _ _))⟩))); try go_wp2_with (first | (go_at_call 61; (with_reducible refine (diaphoneref07_asked.calls k _ _ l0 a1 t101 _ ?side1 ?side2 A3.out).mono ?_); (case side1 => repeat (first | exact HR0.out | (with_reducible refine Xr ?_ _) | (with_reducible refine Xs ?_ _) | (with_reducible refine Xt ?_))); (case side2 => exact HC0.out); rintro e w' ⟨rfl, ⟨nd, rfl⟩⟩; (try first | exact ⟨rfl, _, World.drewN_drewN _ _ _⟩ | exact ⟨rfl, _, Eq.trans (World.drewN_drewN _ _ _) (congrArg (World.drewN _) (Nat.add_assoc _ _ _))⟩))))
  go_ret3
  exact ⟨_, by first | rfl | (simp [errW_none, errW_some] <;> rfl) | (simp [*, errW_none, errW_some] <;> rfl), by first | exact Kd.R_nil _ _ _ _ _ | exact Kd.N_nil _ _ _ _ _ | exact Kd.V_nil _ _ _ _ _ | exact Kd.Q_nil _ _ _ _ _ | exact Kd.S_nil _ _ _ _ _, by repeat (first | (with_reducible first | exact HB.out | apply Xc | apply Xa | apply Xb) | exact HB.out)⟩

end Go.Proofs.Ytgndhijhcliegaa.P
