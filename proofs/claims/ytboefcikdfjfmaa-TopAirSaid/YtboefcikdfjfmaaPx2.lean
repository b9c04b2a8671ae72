-- laid by a program of this session (wip/tools): plain functions of the Go code and their contracts
-- thinned4
-- thinned
import Derived.Test.YtboefcikdfjfmaaPx0
import Derived.Test.YtboefcikdfjfmaaPx1
namespace Go.Proofs.Ytboefcikdfjfmaa.P
open Go.RowKit Go.Proofs.YtboefcikdfjfmaaW.PrintWords Go.Proofs.YtboefcikdfjfmaaW.PrintLast Go.Proofs.YtboefcikdfjfmaaW.PrintMore
attribute [local go_sem] max2_int min2_int max_two min_two max_three min_three max_four min_four   -- for this text's walks alone
set_option linter.unusedVariables false
set_option linter.unusedSimpArgs false

/-! ### air_firsts: function 56 -/
/-- What the closure find has in memory: its places, and what lies in them. -/
def air_firsts.St (gq gc gt gf gb bk bc bb : Nat) (a0 a1 : Int) (A2 : Option Addr) (c2 : Nat) (l2 : List Int) (A3 : Option Addr) (c3 : Nat) (l3 : List Int) (N : Nat) (cs bs : List Int) (ks : List Bool) (w : World) : Prop :=
 w.heap[gq]? = some (.cells #[.slice (some ⟨bk, 0, none⟩) N N] 79 (0, 0)) ∧
 w.heap[gc]? = some (.cells #[.slice (some ⟨bc, 0, none⟩) N N] 22 (0, 0)) ∧
 w.heap[gt]? = some (.cells #[.int .i64 a0, .int .i64 a1, .slice A2 l2.length c2, .slice A3 l3.length c3] 24 (0, 0)) ∧
 w.heap[gf]? = some (.cells #[.func (.func 85) #[] #[.pointer (some ⟨gq, 0, none⟩), .pointer (some ⟨gc, 0, none⟩), .pointer (some ⟨gt, 0, none⟩), .pointer (some ⟨gf, 0, none⟩), .pointer (some ⟨gb, 0, none⟩)]] 78 (0, 0)) ∧
 w.heap[gb]? = some (.cells #[.slice (some ⟨bb, 0, none⟩) N N] 22 (0, 0)) ∧
 w.heap[bk]? = some (.cells (ks.map (fun b => Value.bool b)).toArray 4 (0, 0)) ∧
 w.heap[bc]? = some (.cells (cs.map (fun n => Value.int .i64 n)).toArray 3 (0, 0)) ∧
 w.heap[bb]? = some (.cells (bs.map (fun n => Value.int .i64 n)).toArray 3 (0, 0))
theorem air_firsts.St.below {gq gc gt gf gb bk bc bb : Nat} {a0 a1 : Int} {A2 : Option Addr} {c2 : Nat} {l2 : List Int} {A3 : Option Addr} {c3 : Nat} {l3 : List Int} {N : Nat} {cs bs : List Int} {ks : List Bool} {w w' : World}
  (h : air_firsts.St gq gc gt gf gb bk bc bb a0 a1 A2 c2 l2 A3 c3 l3 N cs bs ks w) (hb : Below w.heap.size w w') : air_firsts.St gq gc gt gf gb bk bc bb a0 a1 A2 c2 l2 A3 c3 l3 N cs bs ks w' := by
 obtain ⟨h1, h2, h3, h4, h5, h6, h7, h8⟩ := h; exact ⟨XA h1 hb, XA h2 hb, XA h3 hb, XA h4 hb, XA h5 hb, XA h6 hb, XA h7 hb, XA h8 hb⟩
/-- The cells of the places. -/
theorem air_firsts.St.cells {gq gc gt gf gb bk bc bb : Nat} {a0 a1 : Int} {A2 : Option Addr} {c2 : Nat} {l2 : List Int} {A3 : Option Addr} {c3 : Nat} {l3 : List Int} {N : Nat} {cs bs : List Int} {ks : List Bool} {w : World}
  (h : air_firsts.St gq gc gt gf gb bk bc bb a0 a1 A2 c2 l2 A3 c3 l3 N cs bs ks w) :
  w.cell? ⟨gq, 0, none⟩ = some (.slice (some ⟨bk, 0, none⟩) N N) ∧ w.cell? ⟨gc, 0, none⟩ = some (.slice (some ⟨bc, 0, none⟩) N N) ∧ w.cell? ⟨gb, 0, none⟩ = some (.slice (some ⟨bb, 0, none⟩) N N) ∧
  w.cell? ⟨gf, 0, none⟩ = some (.func (.func 85) #[] #[.pointer (some ⟨gq, 0, none⟩), .pointer (some ⟨gc, 0, none⟩), .pointer (some ⟨gt, 0, none⟩), .pointer (some ⟨gf, 0, none⟩), .pointer (some ⟨gb, 0, none⟩)]) ∧
  w.cell? ⟨gt, 0, none⟩ = some (.int .i64 a0) ∧ w.cell? ⟨gt, 1, none⟩ = some (.int .i64 a1) ∧ w.cell? ⟨gt, 2, none⟩ = some (.slice A2 l2.length c2) ∧ w.cell? ⟨gt, 3, none⟩ = some (.slice A3 l3.length c3) := by
 obtain ⟨h1, h2, h3, h4, h5, h6, h7, h8⟩ := h; exact ⟨(Xi h1 0).trans rfl, (Xi h2 0).trans rfl, (Xi h5 0).trans rfl, (Xi h4 0).trans rfl, (Xi h3 0).trans rfl, (Xi h3 1).trans rfl, (Xi h3 2).trans rfl, (Xi h3 3).trans rfl⟩
theorem air_firsts.St.known {gq gc gt gf gb bk bc bb : Nat} {a0 a1 : Int} {A2 : Option Addr} {c2 : Nat} {l2 : List Int} {A3 : Option Addr} {c3 : Nat} {l3 : List Int} {N : Nat} {cs bs : List Int} {ks : List Bool} {w : World}
  (h : air_firsts.St gq gc gt gf gb bk bc bb a0 a1 A2 c2 l2 A3 c3 l3 N cs bs ks w) {n : Nat} (hn : n < ks.length) : w.cell? ⟨bk, n, none⟩ = some (.bool (ks.getD n false)) := by
 obtain ⟨h1, h2, h3, h4, h5, h6, h7, h8⟩ := h; rw [Xi h6 n]; simp [hn]
theorem air_firsts.St.cost {gq gc gt gf gb bk bc bb : Nat} {a0 a1 : Int} {A2 : Option Addr} {c2 : Nat} {l2 : List Int} {A3 : Option Addr} {c3 : Nat} {l3 : List Int} {N : Nat} {cs bs : List Int} {ks : List Bool} {w : World}
  (h : air_firsts.St gq gc gt gf gb bk bc bb a0 a1 A2 c2 l2 A3 c3 l3 N cs bs ks w) {n : Nat} (hn : n < cs.length) : w.cell? ⟨bc, n, none⟩ = some (.int .i64 (rd cs (n : Int))) := by
 obtain ⟨h1, h2, h3, h4, h5, h6, h7, h8⟩ := h; rw [Xi h7 n]; simp [hn, rd]
set_option maxHeartbeats 8000000 in
set_option maxRecDepth 100000 in
/-- What is known is found at once. -/
theorem air_firsts.found {gq gc gt gf gb bk bc bb : Nat} {a0 a1 : Int} {A2 : Option Addr} {c2 : Nat} {l2 : List Int} {A3 : Option Addr} {c3 : Nat} {l3 : List Int} {N : Nat} {cs bs : List Int} {ks : List Bool} (w : World)
  (h : air_firsts.St gq gc gt gf gb bk bc bb a0 a1 A2 c2 l2 A3 c3 l3 N cs bs ks w) (hc : cs.length = N) (hk : ks.length = N) (n : Nat) (hn : n < N) (hkn : n = 0 ∨ ks.getD n false = true) :
  Calls Try.prog 85 #[.int .i64 (n : Int), .pointer (some ⟨gq, 0, none⟩), .pointer (some ⟨gc, 0, none⟩), .pointer (some ⟨gt, 0, none⟩), .pointer (some ⟨gf, 0, none⟩), .pointer (some ⟨gb, 0, none⟩)] w
   fun e w' => e = .returned (.int .i64 (rd cs (n : Int))) ∧ Drawn0 w w' := by
 obtain ⟨z1, z2, z3, z4, z5, z6, z7, z8⟩ := h.cells; have z9 := h.cost (n := n) (by omega); have z10 := h.known (n := n) (by omega); clear h z3 z4 z5 z6 z7 z8; have c1b0 : decide (0 ≤ (n : Int)) = true := decide_eq_true (by omega); have c2b0 : decide ((n : Int) < (N : Int)) = true := decide_eq_true (by omega); have HN := XB hn; by_cases hz : n = 0
 ·have cb0 : ((n : Int) == 0) = true := beq_iff_eq.2 (by omega); clear hkn hz; go_enter Try.func85, Try.ntmps85
  go_wp2
  go_ret
  exact ⟨by first | rfl | (simp; done) | (simp [*]; done), by repeat (first | exact Drawn0.refl _ | apply Drawn0.step)⟩
 ·have cb0 : ((n : Int) == 0) = false := beq_eq_false_iff_ne.2 (by omega); rw [hkn.resolve_left hz] at z10; clear hkn hz; go_enter Try.func85, Try.ntmps85
  go_wp2
  go_ret
  exact ⟨by first | rfl | (simp; done) | (simp [*]; done), by repeat (first | exact Drawn0.refl _ | apply Drawn0.step)⟩
theorem air_firsts.below_set' {w W : World} {g j : Nat} {v : Value} (h : Below w.heap.size w W) (hg : w.heap.size ≤ g) : Below w.heap.size w (W.setCell ⟨g, j, none⟩ v) := Xd h hg
theorem air_firsts.St.setc {gq gc gt gf gb bk bc bb : Nat} {a0 a1 : Int} {A2 : Option Addr} {c2 : Nat} {l2 : List Int} {A3 : Option Addr} {c3 : Nat} {l3 : List Int} {N : Nat} {cs bs : List Int} {ks : List Bool} {w : World} (h : air_firsts.St gq gc gt gf gb bk bc bb a0 a1 A2 c2 l2 A3 c3 l3 N cs bs ks w) (hne : bc ≠ bb) (n : Nat) (v : Int) : air_firsts.St gq gc gt gf gb bk bc bb a0 a1 A2 c2 l2 A3 c3 l3 N (cs.set n v) bs ks (w.setCell ⟨bc, n, none⟩ (.int .i64 v)) := by
 obtain ⟨h1, h2, h3, h4, h5, h6, h7, h8⟩ := h; exact ⟨blk_far h1 (blk_ne h1 h7 (by decide)) _, blk_far h2 (blk_ne h2 h7 (by decide)) _, blk_far h3 (blk_ne h3 h7 (by decide)) _, blk_far h4 (blk_ne h4 h7 (by decide)) _, blk_far h5 (blk_ne h5 h7 (by decide)) _, blk_far h6 (blk_ne h6 h7 (by decide)) _, blk_put h7 n _ (by simp [List.map_set]), blk_far h8 (fun e => hne e.symm) _⟩
theorem air_firsts.St.setb {gq gc gt gf gb bk bc bb : Nat} {a0 a1 : Int} {A2 : Option Addr} {c2 : Nat} {l2 : List Int} {A3 : Option Addr} {c3 : Nat} {l3 : List Int} {N : Nat} {cs bs : List Int} {ks : List Bool} {w : World} (h : air_firsts.St gq gc gt gf gb bk bc bb a0 a1 A2 c2 l2 A3 c3 l3 N cs bs ks w) (hne : bc ≠ bb) (n : Nat) (v : Int) : air_firsts.St gq gc gt gf gb bk bc bb a0 a1 A2 c2 l2 A3 c3 l3 N cs (bs.set n v) ks (w.setCell ⟨bb, n, none⟩ (.int .i64 v)) := by
 obtain ⟨h1, h2, h3, h4, h5, h6, h7, h8⟩ := h; exact ⟨blk_far h1 (blk_ne h1 h8 (by decide)) _, blk_far h2 (blk_ne h2 h8 (by decide)) _, blk_far h3 (blk_ne h3 h8 (by decide)) _, blk_far h4 (blk_ne h4 h8 (by decide)) _, blk_far h5 (blk_ne h5 h8 (by decide)) _, blk_far h6 (blk_ne h6 h8 (by decide)) _, blk_far h7 hne _, blk_put h8 n _ (by simp [List.map_set])⟩
theorem air_firsts.St.setk {gq gc gt gf gb bk bc bb : Nat} {a0 a1 : Int} {A2 : Option Addr} {c2 : Nat} {l2 : List Int} {A3 : Option Addr} {c3 : Nat} {l3 : List Int} {N : Nat} {cs bs : List Int} {ks : List Bool} {w : World} (h : air_firsts.St gq gc gt gf gb bk bc bb a0 a1 A2 c2 l2 A3 c3 l3 N cs bs ks w) (n : Nat) (v : Bool) : air_firsts.St gq gc gt gf gb bk bc bb a0 a1 A2 c2 l2 A3 c3 l3 N cs bs (ks.set n v) (w.setCell ⟨bk, n, none⟩ (.bool v)) := by
 obtain ⟨h1, h2, h3, h4, h5, h6, h7, h8⟩ := h; exact ⟨blk_far h1 (blk_ne h1 h6 (by decide)) _, blk_far h2 (blk_ne h2 h6 (by decide)) _, blk_far h3 (blk_ne h3 h6 (by decide)) _, blk_far h4 (blk_ne h4 h6 (by decide)) _, blk_far h5 (blk_ne h5 h6 (by decide)) _, blk_put h6 n _ (by simp [List.map_set]), blk_far h7 (blk_ne h7 h6 (by decide)) _, blk_far h8 (blk_ne h8 h6 (by decide)) _⟩
/-- What the stores need to know of the cells that are written. -/
theorem air_firsts.St.open_ {gq gc gt gf gb bk bc bb : Nat} {a0 a1 : Int} {A2 : Option Addr} {c2 : Nat} {l2 : List Int} {A3 : Option Addr} {c3 : Nat} {l3 : List Int} {N : Nat} {cs bs : List Int} {ks : List Bool} {w : World} (h : air_firsts.St gq gc gt gf gb bk bc bb a0 a1 A2 c2 l2 A3 c3 l3 N cs bs ks w) (n : Nat) (hn1 : n < cs.length) (hn2 : n < bs.length) (hn3 : n < ks.length) :
  w.frozen? ⟨bc, n, none⟩ = false ∧ w.frozen? ⟨bb, n, none⟩ = false ∧ w.frozen? ⟨bk, n, none⟩ = false ∧ w.cell? ⟨bb, n, none⟩ = some (.int .i64 (rd bs (n : Int))) := by
 obtain ⟨h1, h2, h3, h4, h5, h6, h7, h8⟩ := h; refine ⟨Xh h7 n, Xh h8 n, Xh h6 n, ?_⟩; rw [Xi h8 n]; simp [hn2, rd]
/-- The cost of the first n hours, and where their last lot begins, by the lots that begin in the first s hours. -/
def air_firsts.row (k : Nat) (a0 a1 : Int) (l2 l3 cs bs : List Int) (n : Nat) : Nat → Option (Int × Int)
 | 0 => some (rd cs n, rd bs n)
 | s + 1 => (air_firsts.row k a0 a1 l2 l3 cs bs n s).bind fun p => (air_lot.f k a0 a1 l2 l3 (s : Int) (n : Int)).bind fun q => if s = 0 ∨ wrap64 (rd cs (s : Int) + q.1) < p.1 then some (wrap64 (rd cs (s : Int) + q.1), (s : Int)) else some p
theorem air_firsts.row_le {k : Nat} {a0 a1 : Int} {l2 l3 cs bs : List Int} {n s t : Nat} (h : s ≤ t) {q : Int × Int} (hq : air_firsts.row k a0 a1 l2 l3 cs bs n t = some q) : ∃ p, air_firsts.row k a0 a1 l2 l3 cs bs n s = some p := by
 induction t generalizing q with
 | zero =>
  obtain rfl : s = 0 := by omega
  exact ⟨q, hq⟩
 | succ t ih =>
  rcases Nat.lt_or_ge s (t + 1) with c | c
  ·simp only [air_firsts.row] at hq; obtain ⟨p, hp, _⟩ := Option.bind_eq_some_iff.1 hq; exact ih (by omega) hp
  ·obtain rfl : s = t + 1 := by omega
   exact ⟨q, hq⟩
set_option maxHeartbeats 16000000 in
set_option maxRecDepth 100000 in
/-- What is not known is found. -/
theorem air_firsts.finds (k : Nat) {gq gc gt gf gb bk bc bb : Nat} {a0 a1 : Int} {A2 : Option Addr} {c2 : Nat} {l2 : List Int} {A3 : Option Addr} {c3 : Nat} {l3 : List Int} {N : Nat} {cs bs : List Int} {ks : List Bool} (W0 w : World)
  (h : air_firsts.St gq gc gt gf gb bk bc bb a0 a1 A2 c2 l2 A3 c3 l3 N cs bs ks w) (hne : bc ≠ bb) (hc : cs.length = N) (hbl : bs.length = N) (hk : ks.length = N) (n : Nat) (hn : n < N) (hN : N ≤ 1001) (hn1 : 1 ≤ n) (hks : ∀ j, 1 ≤ j → j < n → ks.getD j false = true) (hkn : ks.getD n false = false)
  (hb0 : Below W0.heap.size W0 w) (hr2 : Kd.C (Kd.int .i64) W0 A2 l2.length l2) (hc2 : l2.length ≤ c2) (hr3 : Kd.C (Kd.int .i64) W0 A3 l3.length l3) (hc3 : l3.length ≤ c3) (hg1 : W0.heap.size ≤ bc) (hg2 : W0.heap.size ≤ bb) (hg3 : W0.heap.size ≤ bk)
  (c_ b : Int) (hrow : air_firsts.row k a0 a1 l2 l3 cs bs n n = some (c_, b)) :
  Calls Try.prog 85 #[.int .i64 (n : Int), .pointer (some ⟨gq, 0, none⟩), .pointer (some ⟨gc, 0, none⟩), .pointer (some ⟨gt, 0, none⟩), .pointer (some ⟨gf, 0, none⟩), .pointer (some ⟨gb, 0, none⟩)] w
   fun e w' => e = .returned (.int .i64 c_) ∧ air_firsts.St gq gc gt gf gb bk bc bb a0 a1 A2 c2 l2 A3 c3 l3 N (cs.set n c_) (bs.set n b) (ks.set n true) w' ∧ Below W0.heap.size W0 w' := by
 have HS := XB h; have HNE := XB hne; have HLC := XB hc; have HLB := XB hbl; have HLK := XB hk; have HNN := XB hn; have HNX := XB hN; have HN1 := XB hn1; have HKS := XB hks; have HB := XB hb0; have HR2 := XB hr2; have HC2 := XB hc2; have HR3 := XB hr3; have HC3 := XB hc3; have HG1 := XB hg1; have HG2 := XB hg2; have HG3 := XB hg3; have HROW := XB hrow; obtain ⟨z1, z2, z3, z4, z5, z6, z7, z8⟩ := h.cells; have z10 := h.known (n := n) (by omega); rw [hkn] at z10; have c1b0 : decide (0 ≤ (n : Int)) = true := decide_eq_true (by omega); have c2b0 : decide ((n : Int) < (N : Int)) = true := decide_eq_true (by omega); have cb0 : ((n : Int) == 0) = false := beq_eq_false_iff_ne.2 (by omega); have HSS : Aside0 (air_firsts.St gq gc gt gf gb bk bc bb a0 a1 A2 c2 l2 A3 c3 l3 N (cs.set n (rd cs n)) (bs.set n (rd bs n)) ks w) := ⟨by
  have e1 : cs.set n (rd cs n) = cs := by
   refine List.ext_getElem (by simp) (fun i h1 h2 => ?_)
   rw [List.getElem_set]
   by_cases e : n = i
   ·subst e; rw [if_pos rfl]; simp [rd, h2]
   ·rw [if_neg e]
  have e2 : bs.set n (rd bs n) = bs := by
   refine List.ext_getElem (by simp) (fun i h1 h2 => ?_)
   rw [List.getElem_set]
   by_cases e : n = i
   ·subst e; rw [if_pos rfl]; simp [rd, h2]
   ·rw [if_neg e]
  rw [e1, e2]; exact h⟩
 clear h hne hc hbl hk hN hn1 hks hkn hb0 hr2 hc2 hr3 hc3 hg1 hg2 hg3 hrow HS; go_enter Try.func85, Try.ntmps85
 go_wp2
 clear z1 z2 z3 z4 z5 z6 z7 z8 z10; go_loopg [25] n (fun kq v25 w' => ∃ (s : Nat) (p : Int × Int), v25 = .int .i64 (s : Int) ∧ Aside0 (s + kq = n) ∧ Aside0 (air_firsts.row k a0 a1 l2 l3 cs bs n s = some p) ∧ Aside0 (air_firsts.St gq gc gt gf gb bk bc bb a0 a1 A2 c2 l2 A3 c3 l3 N (cs.set n p.1) (bs.set n p.2) ks w') ∧ Aside0 (Below W0.heap.size W0 w'))
 case atStart => exact ⟨0, (rd cs n, rd bs n), rfl, ⟨by omega⟩, ⟨rfl⟩, ⟨HSS.out⟩, ⟨HB.out⟩⟩
 case round =>
  clear HB HSS; obtain ⟨s, p, rfl, HM, HP, HS, HB⟩ := hrel; obtain ⟨p1, p2⟩ := p; by_cases c : (s : Int) < (n : Int)
  ·have c3b0 : decide ((s : Int) < (n : Int)) = true := decide_eq_true c; have HI := XB (show s < n by omega); clear c; have ei : IntKind.i64.wrap ((s : Int) + 1) = ((s + 1 : Nat) : Int) := by have := HI.out; have := HNN.out; have := HNX.out; simp only [i64_w]; unfold wrap64; omega
   obtain ⟨k1, rfl⟩ : ∃ k1, gk = k1 + 1 := ⟨gk - 1, by have := HM.out; have := HI.out; omega⟩
   have hsn : s < n := HI.out; have hsN : s < N := by omega
   obtain ⟨q, hq⟩ := air_firsts.row_le (show s + 1 ≤ n by omega) HROW.out; have hq2 := hq; simp only [air_firsts.row] at hq2; rw [HP.out, Option.bind_some] at hq2; obtain ⟨⟨r1, r2⟩, hlot, hq3⟩ := Option.bind_eq_some_iff.1 hq2; have hq4 : (if s = 0 ∨ wrap64 (rd cs (s : Int) + r1) < p1 then some (wrap64 (rd cs (s : Int) + r1), (s : Int)) else some (p1, p2)) = some q := hq3; clear hq2 hq3; have HL := XB hlot; have HQ := XB hq; clear hlot hq; obtain ⟨t, ht⟩ : ∃ t, t = wrap64 (rd cs (s : Int) + r1) := ⟨_, rfl⟩
   rw [← ht] at hq4; have htw : IntKind.i64.wrap (rd cs (s : Int) + r1) = t := by rw [ht, i64_w]
   have HE := XB (show rd (cs.set n p1) (s : Int) = rd cs (s : Int) by
    simp only [rd, Int.toNat_natCast, List.getD_eq_getElem?_getD]
    rw [List.getElem?_set_ne (by omega)])
   have HEN := XB (show rd (cs.set n p1) (n : Int) = p1 by
    have := HLC.out
    simp [rd, show n < cs.length by omega])
   clear ht; have d1b0 : decide (0 ≤ (s : Int)) = true := decide_eq_true (by omega); obtain ⟨z1, z2, z3, z4, z5, z6, z7, z8⟩ := HS.out.cells; by_cases e0 : s = 0
   ·have cs0 : ((s : Int) == 0) = true := beq_iff_eq.2 (by omega); have E0 := XB e0; clear e0; go_wp2_with (first
     | ((with_reducible refine gate_callee (f := 59) rfl ?_); refine goesL_ (some 32) rfl rfl Try.func59 (by kernel_rfl) rfl #[.agg #[.int .i64 a0, .int .i64 a1, .slice A2 l2.length c2, .slice A3 l3.length c3], .int .i64 (s : Int), .int .i64 (n : Int)] rfl (by (try simp only [Xm, Xn, Xo]); first | done | rfl) ?_; (refine (air_lot.calls k a0 a1 A2 c2 l2 A3 c3 l3 (s : Int) (n : Int) r1 r2 _ (Xu HR2.out HB.out) HC2.out (Xu HR3.out HB.out) HC3.out HL.out).mono ?_); rintro e w5 ⟨rfl, hb⟩; refine ⟨_, rfl, ?_⟩; have n1_ := XB (HS.out.below hb); have n2_ := XB (Xz HB.out hb); clear HS HB hb z1 z2 z3 z4 z5 z6 z7 z8; have HS := n1_; have HB := n2_; clear n1_ n2_; obtain ⟨z1, z2, z3, z4, z5, z6, z7, z8⟩ := HS.out.cells; have z9 := HS.out.cost (n := n) (by rw [List.length_set]; have := HLC.out; omega); rw [HEN.out] at z9)
     | ((with_reducible refine Go.Proofs.YtboefcikdfjfmaaW.PrintHand.gate_calleeT (t := 35) rfl ?_); refine air_all.goesC_ (t := 35) (some 37) rfl rfl Try.func85 (by kernel_rfl) rfl #[] #[.pointer (some ⟨gq, 0, none⟩), .pointer (some ⟨gc, 0, none⟩), .pointer (some ⟨gt, 0, none⟩), .pointer (some ⟨gf, 0, none⟩), .pointer (some ⟨gb, 0, none⟩)] #[.int .i64 (s : Int), .pointer (some ⟨gq, 0, none⟩), .pointer (some ⟨gc, 0, none⟩), .pointer (some ⟨gt, 0, none⟩), .pointer (some ⟨gf, 0, none⟩), .pointer (some ⟨gb, 0, none⟩)] rfl rfl (by (try simp only [Xm, Xn, Xo]); first | done | rfl) ?_; (refine (air_firsts.found _ HS.out (by rw [List.length_set]; exact HLC.out) HLK.out s hsN (by rcases Nat.eq_zero_or_pos s with e | e; exact .inl e; exact .inr (HKS.out s e hsn))).mono ?_); rintro e w6 ⟨rfl, ⟨nd, rfl⟩⟩; refine ⟨_, rfl, ?_⟩; rw [HE.out]))
    obtain ⟨f1_, f2_, f3_, f4_⟩ := HS.out.open_ n (by rw [List.length_set]; have := HLC.out; omega) (by rw [List.length_set]; have := HLB.out; omega) (by have := HLK.out; omega); refine start_ (n := 10) (S := fun w' => w'.cell? ⟨gc, 0, none⟩ = some (.slice (some ⟨bc, 0, none⟩) N N) ∧ w'.cell? ⟨gb, 0, none⟩ = some (.slice (some ⟨bb, 0, none⟩) N N)) (ds := [9]) (Bq 10 0) (by kernel_rfl) rfl rfl ⟨z2, z3⟩ (fun hHeld => ?_); have h7_ := HS.out.setc HNE.out n t; have h8_ := h7_.setb HNE.out n (s : Int); rw [List.set_set, List.set_set] at h8_; have HS2 := XB h8_; have f5_ : (World.setCell (w5.drewN (nd + 1)) ⟨bc, n, none⟩ (.int .i64 t)).cell? ⟨bb, n, none⟩ = some (.int .i64 (rd (bs.set n p2) (n : Int))) := (h7_.open_ n (by rw [List.length_set, List.length_set]; have := HLC.out; omega) (by rw [List.length_set]; have := HLB.out; omega) (by have := HLK.out; omega)).2.2.2; have f6_ : (World.setCell (w5.drewN (nd + 1)) ⟨bc, n, none⟩ (.int .i64 t)).frozen? ⟨bb, n, none⟩ = false := (h7_.open_ n (by rw [List.length_set, List.length_set]; have := HLC.out; omega) (by rw [List.length_set]; have := HLB.out; omega) (by have := HLK.out; omega)).2.1; refine take_ (i := 0) (N := some 50) (v := ?_) (a' := ?_) (Bq 10 1) rfl rfl (by kernel_rfl) (fun _ _ _ h => h) (Or.inl ⟨by rfl, ?_⟩) hHeld ?_ ?_; rotate_left
    ·rintro w' hS_; obtain ⟨s0_, s1_⟩ := hS_; go_simp; with_reducible rfl
    rotate_left
    ·simp only [Act.put, Xj, Xk, Xl, i64_w, i32_w]; rfl
    refine pure_ (i := 1) (N := some 51) (v := ?_) (a' := ?_) (Bq 10 3) rfl rfl (by kernel_rfl) (fun _ _ _ h => h) (Or.inl ⟨by rfl, ?_⟩) ?_ ?_; rotate_left
    ·intro w'; go_simp; with_reducible rfl
    rotate_left
    ·simp only [Act.put, Xj, Xk, Xl, i64_w, i32_w]; rfl
    refine take_ (i := 2) (N := some 52) (v := ?_) (a' := ?_) (Bq 10 7) rfl rfl (by kernel_rfl) (fun _ _ _ h => h) (Or.inl ⟨by rfl, ?_⟩) hHeld ?_ ?_; rotate_left
    ·rintro w' hS_; obtain ⟨s0_, s1_⟩ := hS_; go_simp; with_reducible rfl
    rotate_left
    ·simp only [Act.put, Xj, Xk, Xl, i64_w, i32_w]; rfl
    refine pure_ (i := 3) (N := some 53) (v := ?_) (a' := ?_) (Bq 10 15) rfl rfl (by kernel_rfl) (fun _ _ _ h => h) (Or.inl ⟨by rfl, ?_⟩) ?_ ?_; rotate_left
    ·intro w'; go_simp; with_reducible rfl
    rotate_left
    ·simp only [Act.put, Xj, Xk, Xl, i64_w, i32_w]; rfl
    refine pure_ (i := 4) (N := some 54) (v := ?_) (a' := ?_) (Bq 10 31) rfl rfl (by kernel_rfl) (fun _ _ _ h => h) (Or.inl ⟨by rfl, ?_⟩) ?_ ?_; rotate_left
    ·intro w'; go_simp; with_reducible rfl
    rotate_left
    ·simp only [Act.put, Xj, Xk, Xl, i64_w, i32_w]; rfl
    refine pure_ (i := 5) (N := some 55) (v := ?_) (a' := ?_) (Bq 10 63) rfl rfl (by kernel_rfl) (fun _ _ _ h => h) (Or.inl ⟨by rfl, ?_⟩) ?_ ?_; rotate_left
    ·intro w'; go_simp; with_reducible rfl
    rotate_left
    ·simp only [Act.put, Xj, Xk, Xl, i64_w, i32_w]; rfl
    refine pure_ (i := 6) (N := some 56) (v := ?_) (a' := ?_) (Bq 10 127) rfl rfl (by kernel_rfl) (fun _ _ _ h => h) (Or.inl ⟨by rfl, ?_⟩) ?_ ?_; rotate_left
    ·intro w'; go_simp; with_reducible rfl
    rotate_left
    ·simp only [Act.put, Xj, Xk, Xl, i64_w, i32_w]; rfl
    refine one_ (i := 7) (N := none) (Bq 10 255) rfl rfl (by kernel_rfl) (by decide) (fun K hK => ?_); refine skip_ (w1 := ?_) (by rfl) rfl ?_ ?_; rotate_left
    ·go_simp; rfl
    refine hK.out _ _ ⟨h7_.cells.2.1, h7_.cells.2.2.1⟩ (fun hHeld => ?_); clear hK K; refine pure_ (i := 8) (N := some 57) (v := ?_) (a' := ?_) (Bq 10 511) rfl rfl (by kernel_rfl) (fun _ _ _ h => h) (Or.inl ⟨by rfl, ?_⟩) ?_ ?_; rotate_left
    ·intro w'; go_simp; with_reducible rfl
    rotate_left
    ·simp only [Act.put, Xj, Xk, Xl, i64_w, i32_w]; rfl
    refine last_ (i := 9) (N := none) (Bq 10 1023) rfl rfl (by kernel_rfl) (by decide) (fun K hK => ?_); refine skip_ (w1 := ?_) (by rfl) rfl ?_ ?_; rotate_left
    ·go_simp; rfl
    refine hK.out _ _ ?_; clear hK K; refine done_ (by kernel_rfl) ?_; try go_wp2
    go_roundg k1
    case measure => omega
    case rel => exact ⟨s + 1, (t, (s : Int)), YG, ⟨by have := HM.out; omega⟩, ⟨by rw [HQ.out, ← hq4, if_pos (.inl E0.out)]⟩, HS2, ⟨air_firsts.below_set' (air_firsts.below_set' (Xa HB.out _) HG1.out) HG2.out⟩⟩
   ·have cs0 : ((s : Int) == 0) = false := beq_eq_false_iff_ne.2 (by omega); have E0 := XB e0; clear e0; by_cases e1 : t < p1
    ·have cl0 : decide (t < p1) = true := decide_eq_true e1; have E1 := XB e1; clear e1; go_wp2_with (first
      | ((with_reducible refine gate_callee (f := 59) rfl ?_); refine goesL_ (some 32) rfl rfl Try.func59 (by kernel_rfl) rfl #[.agg #[.int .i64 a0, .int .i64 a1, .slice A2 l2.length c2, .slice A3 l3.length c3], .int .i64 (s : Int), .int .i64 (n : Int)] rfl (by (try simp only [Xm, Xn, Xo]); first | done | rfl) ?_; (refine (air_lot.calls k a0 a1 A2 c2 l2 A3 c3 l3 (s : Int) (n : Int) r1 r2 _ (Xu HR2.out HB.out) HC2.out (Xu HR3.out HB.out) HC3.out HL.out).mono ?_); rintro e w5 ⟨rfl, hb⟩; refine ⟨_, rfl, ?_⟩; have n1_ := XB (HS.out.below hb); have n2_ := XB (Xz HB.out hb); clear HS HB hb z1 z2 z3 z4 z5 z6 z7 z8; have HS := n1_; have HB := n2_; clear n1_ n2_; obtain ⟨z1, z2, z3, z4, z5, z6, z7, z8⟩ := HS.out.cells; have z9 := HS.out.cost (n := n) (by rw [List.length_set]; have := HLC.out; omega); rw [HEN.out] at z9)
      | ((with_reducible refine Go.Proofs.YtboefcikdfjfmaaW.PrintHand.gate_calleeT (t := 35) rfl ?_); refine air_all.goesC_ (t := 35) (some 37) rfl rfl Try.func85 (by kernel_rfl) rfl #[] #[.pointer (some ⟨gq, 0, none⟩), .pointer (some ⟨gc, 0, none⟩), .pointer (some ⟨gt, 0, none⟩), .pointer (some ⟨gf, 0, none⟩), .pointer (some ⟨gb, 0, none⟩)] #[.int .i64 (s : Int), .pointer (some ⟨gq, 0, none⟩), .pointer (some ⟨gc, 0, none⟩), .pointer (some ⟨gt, 0, none⟩), .pointer (some ⟨gf, 0, none⟩), .pointer (some ⟨gb, 0, none⟩)] rfl rfl (by (try simp only [Xm, Xn, Xo]); first | done | rfl) ?_; (refine (air_firsts.found _ HS.out (by rw [List.length_set]; exact HLC.out) HLK.out s hsN (by rcases Nat.eq_zero_or_pos s with e | e; exact .inl e; exact .inr (HKS.out s e hsn))).mono ?_); rintro e w6 ⟨rfl, ⟨nd, rfl⟩⟩; refine ⟨_, rfl, ?_⟩; rw [HE.out]))
     obtain ⟨f1_, f2_, f3_, f4_⟩ := HS.out.open_ n (by rw [List.length_set]; have := HLC.out; omega) (by rw [List.length_set]; have := HLB.out; omega) (by have := HLK.out; omega); refine start_ (n := 10) (S := fun w' => w'.cell? ⟨gc, 0, none⟩ = some (.slice (some ⟨bc, 0, none⟩) N N) ∧ w'.cell? ⟨gb, 0, none⟩ = some (.slice (some ⟨bb, 0, none⟩) N N)) (ds := [9]) (Bq 10 0) (by kernel_rfl) rfl rfl ⟨z2, z3⟩ (fun hHeld => ?_); have h7_ := HS.out.setc HNE.out n t; have h8_ := h7_.setb HNE.out n (s : Int); rw [List.set_set, List.set_set] at h8_; have HS2 := XB h8_; have f5_ : (World.setCell (w5.drewN (nd + 1)) ⟨bc, n, none⟩ (.int .i64 t)).cell? ⟨bb, n, none⟩ = some (.int .i64 (rd (bs.set n p2) (n : Int))) := (h7_.open_ n (by rw [List.length_set, List.length_set]; have := HLC.out; omega) (by rw [List.length_set]; have := HLB.out; omega) (by have := HLK.out; omega)).2.2.2; have f6_ : (World.setCell (w5.drewN (nd + 1)) ⟨bc, n, none⟩ (.int .i64 t)).frozen? ⟨bb, n, none⟩ = false := (h7_.open_ n (by rw [List.length_set, List.length_set]; have := HLC.out; omega) (by rw [List.length_set]; have := HLB.out; omega) (by have := HLK.out; omega)).2.1; refine take_ (i := 0) (N := some 50) (v := ?_) (a' := ?_) (Bq 10 1) rfl rfl (by kernel_rfl) (fun _ _ _ h => h) (Or.inl ⟨by rfl, ?_⟩) hHeld ?_ ?_; rotate_left
     ·rintro w' hS_; obtain ⟨s0_, s1_⟩ := hS_; go_simp; with_reducible rfl
     rotate_left
     ·simp only [Act.put, Xj, Xk, Xl, i64_w, i32_w]; rfl
     refine pure_ (i := 1) (N := some 51) (v := ?_) (a' := ?_) (Bq 10 3) rfl rfl (by kernel_rfl) (fun _ _ _ h => h) (Or.inl ⟨by rfl, ?_⟩) ?_ ?_; rotate_left
     ·intro w'; go_simp; with_reducible rfl
     rotate_left
     ·simp only [Act.put, Xj, Xk, Xl, i64_w, i32_w]; rfl
     refine take_ (i := 2) (N := some 52) (v := ?_) (a' := ?_) (Bq 10 7) rfl rfl (by kernel_rfl) (fun _ _ _ h => h) (Or.inl ⟨by rfl, ?_⟩) hHeld ?_ ?_; rotate_left
     ·rintro w' hS_; obtain ⟨s0_, s1_⟩ := hS_; go_simp; with_reducible rfl
     rotate_left
     ·simp only [Act.put, Xj, Xk, Xl, i64_w, i32_w]; rfl
     refine pure_ (i := 3) (N := some 53) (v := ?_) (a' := ?_) (Bq 10 15) rfl rfl (by kernel_rfl) (fun _ _ _ h => h) (Or.inl ⟨by rfl, ?_⟩) ?_ ?_; rotate_left
     ·intro w'; go_simp; with_reducible rfl
     rotate_left
     ·simp only [Act.put, Xj, Xk, Xl, i64_w, i32_w]; rfl
     refine pure_ (i := 4) (N := some 54) (v := ?_) (a' := ?_) (Bq 10 31) rfl rfl (by kernel_rfl) (fun _ _ _ h => h) (Or.inl ⟨by rfl, ?_⟩) ?_ ?_; rotate_left
     ·intro w'; go_simp; with_reducible rfl
     rotate_left
     ·simp only [Act.put, Xj, Xk, Xl, i64_w, i32_w]; rfl
     refine pure_ (i := 5) (N := some 55) (v := ?_) (a' := ?_) (Bq 10 63) rfl rfl (by kernel_rfl) (fun _ _ _ h => h) (Or.inl ⟨by rfl, ?_⟩) ?_ ?_; rotate_left
     ·intro w'; go_simp; with_reducible rfl
     rotate_left
     ·simp only [Act.put, Xj, Xk, Xl, i64_w, i32_w]; rfl
     refine pure_ (i := 6) (N := some 56) (v := ?_) (a' := ?_) (Bq 10 127) rfl rfl (by kernel_rfl) (fun _ _ _ h => h) (Or.inl ⟨by rfl, ?_⟩) ?_ ?_; rotate_left
     ·intro w'; go_simp; with_reducible rfl
     rotate_left
     ·simp only [Act.put, Xj, Xk, Xl, i64_w, i32_w]; rfl
     refine one_ (i := 7) (N := none) (Bq 10 255) rfl rfl (by kernel_rfl) (by decide) (fun K hK => ?_); refine skip_ (w1 := ?_) (by rfl) rfl ?_ ?_; rotate_left
     ·go_simp; rfl
     refine hK.out _ _ ⟨h7_.cells.2.1, h7_.cells.2.2.1⟩ (fun hHeld => ?_); clear hK K; refine pure_ (i := 8) (N := some 57) (v := ?_) (a' := ?_) (Bq 10 511) rfl rfl (by kernel_rfl) (fun _ _ _ h => h) (Or.inl ⟨by rfl, ?_⟩) ?_ ?_; rotate_left
     ·intro w'; go_simp; with_reducible rfl
     rotate_left
     ·simp only [Act.put, Xj, Xk, Xl, i64_w, i32_w]; rfl
     refine last_ (i := 9) (N := none) (Bq 10 1023) rfl rfl (by kernel_rfl) (by decide) (fun K hK => ?_); refine skip_ (w1 := ?_) (by rfl) rfl ?_ ?_; rotate_left
     ·go_simp; rfl
     refine hK.out _ _ ?_; clear hK K; refine done_ (by kernel_rfl) ?_; try go_wp2
     go_roundg k1
     case measure => omega
     case rel => exact ⟨s + 1, (t, (s : Int)), YG, ⟨by have := HM.out; omega⟩, ⟨by rw [HQ.out, ← hq4, if_pos (.inr E1.out)]⟩, HS2, ⟨air_firsts.below_set' (air_firsts.below_set' (Xa HB.out _) HG1.out) HG2.out⟩⟩
    ·have cl0 : decide (t < p1) = false := decide_eq_false e1; have E1 := XB e1; clear e1; go_wp2_with (first
      | ((with_reducible refine gate_callee (f := 59) rfl ?_); refine goesL_ (some 32) rfl rfl Try.func59 (by kernel_rfl) rfl #[.agg #[.int .i64 a0, .int .i64 a1, .slice A2 l2.length c2, .slice A3 l3.length c3], .int .i64 (s : Int), .int .i64 (n : Int)] rfl (by (try simp only [Xm, Xn, Xo]); first | done | rfl) ?_; (refine (air_lot.calls k a0 a1 A2 c2 l2 A3 c3 l3 (s : Int) (n : Int) r1 r2 _ (Xu HR2.out HB.out) HC2.out (Xu HR3.out HB.out) HC3.out HL.out).mono ?_); rintro e w5 ⟨rfl, hb⟩; refine ⟨_, rfl, ?_⟩; have n1_ := XB (HS.out.below hb); have n2_ := XB (Xz HB.out hb); clear HS HB hb z1 z2 z3 z4 z5 z6 z7 z8; have HS := n1_; have HB := n2_; clear n1_ n2_; obtain ⟨z1, z2, z3, z4, z5, z6, z7, z8⟩ := HS.out.cells; have z9 := HS.out.cost (n := n) (by rw [List.length_set]; have := HLC.out; omega); rw [HEN.out] at z9)
      | ((with_reducible refine Go.Proofs.YtboefcikdfjfmaaW.PrintHand.gate_calleeT (t := 35) rfl ?_); refine air_all.goesC_ (t := 35) (some 37) rfl rfl Try.func85 (by kernel_rfl) rfl #[] #[.pointer (some ⟨gq, 0, none⟩), .pointer (some ⟨gc, 0, none⟩), .pointer (some ⟨gt, 0, none⟩), .pointer (some ⟨gf, 0, none⟩), .pointer (some ⟨gb, 0, none⟩)] #[.int .i64 (s : Int), .pointer (some ⟨gq, 0, none⟩), .pointer (some ⟨gc, 0, none⟩), .pointer (some ⟨gt, 0, none⟩), .pointer (some ⟨gf, 0, none⟩), .pointer (some ⟨gb, 0, none⟩)] rfl rfl (by (try simp only [Xm, Xn, Xo]); first | done | rfl) ?_; (refine (air_firsts.found _ HS.out (by rw [List.length_set]; exact HLC.out) HLK.out s hsN (by rcases Nat.eq_zero_or_pos s with e | e; exact .inl e; exact .inr (HKS.out s e hsn))).mono ?_); rintro e w6 ⟨rfl, ⟨nd, rfl⟩⟩; refine ⟨_, rfl, ?_⟩; rw [HE.out]))
     go_roundg k1
     case measure => omega
     case rel => exact ⟨s + 1, (p1, p2), YG, ⟨by have := HM.out; omega⟩, ⟨by rw [HQ.out, ← hq4, if_neg (fun h_ => h_.elim E0.out (fun h2_ => by have := E1.out; omega))]⟩, HS, ⟨Xa HB.out _⟩⟩
  ·have c3b0 : decide ((s : Int) < (n : Int)) = false := decide_eq_false c; obtain rfl : s = n := by have := HM.out; omega
   have HF := HP.out; rw [HROW.out] at HF; obtain ⟨rfl, rfl⟩ : c_ = p1 ∧ b = p2 := by injection HF with HF; injection HF with h1 h2; exact ⟨h1, h2⟩
   clear HF c; obtain ⟨z1, z2, z3, z4, z5, z6, z7, z8⟩ := HS.out.cells; have z10 := HS.out.known (n := s) (by have := HLK.out; omega); obtain ⟨f1_, f2_, f3_, f4_⟩ := HS.out.open_ s (by rw [List.length_set]; have := HLC.out; omega) (by rw [List.length_set]; have := HLB.out; omega) (by have := HLK.out; omega); have h7_ := HS.out.setk s true; have HEN := XB (show rd (cs.set s c_) (s : Int) = c_ by
    have := HLC.out
    simp [rd, show s < cs.length by omega])
   obtain ⟨y1, y2, y3, y4, y5, y6, y7, y8⟩ := h7_.cells; have y9 := h7_.cost (n := s) (by rw [List.length_set]; have := HLC.out; omega); rw [HEN.out] at y9; have HS2 := XB h7_; clear h7_ z2 z3 z4 z5 z6 z7 z8 y1 y3 y4 y5 y6 y7 y8 f1_ f2_ f4_; go_wp2
   go_ret
   exact ⟨by first | rfl | (simp; done) | (simp [*]; done), HS2.out, air_firsts.below_set' HB.out HG3.out⟩
/-! The two rows and the two places of firsts are made in whatever order -/
def air_firsts.rdy (bA bB bC bD bE bF : Bool) : List Nat :=
 (bif bA then [] else [4]) ++ (bif bB then [] else [9]) ++ (bif bC then [] else [10]) ++ (bif bD then [] else [11]) ++ (bif !bE && bA && bC && bD then [12] else []) ++ (bif !bF && bE && bA && bB && bC && bD then [13] else [])
def air_firsts.L (bA bB bC bD bE bF : Bool) : Array Bool := #[true, true, true, true, bA, true, true, true, true, bB, bC, bD, bE, bF]
theorem air_firsts.ready_eq (bA bB bC bD bE bF : Bool) : Region.ready .any (opsOf Try.f56 1) (air_firsts.L bA bB bC bD bE bF) = air_firsts.rdy bA bB bC bD bE bF := by
 cases bA <;> cases bB <;> cases bC <;> cases bD <;> cases bE <;> cases bF <;> kernel_rfl
def air_firsts.act (T : Value) (gt : Nat) (A3 : Option Addr) (c3 m : Nat) (bA bB bC bD : Bool) (gA gB gC gD : Nat) : Act :=
 ⟨#[T, .pointer (some ⟨gt, 0, none⟩), .slice none 0 0, .slice none 0 0, (bif bC then .pointer (some ⟨gC, 0, none⟩) else undef), (bif bD then .pointer (some ⟨gD, 0, none⟩) else undef), undef, undef, undef,
      .pointer (some ⟨gt, 3, none⟩), .slice A3 m c3, .int .i64 (m : Int), .int .i64 ((m + 1 : Nat) : Int), (bif bA then .slice (some ⟨gA, 0, none⟩) (m + 1) (m + 1) else undef),
      .pointer (some ⟨gt, 3, none⟩), .slice A3 m c3, .int .i64 (m : Int), .int .i64 ((m + 1 : Nat) : Int), (bif bB then .slice (some ⟨gB, 0, none⟩) (m + 1) (m + 1) else undef),
      undef, undef, undef, undef, undef, undef, undef, undef, undef, undef, undef, undef, undef, undef, undef, undef, undef], []⟩
def air_firsts.Fx (base gt : Nat) (tcs : Array Value) (m : Nat) (w0 : World) (bA bB bC bD bE bF : Bool) (gA gB gC gD : Nat) (w : World) : Prop :=
 Below base w0 w ∧ base ≤ w.heap.size ∧ w.heap[gt]? = some (.cells tcs 24 (0, 0)) ∧
 (bA = true → base ≤ gA ∧ w.heap[gA]? = some (.cells (madeCells #[.int .i64 0] (m + 1)) 3 (0, 0))) ∧ (bB = true → base ≤ gB ∧ w.heap[gB]? = some (.cells (madeCells #[.int .i64 0] (m + 1)) 3 (0, 0))) ∧
 (bC = true → base ≤ gC ∧ w.heap[gC]? = some (.cells #[bif bE then .slice (some ⟨gA, 0, none⟩) (m + 1) (m + 1) else .slice none 0 0] 22 (0, 0))) ∧
 (bD = true → base ≤ gD ∧ w.heap[gD]? = some (.cells #[bif bF then .slice (some ⟨gB, 0, none⟩) (m + 1) (m + 1) else .slice none 0 0] 22 (0, 0))) ∧
 (bA = true → bB = true → gA ≠ gB) ∧ (bC = true → bD = true → gC ≠ gD)
theorem air_firsts.run_make {o : Oper} {a : Act} {x : Operand} {m : Nat} (hm : m ≤ 1000) (ho : o.op = .makeSlice 22 x x) (hx : a.eval x = .int .i64 ((m + 1 : Nat) : Int)) (w : World) :
  (execOp a.eval o).run Try.prog w = .ok (.value (.slice (some ⟨w.heap.size, 0, none⟩) (m + 1) (m + 1))) (w.alloc (.cells (madeCells #[.int .i64 0] (m + 1)) 3)) := by
 have h := print_make_int (P := Try.prog) 22 3 (.int .i64 0) 8 Try.underlying22 info3 rfl (by decide) ((m + 1 : Nat) : Int) (by omega) (by omega) w; rw [Int.toNat_natCast] at h; generalize ((m + 1 : Nat) : Int) = z at hx h
 simp [execOp, ho, hx, h]
theorem air_firsts.run_alloc {o : Oper} {a : Act} (ho : o.op = .alloc 22) (w : World) : (execOp a.eval o).run Try.prog w = .ok (.value (.pointer (some ⟨w.heap.size, 0, none⟩))) (w.alloc (.cells #[.slice none 0 0] 22 (0, 0))) := by
 go_simp; try rfl
theorem air_firsts.run_store {o : Oper} {a : Act} {x y : Operand} {g g2 n : Nat} {u : Value} (ho : o.op = .store 22 x y) (hx : a.eval x = .pointer (some ⟨g, 0, none⟩)) (hy : a.eval y = .slice (some ⟨g2, 0, none⟩) n n) {w : World} (hc : w.cell? ⟨g, 0, none⟩ = some u) (hf : w.frozen? ⟨g, 0, none⟩ = false) :
  (execOp a.eval o).run Try.prog w = .ok .skip (w.setCell ⟨g, 0, none⟩ (.slice (some ⟨g2, 0, none⟩) n n)) := by
 unfold execOp; rw [ho]; simp only []; rw [hx, hy]; go_simp; try rfl
theorem air_firsts.sz_ {w : World} {base : Nat} (h : base ≤ w.heap.size) {c : Obj} : base ≤ (w.alloc c).heap.size := by
 rw [World.size_alloc]; omega
set_option maxHeartbeats 8000000 in
set_option maxRecDepth 100000 in
theorem air_firsts.makes {Q : Exit → Act → World → Prop} {T : Value} {gt : Nat} {A3 : Option Addr} {c3 m : Nat} (hm : m ≤ 1000) {base : Nat} {w0 : World} {u0 u1 u2 : Value}
  (hcont : ∀ gA gB gC gD w', air_firsts.Fx base gt #[u0, u1, u2, .slice A3 m c3] m w0 true true true true true true gA gB gC gD w' → Q .normal (air_firsts.act T gt A3 c3 m true true true true gA gB gC gD) w') :
  ∀ (fuel : Nat) (bA bB bC bD bE bF : Bool) (gA gB gC gD : Nat) (w : World), (bE = true → bA = true ∧ bC = true ∧ bD = true) → (bF = true → bE = true ∧ bB = true) → air_firsts.Fx base gt #[u0, u1, u2, .slice A3 m c3] m w0 bA bB bC bD bE bF gA gB gC gD w →
   6 ≤ fuel + (bA.toNat + bB.toNat + bC.toNat + bD.toNat + bE.toNat + bF.toNat) →
   wpAnyLast Try.prog .any (opsOf Try.f56 1) Q (fun w' => w'.cell? ⟨gt, 3, none⟩ = some (.slice A3 m c3)) [] fuel (air_firsts.L bA bB bC bD bE bF) (air_firsts.act T gt A3 c3 m bA bB bC bD gA gB gC gD) w := by
 intro fuel; induction fuel with
 | zero =>
  intro bA bB bC bD bE bF gA gB gC gD w hE hF hx hn; have hall : bA = true ∧ bB = true ∧ bC = true ∧ bD = true ∧ bE = true ∧ bF = true := by
   cases bA <;> cases bB <;> cases bC <;> cases bD <;> cases bE <;> cases bF <;> simp at hn ⊢
  obtain ⟨rfl, rfl, rfl, rfl, rfl, rfl⟩ := hall; exact ⟨by rw [air_firsts.ready_eq]; rfl, hcont _ _ _ _ _ hx⟩
 | succ fuel ih =>
  intro bA bB bC bD bE bF gA gB gC gD w hE hF hx hn; refine ⟨fun hr => ?_, fun i hi => ?_⟩
  ·rw [air_firsts.ready_eq] at hr; have hall : bA = true ∧ bB = true ∧ bC = true ∧ bD = true ∧ bE = true ∧ bF = true := by
    revert hr
    cases bA <;> cases bB <;> cases bC <;> cases bD <;> cases bE <;> cases bF <;> simp [air_firsts.rdy]
   obtain ⟨rfl, rfl, rfl, rfl, rfl, rfl⟩ := hall; exact hcont _ _ _ _ _ hx
  ·rw [air_firsts.ready_eq] at hi; have hi2 : (i = 4 ∧ bA = false) ∨ (i = 9 ∧ bB = false) ∨ (i = 10 ∧ bC = false) ∨ (i = 11 ∧ bD = false) ∨ (i = 12 ∧ bE = false ∧ bA = true ∧ bC = true ∧ bD = true) ∨ (i = 13 ∧ bF = false ∧ bE = true ∧ bA = true ∧ bB = true ∧ bC = true ∧ bD = true) := by
    revert hi
    cases bA <;> cases bB <;> cases bC <;> cases bD <;> cases bE <;> cases bF <;> simp [air_firsts.rdy]
   clear hi; obtain ⟨x1, x2, x3, x4, x5, x6, x7, x8, x9⟩ := hx; rcases hi2 with ⟨rfl, rfl⟩ | ⟨rfl, rfl⟩ | ⟨rfl, rfl⟩ | ⟨rfl, rfl⟩ | ⟨rfl, rfl, rfl, rfl, rfl⟩ | ⟨rfl, rfl, rfl, rfl, rfl, rfl, rfl⟩
   ·-- the first row
    obtain rfl : bE = false := by cases bE; rfl; exact absurd (hE rfl).1 (by simp)
    obtain rfl : bF = false := by cases bF; rfl; exact absurd (hF rfl).1 (by simp)
    have ho : ((opsOf Try.f56 1)[4]).op = .makeSlice 22 (.tmp 12) (.tmp 12) := rfl; have hx : (air_firsts.act T gt A3 c3 m false bB bC bD gA gB gC gD).eval (.tmp 12) = .int .i64 ((m + 1 : Nat) : Int) := rfl; refine wpOp_step (o := (opsOf Try.f56 1)[4]) rfl (fun K hK => ?_); refine event_step (by rfl) (v := .slice (some ⟨w.heap.size, 0, none⟩) (m + 1) (m + 1)) (w1 := w.alloc (.cells (madeCells #[.int .i64 0] (m + 1)) 3)) (air_firsts.run_make hm ho hx w) ?_; have hh := Xe x3 (.cells (madeCells #[.int .i64 0] (m + 1)) 3); refine hK _ _ ⟨fun _ _ => (Xi hh 3).trans rfl, ih true bB bC bD false false w.heap.size gB gC gD _ (by simp) (by simp) ⟨x1.alloc x2 _, air_firsts.sz_ x2, hh, fun _ => ⟨x2, blk_new w _⟩, fun h => ⟨(x5 h).1, Xe (x5 h).2 _⟩, fun h => ⟨(x6 h).1, Xe (x6 h).2 _⟩, fun h => ⟨(x7 h).1, Xe (x7 h).2 _⟩, fun _ h => by have := blk_lt (x5 h).2; omega, x9⟩ (by first | (simp at hn ⊢; done) | (simp at hn ⊢; omega))⟩
   ·-- the second row
    obtain rfl : bF = false := by cases bF; rfl; exact absurd (hF rfl).2 (by simp)
    have ho : ((opsOf Try.f56 1)[9]).op = .makeSlice 22 (.tmp 17) (.tmp 17) := rfl; have hx : (air_firsts.act T gt A3 c3 m bA false bC bD gA gB gC gD).eval (.tmp 17) = .int .i64 ((m + 1 : Nat) : Int) := rfl; refine wpOp_step (o := (opsOf Try.f56 1)[9]) rfl (fun K hK => ?_); refine event_step (by rfl) (v := .slice (some ⟨w.heap.size, 0, none⟩) (m + 1) (m + 1)) (w1 := w.alloc (.cells (madeCells #[.int .i64 0] (m + 1)) 3)) (air_firsts.run_make hm ho hx w) ?_; have hh := Xe x3 (.cells (madeCells #[.int .i64 0] (m + 1)) 3); refine hK _ _ ⟨fun _ _ => (Xi hh 3).trans rfl, ih bA true bC bD bE false gA w.heap.size gC gD _ hE (by simp) ⟨x1.alloc x2 _, air_firsts.sz_ x2, hh, fun h => ⟨(x4 h).1, Xe (x4 h).2 _⟩, fun _ => ⟨x2, blk_new w _⟩, fun h => ⟨(x6 h).1, Xe (x6 h).2 _⟩, fun h => ⟨(x7 h).1, Xe (x7 h).2 _⟩, fun h _ => by have := blk_lt (x4 h).2; omega, x9⟩ (by first | (simp at hn ⊢; done) | (simp at hn ⊢; omega))⟩
   ·-- the first place
    obtain rfl : bE = false := by cases bE; rfl; exact absurd (hE rfl).2.1 (by simp)
    obtain rfl : bF = false := by cases bF; rfl; exact absurd (hF rfl).1 (by simp)
    refine wpOp_step (o := (opsOf Try.f56 1)[10]) rfl (fun K hK => ?_); refine event_step (by rfl) (v := .pointer (some ⟨w.heap.size, 0, none⟩)) (w1 := w.alloc (.cells #[.slice none 0 0] 22 (0, 0))) (air_firsts.run_alloc rfl w) ?_; have hh := Xe x3 (.cells #[.slice none 0 0] 22 (0, 0)); refine hK _ _ ⟨fun _ _ => (Xi hh 3).trans rfl, ih bA bB true bD false false gA gB w.heap.size gD _ (by simp) (by simp) ⟨x1.alloc x2 _, air_firsts.sz_ x2, hh, fun h => ⟨(x4 h).1, Xe (x4 h).2 _⟩, fun h => ⟨(x5 h).1, Xe (x5 h).2 _⟩, fun _ => ⟨x2, blk_new w _⟩, fun h => ⟨(x7 h).1, Xe (x7 h).2 _⟩, x8, fun _ h => by have := blk_lt (x7 h).2; omega⟩ (by first | (simp at hn ⊢; done) | (simp at hn ⊢; omega))⟩
   ·-- the second place
    obtain rfl : bE = false := by cases bE; rfl; exact absurd (hE rfl).2.2 (by simp)
    obtain rfl : bF = false := by cases bF; rfl; exact absurd (hF rfl).1 (by simp)
    refine wpOp_step (o := (opsOf Try.f56 1)[11]) rfl (fun K hK => ?_); refine event_step (by rfl) (v := .pointer (some ⟨w.heap.size, 0, none⟩)) (w1 := w.alloc (.cells #[.slice none 0 0] 22 (0, 0))) (air_firsts.run_alloc rfl w) ?_; have hh := Xe x3 (.cells #[.slice none 0 0] 22 (0, 0)); refine hK _ _ ⟨fun _ _ => (Xi hh 3).trans rfl, ih bA bB bC true false false gA gB gC w.heap.size _ (by simp) (by simp) ⟨x1.alloc x2 _, air_firsts.sz_ x2, hh, fun h => ⟨(x4 h).1, Xe (x4 h).2 _⟩, fun h => ⟨(x5 h).1, Xe (x5 h).2 _⟩, fun h => ⟨(x6 h).1, Xe (x6 h).2 _⟩, fun _ => ⟨x2, blk_new w _⟩, x8, fun h _ => by have := blk_lt (x6 h).2; omega⟩ (by first | (simp at hn ⊢; done) | (simp at hn ⊢; omega))⟩
   ·-- the first row is put into its place
    obtain rfl : bF = false := by cases bF; rfl; exact absurd (hF rfl).1 (by simp)
    have k4 := x4 rfl; have k6 := x6 rfl; have k7 := x7 rfl; have hcz : w.cell? ⟨gC, 0, none⟩ = some (.slice none 0 0) := (Xi k6.2 0).trans rfl; have hfz := Xh k6.2 0; refine wpOp_step (o := (opsOf Try.f56 1)[12]) rfl (fun K hK => ?_); refine skip_ (w1 := w.setCell ⟨gC, 0, none⟩ (.slice (some ⟨gA, 0, none⟩) (m + 1) (m + 1))) (by rfl) rfl (air_firsts.run_store rfl rfl rfl hcz hfz) ?_; have hh := blk_far x3 (p := ⟨gC, 0, none⟩) (blk_ne x3 k6.2 (by decide)) (.slice (some ⟨gA, 0, none⟩) (m + 1) (m + 1)); refine hK _ _ ⟨fun _ _ => (Xi hh 3).trans rfl, ih true bB true true true false gA gB gC gD _ (by simp) (by simp) ⟨x1.setCell k6.1 _, by simpa [World.setCell] using x2, hh, fun _ => ⟨k4.1, blk_far k4.2 (blk_ne k4.2 k6.2 (by decide)) _⟩, fun h => ⟨(x5 h).1, blk_far (x5 h).2 (blk_ne (x5 h).2 k6.2 (by decide)) _⟩, fun _ => ⟨k6.1, blk_put k6.2 0 _ rfl⟩, fun _ => ⟨k7.1, blk_far k7.2 (fun e => x9 rfl rfl e.symm) _⟩, x8, x9⟩ (by first | (simp at hn ⊢; done) | (simp at hn ⊢; omega))⟩
   ·-- the second row is put into its place
    have k4 := x4 rfl; have k5 := x5 rfl; have k6 := x6 rfl; have k7 := x7 rfl; have hcz : w.cell? ⟨gD, 0, none⟩ = some (.slice none 0 0) := (Xi k7.2 0).trans rfl; have hfz := Xh k7.2 0; refine wpOp_step (o := (opsOf Try.f56 1)[13]) rfl (fun K hK => ?_); refine skip_ (w1 := w.setCell ⟨gD, 0, none⟩ (.slice (some ⟨gB, 0, none⟩) (m + 1) (m + 1))) (by rfl) rfl (air_firsts.run_store rfl rfl rfl hcz hfz) ?_; have hh := blk_far x3 (p := ⟨gD, 0, none⟩) (blk_ne x3 k7.2 (by decide)) (.slice (some ⟨gB, 0, none⟩) (m + 1) (m + 1)); refine hK _ _ ⟨fun _ _ => (Xi hh 3).trans rfl, ih true true true true true true gA gB gC gD _ (by simp) (by simp) ⟨x1.setCell k7.1 _, by simpa [World.setCell] using x2, hh, fun _ => ⟨k4.1, blk_far k4.2 (blk_ne k4.2 k7.2 (by decide)) _⟩, fun _ => ⟨k5.1, blk_far k5.2 (blk_ne k5.2 k7.2 (by decide)) _⟩, fun _ => ⟨k6.1, blk_far k6.2 (x9 rfl rfl) _⟩, fun _ => ⟨k7.1, blk_put k7.2 0 _ rfl⟩, x8, x9⟩ (by first | (simp at hn ⊢; done) | (simp at hn ⊢; omega))⟩
/-- What is known after n numbers. -/
def air_firsts.kn (N n : Nat) : List Bool := (List.range N).map fun j => decide (1 ≤ j) && decide (j < n)
theorem air_firsts.kn_get {N n j : Nat} (hj : j < N) : (air_firsts.kn N n).getD j false = (decide (1 ≤ j) && decide (j < n)) := by
 simp [air_firsts.kn, hj]
theorem air_firsts.kn_set {N n : Nat} (hn : 1 ≤ n) : (air_firsts.kn N n).set n true = air_firsts.kn N (n + 1) := by
 refine List.ext_getElem (by simp [air_firsts.kn]) (fun i h1 h2 => ?_); rw [List.getElem_set]; by_cases e : n = i
 ·subst e; simp [air_firsts.kn, hn]
 ·rw [if_neg e]; simp only [air_firsts.kn, List.getElem_map, List.getElem_range]; by_cases h3 : i < n
  ·simp [h3, show i < n + 1 by omega]
  ·simp [h3, show ¬ i < n + 1 by omega]
theorem air_firsts.kn_zero {N : Nat} : air_firsts.kn N 0 = List.replicate N false := by
 refine List.ext_getElem (by simp [air_firsts.kn]) (fun i h1 h2 => ?_); simp [air_firsts.kn]
theorem air_firsts.kn_one {N : Nat} : air_firsts.kn N 1 = air_firsts.kn N 0 := by
 refine List.ext_getElem (by simp [air_firsts.kn]) (fun i h1 h2 => ?_); simp only [air_firsts.kn, List.getElem_map, List.getElem_range]; by_cases h : 1 ≤ i
 ·simp [show ¬ i < 1 by omega]
 ·simp [h]
/-- The costs of the first hours, and where their last lots begin: after n numbers. -/
def air_firsts.go (k : Nat) (a0 a1 : Int) (l2 l3 : List Int) : Nat → Option (List Int × List Int)
 | 0 => some (List.replicate (l3.length + 1) 0, List.replicate (l3.length + 1) 0)
 | n + 1 => (air_firsts.go k a0 a1 l2 l3 n).bind fun p => if n = 0 then some p else (air_firsts.row k a0 a1 l2 l3 p.1 p.2 n n).bind fun q => some (p.1.set n q.1, p.2.set n q.2)
def air_firsts.f (k : Nat) (a0 a1 : Int) (l2 l3 : List Int) : Option (List Int × List Int) := if l3.length ≤ 1000 then air_firsts.go k a0 a1 l2 l3 (l3.length + 1) else none
theorem air_firsts.row_mono (a0 a1 : Int) (l2 l3 cs bs : List Int) (n s k : Nat) : LeO (air_firsts.row k a0 a1 l2 l3 cs bs n s) (air_firsts.row (k + 1) a0 a1 l2 l3 cs bs n s) := by
 induction s with
 | zero => exact LeO.refl _
 | succ s ih =>
  unfold air_firsts.row; refine LeO.bind ih (fun p => ?_); refine LeO.bind (air_lot.mono _ _ _ _ _ _ _) (fun q => ?_); exact LeO.refl _
theorem air_firsts.go_mono (a0 a1 : Int) (l2 l3 : List Int) (n k : Nat) : LeO (air_firsts.go k a0 a1 l2 l3 n) (air_firsts.go (k + 1) a0 a1 l2 l3 n) := by
 induction n with
 | zero => exact LeO.refl _
 | succ n ih =>
  unfold air_firsts.go; refine LeO.bind ih (fun p => ?_); refine LeO.ite (LeO.refl _) ?_; refine LeO.bind (air_firsts.row_mono _ _ _ _ _ _ _ _ _) (fun q => ?_); exact LeO.refl _
theorem air_firsts.mono : ∀ a0 a1 l2 l3 k, LeO (air_firsts.f k a0 a1 l2 l3) (air_firsts.f (k + 1) a0 a1 l2 l3) := by
 intro a0 a1 l2 l3 k; unfold air_firsts.f; exact LeO.ite (air_firsts.go_mono _ _ _ _ _ _) (LeO.refl _)
theorem air_firsts.go_le {k : Nat} {a0 a1 : Int} {l2 l3 : List Int} {s t : Nat} (h : s ≤ t) {q : List Int × List Int} (hq : air_firsts.go k a0 a1 l2 l3 t = some q) : ∃ p, air_firsts.go k a0 a1 l2 l3 s = some p := by
 induction t generalizing q with
 | zero =>
  obtain rfl : s = 0 := by omega
  exact ⟨q, hq⟩
 | succ t ih =>
  rcases Nat.lt_or_ge s (t + 1) with c | c
  ·simp only [air_firsts.go] at hq; obtain ⟨p, hp, _⟩ := Option.bind_eq_some_iff.1 hq; exact ih (by omega) hp
  ·obtain rfl : s = t + 1 := by omega
   exact ⟨q, hq⟩
theorem air_firsts.go_len {k : Nat} {a0 a1 : Int} {l2 l3 : List Int} {n : Nat} {p : List Int × List Int} (h : air_firsts.go k a0 a1 l2 l3 n = some p) : p.1.length = l3.length + 1 ∧ p.2.length = l3.length + 1 := by
 induction n generalizing p with
 | zero => simp only [air_firsts.go, Option.some.injEq] at h; subst h; simp
 | succ n ih =>
  simp only [air_firsts.go] at h; obtain ⟨q, hq, h2⟩ := Option.bind_eq_some_iff.1 h; split at h2
  ·injection h2 with h2; subst h2; exact ih hq
  ·obtain ⟨r, hr, h3⟩ := Option.bind_eq_some_iff.1 h2; injection h3 with h3; subst h3; simpa using ih hq
theorem air_firsts.made_eq (v : Value) (n : Nat) : madeCells #[v] n = (List.replicate n v).toArray := by
 apply Array.ext'
 refine List.ext_getElem (by simp [madeCells]) (fun i h1 h2 => ?_); simp [madeCells, Nat.mod_one]
/-- A row of the call's own, out of its block. -/
theorem air_firsts.R_of {w : World} {base g : Nat} {ok : Nat → Prop} {cs : List Int} (hb : base ≤ g) (hh : w.heap[g]? = some (.cells (cs.map (fun n => Value.int .i64 n)).toArray 3 (0, 0))) (hl : cs.length ≤ 1000000) (hok : ok g) :
  Kd.R (Kd.int .i64) 3 w base ok (.slice (some ⟨g, 0, none⟩) cs.length cs.length) cs := by
 have h1_ : (Kd.int .i64).sz = 1 := rfl; refine ⟨fun k hk => ?_, cs.map (fun n => Value.int .i64 n), ⟨by simp [h1_], .inr ⟨g, cs.length, _, rfl, hb, hh, Nat.le_refl _, by unfold maxLen; omega, by simp [h1_], by rw [h1_, Nat.mul_one, List.take_of_length_le (by simp)]⟩⟩, ?_⟩
 ·have : g = k := by simpa [Value.ownBlock] using hk
  subst this; exact hok
 ·refine ⟨by simp [h1_], fun j p hj => ?_⟩; have hjl := (List.getElem?_eq_some_iff.1 hj).1; have : ((cs.map (fun n => Value.int .i64 n)).drop (j * 1)).take 1 = [Value.int .i64 p] := by
   rw [Nat.mul_one, ← List.map_drop, ← List.map_take]; rw [List.drop_eq_getElem_cons hjl]; simp [(List.getElem?_eq_some_iff.1 hj).2]
  exact this
theorem air_firsts.run_makeb {o : Oper} {a : Act} {x : Operand} {N : Nat} (hN : N ≤ 1001) (ho : o.op = .makeSlice 79 x x) (hx : a.eval x = .int .i64 (N : Int)) (w : World) :
  (execOp a.eval o).run Try.prog w = .ok (.value (.slice (some ⟨w.heap.size, 0, none⟩) N N)) (w.alloc (.cells (madeCells #[.bool false] N) 4)) := by
 have h := print_make_int (P := Try.prog) 79 4 (.bool false) 1 Try.underlying79 (by kernel_rfl) rfl (by decide) (N : Int) (by omega) (by omega) w; rw [Int.toNat_natCast] at h; generalize (N : Int) = z at hx h
 simp [execOp, ho, hx, h]
/-- All is laid. -/
theorem air_firsts.St.start {gq gc gt gf gb bk bc bb : Nat} {a0 a1 : Int} {A2 : Option Addr} {c2 : Nat} {l2 : List Int} {A3 : Option Addr} {c3 : Nat} {l3 : List Int} {N m : Nat} {w : World} (hm : m = l3.length)
  (fq : w.heap[gq]? = some (.cells #[.slice none 0 0] 79 (0, 0))) (fc : w.heap[gc]? = some (.cells #[.slice (some ⟨bc, 0, none⟩) N N] 22 (0, 0)))
  (ft : w.heap[gt]? = some (.cells #[.int .i64 a0, .int .i64 a1, .slice A2 l2.length c2, .slice A3 m c3] 24 (0, 0)))
  (ff : w.heap[gf]? = some (.cells #[.nilFunc] 78 (0, 0))) (fb : w.heap[gb]? = some (.cells #[.slice (some ⟨bb, 0, none⟩) N N] 22 (0, 0)))
  (fk : w.heap[bk]? = some (.cells (madeCells #[.bool false] N) 4 (0, 0))) (fA : w.heap[bc]? = some (.cells (madeCells #[.int .i64 0] N) 3 (0, 0))) (fB : w.heap[bb]? = some (.cells (madeCells #[.int .i64 0] N) 3 (0, 0))) :
  air_firsts.St gq gc gt gf gb bk bc bb a0 a1 A2 c2 l2 A3 c3 l3 N (List.replicate N 0) (List.replicate N 0) (air_firsts.kn N 0)
   ((w.setCell ⟨gq, 0, none⟩ (.slice (some ⟨bk, 0, none⟩) N N)).setCell ⟨gf, 0, none⟩ (.func (.func 85) #[] #[.pointer (some ⟨gq, 0, none⟩), .pointer (some ⟨gc, 0, none⟩), .pointer (some ⟨gt, 0, none⟩), .pointer (some ⟨gf, 0, none⟩), .pointer (some ⟨gb, 0, none⟩)])) := by
 subst hm; rw [air_firsts.made_eq] at fk fA fB; refine ⟨blk_far (blk_put fq 0 _ rfl) (blk_ne fq ff (by decide)) _, blk_far (blk_far fc (blk_ne fc fq (by decide)) _) (blk_ne fc ff (by decide)) _, blk_far (blk_far ft (blk_ne ft fq (by decide)) _) (blk_ne ft ff (by decide)) _,
  blk_put (blk_far ff (blk_ne ff fq (by decide)) _) 0 _ rfl, blk_far (blk_far fb (blk_ne fb fq (by decide)) _) (blk_ne fb ff (by decide)) _, ?_, ?_, ?_⟩
 ·rw [air_firsts.kn_zero, List.map_replicate]; exact blk_far (blk_far fk (blk_ne fk fq (by decide)) _) (blk_ne fk ff (by decide)) _
 ·rw [List.map_replicate]; exact blk_far (blk_far fA (blk_ne fA fq (by decide)) _) (blk_ne fA ff (by decide)) _
 ·rw [List.map_replicate]; exact blk_far (blk_far fB (blk_ne fB fq (by decide)) _) (blk_ne fB ff (by decide)) _
theorem air_firsts.make_event {P : Program} {ops : Array Oper} {rest : List Oper} {o : Oper} {a : Act} {Q : Exit → Act → World → Prop} {W : World} (hgd : o.guard = none) {N : Tmp} (_hd : o.dst = some N) {cs : Array Value} {t : TypeId} {n : Nat}
  (hrun : (execOp a.eval o).run P W = .ok (.value (.slice (some ⟨W.heap.size, 0, none⟩) n n)) (W.alloc (.cells cs t (0, 0))))
  (h : ∀ g, g = W.heap.size → ∀ w1, w1.heap[g]? = some (.cells cs t (0, 0)) → Below W.heap.size W w1 → wpList P ops Q rest (a.put o.dst (.slice (some ⟨g, 0, none⟩) n n)) w1) : wpList P ops Q (o :: rest) a W :=
 Kd.event_run hgd hrun (h _ rfl _ (blk_new W _) (Xc (Below.refl _ _) _))
set_option maxHeartbeats 16000000 in
set_option maxRecDepth 100000 in
theorem air_firsts.calls (k : Nat) (a0 a1 : Int) (A2 : Option Addr) (c2 : Nat) (l2 : List Int) (A3 : Option Addr) (c3 : Nat) (l3 : List Int) (r1 r2 : List Int) (w : World) (hr2 : Kd.C (Kd.int .i64) w A2 l2.length l2) (hc2 : l2.length ≤ c2) (hr3 : Kd.C (Kd.int .i64) w A3 l3.length l3) (hc3 : l3.length ≤ c3) (h : air_firsts.f k a0 a1 l2 l3 = some (r1, r2)) :
  Calls Try.prog 56 #[.agg #[.int .i64 a0, .int .i64 a1, .slice A2 l2.length c2, .slice A3 l3.length c3]] w fun e w' => ∃ v0_ v1_ : Value, e = .returned (.tuple #[v0_, v1_]) ∧ Kd.R (Kd.int .i64) 3 w' w.heap.size (fun k_ => some k_ ≠ (v1_ : Value).ownBlock) v0_ r1 ∧ Kd.R (Kd.int .i64) 3 w' w.heap.size (fun k_ => some k_ ≠ (v0_ : Value).ownBlock) v1_ r2 ∧ Below w.heap.size w w' := by
 unfold air_firsts.f at h; by_cases hm : l3.length ≤ 1000
 ·rw [if_pos hm] at h; have HM := XB hm; have HG := XB h; have HR2 := XB hr2; have HC2 := XB hc2; have HR3 := XB hr3; have HC3 := XB hc3; have HB := XB (Below.refl w.heap.size w); clear hm h hr2 hc2 hr3 hc3; obtain ⟨m, hm⟩ : ∃ m, m = l3.length := ⟨_, rfl⟩
  have hmw : IntKind.i64.wrap ((m : Int) + 1) = ((m + 1 : Nat) : Int) := by have := HM.out; simp only [i64_w]; unfold wrap64; omega
  have HME := XB hm; rw [← hm]; clear hm; go_enter Try.func56, Try.ntmps56
  go_wp2_with ((with_reducible refine gate_dst (N := 1) rfl ?_); refine box_event ?hg (N := 1) ?hd (cs := #[.int .i64 a0, .int .i64 a1, .slice A2 l2.length c2, .slice A3 m c3]) (t := 24) ?hr ?_; (case hd => rfl); (case hg => rfl); (case hr => first | (go_simp; done) | (go_simp; rfl)); intro gt hg w1 hbox hb; replace HB := XB (Xz HB.out hb); have BT := XB hbox; clear hb hbox; have HGT := XB (show w.heap.size ≤ gt by omega); clear hg)
  have hct : w1.cell? ⟨gt, 3, none⟩ = some (.slice A3 m c3) := (Xi BT.out 3).trans rfl; refine start_ (n := 14) (S := fun w' => w'.cell? ⟨gt, 3, none⟩ = some (.slice A3 m c3)) (ds := []) (Bq 14 0) (by kernel_rfl) rfl rfl hct (fun hHeld => ?_); refine pure_ (i := 0) (N := some 9) (v := ?_) (a' := ?_) (Bq 14 1) rfl rfl (by kernel_rfl) (fun _ _ _ h => h) (Or.inl ⟨by rfl, ?_⟩) ?_ ?_; rotate_left
  ·intro w'; go_simp; with_reducible rfl
  rotate_left
  ·simp only [Act.put, Xj, Xk, Xl, i64_w, i32_w]; rfl
  refine take_ (i := 1) (N := some 10) (v := ?_) (a' := ?_) (Bq 14 3) rfl rfl (by kernel_rfl) (fun _ _ _ h => h) (Or.inl ⟨by rfl, ?_⟩) hHeld ?_ ?_; rotate_left
  ·rintro w' hS_; obtain s0_ := hS_; go_simp; with_reducible rfl
  rotate_left
  ·simp only [Act.put, Xj, Xk, Xl, i64_w, i32_w]; rfl
  refine pure_ (i := 2) (N := some 11) (v := ?_) (a' := ?_) (Bq 14 7) rfl rfl (by kernel_rfl) (fun _ _ _ h => h) (Or.inl ⟨by rfl, ?_⟩) ?_ ?_; rotate_left
  ·intro w'; go_simp; with_reducible rfl
  rotate_left
  ·simp only [Act.put, Xj, Xk, Xl, i64_w, i32_w]; rfl
  refine pure_ (i := 3) (N := some 12) (v := ?_) (a' := ?_) (Bq 14 15) rfl rfl (by kernel_rfl) (fun _ _ _ h => h) (Or.inl ⟨by rfl, ?_⟩) ?_ ?_; rotate_left
  ·intro w'; go_simp; with_reducible rfl
  rotate_left
  ·simp only [Act.put, Xj, Xk, Xl, i64_w, i32_w]; rfl
  refine pure_ (i := 5) (N := some 14) (v := ?_) (a' := ?_) (Bq 14 47) rfl rfl (by kernel_rfl) (fun _ _ _ h => h) (Or.inl ⟨by rfl, ?_⟩) ?_ ?_; rotate_left
  ·intro w'; go_simp; with_reducible rfl
  rotate_left
  ·simp only [Act.put, Xj, Xk, Xl, i64_w, i32_w]; rfl
  refine take_ (i := 6) (N := some 15) (v := ?_) (a' := ?_) (Bq 14 111) rfl rfl (by kernel_rfl) (fun _ _ _ h => h) (Or.inl ⟨by rfl, ?_⟩) hHeld ?_ ?_; rotate_left
  ·rintro w' hS_; obtain s0_ := hS_; go_simp; with_reducible rfl
  rotate_left
  ·simp only [Act.put, Xj, Xk, Xl, i64_w, i32_w]; rfl
  refine pure_ (i := 7) (N := some 16) (v := ?_) (a' := ?_) (Bq 14 239) rfl rfl (by kernel_rfl) (fun _ _ _ h => h) (Or.inl ⟨by rfl, ?_⟩) ?_ ?_; rotate_left
  ·intro w'; go_simp; with_reducible rfl
  rotate_left
  ·simp only [Act.put, Xj, Xk, Xl, i64_w, i32_w]; rfl
  refine pure_ (i := 8) (N := some 17) (v := ?_) (a' := ?_) (Bq 14 495) rfl rfl (by kernel_rfl) (fun _ _ _ h => h) (Or.inl ⟨by rfl, ?_⟩) ?_ ?_; rotate_left
  ·intro w'; go_simp; with_reducible rfl
  rotate_left
  ·simp only [Act.put, Xj, Xk, Xl, i64_w, i32_w]; rfl
  refine air_firsts.makes (base := w.heap.size) (w0 := w) (u0 := .int .i64 a0) (u1 := .int .i64 a1) (u2 := .slice A2 l2.length c2) (by have := HM.out; have := HME.out; omega) ?hcont 6 false false false false false false 0 0 0 0 _ (by simp) (by simp) ?hfx (by simp)
  case hfx => exact ⟨below_drew HB.out, by exact HB.out.size, BT.out, by simp, by simp, by simp, by simp, by simp, by simp⟩
  intro gA gB gC gD w2 hfx; obtain ⟨N, hN⟩ : ∃ N, N = m + 1 := ⟨_, rfl⟩
  have hmw2 : IntKind.i64.wrap ((m : Int) + 1) = (N : Int) := by rw [hN]; exact hmw
  clear hmw hHeld; unfold air_firsts.Fx at hfx; rw [← hN] at hfx; simp only [cond_true] at hfx; simp only [air_firsts.act, cond_true, ← hN]; have HNM := XB hN; clear hN hct; obtain ⟨x1, x2, x3, x4, x5, x6, x7, x8, x9⟩ := hfx; have HBX := XB x1; have HT := XB x3; have HGA := XB (x4 trivial); have HGB := XB (x5 trivial); have HGC := XB (x6 trivial); have HGD := XB (x7 trivial); have HNE := XB (x8 trivial trivial); have HNC := XB (x9 trivial trivial); clear x1 x2 x3 x4 x5 x6 x7 x8 x9 HB; have HB := HBX; clear HBX BT; go_wp2_with (first
   | ((with_reducible refine gate_dst (N := 6) rfl ?_); refine box_event ?hg (N := 6) ?hd (cs := #[.nilFunc]) (t := 78) ?hr ?_; (case hd => rfl); (case hg => rfl); (case hr => first | (go_simp; done) | (go_simp; rfl)); intro gf hg w3 hbox hb; have HGF := XB (show w.heap.size ≤ gf by have := HB.out.size; omega); have mHT_ := XB (XA HT.out hb); have mHGA_ := XB (show w.heap.size ≤ gA ∧ _ from ⟨HGA.out.1, XA HGA.out.2 hb⟩); have mHGB_ := XB (show w.heap.size ≤ gB ∧ _ from ⟨HGB.out.1, XA HGB.out.2 hb⟩); have mHGC_ := XB (show w.heap.size ≤ gC ∧ _ from ⟨HGC.out.1, XA HGC.out.2 hb⟩); have mHGD_ := XB (show w.heap.size ≤ gD ∧ _ from ⟨HGD.out.1, XA HGD.out.2 hb⟩); have mHB_ := XB (Xz HB.out hb); clear HT HGA HGB HGC HGD HB; have HT := mHT_; have HGA := mHGA_; have HGB := mHGB_; have HGC := mHGC_; have HGD := mHGD_; have HB := mHB_; clear mHT_ mHGA_ mHGB_ mHGC_ mHGD_ mHB_; have HF := XB hbox; clear hb hbox hg; have hct : w3.cell? ⟨gt, 3, none⟩ = some (.slice A3 m c3) := (Xi HT.out 3).trans rfl)
   | ((with_reducible refine gate_dst (N := 23) rfl ?_); refine air_firsts.make_event ?hg (N := 23) ?hd (n := N) (cs := madeCells #[.bool false] N) (t := 4) ?hr ?_; (case hd => rfl); (case hg => rfl); (case hr => exact air_firsts.run_makeb (N := N) (by have := HM.out; have := HME.out; have := HNM.out; omega) rfl rfl _); intro gy hg w4 hbox hb; have HGK := XB (show w.heap.size ≤ gy by have := HB.out.size; omega); have mHT_ := XB (XA HT.out hb); have mHGA_ := XB (show w.heap.size ≤ gA ∧ _ from ⟨HGA.out.1, XA HGA.out.2 hb⟩); have mHGB_ := XB (show w.heap.size ≤ gB ∧ _ from ⟨HGB.out.1, XA HGB.out.2 hb⟩); have mHGC_ := XB (show w.heap.size ≤ gC ∧ _ from ⟨HGC.out.1, XA HGC.out.2 hb⟩); have mHGD_ := XB (show w.heap.size ≤ gD ∧ _ from ⟨HGD.out.1, XA HGD.out.2 hb⟩); have mHF_ := XB (XA HF.out hb); have mHB_ := XB (Xz HB.out hb); clear HT HGA HGB HGC HGD HF HB; have HT := mHT_; have HGA := mHGA_; have HGB := mHGB_; have HGC := mHGC_; have HGD := mHGD_; have HF := mHF_; have HB := mHB_; clear mHT_ mHGA_ mHGB_ mHGC_ mHGD_ mHF_ mHB_; have HK := XB hbox; clear hb hbox hg hct)
   | ((with_reducible refine gate_dst (N := 7) rfl ?_); refine box_event ?hg (N := 7) ?hd (cs := #[.slice none 0 0]) (t := 79) ?hr ?_; (case hd => rfl); (case hg => rfl); (case hr => first | (go_simp; done) | (go_simp; rfl)); intro gq hg w5 hbox hb; have HGQ := XB (show w.heap.size ≤ gq by have := HB.out.size; omega); have mHT_ := XB (XA HT.out hb); have mHGA_ := XB (show w.heap.size ≤ gA ∧ _ from ⟨HGA.out.1, XA HGA.out.2 hb⟩); have mHGB_ := XB (show w.heap.size ≤ gB ∧ _ from ⟨HGB.out.1, XA HGB.out.2 hb⟩); have mHGC_ := XB (show w.heap.size ≤ gC ∧ _ from ⟨HGC.out.1, XA HGC.out.2 hb⟩); have mHGD_ := XB (show w.heap.size ≤ gD ∧ _ from ⟨HGD.out.1, XA HGD.out.2 hb⟩); have mHF_ := XB (XA HF.out hb); have mHK_ := XB (XA HK.out hb); have mHB_ := XB (Xz HB.out hb); clear HT HGA HGB HGC HGD HF HK HB; have HT := mHT_; have HGA := mHGA_; have HGB := mHGB_; have HGC := mHGC_; have HGD := mHGD_; have HF := mHF_; have HK := mHK_; have HB := mHB_; clear mHT_ mHGA_ mHGB_ mHGC_ mHGD_ mHF_ mHK_ mHB_; have HQ := XB hbox; clear hb hbox hg; have HST := XB (air_firsts.St.start (a0 := a0) (a1 := a1) (A2 := A2) (c2 := c2) (l2 := l2) HME.out HQ.out HGC.out.2 HT.out HF.out HGD.out.2 HK.out HGA.out.2 HGB.out.2); have e1_ : w5.cell? ⟨gq, 0, none⟩ = some (.slice none 0 0) := (Xi HQ.out 0).trans rfl; have e2_ := Xh HQ.out 0; have hf_ := blk_far HF.out (p := ⟨gq, 0, none⟩) (blk_ne HF.out HQ.out (by decide)) (.slice (some ⟨gy, 0, none⟩) N N); have e3_ : (World.setCell w5 ⟨gq, 0, none⟩ (.slice (some ⟨gy, 0, none⟩) N N)).cell? ⟨gf, 0, none⟩ = some .nilFunc := (Xi hf_ 0).trans rfl; have e4_ := Xh hf_ 0; clear hf_; have e5_ : (World.setCell (World.setCell w5 ⟨gq, 0, none⟩ (.slice (some ⟨gy, 0, none⟩) N N)) ⟨gf, 0, none⟩ (.func (.func 85) #[] #[.pointer (some ⟨gq, 0, none⟩), .pointer (some ⟨gC, 0, none⟩), .pointer (some ⟨gt, 0, none⟩), .pointer (some ⟨gf, 0, none⟩), .pointer (some ⟨gD, 0, none⟩)])).cell? ⟨gC, 0, none⟩ = some (.slice (some ⟨gA, 0, none⟩) N N) := HST.out.cells.2.1))
  clear e1_ e2_ e3_ e4_ e5_ hmw2 HT HGC HGD HF HK HQ; have HB2 := XB (air_firsts.below_set' (v := (.func (.func 85) #[] #[.pointer (some ⟨gq, 0, none⟩), .pointer (some ⟨gC, 0, none⟩), .pointer (some ⟨gt, 0, none⟩), .pointer (some ⟨gf, 0, none⟩), .pointer (some ⟨gD, 0, none⟩)])) (j := 0) (air_firsts.below_set' (v := (.slice (some ⟨gy, 0, none⟩) N N)) (j := 0) HB.out HGQ.out) HGF.out); go_loopg [27] N (fun kq v27 w' => ∃ (n : Nat) (cs bs : List Int), v27 = .int .i64 (n : Int) ∧ Aside0 (n + kq = N) ∧ Aside0 (air_firsts.go k a0 a1 l2 l3 n = some (cs, bs)) ∧ Aside0 (air_firsts.St gq gC gt gf gD gy gA gB a0 a1 A2 c2 l2 A3 c3 l3 N cs bs (air_firsts.kn N n) w') ∧ Aside0 (Below w.heap.size w w'))
  case atStart => exact ⟨0, List.replicate N 0, List.replicate N 0, rfl, ⟨by omega⟩, ⟨by have e_ := HNM.out; rw [HME.out] at e_; rw [e_]; rfl⟩, HST, HB2⟩
  case round =>
   clear HB HB2 HST; obtain ⟨n, cs, bs, rfl, HK, HGO, HS, HB⟩ := hrel; have hN1 : N = l3.length + 1 := by rw [HNM.out, HME.out]
   have HLC := XB (show cs.length = N by rw [hN1]; exact (air_firsts.go_len HGO.out).1); have HLB := XB (show bs.length = N by rw [hN1]; exact (air_firsts.go_len HGO.out).2); have HN1 := XB hN1; have HNB := XB (show N ≤ 1001 by have := HM.out; omega); clear hN1; by_cases c : (n : Int) < (N : Int)
   ·have c3b0 : decide (n < N) = true := decide_eq_true (by omega); have HI := XB (show n < N by omega); clear c; have ei : IntKind.i64.wrap ((n : Int) + 1) = ((n + 1 : Nat) : Int) := by have := HI.out; have := HNB.out; simp only [i64_w]; unfold wrap64; omega
    obtain ⟨k1, rfl⟩ : ∃ k1, gk = k1 + 1 := ⟨gk - 1, by have := HK.out; have := HI.out; omega⟩
    obtain ⟨z1, z2, z3, z4, z5, z6, z7, z8⟩ := HS.out.cells; clear z1 z2 z3 z5 z6 z7 z8; by_cases e0 : n = 0
    ·have E0 := XB e0; clear e0; go_wp2_with ((with_reducible refine Go.Proofs.YtboefcikdfjfmaaW.PrintHand.gate_calleeT (t := 30) rfl ?_); refine air_all.goesC_ (t := 30) (some 32) rfl rfl Try.func85 (by kernel_rfl) rfl #[] #[.pointer (some ⟨gq, 0, none⟩), .pointer (some ⟨gC, 0, none⟩), .pointer (some ⟨gt, 0, none⟩), .pointer (some ⟨gf, 0, none⟩), .pointer (some ⟨gD, 0, none⟩)] #[.int .i64 (n : Int), .pointer (some ⟨gq, 0, none⟩), .pointer (some ⟨gC, 0, none⟩), .pointer (some ⟨gt, 0, none⟩), .pointer (some ⟨gf, 0, none⟩), .pointer (some ⟨gD, 0, none⟩)] rfl rfl (by (try simp only [Xm, Xn, Xo]); first | done | rfl) ?_; (refine (air_firsts.found _ HS.out HLC.out (by simp [air_firsts.kn]) n HI.out (.inl E0.out)).mono ?_); rintro e w6 ⟨rfl, ⟨nd, rfl⟩⟩; refine ⟨_, rfl, ?_⟩)
     go_roundg k1
     case measure => omega
     case rel => exact ⟨n + 1, cs, bs, YG, ⟨by have := HK.out; omega⟩, ⟨by have e_ := E0.out; have h_ := HGO.out; subst e_; simp only [air_firsts.go] at h_ ⊢; rw [h_]; rfl⟩, ⟨by have e_ := E0.out; have h_ := HS.out; subst e_; rw [← air_firsts.kn_one] at h_; exact h_⟩, ⟨Xa HB.out _⟩⟩
    ·obtain ⟨q, hq⟩ := air_firsts.go_le (show n + 1 ≤ l3.length + 1 by have := HI.out; have := HN1.out; omega) HG.out; have hq2 := hq; simp only [air_firsts.go] at hq2; rw [HGO.out, Option.bind_some, if_neg e0] at hq2; obtain ⟨⟨t1, t2⟩, hrow, hq3⟩ := Option.bind_eq_some_iff.1 hq2; injection hq3 with hq3; have HROW := XB hrow; have HQ1 := XB (hq.trans (congrArg some hq3.symm)); have E0 := XB (show 1 ≤ n by omega); clear hq hq2 hq3 hrow e0; go_wp2_with ((with_reducible refine Go.Proofs.YtboefcikdfjfmaaW.PrintHand.gate_calleeT (t := 30) rfl ?_); refine air_all.goesC_ (t := 30) (some 32) rfl rfl Try.func85 (by kernel_rfl) rfl #[] #[.pointer (some ⟨gq, 0, none⟩), .pointer (some ⟨gC, 0, none⟩), .pointer (some ⟨gt, 0, none⟩), .pointer (some ⟨gf, 0, none⟩), .pointer (some ⟨gD, 0, none⟩)] #[.int .i64 (n : Int), .pointer (some ⟨gq, 0, none⟩), .pointer (some ⟨gC, 0, none⟩), .pointer (some ⟨gt, 0, none⟩), .pointer (some ⟨gf, 0, none⟩), .pointer (some ⟨gD, 0, none⟩)] rfl rfl (by (try simp only [Xm, Xn, Xo]); first | done | rfl) ?_; (refine (air_firsts.finds k w _ HS.out HNE.out HLC.out HLB.out (by simp [air_firsts.kn]) n HI.out HNB.out E0.out (fun j h1 h2 => by rw [air_firsts.kn_get (by have := HI.out; omega)]; simp [h1, h2]) (by rw [air_firsts.kn_get HI.out]; simp) HB.out HR2.out HC2.out HR3.out HC3.out HGA.out.1 HGB.out.1 HGK.out t1 t2 HROW.out).mono ?_); rintro e w6 ⟨rfl, hs_, hb_⟩; refine ⟨_, rfl, ?_⟩; have HS2 := XB hs_; have HB2 := XB hb_; clear hs_ hb_)
     go_roundg k1
     case measure => omega
     case rel => exact ⟨n + 1, cs.set n t1, bs.set n t2, YG, ⟨by have := HK.out; omega⟩, HQ1, ⟨by have h_ := HS2.out; rw [air_firsts.kn_set E0.out] at h_; exact h_⟩, HB2⟩
   ·have c3b0 : decide (n < N) = false := decide_eq_false (by omega); have HI := XB c; clear c; have HEND := XB (show cs = r1 ∧ bs = r2 by
     have e_ : n = l3.length + 1 := by have := HI.out; have := HK.out; have := HN1.out; omega
     have h_ := HGO.out
     rw [e_, HG.out] at h_
     injection h_ with h_
     injection h_ with h1_ h2_
     exact ⟨h1_.symm, h2_.symm⟩)
    obtain ⟨z1, z2, z3, z4, z5, z6, z7, z8⟩ := HS.out.cells; clear z1 z4 z5 z6 z7 z8; go_wp2
    refine start_ (n := 4) (S := fun w' => w'.cell? ⟨gC, 0, none⟩ = some (.slice (some ⟨gA, 0, none⟩) N N) ∧ w'.cell? ⟨gD, 0, none⟩ = some (.slice (some ⟨gB, 0, none⟩) N N)) (ds := []) (Bq 4 0) (by kernel_rfl) rfl rfl ⟨z2, z3⟩ (fun hHeld => ?_); refine take_ (i := 0) (N := some 34) (v := ?_) (a' := ?_) (Bq 4 1) rfl rfl (by kernel_rfl) (fun _ _ _ h => h) (Or.inl ⟨by rfl, ?_⟩) hHeld ?_ ?_; rotate_left
    ·rintro w' hS_; obtain ⟨s0_, s1_⟩ := hS_; go_simp; with_reducible rfl
    rotate_left
    ·simp only [Act.put, Xj, Xk, Xl, i64_w, i32_w]; rfl
    refine take_ (i := 1) (N := some 35) (v := ?_) (a' := ?_) (Bq 4 3) rfl rfl (by kernel_rfl) (fun _ _ _ h => h) (Or.inl ⟨by rfl, ?_⟩) hHeld ?_ ?_; rotate_left
    ·rintro w' hS_; obtain ⟨s0_, s1_⟩ := hS_; go_simp; with_reducible rfl
    rotate_left
    ·simp only [Act.put, Xj, Xk, Xl, i64_w, i32_w]; rfl
    refine pure_ (i := 2) (N := some 2) (v := ?_) (a' := ?_) (Bq 4 7) rfl rfl (by kernel_rfl) (fun _ _ _ h => h) (Or.inl ⟨by rfl, ?_⟩) ?_ ?_; rotate_left
    ·intro w'; go_simp; with_reducible rfl
    rotate_left
    ·simp only [Act.put, Xj, Xk, Xl, i64_w, i32_w]; rfl
    refine pure_ (i := 3) (N := some 3) (v := ?_) (a' := ?_) (Bq 4 15) rfl rfl (by kernel_rfl) (fun _ _ _ h => h) (Or.inl ⟨by rfl, ?_⟩) ?_ ?_; rotate_left
    ·intro w'; go_simp; with_reducible rfl
    rotate_left
    ·simp only [Act.put, Xj, Xk, Xl, i64_w, i32_w]; rfl
    refine done_ (by kernel_rfl) ?_; try go_wp2
    go_ret2
    obtain ⟨rfl, rfl⟩ := HEND.out; have o1_ := air_firsts.R_of (ok := fun k_ => some k_ ≠ (Value.slice (some ⟨gB, 0, none⟩) N N).ownBlock) HGA.out.1 HS.out.2.2.2.2.2.2.1 (by have := HLC.out; have := HNB.out; omega) (by intro e_; injection e_ with e_; exact HNE.out e_); have o2_ := air_firsts.R_of (ok := fun k_ => some k_ ≠ (Value.slice (some ⟨gA, 0, none⟩) N N).ownBlock) HGB.out.1 HS.out.2.2.2.2.2.2.2 (by have := HLB.out; have := HNB.out; omega) (by intro e_; injection e_ with e_; exact HNE.out e_.symm); rw [HLC.out] at o1_; rw [HLB.out] at o2_; exact ⟨_, _, rfl, o1_, o2_, below_drew HB.out⟩
 ·rw [if_neg hm] at h; exact absurd h (by simp)


/-! ### air_Least: function 22 -/
def air_Least.f (k : Nat) (a0_0 : Int) (a0_1 : Int) (l0_2 : List Int) (l0_3 : List Int) : Option (Int × Int) := (air_Validate.f a0_0 a0_1 l0_2 l0_3).bind fun t102 => (if t102 = 0 then ((air_firsts.f k a0_0 a0_1 l0_2 l0_3).bind fun bt103 => (if 0 ≤ (wrap64 ((bt103.1.length : Int) - 1)) then (if (wrap64 ((bt103.1.length : Int) - 1)) < (bt103.1.length : Int) then (some (rd bt103.1 (wrap64 ((bt103.1.length : Int) - 1)), 0)) else (none)) else (none))) else (some (0, t102)))
theorem air_Least.mono : ∀ a0 a1 a2 a3 k, LeO (air_Least.f k a0 a1 a2 a3) (air_Least.f (k + 1) a0 a1 a2 a3) := by
 intro a0 a1 a2 a3 k; unfold air_Least.f; repeat' first
   | (with_reducible exact air_firsts.mono _ _ _ _ _)
   | (with_reducible exact LeO.refl _)
   | (with_reducible exact LeO.none _)
   | (with_reducible refine LeO.ite ?_ ?_)
   | (with_reducible refine LeO.bind ?_ (fun _ => ?_))
   | exact air_firsts.mono _ _ _ _ _
   | exact LeO.none _
   | refine LeO.ite ?_ ?_
   | refine LeO.bind ?_ (fun _ => ?_)
set_option maxHeartbeats 8000000 in
set_option maxRecDepth 100000 in
theorem air_Least.calls (k : Nat) (a0_0 : Int) (a0_1 : Int) (A0_2 : Option Addr) (c0_2 : Nat) (l0_2 : List Int) (A0_3 : Option Addr) (c0_3 : Nat) (l0_3 : List Int) (r1 : Int) (r2 : Int) (w : World) (hr0_2 : Kd.C (Kd.int .i64) w A0_2 l0_2.length l0_2) (hc0_2 : l0_2.length ≤ c0_2) (hr0_3 : Kd.C (Kd.int .i64) w A0_3 l0_3.length l0_3) (hc0_3 : l0_3.length ≤ c0_3) (h : air_Least.f k a0_0 a0_1 l0_2 l0_3 = some (r1, r2)) :
  Calls Try.prog 22 #[.agg #[.int .i64 a0_0, .int .i64 a0_1, .slice A0_2 l0_2.length c0_2, .slice A0_3 l0_3.length c0_3]] w fun e w' => e = .returned (.tuple #[.int .i64 r1, .int .i64 r2]) ∧ Below w.heap.size w w' := by
 have hu24 := Try.underlying24; have HR0_2 := XB hr0_2; have HC0_2 := XB hc0_2; clear hr0_2 hc0_2; have HR0_3 := XB hr0_3; have HC0_3 := XB hc0_3; clear hr0_3 hc0_3; have HB := XB (Below.refl w.heap.size w); have H : ((air_Validate.f a0_0 a0_1 l0_2 l0_3).bind fun t102 => (if t102 = 0 then ((air_firsts.f k a0_0 a0_1 l0_2 l0_3).bind fun bt103 => (if 0 ≤ (wrap64 ((bt103.1.length : Int) - 1)) then (if (wrap64 ((bt103.1.length : Int) - 1)) < (bt103.1.length : Int) then (some (rd bt103.1 (wrap64 ((bt103.1.length : Int) - 1)), 0)) else (none)) else (none))) else (some (0, t102)))) = some (r1, r2) := h; clear h; obtain ⟨t102, A2, H⟩ := YJ H; by_cases c3 : t102 = 0
 ·rw [if_pos c3] at H; have c3b0 := beq_iff_eq.mpr c3; have c3b1 := bne_eq_false_iff_eq.mpr c3; clear c3; replace H := Option.bind_eq_some_iff.mp H; obtain ⟨⟨t103, t106⟩, A40, H⟩ := H; replace H : (if 0 ≤ (wrap64 ((t103.length : Int) - 1)) then (if (wrap64 ((t103.length : Int) - 1)) < (t103.length : Int) then (some (rd t103 (wrap64 ((t103.length : Int) - 1)), 0)) else (none)) else (none)) = some (r1, r2) := H; have A4 := XB A40; clear A40; obtain ⟨ji5, hji5⟩ : ∃ j_ : Int, (wrap64 ((t103.length : Int) - 1)) = j_ := ⟨_, rfl⟩
  replace H : (if 0 ≤ (ji5) then (if (ji5) < (t103.length : Int) then (some (rd t103 (ji5), 0)) else (none)) else (none)) = some (r1, r2) := by first | (rw [hji5] at H; exact H) | (simp only [hji5] at H ⊢; exact H)
  (try rw [hji5] at A2)
  (try rw [hji5] at A4)
  have hji5w : (IntKind.i64.wrap ((t103.length : Int) - 1)) = ji5 := (i64_w _).trans hji5; by_cases c6 : 0 ≤ (ji5)
  ·rw [if_pos c6] at H; have c6b0 := decide_eq_true c6; clear c6; by_cases c7 : (ji5) < (t103.length : Int)
   ·rw [if_pos c7] at H; have c7b0 := decide_eq_true c7; clear c7; simp only [Option.some.injEq, Prod.mk.injEq] at H; obtain ⟨rfl, rfl⟩ := H; go_enter Try.func22, Try.ntmps22
    go_wp2_with (first | ((with_reducible refine gate_dst (N := 1) rfl ?_); refine box_event ?hg (N := 1) ?hd (cs := #[.int .i64 a0_0, .int .i64 a0_1, .slice A0_2 l0_2.length c0_2, .slice A0_3 l0_3.length c0_3]) (t := 24) ?hr ?_; (case hd => rfl); (case hg => rfl); (case hr => first | (go_simp; done) | (go_simp; rfl)); intro gb101 hg w8 hbox hb; have n0_ := XB (Xz (by repeat (first | (with_reducible first | exact HB.out | apply Xc | apply Xa | apply Xb) | exact HB.out)) hb); have n1_ := XB (hbox); have n2_ := XB ((by rw [hg]; exact (XC (by repeat (first | (with_reducible first | exact HB.out | apply Xc | apply Xa | apply Xb) | exact HB.out))) : w.heap.size ≤ gb101)); have n3_ := XB ((by rw [hg]; exact (XC (by repeat (first | (with_reducible first | exact HB.out | apply Xc | apply Xa | apply Xb) | exact HB.out))) : w.heap.size ≤ gb101)); clear HB; have HB := n0_; have J101 := n1_; have GW101 := n2_; have E101 := n3_; clear n0_ n1_ n2_ n3_; clear hb hbox hg; obtain ⟨hcz9_0, hcz9_1, hcz9_2, hcz9_3, hfz9_0, hfz9_1, hfz9_2, hfz9_3⟩ := YK4 J101) | ((with_reducible refine gate_callee (f := 42) rfl ?_); refine YL (some 8) rfl rfl Try.func42 rfl #[.agg #[.int .i64 a0_0, .int .i64 a0_1, .slice A0_2 l0_2.length c0_2, .slice A0_3 l0_3.length c0_3]] rfl ?_; (with_reducible refine (air_Validate.calls a0_0 a0_1 _ _ l0_2 _ _ l0_3 t102 _ ?side1 ?side2 ?side3 ?side4 A2.out).mono ?_); (case side1 => exact YE HR0_2 HB); (case side2 => exact HC0_2.out); (case side3 => exact YE HR0_3 HB); (case side4 => exact HC0_3.out); rintro e w10 ⟨rfl, hb⟩; refine ⟨_, rfl, ?_⟩; replace J101 := XB (XA (g := gb101) (o := .cells #[.int .i64 a0_0, .int .i64 a0_1, .slice A0_2 l0_2.length c0_2, .slice A0_3 l0_3.length c0_3] 24 (0, 0)) (by (with_reducible repeat (first | refine Xf ?_ _ | refine Xg ?_ | refine Xe ?_ _)); exact J101.out) hb); replace HB := XB (Xz (by repeat (first | (with_reducible first | exact HB.out | apply Xc | apply Xa | apply Xb | refine Xd ?_ E101.out) | exact HB.out)) hb); (try clear hb); obtain ⟨hcz11_0, hcz11_1, hcz11_2, hcz11_3, hfz11_0, hfz11_1, hfz11_2, hfz11_3⟩ := YK4 J101) | ((with_reducible refine gate_callee (f := 56) rfl ?_); refine YL (some 14) rfl rfl Try.func56 rfl #[.agg #[.int .i64 a0_0, .int .i64 a0_1, .slice A0_2 l0_2.length c0_2, .slice A0_3 l0_3.length c0_3]] rfl ?_; (with_reducible refine (air_firsts.calls k a0_0 a0_1 _ _ l0_2 _ _ l0_3 t103 t106 _ ?side1 ?side2 ?side3 ?side4 A4.out).mono ?_); (case side1 => exact YE HR0_2 HB); (case side2 => exact HC0_2.out); (case side3 => exact YE HR0_3 HB); (case side4 => exact HC0_3.out); rintro e w12 ⟨v104, v107, rfl, ho0, ho1, hb⟩; refine ⟨_, rfl, ?_⟩; have HO105 := XB (Kd.R_lower ho0 (XC (by repeat (first | (with_reducible first | exact HB.out | apply Xc | apply Xa | apply Xb | refine Xd ?_ E101.out) | exact HB.out)))); have HO108 := XB (Kd.R_lower ho1 (XC (by repeat (first | (with_reducible first | exact HB.out | apply Xc | apply Xa | apply Xb | refine Xd ?_ E101.out) | exact HB.out)))); replace J101 := XB (XA (g := gb101) (o := .cells #[.int .i64 a0_0, .int .i64 a0_1, .slice A0_2 l0_2.length c0_2, .slice A0_3 l0_3.length c0_3] 24 (0, 0)) (by (with_reducible repeat (first | refine Xf ?_ _ | refine Xg ?_ | refine Xe ?_ _)); exact J101.out) hb); replace HB := XB (Xz (by repeat (first | (with_reducible first | exact HB.out | apply Xc | apply Xa | apply Xb | refine Xd ?_ E101.out) | exact HB.out)) hb); (try clear hb); (try clear ho0); (try clear ho1); obtain ⟨Ao13, co13, eo13⟩ := Kd.R_slice HO105.out; subst eo13; have p109 : 0 ≤ ((ji5) : Int) := YD; have q109 : (ji5) < (t103.length : Int) := YD; obtain ⟨ad109, e109, hx109_0⟩ := Kd.at_int (XD HO105.out).2.2 (ji5) p109 q109; cases e109; replace p109 := eq_true p109; replace q109 := eq_true q109))
    go_ret2
    exact ⟨by first | rfl | (simp [errW_none, errW_some] <;> rfl) | (simp only [← hji5]; first | rfl | (simp [errW_none, errW_some] <;> rfl)) | (simp [*, errW_none, errW_some] <;> rfl), XL HB⟩
   ·rw [if_neg c7] at H; exact absurd H (by simp)
  ·rw [if_neg c6] at H; exact absurd H (by simp)
 ·rw [if_neg c3] at H; have c3b0 := beq_eq_false_iff_ne.mpr c3; have c3b1 := bne_iff_ne.mpr c3; simp only [Option.some.injEq, Prod.mk.injEq] at H; obtain ⟨rfl, rfl⟩ := H; go_enter Try.func22, Try.ntmps22
  go_wp2_with (first | ((with_reducible refine gate_dst (N := 1) rfl ?_); refine box_event ?hg (N := 1) ?hd (cs := #[.int .i64 a0_0, .int .i64 a0_1, .slice A0_2 l0_2.length c0_2, .slice A0_3 l0_3.length c0_3]) (t := 24) ?hr ?_; (case hd => rfl); (case hg => rfl); (case hr => first | (go_simp; done) | (go_simp; rfl)); intro gb101 hg w14 hbox hb; have n0_ := XB (Xz (by repeat (first | (with_reducible first | exact HB.out | apply Xc | apply Xa | apply Xb) | exact HB.out)) hb); have n1_ := XB (hbox); have n2_ := XB ((by rw [hg]; exact (XC (by repeat (first | (with_reducible first | exact HB.out | apply Xc | apply Xa | apply Xb) | exact HB.out))) : w.heap.size ≤ gb101)); have n3_ := XB ((by rw [hg]; exact (XC (by repeat (first | (with_reducible first | exact HB.out | apply Xc | apply Xa | apply Xb) | exact HB.out))) : w.heap.size ≤ gb101)); clear HB; have HB := n0_; have J101 := n1_; have GW101 := n2_; have E101 := n3_; clear n0_ n1_ n2_ n3_; clear hb hbox hg; obtain ⟨hcz15_0, hcz15_1, hcz15_2, hcz15_3, hfz15_0, hfz15_1, hfz15_2, hfz15_3⟩ := YK4 J101) | ((with_reducible refine gate_callee (f := 42) rfl ?_); refine YL (some 8) rfl rfl Try.func42 rfl #[.agg #[.int .i64 a0_0, .int .i64 a0_1, .slice A0_2 l0_2.length c0_2, .slice A0_3 l0_3.length c0_3]] rfl ?_; (with_reducible refine (air_Validate.calls a0_0 a0_1 _ _ l0_2 _ _ l0_3 t102 _ ?side1 ?side2 ?side3 ?side4 A2.out).mono ?_); (case side1 => exact YE HR0_2 HB); (case side2 => exact HC0_2.out); (case side3 => exact YE HR0_3 HB); (case side4 => exact HC0_3.out); rintro e w16 ⟨rfl, hb⟩; refine ⟨_, rfl, ?_⟩; replace J101 := XB (XA (g := gb101) (o := .cells #[.int .i64 a0_0, .int .i64 a0_1, .slice A0_2 l0_2.length c0_2, .slice A0_3 l0_3.length c0_3] 24 (0, 0)) (by (with_reducible repeat (first | refine Xf ?_ _ | refine Xg ?_ | refine Xe ?_ _)); exact J101.out) hb); replace HB := XB (Xz (by repeat (first | (with_reducible first | exact HB.out | apply Xc | apply Xa | apply Xb | refine Xd ?_ E101.out) | exact HB.out)) hb); (try clear hb)))
  go_ret2
  exact ⟨YF, XL HB⟩

end Go.Proofs.Ytboefcikdfjfmaa.P
