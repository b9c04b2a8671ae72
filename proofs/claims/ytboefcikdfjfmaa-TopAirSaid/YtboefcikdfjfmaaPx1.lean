-- laid by a program of this session (wip/tools): plain functions of the Go code and their contracts
-- thinned4
-- thinned
import Derived.Test.YtboefcikdfjfmaaPx0
namespace Go.Proofs.Ytboefcikdfjfmaa.P
open Go.RowKit Go.Proofs.YtboefcikdfjfmaaW.PrintWords Go.Proofs.YtboefcikdfjfmaaW.PrintLast Go.Proofs.YtboefcikdfjfmaaW.PrintMore
attribute [local go_sem] max2_int min2_int max_two min_two max_three min_three max_four min_four   -- for this text's walks alone
set_option linter.unusedVariables false
set_option linter.unusedSimpArgs false

/-! ### diaphonelaw03_large: function 27 -/
def diaphonelaw03_large.f (l0 : List Int) : Option (Bool) := some (decide ((l0.length : Int) > 100))
set_option maxHeartbeats 8000000 in
set_option maxRecDepth 100000 in
theorem diaphonelaw03_large.calls (A0 : Option Addr) (c0 : Nat) (l0 : List Int) (r : Bool) (w : World) (hr0 : Kd.C (Kd.int .i64) w A0 l0.length l0) (hc0 : l0.length ≤ c0) (h : diaphonelaw03_large.f l0 = some r) :
  Calls Try.prog 27 #[.slice A0 l0.length c0] w fun e w' => e = .returned (.bool r) ∧ Drawn0 w w' := by
 have HR0 := XB hr0; have HC0 := XB hc0; clear hr0 hc0; have H : (some (decide ((l0.length : Int) > 100))) = some r := h; clear h; obtain rfl := Option.some.inj H; go_enter Try.func27, Try.ntmps27
 go_wp2
 go_ret
 exact ⟨by first | rfl | (simp; done) | (simp [*]; done), by repeat (first | exact Drawn0.refl _ | apply Drawn0.step)⟩

/-! ### diaphonelaw03_Long: function 17 -/
def diaphonelaw03_Long.f (a0_0 : Int) (a0_1 : Int) (l0_2 : List Int) (l0_3 : List Int) : Option (Bool) := (diaphonelaw03_large.f l0_2).bind fun t102 => (if t102 = true then (some true) else ((diaphonelaw03_large.f l0_3).bind fun t103 => (some t103)))
set_option maxHeartbeats 8000000 in
set_option maxRecDepth 100000 in
theorem diaphonelaw03_Long.calls (a0_0 : Int) (a0_1 : Int) (A0_2 : Option Addr) (c0_2 : Nat) (l0_2 : List Int) (A0_3 : Option Addr) (c0_3 : Nat) (l0_3 : List Int) (r : Bool) (w : World) (hr0_2 : Kd.C (Kd.int .i64) w A0_2 l0_2.length l0_2) (hc0_2 : l0_2.length ≤ c0_2) (hr0_3 : Kd.C (Kd.int .i64) w A0_3 l0_3.length l0_3) (hc0_3 : l0_3.length ≤ c0_3) (h : diaphonelaw03_Long.f a0_0 a0_1 l0_2 l0_3 = some r) :
  Calls Try.prog 17 #[.agg #[.int .i64 a0_0, .int .i64 a0_1, .slice A0_2 l0_2.length c0_2, .slice A0_3 l0_3.length c0_3]] w fun e w' => e = .returned (.bool r) ∧ Below w.heap.size w w' := by
 have hu24 := Try.underlying24; have HR0_2 := XB hr0_2; have HC0_2 := XB hc0_2; clear hr0_2 hc0_2; have HR0_3 := XB hr0_3; have HC0_3 := XB hc0_3; clear hr0_3 hc0_3; have HB := XB (Below.refl w.heap.size w); have H : ((diaphonelaw03_large.f l0_2).bind fun t102 => (if t102 = true then (some true) else ((diaphonelaw03_large.f l0_3).bind fun t103 => (some t103)))) = some r := h; clear h; obtain ⟨t102, A2, H⟩ := YJ H; by_cases c3 : t102 = true
 ·subst c3; have H1 : (some true) = some r := by rw [if_pos rfl] at H; exact H
  clear H; have H := H1; clear H1; obtain rfl := Option.some.inj H; go_enter Try.func17, Try.ntmps17
  go_wp2_with (first | ((with_reducible refine gate_dst (N := 1) rfl ?_); refine box_event ?hg (N := 1) ?hd (cs := #[.int .i64 a0_0, .int .i64 a0_1, .slice A0_2 l0_2.length c0_2, .slice A0_3 l0_3.length c0_3]) (t := 24) ?hr ?_; (case hd => rfl); (case hg => rfl); (case hr => first | (go_simp; done) | (go_simp; rfl)); intro gb101 hg w4 hbox hb; have n0_ := XB (Xz (by repeat (first | (with_reducible first | exact HB.out | apply Xc | apply Xa | apply Xb) | exact HB.out)) hb); have n1_ := XB (hbox); have n2_ := XB ((by rw [hg]; exact (XC (by repeat (first | (with_reducible first | exact HB.out | apply Xc | apply Xa | apply Xb) | exact HB.out))) : w.heap.size ≤ gb101)); have n3_ := XB ((by rw [hg]; exact (XC (by repeat (first | (with_reducible first | exact HB.out | apply Xc | apply Xa | apply Xb) | exact HB.out))) : w.heap.size ≤ gb101)); clear HB; have HB := n0_; have J101 := n1_; have GW101 := n2_; have E101 := n3_; clear n0_ n1_ n2_ n3_; clear hb hbox hg; obtain ⟨hcz5_0, hcz5_1, hcz5_2, hcz5_3, hfz5_0, hfz5_1, hfz5_2, hfz5_3⟩ := YK4 J101) | ((with_reducible refine gate_callee (f := 27) rfl ?_); refine YL (some 5) rfl rfl Try.func27 rfl #[.slice A0_2 l0_2.length c0_2] rfl ?_; (with_reducible refine (diaphonelaw03_large.calls _ _ l0_2 true _ ?side1 ?side2 A2.out).mono ?_); (case side1 => exact YE HR0_2 HB); (case side2 => exact HC0_2.out); rintro e w' ⟨rfl, ⟨nd, rfl⟩⟩; refine ⟨_, rfl, ?_⟩))
  go_ret
  exact ⟨YF, XL HB⟩
 ·replace c3 := Bool.eq_false_iff.mpr c3; subst c3; have H1 : ((diaphonelaw03_large.f l0_3).bind fun t103 => (some t103)) = some r := by rw [if_neg (show ¬ (false = true) by decide)] at H; exact H
  clear H; have H := H1; clear H1; obtain ⟨t103, A6, H⟩ := YJ H; obtain rfl := Option.some.inj H; go_enter Try.func17, Try.ntmps17
  go_wp2_with (first | ((with_reducible refine gate_dst (N := 1) rfl ?_); refine box_event ?hg (N := 1) ?hd (cs := #[.int .i64 a0_0, .int .i64 a0_1, .slice A0_2 l0_2.length c0_2, .slice A0_3 l0_3.length c0_3]) (t := 24) ?hr ?_; (case hd => rfl); (case hg => rfl); (case hr => first | (go_simp; done) | (go_simp; rfl)); intro gb101 hg w7 hbox hb; have n0_ := XB (Xz (by repeat (first | (with_reducible first | exact HB.out | apply Xc | apply Xa | apply Xb) | exact HB.out)) hb); have n1_ := XB (hbox); have n2_ := XB ((by rw [hg]; exact (XC (by repeat (first | (with_reducible first | exact HB.out | apply Xc | apply Xa | apply Xb) | exact HB.out))) : w.heap.size ≤ gb101)); have n3_ := XB ((by rw [hg]; exact (XC (by repeat (first | (with_reducible first | exact HB.out | apply Xc | apply Xa | apply Xb) | exact HB.out))) : w.heap.size ≤ gb101)); clear HB; have HB := n0_; have J101 := n1_; have GW101 := n2_; have E101 := n3_; clear n0_ n1_ n2_ n3_; clear hb hbox hg; obtain ⟨hcz8_0, hcz8_1, hcz8_2, hcz8_3, hfz8_0, hfz8_1, hfz8_2, hfz8_3⟩ := YK4 J101) | ((with_reducible refine gate_callee (f := 27) rfl ?_); refine YL (some 5) rfl rfl Try.func27 rfl #[.slice A0_2 l0_2.length c0_2] rfl ?_; (with_reducible refine (diaphonelaw03_large.calls _ _ l0_2 false _ ?side1 ?side2 A2.out).mono ?_); (case side1 => exact YE HR0_2 HB); (case side2 => exact HC0_2.out); rintro e w' ⟨rfl, ⟨nd, rfl⟩⟩; refine ⟨_, rfl, ?_⟩) | (go_at_call 27; (with_reducible refine (diaphonelaw03_large.calls _ _ l0_3 t103 _ ?side1 ?side2 A6.out).mono ?_); (case side1 => repeat (first | exact (Xu HR0_3.out (by repeat (first | (with_reducible first | exact HB.out | apply Xc | apply Xa | apply Xb | refine Xd ?_ E101.out) | exact HB.out))) | (with_reducible refine Xr ?_ _) | (with_reducible refine Xs ?_ _) | (with_reducible refine Xt ?_))); (case side2 => exact HC0_3.out); rintro e w' ⟨rfl, ⟨nd, rfl⟩⟩))
  go_ret
  exact ⟨YF, XL HB⟩

/-! ### air_within: function 72 -/
def air_within.f (a0 : Int) (a1 : Int) (a2 : Int) : Option (Bool) := if a0 ≥ a1 then (some (decide (a0 ≤ a2))) else (some false)
set_option maxHeartbeats 8000000 in
set_option maxRecDepth 100000 in
theorem air_within.calls (a0 : Int) (a1 : Int) (a2 : Int) (r : Bool) (w : World) (h : air_within.f a0 a1 a2 = some r) :
  Calls Try.prog 72 #[.int .i64 a0, .int .i64 a1, .int .i64 a2] w fun e w' => e = .returned (.bool r) ∧ Drawn0 w w' := by
 have H : (if a0 ≥ a1 then (some (decide (a0 ≤ a2))) else (some false)) = some r := h; clear h; by_cases c4 : a0 ≥ a1
 ·rw [if_pos c4] at H; have c4b0 : decide (a1 ≤ a0) = true := decide_eq_true c4; clear c4; obtain rfl := Option.some.inj H; go_enter Try.func72, Try.ntmps72
  go_wp2
  go_ret
  exact ⟨by first | rfl | (simp; done) | (simp [*]; done), by repeat (first | exact Drawn0.refl _ | apply Drawn0.step)⟩
 ·rw [if_neg c4] at H; have c4b0 : decide (a1 ≤ a0) = false := decide_eq_false c4; clear c4; obtain rfl := Option.some.inj H; go_enter Try.func72, Try.ntmps72
  go_wp2
  go_ret
  exact ⟨by first | rfl | (simp; done) | (simp [*]; done), by repeat (first | exact Drawn0.refl _ | apply Drawn0.step)⟩

/-! ### air_all: function 78 -/
/-- A call of a function value that lies in a place, with what it has with it. -/
theorem air_all.goesC_ {P : Program} {ops : Array Oper} {rest : List Oper} {oi : Oper} {a : Act} {Q : Exit → Act → World → Prop} {w : World} {t : Tmp} (N : Option Tmp) (hd : oi.dst = N) (hg : oi.guard = none) {f : FuncId} {fn : Func} {as1 : Array Operand} {ts : Array TypeId} (hf : P.funcs[f]? = some fn) (hname : (fn.name == "runtime.NumGoroutine") = false) (hb : fn.body.isSome = true) (fs cs args : Array Value)
  (hop : oi.op = .call { callee := .value (.tmp t), args := as1, argTypes := ts }) (hev : a.eval (.tmp t) = .func (.func f) fs cs) (hargs : fs ++ as1.map a.eval ++ cs = args)
  (h : Calls P f args w fun e w' => ∃ v, e = .returned v ∧ wpList P ops Q rest (a.put N v) w') : wpList P ops Q (oi :: rest) a w := by
 subst hargs; refine wpList_plain hg fun K hK => ?_
 have he := enters_ hf hname hb (fs ++ as1.map a.eval ++ cs) w; have hrun : (execOp a.eval oi).run P w = .ok (.enter f (fs ++ as1.map a.eval ++ cs)) w := by
  unfold execOp; simp [hop, hev, resolve, Deferred.ofValue, invoke]
  simpa using he
 unfold Oper.wp; rw [hrun, Oper.upon_enter]; refine h.mono fun e w'' hh => ?_
 obtain ⟨v, rfl, hk⟩ := hh; subst hd; exact hK _ _ hk
/-- The first place of which p holds, or -1. -/
theorem air_all.any_take (p : Int → Bool) (l : List Int) (i : Nat) (hi : i < l.length) (h : (l.take i).any p = false) : (l.take (i + 1)).any p = p (rd l (i : Int)) := by
 rw [List.take_succ_eq_append_getElem hi, List.any_append, h]; simp [rd, List.getElem?_eq_getElem hi]
set_option maxHeartbeats 8000000 in
set_option maxRecDepth 100000 in
theorem air_all.idx_ (g : Nat) (fn : Func) (fs cs : Array Value) (p : Int → Bool) (A0 : Option Addr) (c0 : Nat) (l0 : List Int) (w : World) (hr0 : Kd.C (Kd.int .i64) w A0 l0.length l0) (hc0 : l0.length ≤ c0) (hm : l0.length ≤ 1000)
  (hf : Try.prog.funcs[g]? = some fn) (hname : (fn.name == "runtime.NumGoroutine") = false) (hbd : fn.body.isSome = true)
  (hp : ∀ (W : World) (x : Int), Below w.heap.size w W → Calls Try.prog g (fs ++ #[.int .i64 x] ++ cs) W fun e w' => e = .returned (.bool (p x)) ∧ Below W.heap.size W w') :
  Calls Try.prog 89 #[.slice A0 l0.length c0, .func (.func g) fs cs] w fun e w' => ∃ j : Int, e = .returned (.int .i64 j) ∧ decide (j ≥ 0) = l0.any p ∧ Below w.heap.size w w' := by
 have HR0 := XB hr0; have HC0 := XB hc0; have HB := XB (Below.refl w.heap.size w); have HP := XB hp; have HF := XB hf; have HN := XB hname; have HBD := XB hbd; have HM := XB hm; clear hp hf hname hbd hr0 hc0 hm; go_enter Try.func89, Try.ntmps89
 go_wp2
 go_loopg [8] l0.length (fun kq v8 w' => ∃ (i : Nat), v8 = .int .i64 (i : Int) ∧ Aside0 (i + kq = l0.length) ∧ Aside0 ((l0.take i).any p = false) ∧ Aside0 (Below w.heap.size w w'))
 case atStart => exact ⟨0, rfl, ⟨by omega⟩, ⟨by simp⟩, HB⟩
 case round =>
  clear HB; obtain ⟨i, rfl, HK, HA, HB⟩ := hrel; by_cases c : (i : Int) < (l0.length : Int)
  ·have c3b0 : decide ((i : Int) < (l0.length : Int)) = true := decide_eq_true c; have c4b0 : decide (0 ≤ (i : Int)) = true := decide_eq_true (by omega); have HI := XB c; have ei : IntKind.i64.wrap ((i : Int) + 1) = ((i + 1 : Nat) : Int) := by have := HM.out; simp only [i64_w]; unfold wrap64; omega
   have HE := XB (air_all.any_take p l0 i (by omega) HA.out); obtain ⟨k1, rfl⟩ : ∃ k1, gk = k1 + 1 := ⟨gk - 1, by have := HK.out; omega⟩
   have p101 : 0 ≤ (i : Int) := by omega
   have q101 : (i : Int) < (l0.length : Int) := c; obtain ⟨ad101, e101, hx101_0⟩ := Kd.at_int (Xu HR0.out HB.out) (i : Int) p101 q101
   cases e101
   rw [Int.toNat_natCast] at hx101_0; clear c; replace p101 := eq_true p101; replace q101 := eq_true q101
   cases hpi : p (rd l0 (i : Int)) with
   | true =>
    have HT := XB hpi; go_wp2_with ((with_reducible refine Go.Proofs.YtboefcikdfjfmaaW.PrintHand.gate_calleeT (t := 11) rfl ?_); refine air_all.goesC_ (t := 11) (some 16) rfl rfl HF.out HN.out HBD.out fs cs (fs ++ #[.int .i64 (rd l0 (i : Int))] ++ cs) rfl rfl (by (try simp only [Xm, Xn, Xo]); first | done | rfl) ?_; (refine (HP.out _ (rd l0 (i : Int)) HB.out).mono ?_); rintro e w5 ⟨rfl, hb⟩; refine ⟨_, rfl, ?_⟩; rw [hpi]; have n2_ := XB (Xz HB.out hb); clear HB hb; have HB := n2_; clear n2_)
    go_ret
    exact ⟨_, rfl, by rw [show l0.any p = true from List.any_eq_true.2 ⟨rd l0 (i : Int), by (have := HI.out; have h2 : i < l0.length := by omega); simp [rd, List.getElem?_eq_getElem h2], HT.out⟩]; simp, HB.out⟩
   | false =>
    have HE2 := XB (HE.out.trans hpi); go_wp2_with ((with_reducible refine Go.Proofs.YtboefcikdfjfmaaW.PrintHand.gate_calleeT (t := 11) rfl ?_); refine air_all.goesC_ (t := 11) (some 16) rfl rfl HF.out HN.out HBD.out fs cs (fs ++ #[.int .i64 (rd l0 (i : Int))] ++ cs) rfl rfl (by (try simp only [Xm, Xn, Xo]); first | done | rfl) ?_; (refine (HP.out _ (rd l0 (i : Int)) HB.out).mono ?_); rintro e w5 ⟨rfl, hb⟩; refine ⟨_, rfl, ?_⟩; rw [hpi]; have n2_ := XB (Xz HB.out hb); clear HB hb; have HB := n2_; clear n2_)
    go_roundg k1
    case measure => omega
    case rel => exact ⟨i + 1, YG, ⟨by have := HK.out; omega⟩, HE2, HB⟩
  ·have c3b0 : decide ((i : Int) < (l0.length : Int)) = false := decide_eq_false c; have HI := XB c; clear c; obtain rfl : i = l0.length := by have := HK.out; have := HI.out; omega
   have HE := HA.out; rw [List.take_length] at HE; have HE2 := XB HE; clear HE; go_wp2
   go_ret
   exact ⟨_, rfl, by rw [HE2.out]; rfl, HB.out⟩
set_option maxHeartbeats 8000000 in
set_option maxRecDepth 100000 in
theorem air_all.has_ (g : Nat) (fn : Func) (fs cs : Array Value) (p : Int → Bool) (A0 : Option Addr) (c0 : Nat) (l0 : List Int) (w : World) (hr0 : Kd.C (Kd.int .i64) w A0 l0.length l0) (hc0 : l0.length ≤ c0) (hm : l0.length ≤ 1000)
  (hf : Try.prog.funcs[g]? = some fn) (hname : (fn.name == "runtime.NumGoroutine") = false) (hbd : fn.body.isSome = true)
  (hp : ∀ (W : World) (x : Int), Below w.heap.size w W → Calls Try.prog g (fs ++ #[.int .i64 x] ++ cs) W fun e w' => e = .returned (.bool (p x)) ∧ Below W.heap.size W w') :
  Calls Try.prog 87 #[.slice A0 l0.length c0, .func (.func g) fs cs] w fun e w' => e = .returned (.bool (l0.any p)) ∧ Below w.heap.size w w' := by
 go_enter Try.func87, Try.ntmps87
 have HH := XB (air_all.idx_ g fn fs cs p A0 c0 l0 w hr0 hc0 hm hf hname hbd hp); clear hp hf hname hbd hr0 hc0 hm; go_wp2_with ((with_reducible refine gate_callee (f := 89) rfl ?_); refine goesL_ (some 7) rfl rfl Try.func89 (by kernel_rfl) rfl #[.slice A0 l0.length c0, .func (.func g) fs cs] rfl (by (try simp only [Xm, Xn, Xo]); first | done | rfl) ?_; (refine HH.out.mono ?_); rintro e w5 ⟨j, rfl, hj, hb⟩; refine ⟨_, rfl, ?_⟩; have HJ := XB hj; have HB := XB hb; clear hj hb)
 go_ret
 exact ⟨by rw [← HJ.out]; first | rfl | (simp; done), HB.out⟩
set_option maxHeartbeats 8000000 in
set_option maxRecDepth 100000 in
theorem air_all.lit_calls (g2 : Nat) (m x : Int) (w : World) (hblk : w.heap[g2]? = some (.cells #[.int .i64 m] 3 (0, 0))) :
  Calls Try.prog 88 #[.int .i64 x, .pointer (some ⟨g2, 0, none⟩)] w fun e w' => e = .returned (.bool (!(decide (0 ≤ x) && decide (x ≤ m)))) ∧ Below w.heap.size w w' := by
 have BK := XB hblk; clear hblk; have hcz : w.cell? ⟨g2, 0, none⟩ = some (.int .i64 m) := (Xi BK.out 0).trans rfl; have hfz := Xh BK.out 0; have HW := XB (show air_within.f x 0 m = some (decide (0 ≤ x) && decide (x ≤ m)) by unfold air_within.f; by_cases h : x ≥ 0 <;> simp [h]); go_enter Try.func88, Try.ntmps88
 go_wp2_with ((with_reducible refine gate_callee (f := 72) rfl ?_); refine goesL_ (some 6) rfl rfl Try.func72 (by kernel_rfl) rfl #[.int .i64 x, .int .i64 0, .int .i64 m] rfl (by (try simp only [Xm, Xn, Xo]); first | done | rfl) ?_; (with_reducible refine (air_within.calls x 0 m _ _ HW.out).mono ?_); rintro e w' ⟨rfl, ⟨nd, rfl⟩⟩; refine ⟨_, rfl, ?_⟩)
 go_ret
 exact ⟨by first | rfl | (simp; done), by first | exact Below.refl _ _ | exact Xa (Below.refl _ _) _⟩
/-- Whether a list has so many numbers from 0 to most. -/
def air_all.f (l0 : List Int) (a1 a2 : Int) : Option Bool := if l0.length ≤ 1000 then some (decide ((l0.length : Int) = a1) && !(l0.any fun x => !(decide (0 ≤ x) && decide (x ≤ a2)))) else none
set_option maxHeartbeats 8000000 in
set_option maxRecDepth 100000 in
theorem air_all.calls (A0 : Option Addr) (c0 : Nat) (l0 : List Int) (a1 a2 : Int) (r : Bool) (w : World) (hr0 : Kd.C (Kd.int .i64) w A0 l0.length l0) (hc0 : l0.length ≤ c0) (h : air_all.f l0 a1 a2 = some r) :
  Calls Try.prog 78 #[.slice A0 l0.length c0, .int .i64 a1, .int .i64 a2] w fun e w' => e = .returned (.bool r) ∧ Below w.heap.size w w' := by
 have HR0 := XB hr0; have HC0 := XB hc0; have HB := XB (Below.refl w.heap.size w); clear hr0 hc0; unfold air_all.f at h; by_cases hm : l0.length ≤ 1000
 ·rw [if_pos hm] at h; have HM := XB hm; clear hm; have HE := XB (Option.some.inj h); clear h; by_cases c : (l0.length : Int) = a1
  ·have cb0 : ((l0.length : Int) == a1) = true := beq_iff_eq.2 c; have HI := XB c; clear c; go_enter Try.func78, Try.ntmps78
   go_wp2_with (first
    | ((with_reducible refine gate_dst (N := 5) rfl ?_); refine box_event ?hg (N := 5) ?hd (cs := #[.int .i64 a2]) (t := 3) ?hr ?_; (case hd => rfl); (case hg => rfl); (case hr => first | (go_simp; done) | (go_simp; rfl)); intro gb108 hg w11 hbox hb; have n2_ := XB (Xz HB.out hb); have n3_ := XB hbox; have n4_ := XB (Xu HR0.out hb); clear HB HR0; have HB := n2_; have BK := n3_; have HR0 := n4_; clear n2_ n3_ n4_; clear hb hbox hg)
    | ((with_reducible refine gate_callee (f := 87) rfl ?_); (try (refine gate_guard (by rfl) ?_; dsimp only)); refine goesL_ (some 14) rfl rfl Try.func87 (by kernel_rfl) rfl #[.slice A0 l0.length c0, .func (.func 88) #[] #[.pointer (some ⟨gb108, 0, none⟩)]] rfl (by (try simp only [Xm, Xn, Xo]); first | done | rfl) ?_;
          (refine (air_all.has_ 88 _ #[] #[.pointer (some ⟨gb108, 0, none⟩)] (fun x => !(decide (0 ≤ x) && decide (x ≤ a2))) A0 c0 l0 _ HR0.out HC0.out HM.out Try.func88 (by kernel_rfl) rfl ?hp).mono ?_);
          (case hp => intro W x hb; exact air_all.lit_calls gb108 a2 x W ((hb.block _ (blk_lt BK.out)).trans BK.out));
          rintro e w5 ⟨rfl, hb⟩; refine ⟨_, rfl, ?_⟩; have n2_ := XB (Xz HB.out hb); clear HB hb; have HB := n2_; clear n2_))
   go_ret
   exact ⟨by rw [← HE.out, decide_eq_true HI.out, Bool.true_and]; first | rfl | (simp; done), HB.out⟩
  ·have cb0 : ((l0.length : Int) == a1) = false := beq_eq_false_iff_ne.2 c; have HI := XB c; clear c; go_enter Try.func78, Try.ntmps78
   go_wp2_with ((with_reducible refine gate_dst (N := 5) rfl ?_); refine box_event ?hg (N := 5) ?hd (cs := #[.int .i64 a2]) (t := 3) ?hr ?_; (case hd => rfl); (case hg => rfl); (case hr => first | (go_simp; done) | (go_simp; rfl)); intro gb108 hg w11 hbox hb; have n2_ := XB (Xz HB.out hb); have n3_ := XB hbox; have n4_ := XB (Xu HR0.out hb); clear HB HR0; have HB := n2_; have BK := n3_; have HR0 := n4_; clear n2_ n3_ n4_; clear hb hbox hg)
   go_ret
   exact ⟨by rw [← HE.out, decide_eq_false HI.out, Bool.false_and]; first | rfl | (simp; done), HB.out⟩
 ·rw [if_neg hm] at h; exact absurd h (by simp)


/-! ### air_Validate: function 42 -/
def air_Validate.f (a0_0 : Int) (a0_1 : Int) (l0_2 : List Int) (l0_3 : List Int) : Option (Int) := (air_within.f a0_0 0 999).bind fun t102 => (if t102 = true then ((air_within.f a0_1 0 20).bind fun t103 => (if t103 = true then ((air_within.f (l0_3.length : Int) 1 12).bind fun t104 => (if t104 = true then ((air_all.f l0_2 (l0_3.length : Int) 20).bind fun t105 => (if t105 = true then ((air_all.f l0_3 (l0_3.length : Int) 50).bind fun t106 => (if t106 = true then (some 0) else (some 1))) else (some 1))) else (some 1))) else (some 1))) else (some 1))
set_option maxHeartbeats 8000000 in
set_option maxRecDepth 100000 in
theorem air_Validate.calls (a0_0 : Int) (a0_1 : Int) (A0_2 : Option Addr) (c0_2 : Nat) (l0_2 : List Int) (A0_3 : Option Addr) (c0_3 : Nat) (l0_3 : List Int) (r : Int) (w : World) (hr0_2 : Kd.C (Kd.int .i64) w A0_2 l0_2.length l0_2) (hc0_2 : l0_2.length ≤ c0_2) (hr0_3 : Kd.C (Kd.int .i64) w A0_3 l0_3.length l0_3) (hc0_3 : l0_3.length ≤ c0_3) (h : air_Validate.f a0_0 a0_1 l0_2 l0_3 = some r) :
  Calls Try.prog 42 #[.agg #[.int .i64 a0_0, .int .i64 a0_1, .slice A0_2 l0_2.length c0_2, .slice A0_3 l0_3.length c0_3]] w fun e w' => e = .returned (.int .i64 r) ∧ Below w.heap.size w w' := by
 have hu24 := Try.underlying24; have HR0_2 := XB hr0_2; have HC0_2 := XB hc0_2; clear hr0_2 hc0_2; have HR0_3 := XB hr0_3; have HC0_3 := XB hc0_3; clear hr0_3 hc0_3; have HB := XB (Below.refl w.heap.size w); have H : ((air_within.f a0_0 0 999).bind fun t102 => (if t102 = true then ((air_within.f a0_1 0 20).bind fun t103 => (if t103 = true then ((air_within.f (l0_3.length : Int) 1 12).bind fun t104 => (if t104 = true then ((air_all.f l0_2 (l0_3.length : Int) 20).bind fun t105 => (if t105 = true then ((air_all.f l0_3 (l0_3.length : Int) 50).bind fun t106 => (if t106 = true then (some 0) else (some 1))) else (some 1))) else (some 1))) else (some 1))) else (some 1))) = some r := h; clear h; obtain ⟨t102, A2, H⟩ := YJ H; by_cases c3 : t102 = true
 ·subst c3; have H1 : ((air_within.f a0_1 0 20).bind fun t103 => (if t103 = true then ((air_within.f (l0_3.length : Int) 1 12).bind fun t104 => (if t104 = true then ((air_all.f l0_2 (l0_3.length : Int) 20).bind fun t105 => (if t105 = true then ((air_all.f l0_3 (l0_3.length : Int) 50).bind fun t106 => (if t106 = true then (some 0) else (some 1))) else (some 1))) else (some 1))) else (some 1))) = some r := by rw [if_pos rfl] at H; exact H
  clear H; have H := H1; clear H1; obtain ⟨t103, A4, H⟩ := YJ H; by_cases c5 : t103 = true
  ·subst c5; have H1 : ((air_within.f (l0_3.length : Int) 1 12).bind fun t104 => (if t104 = true then ((air_all.f l0_2 (l0_3.length : Int) 20).bind fun t105 => (if t105 = true then ((air_all.f l0_3 (l0_3.length : Int) 50).bind fun t106 => (if t106 = true then (some 0) else (some 1))) else (some 1))) else (some 1))) = some r := by rw [if_pos rfl] at H; exact H
   clear H; have H := H1; clear H1; obtain ⟨t104, A6, H⟩ := YJ H; by_cases c7 : t104 = true
   ·subst c7; have H1 : ((air_all.f l0_2 (l0_3.length : Int) 20).bind fun t105 => (if t105 = true then ((air_all.f l0_3 (l0_3.length : Int) 50).bind fun t106 => (if t106 = true then (some 0) else (some 1))) else (some 1))) = some r := by rw [if_pos rfl] at H; exact H
    clear H; have H := H1; clear H1; obtain ⟨t105, A8, H⟩ := YJ H; by_cases c9 : t105 = true
    ·subst c9; have H1 : ((air_all.f l0_3 (l0_3.length : Int) 50).bind fun t106 => (if t106 = true then (some 0) else (some 1))) = some r := by rw [if_pos rfl] at H; exact H
     clear H; have H := H1; clear H1; obtain ⟨t106, A10, H⟩ := YJ H; by_cases c11 : t106 = true
     ·subst c11; have H1 : (some 0) = some r := by rw [if_pos rfl] at H; exact H
      clear H; have H := H1; clear H1; obtain rfl := Option.some.inj H; go_enter Try.func42, Try.ntmps42
      go_wp2_with (first | ((with_reducible refine gate_dst (N := 1) rfl ?_); refine box_event ?hg (N := 1) ?hd (cs := #[.int .i64 a0_0, .int .i64 a0_1, .slice A0_2 l0_2.length c0_2, .slice A0_3 l0_3.length c0_3]) (t := 24) ?hr ?_; (case hd => rfl); (case hg => rfl); (case hr => first | (go_simp; done) | (go_simp; rfl)); intro gb101 hg w12 hbox hb; have n0_ := XB (Xz (by repeat (first | (with_reducible first | exact HB.out | apply Xc | apply Xa | apply Xb) | exact HB.out)) hb); have n1_ := XB (hbox); have n2_ := XB ((by rw [hg]; exact (XC (by repeat (first | (with_reducible first | exact HB.out | apply Xc | apply Xa | apply Xb) | exact HB.out))) : w.heap.size ≤ gb101)); have n3_ := XB ((by rw [hg]; exact (XC (by repeat (first | (with_reducible first | exact HB.out | apply Xc | apply Xa | apply Xb) | exact HB.out))) : w.heap.size ≤ gb101)); clear HB; have HB := n0_; have J101 := n1_; have GW101 := n2_; have E101 := n3_; clear n0_ n1_ n2_ n3_; clear hb hbox hg; obtain ⟨hcz13_0, hcz13_1, hcz13_2, hcz13_3, hfz13_0, hfz13_1, hfz13_2, hfz13_3⟩ := YK4 J101) | ((with_reducible refine gate_callee (f := 72) rfl ?_); refine YL (some 9) rfl rfl Try.func72 rfl #[.int .i64 a0_0, .int .i64 0, .int .i64 999] rfl ?_; (with_reducible refine (air_within.calls a0_0 0 999 true _ A2.out).mono ?_); rintro e w' ⟨rfl, ⟨nd, rfl⟩⟩; refine ⟨_, rfl, ?_⟩) | (go_at_call 72; (with_reducible refine (air_within.calls a0_1 0 20 true _ A4.out).mono ?_); rintro e w' ⟨rfl, ⟨nd, rfl⟩⟩) | (go_at_call 72; (with_reducible refine (air_within.calls (l0_3.length : Int) 1 12 true _ A6.out).mono ?_); rintro e w' ⟨rfl, ⟨nd, rfl⟩⟩) | (go_at_call 78; (with_reducible refine (air_all.calls _ _ l0_2 (l0_3.length : Int) 20 true _ ?side1 ?side2 A8.out).mono ?_); (case side1 => repeat (first | exact (Xu HR0_2.out (by repeat (first | (with_reducible first | exact HB.out | apply Xc | apply Xa | apply Xb | refine Xd ?_ E101.out) | exact HB.out))) | (with_reducible refine Xr ?_ _) | (with_reducible refine Xs ?_ _) | (with_reducible refine Xt ?_))); (case side2 => exact HC0_2.out); rintro e w14 ⟨rfl, hb⟩; replace J101 := XB (XA (g := gb101) (o := .cells #[.int .i64 a0_0, .int .i64 a0_1, .slice A0_2 l0_2.length c0_2, .slice A0_3 l0_3.length c0_3] 24 (0, 0)) (by (with_reducible repeat (first | refine Xf ?_ _ | refine Xg ?_ | refine Xe ?_ _)); exact J101.out) hb); replace HB := XB (Xz (by repeat (first | (with_reducible first | exact HB.out | apply Xc | apply Xa | apply Xb | refine Xd ?_ E101.out) | exact HB.out)) hb); (try clear hb); obtain ⟨hcz15_0, hcz15_1, hcz15_2, hcz15_3, hfz15_0, hfz15_1, hfz15_2, hfz15_3⟩ := YK4 J101) | (go_at_call 78; (with_reducible refine (air_all.calls _ _ l0_3 (l0_3.length : Int) 50 true _ ?side1 ?side2 A10.out).mono ?_); (case side1 => exact YE HR0_3 HB); (case side2 => exact HC0_3.out); rintro e w16 ⟨rfl, hb⟩; replace J101 := XB (XA (g := gb101) (o := .cells #[.int .i64 a0_0, .int .i64 a0_1, .slice A0_2 l0_2.length c0_2, .slice A0_3 l0_3.length c0_3] 24 (0, 0)) (by (with_reducible repeat (first | refine Xf ?_ _ | refine Xg ?_ | refine Xe ?_ _)); exact J101.out) hb); replace HB := XB (Xz (by repeat (first | (with_reducible first | exact HB.out | apply Xc | apply Xa | apply Xb | refine Xd ?_ E101.out) | exact HB.out)) hb); (try clear hb)))
      go_ret
      exact ⟨YF, XL HB⟩
     ·replace c11 := Bool.eq_false_iff.mpr c11; subst c11; have H1 : (some 1) = some r := by rw [if_neg (show ¬ (false = true) by decide)] at H; exact H
      clear H; have H := H1; clear H1; obtain rfl := Option.some.inj H; go_enter Try.func42, Try.ntmps42
      go_wp2_with (first | ((with_reducible refine gate_dst (N := 1) rfl ?_); refine box_event ?hg (N := 1) ?hd (cs := #[.int .i64 a0_0, .int .i64 a0_1, .slice A0_2 l0_2.length c0_2, .slice A0_3 l0_3.length c0_3]) (t := 24) ?hr ?_; (case hd => rfl); (case hg => rfl); (case hr => first | (go_simp; done) | (go_simp; rfl)); intro gb101 hg w17 hbox hb; have n0_ := XB (Xz (by repeat (first | (with_reducible first | exact HB.out | apply Xc | apply Xa | apply Xb) | exact HB.out)) hb); have n1_ := XB (hbox); have n2_ := XB ((by rw [hg]; exact (XC (by repeat (first | (with_reducible first | exact HB.out | apply Xc | apply Xa | apply Xb) | exact HB.out))) : w.heap.size ≤ gb101)); have n3_ := XB ((by rw [hg]; exact (XC (by repeat (first | (with_reducible first | exact HB.out | apply Xc | apply Xa | apply Xb) | exact HB.out))) : w.heap.size ≤ gb101)); clear HB; have HB := n0_; have J101 := n1_; have GW101 := n2_; have E101 := n3_; clear n0_ n1_ n2_ n3_; clear hb hbox hg; obtain ⟨hcz18_0, hcz18_1, hcz18_2, hcz18_3, hfz18_0, hfz18_1, hfz18_2, hfz18_3⟩ := YK4 J101) | ((with_reducible refine gate_callee (f := 72) rfl ?_); refine YL (some 9) rfl rfl Try.func72 rfl #[.int .i64 a0_0, .int .i64 0, .int .i64 999] rfl ?_; (with_reducible refine (air_within.calls a0_0 0 999 true _ A2.out).mono ?_); rintro e w' ⟨rfl, ⟨nd, rfl⟩⟩; refine ⟨_, rfl, ?_⟩) | (go_at_call 72; (with_reducible refine (air_within.calls a0_1 0 20 true _ A4.out).mono ?_); rintro e w' ⟨rfl, ⟨nd, rfl⟩⟩) | (go_at_call 72; (with_reducible refine (air_within.calls (l0_3.length : Int) 1 12 true _ A6.out).mono ?_); rintro e w' ⟨rfl, ⟨nd, rfl⟩⟩) | (go_at_call 78; (with_reducible refine (air_all.calls _ _ l0_2 (l0_3.length : Int) 20 true _ ?side1 ?side2 A8.out).mono ?_); (case side1 => repeat (first | exact (Xu HR0_2.out (by repeat (first | (with_reducible first | exact HB.out | apply Xc | apply Xa | apply Xb | refine Xd ?_ E101.out) | exact HB.out))) | (with_reducible refine Xr ?_ _) | (with_reducible refine Xs ?_ _) | (with_reducible refine Xt ?_))); (case side2 => exact HC0_2.out); rintro e w19 ⟨rfl, hb⟩; replace J101 := XB (XA (g := gb101) (o := .cells #[.int .i64 a0_0, .int .i64 a0_1, .slice A0_2 l0_2.length c0_2, .slice A0_3 l0_3.length c0_3] 24 (0, 0)) (by (with_reducible repeat (first | refine Xf ?_ _ | refine Xg ?_ | refine Xe ?_ _)); exact J101.out) hb); replace HB := XB (Xz (by repeat (first | (with_reducible first | exact HB.out | apply Xc | apply Xa | apply Xb | refine Xd ?_ E101.out) | exact HB.out)) hb); (try clear hb); obtain ⟨hcz20_0, hcz20_1, hcz20_2, hcz20_3, hfz20_0, hfz20_1, hfz20_2, hfz20_3⟩ := YK4 J101) | (go_at_call 78; (with_reducible refine (air_all.calls _ _ l0_3 (l0_3.length : Int) 50 false _ ?side1 ?side2 A10.out).mono ?_); (case side1 => exact YE HR0_3 HB); (case side2 => exact HC0_3.out); rintro e w21 ⟨rfl, hb⟩; replace J101 := XB (XA (g := gb101) (o := .cells #[.int .i64 a0_0, .int .i64 a0_1, .slice A0_2 l0_2.length c0_2, .slice A0_3 l0_3.length c0_3] 24 (0, 0)) (by (with_reducible repeat (first | refine Xf ?_ _ | refine Xg ?_ | refine Xe ?_ _)); exact J101.out) hb); replace HB := XB (Xz (by repeat (first | (with_reducible first | exact HB.out | apply Xc | apply Xa | apply Xb | refine Xd ?_ E101.out) | exact HB.out)) hb); (try clear hb)))
      go_ret
      exact ⟨YF, XL HB⟩
    ·replace c9 := Bool.eq_false_iff.mpr c9; subst c9; have H1 : (some 1) = some r := by rw [if_neg (show ¬ (false = true) by decide)] at H; exact H
     clear H; have H := H1; clear H1; obtain rfl := Option.some.inj H; go_enter Try.func42, Try.ntmps42
     go_wp2_with (first | ((with_reducible refine gate_dst (N := 1) rfl ?_); refine box_event ?hg (N := 1) ?hd (cs := #[.int .i64 a0_0, .int .i64 a0_1, .slice A0_2 l0_2.length c0_2, .slice A0_3 l0_3.length c0_3]) (t := 24) ?hr ?_; (case hd => rfl); (case hg => rfl); (case hr => first | (go_simp; done) | (go_simp; rfl)); intro gb101 hg w22 hbox hb; have n0_ := XB (Xz (by repeat (first | (with_reducible first | exact HB.out | apply Xc | apply Xa | apply Xb) | exact HB.out)) hb); have n1_ := XB (hbox); have n2_ := XB ((by rw [hg]; exact (XC (by repeat (first | (with_reducible first | exact HB.out | apply Xc | apply Xa | apply Xb) | exact HB.out))) : w.heap.size ≤ gb101)); have n3_ := XB ((by rw [hg]; exact (XC (by repeat (first | (with_reducible first | exact HB.out | apply Xc | apply Xa | apply Xb) | exact HB.out))) : w.heap.size ≤ gb101)); clear HB; have HB := n0_; have J101 := n1_; have GW101 := n2_; have E101 := n3_; clear n0_ n1_ n2_ n3_; clear hb hbox hg; obtain ⟨hcz23_0, hcz23_1, hcz23_2, hcz23_3, hfz23_0, hfz23_1, hfz23_2, hfz23_3⟩ := YK4 J101) | ((with_reducible refine gate_callee (f := 72) rfl ?_); refine YL (some 9) rfl rfl Try.func72 rfl #[.int .i64 a0_0, .int .i64 0, .int .i64 999] rfl ?_; (with_reducible refine (air_within.calls a0_0 0 999 true _ A2.out).mono ?_); rintro e w' ⟨rfl, ⟨nd, rfl⟩⟩; refine ⟨_, rfl, ?_⟩) | (go_at_call 72; (with_reducible refine (air_within.calls a0_1 0 20 true _ A4.out).mono ?_); rintro e w' ⟨rfl, ⟨nd, rfl⟩⟩) | (go_at_call 72; (with_reducible refine (air_within.calls (l0_3.length : Int) 1 12 true _ A6.out).mono ?_); rintro e w' ⟨rfl, ⟨nd, rfl⟩⟩) | (go_at_call 78; (with_reducible refine (air_all.calls _ _ l0_2 (l0_3.length : Int) 20 false _ ?side1 ?side2 A8.out).mono ?_); (case side1 => repeat (first | exact (Xu HR0_2.out (by repeat (first | (with_reducible first | exact HB.out | apply Xc | apply Xa | apply Xb | refine Xd ?_ E101.out) | exact HB.out))) | (with_reducible refine Xr ?_ _) | (with_reducible refine Xs ?_ _) | (with_reducible refine Xt ?_))); (case side2 => exact HC0_2.out); rintro e w24 ⟨rfl, hb⟩; replace J101 := XB (XA (g := gb101) (o := .cells #[.int .i64 a0_0, .int .i64 a0_1, .slice A0_2 l0_2.length c0_2, .slice A0_3 l0_3.length c0_3] 24 (0, 0)) (by (with_reducible repeat (first | refine Xf ?_ _ | refine Xg ?_ | refine Xe ?_ _)); exact J101.out) hb); replace HB := XB (Xz (by repeat (first | (with_reducible first | exact HB.out | apply Xc | apply Xa | apply Xb | refine Xd ?_ E101.out) | exact HB.out)) hb); (try clear hb)))
     go_ret
     exact ⟨YF, XL HB⟩
   ·replace c7 := Bool.eq_false_iff.mpr c7; subst c7; have H1 : (some 1) = some r := by rw [if_neg (show ¬ (false = true) by decide)] at H; exact H
    clear H; have H := H1; clear H1; obtain rfl := Option.some.inj H; go_enter Try.func42, Try.ntmps42
    go_wp2_with (first | ((with_reducible refine gate_dst (N := 1) rfl ?_); refine box_event ?hg (N := 1) ?hd (cs := #[.int .i64 a0_0, .int .i64 a0_1, .slice A0_2 l0_2.length c0_2, .slice A0_3 l0_3.length c0_3]) (t := 24) ?hr ?_; (case hd => rfl); (case hg => rfl); (case hr => first | (go_simp; done) | (go_simp; rfl)); intro gb101 hg w25 hbox hb; have n0_ := XB (Xz (by repeat (first | (with_reducible first | exact HB.out | apply Xc | apply Xa | apply Xb) | exact HB.out)) hb); have n1_ := XB (hbox); have n2_ := XB ((by rw [hg]; exact (XC (by repeat (first | (with_reducible first | exact HB.out | apply Xc | apply Xa | apply Xb) | exact HB.out))) : w.heap.size ≤ gb101)); have n3_ := XB ((by rw [hg]; exact (XC (by repeat (first | (with_reducible first | exact HB.out | apply Xc | apply Xa | apply Xb) | exact HB.out))) : w.heap.size ≤ gb101)); clear HB; have HB := n0_; have J101 := n1_; have GW101 := n2_; have E101 := n3_; clear n0_ n1_ n2_ n3_; clear hb hbox hg; obtain ⟨hcz26_0, hcz26_1, hcz26_2, hcz26_3, hfz26_0, hfz26_1, hfz26_2, hfz26_3⟩ := YK4 J101) | ((with_reducible refine gate_callee (f := 72) rfl ?_); refine YL (some 9) rfl rfl Try.func72 rfl #[.int .i64 a0_0, .int .i64 0, .int .i64 999] rfl ?_; (with_reducible refine (air_within.calls a0_0 0 999 true _ A2.out).mono ?_); rintro e w' ⟨rfl, ⟨nd, rfl⟩⟩; refine ⟨_, rfl, ?_⟩) | (go_at_call 72; (with_reducible refine (air_within.calls a0_1 0 20 true _ A4.out).mono ?_); rintro e w' ⟨rfl, ⟨nd, rfl⟩⟩) | (go_at_call 72; (with_reducible refine (air_within.calls (l0_3.length : Int) 1 12 false _ A6.out).mono ?_); rintro e w' ⟨rfl, ⟨nd, rfl⟩⟩))
    go_ret
    exact ⟨YF, XL HB⟩
  ·replace c5 := Bool.eq_false_iff.mpr c5; subst c5; have H1 : (some 1) = some r := by rw [if_neg (show ¬ (false = true) by decide)] at H; exact H
   clear H; have H := H1; clear H1; obtain rfl := Option.some.inj H; go_enter Try.func42, Try.ntmps42
   go_wp2_with (first | ((with_reducible refine gate_dst (N := 1) rfl ?_); refine box_event ?hg (N := 1) ?hd (cs := #[.int .i64 a0_0, .int .i64 a0_1, .slice A0_2 l0_2.length c0_2, .slice A0_3 l0_3.length c0_3]) (t := 24) ?hr ?_; (case hd => rfl); (case hg => rfl); (case hr => first | (go_simp; done) | (go_simp; rfl)); intro gb101 hg w27 hbox hb; have n0_ := XB (Xz (by repeat (first | (with_reducible first | exact HB.out | apply Xc | apply Xa | apply Xb) | exact HB.out)) hb); have n1_ := XB (hbox); have n2_ := XB ((by rw [hg]; exact (XC (by repeat (first | (with_reducible first | exact HB.out | apply Xc | apply Xa | apply Xb) | exact HB.out))) : w.heap.size ≤ gb101)); have n3_ := XB ((by rw [hg]; exact (XC (by repeat (first | (with_reducible first | exact HB.out | apply Xc | apply Xa | apply Xb) | exact HB.out))) : w.heap.size ≤ gb101)); clear HB; have HB := n0_; have J101 := n1_; have GW101 := n2_; have E101 := n3_; clear n0_ n1_ n2_ n3_; clear hb hbox hg; obtain ⟨hcz28_0, hcz28_1, hcz28_2, hcz28_3, hfz28_0, hfz28_1, hfz28_2, hfz28_3⟩ := YK4 J101) | ((with_reducible refine gate_callee (f := 72) rfl ?_); refine YL (some 9) rfl rfl Try.func72 rfl #[.int .i64 a0_0, .int .i64 0, .int .i64 999] rfl ?_; (with_reducible refine (air_within.calls a0_0 0 999 true _ A2.out).mono ?_); rintro e w' ⟨rfl, ⟨nd, rfl⟩⟩; refine ⟨_, rfl, ?_⟩) | (go_at_call 72; (with_reducible refine (air_within.calls a0_1 0 20 false _ A4.out).mono ?_); rintro e w' ⟨rfl, ⟨nd, rfl⟩⟩))
   go_ret
   exact ⟨YF, XL HB⟩
 ·replace c3 := Bool.eq_false_iff.mpr c3; subst c3; have H1 : (some 1) = some r := by rw [if_neg (show ¬ (false = true) by decide)] at H; exact H
  clear H; have H := H1; clear H1; obtain rfl := Option.some.inj H; go_enter Try.func42, Try.ntmps42
  go_wp2_with (first | ((with_reducible refine gate_dst (N := 1) rfl ?_); refine box_event ?hg (N := 1) ?hd (cs := #[.int .i64 a0_0, .int .i64 a0_1, .slice A0_2 l0_2.length c0_2, .slice A0_3 l0_3.length c0_3]) (t := 24) ?hr ?_; (case hd => rfl); (case hg => rfl); (case hr => first | (go_simp; done) | (go_simp; rfl)); intro gb101 hg w29 hbox hb; have n0_ := XB (Xz (by repeat (first | (with_reducible first | exact HB.out | apply Xc | apply Xa | apply Xb) | exact HB.out)) hb); have n1_ := XB (hbox); have n2_ := XB ((by rw [hg]; exact (XC (by repeat (first | (with_reducible first | exact HB.out | apply Xc | apply Xa | apply Xb) | exact HB.out))) : w.heap.size ≤ gb101)); have n3_ := XB ((by rw [hg]; exact (XC (by repeat (first | (with_reducible first | exact HB.out | apply Xc | apply Xa | apply Xb) | exact HB.out))) : w.heap.size ≤ gb101)); clear HB; have HB := n0_; have J101 := n1_; have GW101 := n2_; have E101 := n3_; clear n0_ n1_ n2_ n3_; clear hb hbox hg; obtain ⟨hcz30_0, hcz30_1, hcz30_2, hcz30_3, hfz30_0, hfz30_1, hfz30_2, hfz30_3⟩ := YK4 J101) | ((with_reducible refine gate_callee (f := 72) rfl ?_); refine YL (some 9) rfl rfl Try.func72 rfl #[.int .i64 a0_0, .int .i64 0, .int .i64 999] rfl ?_; (with_reducible refine (air_within.calls a0_0 0 999 false _ A2.out).mono ?_); rintro e w' ⟨rfl, ⟨nd, rfl⟩⟩; refine ⟨_, rfl, ?_⟩))
  go_ret
  exact ⟨YF, XL HB⟩

/-! ### air_way: function 67 -/
def air_way.f (a0_0 : Int) (a0_1 : Int) (l0_2 : List Int) (l0_3 : List Int) (a1 : Int) (a2 : Int) : Option (Int) := if 0 ≤ a1 then (if a1 < (l0_2.length : Int) then (some (wrap64 ((rd l0_2 a1) + (wrap64 (a0_1 * (wrap64 (a2 - a1))))))) else (none)) else (none)
set_option maxHeartbeats 8000000 in
set_option maxRecDepth 100000 in
theorem air_way.calls (a0_0 : Int) (a0_1 : Int) (A0_2 : Option Addr) (c0_2 : Nat) (l0_2 : List Int) (A0_3 : Option Addr) (c0_3 : Nat) (l0_3 : List Int) (a1 : Int) (a2 : Int) (r : Int) (w : World) (hr0_2 : Kd.C (Kd.int .i64) w A0_2 l0_2.length l0_2) (hc0_2 : l0_2.length ≤ c0_2) (hr0_3 : Kd.C (Kd.int .i64) w A0_3 l0_3.length l0_3) (hc0_3 : l0_3.length ≤ c0_3) (h : air_way.f a0_0 a0_1 l0_2 l0_3 a1 a2 = some r) :
  Calls Try.prog 67 #[.agg #[.int .i64 a0_0, .int .i64 a0_1, .slice A0_2 l0_2.length c0_2, .slice A0_3 l0_3.length c0_3], .int .i64 a1, .int .i64 a2] w fun e w' => e = .returned (.int .i64 r) ∧ Below w.heap.size w w' := by
 have hu24 := Try.underlying24; have HR0_2 := XB hr0_2; have HC0_2 := XB hc0_2; clear hr0_2 hc0_2; have HR0_3 := XB hr0_3; have HC0_3 := XB hc0_3; clear hr0_3 hc0_3; have HB := XB (Below.refl w.heap.size w); have H : (if 0 ≤ a1 then (if a1 < (l0_2.length : Int) then (some (wrap64 ((rd l0_2 a1) + (wrap64 (a0_1 * (wrap64 (a2 - a1))))))) else (none)) else (none)) = some r := h; clear h; by_cases c4 : 0 ≤ a1
 ·rw [if_pos c4] at H; have c4b0 := decide_eq_true c4; clear c4; by_cases c5 : a1 < (l0_2.length : Int)
  ·rw [if_pos c5] at H; have c5b0 := decide_eq_true c5; clear c5; obtain rfl := Option.some.inj H; go_enter Try.func67, Try.ntmps67
   go_wp2_with (first | ((with_reducible refine gate_dst (N := 3) rfl ?_); refine box_event ?hg (N := 3) ?hd (cs := #[.int .i64 a0_0, .int .i64 a0_1, .slice A0_2 l0_2.length c0_2, .slice A0_3 l0_3.length c0_3]) (t := 24) ?hr ?_; (case hd => rfl); (case hg => rfl); (case hr => first | (go_simp; done) | (go_simp; rfl)); intro gb101 hg w6 hbox hb; have n0_ := XB (Xz (by repeat (first | (with_reducible first | exact HB.out | apply Xc | apply Xa | apply Xb) | exact HB.out)) hb); have n1_ := XB (hbox); have n2_ := XB ((by rw [hg]; exact (XC (by repeat (first | (with_reducible first | exact HB.out | apply Xc | apply Xa | apply Xb) | exact HB.out))) : w.heap.size ≤ gb101)); have n3_ := XB ((by rw [hg]; exact (XC (by repeat (first | (with_reducible first | exact HB.out | apply Xc | apply Xa | apply Xb) | exact HB.out))) : w.heap.size ≤ gb101)); clear HB; have HB := n0_; have J101 := n1_; have GW101 := n2_; have E101 := n3_; clear n0_ n1_ n2_ n3_; clear hb hbox hg; obtain ⟨hcz7_0, hcz7_1, hcz7_2, hcz7_3, hfz7_0, hfz7_1, hfz7_2, hfz7_3⟩ := YK4 J101; have p102 : 0 ≤ (a1 : Int) := YD; have q102 : a1 < (l0_2.length : Int) := YD; obtain ⟨ad102, e102, hx102_0⟩ := Kd.at_int HR0_2.out a1 p102 q102; cases e102; replace hx102_0 := (HB.out.cell (World.block_lt_of_cell? w _ hx102_0)).trans hx102_0; replace p102 := eq_true p102; replace q102 := eq_true q102))
   repeat (go_quiet (first | ((with_reducible refine gate_dst (N := 3) rfl ?_); refine box_event ?hg (N := 3) ?hd (cs := #[.int .i64 a0_0, .int .i64 a0_1, .slice A0_2 l0_2.length c0_2, .slice A0_3 l0_3.length c0_3]) (t := 24) ?hr ?_; (case hd => rfl); (case hg => rfl); (case hr => first | (go_simp; done) | (go_simp; rfl)); intro gb101 hg w6 hbox hb; have n0_ := XB (Xz (by repeat (first | (with_reducible first | exact HB.out | apply Xc | apply Xa | apply Xb) | exact HB.out)) hb); have n1_ := XB (hbox); have n2_ := XB ((by rw [hg]; exact (XC (by repeat (first | (with_reducible first | exact HB.out | apply Xc | apply Xa | apply Xb) | exact HB.out))) : w.heap.size ≤ gb101)); have n3_ := XB ((by rw [hg]; exact (XC (by repeat (first | (with_reducible first | exact HB.out | apply Xc | apply Xa | apply Xb) | exact HB.out))) : w.heap.size ≤ gb101)); clear HB; have HB := n0_; have J101 := n1_; have GW101 := n2_; have E101 := n3_; clear n0_ n1_ n2_ n3_; clear hb hbox hg; obtain ⟨hcz7_0, hcz7_1, hcz7_2, hcz7_3, hfz7_0, hfz7_1, hfz7_2, hfz7_3⟩ := YK4 J101; have p102 : 0 ≤ (a1 : Int) := YD; have q102 : a1 < (l0_2.length : Int) := YD; obtain ⟨ad102, e102, hx102_0⟩ := Kd.at_int HR0_2.out a1 p102 q102; cases e102; replace hx102_0 := (HB.out.cell (World.block_lt_of_cell? w _ hx102_0)).trans hx102_0; replace p102 := eq_true p102; replace q102 := eq_true q102)); try go_wp2_with (first | ((with_reducible refine gate_dst (N := 3) rfl ?_); refine box_event ?hg (N := 3) ?hd (cs := #[.int .i64 a0_0, .int .i64 a0_1, .slice A0_2 l0_2.length c0_2, .slice A0_3 l0_3.length c0_3]) (t := 24) ?hr ?_; (case hd => rfl); (case hg => rfl); (case hr => first | (go_simp; done) | (go_simp; rfl)); intro gb101 hg w6 hbox hb; have n0_ := XB (Xz (by repeat (first | (with_reducible first | exact HB.out | apply Xc | apply Xa | apply Xb) | exact HB.out)) hb); have n1_ := XB (hbox); have n2_ := XB ((by rw [hg]; exact (XC (by repeat (first | (with_reducible first | exact HB.out | apply Xc | apply Xa | apply Xb) | exact HB.out))) : w.heap.size ≤ gb101)); have n3_ := XB ((by rw [hg]; exact (XC (by repeat (first | (with_reducible first | exact HB.out | apply Xc | apply Xa | apply Xb) | exact HB.out))) : w.heap.size ≤ gb101)); clear HB; have HB := n0_; have J101 := n1_; have GW101 := n2_; have E101 := n3_; clear n0_ n1_ n2_ n3_; clear hb hbox hg; obtain ⟨hcz7_0, hcz7_1, hcz7_2, hcz7_3, hfz7_0, hfz7_1, hfz7_2, hfz7_3⟩ := YK4 J101; have p102 : 0 ≤ (a1 : Int) := YD; have q102 : a1 < (l0_2.length : Int) := YD; obtain ⟨ad102, e102, hx102_0⟩ := Kd.at_int HR0_2.out a1 p102 q102; cases e102; replace hx102_0 := (HB.out.cell (World.block_lt_of_cell? w _ hx102_0)).trans hx102_0; replace p102 := eq_true p102; replace q102 := eq_true q102)))
   go_ret
   exact ⟨YF, XL HB⟩
  ·rw [if_neg c5] at H; exact absurd H (by simp)
 ·rw [if_neg c4] at H; exact absurd H (by simp)

/-! ### air_lot: function 59 -/
def air_lot.l0 : Nat → Int → Int → Int → Int → Int → Int → Int → List Int → List Int → Option (Int × Int)
 | 0, _, _, _, _, _, _, _, _, _ => none
 | k + 1, x1, x2, x8, x9, x10, x102000, x102001, x102002, x102003 => if x10 < x2 then (if 0 ≤ x10 then (if x10 < (x102003.length : Int) then ((air_way.f x102000 x102001 x102002 x102003 x1 x10).bind fun t103 => (air_lot.l0 k x1 x2 (wrap64 (x8 + (wrap64 ((rd x102003 x10) * t103)))) (wrap64 (x9 + (rd x102003 x10))) (wrap64 (x10 + 1)) x102000 x102001 x102002 x102003)) else (none)) else (none)) else (if x9 > 0 then (some (wrap64 (x8 + x102000), x9)) else (some (x8, x9)))
def air_lot.f (k : Nat) (a0_0 : Int) (a0_1 : Int) (l0_2 : List Int) (l0_3 : List Int) (a1 : Int) (a2 : Int) : Option (Int × Int) := air_lot.l0 k a1 a2 0 0 a1 a0_0 a0_1 l0_2 l0_3
theorem air_lot.mono_l : ∀ k, (∀ y0 y1 y2 y3 y4 y5 y6 y7 y8, LeO (air_lot.l0 k y0 y1 y2 y3 y4 y5 y6 y7 y8) (air_lot.l0 (k + 1) y0 y1 y2 y3 y4 y5 y6 y7 y8))
 | 0 => fun _ _ _ _ _ _ _ _ _ r h => by simp [air_lot.l0] at h
 | k + 1 => by
  have ih0 := air_lot.mono_l k
  ·intro y0 y1 y2 y3 y4 y5 y6 y7 y8; unfold air_lot.l0; repeat' first
   | (with_reducible exact ih0 _ _ _ _ _ _ _ _ _)
   | (with_reducible exact LeO.refl _)
   | (with_reducible exact LeO.none _)
   | (with_reducible refine LeO.ite ?_ ?_)
   | (with_reducible refine LeO.bind ?_ (fun _ => ?_))
   | exact ih0 _ _ _ _ _ _ _ _ _
   | exact LeO.none _
   | refine LeO.ite ?_ ?_
   | refine LeO.bind ?_ (fun _ => ?_)
theorem air_lot.mono : ∀ a0 a1 a2 a3 a4 a5 k, LeO (air_lot.f k a0 a1 a2 a3 a4 a5) (air_lot.f (k + 1) a0 a1 a2 a3 a4 a5) := by
 intro a0 a1 a2 a3 a4 a5 k; have ih0 := air_lot.mono_l k; unfold air_lot.f; repeat' first
   | (with_reducible exact ih0 _ _ _ _ _ _ _ _ _)
   | (with_reducible exact LeO.refl _)
   | (with_reducible exact LeO.none _)
   | (with_reducible refine LeO.ite ?_ ?_)
   | (with_reducible refine LeO.bind ?_ (fun _ => ?_))
   | exact ih0 _ _ _ _ _ _ _ _ _
   | exact LeO.none _
   | refine LeO.ite ?_ ?_
   | refine LeO.bind ?_ (fun _ => ?_)
def air_lot.T5 : Bool × List (List Nat × List Nat) := (true, [([], []), ([], []), ([1], [1]), ([], []), ([2, 3], [2, 3]), ([4], [4]), ([], []), ([], []), ([], []), ([6, 7, 8], [6, 7, 8]), ([5, 9], [5, 9]), ([0, 10], [0, 10]), ([11, 9, 0, 1, 2, 3, 4, 5, 6, 7, 8, 9, 10, 11], [0, 11])])
def air_lot.B5 : List Nat := [0, 0, 2, 0, 14, 30, 0, 0, 0, 448, 1022, 2047, 4095]
theorem air_lot.tab5 : rtab .any (opsOf Try.f59 5) = air_lot.T5 := by kernel_rfl
theorem air_lot.bits5 : waitsOk air_lot.T5.2 air_lot.B5 = true := by kernel_rfl
set_option maxHeartbeats 8000000 in
set_option maxRecDepth 100000 in
theorem air_lot.calls (k : Nat) (a0_0 : Int) (a0_1 : Int) (A0_2 : Option Addr) (c0_2 : Nat) (l0_2 : List Int) (A0_3 : Option Addr) (c0_3 : Nat) (l0_3 : List Int) (a1 : Int) (a2 : Int) (r1 : Int) (r2 : Int) (w : World) (hr0_2 : Kd.C (Kd.int .i64) w A0_2 l0_2.length l0_2) (hc0_2 : l0_2.length ≤ c0_2) (hr0_3 : Kd.C (Kd.int .i64) w A0_3 l0_3.length l0_3) (hc0_3 : l0_3.length ≤ c0_3) (h : air_lot.f k a0_0 a0_1 l0_2 l0_3 a1 a2 = some (r1, r2)) :
  Calls Try.prog 59 #[.agg #[.int .i64 a0_0, .int .i64 a0_1, .slice A0_2 l0_2.length c0_2, .slice A0_3 l0_3.length c0_3], .int .i64 a1, .int .i64 a2] w fun e w' => e = .returned (.tuple #[.int .i64 r1, .int .i64 r2]) ∧ Below w.heap.size w w' := by
 have hu24 := Try.underlying24; have HR0_2 := XB hr0_2; have HC0_2 := XB hc0_2; clear hr0_2 hc0_2; have HR0_3 := XB hr0_3; have HC0_3 := XB hc0_3; clear hr0_3 hc0_3; have HB := XB (Below.refl w.heap.size w); have H : (air_lot.l0 k a1 a2 0 0 a1 a0_0 a0_1 l0_2 l0_3) = some (r1, r2) := h; clear h; have H' := XB H; clear H; go_enter Try.func59, Try.ntmps59
 go_wp2_with (first | ((with_reducible refine gate_dst (N := 3) rfl ?_); refine box_event ?hg (N := 3) ?hd (cs := #[.int .i64 a0_0, .int .i64 a0_1, .slice A0_2 l0_2.length c0_2, .slice A0_3 l0_3.length c0_3]) (t := 24) ?hr ?_; (case hd => rfl); (case hg => rfl); (case hr => first | (go_simp; done) | (go_simp; rfl)); intro gb101 hg w4 hbox hb; have n0_ := XB (Xz (by repeat (first | (with_reducible first | exact HB.out | apply Xc | apply Xa | apply Xb) | exact HB.out)) hb); have n1_ := XB (hbox); have n2_ := XB ((by rw [hg]; exact (XC (by repeat (first | (with_reducible first | exact HB.out | apply Xc | apply Xa | apply Xb) | exact HB.out))) : w.heap.size ≤ gb101)); have n3_ := XB ((by rw [hg]; exact (XC (by repeat (first | (with_reducible first | exact HB.out | apply Xc | apply Xa | apply Xb) | exact HB.out))) : w.heap.size ≤ gb101)); clear HB; have HB := n0_; have J101 := n1_; have GW101 := n2_; have E101 := n3_; clear n0_ n1_ n2_ n3_; clear hb hbox hg))
 go_loopg [8, 9, 10] k (fun kq v8 v9 v10 w' => ∃ (x8_1 : Int) (x9_1 : Int) (x10_1 : Int), v8 = .int .i64 x8_1 ∧ v9 = .int .i64 x9_1 ∧ v10 = .int .i64 x10_1 ∧ Aside0 (air_lot.l0 kq a1 a2 x8_1 x9_1 x10_1 a0_0 a0_1 l0_2 l0_3 = some (r1, r2)) ∧ Aside0 (kq ≤ k) ∧ Aside0 (w'.heap[gb101]? = some (.cells #[.int .i64 a0_0, .int .i64 a0_1, (.slice A0_2 l0_2.length c0_2), (.slice A0_3 l0_3.length c0_3)] 24 (0, 0))) ∧ Aside0 (Below w.heap.size w w'))
 case atStart => exact ⟨(0), (0), (a1), YG, YG, YG, H', ⟨Nat.le_refl _⟩, ⟨by (with_reducible repeat (first | refine Xf ?_ _ | refine Xg ?_ | refine Xe ?_ _)); exact J101.out⟩, ⟨XL HB⟩⟩
 case round =>
  clear H'; try clear p2
  obtain ⟨x8_1, x9_1, x10_1, rfl, rfl, rfl, HA, HK1, J101, HB⟩ := hrel
  cases gk with
  | zero => exact absurd HA.out (by simp [air_lot.l0])
  | succ k1 =>
   have H := HA.out; clear HA; simp only [air_lot.l0] at H; by_cases c5 : x10_1 < a2
   ·rw [if_pos c5] at H; have c5b0 := decide_eq_true c5; clear c5; by_cases c6 : 0 ≤ x10_1
    ·rw [if_pos c6] at H; have c6b0 := decide_eq_true c6; clear c6; by_cases c7 : x10_1 < (l0_3.length : Int)
     ·rw [if_pos c7] at H; have c7b0 := decide_eq_true c7; clear c7; obtain ⟨t103, A8, H⟩ := YJ H; have H' := XB H; clear H; try go_wp2
      replace J101 := XB (Xg J101.out); replace HB := XB (Xb HB.out); have p102 : 0 ≤ (x10_1 : Int) := YD; have q102 : x10_1 < (l0_3.length : Int) := YD; obtain ⟨ad102, e102, hx102_0⟩ := Kd.at_int HR0_3.out x10_1 p102 q102; have hw102_0 := hx102_0
      cases e102
      replace hx102_0 := (HB.out.cell (World.block_lt_of_cell? w _ hx102_0)).trans hx102_0; replace p102 := eq_true p102; replace q102 := eq_true q102; refine start_ (n := 13) (S := fun w' => w'.cell? ⟨gb101, 0, none⟩ = some (.int .i64 a0_0) ∧ w'.cell? ⟨gb101, 1, none⟩ = some (.int .i64 a0_1) ∧ w'.cell? ⟨gb101, 2, none⟩ = some (.slice A0_2 l0_2.length c0_2) ∧ w'.cell? ⟨gb101, 3, none⟩ = some (.slice (some ad102) l0_3.length c0_3) ∧ w'.cell? (ad102.add (x10_1).toNat) = some (.int .i64 (rd l0_3 x10_1))) (ds := []) (Bq 13 0) (by kernel_rfl) rfl rfl ⟨(Xi J101.out 0).trans rfl, (Xi J101.out 1).trans rfl, (Xi J101.out 2).trans rfl, (Xi J101.out 3).trans rfl, ((HB.out.cell (World.block_lt_of_cell? w _ hw102_0)).trans hw102_0)⟩ (fun hHeld => ?_); refine with_tabW air_lot.tab5 air_lot.bits5 (fun HT_ HW_ => ?_); generalize wr.drew = w9 at J101 HB hx102_0 hHeld ⊢
      refine pure_ (i := 0) (N := some 17) (v := ?_) (a' := ?_) (Bq 13 1) rfl rfl (any_of HT_.out (by kernel_rfl)) (fun _ _ _ h => h) (Or.inl ⟨by rfl, ?_⟩) ?_ ?_; rotate_left
      ·intro w'; go_simp; with_reducible rfl
      rotate_left
      ·simp only [Act.put, Xj, Xk, Xl, i64_w, i32_w]; rfl
      refine pure_ (i := 1) (N := some 18) (v := ?_) (a' := ?_) (Bq 13 3) rfl rfl (any_of HT_.out (by kernel_rfl)) (fun _ _ _ h => h) (Or.inl ⟨by rfl, ?_⟩) ?_ ?_; rotate_left
      ·intro w'; go_simp; with_reducible rfl
      rotate_left
      ·simp only [Act.put, Xj, Xk, Xl, i64_w, i32_w]; rfl
      refine pure_ (i := 3) (N := some 20) (v := ?_) (a' := ?_) (Bq 13 11) rfl rfl (any_of HT_.out (by kernel_rfl)) (fun _ _ _ h => h) (Or.inl ⟨by rfl, ?_⟩) ?_ ?_; rotate_left
      ·intro w'; go_simp; with_reducible rfl
      rotate_left
      ·simp only [Act.put, Xj, Xk, Xl, i64_w, i32_w]; rfl
      refine pure_ (i := 7) (N := some 24) (v := ?_) (a' := ?_) (Bq 13 139) rfl rfl (any_of HT_.out (by kernel_rfl)) (fun _ _ _ h => h) (Or.inl ⟨by rfl, ?_⟩) ?_ ?_; rotate_left
      ·intro w'; go_simp; with_reducible rfl
      rotate_left
      ·simp only [Act.put, Xj, Xk, Xl, i64_w, i32_w]; rfl
      refine pure_ (i := 8) (N := some 25) (v := ?_) (a' := ?_) (Bq 13 395) rfl rfl (any_of HT_.out (by kernel_rfl)) (fun _ _ _ h => h) (Or.inl ⟨by rfl, ?_⟩) ?_ ?_; rotate_left
      ·intro w'; go_simp; with_reducible rfl
      rotate_left
      ·simp only [Act.put, Xj, Xk, Xl, i64_w, i32_w]; rfl
      refine take_ (i := 2) (N := some 19) (v := ?_) (a' := ?_) (Bq 13 399) rfl rfl (take_ofW HT_.out HW_.out (by kernel_rfl)) (fun _ _ _ h => h) (Or.inl ⟨by rfl, ?_⟩) hHeld ?_ ?_; rotate_left
      ·rintro w' ⟨s0, s1, s2, s3, s4⟩; go_simp; with_reducible rfl
      rotate_left
      ·simp only [Act.put, Xj, Xk, Xl, i64_w, i32_w]; rfl
      refine pure_ (i := 4) (N := some 21) (v := ?_) (a' := ?_) (Bq 13 415) rfl rfl (any_of HT_.out (by kernel_rfl)) (fun _ _ _ h => h) (Or.inl ⟨by rfl, ?_⟩) ?_ ?_; rotate_left
      ·intro w'; go_simp; with_reducible rfl
      rotate_left
      ·simp only [Act.put, Xj, Xk, Xl, i64_w, i32_w]; rfl
      refine take_ (i := 5) (N := some 22) (v := ?_) (a' := ?_) (Bq 13 447) rfl rfl (take_ofW HT_.out HW_.out (by kernel_rfl)) (fun _ _ _ h => h) (Or.inl ⟨by rfl, ?_⟩) hHeld ?_ ?_; rotate_left
      ·rintro w' ⟨s0, s1, s2, s3, s4⟩; go_simp; with_reducible rfl
      rotate_left
      ·simp only [Act.put, Xj, Xk, Xl, i64_w, i32_w]; rfl
      refine take_ (i := 6) (N := some 23) (v := ?_) (a' := ?_) (Bq 13 511) rfl rfl (take_ofW HT_.out HW_.out (by kernel_rfl)) (fun _ _ _ h => h) (Or.inl ⟨by rfl, ?_⟩) hHeld ?_ ?_; rotate_left
      ·rintro w' ⟨s0, s1, s2, s3, s4⟩; go_simp; with_reducible rfl
      rotate_left
      ·simp only [Act.put, Xj, Xk, Xl, i64_w, i32_w]; rfl
      refine one_ (i := 9) (N := some 26) (Bq 13 1023) rfl rfl (one_of HT_.out (by kernel_rfl)) (by decide) (fun K hK => ?_); refine goes_ Try.func67 (by kernel_rfl) rfl #[.agg #[.int .i64 a0_0, .int .i64 a0_1, .slice A0_2 l0_2.length c0_2, .slice (some ad102) l0_3.length c0_3], .int .i64 a1, .int .i64 x10_1] (by rfl) rfl rfl (by (try simp only [Xm, Xn, Xo]); first | done | rfl | (simp only [Xp, Xq]; rfl)) ?_; with_reducible refine (air_way.calls a0_0 a0_1 _ _ l0_2 _ _ l0_3 a1 x10_1 t103 _ ?side1 ?side2 ?side3 ?side4 A8.out).mono ?_
      (case side1 => exact YE HR0_2 HB)
      (case side2 => exact HC0_2.out)
      (case side3 => exact YE HR0_3 HB)
      (case side4 => exact HC0_3.out)
      rintro e w10 ⟨rfl, hb⟩; refine ⟨_, rfl, ?_⟩; replace J101 := XB (XA (g := gb101) (o := .cells #[.int .i64 a0_0, .int .i64 a0_1, .slice A0_2 l0_2.length c0_2, .slice (some ad102) l0_3.length c0_3] 24 (0, 0)) (by (with_reducible repeat (first | refine Xf ?_ _ | refine Xg ?_ | refine Xe ?_ _)); exact J101.out) hb); replace HB := XB (Xz (by repeat (first | (with_reducible first | exact HB.out | apply Xc | apply Xa | apply Xb | refine Xd ?_ E101.out) | exact HB.out)) hb); (try clear hb)
      (try clear hb2)
      (try clear hk)
      (try clear hi)
      refine hK.out _ _ ⟨(Xi J101.out 0).trans rfl, (Xi J101.out 1).trans rfl, (Xi J101.out 2).trans rfl, (Xi J101.out 3).trans rfl, ((HB.out.cell (World.block_lt_of_cell? w _ hw102_0)).trans hw102_0)⟩ (fun hHeld => ?_); clear hK K; refine norm_ (a' := ?_) ?_ ?_; rotate_left
      ·show Act.put _ (some 26) _ = _
       simp only [Act.put, Xj, Xk, Xl, i64_w, i32_w]; rfl
      refine pure_ (i := 10) (N := some 27) (v := ?_) (a' := ?_) (Bq 13 2047) rfl rfl (any_of HT_.out (by kernel_rfl)) (fun _ _ _ h => h) (Or.inl ⟨by rfl, ?_⟩) ?_ ?_; rotate_left
      ·intro w'; go_simp; with_reducible rfl
      rotate_left
      ·simp only [Act.put, Xj, Xk, Xl, i64_w, i32_w]; rfl
      refine pure_ (i := 11) (N := some 28) (v := ?_) (a' := ?_) (Bq 13 4095) rfl rfl (any_of HT_.out (by kernel_rfl)) (fun _ _ _ h => h) (Or.inl ⟨by rfl, ?_⟩) ?_ ?_; rotate_left
      ·intro w'; go_simp; with_reducible rfl
      rotate_left
      ·simp only [Act.put, Xj, Xk, Xl, i64_w, i32_w]; rfl
      refine pure_ (i := 12) (N := some 8) (v := ?_) (a' := ?_) (Bq 13 8191) rfl rfl (any_of HT_.out (by kernel_rfl)) (fun _ _ _ h => h) (Or.inl ⟨by rfl, ?_⟩) ?_ ?_; rotate_left
      ·intro w'; go_simp; with_reducible rfl
      rotate_left
      ·simp only [Act.put, Xj, Xk, Xl, i64_w, i32_w]; rfl
      refine done_ (done_of HT_.out (by kernel_rfl)) ?_; obtain ⟨hcz11_0, hcz11_1, hcz11_2, hcz11_3, hfz11_0, hfz11_1, hfz11_2, hfz11_3⟩ := YK4 J101; have p104 : 0 ≤ (x10_1 : Int) := YD; have q104 : x10_1 < (l0_3.length : Int) := YD; obtain ⟨ad104, e104, hx104_0⟩ := Kd.at_int HR0_3.out x10_1 p104 q104; obtain rfl : ad102 = ad104 := (by injection e104); replace hx104_0 := (HB.out.cell (World.block_lt_of_cell? w _ hx104_0)).trans hx104_0; replace p104 := eq_true p104; replace q104 := eq_true q104; try go_wp2
      go_roundg k1
      case measure => have := HK1.out; omega
      case rel => exact ⟨(wrap64 (x8_1 + (wrap64 ((rd l0_3 x10_1) * t103)))), (wrap64 (x9_1 + (rd l0_3 x10_1))), (wrap64 (x10_1 + 1)), YG, YG, YG, H', ⟨by have := HK1.out; omega⟩, ⟨by (with_reducible repeat (first | refine Xf ?_ _ | refine Xg ?_ | refine Xe ?_ _)); exact J101.out⟩, ⟨XL HB⟩⟩
     ·rw [if_neg c7] at H; exact absurd H (by simp)
    ·rw [if_neg c6] at H; exact absurd H (by simp)
   ·rw [if_neg c5] at H; have c5b0 := decide_eq_false c5; clear c5; by_cases c12 : x9_1 > 0
    ·rw [if_pos c12] at H; have c12b0 : decide (0 < x9_1) = true := decide_eq_true c12; clear c12; simp only [Option.some.injEq, Prod.mk.injEq] at H; obtain ⟨rfl, rfl⟩ := H; obtain ⟨hcz13_0, hcz13_1, hcz13_2, hcz13_3, hfz13_0, hfz13_1, hfz13_2, hfz13_3⟩ := YK4 J101; go_wp2
     go_ret2
     exact ⟨YF, XL HB⟩
    ·rw [if_neg c12] at H; have c12b0 : decide (0 < x9_1) = false := decide_eq_false c12; clear c12; simp only [Option.some.injEq, Prod.mk.injEq] at H; obtain ⟨rfl, rfl⟩ := H; go_wp2
     go_ret2
     exact ⟨YF, XL HB⟩

end Go.Proofs.Ytboefcikdfjfmaa.P
