-- laid by a program of this session (wip/tools): plain functions of the Go code and their contracts
-- thinned4
-- thinned
import Derived.Test.YtcbepmdnhjojdaaPx0
import Derived.Test.YtcbepmdnhjojdaaPx2
namespace Go.Proofs.Ytcbepmdnhjojdaa.P
open Go.RowKit Go.Proofs.YtcbepmdnhjojdaaW.PrintWords Go.Proofs.YtcbepmdnhjojdaaW.PrintLast Go.Proofs.YtcbepmdnhjojdaaW.PrintMore
attribute [local go_sem] max2_int min2_int max_two min_two max_three min_three max_four min_four   -- for this text's walks alone
set_option linter.unusedVariables false
set_option linter.unusedSimpArgs false

/-! ### log_pairsOut: function 64 -/
/-! ### Which pairs lie outside: a closure that captures the two logs -/
def log_pout (n q : Nat) (p0 p1 : Int) : Bool := !(decide (0 ≤ p0 ∧ p0 ≤ (n : Int) - 1)) || !(decide (0 ≤ p1 ∧ p1 ≤ (q : Int) - 1))
theorem log_within_eq (a b c : Int) : log_within.f a b c = some (decide (b ≤ a ∧ a ≤ c)) := by
 unfold log_within.f; by_cases h : b ≤ a
 ·rw [if_pos h]; congr 1; exact decide_eq_decide.2 ⟨fun q => ⟨h, q⟩, fun q => q.2⟩
 ·rw [if_neg h]; congr 1; exact (decide_eq_false (fun q => h q.1)).symm
set_option maxHeartbeats 8000000 in
set_option maxRecDepth 100000 in
theorem log_pin.calls (p0 p1 : Int) (A0 A1 : Option Addr) (n q c0 c1 gL gM : Nat) (w : World) (hn : n ≤ 1000) (hq : q ≤ 1000) (hL : w.heap[gL]? = some (.cells #[.slice A0 n c0] 22 (0, 0))) (hM : w.heap[gM]? = some (.cells #[.slice A1 q c1] 22 (0, 0))) :
  Calls Try.prog 65 #[.agg #[.int .i64 p0, .int .i64 p1], .pointer (some ⟨gL, 0, none⟩), .pointer (some ⟨gM, 0, none⟩)] w fun e w' => e = .returned (.bool (log_pout n q p0 p1)) ∧ Below w.heap.size w w' := by
 have hu65 := Try.underlying65; have HB := XB (Below.refl w.heap.size w); have HL := XB hL; have HM := XB hM; clear hL hM; have en : IntKind.i64.wrap ((n : Int) - 1) = (n : Int) - 1 := by rw [i64_w]; unfold wrap64; omega
 have eq_ : IntKind.i64.wrap ((q : Int) - 1) = (q : Int) - 1 := by rw [i64_w]; unfold wrap64; omega
 have w1 := XB (log_within_eq p0 0 ((n : Int) - 1)); have w2 := XB (log_within_eq p1 0 ((q : Int) - 1)); by_cases c1 : 0 ≤ p0 ∧ p0 ≤ (n : Int) - 1
 ·have d1 : decide (0 ≤ p0 ∧ p0 ≤ (n : Int) - 1) = true := decide_eq_true c1; have er : log_pout n q p0 p1 = !(decide (0 ≤ p1 ∧ p1 ≤ (q : Int) - 1)) := by unfold log_pout; rw [d1]; rfl
  rw [er]; rw [d1] at w1; generalize decide (0 ≤ p1 ∧ p1 ≤ (q : Int) - 1) = d at w2
  clear c1 d1 er hn hq; go_enter Try.func65, Try.ntmps65
  go_wp2_with (first | ((with_reducible refine gate_dst (N := 3) rfl ?_); refine box_event ?hg (N := 3) ?hd (cs := #[.int .i64 p0, .int .i64 p1]) (t := 65) ?hr ?_; (case hd => rfl); (case hg => rfl); (case hr => first | (go_simp; done) | (go_simp; rfl)); intro gb101 hg w5 hbox hb; have hl1 := XA HL.out hb; have hm1 := XA HM.out hb; have n0_ := XB (Xz HB.out hb); clear HB; have HB := n0_; clear n0_ hb hg; have BK := XB hbox; have hc0 : w5.cell? ⟨gb101, 0, none⟩ = some (.int .i64 p0) := (Xi hbox 0).trans rfl; have hc1 : w5.cell? ⟨gb101, 1, none⟩ = some (.int .i64 p1) := (Xi hbox 1).trans rfl; have hcl : w5.cell? ⟨gL, 0, none⟩ = some (.slice A0 n c0) := (Xi hl1 0).trans rfl; have hcm : w5.cell? ⟨gM, 0, none⟩ = some (.slice A1 q c1) := (Xi hm1 0).trans rfl; have HL5 := XB hl1; have HM5 := XB hm1; clear hbox hl1 hm1) | (go_at_call 66; (with_reducible refine (log_within.calls p0 0 ((n : Int) - 1) _ _ w1.out).mono ?_); rintro e w' ⟨rfl, ⟨nd, rfl⟩⟩) | (go_at_call 66; (with_reducible refine (log_within.calls p1 0 ((q : Int) - 1) _ _ w2.out).mono ?_); rintro e w' ⟨rfl, ⟨nd, rfl⟩⟩))
  first | go_ret | go_ret2
  exact ⟨by first | rfl | (simp; done) | (simp [*]; done), XL HB⟩
 ·have d1 : decide (0 ≤ p0 ∧ p0 ≤ (n : Int) - 1) = false := decide_eq_false c1; have er : log_pout n q p0 p1 = true := by unfold log_pout; rw [d1]; rfl
  rw [er]; rw [d1] at w1; clear c1 d1 er hn hq; go_enter Try.func65, Try.ntmps65
  go_wp2_with (first | ((with_reducible refine gate_dst (N := 3) rfl ?_); refine box_event ?hg (N := 3) ?hd (cs := #[.int .i64 p0, .int .i64 p1]) (t := 65) ?hr ?_; (case hd => rfl); (case hg => rfl); (case hr => first | (go_simp; done) | (go_simp; rfl)); intro gb101 hg w5 hbox hb; have hl1 := XA HL.out hb; have hm1 := XA HM.out hb; have n0_ := XB (Xz HB.out hb); clear HB; have HB := n0_; clear n0_ hb hg; have BK := XB hbox; have hc0 : w5.cell? ⟨gb101, 0, none⟩ = some (.int .i64 p0) := (Xi hbox 0).trans rfl; have hc1 : w5.cell? ⟨gb101, 1, none⟩ = some (.int .i64 p1) := (Xi hbox 1).trans rfl; have hcl : w5.cell? ⟨gL, 0, none⟩ = some (.slice A0 n c0) := (Xi hl1 0).trans rfl; have hcm : w5.cell? ⟨gM, 0, none⟩ = some (.slice A1 q c1) := (Xi hm1 0).trans rfl; have HL5 := XB hl1; have HM5 := XB hm1; clear hbox hl1 hm1) | (go_at_call 66; (with_reducible refine (log_within.calls p0 0 ((n : Int) - 1) _ _ w1.out).mono ?_); rintro e w' ⟨rfl, ⟨nd, rfl⟩⟩))
  first | go_ret | go_ret2
  exact ⟨by first | rfl | (simp; done) | (simp [*]; done), XL HB⟩
theorem log_goesP {P : Program} {ops : Array Oper} {rest : List Oper} {oi : Oper} {a : Act} {Q : Exit → Act → World → Prop} {w : World} {t : Tmp} (N : Option Tmp) (hd : oi.dst = N) (hg : oi.guard = none) {f : FuncId} {fn : Func} {as1 : Array Operand} {ts : Array TypeId} (hf : P.funcs[f]? = some fn) (hname : (fn.name == "runtime.NumGoroutine") = false) (hb : fn.body.isSome = true) (fs cs args : Array Value)
  (hop : oi.op = .call { callee := .value (.tmp t), args := as1, argTypes := ts }) (hev : a.eval (.tmp t) = .func (.func f) fs cs) (hargs : fs ++ as1.map a.eval ++ cs = args)
  (h : Calls P f args w fun e w' => ∃ v, e = .returned v ∧ wpList P ops Q rest (a.put N v) w') : wpList P ops Q (oi :: rest) a w := by
 subst hargs; refine wpList_plain hg fun K hK => ?_
 have he := enters_ hf hname hb (fs ++ as1.map a.eval ++ cs) w; have hrun : (execOp a.eval oi).run P w = .ok (.enter f (fs ++ as1.map a.eval ++ cs)) w := by
  unfold execOp; simp [hop, hev, resolve, Deferred.ofValue, invoke]
  simpa using he
 unfold Oper.wp; rw [hrun, Oper.upon_enter]; refine h.mono fun e w'' hh => ?_
 obtain ⟨v, rfl, hk⟩ := hh; subst hd; exact hK _ _ hk
set_option maxHeartbeats 8000000 in
set_option maxRecDepth 100000 in
theorem log_pidx.calls (A0 A1 : Option Addr) (n q c0 c1 gL gM : Nat) (A3 : Option Addr) (c3 : Nat) (ps : List S65) (w : World) (hn : n ≤ 1000) (hq : q ≤ 1000) (hL : w.heap[gL]? = some (.cells #[.slice A0 n c0] 22 (0, 0))) (hM : w.heap[gM]? = some (.cells #[.slice A1 q c1] 22 (0, 0))) (hr3 : Kd.C k65 w A3 ps.length ps) (hc3 : ps.length ≤ c3) (hp : ps.length ≤ 1000) :
  Calls Try.prog 86 #[.slice A3 ps.length c3, .func (.func 65) #[] #[.pointer (some ⟨gL, 0, none⟩), .pointer (some ⟨gM, 0, none⟩)]] w fun e w' => ∃ j : Int, e = .returned (.int .i64 j) ∧ (0 ≤ j ↔ ps.any (fun p => log_pout n q p.f0 p.f1) = true) ∧ Below w.heap.size w w' := by
 have hu65 := Try.underlying65; have HL := XB hL; have HM := XB hM; have HN := XB hn; have HQ := XB hq; have HR3 := XB hr3; have HC3 := XB hc3; have HP := XB hp; have HB := XB (Below.refl w.heap.size w); clear hL hM hn hq hr3 hc3 hp; go_enter Try.func86, Try.ntmps86
 go_wp2
 go_loopg [8] (ps.length + 1) (fun kq v8 w' => ∃ (i : Nat), v8 = .int .i64 (i : Int) ∧ Aside0 (i + kq = ps.length + 1) ∧ Aside0 (∀ j : Nat, j < i → log_pout n q (rd_T65 ps (j : Int)).f0 (rd_T65 ps (j : Int)).f1 = false) ∧ Aside0 (Below w.heap.size w w'))
 case atStart => exact ⟨0, rfl, ⟨by omega⟩, ⟨fun j hj => absurd hj (Nat.not_lt_zero _)⟩, HB⟩
 case round =>
  clear HB; obtain ⟨i, rfl, HK, HF, HB⟩ := hrel; by_cases c : (i : Int) < (ps.length : Int)
  ·have cb : decide ((i : Int) < (ps.length : Int)) = true := decide_eq_true c; obtain ⟨ad, e3, hx0, hx1⟩ := at_T65 HR3.out (i : Int) (by omega) c; subst e3; rw [Int.toNat_natCast] at hx0 hx1; have hy0 := (HB.out.cell (World.block_lt_of_cell? w _ hx0)).trans hx0; have hy1 := (HB.out.cell (World.block_lt_of_cell? w _ hx1)).trans hx1; have HX := XB hx0; have HX1 := XB hx1; clear hx0 hx1; have b0 : (0 : Int) ≤ (i : Int) := by omega
   have ei : IntKind.i64.wrap ((i : Int) + 1) = ((i + 1 : Nat) : Int) := by have := HP.out; rw [i64_w]; unfold wrap64; omega
   have hlr := XA HL.out HB.out; have hmr := XA HM.out HB.out; have HPC := XB (fun W (hb : Below wr.heap.size wr W) => log_pin.calls (rd_T65 ps (i : Int)).f0 (rd_T65 ps (i : Int)).f1 A0 A1 n q c0 c1 gL gM W HN.out HQ.out (XA hlr hb) (XA hmr hb)); clear hlr hmr; obtain ⟨pv, hpv⟩ : ∃ pv, log_pout n q (rd_T65 ps (i : Int)).f0 (rd_T65 ps (i : Int)).f1 = pv := ⟨_, rfl⟩
   have HPV := XB hpv; rw [hpv] at HPC; clear hpv; obtain ⟨k1, rfl⟩ : ∃ k1, gk = k1 + 1 := ⟨gk - 1, by have := HK.out; omega⟩
   cases pv with
   | true =>
    go_wp2_with ((with_reducible refine Go.Proofs.YtcbepmdnhjojdaaW.PrintHand.gate_calleeT (t := 11) rfl ?_); refine log_goesP (t := 11) (some 16) rfl rfl Try.func65 (by kernel_rfl) rfl #[] #[.pointer (some ⟨gL, 0, none⟩), .pointer (some ⟨gM, 0, none⟩)] #[.agg #[.int .i64 (rd_T65 ps (i : Int)).f0, .int .i64 (rd_T65 ps (i : Int)).f1], .pointer (some ⟨gL, 0, none⟩), .pointer (some ⟨gM, 0, none⟩)] rfl rfl (by (try simp only [Xm, Xn, Xo]); first | done | rfl) ?_; refine (HPC.out _ (by repeat (first | (with_reducible first | exact Below.refl _ _ | apply Xc | apply Xa | apply Xb) | exact Below.refl _ _))).mono ?_; rintro e w7 ⟨rfl, hb7⟩; refine ⟨_, rfl, ?_⟩; have HB7 := XB hb7; clear hb7)
    first | go_ret | go_ret2
    refine ⟨_, rfl, ⟨fun _ => ?_, fun _ => by omega⟩, ?_⟩
    ·rw [List.any_eq_true]; have hi : i < ps.length := by omega
     refine ⟨ps[i], List.getElem_mem hi, ?_⟩; have := HPV.out; rw [show rd_T65 ps (i : Int) = ps[i] from by unfold rd_T65; rw [Int.toNat_natCast, List.getD_eq_getElem?_getD, List.getElem?_eq_getElem hi]; rfl] at this; exact this
    ·exact HB.out.trans (HB7.out.mono (XC HB.out))
   | false =>
    go_wp2_with ((with_reducible refine Go.Proofs.YtcbepmdnhjojdaaW.PrintHand.gate_calleeT (t := 11) rfl ?_); refine log_goesP (t := 11) (some 16) rfl rfl Try.func65 (by kernel_rfl) rfl #[] #[.pointer (some ⟨gL, 0, none⟩), .pointer (some ⟨gM, 0, none⟩)] #[.agg #[.int .i64 (rd_T65 ps (i : Int)).f0, .int .i64 (rd_T65 ps (i : Int)).f1], .pointer (some ⟨gL, 0, none⟩), .pointer (some ⟨gM, 0, none⟩)] rfl rfl (by (try simp only [Xm, Xn, Xo]); first | done | rfl) ?_; refine (HPC.out _ (by repeat (first | (with_reducible first | exact Below.refl _ _ | apply Xc | apply Xa | apply Xb) | exact Below.refl _ _))).mono ?_; rintro e w7 ⟨rfl, hb7⟩; refine ⟨_, rfl, ?_⟩; have HB7 := XB hb7; clear hb7)
    go_roundg k1
    case measure => omega
    case rel => exact ⟨i + 1, rfl, ⟨by have := HK.out; omega⟩, ⟨fun j hj => by
         by_cases e : j = i
         ·rw [e]; exact HPV.out
         ·exact HF.out j (by omega)⟩, ⟨HB.out.trans (HB7.out.mono (XC HB.out))⟩⟩
  ·have cb : decide ((i : Int) < (ps.length : Int)) = false := decide_eq_false c; go_wp2
   first | go_ret | go_ret2
   refine ⟨_, rfl, ⟨fun h => absurd h (by decide), fun h => ?_⟩, HB.out⟩; obtain ⟨p, hp, e⟩ : ∃ x, x ∈ ps ∧ log_pout n q x.f0 x.f1 = true := by first | exact h | exact List.any_eq_true.1 h
   obtain ⟨j, hj, rfl⟩ := List.getElem_of_mem hp; have := HF.out j (by omega); rw [show rd_T65 ps (j : Int) = ps[j] from by unfold rd_T65; rw [Int.toNat_natCast, List.getD_eq_getElem?_getD, List.getElem?_eq_getElem hj]; rfl] at this; rw [e] at this; exact absurd this (by decide)
set_option maxHeartbeats 8000000 in
set_option maxRecDepth 100000 in
theorem log_pany.calls (A0 A1 : Option Addr) (n q c0 c1 gL gM : Nat) (A3 : Option Addr) (c3 : Nat) (ps : List S65) (w : World) (hn : n ≤ 1000) (hq : q ≤ 1000) (hL : w.heap[gL]? = some (.cells #[.slice A0 n c0] 22 (0, 0))) (hM : w.heap[gM]? = some (.cells #[.slice A1 q c1] 22 (0, 0))) (hr3 : Kd.C k65 w A3 ps.length ps) (hc3 : ps.length ≤ c3) (hp : ps.length ≤ 1000) :
  Calls Try.prog 64 #[.slice A3 ps.length c3, .func (.func 65) #[] #[.pointer (some ⟨gL, 0, none⟩), .pointer (some ⟨gM, 0, none⟩)]] w fun e w' => e = .returned (.bool (ps.any (fun p => log_pout n q p.f0 p.f1))) ∧ Below w.heap.size w w' := by
 obtain ⟨r, hr⟩ : ∃ r, r = ps.any (fun p => log_pout n q p.f0 p.f1) := ⟨_, rfl⟩
 rw [← hr]; have HC := XB (log_pidx.calls A0 A1 n q c0 c1 gL gM A3 c3 ps w hn hq hL hM hr3 hc3 hp); have HR := XB hr; clear hr hL hM hn hq hr3 hc3 hp; go_enter Try.func64, Try.ntmps64
 go_wp2_with (go_at_call 86; refine HC.out.mono ?_; rintro e w6 ⟨j, rfl, hj, hb⟩; have HJ := XB hj; have HB6 := XB hb; clear hj hb)
 first | go_ret | go_ret2
 refine ⟨?_, HB6.out⟩; have h := HJ.out; have e : decide (0 ≤ j) = r := by
  rw [HR.out]
  cases hb : ps.any (fun p => log_pout n q p.f0 p.f1) with
  | true => exact decide_eq_true (h.2 hb)
  | false => exact decide_eq_false (fun q => by have := h.1 q; rw [hb] at this; exact absurd this (by decide))
 first | (rw [← e]; done) | (simp only [ge_iff_le, e]; done) | (simp [← e]; done)
def log_pairsOut.f (l3 : List S65) (l0 l1 : List Int) : Option Bool := if l0.length ≤ 1000 ∧ l1.length ≤ 1000 ∧ l3.length ≤ 1000 then some (l3.any (fun p => log_pout l0.length l1.length p.f0 p.f1)) else none
theorem log_pairsOut.calls {A0 A1 A3 : Option Addr} {c0 c1 c3 gL gM : Nat} (l3 : List S65) (l0 l1 : List Int) (r : Bool) (w : World) (hL : w.heap[gL]? = some (.cells #[.slice A0 l0.length c0] 22 (0, 0))) (hM : w.heap[gM]? = some (.cells #[.slice A1 l1.length c1] 22 (0, 0))) (hr3 : Kd.C k65 w A3 l3.length l3) (hc3 : l3.length ≤ c3) (h : log_pairsOut.f l3 l0 l1 = some r) :
  Calls Try.prog 64 #[.slice A3 l3.length c3, .func (.func 65) #[] #[.pointer (some ⟨gL, 0, none⟩), .pointer (some ⟨gM, 0, none⟩)]] w fun e w' => e = .returned (.bool r) ∧ Below w.heap.size w w' := by
 unfold log_pairsOut.f at h; split at h
 ·rename_i hc
  obtain rfl := Option.some.inj h; exact log_pany.calls A0 A1 l0.length l1.length c0 c1 gL gM A3 c3 l3 w hc.1 hc.2.1 hL hM hr3 hc3 hc.2.2
 ·exact absurd h (by simp)


end Go.Proofs.Ytcbepmdnhjojdaa.P
