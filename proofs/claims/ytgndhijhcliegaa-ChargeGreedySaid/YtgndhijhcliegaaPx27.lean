-- laid by a program of this session (wip/tools): plain functions of the Go code and their contracts
-- thinned
import Derived.Test.YtgndhijhcliegaaPx0
import Derived.Test.YtgndhijhcliegaaPx1
import Derived.Test.YtgndhijhcliegaaPx26
namespace Go.Proofs.Ytgndhijhcliegaa.P
open Go.RowKit Go.Proofs.YtgndhijhcliegaaW.PrintWords Go.Proofs.YtgndhijhcliegaaW.PrintLast Go.Proofs.YtgndhijhcliegaaW.PrintMore
attribute [local go_sem] max2_int min2_int max_two min_two max_three min_three max_four min_four   -- for this text's walks alone
set_option linter.unusedVariables false
set_option linter.unusedSimpArgs false

/-! ### bits_Mul32: function 92 -/
def bits_Mul32.f (a0 : Int) (a1 : Int) : Option (Int × Int) := some (((IntKind.u64.wrap ((IntKind.u64.wrap (a0)) * (IntKind.u64.wrap (a1)))) / 4294967296) % 4294967296, (IntKind.u64.wrap ((IntKind.u64.wrap (a0)) * (IntKind.u64.wrap (a1)))) % 4294967296)
set_option maxHeartbeats 8000000 in
set_option maxRecDepth 100000 in
theorem bits_Mul32.calls (a0 : Int) (a1 : Int) (r1 : Int) (r2 : Int) (w : World) (h : bits_Mul32.f a0 a1 = some (r1, r2)) :
  Calls Try.prog 92 #[.int .u32 a0, .int .u32 a1] w fun e w' => e = .returned (.tuple #[.int .u32 r1, .int .u32 r2]) ∧ Drawn0 w w' := by
 have H : (some (((IntKind.u64.wrap ((IntKind.u64.wrap (a0)) * (IntKind.u64.wrap (a1)))) / 4294967296) % 4294967296, (IntKind.u64.wrap ((IntKind.u64.wrap (a0)) * (IntKind.u64.wrap (a1)))) % 4294967296)) = some (r1, r2) := h; clear h; simp only [Option.some.injEq, Prod.mk.injEq] at H; obtain ⟨rfl, rfl⟩ := H; go_enter Try.func92, Try.ntmps92
 go_wp2
 go_ret2
 exact ⟨by first | rfl | (simp; done) | (simp [*]; done), by repeat (first | exact Drawn0.refl _ | apply Drawn0.step)⟩

/-! ### bits_Mul64: function 93 -/
def bits_Mul64.f (a0 : Int) (a1 : Int) : Option (Int × Int) := some (IntKind.u64.wrap ((IntKind.u64.wrap ((IntKind.u64.wrap ((a0 / 4294967296) * (a1 / 4294967296))) + ((IntKind.u64.wrap ((IntKind.u64.wrap ((a0 / 4294967296) * (Go.bits .and .u64 a1 4294967295))) + ((IntKind.u64.wrap ((Go.bits .and .u64 a0 4294967295) * (Go.bits .and .u64 a1 4294967295))) / 4294967296))) / 4294967296))) + ((IntKind.u64.wrap ((Go.bits .and .u64 (IntKind.u64.wrap ((IntKind.u64.wrap ((a0 / 4294967296) * (Go.bits .and .u64 a1 4294967295))) + ((IntKind.u64.wrap ((Go.bits .and .u64 a0 4294967295) * (Go.bits .and .u64 a1 4294967295))) / 4294967296))) 4294967295) + (IntKind.u64.wrap ((Go.bits .and .u64 a0 4294967295) * (a1 / 4294967296))))) / 4294967296)), IntKind.u64.wrap (a0 * a1))
set_option maxHeartbeats 8000000 in
set_option maxRecDepth 100000 in
theorem bits_Mul64.calls (a0 : Int) (a1 : Int) (r1 : Int) (r2 : Int) (w : World) (h : bits_Mul64.f a0 a1 = some (r1, r2)) :
  Calls Try.prog 93 #[.int .u64 a0, .int .u64 a1] w fun e w' => e = .returned (.tuple #[.int .u64 r1, .int .u64 r2]) ∧ Drawn0 w w' := by
 have H : (some (IntKind.u64.wrap ((IntKind.u64.wrap ((IntKind.u64.wrap ((a0 / 4294967296) * (a1 / 4294967296))) + ((IntKind.u64.wrap ((IntKind.u64.wrap ((a0 / 4294967296) * (Go.bits .and .u64 a1 4294967295))) + ((IntKind.u64.wrap ((Go.bits .and .u64 a0 4294967295) * (Go.bits .and .u64 a1 4294967295))) / 4294967296))) / 4294967296))) + ((IntKind.u64.wrap ((Go.bits .and .u64 (IntKind.u64.wrap ((IntKind.u64.wrap ((a0 / 4294967296) * (Go.bits .and .u64 a1 4294967295))) + ((IntKind.u64.wrap ((Go.bits .and .u64 a0 4294967295) * (Go.bits .and .u64 a1 4294967295))) / 4294967296))) 4294967295) + (IntKind.u64.wrap ((Go.bits .and .u64 a0 4294967295) * (a1 / 4294967296))))) / 4294967296)), IntKind.u64.wrap (a0 * a1))) = some (r1, r2) := h; clear h; simp only [Option.some.injEq, Prod.mk.injEq] at H; obtain ⟨rfl, rfl⟩ := H; go_enter Try.func93, Try.ntmps93
 go_wp2
 go_ret2
 exact ⟨by first | rfl | (simp; done) | (simp [*]; done), by repeat (first | exact Drawn0.refl _ | apply Drawn0.step)⟩

/-! ### bits_Mul: function 81 -/
def bits_Mul.f (a0 : Int) (a1 : Int) : Option (Int × Int) := (bits_Mul64.f a0 a1).bind fun bt101 => (some (bt101.1, bt101.2))
set_option maxHeartbeats 8000000 in
set_option maxRecDepth 100000 in
theorem bits_Mul.calls (a0 : Int) (a1 : Int) (r1 : Int) (r2 : Int) (w : World) (h : bits_Mul.f a0 a1 = some (r1, r2)) :
  Calls Try.prog 81 #[.int .u64 a0, .int .u64 a1] w fun e w' => e = .returned (.tuple #[.int .u64 r1, .int .u64 r2]) ∧ Drawn0 w w' := by
 have H : ((bits_Mul64.f a0 a1).bind fun bt101 => (some (bt101.1, bt101.2))) = some (r1, r2) := h; clear h; replace H := Option.bind_eq_some_iff.mp H; obtain ⟨⟨t101, t102⟩, A30, H⟩ := H; replace H : (some (t101, t102)) = some (r1, r2) := H; have A3 := XB A30; clear A30; simp only [Option.some.injEq, Prod.mk.injEq] at H; obtain ⟨rfl, rfl⟩ := H; go_enter Try.func81, Try.ntmps81
 go_wp2_with (first | ((with_reducible refine gate_callee (f := 93) rfl ?_); refine goesL_ (some 25) rfl rfl Try.func93 (by kernel_rfl) rfl #[.int .u64 a0, .int .u64 a1] rfl (by (try simp only [Xm, Xn, Xo]); first | done | rfl | (simp only [Xp, Xq]; rfl)) ?_; (with_reducible refine (bits_Mul64.calls a0 a1 t101 t102 _ A3.out).mono ?_); rintro e w' ⟨rfl, ⟨nd, rfl⟩⟩; refine ⟨_, rfl, ?_⟩))
 go_ret2
 exact ⟨by first | rfl | (simp; done) | (simp [*]; done), by repeat (first | exact Drawn0.refl _ | apply Drawn0.step)⟩

/-! ### slices_Repeat_int_int: function 59 -/
theorem slices_Repeat_int_int.mul_small (a b : Nat) (ha : a ≤ 1000000) (hb : b ≤ 1000000) : bits_Mul.f (a : Int) (b : Int) = some (0, ((a * b : Nat) : Int)) := by
 have hab : a * b ≤ 1000000000000 := Nat.le_trans (Nat.mul_le_mul ha hb) (by decide); have w64 : ∀ n : Nat, n < 18446744073709551616 → IntKind.u64.wrap (n : Int) = n := by
  intro n hn; simp [IntKind.wrap, IntKind.bits, IntKind.signed]
  omega
 have hm : ∀ n : Nat, n < 4294967296 → Go.bits .and .u64 (n : Int) 4294967295 = n := by
  intro n hn; have := bits_and_u64_nat n 4294967295 (by omega) (by omega); rw [show ((4294967295 : Nat) : Int) = 4294967295 from rfl] at this; rw [this]; congr 1
  rw [show (4294967295 : Nat) = 2 ^ 32 - 1 from rfl, Nat.and_two_pow_sub_one_eq_mod]; exact Nat.mod_eq_of_lt (by simpa using hn)
 have ea : (a : Int) / 4294967296 = 0 := by omega
 have eb : (b : Int) / 4294967296 = 0 := by omega
 have z64 : IntKind.u64.wrap 0 = 0 := w64 0 (by decide); have p64 : IntKind.u64.wrap ((a : Int) * b) = ((a * b : Nat) : Int) := by rw [← Int.natCast_mul]; exact w64 _ (by omega)
 have ed : (((a * b : Nat) : Int)) / 4294967296 = ((a * b / 4294967296 : Nat) : Int) := by omega
 have q64 : IntKind.u64.wrap ((a * b / 4294967296 : Nat) : Int) = ((a * b / 4294967296 : Nat) : Int) := w64 _ (by omega); have hq := hm (a * b / 4294967296) (by omega); have er : ((a * b / 4294967296 : Nat) : Int) / 4294967296 = 0 := by omega
 unfold bits_Mul.f bits_Mul64.f; simp only [Option.bind_some, ea, eb, hm a (by omega), hm b (by omega), Int.zero_mul, Int.mul_zero, z64, p64, Int.zero_add, Int.add_zero, ed, q64, hq, er]

def slices_Repeat_int_int.f (l0 : List Int) (a1 : Int) : Option (List Int) := if 0 < l0.length then (if l0.length ≤ 1000 then (if 1 ≤ a1 then (if a1 ≤ 1000 then (some (List.replicate a1.toNat l0).flatten) else none) else none) else none) else none
set_option maxHeartbeats 8000000 in
set_option maxRecDepth 100000 in
theorem slices_Repeat_int_int.calls (A0 : Option Addr) (c0 : Nat) (l0 : List Int) (a1 : Int) (r : List Int) (w : World) (hr0 : Kd.C (Kd.int .i64) w A0 l0.length l0) (hc0 : l0.length ≤ c0) (h : slices_Repeat_int_int.f l0 a1 = some r) :
  Calls Try.prog 59 #[.slice A0 l0.length c0, .int .i64 a1] w fun e w' => ∃ v0_ : Value, e = .returned (v0_) ∧ Kd.R (Kd.int .i64) 3 w' w.heap.size (fun _ => True) v0_ r ∧ Below w.heap.size w w' := by
 obtain ⟨H1, H2, H3, H4, rfl⟩ : 0 < l0.length ∧ l0.length ≤ 1000 ∧ 1 ≤ a1 ∧ a1 ≤ 1000 ∧ (List.replicate a1.toNat l0).flatten = r := by
  unfold slices_Repeat_int_int.f at h; split at h
  ·split at h
   ·split at h
    ·split at h
     ·exact ⟨‹_›, ‹_›, ‹_›, ‹_›, Option.some.inj h⟩
     ·cases h
    ·cases h
   ·cases h
  ·cases h
 clear h; obtain ⟨m, rfl⟩ := Int.eq_ofNat_of_zero_le (show 0 ≤ a1 by omega); rw [Int.toNat_natCast]; obtain ⟨L, hL⟩ : ∃ L, L = l0.length := ⟨_, rfl⟩
 have HL := XB hL; rw [← hL] at H1 H2 hc0; rw [show l0.length = L from hL.symm] at hr0 ⊢; clear hL; have hmul := slices_Repeat_int_int.mul_small L m (by omega) (by omega); have HM := XB hmul; clear hmul; have hb1 : L * m ≤ 1000000 := Nat.le_trans (Nat.mul_le_mul H2 (show m ≤ 1000 by omega)) (by decide); obtain ⟨M, hM⟩ : ∃ M, M = L * m := ⟨_, rfl⟩
 rw [← hM] at HM hb1; have HMM := XB hM; have hLM : L ≤ M := by rw [hM]; exact Nat.le_mul_of_pos_right _ (by omega)
 clear hM; have HR0 := XB hr0; have HC0 := XB hc0; clear hr0 hc0; have HF : Aside0 (Go.Proofs.YtgndhijhcliegaaW.PrintHand.Flat (Kd.int .i64)) := XB (by
  exact fun _ _ _ _ _ _ h => h)
 have wL : IntKind.u64.wrap (L : Int) = L := by simp [IntKind.wrap, IntKind.bits, IntKind.signed]; omega
 have wm : IntKind.u64.wrap (m : Int) = m := by simp [IntKind.wrap, IntKind.bits, IntKind.signed]; omega
 have wM : IntKind.i64.wrap (M : Int) = M := by rw [IntKind.wrap_i64]; omega
 have t1 : decide ((m : Int) < 0) = false := decide_eq_false (by omega); have t2 : decide ((M : Int) > 9223372036854775807) = false := decide_eq_false (by omega); obtain ⟨ad, cs, hA0, hrep, hcs⟩ := Go.Proofs.YtgndhijhcliegaaW.PrintHand.C_cells HR0.out HL.out.symm H1; subst hA0; have hcl0 : cs.length = l0.length * 1 := hrep.1; have hcl : cs.length = L * 1 := by rw [hcl0, HL.out]
 clear hcl0; have HREP := XB hrep; have HCS := XB hcs; have HCL := XB hcl; have H1C : Aside0 (∀ v ∈ cs, v.oneCell' = true) := XB (by
  intro u hu
  obtain ⟨j, hj⟩ := List.getElem?_of_mem hu
  have hjl : j < cs.length := (List.getElem?_eq_some_iff.1 hj).1
  have hq : j / 1 < l0.length := by rw [hcl, HL.out] at hjl; omega
  have hk := hrep.2 (j / 1) _ (List.getElem?_eq_getElem hq)
  refine (Kd.int .i64).K_one hk u ?_
  refine List.mem_of_getElem? (i := j % 1) ?_
  have hs : (Kd.int .i64).sz = 1 := rfl
  rw [hs, List.getElem?_take_of_lt (Nat.mod_lt _ (by decide)), List.getElem?_drop]
  rw [show j / 1 * 1 + j % 1 = j by omega]
  exact hj)
 clear hrep hcs hcl; obtain ⟨Pt, hPt⟩ : ∃ Pt, Pt = (List.replicate m cs).flatten := ⟨_, rfl⟩
 have hPl : Pt.length = M * 1 := by rw [hPt, List.length_flatten]; simp [HCL.out, HMM.out]; (first | (rw [← Nat.mul_assoc, Nat.mul_comm m L]; done) | exact Nat.mul_comm m L)
 have hP0 : Pt.take (L * 1) = cs := by
  obtain ⟨m', rfl⟩ : ∃ m', m = m' + 1 := ⟨m - 1, by omega⟩
  rw [hPt, List.replicate_succ, List.flatten_cons, ← HCL.out, List.take_left']; rfl
 have HP := XB hPt; have HPL := XB hPl; have HP0 := XB hP0; have HP1 : Aside0 (∀ v ∈ Pt, v.oneCell' = true) := XB (by
  intro v hv
  rw [hPt] at hv
  obtain ⟨l, hl, hv⟩ := List.mem_flatten.1 hv
  rw [List.eq_of_mem_replicate hl] at hv
  exact H1C.out v hv)
 clear hPt hPl hP0; have hi : (Try.prog.info? 3).map (·.size) = some 1 := by
  have := info3; revert this
  cases Try.prog.info? 3 with
  | none => intro h_; cases h_
  | some i_ => intro h_; simp only [Option.map_some, Option.some.injEq, Prod.mk.injEq] at h_; exact congrArg some h_.2.1
 have HI := XB hi; clear hi; have HMIN := XB (show Nat.min L M = L from Nat.min_eq_left hLM); go_enter Try.func59, Try.ntmps59
 go_wp2_with (first | ((with_reducible refine gate_callee (f := 81) rfl ?_); refine goesL_ (some 18) rfl rfl Try.func81 (by kernel_rfl) rfl #[.int .u64 (L : Int), .int .u64 (m : Int)] rfl (by (try simp only [Xm, Xn, Xo]); first | done | rfl | (go_simp; done)) ?_; (with_reducible refine (bits_Mul.calls (L : Int) (m : Int) 0 (M : Int) _ HM.out).mono ?_); rintro e w1 ⟨rfl, ⟨nd, rfl⟩⟩; refine ⟨_, rfl, ?_⟩) | ((with_reducible refine gate_dst (N := 30) rfl ?_); refine Kd.R_make (Kd.int .i64) _ 3 rfl (N := 30) rfl 22 _ _ rfl (M : Int) rfl rfl Try.underlying22 (.int .i64 0) 8 info3 rfl (by decide) (by omega) (0 : Int) (ok := fun _ => True) (okp := fun _ => True) rfl (fun _ hk => hk) trivial (by omega) (by omega) (Xa (Below.refl _ _) _) (Nat.le_refl _) ?_; intro v1 w1 ho hb hg hnew; obtain ⟨g, cap, cur, hv, hbg, hcur, hle, hcm, hsz, hok⟩ := Go.Proofs.YtgndhijhcliegaaW.PrintHand.R_block ho (by rw [List.length_replicate]; omega); rw [List.length_replicate, Int.toNat_natCast] at hv hle; subst hv; have HCUR := XB hcur; have hle2 : M ≤ cap := hle; have HB := XB hb; have HSZ := XB hsz; have HCM := XB hcm; have HBG := XB hbg; clear ho hb hg hnew hcur hsz hcm hbg hok) | (refine Go.Proofs.YtgndhijhcliegaaW.PrintHand.wpList_copy_size rfl (.tmp 31) (.tmp 32) 22 22 rfl 3 Try.underlying22 1 HI.out g 0 M cap ad L c0 rfl rfl cur 3 HCUR.out cs (by rw [HCL.out, HMIN.out]) (fun j v hj => pw_cell_below HB.out (HCS.out j v hj)) (by rw [HCL.out, HSZ.out]; show 0 + L * 1 ≤ cap * 1; omega) H1C.out ?_; intro w2 hcur2 hgr2 hs2; rw [HMIN.out]; have HCUR2 := XB hcur2; have HB2 := XB (HB.out.grown hgr2 HB.out.size (fun k hk => by injection hk with hk; rw [← hk]; exact HBG.out)); clear hcur2 hgr2 hs2))
 go_loopw [8] (fun v8 wr => ∃ n : Nat, v8 = .int .i64 n ∧ L ≤ n ∧ n ≤ M ∧ Aside0 ((∃ q, n = q * L) ∨ n = M) ∧ ∃ cur' : Array Value, Aside0 (wr.heap[g]? = some (.cells cur' 3 (0, 0))) ∧ Aside0 (cur'.size = cap * 1) ∧ Aside0 (cur'.toList.take (n * 1) = Pt.take (n * 1)) ∧ Aside0 (Below w.heap.size w wr)) (fun v8 _ => M - (intOf v8).toNat)
 case atStart =>
  refine ⟨L, rfl, Nat.le_refl _, hLM, ⟨.inl ⟨1, (Nat.one_mul _).symm⟩⟩, _, HCUR2, ⟨?_⟩, ⟨?_⟩, HB2⟩
  ·have hs2 : (Kd.int .i64).sz = 1 := rfl; have := HSZ.out; rw [hs2] at this; simp [HCL.out, this]
   omega
  ·rw [HP0.out]; simp [← HCL.out]
 case round =>
  obtain ⟨n, rfl, hn1, hn2, HQ, cur', HC', HS', HT', HB'⟩ := hrel; by_cases hlt : n < M
  ·obtain ⟨n', hn'⟩ : ∃ n', n' = Nat.min n (M - n) := ⟨_, rfl⟩
   have hn1' : n' ≤ n := by rw [hn']; exact Nat.min_le_left _ _
   have hn2' : n' ≤ M - n := by rw [hn']; exact Nat.min_le_right _ _
   have hn0 : 0 < n' := by rw [hn']; exact Nat.lt_min.2 ⟨by omega, by omega⟩
   have HN' := XB hn'; have HN2 : Aside0 (n' = n ∨ n' = M - n) := ⟨by rw [hn']; rcases Nat.le_total n (M - n) with h | h; exact .inl (Nat.min_eq_left h); exact .inr (Nat.min_eq_right h)⟩; clear hn'; have HX1 : Aside0 ((Pt.take (n' * 1)).length = Nat.min n (M - n) * 1) := ⟨by rw [Xq, HPL.out, ← HN'.out]; omega⟩; have HX2 : Aside0 (∀ (W : World), W.heap[g]? = some (.cells cur' 3 (0, 0)) → ∀ j v, (Pt.take (n' * 1))[j]? = some v → W.cell? ((⟨g, 0, none⟩ : Addr).add j) = some v) := ⟨by
    intro W hW j v hj
    have hjl : j < n' * 1 := by have := (List.getElem?_eq_some_iff.1 hj).1; rw [Xq] at this; omega
    rw [Addr.add_lit, Nat.zero_add]
    have e1 : (cur'.toList.take (n * 1))[j]? = some v := by rw [HT'.out, List.getElem?_take_of_lt (by omega)]; rwa [List.getElem?_take_of_lt hjl] at hj
    rw [List.getElem?_take_of_lt (by omega)] at e1
    simp [World.cell?, hW]
    simpa using e1⟩
   have HX3 : Aside0 (n * 1 + (Pt.take (n' * 1)).length ≤ cur'.size) := ⟨by rw [Xq, HPL.out, HS'.out]; omega⟩; have HX4 : Aside0 (∀ v ∈ Pt.take (n' * 1), v.oneCell' = true) := ⟨fun v hv => HP1.out v (List.mem_of_mem_take hv)⟩; have hlt2 : decide ((n : Int) < (M : Int)) = true := decide_eq_true (by omega); have hnc : n ≤ cap := by omega
   have hnc2 : ¬ cap = n := by omega
   have hsum : IntKind.i64.wrap ((n : Int) + (n' : Int)) = (n : Int) + n' := by rw [IntKind.wrap_i64]; omega
   go_wp2
   go_region_law (refine Go.Proofs.YtgndhijhcliegaaW.PrintHand.step_copy_size rfl (.tmp 41) (.tmp 44) 22 22 rfl 3 Try.underlying22 1 HI.out g (n * 1) (M - n) (cap - n) ⟨g, 0, none⟩ n cap ?h3 ?h4 cur' 3 HC'.out (Pt.take (n' * 1)) HX1.out (HX2.out _ HC'.out) HX3.out HX4.out ?h7; (case h3 => go_simp); (case h4 => go_simp); rw [← HN'.out]; intro w4 hg4 hb4)
   clear hsum; simp only [List.getElem_toArray, List.getElem_cons_zero, List.getElem_cons_succ, Act.put, Xj, Xk, Xl]; go_wp2
   go_roundw
   case rel =>
    have hq : ∃ q, n = q * L := by
     rcases HQ.out with h | h
     ·exact h
     ·omega
    obtain ⟨q, hq⟩ := hq; refine ⟨n + n', by go_num, by omega, by omega, ⟨?_⟩, _, ⟨hg4.out⟩, ⟨?_⟩, ⟨?_⟩, ⟨?_⟩⟩
    ·rcases HN2.out with h | h
     ·exact .inl ⟨2 * q, by rw [h, hq, Nat.mul_assoc, Nat.two_mul]⟩
     ·exact .inr (by omega)
    ·simp only [List.size_toArray, List.length_append, Xq, Xp, Array.length_toList, HS'.out, HPL.out]; omega
    ·have hl1 : (Pt.take (n' * 1)).length = n' * 1 := by rw [Xq, HPL.out]; omega
     have hd := Go.Proofs.YtgndhijhcliegaaW.PrintHand.double cs m q (n * 1) (n' * 1) (by rw [HCL.out, hq, Nat.mul_assoc]) (by omega) (by rw [← HP.out, HPL.out]; omega) cur'.toList (by rw [← HP.out]; exact HT'.out) (by rw [Array.length_toList, HS'.out]; omega); rw [← HP.out] at hd; rw [Nat.add_mul]; simp only [hl1]; exact hd
    ·exact (below_drew HB'.out).grown hb4.out (below_drew HB'.out).size (fun k hk => by injection hk with hk; rw [← hk]; exact HBG.out)
   case measure => simp [intOf]; omega
  ·obtain rfl : n = M := by omega
   have hlt2 : decide ((n : Int) < (n : Int)) = false := decide_eq_false (by omega); go_wp2
   go_ret
   have hxl : ((List.replicate m l0).flatten).length = n := by
    rw [List.length_flatten, HMM.out, HL.out]; simp [Nat.mul_comm]
   have hrr : Reps ((Kd.int .i64).K w) 1 (List.replicate m l0).flatten Pt := by
    rw [HP.out]; exact Go.Proofs.YtgndhijhcliegaaW.PrintHand.Reps.times HREP.out m
   refine ⟨.slice (some ⟨g, 0, none⟩) n cap, rfl, ⟨fun _ _ => trivial, Pt, ⟨by rw [hxl]; exact HPL.out, .inr ⟨g, cap, cur', by rw [hxl], HBG.out, HC'.out, by rw [hxl]; exact hle2, HCM.out, HS'.out, ?_⟩⟩, hrr.imp_ (fun _ _ hk => HF.out _ _ _ _ _ _ hk)⟩, HB'.out⟩; have := HT'.out; rw [hxl]; rw [List.take_of_length_le (l := Pt) (by rw [HPL.out]; exact Nat.le_refl _)] at this; exact this


/-! ### charge_where: function 60 -/
/-- The numbers below n of which p holds. -/
def charge_where.fl (p : Int → Bool) (n : Nat) : List Int := ((List.range n).map (fun (j : Nat) => (j : Int))).filter p
theorem charge_where.fl_succ (p : Int → Bool) (n : Nat) : charge_where.fl p (n + 1) = if p (n : Int) = true then charge_where.fl p n ++ [(n : Int)] else charge_where.fl p n := by
 unfold charge_where.fl; rw [List.range_succ, List.map_append, List.filter_append]
 cases h : p (n : Int) <;> simp [h]
theorem charge_where.fl_len (p : Int → Bool) (n : Nat) : (charge_where.fl p n).length ≤ n := by
 unfold charge_where.fl; exact Nat.le_trans (List.length_filter_le _ _) (by simp)
/-- A call of a function value that lies in a place, with what it has with it. -/
theorem charge_where.goesC_ {P : Program} {ops : Array Oper} {rest : List Oper} {oi : Oper} {a : Act} {Q : Exit → Act → World → Prop} {w : World} {t : Tmp} (N : Option Tmp) (hd : oi.dst = N) (hg : oi.guard = none) {f : FuncId} {fn : Func} {as1 : Array Operand} {ts : Array TypeId} (hf : P.funcs[f]? = some fn) (hname : (fn.name == "runtime.NumGoroutine") = false) (hb : fn.body.isSome = true) (fs cs args : Array Value)
  (hop : oi.op = .call { callee := .value (.tmp t), args := as1, argTypes := ts }) (hev : a.eval (.tmp t) = .func (.func f) fs cs) (hargs : fs ++ as1.map a.eval ++ cs = args)
  (h : Calls P f args w fun e w' => ∃ v, e = .returned v ∧ wpList P ops Q rest (a.put N v) w') : wpList P ops Q (oi :: rest) a w := by
 subst hargs; refine wpList_plain hg fun K hK => ?_
 have he := enters_ hf hname hb (fs ++ as1.map a.eval ++ cs) w; have hrun : (execOp a.eval oi).run P w = .ok (.enter f (fs ++ as1.map a.eval ++ cs)) w := by
  unfold execOp; simp [hop, hev, resolve, Deferred.ofValue, invoke]
  simpa using he
 unfold Oper.wp; rw [hrun, Oper.upon_enter]; refine h.mono fun e w'' hh => ?_
 obtain ⟨v, rfl, hk⟩ := hh; subst hd; exact hK _ _ hk
set_option maxHeartbeats 8000000 in
set_option maxRecDepth 100000 in
theorem charge_where.calls_ (g : Nat) (fn : Func) (fs cs : Array Value) (p : Int → Bool) (m : Nat) (w : World) (hm : m ≤ 1000) (hf : Try.prog.funcs[g]? = some fn) (hname : (fn.name == "runtime.NumGoroutine") = false) (hbd : fn.body.isSome = true)
  (hp : ∀ (W : World) (x : Nat), x ≤ m → Below w.heap.size w W → Calls Try.prog g (fs ++ #[.int .i64 (x : Int)] ++ cs) W fun e w' => e = .returned (.bool (p (x : Int))) ∧ Below W.heap.size W w') :
  Calls Try.prog 60 #[.int .i64 (m : Int), .func (.func g) fs cs] w fun e w' => ∃ v0_ : Value, e = .returned (v0_) ∧ Kd.R (Kd.int .i64) 3 w' w.heap.size (fun _ => True) v0_ (charge_where.fl p (m + 1)) ∧ Below w.heap.size w w' := by
 have HB := XB (Below.refl w.heap.size w); have HP := XB hp; have HF := XB hf; have HN := XB hname; have HBD := XB hbd; clear hp hf hname hbd; have em : IntKind.i64.wrap ((m : Int) + 1) = (m : Int) + 1 := by simp only [i64_w]; unfold wrap64; omega
 go_enter Try.func60, Try.ntmps60
 go_wp2
 go_loopg [5, 9] (m + 1) (fun kq v5 v9 w' => ∃ (i : Nat), v9 = .int .i64 (i : Int) ∧ Aside0 (i + kq = m + 1) ∧ Aside0 (Kd.R (Kd.int .i64) 3 w' w.heap.size (fun _ => True) v5 (charge_where.fl p i)) ∧ Aside0 (Below w.heap.size w w'))
 case atStart => exact ⟨0, rfl, ⟨by omega⟩, ⟨Kd.R_nil _ _ _ _ _⟩, HB⟩
 case round =>
  clear HB; obtain ⟨i, rfl, HK, HO, HB⟩ := hrel; have HM := XB hm; clear hm; by_cases c : (i : Int) < (m : Int) + 1
  ·have cb : decide ((i : Int) < (m : Int) + 1) = true := decide_eq_true c; have HI := XB c; clear c; have ei : IntKind.i64.wrap ((i : Int) + 1) = ((i + 1 : Nat) : Int) := by have := HM.out; have := HI.out; simp only [i64_w]; unfold wrap64; omega
   have HL := XB (charge_where.fl_len p i); obtain ⟨k1, rfl⟩ : ∃ k1, gk = k1 + 1 := ⟨gk - 1, by have := HK.out; have := HI.out; omega⟩
   cases hpi : p (i : Int) with
   | false =>
    have HE0 := charge_where.fl_succ p i; rw [hpi, if_neg (by simp)] at HE0; have HE := XB HE0; clear HE0; go_wp2_with ((with_reducible refine Go.Proofs.YtgndhijhcliegaaW.PrintHand.gate_calleeT (t := 12) rfl ?_); refine charge_where.goesC_ (t := 12) (some 14) rfl rfl HF.out HN.out HBD.out fs cs (fs ++ #[.int .i64 (i : Int)] ++ cs) rfl rfl (by (try simp only [Xm, Xn, Xo]); first | done | rfl) ?_; (refine (HP.out _ i (by have := HI.out; omega) HB.out).mono ?_); rintro e w5 ⟨rfl, hb⟩; refine ⟨_, rfl, ?_⟩; rw [hpi]; have n1_ := XB (Xy HO.out hb); have n2_ := XB (Xz HB.out hb); clear HO HB hb; have HO := n1_; have HB := n2_; clear n1_ n2_)
    go_roundg k1
    case measure => omega
    case rel => exact ⟨i + 1, (by first | rfl | (simp; done) | (simp [*]; done)), ⟨by have := HK.out; omega⟩, ⟨by rw [HE.out]; exact HO.out⟩, HB⟩
   | true =>
    have HE0 := charge_where.fl_succ p i; rw [hpi, if_pos rfl] at HE0; have HE := XB HE0; clear HE0; go_wp2_with (first | ((with_reducible refine Go.Proofs.YtgndhijhcliegaaW.PrintHand.gate_calleeT (t := 12) rfl ?_); refine charge_where.goesC_ (t := 12) (some 14) rfl rfl HF.out HN.out HBD.out fs cs (fs ++ #[.int .i64 (i : Int)] ++ cs) rfl rfl (by (try simp only [Xm, Xn, Xo]); first | done | rfl) ?_; (refine (HP.out _ i (by have := HI.out; omega) HB.out).mono ?_); rintro e w5 ⟨rfl, hb⟩; refine ⟨_, rfl, ?_⟩; rw [hpi]; have n1_ := XB (Xy HO.out hb); have n2_ := XB (Xz HB.out hb); clear HO HB hb; have HO := n1_; have HB := n2_; clear n1_ n2_) | ((with_reducible refine gate_builtin (b := .append) (xs := #[.tmp 15, .tmp 17]) rfl ?_); at_builtin; refine Kd.R_append (Kd.int .i64) (w0 := w) w.heap.size rfl (.tmp 15) (.tmp 17) 22 3 (.int .i64 0) 8 rfl Try.underlying22 info3 rfl (by decide) (by omega) u5 (charge_where.fl p i) (i : Int) [.int .i64 (i : Int)] (fun _ => True) (fun _ => False) rfl rfl ?aP (fun _ hk => hk.elim) ?aF ?aO ?aB ?aS ?aL ?_; (case aP => exact rfl); (case aB => exact HB.out); (case aF => exact (fun _ _ => trivial)); (case aO => exact HO.out); (case aS => exact (XC HB.out)); (case aL => have := HL.out; have := HM.out; have := HI.out; omega); intro v108 w14 ho hb hg hat; rw [← HE.out] at ho; have n1_ := XB hb; have n2_ := XB ho; clear HB HO; have HB := n1_; have HO := n2_; clear n1_ n2_; clear ho hb hg hat))
    go_roundg k1
    case measure => omega
    case rel => exact ⟨i + 1, (by first | rfl | (simp; done) | (simp [*]; done)), ⟨by have := HK.out; omega⟩, HO, HB⟩
  ·have cb : decide ((i : Int) < (m : Int) + 1) = false := decide_eq_false c; have HI := XB c; clear c; obtain rfl : i = m + 1 := by have := HK.out; have := HI.out; omega
   go_wp2
   go_ret
   exact ⟨_, rfl, HO.out, HB.out⟩
/-- The numbers up to a0 that the table has. -/
def charge_where.f (a0 : Int) (l1_0 : List Int) (l1_1 : List Int) : Option (List Int) := if 0 ≤ a0 ∧ a0 ≤ 1000 ∧ a0 < (l1_0.length : Int) then some (charge_where.fl (fun n => decide (rd l1_0 n ≥ 0)) (a0.toNat + 1)) else none
theorem charge_where.calls (a0 : Int) (A1_0 : Option Addr) (c1_0 : Nat) (l1_0 : List Int) (A1_1 : Option Addr) (c1_1 : Nat) (l1_1 : List Int) (r : List Int) (w : World) (hr1_0 : Kd.C (Kd.int .i64) w A1_0 l1_0.length l1_0) (hc1_0 : l1_0.length ≤ c1_0) (hr1_1 : Kd.C (Kd.int .i64) w A1_1 l1_1.length l1_1) (hc1_1 : l1_1.length ≤ c1_1) (h : charge_where.f a0 l1_0 l1_1 = some r) :
  Calls Try.prog 60 #[.int .i64 a0, .func (.func 58) #[.agg #[.slice A1_0 l1_0.length c1_0, .slice A1_1 l1_1.length c1_1]] #[]] w fun e w' => ∃ v0_ : Value, e = .returned (v0_) ∧ Kd.R (Kd.int .i64) 3 w' w.heap.size (fun _ => True) v0_ r ∧ Below w.heap.size w w' := by
 unfold charge_where.f at h; by_cases c : 0 ≤ a0 ∧ a0 ≤ 1000 ∧ a0 < (l1_0.length : Int)
 ·rw [if_pos c] at h; obtain rfl := Option.some.inj h; obtain ⟨m, rfl⟩ : ∃ m : Nat, a0 = (m : Int) := ⟨a0.toNat, by omega⟩
  rw [Int.toNat_natCast]; refine charge_where.calls_ 58 _ #[.agg #[.slice A1_0 l1_0.length c1_0, .slice A1_1 l1_1.length c1_1]] #[] (fun n => decide (rd l1_0 n ≥ 0)) m w (by omega) Try.func58 (by kernel_rfl) rfl ?_; intro W x hx hb; exact charge_table_can.calls A1_0 c1_0 l1_0 A1_1 c1_1 l1_1 x (decide (rd l1_0 x ≥ 0)) W (Xu hr1_0 hb) hc1_0 (Xu hr1_1 hb) hc1_1 (by unfold charge_table_can.f; rw [if_pos (by omega), if_pos (by omega)])
 ·rw [if_neg c] at h; exact absurd h (by simp)


/-! ### charge_Residues: function 22 -/
def charge_Residues.l0 : Nat → List Int → List Int → List Int → Int → Int → Option (List Int × Int)
 | 0, _, _, _, _, _ => none
 | k + 1, x0, x5, x24, x25, x26 => if x26 < x25 then (if 0 ≤ x26 then (if x26 < (x24.length : Int) then (if 0 < (x0.length : Int) then (if (rd x0 0) = 0 then (none) else (if 0 ≤ (Int.tmod (rd x24 x26) (rd x0 0)) then (if (Int.tmod (rd x24 x26) (rd x0 0)) < (x5.length : Int) then (if (rd x5 (Int.tmod (rd x24 x26) (rd x0 0))) < 0 then (charge_Residues.l0 k x0 (x5.set ((Int.tmod (rd x24 x26) (rd x0 0)) : Int).toNat (rd x24 x26)) x24 x25 (wrap64 (x26 + 1))) else (charge_Residues.l0 k x0 x5 x24 x25 (wrap64 (x26 + 1)))) else (none)) else (none))) else (none)) else (none)) else (none)) else (some (x5, 0))
def charge_Residues.f (k : Nat) (l0 : List Int) : Option (List Int × Int) := (charge_Validate.f k l0).bind fun t101 => (if t101 = 0 then (if 0 < (l0.length : Int) then ((slices_Repeat_int_int.f (([(-1)] : List Int)) (rd l0 0)).bind fun t106 => ((charge_fill.f k l0 900).bind fun bt109 => ((charge_where.f 900 bt109.1 bt109.2).bind fun t116 => (charge_Residues.l0 k l0 t106 t116 (t116.length : Int) 0)))) else (none)) else (some (([] : List Int), t101)))
theorem charge_Residues.mono_l : ∀ k, (∀ y0 y1 y2 y3 y4, LeO (charge_Residues.l0 k y0 y1 y2 y3 y4) (charge_Residues.l0 (k + 1) y0 y1 y2 y3 y4))
 | 0 => fun _ _ _ _ _ r h => by simp [charge_Residues.l0] at h
 | k + 1 => by
  have ih0 := charge_Residues.mono_l k
  ·intro y0 y1 y2 y3 y4; unfold charge_Residues.l0; repeat' first
   | (with_reducible exact ih0 _ _ _ _ _)
   | (with_reducible exact charge_Validate.mono _ _)
   | (with_reducible exact charge_fill.mono _ _ _)
   | (with_reducible exact LeO.refl _)
   | (with_reducible exact LeO.none _)
   | (with_reducible refine LeO.ite ?_ ?_)
   | (with_reducible refine LeO.bind ?_ (fun _ => ?_))
   | exact ih0 _ _ _ _ _
   | exact charge_Validate.mono _ _
   | exact charge_fill.mono _ _ _
   | exact LeO.none _
   | refine LeO.ite ?_ ?_
   | refine LeO.bind ?_ (fun _ => ?_)
theorem charge_Residues.mono : ∀ a0 k, LeO (charge_Residues.f k a0) (charge_Residues.f (k + 1) a0) := by
 intro a0 k; have ih0 := charge_Residues.mono_l k; unfold charge_Residues.f; repeat' first
   | (with_reducible exact ih0 _ _ _ _ _)
   | (with_reducible exact charge_Validate.mono _ _)
   | (with_reducible exact charge_fill.mono _ _ _)
   | (with_reducible exact LeO.refl _)
   | (with_reducible exact LeO.none _)
   | (with_reducible refine LeO.ite ?_ ?_)
   | (with_reducible refine LeO.bind ?_ (fun _ => ?_))
   | exact ih0 _ _ _ _ _
   | exact charge_Validate.mono _ _
   | exact charge_fill.mono _ _ _
   | exact LeO.none _
   | refine LeO.ite ?_ ?_
   | refine LeO.bind ?_ (fun _ => ?_)
set_option maxHeartbeats 8000000 in
set_option maxRecDepth 100000 in
theorem charge_Residues.calls (k : Nat) (A0 : Option Addr) (c0 : Nat) (l0 : List Int) (r1 : List Int) (r2 : Int) (w : World) (hr0 : Kd.C (Kd.int .i64) w A0 l0.length l0) (hc0 : l0.length ≤ c0) (h : charge_Residues.f k l0 = some (r1, r2)) :
  Calls Try.prog 22 #[.slice A0 l0.length c0] w fun e w' => ∃ v0_ : Value, e = .returned (.tuple #[v0_, .int .i64 r2]) ∧ Kd.R (Kd.int .i64) 3 w' w.heap.size (fun _ => True) v0_ r1 ∧ Below w.heap.size w w' := by
 have hu50 := Try.underlying50; have HR0 := XB hr0; have HC0 := XB hc0; clear hr0 hc0; have HB := XB (Below.refl w.heap.size w); have H : ((charge_Validate.f k l0).bind fun t101 => (if t101 = 0 then (if 0 < (l0.length : Int) then ((slices_Repeat_int_int.f (([(-1)] : List Int)) (rd l0 0)).bind fun t106 => ((charge_fill.f k l0 900).bind fun bt109 => ((charge_where.f 900 bt109.1 bt109.2).bind fun t116 => (charge_Residues.l0 k l0 t106 t116 (t116.length : Int) 0)))) else (none)) else (some (([] : List Int), t101)))) = some (r1, r2) := h; clear h; replace H := Option.bind_eq_some_iff.mp H; obtain ⟨t101, A20, H⟩ := H; replace H : (if t101 = 0 then (if 0 < (l0.length : Int) then ((slices_Repeat_int_int.f (([(-1)] : List Int)) (rd l0 0)).bind fun t106 => ((charge_fill.f k l0 900).bind fun bt109 => ((charge_where.f 900 bt109.1 bt109.2).bind fun t116 => (charge_Residues.l0 k l0 t106 t116 (t116.length : Int) 0)))) else (none)) else (some (([] : List Int), t101))) = some (r1, r2) := H; have A2 := XB A20; clear A20; by_cases c3 : t101 = 0
 ·rw [if_pos c3] at H; have c3b0 : (t101 == 0) = true := beq_iff_eq.mpr c3; have c3b1 : (t101 != 0) = false := bne_eq_false_iff_eq.mpr c3; clear c3; obtain ⟨y102, hy102⟩ : ∃ y_ : List Int, y_ = (([(-1)] : List Int)) := ⟨_, rfl⟩
  replace H : (if 0 < (l0.length : Int) then ((slices_Repeat_int_int.f y102 (rd l0 0)).bind fun t106 => ((charge_fill.f k l0 900).bind fun bt109 => ((charge_where.f 900 bt109.1 bt109.2).bind fun t116 => (charge_Residues.l0 k l0 t106 t116 (t116.length : Int) 0)))) else (none)) = some (r1, r2) := by first | (rw [hy102]; with_reducible exact H) | (have H2_ := (Option.bind_some _ _).symm.trans H; rw [hy102]; with_reducible exact H2_) | (have H2_ := (Option.bind_some _ _).symm.trans H; with_reducible exact H2_) | with_reducible exact H | (rw [hy102]; exact H) | exact H
  have Ny102 := XB hy102; clear hy102; by_cases c4 : 0 < (l0.length : Int)
  ·rw [if_pos c4] at H; have c4b0 : decide (0 < (l0.length : Int)) = true := decide_eq_true c4; have c4b1 : decide (0 < l0.length) = true := decide_eq_true (by omega); clear c4; replace H := Option.bind_eq_some_iff.mp H; obtain ⟨t106, A50, H⟩ := H; replace H : ((charge_fill.f k l0 900).bind fun bt109 => ((charge_where.f 900 bt109.1 bt109.2).bind fun t116 => (charge_Residues.l0 k l0 t106 t116 (t116.length : Int) 0))) = some (r1, r2) := H; have A5 := XB A50; clear A50; replace H := Option.bind_eq_some_iff.mp H; obtain ⟨⟨t109, t112⟩, A60, H⟩ := H; replace H : ((charge_where.f 900 t109 t112).bind fun t116 => (charge_Residues.l0 k l0 t106 t116 (t116.length : Int) 0)) = some (r1, r2) := H; have A6 := XB A60; clear A60; replace H := Option.bind_eq_some_iff.mp H; obtain ⟨t116, A70, H⟩ := H; replace H : (charge_Residues.l0 k l0 t106 t116 (t116.length : Int) 0) = some (r1, r2) := H; have A7 := XB A70; clear A70; have H' := XB H; clear H; go_enter Try.func22, Try.ntmps22
   go_wp2_with (first | ((with_reducible refine gate_callee (f := 46) rfl ?_); refine goesL_ (some 11) rfl rfl Try.func46 (by kernel_rfl) rfl #[.slice A0 l0.length c0] rfl (by (try simp only [Xm, Xn, Xo]); first | done | rfl | (simp only [Xp, Xq]; rfl)) ?_; (with_reducible refine (charge_Validate.calls k _ _ l0 t101 _ ?side1 ?side2 A2.out).mono ?_); (case side1 => repeat (first | exact HR0.out | (with_reducible refine Xr ?_ _) | (with_reducible refine Xs ?_ _) | (with_reducible refine Xt ?_))); (case side2 => exact HC0.out); rintro e w' ⟨rfl, ⟨nd, rfl⟩⟩; refine ⟨_, rfl, ?_⟩) | ((with_reducible refine gate_dst (N := 15) rfl ?_); refine Kd.R_lit (Kd.int .i64) _ 3 ?hg (N := 15) ?hd (xs := ([(-1)] : List Int)) (inner := [.int .i64 (-1)]) (ok := fun _ => True) (okp := fun _ => True) ?hr ?hp (fun _ hk => hk) trivial (Below.refl _ _) (Nat.le_refl _) (by simp) ?_; (case hd => rfl); (case hg => rfl); (case hr => first | (go_simp; done) | (go_simp; rfl)); (case hp => exact (Reps.one (show Kd.M (Kd.int .i64) _ _ _ (-1) [.int .i64 (-1)] from rfl) (Reps.none _ _))); intro v103 w8 ho9 hb hg_ hnew_; clear hg_ hnew_; (first | rw [← Ny102.out] at ho9 | (simp only [Int.reduceToNat] at ho9; rw [← Ny102.out] at ho9)); have n0_ := XB (Kd.R_lower ho9 (XC (by repeat (first | (with_reducible first | exact HB.out | apply Xc | apply Xa | apply Xb) | exact HB.out)))); have n1_ := XB (Xz (by repeat (first | (with_reducible first | exact HB.out | apply Xc | apply Xa | apply Xb) | exact HB.out)) hb); clear HB; have HO104 := n0_; have HB := n1_; clear n0_ n1_; clear hb ho9; have p105 : 0 ≤ (0 : Int) := (by omega); have q105 : 0 < (l0.length : Int) := of_decide_eq_true (by first | (with_reducible assumption) | assumption); obtain ⟨ad105, e105, hx105_0⟩ := Kd.at_int HR0.out 0 p105 q105; cases e105; have qi105 : (0 < l0.length) = True := eq_true (by omega); (try rw [show ((0 : Int)).toNat = 0 from rfl] at hx105_0); (try rw [Addr.add_zero'] at hx105_0); replace hx105_0 := (HB.out.cell (World.block_lt_of_cell? w _ hx105_0)).trans hx105_0; replace p105 := eq_true p105; replace q105 := eq_true q105; obtain ⟨Ao10, co10, eo10⟩ := Kd.R_slice HO104.out; subst eo10) | ((with_reducible refine gate_callee (f := 59) rfl ?_); refine goesL_ (some 19) rfl rfl Try.func59 (by kernel_rfl) rfl #[.slice Ao10 y102.length co10, .int .i64 (rd l0 0)] rfl (by (try simp only [Xm, Xn, Xo]); first | done | rfl | (simp only [Xp, Xq]; rfl)) ?_; (with_reducible refine (slices_Repeat_int_int.calls _ _ y102 (rd l0 0) t106 _ ?side1 ?side2 A5.out).mono ?_); (case side1 => repeat (first | exact (XD HO104.out).2.2 | (with_reducible refine Xr ?_ _) | (with_reducible refine Xs ?_ _) | (with_reducible refine Xt ?_))); (case side2 => exact (XD HO104.out).2.1); rintro e w11 ⟨v107, rfl, ho0, hb⟩; refine ⟨_, rfl, ?_⟩; have n0_ := XB (Kd.R_elder' (by (with_reducible repeat (first | apply Xv | apply Xw | apply Xx)); exact HO104.out) (Kd.R_base ho0) hb); have n1_ := XB (Kd.R_lower (Kd.R_new' ho0 (Kd.R_lt (by (with_reducible repeat (first | apply Xv | apply Xw | apply Xx)); exact HO104.out))) (XC (by repeat (first | (with_reducible first | exact HB.out | apply Xc | apply Xa | apply Xb) | exact HB.out)))); have n2_ := XB (Xz (by repeat (first | (with_reducible first | exact HB.out | apply Xc | apply Xa | apply Xb) | exact HB.out)) hb); clear HO104; clear HB; have HO104 := n0_; have HO108 := n1_; have HB := n2_; clear n0_ n1_ n2_; (try clear hb); (try clear hb2); (try clear hk); (try clear hi); (try clear ho0)) | ((with_reducible refine gate_callee (f := 57) rfl ?_); refine goesL_ (some 21) rfl rfl Try.func57 (by kernel_rfl) rfl #[.slice (some ad105) l0.length c0, .int .i64 900] rfl (by (try simp only [Xm, Xn, Xo]); first | done | rfl | (simp only [Xp, Xq]; rfl)) ?_; (with_reducible refine (charge_fill.calls k _ _ l0 900 t109 t112 _ ?side1 ?side2 A6.out).mono ?_); (case side1 => repeat (first | exact (Xu HR0.out HB.out) | (with_reducible refine Xr ?_ _) | (with_reducible refine Xs ?_ _) | (with_reducible refine Xt ?_))); (case side2 => exact HC0.out); rintro e w12 ⟨v110, v113, rfl, ho0, ho1, hb⟩; refine ⟨_, rfl, ?_⟩; have n0_ := XB (Kd.R_mono (Kd.R_told (Kd.R_told (Kd.R_old (by (with_reducible repeat (first | apply Xv | apply Xw | apply Xx)); exact HO104.out) hb) (Kd.R_base ho0)) (Kd.R_base ho1)) (fun _ h_ => h_.1)); have n1_ := XB (Kd.R_mono (Kd.R_told (Kd.R_told (Kd.R_old (by (with_reducible repeat (first | apply Xv | apply Xw | apply Xx)); exact HO108.out) hb) (Kd.R_base ho0)) (Kd.R_base ho1)) (fun _ h_ => h_.1)); have n2_ := XB (Kd.R_lower (Kd.R_new' (Kd.R_new' ho0 (Kd.R_lt (by (with_reducible repeat (first | apply Xv | apply Xw | apply Xx)); exact HO104.out))) (Kd.R_lt (by (with_reducible repeat (first | apply Xv | apply Xw | apply Xx)); exact HO108.out))) (XC (by repeat (first | (with_reducible first | exact HB.out | apply Xc | apply Xa | apply Xb) | exact HB.out)))); have n3_ := XB (Kd.R_lower (Kd.R_new' (Kd.R_new' ho1 (Kd.R_lt (by (with_reducible repeat (first | apply Xv | apply Xw | apply Xx)); exact HO104.out))) (Kd.R_lt (by (with_reducible repeat (first | apply Xv | apply Xw | apply Xx)); exact HO108.out))) (XC (by repeat (first | (with_reducible first | exact HB.out | apply Xc | apply Xa | apply Xb) | exact HB.out)))); have n4_ := XB (Xz (by repeat (first | (with_reducible first | exact HB.out | apply Xc | apply Xa | apply Xb) | exact HB.out)) hb); clear HO104; clear HO108; clear HB; have HO104 := n0_; have HO108 := n1_; have HO111 := n2_; have HO114 := n3_; have HB := n4_; clear n0_ n1_ n2_ n3_ n4_; (try clear hb); (try clear hb2); (try clear hk); (try clear hi); (try clear ho0); (try clear ho1)) | ((with_reducible refine gate_dst (N := 6) rfl ?_); refine box_event ?hg (N := 6) ?hd (cs := #[.slice none 0 0, .slice none 0 0]) (t := 50) ?hr ?_; (case hd => rfl); (case hg => rfl); (case hr => first | (go_simp; done) | (go_simp; rfl)); intro gb115 hg w13 hbox hb; have n0_ := XB (Xy (by (with_reducible repeat (first | apply Xv | apply Xw | apply Xx)); exact HO104.out) hb); have n1_ := XB (Xy (by (with_reducible repeat (first | apply Xv | apply Xw | apply Xx)); exact HO108.out) hb); have n2_ := XB (Xy (by (with_reducible repeat (first | apply Xv | apply Xw | apply Xx)); exact HO111.out) hb); have n3_ := XB (Xy (by (with_reducible repeat (first | apply Xv | apply Xw | apply Xx)); exact HO114.out) hb); have n4_ := XB (Xz (by repeat (first | (with_reducible first | exact HB.out | apply Xc | apply Xa | apply Xb) | exact HB.out)) hb); have n5_ := XB (hbox); have n6_ := XB ((by rw [hg]; exact (XC (by repeat (first | (with_reducible first | exact HB.out | apply Xc | apply Xa | apply Xb) | exact HB.out))) : w.heap.size ≤ gb115)); have n7_ := XB ((by rw [hg]; exact (XC (by repeat (first | (with_reducible first | exact HB.out | apply Xc | apply Xa | apply Xb) | exact HB.out))) : w.heap.size ≤ gb115)); clear HO104; clear HO108; clear HO111; clear HO114; clear HB; have HO104 := n0_; have HO108 := n1_; have HO111 := n2_; have HO114 := n3_; have HB := n4_; have J115 := n5_; have GW115 := n6_; have E115 := n7_; clear n0_ n1_ n2_ n3_ n4_ n5_ n6_ n7_; clear hb hbox hg; obtain ⟨Ao14, co14, eo14⟩ := Kd.R_slice HO111.out; subst eo14; have hcz15_0 : w13.cell? ⟨gb115, 0, none⟩ = some (.slice none 0 0) := (Xi J115.out 0).trans rfl; have hcz15_1 : w13.cell? ⟨gb115, 1, none⟩ = some (.slice none 0 0) := (Xi J115.out 1).trans rfl; have hfz15_0 := Xh J115.out 0; have hfz15_1 := Xh J115.out 1; obtain ⟨Ao16, co16, eo16⟩ := Kd.R_slice HO114.out; subst eo16) | ((with_reducible refine gate_callee (f := 60) rfl ?_); refine goesL_ (some 24) rfl rfl Try.func60 (by kernel_rfl) rfl #[.int .i64 900, .func (.func 58) #[.agg #[.slice Ao14 t109.length co14, .slice Ao16 t112.length co16]] #[]] rfl (by (try simp only [Xm, Xn, Xo]); first | done | rfl | (simp only [Xp, Xq]; rfl)) ?_; (with_reducible refine (charge_where.calls 900 _ _ t109 _ _ t112 t116 _ ?side1 ?side2 ?side3 ?side4 A7.out).mono ?_); (case side1 => refine (XD (e := 3) (base := w.heap.size) (ok := fun k_ => ((some k_ ≠ (.slice Ao16 t112.length co16 : Value).ownBlock ∧ some k_ ≠ (.slice Ao10 y102.length co10 : Value).ownBlock) ∧ some k_ ≠ (v107 : Value).ownBlock)) (n := t109.length) (c := co14) ?_).2.2; exact (by (with_reducible repeat (first | apply Xv | apply Xw | apply Xx)); exact (Kd.R_mono (Kd.R_far (p := ⟨gb115, 1, none⟩) (Kd.R_far (p := ⟨gb115, 0, none⟩) (Kd.R_types HO111.out J115.out (by decide)) (fun _ hk => hk.2) (.slice Ao14 t109.length co14)) (fun _ hk => hk.2) (.slice Ao16 t112.length co16)) (fun _ h_ => h_.1)))); (case side2 => exact (XD HO111.out).2.1); (case side3 => refine (XD (e := 3) (base := w.heap.size) (ok := fun k_ => ((some k_ ≠ (.slice Ao14 t109.length co14 : Value).ownBlock ∧ some k_ ≠ (.slice Ao10 y102.length co10 : Value).ownBlock) ∧ some k_ ≠ (v107 : Value).ownBlock)) (n := t112.length) (c := co16) ?_).2.2; exact (by (with_reducible repeat (first | apply Xv | apply Xw | apply Xx)); exact (Kd.R_mono (Kd.R_far (p := ⟨gb115, 1, none⟩) (Kd.R_far (p := ⟨gb115, 0, none⟩) (Kd.R_types HO114.out J115.out (by decide)) (fun _ hk => hk.2) (.slice Ao14 t109.length co14)) (fun _ hk => hk.2) (.slice Ao16 t112.length co16)) (fun _ h_ => h_.1)))); (case side4 => exact (XD HO114.out).2.1); rintro e w17 ⟨v117, rfl, ho0, hb⟩; refine ⟨_, rfl, ?_⟩; have n0_ := XB (Kd.R_elder' (by (with_reducible repeat (first | apply Xv | apply Xw | apply Xx)); exact (Kd.R_mono (Kd.R_far (p := ⟨gb115, 1, none⟩) (Kd.R_far (p := ⟨gb115, 0, none⟩) (Kd.R_types HO104.out J115.out (by decide)) (fun _ hk => hk.2) (.slice Ao14 t109.length co14)) (fun _ hk => hk.2) (.slice Ao16 t112.length co16)) (fun _ h_ => h_.1))) (Kd.R_base ho0) hb); have n1_ := XB (Kd.R_elder' (by (with_reducible repeat (first | apply Xv | apply Xw | apply Xx)); exact (Kd.R_mono (Kd.R_far (p := ⟨gb115, 1, none⟩) (Kd.R_far (p := ⟨gb115, 0, none⟩) (Kd.R_types HO108.out J115.out (by decide)) (fun _ hk => hk.2) (.slice Ao14 t109.length co14)) (fun _ hk => hk.2) (.slice Ao16 t112.length co16)) (fun _ h_ => h_.1))) (Kd.R_base ho0) hb); have n2_ := XB (Kd.R_elder' (by (with_reducible repeat (first | apply Xv | apply Xw | apply Xx)); exact (Kd.R_mono (Kd.R_far (p := ⟨gb115, 1, none⟩) (Kd.R_far (p := ⟨gb115, 0, none⟩) (Kd.R_types HO111.out J115.out (by decide)) (fun _ hk => hk.2) (.slice Ao14 t109.length co14)) (fun _ hk => hk.2) (.slice Ao16 t112.length co16)) (fun _ h_ => h_.1))) (Kd.R_base ho0) hb); have n3_ := XB (Kd.R_elder' (by (with_reducible repeat (first | apply Xv | apply Xw | apply Xx)); exact (Kd.R_mono (Kd.R_far (p := ⟨gb115, 1, none⟩) (Kd.R_far (p := ⟨gb115, 0, none⟩) (Kd.R_types HO114.out J115.out (by decide)) (fun _ hk => hk.2) (.slice Ao14 t109.length co14)) (fun _ hk => hk.2) (.slice Ao16 t112.length co16)) (fun _ h_ => h_.1))) (Kd.R_base ho0) hb); have n4_ := XB (Kd.R_lower (Kd.R_new' (Kd.R_new' (Kd.R_new' (Kd.R_new' ho0 (Kd.R_lt (by (with_reducible repeat (first | apply Xv | apply Xw | apply Xx)); exact (Kd.R_mono (Kd.R_far (p := ⟨gb115, 1, none⟩) (Kd.R_far (p := ⟨gb115, 0, none⟩) (Kd.R_types HO104.out J115.out (by decide)) (fun _ hk => hk.2) (.slice Ao14 t109.length co14)) (fun _ hk => hk.2) (.slice Ao16 t112.length co16)) (fun _ h_ => h_.1))))) (Kd.R_lt (by (with_reducible repeat (first | apply Xv | apply Xw | apply Xx)); exact (Kd.R_mono (Kd.R_far (p := ⟨gb115, 1, none⟩) (Kd.R_far (p := ⟨gb115, 0, none⟩) (Kd.R_types HO108.out J115.out (by decide)) (fun _ hk => hk.2) (.slice Ao14 t109.length co14)) (fun _ hk => hk.2) (.slice Ao16 t112.length co16)) (fun _ h_ => h_.1))))) (Kd.R_lt (by (with_reducible repeat (first | apply Xv | apply Xw | apply Xx)); exact (Kd.R_mono (Kd.R_far (p := ⟨gb115, 1, none⟩) (Kd.R_far (p := ⟨gb115, 0, none⟩) (Kd.R_types HO111.out J115.out (by decide)) (fun _ hk => hk.2) (.slice Ao14 t109.length co14)) (fun _ hk => hk.2) (.slice Ao16 t112.length co16)) (fun _ h_ => h_.1))))) (Kd.R_lt (by (with_reducible repeat (first | apply Xv | apply Xw | apply Xx)); exact (Kd.R_mono (Kd.R_far (p := ⟨gb115, 1, none⟩) (Kd.R_far (p := ⟨gb115, 0, none⟩) (Kd.R_types HO114.out J115.out (by decide)) (fun _ hk => hk.2) (.slice Ao14 t109.length co14)) (fun _ hk => hk.2) (.slice Ao16 t112.length co16)) (fun _ h_ => h_.1))))) (XC (by repeat (first | (with_reducible first | exact HB.out | apply Xc | apply Xa | apply Xb | refine Xd ?_ E115.out) | exact HB.out)))); have n5_ := XB (XA (g := gb115) (o := .cells #[.slice Ao14 t109.length co14, .slice Ao16 t112.length co16] 50 (0, 0)) (by (with_reducible repeat (first | refine Xf ?_ _ | refine Xg ?_ | refine Xe ?_ _)); refine blk_put (cs := #[.slice Ao14 t109.length co14, .slice none 0 0]) ?_ 1 _ rfl; (with_reducible repeat (first | refine Xf ?_ _ | refine Xg ?_ | refine Xe ?_ _)); refine blk_put (cs := #[.slice none 0 0, .slice none 0 0]) ?_ 0 _ rfl; (with_reducible repeat (first | refine Xf ?_ _ | refine Xg ?_ | refine Xe ?_ _)); exact J115.out) hb); have n6_ := XB (Xz (by repeat (first | (with_reducible first | exact HB.out | apply Xc | apply Xa | apply Xb | refine Xd ?_ E115.out) | exact HB.out)) hb); clear HO104; clear HO108; clear HO111; clear HO114; clear J115; clear HB; have HO104 := n0_; have HO108 := n1_; have HO111 := n2_; have HO114 := n3_; have HO118 := n4_; have J115 := n5_; have HB := n6_; clear n0_ n1_ n2_ n3_ n4_ n5_ n6_; (try clear hb); (try clear hb2); (try clear hk); (try clear hi); (try clear ho0); obtain ⟨Ao18, co18, eo18⟩ := Kd.R_slice HO118.out; subst eo18))
   go_loopg [26] k (fun kq v26 w' => ∃ (x5_1 : List Int) (x26_1 : Int), v26 = .int .i64 x26_1 ∧ Aside0 (charge_Residues.l0 kq l0 x5_1 t116 (t116.length : Int) x26_1 = some (r1, r2)) ∧ Aside0 (kq ≤ k) ∧ Aside0 (Kd.R (Kd.int .i64) 3 w' w.heap.size (fun k_ => some k_ ≠ ((.slice Ao18 t116.length co18) : Value).ownBlock ∧ some k_ ≠ ((.slice Ao14 t109.length co14) : Value).ownBlock ∧ some k_ ≠ ((.slice Ao16 t112.length co16) : Value).ownBlock) v107 x5_1) ∧ Aside0 (Kd.R (Kd.int .i64) 3 w' w.heap.size (fun k_ => some k_ ≠ (v107 : Value).ownBlock ∧ some k_ ≠ ((.slice Ao14 t109.length co14) : Value).ownBlock ∧ some k_ ≠ ((.slice Ao16 t112.length co16) : Value).ownBlock) (.slice Ao18 t116.length co18) t116) ∧ Aside0 (Kd.R (Kd.int .i64) 3 w' w.heap.size (fun k_ => some k_ ≠ (v107 : Value).ownBlock ∧ some k_ ≠ ((.slice Ao18 t116.length co18) : Value).ownBlock ∧ some k_ ≠ ((.slice Ao16 t112.length co16) : Value).ownBlock) (.slice Ao14 t109.length co14) t109) ∧ Aside0 (Kd.R (Kd.int .i64) 3 w' w.heap.size (fun k_ => some k_ ≠ (v107 : Value).ownBlock ∧ some k_ ≠ ((.slice Ao18 t116.length co18) : Value).ownBlock ∧ some k_ ≠ ((.slice Ao14 t109.length co14) : Value).ownBlock) (.slice Ao16 t112.length co16) t112) ∧ Aside0 (w'.heap[gb115]? = some (.cells #[(.slice Ao14 t109.length co14), (.slice Ao16 t112.length co16)] 50 (0, 0))) ∧ Aside0 (Below w.heap.size w w'))
   case atStart => exact ⟨(t106), (0), (by first | rfl | (simp; done) | (simp [*]; done)), H', ⟨Nat.le_refl _⟩, ⟨by (with_reducible repeat (first | apply Xv | apply Xw | apply Xx)); exact Kd.R_mono HO108.out (fun _ hk => ⟨hk.2, ⟨hk.1.1.2, hk.1.2⟩⟩)⟩, ⟨by (with_reducible repeat (first | apply Xv | apply Xw | apply Xx)); exact Kd.R_mono HO118.out (fun _ hk => ⟨hk.1.1.2, ⟨hk.1.2, hk.2⟩⟩)⟩, ⟨by (with_reducible repeat (first | apply Xv | apply Xw | apply Xx)); exact Kd.R_mono HO111.out (fun _ hk => ⟨hk.1.2, ⟨hk.2, hk.1.1.1⟩⟩)⟩, ⟨by (with_reducible repeat (first | apply Xv | apply Xw | apply Xx)); exact Kd.R_mono HO114.out (fun _ hk => ⟨hk.1.2, ⟨hk.2, hk.1.1.1⟩⟩)⟩, ⟨by (with_reducible repeat (first | refine Xf ?_ _ | refine Xg ?_ | refine Xe ?_ _)); exact J115.out⟩, ⟨by repeat (first | (with_reducible first | exact HB.out | apply Xc | apply Xa | apply Xb | refine Xd ?_ E115.out) | exact HB.out)⟩⟩
   case round =>
    clear H'; try clear p1
    try clear q1
    try clear hx1
    try clear qi1
    try clear c2
    try clear p2
    try clear c3
    try clear c3b0
    try clear c3b1
    try clear c4
    try clear c4b0
    try clear c4b1
    try clear c5
    try clear c9
    try clear p10
    try clear q10
    try clear hx10
    try clear qi10
    try clear hcz15_0
    try clear hcz15_1
    try clear hfz15_0
    try clear hfz15_1
    try clear hx105_0
    try clear p105
    try clear q105
    obtain ⟨x5_1, x26_1, rfl, HA, HK1, HO_5, HO_24, HO_116000, HO_116001, J115, HB⟩ := hrel
    cases gk with
    | zero => exact absurd HA.out (by simp [charge_Residues.l0])
    | succ k1 =>
     have H := HA.out; clear HA; simp only [charge_Residues.l0] at H; by_cases c19 : x26_1 < (t116.length : Int)
     ·rw [if_pos c19] at H; have c19b0 : decide (x26_1 < (t116.length : Int)) = true := decide_eq_true c19; clear c19; by_cases c20 : 0 ≤ x26_1
      ·rw [if_pos c20] at H; have c20b0 : decide (0 ≤ x26_1) = true := decide_eq_true c20; clear c20; by_cases c21 : x26_1 < (t116.length : Int)
       ·rw [if_pos c21] at H; have c21b0 : decide (x26_1 < (t116.length : Int)) = true := decide_eq_true c21; clear c21; by_cases c22 : 0 < (l0.length : Int)
        ·rw [if_pos c22] at H; have c22b0 : decide (0 < (l0.length : Int)) = true := decide_eq_true c22; have c22b1 : decide (0 < l0.length) = true := decide_eq_true (by omega); clear c22; by_cases c23 : (rd l0 0) = 0
         ·rw [if_pos c23] at H; exact absurd H (by simp)
         ·rw [if_neg c23] at H; have c23b0 : ((rd l0 0) == 0) = false := beq_eq_false_iff_ne.mpr c23; have c23b1 : ((rd l0 0) != 0) = true := bne_iff_ne.mpr c23; obtain ⟨ji24, hji24⟩ : ∃ j_ : Int, (Int.tmod (rd t116 x26_1) (rd l0 0)) = j_ := ⟨_, rfl⟩
          replace H : (if 0 ≤ (ji24) then (if (ji24) < (x5_1.length : Int) then (if (rd x5_1 (ji24)) < 0 then (charge_Residues.l0 k1 l0 (x5_1.set ((ji24) : Int).toNat (rd t116 x26_1)) t116 (t116.length : Int) (wrap64 (x26_1 + 1))) else (charge_Residues.l0 k1 l0 x5_1 t116 (t116.length : Int) (wrap64 (x26_1 + 1)))) else (none)) else (none)) = some (r1, r2) := by first | (rw [hji24] at H; exact H) | (simp only [hji24] at H ⊢; exact H)
          by_cases c25 : 0 ≤ (ji24)
          ·rw [if_pos c25] at H; have c25b0 : decide (0 ≤ (ji24)) = true := decide_eq_true c25; clear c25; by_cases c26 : (ji24) < (x5_1.length : Int)
           ·rw [if_pos c26] at H; have c26b0 : decide ((ji24) < (x5_1.length : Int)) = true := decide_eq_true c26; clear c26; by_cases c27 : (rd x5_1 (ji24)) < 0
            ·rw [if_pos c27] at H; have c27b0 : decide ((rd x5_1 (ji24)) < 0) = true := decide_eq_true c27; clear c27; obtain ⟨y122, hy122⟩ : ∃ y_ : List Int, y_ = (x5_1.set ((ji24) : Int).toNat (rd t116 x26_1)) := ⟨_, rfl⟩
             replace H : (charge_Residues.l0 k1 l0 y122 t116 (t116.length : Int) (wrap64 (x26_1 + 1))) = some (r1, r2) := by first | (rw [hy122]; with_reducible exact H) | (have H2_ := (Option.bind_some _ _).symm.trans H; rw [hy122]; with_reducible exact H2_) | (have H2_ := (Option.bind_some _ _).symm.trans H; with_reducible exact H2_) | with_reducible exact H | (rw [hy122]; exact H) | exact H
             have Ny122 := XB hy122; clear hy122; have H' := XB H; clear H; have p119 : 0 ≤ (x26_1 : Int) := of_decide_eq_true (by first | (with_reducible assumption) | assumption); have q119 : x26_1 < (t116.length : Int) := of_decide_eq_true (by first | (with_reducible assumption) | assumption); obtain ⟨ad119, e119, hx119_0⟩ := Kd.at_int (XD HO_24.out).2.2 x26_1 p119 q119
             cases e119
             replace p119 := eq_true p119; replace q119 := eq_true q119; have p120 : 0 ≤ (0 : Int) := (by omega); have q120 : 0 < (l0.length : Int) := of_decide_eq_true (by first | (with_reducible assumption) | assumption); obtain ⟨ad120, e120, hx120_0⟩ := Kd.at_int HR0.out 0 p120 q120; obtain rfl : ad105 = ad120 := (by injection e120); have qi120 : (0 < l0.length) = True := eq_true (by omega); (try rw [show ((0 : Int)).toNat = 0 from rfl] at hx120_0)
             (try rw [Addr.add_zero'] at hx120_0)
             replace hx120_0 := (HB.out.cell (World.block_lt_of_cell? w _ hx120_0)).trans hx120_0; replace p120 := eq_true p120; replace q120 := eq_true q120; obtain ⟨Ao29, co29, eo29⟩ := Kd.R_slice HO_5.out; subst eo29; have p121 : 0 ≤ ((ji24) : Int) := of_decide_eq_true (by first | (with_reducible assumption) | assumption); have q121 : (ji24) < (x5_1.length : Int) := of_decide_eq_true (by first | (with_reducible assumption) | assumption); obtain ⟨ad121, e121, hx121_0⟩ := Kd.at_int (XD HO_5.out).2.2 (ji24) p121 q121
             cases e121
             replace p121 := eq_true p121; replace q121 := eq_true q121; have p28 : 0 ≤ ((ji24) : Int) := of_decide_eq_true (by first | (with_reducible assumption) | assumption); have q28 : ((ji24) : Int) < ((x5_1.length : Int) : Int) := of_decide_eq_true (by first | (with_reducible assumption) | assumption); obtain ⟨go28, co28, eo28, gb28, gl28, cl28, HG28⟩ := Kd.R_form HO_5.out (by omega); (first | cases eo28 | (injection eo28 with ea_ en_ ec_; (first | subst ea_ | (injection ea_ with ea_; subst ea_)); subst ec_; clear en_))
             have GB28 := XB gb28; have GG28 := XB HG28; clear gb28 gl28 HG28; (first | simp only [add_plain] at hx121_0 | skip)
             obtain ⟨hx28_0, hf28_0⟩ := Kd.R_celln 0 HO_5.out ((ji24) : Int) p28 q28; replace p28 := eq_true p28; replace q28 := eq_true q28; have HP30 := Kd.R_putg HO_5.out ((ji24) : Int) (rd t116 x26_1); go_wp2_with (first | ((with_reducible refine gate_store (t := 3) (p := 43) rfl ?_); refine store_event (t := 3) (p := 43) (v := ?vo_w31) (w1 := (wr.setCell ⟨go28, ((ji24) : Int).toNat, none⟩ (.int .i64 (rd t116 x26_1)))) ?hg ?ho ?hn ?hr ?_; (case ho => rfl); (case hg => rfl); (case hn => rfl); (case hr => first | (go_simp; done) | (go_simp; rfl)); intro w31 hw; have hg : wr.grownBy w31 (some go28) := (by rw [hw]; exact HP30.2); have hp_ : Kd.R (Kd.int .i64) 3 w31 w.heap.size (fun k_ => some k_ ≠ (.slice (some ad119) t116.length co18 : Value).ownBlock ∧ some k_ ≠ (.slice Ao14 t109.length co14 : Value).ownBlock ∧ some k_ ≠ (.slice Ao16 t112.length co16 : Value).ownBlock) (.slice (some ⟨go28, 0, none⟩) x5_1.length co29) y122 := (by rw [hw, Ny122.out]; exact HP30.1); clear HP30; have n0_ := XB (hp_); have n1_ := XB (Kd.R_after (v := (.slice (some ⟨go28, 0, none⟩) x5_1.length co29)) (v1 := (.slice (some ⟨go28, 0, none⟩) x5_1.length co29)) (ok := (fun k_ => some k_ ≠ (.slice Ao14 t109.length co14 : Value).ownBlock ∧ some k_ ≠ (.slice Ao16 t112.length co16 : Value).ownBlock)) (by (with_reducible repeat (first | apply Xv | apply Xw | apply Xx)); exact Kd.R_mono HO_24.out (fun _ hk => ⟨⟨hk.2.1, hk.2.2⟩, hk.1⟩)) hg (.inl rfl)); have n2_ := XB (Kd.R_after (v := (.slice (some ⟨go28, 0, none⟩) x5_1.length co29)) (v1 := (.slice (some ⟨go28, 0, none⟩) x5_1.length co29)) (ok := (fun k_ => some k_ ≠ (.slice (some ad119) t116.length co18 : Value).ownBlock ∧ some k_ ≠ (.slice Ao16 t112.length co16 : Value).ownBlock)) (by (with_reducible repeat (first | apply Xv | apply Xw | apply Xx)); exact Kd.R_mono HO_116000.out (fun _ hk => ⟨⟨hk.2.1, hk.2.2⟩, hk.1⟩)) hg (.inl rfl)); have n3_ := XB (Kd.R_after (v := (.slice (some ⟨go28, 0, none⟩) x5_1.length co29)) (v1 := (.slice (some ⟨go28, 0, none⟩) x5_1.length co29)) (ok := (fun k_ => some k_ ≠ (.slice (some ad119) t116.length co18 : Value).ownBlock ∧ some k_ ≠ (.slice Ao14 t109.length co14 : Value).ownBlock)) (by (with_reducible repeat (first | apply Xv | apply Xw | apply Xx)); exact Kd.R_mono HO_116001.out (fun _ hk => ⟨⟨hk.2.1, hk.2.2⟩, hk.1⟩)) hg (.inl rfl)); have n4_ := XB (blk_grown (g := gb115) (o := .cells #[.slice Ao14 t109.length co14, .slice Ao16 t112.length co16] 50 (0, 0)) (by (with_reducible repeat (first | refine Xf ?_ _ | refine Xg ?_ | refine Xe ?_ _)); exact J115.out) hg (Kd.R_ne HO_5.out J115.out (by decide))); have n5_ := XB ((by rw [hw]; exact Xd (HB.out) GB28.out : Below w.heap.size w w31)); clear HO_5; clear HO_24; clear HO_116000; clear HO_116001; clear J115; clear HB; have HO_5 := n0_; have HO_24 := n1_; have HO_116000 := n2_; have HO_116001 := n3_; have J115 := n4_; have HB := n5_; clear n0_ n1_ n2_ n3_ n4_ n5_; clear hg hw hp_))
             go_roundg k1
             case measure => have := HK1.out; omega
             case rel => exact ⟨(y122), (wrap64 (x26_1 + 1)), (by first | rfl | (simp; done) | (simp [*]; done)), H', ⟨by have := HK1.out; omega⟩, ⟨by (with_reducible repeat (first | apply Xv | apply Xw | apply Xx)); exact HO_5.out⟩, ⟨by (with_reducible repeat (first | apply Xv | apply Xw | apply Xx)); exact Kd.R_mono HO_24.out (fun _ hk => ⟨hk.2, ⟨hk.1.1, hk.1.2⟩⟩)⟩, ⟨by (with_reducible repeat (first | apply Xv | apply Xw | apply Xx)); exact Kd.R_mono HO_116000.out (fun _ hk => ⟨hk.2, ⟨hk.1.1, hk.1.2⟩⟩)⟩, ⟨by (with_reducible repeat (first | apply Xv | apply Xw | apply Xx)); exact Kd.R_mono HO_116001.out (fun _ hk => ⟨hk.2, ⟨hk.1.1, hk.1.2⟩⟩)⟩, ⟨by (with_reducible repeat (first | refine Xf ?_ _ | refine Xg ?_ | refine Xe ?_ _)); exact J115.out⟩, ⟨by repeat (first | (with_reducible first | exact HB.out | apply Xc | apply Xa | apply Xb | refine Xd ?_ E115.out) | exact HB.out)⟩⟩
            ·rw [if_neg c27] at H; have c27b0 : decide ((rd x5_1 (ji24)) < 0) = false := decide_eq_false c27; clear c27; have H' := XB H; clear H; have p119 : 0 ≤ (x26_1 : Int) := of_decide_eq_true (by first | (with_reducible assumption) | assumption); have q119 : x26_1 < (t116.length : Int) := of_decide_eq_true (by first | (with_reducible assumption) | assumption); obtain ⟨ad119, e119, hx119_0⟩ := Kd.at_int (XD HO_24.out).2.2 x26_1 p119 q119
             cases e119
             replace p119 := eq_true p119; replace q119 := eq_true q119; have p120 : 0 ≤ (0 : Int) := (by omega); have q120 : 0 < (l0.length : Int) := of_decide_eq_true (by first | (with_reducible assumption) | assumption); obtain ⟨ad120, e120, hx120_0⟩ := Kd.at_int HR0.out 0 p120 q120; obtain rfl : ad105 = ad120 := (by injection e120); have qi120 : (0 < l0.length) = True := eq_true (by omega); (try rw [show ((0 : Int)).toNat = 0 from rfl] at hx120_0)
             (try rw [Addr.add_zero'] at hx120_0)
             replace hx120_0 := (HB.out.cell (World.block_lt_of_cell? w _ hx120_0)).trans hx120_0; replace p120 := eq_true p120; replace q120 := eq_true q120; obtain ⟨Ao32, co32, eo32⟩ := Kd.R_slice HO_5.out; subst eo32; have p121 : 0 ≤ ((ji24) : Int) := of_decide_eq_true (by first | (with_reducible assumption) | assumption); have q121 : (ji24) < (x5_1.length : Int) := of_decide_eq_true (by first | (with_reducible assumption) | assumption); obtain ⟨ad121, e121, hx121_0⟩ := Kd.at_int (XD HO_5.out).2.2 (ji24) p121 q121
             cases e121
             replace p121 := eq_true p121; replace q121 := eq_true q121; go_wp2
             go_roundg k1
             case measure => have := HK1.out; omega
             case rel => exact ⟨(x5_1), (wrap64 (x26_1 + 1)), (by first | rfl | (simp; done) | (simp [*]; done)), H', ⟨by have := HK1.out; omega⟩, ⟨by (with_reducible repeat (first | apply Xv | apply Xw | apply Xx)); exact HO_5.out⟩, ⟨by (with_reducible repeat (first | apply Xv | apply Xw | apply Xx)); exact HO_24.out⟩, ⟨by (with_reducible repeat (first | apply Xv | apply Xw | apply Xx)); exact HO_116000.out⟩, ⟨by (with_reducible repeat (first | apply Xv | apply Xw | apply Xx)); exact HO_116001.out⟩, ⟨by (with_reducible repeat (first | refine Xf ?_ _ | refine Xg ?_ | refine Xe ?_ _)); exact J115.out⟩, ⟨by repeat (first | (with_reducible first | exact HB.out | apply Xc | apply Xa | apply Xb | refine Xd ?_ E115.out) | exact HB.out)⟩⟩
           ·rw [if_neg c26] at H; exact absurd H (by simp)
          ·rw [if_neg c25] at H; exact absurd H (by simp)
        ·rw [if_neg c22] at H; exact absurd H (by simp)
       ·rw [if_neg c21] at H; exact absurd H (by simp)
      ·rw [if_neg c20] at H; exact absurd H (by simp)
     ·rw [if_neg c19] at H; have c19b0 : decide (x26_1 < (t116.length : Int)) = false := decide_eq_false c19; clear c19; simp only [Option.some.injEq, Prod.mk.injEq] at H; obtain ⟨rfl, rfl⟩ := H; go_wp2
      go_ret2
      exact ⟨_, by first | rfl | (simp [errW_none, errW_some] <;> rfl) | (simp [*, errW_none, errW_some] <;> rfl), by (with_reducible repeat (first | apply Xv | apply Xw | apply Xx)); exact Kd.R_mono HO_5.out (fun _ hk => trivial), by repeat (first | (with_reducible first | exact HB.out | apply Xc | apply Xa | apply Xb | refine Xd ?_ E115.out) | exact HB.out)⟩
  ·rw [if_neg c4] at H; exact absurd H (by simp)
 ·rw [if_neg c3] at H; have c3b0 : (t101 == 0) = false := beq_eq_false_iff_ne.mpr c3; have c3b1 : (t101 != 0) = true := bne_iff_ne.mpr c3; simp only [Option.some.injEq, Prod.mk.injEq] at H; obtain ⟨rfl, rfl⟩ := H; go_enter Try.func22, Try.ntmps22
  go_wp2_with (first | ((with_reducible refine gate_callee (f := 46) rfl ?_); refine goesL_ (some 11) rfl rfl Try.func46 (by kernel_rfl) rfl #[.slice A0 l0.length c0] rfl (by (try simp only [Xm, Xn, Xo]); first | done | rfl | (simp only [Xp, Xq]; rfl)) ?_; (with_reducible refine (charge_Validate.calls k _ _ l0 t101 _ ?side1 ?side2 A2.out).mono ?_); (case side1 => repeat (first | exact HR0.out | (with_reducible refine Xr ?_ _) | (with_reducible refine Xs ?_ _) | (with_reducible refine Xt ?_))); (case side2 => exact HC0.out); rintro e w' ⟨rfl, ⟨nd, rfl⟩⟩; refine ⟨_, rfl, ?_⟩))
  go_ret2
  exact ⟨_, by first | rfl | (simp [errW_none, errW_some] <;> rfl) | (simp [*, errW_none, errW_some] <;> rfl), by first | exact Kd.R_nil _ _ _ _ _ | exact Kd.N_nil _ _ _ _ _ | exact Kd.V_nil _ _ _ _ _ | exact Kd.Q_nil _ _ _ _ _ | exact Kd.S_nil _ _ _ _ _, by repeat (first | (with_reducible first | exact HB.out | apply Xc | apply Xa | apply Xb) | exact HB.out)⟩

/-! ### charge_amounted: function 56 -/
def charge_amounted.f (k : Nat) (l0 : List Int) (a1 : Int) : Option (Int) := (charge_Validate.f k l0).bind fun t101 => (if t101 = 0 then ((charge_within.f a1 0 2000).bind fun t102 => (if t102 = true then (some 0) else (some 1))) else (some t101))
theorem charge_amounted.mono : ∀ a0 a1 k, LeO (charge_amounted.f k a0 a1) (charge_amounted.f (k + 1) a0 a1) := by
 intro a0 a1 k; unfold charge_amounted.f; repeat' first
   | (with_reducible exact charge_Validate.mono _ _)
   | (with_reducible exact LeO.refl _)
   | (with_reducible exact LeO.none _)
   | (with_reducible refine LeO.ite ?_ ?_)
   | (with_reducible refine LeO.bind ?_ (fun _ => ?_))
   | exact charge_Validate.mono _ _
   | exact LeO.none _
   | refine LeO.ite ?_ ?_
   | refine LeO.bind ?_ (fun _ => ?_)
set_option maxHeartbeats 8000000 in
set_option maxRecDepth 100000 in
theorem charge_amounted.calls (k : Nat) (A0 : Option Addr) (c0 : Nat) (l0 : List Int) (a1 : Int) (r : Int) (w : World) (hr0 : Kd.C (Kd.int .i64) w A0 l0.length l0) (hc0 : l0.length ≤ c0) (h : charge_amounted.f k l0 a1 = some r) :
  Calls Try.prog 56 #[.slice A0 l0.length c0, .int .i64 a1] w fun e w' => e = .returned (.int .i64 r) ∧ Drawn0 w w' := by
 have HR0 := XB hr0; have HC0 := XB hc0; clear hr0 hc0; have H : ((charge_Validate.f k l0).bind fun t101 => (if t101 = 0 then ((charge_within.f a1 0 2000).bind fun t102 => (if t102 = true then (some 0) else (some 1))) else (some t101))) = some r := h; clear h; replace H := Option.bind_eq_some_iff.mp H; obtain ⟨t101, A30, H⟩ := H; replace H : (if t101 = 0 then ((charge_within.f a1 0 2000).bind fun t102 => (if t102 = true then (some 0) else (some 1))) else (some t101)) = some r := H; have A3 := XB A30; clear A30; by_cases c4 : t101 = 0
 ·rw [if_pos c4] at H; have c4b0 : (t101 == 0) = true := beq_iff_eq.mpr c4; have c4b1 : (t101 != 0) = false := bne_eq_false_iff_eq.mpr c4; clear c4; replace H := Option.bind_eq_some_iff.mp H; obtain ⟨t102, A50, H⟩ := H; replace H : (if t102 = true then (some 0) else (some 1)) = some r := H; have A5 := XB A50; clear A50; by_cases c6 : t102 = true
  ·subst c6; have H1 : (some 0) = some r := by rw [if_pos rfl] at H; exact H
   clear H; have H := H1; clear H1; obtain rfl := Option.some.inj H; go_enter Try.func56, Try.ntmps56
   go_wp2_with (first | ((with_reducible refine gate_callee (f := 46) rfl ?_); refine goesL_ (some 7) rfl rfl Try.func46 (by kernel_rfl) rfl #[.slice A0 l0.length c0] rfl (by (try simp only [Xm, Xn, Xo]); first | done | rfl | (simp only [Xp, Xq]; rfl)) ?_; (with_reducible refine (charge_Validate.calls k _ _ l0 t101 _ ?side1 ?side2 A3.out).mono ?_); (case side1 => repeat (first | exact HR0.out | (with_reducible refine Xr ?_ _) | (with_reducible refine Xs ?_ _) | (with_reducible refine Xt ?_))); (case side2 => exact HC0.out); rintro e w' ⟨rfl, ⟨nd, rfl⟩⟩; refine ⟨_, rfl, ?_⟩) | ((with_reducible refine gate_callee (f := 71) rfl ?_); refine goesL_ (some 12) rfl rfl Try.func71 (by kernel_rfl) rfl #[.int .i64 a1, .int .i64 0, .int .i64 2000] rfl (by (try simp only [Xm, Xn, Xo]); first | done | rfl | (simp only [Xp, Xq]; rfl)) ?_; (with_reducible refine (charge_within.calls a1 0 2000 true _ A5.out).mono ?_); rintro e w' ⟨rfl, ⟨nd, rfl⟩⟩; refine ⟨_, rfl, ?_⟩))
   go_ret
   exact ⟨by first | rfl | (simp; done) | (simp [*]; done), by repeat (first | exact Drawn0.refl _ | apply Drawn0.step)⟩
  ·replace c6 := Bool.eq_false_iff.mpr c6; subst c6; have H1 : (some 1) = some r := by rw [if_neg (show ¬ (false = true) by decide)] at H; exact H
   clear H; have H := H1; clear H1; obtain rfl := Option.some.inj H; go_enter Try.func56, Try.ntmps56
   go_wp2_with (first | ((with_reducible refine gate_callee (f := 46) rfl ?_); refine goesL_ (some 7) rfl rfl Try.func46 (by kernel_rfl) rfl #[.slice A0 l0.length c0] rfl (by (try simp only [Xm, Xn, Xo]); first | done | rfl | (simp only [Xp, Xq]; rfl)) ?_; (with_reducible refine (charge_Validate.calls k _ _ l0 t101 _ ?side1 ?side2 A3.out).mono ?_); (case side1 => repeat (first | exact HR0.out | (with_reducible refine Xr ?_ _) | (with_reducible refine Xs ?_ _) | (with_reducible refine Xt ?_))); (case side2 => exact HC0.out); rintro e w' ⟨rfl, ⟨nd, rfl⟩⟩; refine ⟨_, rfl, ?_⟩) | ((with_reducible refine gate_callee (f := 71) rfl ?_); refine goesL_ (some 12) rfl rfl Try.func71 (by kernel_rfl) rfl #[.int .i64 a1, .int .i64 0, .int .i64 2000] rfl (by (try simp only [Xm, Xn, Xo]); first | done | rfl | (simp only [Xp, Xq]; rfl)) ?_; (with_reducible refine (charge_within.calls a1 0 2000 false _ A5.out).mono ?_); rintro e w' ⟨rfl, ⟨nd, rfl⟩⟩; refine ⟨_, rfl, ?_⟩))
   go_ret
   exact ⟨by first | rfl | (simp; done) | (simp [*]; done), by repeat (first | exact Drawn0.refl _ | apply Drawn0.step)⟩
 ·rw [if_neg c4] at H; have c4b0 : (t101 == 0) = false := beq_eq_false_iff_ne.mpr c4; have c4b1 : (t101 != 0) = true := bne_iff_ne.mpr c4; obtain rfl := Option.some.inj H; go_enter Try.func56, Try.ntmps56
  go_wp2_with (first | ((with_reducible refine gate_callee (f := 46) rfl ?_); refine goesL_ (some 7) rfl rfl Try.func46 (by kernel_rfl) rfl #[.slice A0 l0.length c0] rfl (by (try simp only [Xm, Xn, Xo]); first | done | rfl | (simp only [Xp, Xq]; rfl)) ?_; (with_reducible refine (charge_Validate.calls k _ _ l0 t101 _ ?side1 ?side2 A3.out).mono ?_); (case side1 => repeat (first | exact HR0.out | (with_reducible refine Xr ?_ _) | (with_reducible refine Xs ?_ _) | (with_reducible refine Xt ?_))); (case side2 => exact HC0.out); rintro e w' ⟨rfl, ⟨nd, rfl⟩⟩; refine ⟨_, rfl, ?_⟩))
  go_ret
  exact ⟨by first | rfl | (simp; done) | (simp [*]; done), by repeat (first | exact Drawn0.refl _ | apply Drawn0.step)⟩

/-! ### charge_Fewest: function 23 -/
def charge_Fewest.f (k : Nat) (l0 : List Int) (a1 : Int) : Option (Int × Bool × Int) := (charge_amounted.f k l0 a1).bind fun t101 => (if t101 = 0 then ((charge_fill.f k l0 a1).bind fun bt102 => ((charge_table_can.f bt102.1 bt102.2 a1).bind fun t109 => (if t109 = true then (if 0 ≤ a1 then (if a1 < (bt102.1.length : Int) then (some (rd bt102.1 a1, true, 0)) else (none)) else (none)) else (some (0, false, 0))))) else (some (0, false, t101)))
theorem charge_Fewest.mono : ∀ a0 a1 k, LeO (charge_Fewest.f k a0 a1) (charge_Fewest.f (k + 1) a0 a1) := by
 intro a0 a1 k; unfold charge_Fewest.f; repeat' first
   | (with_reducible exact charge_amounted.mono _ _ _)
   | (with_reducible exact charge_fill.mono _ _ _)
   | (with_reducible exact LeO.refl _)
   | (with_reducible exact LeO.none _)
   | (with_reducible refine LeO.ite ?_ ?_)
   | (with_reducible refine LeO.bind ?_ (fun _ => ?_))
   | exact charge_amounted.mono _ _ _
   | exact charge_fill.mono _ _ _
   | exact LeO.none _
   | refine LeO.ite ?_ ?_
   | refine LeO.bind ?_ (fun _ => ?_)
set_option maxHeartbeats 8000000 in
set_option maxRecDepth 100000 in
theorem charge_Fewest.calls (k : Nat) (A0 : Option Addr) (c0 : Nat) (l0 : List Int) (a1 : Int) (r1 : Int) (r2 : Bool) (r3 : Int) (w : World) (hr0 : Kd.C (Kd.int .i64) w A0 l0.length l0) (hc0 : l0.length ≤ c0) (h : charge_Fewest.f k l0 a1 = some (r1, r2, r3)) :
  Calls Try.prog 23 #[.slice A0 l0.length c0, .int .i64 a1] w fun e w' => e = .returned (.tuple #[.int .i64 r1, .bool r2, .int .i64 r3]) ∧ Below w.heap.size w w' := by
 have hu50 := Try.underlying50; have HR0 := XB hr0; have HC0 := XB hc0; clear hr0 hc0; have HB := XB (Below.refl w.heap.size w); have H : ((charge_amounted.f k l0 a1).bind fun t101 => (if t101 = 0 then ((charge_fill.f k l0 a1).bind fun bt102 => ((charge_table_can.f bt102.1 bt102.2 a1).bind fun t109 => (if t109 = true then (if 0 ≤ a1 then (if a1 < (bt102.1.length : Int) then (some (rd bt102.1 a1, true, 0)) else (none)) else (none)) else (some (0, false, 0))))) else (some (0, false, t101)))) = some (r1, r2, r3) := h; clear h; replace H := Option.bind_eq_some_iff.mp H; obtain ⟨t101, A30, H⟩ := H; replace H : (if t101 = 0 then ((charge_fill.f k l0 a1).bind fun bt102 => ((charge_table_can.f bt102.1 bt102.2 a1).bind fun t109 => (if t109 = true then (if 0 ≤ a1 then (if a1 < (bt102.1.length : Int) then (some (rd bt102.1 a1, true, 0)) else (none)) else (none)) else (some (0, false, 0))))) else (some (0, false, t101))) = some (r1, r2, r3) := H; have A3 := XB A30; clear A30; by_cases c4 : t101 = 0
 ·rw [if_pos c4] at H; have c4b0 : (t101 == 0) = true := beq_iff_eq.mpr c4; have c4b1 : (t101 != 0) = false := bne_eq_false_iff_eq.mpr c4; clear c4; replace H := Option.bind_eq_some_iff.mp H; obtain ⟨⟨t102, t105⟩, A50, H⟩ := H; replace H : ((charge_table_can.f t102 t105 a1).bind fun t109 => (if t109 = true then (if 0 ≤ a1 then (if a1 < (t102.length : Int) then (some (rd t102 a1, true, 0)) else (none)) else (none)) else (some (0, false, 0)))) = some (r1, r2, r3) := H; have A5 := XB A50; clear A50; replace H := Option.bind_eq_some_iff.mp H; obtain ⟨t109, A60, H⟩ := H; replace H : (if t109 = true then (if 0 ≤ a1 then (if a1 < (t102.length : Int) then (some (rd t102 a1, true, 0)) else (none)) else (none)) else (some (0, false, 0))) = some (r1, r2, r3) := H; have A6 := XB A60; clear A60; by_cases c7 : t109 = true
  ·subst c7; have H1 : (if 0 ≤ a1 then (if a1 < (t102.length : Int) then (some (rd t102 a1, true, 0)) else (none)) else (none)) = some (r1, r2, r3) := by rw [if_pos rfl] at H; exact H
   clear H; have H := H1; clear H1; by_cases c8 : 0 ≤ a1
   ·rw [if_pos c8] at H; have c8b0 : decide (0 ≤ a1) = true := decide_eq_true c8; clear c8; by_cases c9 : a1 < (t102.length : Int)
    ·rw [if_pos c9] at H; have c9b0 : decide (a1 < (t102.length : Int)) = true := decide_eq_true c9; clear c9; simp only [Option.some.injEq, Prod.mk.injEq] at H; obtain ⟨rfl, rfl, rfl⟩ := H; go_enter Try.func23, Try.ntmps23
     go_wp2_with (first | ((with_reducible refine gate_callee (f := 56) rfl ?_); refine goesL_ (some 11) rfl rfl Try.func56 (by kernel_rfl) rfl #[.slice A0 l0.length c0, .int .i64 a1] rfl (by (try simp only [Xm, Xn, Xo]); first | done | rfl | (simp only [Xp, Xq]; rfl)) ?_; (with_reducible refine (charge_amounted.calls k _ _ l0 a1 t101 _ ?side1 ?side2 A3.out).mono ?_); (case side1 => repeat (first | exact HR0.out | (with_reducible refine Xr ?_ _) | (with_reducible refine Xs ?_ _) | (with_reducible refine Xt ?_))); (case side2 => exact HC0.out); rintro e w' ⟨rfl, ⟨nd, rfl⟩⟩; refine ⟨_, rfl, ?_⟩) | ((with_reducible refine gate_callee (f := 57) rfl ?_); refine goesL_ (some 17) rfl rfl Try.func57 (by kernel_rfl) rfl #[.slice A0 l0.length c0, .int .i64 a1] rfl (by (try simp only [Xm, Xn, Xo]); first | done | rfl | (simp only [Xp, Xq]; rfl)) ?_; (with_reducible refine (charge_fill.calls k _ _ l0 a1 t102 t105 _ ?side1 ?side2 A5.out).mono ?_); (case side1 => repeat (first | exact HR0.out | (with_reducible refine Xr ?_ _) | (with_reducible refine Xs ?_ _) | (with_reducible refine Xt ?_))); (case side2 => exact HC0.out); rintro e w10 ⟨v103, v106, rfl, ho0, ho1, hb⟩; refine ⟨_, rfl, ?_⟩; have n0_ := XB (Kd.R_lower ho0 (XC (by repeat (first | (with_reducible first | exact HB.out | apply Xc | apply Xa | apply Xb) | exact HB.out)))); have n1_ := XB (Kd.R_lower ho1 (XC (by repeat (first | (with_reducible first | exact HB.out | apply Xc | apply Xa | apply Xb) | exact HB.out)))); have n2_ := XB (Xz (by repeat (first | (with_reducible first | exact HB.out | apply Xc | apply Xa | apply Xb) | exact HB.out)) hb); clear HB; have HO104 := n0_; have HO107 := n1_; have HB := n2_; clear n0_ n1_ n2_; (try clear hb); (try clear hb2); (try clear hk); (try clear hi); (try clear ho0); (try clear ho1)) | ((with_reducible refine gate_dst (N := 8) rfl ?_); refine box_event ?hg (N := 8) ?hd (cs := #[.slice none 0 0, .slice none 0 0]) (t := 50) ?hr ?_; (case hd => rfl); (case hg => rfl); (case hr => first | (go_simp; done) | (go_simp; rfl)); intro gb108 hg w11 hbox hb; have n0_ := XB (Xy (by (with_reducible repeat (first | apply Xv | apply Xw | apply Xx)); exact HO104.out) hb); have n1_ := XB (Xy (by (with_reducible repeat (first | apply Xv | apply Xw | apply Xx)); exact HO107.out) hb); have n2_ := XB (Xz (by repeat (first | (with_reducible first | exact HB.out | apply Xc | apply Xa | apply Xb) | exact HB.out)) hb); have n3_ := XB (hbox); have n4_ := XB ((by rw [hg]; exact (XC (by repeat (first | (with_reducible first | exact HB.out | apply Xc | apply Xa | apply Xb) | exact HB.out))) : w.heap.size ≤ gb108)); have n5_ := XB ((by rw [hg]; exact (XC (by repeat (first | (with_reducible first | exact HB.out | apply Xc | apply Xa | apply Xb) | exact HB.out))) : w.heap.size ≤ gb108)); clear HO104; clear HO107; clear HB; have HO104 := n0_; have HO107 := n1_; have HB := n2_; have J108 := n3_; have GW108 := n4_; have E108 := n5_; clear n0_ n1_ n2_ n3_ n4_ n5_; clear hb hbox hg; obtain ⟨Ao12, co12, eo12⟩ := Kd.R_slice HO104.out; subst eo12; have hcz13_0 : w11.cell? ⟨gb108, 0, none⟩ = some (.slice none 0 0) := (Xi J108.out 0).trans rfl; have hcz13_1 : w11.cell? ⟨gb108, 1, none⟩ = some (.slice none 0 0) := (Xi J108.out 1).trans rfl; have hfz13_0 := Xh J108.out 0; have hfz13_1 := Xh J108.out 1; obtain ⟨Ao14, co14, eo14⟩ := Kd.R_slice HO107.out; subst eo14) | ((with_reducible refine gate_callee (f := 58) rfl ?_); refine goesL_ (some 20) rfl rfl Try.func58 (by kernel_rfl) rfl #[.agg #[.slice Ao12 t102.length co12, .slice Ao14 t105.length co14], .int .i64 a1] rfl (by (try simp only [Xm, Xn, Xo]); first | done | rfl | (simp only [Xp, Xq]; rfl)) ?_; (with_reducible refine (charge_table_can.calls _ _ t102 _ _ t105 a1 true _ ?side1 ?side2 ?side3 ?side4 A6.out).mono ?_); (case side1 => refine (XD (e := 3) (base := w.heap.size) (ok := fun k_ => some k_ ≠ (.slice Ao14 t105.length co14 : Value).ownBlock) (n := t102.length) (c := co12) ?_).2.2; exact (by (with_reducible repeat (first | apply Xv | apply Xw | apply Xx)); exact (Kd.R_mono (Kd.R_far (p := ⟨gb108, 1, none⟩) (Kd.R_far (p := ⟨gb108, 0, none⟩) (Kd.R_types HO104.out J108.out (by decide)) (fun _ hk => hk.2) (.slice Ao12 t102.length co12)) (fun _ hk => hk.2) (.slice Ao14 t105.length co14)) (fun _ h_ => h_.1)))); (case side2 => exact (XD HO104.out).2.1); (case side3 => refine (XD (e := 3) (base := w.heap.size) (ok := fun k_ => some k_ ≠ (.slice Ao12 t102.length co12 : Value).ownBlock) (n := t105.length) (c := co14) ?_).2.2; exact (by (with_reducible repeat (first | apply Xv | apply Xw | apply Xx)); exact (Kd.R_mono (Kd.R_far (p := ⟨gb108, 1, none⟩) (Kd.R_far (p := ⟨gb108, 0, none⟩) (Kd.R_types HO107.out J108.out (by decide)) (fun _ hk => hk.2) (.slice Ao12 t102.length co12)) (fun _ hk => hk.2) (.slice Ao14 t105.length co14)) (fun _ h_ => h_.1)))); (case side4 => exact (XD HO107.out).2.1); rintro e w15 ⟨rfl, hb⟩; refine ⟨_, rfl, ?_⟩; have n0_ := XB (Xy (by (with_reducible repeat (first | apply Xv | apply Xw | apply Xx)); exact (Kd.R_mono (Kd.R_far (p := ⟨gb108, 1, none⟩) (Kd.R_far (p := ⟨gb108, 0, none⟩) (Kd.R_types HO104.out J108.out (by decide)) (fun _ hk => hk.2) (.slice Ao12 t102.length co12)) (fun _ hk => hk.2) (.slice Ao14 t105.length co14)) (fun _ h_ => h_.1))) hb); have n1_ := XB (Xy (by (with_reducible repeat (first | apply Xv | apply Xw | apply Xx)); exact (Kd.R_mono (Kd.R_far (p := ⟨gb108, 1, none⟩) (Kd.R_far (p := ⟨gb108, 0, none⟩) (Kd.R_types HO107.out J108.out (by decide)) (fun _ hk => hk.2) (.slice Ao12 t102.length co12)) (fun _ hk => hk.2) (.slice Ao14 t105.length co14)) (fun _ h_ => h_.1))) hb); have n2_ := XB (XA (g := gb108) (o := .cells #[.slice Ao12 t102.length co12, .slice Ao14 t105.length co14] 50 (0, 0)) (by (with_reducible repeat (first | refine Xf ?_ _ | refine Xg ?_ | refine Xe ?_ _)); refine blk_put (cs := #[.slice Ao12 t102.length co12, .slice none 0 0]) ?_ 1 _ rfl; (with_reducible repeat (first | refine Xf ?_ _ | refine Xg ?_ | refine Xe ?_ _)); refine blk_put (cs := #[.slice none 0 0, .slice none 0 0]) ?_ 0 _ rfl; (with_reducible repeat (first | refine Xf ?_ _ | refine Xg ?_ | refine Xe ?_ _)); exact J108.out) hb); have n3_ := XB (Xz (by repeat (first | (with_reducible first | exact HB.out | apply Xc | apply Xa | apply Xb | refine Xd ?_ E108.out) | exact HB.out)) hb); clear HO104; clear HO107; clear J108; clear HB; have HO104 := n0_; have HO107 := n1_; have J108 := n2_; have HB := n3_; clear n0_ n1_ n2_ n3_; (try clear hb); (try clear hb2); (try clear hk); (try clear hi); have hcz16_0 : w15.cell? ⟨gb108, 0, none⟩ = some (.slice Ao12 t102.length co12) := (Xi J108.out 0).trans rfl; have hcz16_1 : w15.cell? ⟨gb108, 1, none⟩ = some (.slice Ao14 t105.length co14) := (Xi J108.out 1).trans rfl; have hfz16_0 := Xh J108.out 0; have hfz16_1 := Xh J108.out 1; have p110 : 0 ≤ (a1 : Int) := of_decide_eq_true (by first | (with_reducible assumption) | assumption); have q110 : a1 < (t102.length : Int) := of_decide_eq_true (by first | (with_reducible assumption) | assumption); obtain ⟨ad110, e110, hx110_0⟩ := Kd.at_int (XD HO104.out).2.2 a1 p110 q110; cases e110; replace p110 := eq_true p110; replace q110 := eq_true q110))
     go_ret3
     exact ⟨by first | rfl | (simp [errW_none, errW_some] <;> rfl) | (simp [*, errW_none, errW_some] <;> rfl), by repeat (first | (with_reducible first | exact HB.out | apply Xc | apply Xa | apply Xb | refine Xd ?_ E108.out) | exact HB.out)⟩
    ·rw [if_neg c9] at H; exact absurd H (by simp)
   ·rw [if_neg c8] at H; exact absurd H (by simp)
  ·replace c7 := Bool.eq_false_iff.mpr c7; subst c7; have H1 : (some (0, false, 0)) = some (r1, r2, r3) := by rw [if_neg (show ¬ (false = true) by decide)] at H; exact H
   clear H; have H := H1; clear H1; simp only [Option.some.injEq, Prod.mk.injEq] at H; obtain ⟨rfl, rfl, rfl⟩ := H; go_enter Try.func23, Try.ntmps23
   go_wp2_with (first | ((with_reducible refine gate_callee (f := 56) rfl ?_); refine goesL_ (some 11) rfl rfl Try.func56 (by kernel_rfl) rfl #[.slice A0 l0.length c0, .int .i64 a1] rfl (by (try simp only [Xm, Xn, Xo]); first | done | rfl | (simp only [Xp, Xq]; rfl)) ?_; (with_reducible refine (charge_amounted.calls k _ _ l0 a1 t101 _ ?side1 ?side2 A3.out).mono ?_); (case side1 => repeat (first | exact HR0.out | (with_reducible refine Xr ?_ _) | (with_reducible refine Xs ?_ _) | (with_reducible refine Xt ?_))); (case side2 => exact HC0.out); rintro e w' ⟨rfl, ⟨nd, rfl⟩⟩; refine ⟨_, rfl, ?_⟩) | ((with_reducible refine gate_callee (f := 57) rfl ?_); refine goesL_ (some 17) rfl rfl Try.func57 (by kernel_rfl) rfl #[.slice A0 l0.length c0, .int .i64 a1] rfl (by (try simp only [Xm, Xn, Xo]); first | done | rfl | (simp only [Xp, Xq]; rfl)) ?_; (with_reducible refine (charge_fill.calls k _ _ l0 a1 t102 t105 _ ?side1 ?side2 A5.out).mono ?_); (case side1 => repeat (first | exact HR0.out | (with_reducible refine Xr ?_ _) | (with_reducible refine Xs ?_ _) | (with_reducible refine Xt ?_))); (case side2 => exact HC0.out); rintro e w17 ⟨v103, v106, rfl, ho0, ho1, hb⟩; refine ⟨_, rfl, ?_⟩; have n0_ := XB (Kd.R_lower ho0 (XC (by repeat (first | (with_reducible first | exact HB.out | apply Xc | apply Xa | apply Xb) | exact HB.out)))); have n1_ := XB (Kd.R_lower ho1 (XC (by repeat (first | (with_reducible first | exact HB.out | apply Xc | apply Xa | apply Xb) | exact HB.out)))); have n2_ := XB (Xz (by repeat (first | (with_reducible first | exact HB.out | apply Xc | apply Xa | apply Xb) | exact HB.out)) hb); clear HB; have HO104 := n0_; have HO107 := n1_; have HB := n2_; clear n0_ n1_ n2_; (try clear hb); (try clear hb2); (try clear hk); (try clear hi); (try clear ho0); (try clear ho1)) | ((with_reducible refine gate_dst (N := 8) rfl ?_); refine box_event ?hg (N := 8) ?hd (cs := #[.slice none 0 0, .slice none 0 0]) (t := 50) ?hr ?_; (case hd => rfl); (case hg => rfl); (case hr => first | (go_simp; done) | (go_simp; rfl)); intro gb108 hg w18 hbox hb; have n0_ := XB (Xy (by (with_reducible repeat (first | apply Xv | apply Xw | apply Xx)); exact HO104.out) hb); have n1_ := XB (Xy (by (with_reducible repeat (first | apply Xv | apply Xw | apply Xx)); exact HO107.out) hb); have n2_ := XB (Xz (by repeat (first | (with_reducible first | exact HB.out | apply Xc | apply Xa | apply Xb) | exact HB.out)) hb); have n3_ := XB (hbox); have n4_ := XB ((by rw [hg]; exact (XC (by repeat (first | (with_reducible first | exact HB.out | apply Xc | apply Xa | apply Xb) | exact HB.out))) : w.heap.size ≤ gb108)); have n5_ := XB ((by rw [hg]; exact (XC (by repeat (first | (with_reducible first | exact HB.out | apply Xc | apply Xa | apply Xb) | exact HB.out))) : w.heap.size ≤ gb108)); clear HO104; clear HO107; clear HB; have HO104 := n0_; have HO107 := n1_; have HB := n2_; have J108 := n3_; have GW108 := n4_; have E108 := n5_; clear n0_ n1_ n2_ n3_ n4_ n5_; clear hb hbox hg; obtain ⟨Ao19, co19, eo19⟩ := Kd.R_slice HO104.out; subst eo19; have hcz20_0 : w18.cell? ⟨gb108, 0, none⟩ = some (.slice none 0 0) := (Xi J108.out 0).trans rfl; have hcz20_1 : w18.cell? ⟨gb108, 1, none⟩ = some (.slice none 0 0) := (Xi J108.out 1).trans rfl; have hfz20_0 := Xh J108.out 0; have hfz20_1 := Xh J108.out 1; obtain ⟨Ao21, co21, eo21⟩ := Kd.R_slice HO107.out; subst eo21) | ((with_reducible refine gate_callee (f := 58) rfl ?_); refine goesL_ (some 20) rfl rfl Try.func58 (by kernel_rfl) rfl #[.agg #[.slice Ao19 t102.length co19, .slice Ao21 t105.length co21], .int .i64 a1] rfl (by (try simp only [Xm, Xn, Xo]); first | done | rfl | (simp only [Xp, Xq]; rfl)) ?_; (with_reducible refine (charge_table_can.calls _ _ t102 _ _ t105 a1 false _ ?side1 ?side2 ?side3 ?side4 A6.out).mono ?_); (case side1 => refine (XD (e := 3) (base := w.heap.size) (ok := fun k_ => some k_ ≠ (.slice Ao21 t105.length co21 : Value).ownBlock) (n := t102.length) (c := co19) ?_).2.2; exact (by (with_reducible repeat (first | apply Xv | apply Xw | apply Xx)); exact (Kd.R_mono (Kd.R_far (p := ⟨gb108, 1, none⟩) (Kd.R_far (p := ⟨gb108, 0, none⟩) (Kd.R_types HO104.out J108.out (by decide)) (fun _ hk => hk.2) (.slice Ao19 t102.length co19)) (fun _ hk => hk.2) (.slice Ao21 t105.length co21)) (fun _ h_ => h_.1)))); (case side2 => exact (XD HO104.out).2.1); (case side3 => refine (XD (e := 3) (base := w.heap.size) (ok := fun k_ => some k_ ≠ (.slice Ao19 t102.length co19 : Value).ownBlock) (n := t105.length) (c := co21) ?_).2.2; exact (by (with_reducible repeat (first | apply Xv | apply Xw | apply Xx)); exact (Kd.R_mono (Kd.R_far (p := ⟨gb108, 1, none⟩) (Kd.R_far (p := ⟨gb108, 0, none⟩) (Kd.R_types HO107.out J108.out (by decide)) (fun _ hk => hk.2) (.slice Ao19 t102.length co19)) (fun _ hk => hk.2) (.slice Ao21 t105.length co21)) (fun _ h_ => h_.1)))); (case side4 => exact (XD HO107.out).2.1); rintro e w22 ⟨rfl, hb⟩; refine ⟨_, rfl, ?_⟩; have n0_ := XB (Xy (by (with_reducible repeat (first | apply Xv | apply Xw | apply Xx)); exact (Kd.R_mono (Kd.R_far (p := ⟨gb108, 1, none⟩) (Kd.R_far (p := ⟨gb108, 0, none⟩) (Kd.R_types HO104.out J108.out (by decide)) (fun _ hk => hk.2) (.slice Ao19 t102.length co19)) (fun _ hk => hk.2) (.slice Ao21 t105.length co21)) (fun _ h_ => h_.1))) hb); have n1_ := XB (Xy (by (with_reducible repeat (first | apply Xv | apply Xw | apply Xx)); exact (Kd.R_mono (Kd.R_far (p := ⟨gb108, 1, none⟩) (Kd.R_far (p := ⟨gb108, 0, none⟩) (Kd.R_types HO107.out J108.out (by decide)) (fun _ hk => hk.2) (.slice Ao19 t102.length co19)) (fun _ hk => hk.2) (.slice Ao21 t105.length co21)) (fun _ h_ => h_.1))) hb); have n2_ := XB (XA (g := gb108) (o := .cells #[.slice Ao19 t102.length co19, .slice Ao21 t105.length co21] 50 (0, 0)) (by (with_reducible repeat (first | refine Xf ?_ _ | refine Xg ?_ | refine Xe ?_ _)); refine blk_put (cs := #[.slice Ao19 t102.length co19, .slice none 0 0]) ?_ 1 _ rfl; (with_reducible repeat (first | refine Xf ?_ _ | refine Xg ?_ | refine Xe ?_ _)); refine blk_put (cs := #[.slice none 0 0, .slice none 0 0]) ?_ 0 _ rfl; (with_reducible repeat (first | refine Xf ?_ _ | refine Xg ?_ | refine Xe ?_ _)); exact J108.out) hb); have n3_ := XB (Xz (by repeat (first | (with_reducible first | exact HB.out | apply Xc | apply Xa | apply Xb | refine Xd ?_ E108.out) | exact HB.out)) hb); clear HO104; clear HO107; clear J108; clear HB; have HO104 := n0_; have HO107 := n1_; have J108 := n2_; have HB := n3_; clear n0_ n1_ n2_ n3_; (try clear hb); (try clear hb2); (try clear hk); (try clear hi)))
   go_ret3
   exact ⟨by first | rfl | (simp [errW_none, errW_some] <;> rfl) | (simp [*, errW_none, errW_some] <;> rfl), by repeat (first | (with_reducible first | exact HB.out | apply Xc | apply Xa | apply Xb | refine Xd ?_ E108.out) | exact HB.out)⟩
 ·rw [if_neg c4] at H; have c4b0 : (t101 == 0) = false := beq_eq_false_iff_ne.mpr c4; have c4b1 : (t101 != 0) = true := bne_iff_ne.mpr c4; simp only [Option.some.injEq, Prod.mk.injEq] at H; obtain ⟨rfl, rfl, rfl⟩ := H; go_enter Try.func23, Try.ntmps23
  go_wp2_with (first | ((with_reducible refine gate_callee (f := 56) rfl ?_); refine goesL_ (some 11) rfl rfl Try.func56 (by kernel_rfl) rfl #[.slice A0 l0.length c0, .int .i64 a1] rfl (by (try simp only [Xm, Xn, Xo]); first | done | rfl | (simp only [Xp, Xq]; rfl)) ?_; (with_reducible refine (charge_amounted.calls k _ _ l0 a1 t101 _ ?side1 ?side2 A3.out).mono ?_); (case side1 => repeat (first | exact HR0.out | (with_reducible refine Xr ?_ _) | (with_reducible refine Xs ?_ _) | (with_reducible refine Xt ?_))); (case side2 => exact HC0.out); rintro e w' ⟨rfl, ⟨nd, rfl⟩⟩; refine ⟨_, rfl, ?_⟩))
  go_ret3
  exact ⟨by first | rfl | (simp [errW_none, errW_some] <;> rfl) | (simp [*, errW_none, errW_some] <;> rfl), by repeat (first | (with_reducible first | exact HB.out | apply Xc | apply Xa | apply Xb) | exact HB.out)⟩

/-! ### charge_measure: function 63 -/
mutual
def charge_measure.l0 : Nat → Int → List Int → Int → Int → Option (Int)
 | 0, _, _, _, _ => none
 | k + 1, x3, x6, x7, x8 => if x8 < x7 then (if 0 ≤ x8 then (if x8 < (x6.length : Int) then (charge_measure.l1 k x3 (rd x6 x8) x6 x7 x8) else (none)) else (none)) else (some x3)
def charge_measure.l1 : Nat → Int → Int → List Int → Int → Int → Option (Int)
 | 0, _, _, _, _, _ => none
 | k + 1, x3, x5, x6, x7, x8 => if x5 = 0 then (charge_measure.l0 k x3 x6 x7 (wrap64 (x8 + 1))) else (charge_measure.l1 k x5 (Int.tmod x3 x5) x6 x7 x8)
end
def charge_measure.f (k : Nat) (l0 : List Int) : Option (Int) := charge_measure.l0 k 0 l0 (l0.length : Int) 0
theorem charge_measure.mono_l : ∀ k, (∀ y0 y1 y2 y3, LeO (charge_measure.l0 k y0 y1 y2 y3) (charge_measure.l0 (k + 1) y0 y1 y2 y3)) ∧ (∀ y0 y1 y2 y3 y4, LeO (charge_measure.l1 k y0 y1 y2 y3 y4) (charge_measure.l1 (k + 1) y0 y1 y2 y3 y4))
 | 0 => ⟨fun _ _ _ _ r h => by simp [charge_measure.l0] at h, fun _ _ _ _ _ r h => by simp [charge_measure.l1] at h⟩
 | k + 1 => by
  obtain ⟨ih0, ih1⟩ := charge_measure.mono_l k; refine ⟨?_, ?_⟩
  ·intro y0 y1 y2 y3; unfold charge_measure.l0; repeat' first
   | (with_reducible exact ih0 _ _ _ _)
   | (with_reducible exact ih1 _ _ _ _ _)
   | (with_reducible exact LeO.refl _)
   | (with_reducible exact LeO.none _)
   | (with_reducible refine LeO.ite ?_ ?_)
   | (with_reducible refine LeO.bind ?_ (fun _ => ?_))
   | exact ih0 _ _ _ _
   | exact ih1 _ _ _ _ _
   | exact LeO.none _
   | refine LeO.ite ?_ ?_
   | refine LeO.bind ?_ (fun _ => ?_)
  ·intro y0 y1 y2 y3 y4; unfold charge_measure.l1; repeat' first
   | (with_reducible exact ih0 _ _ _ _)
   | (with_reducible exact ih1 _ _ _ _ _)
   | (with_reducible exact LeO.refl _)
   | (with_reducible exact LeO.none _)
   | (with_reducible refine LeO.ite ?_ ?_)
   | (with_reducible refine LeO.bind ?_ (fun _ => ?_))
   | exact ih0 _ _ _ _
   | exact ih1 _ _ _ _ _
   | exact LeO.none _
   | refine LeO.ite ?_ ?_
   | refine LeO.bind ?_ (fun _ => ?_)
theorem charge_measure.mono : ∀ a0 k, LeO (charge_measure.f k a0) (charge_measure.f (k + 1) a0) := by
 intro a0 k; obtain ⟨ih0, ih1⟩ := charge_measure.mono_l k; unfold charge_measure.f; repeat' first
   | (with_reducible exact ih0 _ _ _ _)
   | (with_reducible exact ih1 _ _ _ _ _)
   | (with_reducible exact LeO.refl _)
   | (with_reducible exact LeO.none _)
   | (with_reducible refine LeO.ite ?_ ?_)
   | (with_reducible refine LeO.bind ?_ (fun _ => ?_))
   | exact ih0 _ _ _ _
   | exact ih1 _ _ _ _ _
   | exact LeO.none _
   | refine LeO.ite ?_ ?_
   | refine LeO.bind ?_ (fun _ => ?_)
set_option maxHeartbeats 8000000 in
set_option maxRecDepth 100000 in
theorem charge_measure.calls (k : Nat) (A0 : Option Addr) (c0 : Nat) (l0 : List Int) (r : Int) (w : World) (hr0 : Kd.C (Kd.int .i64) w A0 l0.length l0) (hc0 : l0.length ≤ c0) (h : charge_measure.f k l0 = some r) :
  Calls Try.prog 63 #[.slice A0 l0.length c0] w fun e w' => e = .returned (.int .i64 r) ∧ Drawn0 w w' := by
 have HR0 := XB hr0; have HC0 := XB hc0; clear hr0 hc0; have H : (charge_measure.l0 k 0 l0 (l0.length : Int) 0) = some r := h; clear h; have H' := XB H; clear H; go_enter Try.func63, Try.ntmps63
 go_wp2
 repeat (go_quiet (fail); try go_wp2)
 go_loopg [3, 8] k (fun kq v3 v8 w' => ∃ (x3_1 : Int) (x8_1 : Int), v3 = .int .i64 x3_1 ∧ v8 = .int .i64 x8_1 ∧ Aside0 (charge_measure.l0 kq x3_1 l0 (l0.length : Int) x8_1 = some r) ∧ Aside0 (kq ≤ k) ∧ Drawn0 w w')
 case atStart => exact ⟨(0), (0), (by first | rfl | (simp; done) | (simp [*]; done)), (by first | rfl | (simp; done) | (simp [*]; done)), H', ⟨Nat.le_refl _⟩, by repeat (first | exact Drawn0.refl _ | apply Drawn0.step)⟩
 case round =>
  clear H'; obtain ⟨x3_1, x8_1, rfl, rfl, HA, HK1, ⟨m1, rfl⟩⟩ := hrel
  cases gk with
  | zero => exact absurd HA.out (by simp [charge_measure.l0])
  | succ k1 =>
   have H := HA.out; clear HA; simp only [charge_measure.l0] at H; by_cases c2 : x8_1 < (l0.length : Int)
   ·rw [if_pos c2] at H; have c2b0 : decide (x8_1 < (l0.length : Int)) = true := decide_eq_true c2; clear c2; by_cases c3 : 0 ≤ x8_1
    ·rw [if_pos c3] at H; have c3b0 : decide (0 ≤ x8_1) = true := decide_eq_true c3; clear c3; by_cases c4 : x8_1 < (l0.length : Int)
     ·rw [if_pos c4] at H; have c4b0 : decide (x8_1 < (l0.length : Int)) = true := decide_eq_true c4; clear c4; have H' := XB H; clear H; have p101 : 0 ≤ (x8_1 : Int) := of_decide_eq_true (by first | (with_reducible assumption) | assumption); have q101 : x8_1 < (l0.length : Int) := of_decide_eq_true (by first | (with_reducible assumption) | assumption); obtain ⟨ad101, e101, hx101_0⟩ := Kd.at_int HR0.out x8_1 p101 q101
      cases e101
      replace p101 := eq_true p101; replace q101 := eq_true q101; go_wp2
      repeat (go_quiet (fail); try go_wp2)
      go_loopg [3, 5] k1 (fun kq v3 v5 w' => ∃ (x3_2 : Int) (x5_2 : Int), v3 = .int .i64 x3_2 ∧ v5 = .int .i64 x5_2 ∧ Aside0 (charge_measure.l1 kq x3_2 x5_2 l0 (l0.length : Int) x8_1 = some r) ∧ Aside0 (kq ≤ k1) ∧ Drawn0 w w')
      case atStart => exact ⟨(x3_1), (rd l0 x8_1), (by first | rfl | (simp; done) | (simp [*]; done)), (by first | rfl | (simp; done) | (simp [*]; done)), H', ⟨Nat.le_refl _⟩, by repeat (first | exact Drawn0.refl _ | apply Drawn0.step)⟩
      case round =>
       clear H'; try clear p1
       try clear q1
       try clear hx1
       try clear c2
       try clear c2b0
       try clear p2
       try clear c3
       try clear c3b0
       try clear c4
       try clear c4b0
       try clear hx101_0
       try clear p101
       try clear q101
       obtain ⟨x3_2, x5_2, rfl, rfl, HA, HK2, ⟨m2, rfl⟩⟩ := hrel
       cases gk with
       | zero => exact absurd HA.out (by simp [charge_measure.l1])
       | succ k2 =>
        have H := HA.out; clear HA; simp only [charge_measure.l1] at H; by_cases c5 : x5_2 = 0
        ·rw [if_pos c5] at H; have c5b0 : (x5_2 == 0) = true := beq_iff_eq.mpr c5; have c5b1 : (x5_2 != 0) = false := bne_eq_false_iff_eq.mpr c5; clear c5; have H' := XB H; clear H; go_wp2
         repeat (go_quiet (fail); try go_wp2)
         go_roundg k2
         case measure => have := HK1.out; have := HK2.out; omega
         case rel => exact ⟨(x3_2), (wrap64 (x8_1 + 1)), (by first | rfl | (simp; done) | (simp [*]; done)), (by first | rfl | (simp; done) | (simp [*]; done)), H', ⟨by have := HK1.out; have := HK2.out; omega⟩, by repeat (first | exact Drawn0.refl _ | apply Drawn0.step)⟩
        ·rw [if_neg c5] at H; have c5b0 : (x5_2 == 0) = false := beq_eq_false_iff_ne.mpr c5; have c5b1 : (x5_2 != 0) = true := bne_iff_ne.mpr c5; have H' := XB H; clear H; go_wp2
         repeat (go_quiet (fail); try go_wp2)
         go_roundg k2
         case measure => have := HK1.out; have := HK2.out; omega
         case rel => exact ⟨(x5_2), (Int.tmod x3_2 x5_2), (by first | rfl | (simp; done) | (simp [*]; done)), (by first | rfl | (simp; done) | (simp [*]; done)), H', ⟨by have := HK1.out; have := HK2.out; omega⟩, by repeat (first | exact Drawn0.refl _ | apply Drawn0.step)⟩
     ·rw [if_neg c4] at H; exact absurd H (by simp)
    ·rw [if_neg c3] at H; exact absurd H (by simp)
   ·rw [if_neg c2] at H; have c2b0 : decide (x8_1 < (l0.length : Int)) = false := decide_eq_false c2; clear c2; obtain rfl := Option.some.inj H; go_wp2
    repeat (go_quiet (fail); try go_wp2)
    go_ret
    exact ⟨by first | rfl | (simp; done) | (simp [*]; done), by repeat (first | exact Drawn0.refl _ | apply Drawn0.step)⟩

end Go.Proofs.Ytgndhijhcliegaa.P
