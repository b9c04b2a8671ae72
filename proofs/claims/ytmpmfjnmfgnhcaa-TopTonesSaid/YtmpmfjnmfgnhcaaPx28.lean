-- laid by a program of this session (wip/tools): plain functions of the Go code and their contracts
import Derived.Test.YtmpmfjnmfgnhcaaPx0
namespace Go.Proofs.Ytmpmfjnmfgnhcaa.P
open Go.RowKit Go.Proofs.YtmpmfjnmfgnhcaaW.PrintWords Go.Proofs.YtmpmfjnmfgnhcaaW.PrintLast Go.Proofs.YtmpmfjnmfgnhcaaW.PrintMore
attribute [local go_sem] max2_int min2_int max_two min_two max_three min_three max_four min_four   -- for this text's walks alone
set_option linter.unusedVariables false
set_option linter.unusedSimpArgs false

/-! ### bits_Mul32: function 105 -/
def bits_Mul32.f (a0 : Int) (a1 : Int) : Option (Int × Int) := some (((IntKind.u64.wrap ((IntKind.u64.wrap (a0)) * (IntKind.u64.wrap (a1)))) / 4294967296) % 4294967296, (IntKind.u64.wrap ((IntKind.u64.wrap (a0)) * (IntKind.u64.wrap (a1)))) % 4294967296)
set_option maxHeartbeats 8000000 in
set_option maxRecDepth 100000 in
theorem bits_Mul32.calls (a0 : Int) (a1 : Int) (r1 : Int) (r2 : Int) (w : World) (h : bits_Mul32.f a0 a1 = some (r1, r2)) :
    Calls Try.prog 105 #[.int .u32 a0, .int .u32 a1] w fun e w' => e = .returned (.tuple #[.int .u32 r1, .int .u32 r2]) ∧ Drawn0 w w' := by
  have H : (some (((IntKind.u64.wrap ((IntKind.u64.wrap (a0)) * (IntKind.u64.wrap (a1)))) / 4294967296) % 4294967296, (IntKind.u64.wrap ((IntKind.u64.wrap (a0)) * (IntKind.u64.wrap (a1)))) % 4294967296)) = some (r1, r2) := h
  clear h
  simp only [Option.some.injEq, Prod.mk.injEq] at H
  obtain ⟨rfl, rfl⟩ := H
  go_enter Try.func105, Try.ntmps105
  go_wp2
  go_ret2
  exact ⟨by first | rfl | (simp; done) | (simp [*]; done), by repeat (first | exact Drawn0.refl _ | apply Drawn0.step)⟩

/-! ### bits_Mul64: function 106 -/
def bits_Mul64.f (a0 : Int) (a1 : Int) : Option (Int × Int) := some (IntKind.u64.wrap ((IntKind.u64.wrap ((IntKind.u64.wrap ((a0 / 4294967296) * (a1 / 4294967296))) + ((IntKind.u64.wrap ((IntKind.u64.wrap ((a0 / 4294967296) * (Go.bits .and .u64 a1 4294967295))) + ((IntKind.u64.wrap ((Go.bits .and .u64 a0 4294967295) * (Go.bits .and .u64 a1 4294967295))) / 4294967296))) / 4294967296))) + ((IntKind.u64.wrap ((Go.bits .and .u64 (IntKind.u64.wrap ((IntKind.u64.wrap ((a0 / 4294967296) * (Go.bits .and .u64 a1 4294967295))) + ((IntKind.u64.wrap ((Go.bits .and .u64 a0 4294967295) * (Go.bits .and .u64 a1 4294967295))) / 4294967296))) 4294967295) + (IntKind.u64.wrap ((Go.bits .and .u64 a0 4294967295) * (a1 / 4294967296))))) / 4294967296)), IntKind.u64.wrap (a0 * a1))
set_option maxHeartbeats 8000000 in
set_option maxRecDepth 100000 in
theorem bits_Mul64.calls (a0 : Int) (a1 : Int) (r1 : Int) (r2 : Int) (w : World) (h : bits_Mul64.f a0 a1 = some (r1, r2)) :
    Calls Try.prog 106 #[.int .u64 a0, .int .u64 a1] w fun e w' => e = .returned (.tuple #[.int .u64 r1, .int .u64 r2]) ∧ Drawn0 w w' := by
  have H : (some (IntKind.u64.wrap ((IntKind.u64.wrap ((IntKind.u64.wrap ((a0 / 4294967296) * (a1 / 4294967296))) + ((IntKind.u64.wrap ((IntKind.u64.wrap ((a0 / 4294967296) * (Go.bits .and .u64 a1 4294967295))) + ((IntKind.u64.wrap ((Go.bits .and .u64 a0 4294967295) * (Go.bits .and .u64 a1 4294967295))) / 4294967296))) / 4294967296))) + ((IntKind.u64.wrap ((Go.bits .and .u64 (IntKind.u64.wrap ((IntKind.u64.wrap ((a0 / 4294967296) * (Go.bits .and .u64 a1 4294967295))) + ((IntKind.u64.wrap ((Go.bits .and .u64 a0 4294967295) * (Go.bits .and .u64 a1 4294967295))) / 4294967296))) 4294967295) + (IntKind.u64.wrap ((Go.bits .and .u64 a0 4294967295) * (a1 / 4294967296))))) / 4294967296)), IntKind.u64.wrap (a0 * a1))) = some (r1, r2) := h
  clear h
  simp only [Option.some.injEq, Prod.mk.injEq] at H
  obtain ⟨rfl, rfl⟩ := H
  go_enter Try.func106, Try.ntmps106
  go_wp2
  go_ret2
  exact ⟨by first | rfl | (simp; done) | (simp [*]; done), by repeat (first | exact Drawn0.refl _ | apply Drawn0.step)⟩

/-! ### bits_Mul: function 102 -/
def bits_Mul.f (a0 : Int) (a1 : Int) : Option (Int × Int) := (bits_Mul64.f a0 a1).bind fun bt101 => (some (bt101.1, bt101.2))
set_option maxHeartbeats 8000000 in
set_option maxRecDepth 100000 in
theorem bits_Mul.calls (a0 : Int) (a1 : Int) (r1 : Int) (r2 : Int) (w : World) (h : bits_Mul.f a0 a1 = some (r1, r2)) :
    Calls Try.prog 102 #[.int .u64 a0, .int .u64 a1] w fun e w' => e = .returned (.tuple #[.int .u64 r1, .int .u64 r2]) ∧ Drawn0 w w' := by
  have H : ((bits_Mul64.f a0 a1).bind fun bt101 => (some (bt101.1, bt101.2))) = some (r1, r2) := h
  clear h
  replace H := Option.bind_eq_some_iff.mp H
  obtain ⟨⟨t101, t102⟩, A30, H⟩ := H
  replace H : (some (t101, t102)) = some (r1, r2) := H
  have A3 := Aside0.mk A30
  clear A30
  simp only [Option.some.injEq, Prod.mk.injEq] at H
  obtain ⟨rfl, rfl⟩ := H
  go_enter Try.func102, Try.ntmps102
  go_wp2_with (first | ((with_reducible refine gate_callee (f := 106) rfl ?_); refine goesL_ (some 25) rfl rfl Try.func106 (by kernel_rfl) rfl #[.int .u64 a0, .int .u64 a1] rfl (by (try simp only [List.map_toArray, List.map_cons, List.map_nil]); first | done | rfl | (simp only [List.length_drop, List.length_take]; rfl)) ?_; (with_reducible refine (bits_Mul64.calls a0 a1 t101 t102 _ A3.out).mono ?_); rintro e w' ⟨rfl, ⟨nd, rfl⟩⟩; refine ⟨_, rfl, ?_⟩))
  go_ret2
  exact ⟨by first | rfl | (simp; done) | (simp [*]; done), by repeat (first | exact Drawn0.refl _ | apply Drawn0.step)⟩

/-! ### slices_Repeat_int_int: function 95 -/
theorem slices_Repeat_int_int.mul_small (a b : Nat) (ha : a ≤ 1000000) (hb : b ≤ 1000000) : bits_Mul.f (a : Int) (b : Int) = some (0, ((a * b : Nat) : Int)) := by
  have hab : a * b ≤ 1000000000000 := Nat.le_trans (Nat.mul_le_mul ha hb) (by decide)
  have w64 : ∀ n : Nat, n < 18446744073709551616 → IntKind.u64.wrap (n : Int) = n := by
    intro n hn
    simp [IntKind.wrap, IntKind.bits, IntKind.signed]
    omega
  have hm : ∀ n : Nat, n < 4294967296 → Go.bits .and .u64 (n : Int) 4294967295 = n := by
    intro n hn
    have := bits_and_u64_nat n 4294967295 (by omega) (by omega)
    rw [show ((4294967295 : Nat) : Int) = 4294967295 from rfl] at this
    rw [this]
    congr 1
    rw [show (4294967295 : Nat) = 2 ^ 32 - 1 from rfl, Nat.and_two_pow_sub_one_eq_mod]
    exact Nat.mod_eq_of_lt (by simpa using hn)
  have ea : (a : Int) / 4294967296 = 0 := by omega
  have eb : (b : Int) / 4294967296 = 0 := by omega
  have z64 : IntKind.u64.wrap 0 = 0 := w64 0 (by decide)
  have p64 : IntKind.u64.wrap ((a : Int) * b) = ((a * b : Nat) : Int) := by rw [← Int.natCast_mul]; exact w64 _ (by omega)
  have ed : (((a * b : Nat) : Int)) / 4294967296 = ((a * b / 4294967296 : Nat) : Int) := by omega
  have q64 : IntKind.u64.wrap ((a * b / 4294967296 : Nat) : Int) = ((a * b / 4294967296 : Nat) : Int) := w64 _ (by omega)
  have hq := hm (a * b / 4294967296) (by omega)
  have er : ((a * b / 4294967296 : Nat) : Int) / 4294967296 = 0 := by omega
  unfold bits_Mul.f bits_Mul64.f
  simp only [Option.bind_some, ea, eb, hm a (by omega), hm b (by omega), Int.zero_mul, Int.mul_zero, z64, p64, Int.zero_add, Int.add_zero, ed, q64, hq, er]

def slices_Repeat_int_int.f (l0 : List Int) (a1 : Int) : Option (List Int) := if 0 < l0.length then (if l0.length ≤ 1000 then (if 1 ≤ a1 then (if a1 ≤ 1000 then (some (List.replicate a1.toNat l0).flatten) else none) else none) else none) else none
set_option maxHeartbeats 8000000 in
set_option maxRecDepth 100000 in
theorem slices_Repeat_int_int.calls (A0 : Option Addr) (c0 : Nat) (l0 : List Int) (a1 : Int) (r : List Int) (w : World) (hr0 : Kd.C (Kd.int .i64) w A0 l0.length l0) (hc0 : l0.length ≤ c0) (h : slices_Repeat_int_int.f l0 a1 = some r) :
    Calls Try.prog 95 #[.slice A0 l0.length c0, .int .i64 a1] w fun e w' => ∃ v0_ : Value, e = .returned (v0_) ∧ Kd.R (Kd.int .i64) 3 w' w.heap.size (fun _ => True) v0_ r ∧ Below w.heap.size w w' := by
  obtain ⟨H1, H2, H3, H4, rfl⟩ : 0 < l0.length ∧ l0.length ≤ 1000 ∧ 1 ≤ a1 ∧ a1 ≤ 1000 ∧ (List.replicate a1.toNat l0).flatten = r := by
    unfold slices_Repeat_int_int.f at h
    split at h
    · split at h
      · split at h
        · split at h
          · exact ⟨‹_›, ‹_›, ‹_›, ‹_›, Option.some.inj h⟩
          · cases h
        · cases h
      · cases h
    · cases h
  clear h
  obtain ⟨m, rfl⟩ := Int.eq_ofNat_of_zero_le (show 0 ≤ a1 by omega)
  rw [Int.toNat_natCast]
  obtain ⟨L, hL⟩ : ∃ L, L = l0.length := ⟨_, rfl⟩
  have HL := Aside0.mk hL
  rw [← hL] at H1 H2 hc0
  rw [show l0.length = L from hL.symm] at hr0 ⊢
  clear hL
  have hmul := slices_Repeat_int_int.mul_small L m (by omega) (by omega)
  have HM := Aside0.mk hmul
  clear hmul
  have hb1 : L * m ≤ 1000000 := Nat.le_trans (Nat.mul_le_mul H2 (show m ≤ 1000 by omega)) (by decide)
  obtain ⟨M, hM⟩ : ∃ M, M = L * m := ⟨_, rfl⟩
  rw [← hM] at HM hb1
  have HMM := Aside0.mk hM
  have hLM : L ≤ M := by rw [hM]; exact Nat.le_mul_of_pos_right _ (by omega)
  clear hM
  have HR0 := Aside0.mk hr0
  have HC0 := Aside0.mk hc0
  clear hr0 hc0
  have HF : Aside0 (Go.Proofs.YtmpmfjnmfgnhcaaW.PrintHand.Flat (Kd.int .i64)) := Aside0.mk (by
    exact fun _ _ _ _ _ _ h => h)
  have wL : IntKind.u64.wrap (L : Int) = L := by simp [IntKind.wrap, IntKind.bits, IntKind.signed]; omega
  have wm : IntKind.u64.wrap (m : Int) = m := by simp [IntKind.wrap, IntKind.bits, IntKind.signed]; omega
  have wM : IntKind.i64.wrap (M : Int) = M := by rw [IntKind.wrap_i64]; omega
  have t1 : decide ((m : Int) < 0) = false := decide_eq_false (by omega)
  have t2 : decide ((M : Int) > 9223372036854775807) = false := decide_eq_false (by omega)
  obtain ⟨ad, cs, hA0, hrep, hcs⟩ := Go.Proofs.YtmpmfjnmfgnhcaaW.PrintHand.C_cells HR0.out HL.out.symm H1
  subst hA0
  have hcl0 : cs.length = l0.length * 1 := hrep.1
  have hcl : cs.length = L * 1 := by rw [hcl0, HL.out]
  clear hcl0
  have HREP := Aside0.mk hrep
  have HCS := Aside0.mk hcs
  have HCL := Aside0.mk hcl
  have H1C : Aside0 (∀ v ∈ cs, v.oneCell' = true) := Aside0.mk (by
    intro u hu
    obtain ⟨j, hj⟩ := List.getElem?_of_mem hu
    have hjl : j < cs.length := (List.getElem?_eq_some_iff.1 hj).1
    have hq : j / 1 < l0.length := by rw [hcl, HL.out] at hjl; omega
    have hk := hrep.2 (j / 1) _ (List.getElem?_eq_getElem hq)
    refine (Kd.int .i64).K_one hk u ?_
    refine List.mem_of_getElem? (i := j % 1) ?_
    have hs : (Kd.int .i64).sz = 1 := rfl
    rw [hs, List.getElem?_take_of_lt (Nat.mod_lt _ (by decide)), List.getElem?_drop]
    rw [show j / 1 * 1 + j % 1 = j by omega]
    exact hj)
  clear hrep hcs hcl
  obtain ⟨Pt, hPt⟩ : ∃ Pt, Pt = (List.replicate m cs).flatten := ⟨_, rfl⟩
  have hPl : Pt.length = M * 1 := by rw [hPt, List.length_flatten]; simp [HCL.out, HMM.out]; (first | (rw [← Nat.mul_assoc, Nat.mul_comm m L]; done) | exact Nat.mul_comm m L)
  have hP0 : Pt.take (L * 1) = cs := by
    obtain ⟨m', rfl⟩ : ∃ m', m = m' + 1 := ⟨m - 1, by omega⟩
    rw [hPt, List.replicate_succ, List.flatten_cons, ← HCL.out, List.take_left']
    rfl
  have HP := Aside0.mk hPt
  have HPL := Aside0.mk hPl
  have HP0 := Aside0.mk hP0
  have HP1 : Aside0 (∀ v ∈ Pt, v.oneCell' = true) := Aside0.mk (by
    intro v hv
    rw [hPt] at hv
    obtain ⟨l, hl, hv⟩ := List.mem_flatten.1 hv
    rw [List.eq_of_mem_replicate hl] at hv
    exact H1C.out v hv)
  clear hPt hPl hP0
  have hi : (Try.prog.info? 3).map (·.size) = some 1 := by
    have := info3
    revert this
    cases Try.prog.info? 3 with
    | none => intro h_; cases h_
    | some i_ => intro h_; simp only [Option.map_some, Option.some.injEq, Prod.mk.injEq] at h_; exact congrArg some h_.2.1
  have HI := Aside0.mk hi
  clear hi
  have HMIN := Aside0.mk (show Nat.min L M = L from Nat.min_eq_left hLM)
  go_enter Try.func95, Try.ntmps95
  go_wp2_with (first | ((with_reducible refine gate_callee (f := 102) rfl ?_); refine goesL_ (some 18) rfl rfl Try.func102 (by kernel_rfl) rfl #[.int .u64 (L : Int), .int .u64 (m : Int)] rfl (by (try simp only [List.map_toArray, List.map_cons, List.map_nil]); first | done | rfl | (go_simp; done)) ?_; (with_reducible refine (bits_Mul.calls (L : Int) (m : Int) 0 (M : Int) _ HM.out).mono ?_); rintro e w1 ⟨rfl, ⟨nd, rfl⟩⟩; refine ⟨_, rfl, ?_⟩) | ((with_reducible refine gate_dst (N := 30) rfl ?_); refine Kd.R_make (Kd.int .i64) _ 3 rfl (N := 30) rfl 22 _ _ rfl (M : Int) rfl rfl Try.underlying22 (.int .i64 0) 8 info3 rfl (by decide) (by omega) (0 : Int) (ok := fun _ => True) (okp := fun _ => True) rfl (fun _ hk => hk) trivial (by omega) (by omega) (pw_below_drewN (Below.refl _ _) _) (Nat.le_refl _) ?_; intro v1 w1 ho hb hg hnew; obtain ⟨g, cap, cur, hv, hbg, hcur, hle, hcm, hsz, hok⟩ := Go.Proofs.YtmpmfjnmfgnhcaaW.PrintHand.R_block ho (by rw [List.length_replicate]; omega); rw [List.length_replicate, Int.toNat_natCast] at hv hle; subst hv; have HCUR := Aside0.mk hcur; have hle2 : M ≤ cap := hle; have HB := Aside0.mk hb; have HSZ := Aside0.mk hsz; have HCM := Aside0.mk hcm; have HBG := Aside0.mk hbg; clear ho hb hg hnew hcur hsz hcm hbg hok) | (refine Go.Proofs.YtmpmfjnmfgnhcaaW.PrintHand.wpList_copy_size rfl (.tmp 31) (.tmp 32) 22 22 rfl 3 Try.underlying22 1 HI.out g 0 M cap ad L c0 rfl rfl cur 3 HCUR.out cs (by rw [HCL.out, HMIN.out]) (fun j v hj => pw_cell_below HB.out (HCS.out j v hj)) (by rw [HCL.out, HSZ.out]; show 0 + L * 1 ≤ cap * 1; omega) H1C.out ?_; intro w2 hcur2 hgr2 hs2; rw [HMIN.out]; have HCUR2 := Aside0.mk hcur2; have HB2 := Aside0.mk (HB.out.grown hgr2 HB.out.size (fun k hk => by injection hk with hk; rw [← hk]; exact HBG.out)); clear hcur2 hgr2 hs2))
  go_loopw [8] (fun v8 wr => ∃ n : Nat, v8 = .int .i64 n ∧ L ≤ n ∧ n ≤ M ∧ Aside0 ((∃ q, n = q * L) ∨ n = M) ∧ ∃ cur' : Array Value, Aside0 (wr.heap[g]? = some (.cells cur' 3 (0, 0))) ∧ Aside0 (cur'.size = cap * 1) ∧ Aside0 (cur'.toList.take (n * 1) = Pt.take (n * 1)) ∧ Aside0 (Below w.heap.size w wr)) (fun v8 _ => M - (intOf v8).toNat)
  case atStart =>
    refine ⟨L, rfl, Nat.le_refl _, hLM, ⟨.inl ⟨1, (Nat.one_mul _).symm⟩⟩, _, HCUR2, ⟨?_⟩, ⟨?_⟩, HB2⟩
    · have hs2 : (Kd.int .i64).sz = 1 := rfl
      have := HSZ.out
      rw [hs2] at this
      simp [HCL.out, this]
      omega
    · rw [HP0.out]
      simp [← HCL.out]
  case round =>
    obtain ⟨n, rfl, hn1, hn2, HQ, cur', HC', HS', HT', HB'⟩ := hrel
    by_cases hlt : n < M
    · obtain ⟨n', hn'⟩ : ∃ n', n' = Nat.min n (M - n) := ⟨_, rfl⟩
      have hn1' : n' ≤ n := by rw [hn']; exact Nat.min_le_left _ _
      have hn2' : n' ≤ M - n := by rw [hn']; exact Nat.min_le_right _ _
      have hn0 : 0 < n' := by rw [hn']; exact Nat.lt_min.2 ⟨by omega, by omega⟩
      have HN' := Aside0.mk hn'
      have HN2 : Aside0 (n' = n ∨ n' = M - n) := ⟨by rw [hn']; rcases Nat.le_total n (M - n) with h | h; exact .inl (Nat.min_eq_left h); exact .inr (Nat.min_eq_right h)⟩
      clear hn'
      have HX1 : Aside0 ((Pt.take (n' * 1)).length = Nat.min n (M - n) * 1) := ⟨by rw [List.length_take, HPL.out, ← HN'.out]; omega⟩
      have HX2 : Aside0 (∀ (W : World), W.heap[g]? = some (.cells cur' 3 (0, 0)) → ∀ j v, (Pt.take (n' * 1))[j]? = some v → W.cell? ((⟨g, 0, none⟩ : Addr).add j) = some v) := ⟨by
        intro W hW j v hj
        have hjl : j < n' * 1 := by have := (List.getElem?_eq_some_iff.1 hj).1; rw [List.length_take] at this; omega
        rw [Addr.add_lit, Nat.zero_add]
        have e1 : (cur'.toList.take (n * 1))[j]? = some v := by rw [HT'.out, List.getElem?_take_of_lt (by omega)]; rwa [List.getElem?_take_of_lt hjl] at hj
        rw [List.getElem?_take_of_lt (by omega)] at e1
        simp [World.cell?, hW]
        simpa using e1⟩
      have HX3 : Aside0 (n * 1 + (Pt.take (n' * 1)).length ≤ cur'.size) := ⟨by rw [List.length_take, HPL.out, HS'.out]; omega⟩
      have HX4 : Aside0 (∀ v ∈ Pt.take (n' * 1), v.oneCell' = true) := ⟨fun v hv => HP1.out v (List.mem_of_mem_take hv)⟩
      have hlt2 : decide ((n : Int) < (M : Int)) = true := decide_eq_true (by omega)
      have hnc : n ≤ cap := by omega
      have hnc2 : ¬ cap = n := by omega
      have hsum : IntKind.i64.wrap ((n : Int) + (n' : Int)) = (n : Int) + n' := by rw [IntKind.wrap_i64]; omega
      go_wp2
      go_region_law (refine Go.Proofs.YtmpmfjnmfgnhcaaW.PrintHand.step_copy_size rfl (.tmp 41) (.tmp 44) 22 22 rfl 3 Try.underlying22 1 HI.out g (n * 1) (M - n) (cap - n) ⟨g, 0, none⟩ n cap ?h3 ?h4 cur' 3 HC'.out (Pt.take (n' * 1)) HX1.out (HX2.out _ HC'.out) HX3.out HX4.out ?h7; (case h3 => go_simp); (case h4 => go_simp); rw [← HN'.out]; intro w4 hg4 hb4)
      clear hsum
      simp only [List.getElem_toArray, List.getElem_cons_zero, List.getElem_cons_succ, Act.put, List.setIfInBounds_toArray, List.set_cons_zero, List.set_cons_succ]
      go_wp2
      go_roundw
      case rel =>
        have hq : ∃ q, n = q * L := by
          rcases HQ.out with h | h
          · exact h
          · omega
        obtain ⟨q, hq⟩ := hq
        refine ⟨n + n', by go_num, by omega, by omega, ⟨?_⟩, _, ⟨hg4.out⟩, ⟨?_⟩, ⟨?_⟩, ⟨?_⟩⟩
        · rcases HN2.out with h | h
          · exact .inl ⟨2 * q, by rw [h, hq, Nat.mul_assoc, Nat.two_mul]⟩
          · exact .inr (by omega)
        · simp only [List.size_toArray, List.length_append, List.length_take, List.length_drop, Array.length_toList, HS'.out, HPL.out]
          omega
        · have hl1 : (Pt.take (n' * 1)).length = n' * 1 := by rw [List.length_take, HPL.out]; omega
          have hd := Go.Proofs.YtmpmfjnmfgnhcaaW.PrintHand.double cs m q (n * 1) (n' * 1) (by rw [HCL.out, hq, Nat.mul_assoc]) (by omega) (by rw [← HP.out, HPL.out]; omega) cur'.toList (by rw [← HP.out]; exact HT'.out) (by rw [Array.length_toList, HS'.out]; omega)
          rw [← HP.out] at hd
          rw [Nat.add_mul]
          simp only [hl1]
          exact hd
        · exact (below_drew HB'.out).grown hb4.out (below_drew HB'.out).size (fun k hk => by injection hk with hk; rw [← hk]; exact HBG.out)
      case measure => simp [intOf]; omega
    · obtain rfl : n = M := by omega
      have hlt2 : decide ((n : Int) < (n : Int)) = false := decide_eq_false (by omega)
      go_wp2
      go_ret
      have hxl : ((List.replicate m l0).flatten).length = n := by
        rw [List.length_flatten, HMM.out, HL.out]
        simp [Nat.mul_comm]
      have hrr : Reps ((Kd.int .i64).K w) 1 (List.replicate m l0).flatten Pt := by
        rw [HP.out]
        exact Go.Proofs.YtmpmfjnmfgnhcaaW.PrintHand.Reps.times HREP.out m
      refine ⟨.slice (some ⟨g, 0, none⟩) n cap, rfl, ⟨fun _ _ => trivial, Pt, ⟨by rw [hxl]; exact HPL.out, .inr ⟨g, cap, cur', by rw [hxl], HBG.out, HC'.out, by rw [hxl]; exact hle2, HCM.out, HS'.out, ?_⟩⟩, hrr.imp_ (fun _ _ hk => HF.out _ _ _ _ _ _ hk)⟩, HB'.out⟩
      have := HT'.out
      rw [hxl]
      rw [List.take_of_length_le (l := Pt) (by rw [HPL.out]; exact Nat.le_refl _)] at this
      exact this


end Go.Proofs.Ytmpmfjnmfgnhcaa.P
