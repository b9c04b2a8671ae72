-- laid by a program of this session (wip/tools): plain functions of the Go code and their contracts
import Derived.Test.YtgdhbeccpicdcaaPx0
import Derived.Test.YtgdhbeccpicdcaaPx2
import Derived.Test.YtgdhbeccpicdcaaPx5
import Derived.Test.YtgdhbeccpicdcaaPx6
namespace Go.Proofs.Ytgdhbeccpicdcaa.P
open Go.RowKit Go.Proofs.YtgdhbeccpicdcaaW.PrintWords Go.Proofs.YtgdhbeccpicdcaaW.PrintLast Go.Proofs.YtgdhbeccpicdcaaW.PrintMore
attribute [local go_sem] max2_int min2_int max_two min_two max_three min_three max_four min_four   -- for this text's walks alone
set_option linter.unusedVariables false
set_option linter.unusedSimpArgs false

attribute [local go_sem high] eqA33
/-! ### api_Rat: function 83 -/
theorem api_Rat.mul_small (a b : Nat) (ha : a ≤ 1000000) (hb : b ≤ 1000000) : bits_Mul.f (a : Int) (b : Int) = some (0, ((a * b : Nat) : Int)) := by
  have hab : a * b ≤ 1000000000000 := Nat.le_trans (Nat.mul_le_mul ha hb) (by decide)
  have w64 : ∀ n : Nat, n < 18446744073709551616 → IntKind.u64.wrap (n : Int) = n := by
    intro n hn
    simp [IntKind.wrap, IntKind.bits, IntKind.signed]
    omega
  have hm : ∀ n : Nat, n < 4294967296 → Go.bits .and .u64 (n : Int) 4294967295 = n := by
    intro n hn
    have := bits_and_u64_nat n 4294967295 (by omega) (by omega)
    rw [show ((4294967295 : Nat) : Int) = 4294967295 from rfl] at this
    rw [this]
    congr 1
    rw [show (4294967295 : Nat) = 2 ^ 32 - 1 from rfl, Nat.and_two_pow_sub_one_eq_mod]
    exact Nat.mod_eq_of_lt (by simpa using hn)
  have ea : (a : Int) / 4294967296 = 0 := by omega
  have eb : (b : Int) / 4294967296 = 0 := by omega
  have z64 : IntKind.u64.wrap 0 = 0 := w64 0 (by decide)
  have p64 : IntKind.u64.wrap ((a : Int) * b) = ((a * b : Nat) : Int) := by rw [← Int.natCast_mul]; exact w64 _ (by omega)
  have ed : (((a * b : Nat) : Int)) / 4294967296 = ((a * b / 4294967296 : Nat) : Int) := by omega
  have q64 : IntKind.u64.wrap ((a * b / 4294967296 : Nat) : Int) = ((a * b / 4294967296 : Nat) : Int) := w64 _ (by omega)
  have hq := hm (a * b / 4294967296) (by omega)
  have er : ((a * b / 4294967296 : Nat) : Int) / 4294967296 = 0 := by omega
  unfold bits_Mul.f bits_Mul64.f
  simp only [Option.bind_some, ea, eb, hm a (by omega), hm b (by omega), Int.zero_mul, Int.mul_zero, z64, p64, Int.zero_add, Int.add_zero, ed, q64, hq, er]

def api_Rat.f (l0 : List (S33)) (a1 : Int) : Option (List (S33)) := if 0 < l0.length then (if l0.length ≤ 1000 then (if 1 ≤ a1 then (if a1 ≤ 1000 then (some (List.replicate a1.toNat l0).flatten) else none) else none) else none) else none
set_option maxHeartbeats 8000000 in
set_option maxRecDepth 100000 in
theorem api_Rat.calls (A0 : Option Addr) (c0 : Nat) (l0 : List (S33)) (a1 : Int) (r : List (S33)) (w : World) (hr0 : Kd.C k33 w A0 l0.length l0) (hc0 : l0.length ≤ c0) (h : api_Rat.f l0 a1 = some r) :
    Calls Try.prog 83 #[.slice A0 l0.length c0, .int .i64 a1] w fun e w' => ∃ v0_ : Value, e = .returned (v0_) ∧ Kd.R k33 33 w' w.heap.size (fun _ => True) v0_ r ∧ Below w.heap.size w w' := by
  obtain ⟨H1, H2, H3, H4, rfl⟩ : 0 < l0.length ∧ l0.length ≤ 1000 ∧ 1 ≤ a1 ∧ a1 ≤ 1000 ∧ (List.replicate a1.toNat l0).flatten = r := by
    unfold api_Rat.f at h
    split at h
    · split at h
      · split at h
        · split at h
          · exact ⟨‹_›, ‹_›, ‹_›, ‹_›, Option.some.inj h⟩
          · cases h
        · cases h
      · cases h
    · cases h
  clear h
  obtain ⟨m, rfl⟩ := Int.eq_ofNat_of_zero_le (show 0 ≤ a1 by omega)
  rw [Int.toNat_natCast]
  obtain ⟨L, hL⟩ : ∃ L, L = l0.length := ⟨_, rfl⟩
  have HL := Aside0.mk hL
  rw [← hL] at H1 H2 hc0
  rw [show l0.length = L from hL.symm] at hr0 ⊢
  clear hL
  have hmul := api_Rat.mul_small L m (by omega) (by omega)
  have HM := Aside0.mk hmul
  clear hmul
  have hb1 : L * m ≤ 1000000 := Nat.le_trans (Nat.mul_le_mul H2 (show m ≤ 1000 by omega)) (by decide)
  obtain ⟨M, hM⟩ : ∃ M, M = L * m := ⟨_, rfl⟩
  rw [← hM] at HM hb1
  have HMM := Aside0.mk hM
  have hLM : L ≤ M := by rw [hM]; exact Nat.le_mul_of_pos_right _ (by omega)
  clear hM
  have HR0 := Aside0.mk hr0
  have HC0 := Aside0.mk hc0
  clear hr0 hc0
  have HF : Aside0 (Go.Proofs.YtgdhbeccpicdcaaW.PrintHand.Flat k33) := Aside0.mk (by
    exact Go.Proofs.YtgdhbeccpicdcaaW.PrintHand.flat_pair_2)
  have wL : IntKind.u64.wrap (L : Int) = L := by simp [IntKind.wrap, IntKind.bits, IntKind.signed]; omega
  have wm : IntKind.u64.wrap (m : Int) = m := by simp [IntKind.wrap, IntKind.bits, IntKind.signed]; omega
  have wM : IntKind.i64.wrap (M : Int) = M := by rw [IntKind.wrap_i64]; omega
  have t1 : decide ((m : Int) < 0) = false := decide_eq_false (by omega)
  have t2 : decide ((M : Int) > 9223372036854775807) = false := decide_eq_false (by omega)
  obtain ⟨ad, cs, hA0, hrep, hcs⟩ := Go.Proofs.YtgdhbeccpicdcaaW.PrintHand.C_cells HR0.out HL.out.symm H1
  subst hA0
  have hcl0 : cs.length = l0.length * 2 := hrep.1
  have hcl : cs.length = L * 2 := by rw [hcl0, HL.out]
  clear hcl0
  have HREP := Aside0.mk hrep
  have HCS := Aside0.mk hcs
  have HCL := Aside0.mk hcl
  have H1C : Aside0 (∀ v ∈ cs, v.oneCell' = true) := Aside0.mk (by
    intro u hu
    obtain ⟨j, hj⟩ := List.getElem?_of_mem hu
    have hjl : j < cs.length := (List.getElem?_eq_some_iff.1 hj).1
    have hq : j / 2 < l0.length := by rw [hcl, HL.out] at hjl; omega
    have hk := hrep.2 (j / 2) _ (List.getElem?_eq_getElem hq)
    refine k33.K_one hk u ?_
    refine List.mem_of_getElem? (i := j % 2) ?_
    have hs : k33.sz = 2 := rfl
    rw [hs, List.getElem?_take_of_lt (Nat.mod_lt _ (by decide)), List.getElem?_drop]
    rw [show j / 2 * 2 + j % 2 = j by omega]
    exact hj)
  clear hrep hcs hcl
  obtain ⟨Pt, hPt⟩ : ∃ Pt, Pt = (List.replicate m cs).flatten := ⟨_, rfl⟩
  have hPl : Pt.length = M * 2 := by rw [hPt, List.length_flatten]; simp [HCL.out, HMM.out]; (first | (rw [← Nat.mul_assoc, Nat.mul_comm m L]; done) | exact Nat.mul_comm m L)
  have hP0 : Pt.take (L * 2) = cs := by
    obtain ⟨m', rfl⟩ : ∃ m', m = m' + 1 := ⟨m - 1, by omega⟩
    rw [hPt, List.replicate_succ, List.flatten_cons, ← HCL.out, List.take_left']
    rfl
  have HP := Aside0.mk hPt
  have HPL := Aside0.mk hPl
  have HP0 := Aside0.mk hP0
  have HP1 : Aside0 (∀ v ∈ Pt, v.oneCell' = true) := Aside0.mk (by
    intro v hv
    rw [hPt] at hv
    obtain ⟨l, hl, hv⟩ := List.mem_flatten.1 hv
    rw [List.eq_of_mem_replicate hl] at hv
    exact H1C.out v hv)
  clear hPt hPl hP0
  have hi : (Try.prog.info? 33).map (·.size) = some 2 := by
    have := info33
    revert this
    cases Try.prog.info? 33 with
    | none => intro h_; cases h_
    | some i_ => intro h_; simp only [Option.map_some, Option.some.injEq, Prod.mk.injEq] at h_; exact congrArg some h_.2.1
  have HI := Aside0.mk hi
  clear hi
  have HMIN := Aside0.mk (show Nat.min L M = L from Nat.min_eq_left hLM)
  go_enter Try.func83, Try.ntmps83
  go_wp2_with (first | ((with_reducible refine gate_callee (f := 88) rfl ?_); refine goesL_ (some 18) rfl rfl Try.func88 (by kernel_rfl) rfl #[.int .u64 (L : Int), .int .u64 (m : Int)] rfl (by (try simp only [List.map_toArray, List.map_cons, List.map_nil]); first | done | rfl | (go_simp; done)) ?_; (with_reducible refine (bits_Mul.calls (L : Int) (m : Int) 0 (M : Int) _ HM.out).mono ?_); rintro e w1 ⟨rfl, ⟨nd, rfl⟩⟩; refine ⟨_, rfl, ?_⟩) | ((with_reducible refine gate_dst (N := 30) rfl ?_); refine Kd.R_make k33 _ 33 rfl (N := 30) rfl 25 _ _ rfl (M : Int) rfl rfl Try.underlying25 (.agg #[(.int .i64 0), (.int .i64 0)]) 16 info33 rfl (by decide) (by omega) z33 (ok := fun _ => True) (okp := fun _ => True) (k33_mkM _ _ _ z33) (fun _ hk => hk) trivial (by omega) (by omega) (pw_below_drewN (Below.refl _ _) _) (Nat.le_refl _) ?_; intro v1 w1 ho hb hg hnew; obtain ⟨g, cap, cur, hv, hbg, hcur, hle, hcm, hsz, hok⟩ := Go.Proofs.YtgdhbeccpicdcaaW.PrintHand.R_block ho (by rw [List.length_replicate]; omega); rw [List.length_replicate, Int.toNat_natCast] at hv hle; subst hv; have HCUR := Aside0.mk hcur; have hle2 : M ≤ cap := hle; have HB := Aside0.mk hb; have HSZ := Aside0.mk hsz; have HCM := Aside0.mk hcm; have HBG := Aside0.mk hbg; clear ho hb hg hnew hcur hsz hcm hbg hok) | (refine Go.Proofs.YtgdhbeccpicdcaaW.PrintHand.wpList_copy_size rfl (.tmp 31) (.tmp 32) 25 25 rfl 33 Try.underlying25 2 HI.out g 0 M cap ad L c0 rfl rfl cur 33 HCUR.out cs (by rw [HCL.out, HMIN.out]) (fun j v hj => pw_cell_below HB.out (HCS.out j v hj)) (by rw [HCL.out, HSZ.out]; show 0 + L * 2 ≤ cap * 2; omega) H1C.out ?_; intro w2 hcur2 hgr2 hs2; rw [HMIN.out]; have HCUR2 := Aside0.mk hcur2; have HB2 := Aside0.mk (HB.out.grown hgr2 HB.out.size (fun k hk => by injection hk with hk; rw [← hk]; exact HBG.out)); clear hcur2 hgr2 hs2))
  go_loopw [8] (fun v8 wr => ∃ n : Nat, v8 = .int .i64 n ∧ L ≤ n ∧ n ≤ M ∧ Aside0 ((∃ q, n = q * L) ∨ n = M) ∧ ∃ cur' : Array Value, Aside0 (wr.heap[g]? = some (.cells cur' 33 (0, 0))) ∧ Aside0 (cur'.size = cap * 2) ∧ Aside0 (cur'.toList.take (n * 2) = Pt.take (n * 2)) ∧ Aside0 (Below w.heap.size w wr)) (fun v8 _ => M - (intOf v8).toNat)
  case atStart =>
    refine ⟨L, rfl, Nat.le_refl _, hLM, ⟨.inl ⟨1, (Nat.one_mul _).symm⟩⟩, _, HCUR2, ⟨?_⟩, ⟨?_⟩, HB2⟩
    · have hs2 : k33.sz = 2 := rfl
      have := HSZ.out
      rw [hs2] at this
      simp [HCL.out, this]
      omega
    · rw [HP0.out]
      simp [← HCL.out]
  case round =>
    obtain ⟨n, rfl, hn1, hn2, HQ, cur', HC', HS', HT', HB'⟩ := hrel
    by_cases hlt : n < M
    · obtain ⟨n', hn'⟩ : ∃ n', n' = Nat.min n (M - n) := ⟨_, rfl⟩
      have hn1' : n' ≤ n := by rw [hn']; exact Nat.min_le_left _ _
      have hn2' : n' ≤ M - n := by rw [hn']; exact Nat.min_le_right _ _
      have hn0 : 0 < n' := by rw [hn']; exact Nat.lt_min.2 ⟨by omega, by omega⟩
      have HN' := Aside0.mk hn'
      have HN2 : Aside0 (n' = n ∨ n' = M - n) := ⟨by rw [hn']; rcases Nat.le_total n (M - n) with h | h; exact .inl (Nat.min_eq_left h); exact .inr (Nat.min_eq_right h)⟩
      clear hn'
      have HX1 : Aside0 ((Pt.take (n' * 2)).length = Nat.min n (M - n) * 2) := ⟨by rw [List.length_take, HPL.out, ← HN'.out]; omega⟩
      have HX2 : Aside0 (∀ (W : World), W.heap[g]? = some (.cells cur' 33 (0, 0)) → ∀ j v, (Pt.take (n' * 2))[j]? = some v → W.cell? ((⟨g, 0, none⟩ : Addr).add j) = some v) := ⟨by
        intro W hW j v hj
        have hjl : j < n' * 2 := by have := (List.getElem?_eq_some_iff.1 hj).1; rw [List.length_take] at this; omega
        rw [Addr.add_lit, Nat.zero_add]
        have e1 : (cur'.toList.take (n * 2))[j]? = some v := by rw [HT'.out, List.getElem?_take_of_lt (by omega)]; rwa [List.getElem?_take_of_lt hjl] at hj
        rw [List.getElem?_take_of_lt (by omega)] at e1
        simp [World.cell?, hW]
        simpa using e1⟩
      have HX3 : Aside0 (n * 2 + (Pt.take (n' * 2)).length ≤ cur'.size) := ⟨by rw [List.length_take, HPL.out, HS'.out]; omega⟩
      have HX4 : Aside0 (∀ v ∈ Pt.take (n' * 2), v.oneCell' = true) := ⟨fun v hv => HP1.out v (List.mem_of_mem_take hv)⟩
      have hlt2 : decide ((n : Int) < (M : Int)) = true := decide_eq_true (by omega)
      have hnc : n ≤ cap := by omega
      have hnc2 : ¬ cap = n := by omega
      have hsum : IntKind.i64.wrap ((n : Int) + (n' : Int)) = (n : Int) + n' := by rw [IntKind.wrap_i64]; omega
      go_wp2
      go_region_law (refine Go.Proofs.YtgdhbeccpicdcaaW.PrintHand.step_copy_size rfl (.tmp 41) (.tmp 44) 25 25 rfl 33 Try.underlying25 2 HI.out g (n * 2) (M - n) (cap - n) ⟨g, 0, none⟩ n cap ?h3 ?h4 cur' 33 HC'.out (Pt.take (n' * 2)) HX1.out (HX2.out _ HC'.out) HX3.out HX4.out ?h7; (case h3 => go_simp); (case h4 => go_simp); rw [← HN'.out]; intro w4 hg4 hb4)
      clear hsum
      simp only [List.getElem_toArray, List.getElem_cons_zero, List.getElem_cons_succ, Act.put, List.setIfInBounds_toArray, List.set_cons_zero, List.set_cons_succ]
      go_wp2
      go_roundw
      case rel =>
        have hq : ∃ q, n = q * L := by
          rcases HQ.out with h | h
          · exact h
          · omega
        obtain ⟨q, hq⟩ := hq
        refine ⟨n + n', by go_num, by omega, by omega, ⟨?_⟩, _, ⟨hg4.out⟩, ⟨?_⟩, ⟨?_⟩, ⟨?_⟩⟩
        · rcases HN2.out with h | h
          · exact .inl ⟨2 * q, by rw [h, hq, Nat.mul_assoc, Nat.two_mul]⟩
          · exact .inr (by omega)
        · simp only [List.size_toArray, List.length_append, List.length_take, List.length_drop, Array.length_toList, HS'.out, HPL.out]
          omega
        · have hl1 : (Pt.take (n' * 2)).length = n' * 2 := by rw [List.length_take, HPL.out]; omega
          have hd := Go.Proofs.YtgdhbeccpicdcaaW.PrintHand.double cs m q (n * 2) (n' * 2) (by rw [HCL.out, hq, Nat.mul_assoc]) (by omega) (by rw [← HP.out, HPL.out]; omega) cur'.toList (by rw [← HP.out]; exact HT'.out) (by rw [Array.length_toList, HS'.out]; omega)
          rw [← HP.out] at hd
          rw [Nat.add_mul]
          simp only [hl1]
          exact hd
        · exact (below_drew HB'.out).grown hb4.out (below_drew HB'.out).size (fun k hk => by injection hk with hk; rw [← hk]; exact HBG.out)
      case measure => simp [intOf]; omega
    · obtain rfl : n = M := by omega
      have hlt2 : decide ((n : Int) < (n : Int)) = false := decide_eq_false (by omega)
      go_wp2
      go_ret
      have hxl : ((List.replicate m l0).flatten).length = n := by
        rw [List.length_flatten, HMM.out, HL.out]
        simp [Nat.mul_comm]
      have hrr : Reps (k33.K w) 2 (List.replicate m l0).flatten Pt := by
        rw [HP.out]
        exact Go.Proofs.YtgdhbeccpicdcaaW.PrintHand.Reps.times HREP.out m
      refine ⟨.slice (some ⟨g, 0, none⟩) n cap, rfl, ⟨fun _ _ => trivial, Pt, ⟨by rw [hxl]; exact HPL.out, .inr ⟨g, cap, cur', by rw [hxl], HBG.out, HC'.out, by rw [hxl]; exact hle2, HCM.out, HS'.out, ?_⟩⟩, hrr.imp_ (fun _ _ hk => HF.out _ _ _ _ _ _ hk)⟩, HB'.out⟩
      have := HT'.out
      rw [hxl]
      rw [List.take_of_length_le (l := Pt) (by rw [HPL.out]; exact Nat.le_refl _)] at this
      exact this


/-! ### haze_best: function 59 -/
def haze_best.l0 : Nat → List (S33) → List (S75) → Int → Int → Option ((List (S33)))
  | 0, _, _, _, _ => none
  | k + 1, x3, x7, x8, x9 => if x9 < x8 then (if 0 ≤ x9 then (if x9 < (x7.length : Int) then ((haze_block_mean.f k ((rd_T75 x7 x9).f0) ((rd_T75 x7 x9).f1) ((rd_T75 x7 x9).f2) ((rd_T75 x7 x9).f3)).bind fun bt106 => ((api_Rat.f (([(⟨bt106.1, bt106.2⟩ : S33)] : List (S33))) (wrap64 ((wrap64 (((rd_T75 x7 x9).f1) - ((rd_T75 x7 x9).f0))) + 1))).bind fun t111 => (if x3.length + t111.length < 8796093022208 then (haze_best.l0 k (x3 ++ t111) x7 x8 (wrap64 (x9 + 1))) else (none)))) else (none)) else (none)) else (some x3)
def haze_best.f (k : Nat) (l0 : List (S31)) : Option ((List (S33))) := (haze_blocks.f k l0).bind fun t101 => (haze_best.l0 k ([] : List (S33)) t101 (t101.length : Int) 0)
theorem haze_best.mono_l : ∀ k, (∀ y0 y1 y2 y3, LeO (haze_best.l0 k y0 y1 y2 y3) (haze_best.l0 (k + 1) y0 y1 y2 y3))
  | 0 => fun _ _ _ _ r h => by simp [haze_best.l0] at h
  | k + 1 => by
    have ih0 := haze_best.mono_l k
    · intro y0 y1 y2 y3
      unfold haze_best.l0
      repeat' first
      | (with_reducible exact ih0 _ _ _ _)
      | (with_reducible exact haze_block_mean.mono _ _ _ _ _)
      | (with_reducible exact haze_blocks.mono _ _)
      | (with_reducible exact LeO.refl _)
      | (with_reducible exact LeO.none _)
      | (with_reducible refine LeO.ite ?_ ?_)
      | (with_reducible refine LeO.bind ?_ (fun _ => ?_))
      | exact ih0 _ _ _ _
      | exact haze_block_mean.mono _ _ _ _ _
      | exact haze_blocks.mono _ _
      | exact LeO.none _
      | refine LeO.ite ?_ ?_
      | refine LeO.bind ?_ (fun _ => ?_)
theorem haze_best.mono : ∀ a0 k, LeO (haze_best.f k a0) (haze_best.f (k + 1) a0) := by
  intro a0 k
  have ih0 := haze_best.mono_l k
  unfold haze_best.f
  repeat' first
      | (with_reducible exact ih0 _ _ _ _)
      | (with_reducible exact haze_block_mean.mono _ _ _ _ _)
      | (with_reducible exact haze_blocks.mono _ _)
      | (with_reducible exact LeO.refl _)
      | (with_reducible exact LeO.none _)
      | (with_reducible refine LeO.ite ?_ ?_)
      | (with_reducible refine LeO.bind ?_ (fun _ => ?_))
      | exact ih0 _ _ _ _
      | exact haze_block_mean.mono _ _ _ _ _
      | exact haze_blocks.mono _ _
      | exact LeO.none _
      | refine LeO.ite ?_ ?_
      | refine LeO.bind ?_ (fun _ => ?_)
def haze_best.T5 : Bool × List (List Nat × List Nat) := (true, [([], []), ([], []), ([1], [1]), ([2], [2]), ([], []), ([4], [4]), ([], []), ([6], [6]), ([5, 7], [5, 7]), ([8], [8]), ([3, 9, 2], [3, 9]), ([0, 10, 10], [0, 10]), ([11, 11, 0, 1, 2, 3, 4, 5, 6, 7, 8, 9, 10, 11], [0, 11])])
def haze_best.B5 : List Nat := [0, 0, 2, 6, 0, 16, 0, 64, 240, 496, 1022, 2047, 4095]
theorem haze_best.tab5 : rtab .any (opsOf Try.f59 5) = haze_best.T5 := by kernel_rfl
theorem haze_best.bits5 : waitsOk haze_best.T5.2 haze_best.B5 = true := by kernel_rfl
set_option maxHeartbeats 8000000 in
set_option maxRecDepth 100000 in
theorem haze_best.calls (k : Nat) (A0 : Option Addr) (c0 : Nat) (l0 : List (S31)) (r : List (S33)) (w : World) (hr0 : Kd.C k31 w A0 l0.length l0) (hc0 : l0.length ≤ c0) (h : haze_best.f k l0 = some r) :
    Calls Try.prog 59 #[.slice A0 l0.length c0] w fun e w' => ∃ v0_ : Value, e = .returned (v0_) ∧ Kd.R k33 33 w' w.heap.size (fun _ => True) v0_ r ∧ Below w.heap.size w w' := by
  have hu75 := Try.underlying75
  have HR0 := Aside0.mk hr0
  have HC0 := Aside0.mk hc0
  clear hr0 hc0
  have HB := Aside0.mk (Below.refl w.heap.size w)
  have H : ((haze_blocks.f k l0).bind fun t101 => (haze_best.l0 k ([] : List (S33)) t101 (t101.length : Int) 0)) = some r := h
  clear h
  replace H := Option.bind_eq_some_iff.mp H
  obtain ⟨t101, A20, H⟩ := H
  replace H : (haze_best.l0 k ([] : List (S33)) t101 (t101.length : Int) 0) = some r := H
  have A2 := Aside0.mk A20
  clear A20
  have H' := Aside0.mk H
  clear H
  go_enter Try.func59, Try.ntmps59
  go_wp2_with (first | ((with_reducible refine gate_callee (f := 67) rfl ?_); refine goesL_ (some 7) rfl rfl Try.func67 (by kernel_rfl) rfl #[.slice A0 l0.length c0] rfl (by (try simp only [List.map_toArray, List.map_cons, List.map_nil]); first | done | rfl | (simp only [List.length_drop, List.length_take]; rfl)) ?_; (with_reducible refine (haze_blocks.calls k _ _ l0 t101 _ ?side1 ?side2 A2.out).mono ?_); (case side1 => repeat (first | exact HR0.out | (with_reducible refine Kd.C_alloc ?_ _) | (with_reducible refine Kd.C_drewN ?_ _) | (with_reducible refine Kd.C_drew ?_))); (case side2 => exact HC0.out); rintro e w3 ⟨v102, rfl, ho0, hb⟩; refine ⟨_, rfl, ?_⟩; have n0_ := Aside0.mk (Kd.R_lower ho0 (below_size (by repeat (first | (with_reducible first | exact HB.out | apply below_alloc | apply pw_below_drewN | apply below_drew1) | exact HB.out)))); have n1_ := Aside0.mk (below_step (by repeat (first | (with_reducible first | exact HB.out | apply below_alloc | apply pw_below_drewN | apply below_drew1) | exact HB.out)) hb); clear HB; have HO103 := n0_; have HB := n1_; clear n0_ n1_; (try clear hb); (try clear hb2); (try clear hk); (try clear hi); (try clear ho0); obtain ⟨Ao4, co4, eo4⟩ := Kd.R_slice HO103.out; subst eo4))
  go_loopg [3, 9] k (fun kq v3 v9 w' => ∃ (x3_1 : List (S33)) (x9_1 : Int), v9 = .int .i64 x9_1 ∧ Aside0 (haze_best.l0 kq x3_1 t101 (t101.length : Int) x9_1 = some r) ∧ Aside0 (kq ≤ k) ∧ Aside0 (Kd.R k33 33 w' w.heap.size (fun _ => True) v3 x3_1) ∧ Aside0 (Kd.R k75 75 w' w.heap.size (fun _ => True) (.slice Ao4 t101.length co4) t101) ∧ Aside0 (Below w.heap.size w w'))
  case atStart => exact ⟨(([] : List (S33))), (0), (by first | rfl | (simp; done) | (simp [*]; done)), H', ⟨Nat.le_refl _⟩, ⟨by first | exact Kd.R_nil _ _ _ _ _ | exact Kd.N_nil _ _ _ _ _ | exact Kd.V_nil _ _ _ _ _ | exact Kd.Q_nil _ _ _ _ _ | exact Kd.S_nil _ _ _ _ _⟩, ⟨by (with_reducible repeat (first | apply Kd.R_alloc | apply Kd.R_drewN | apply Kd.R_drew)); exact HO103.out⟩, ⟨by repeat (first | (with_reducible first | exact HB.out | apply below_alloc | apply pw_below_drewN | apply below_drew1) | exact HB.out)⟩⟩
  case round =>
    clear H'
    try clear p2
    obtain ⟨x3_1, x9_1, rfl, HA, HK1, HO_3, HO_7, HB⟩ := hrel
    cases gk with
    | zero => exact absurd HA.out (by simp [haze_best.l0])
    | succ k1 =>
      have H := HA.out
      clear HA
      simp only [haze_best.l0] at H
      by_cases c5 : x9_1 < (t101.length : Int)
      · rw [if_pos c5] at H
        have c5b0 : decide (x9_1 < (t101.length : Int)) = true := decide_eq_true c5
        clear c5
        by_cases c6 : 0 ≤ x9_1
        · rw [if_pos c6] at H
          have c6b0 : decide (0 ≤ x9_1) = true := decide_eq_true c6
          clear c6
          by_cases c7 : x9_1 < (t101.length : Int)
          · rw [if_pos c7] at H
            have c7b0 : decide (x9_1 < (t101.length : Int)) = true := decide_eq_true c7
            clear c7
            replace H := Option.bind_eq_some_iff.mp H
            obtain ⟨⟨t106, t107⟩, A80, H⟩ := H
            replace H : ((api_Rat.f (([(⟨t106, t107⟩ : S33)] : List (S33))) (wrap64 ((wrap64 (((rd_T75 t101 x9_1).f1) - ((rd_T75 t101 x9_1).f0))) + 1))).bind fun t111 => (if x3_1.length + t111.length < 8796093022208 then (haze_best.l0 k1 (x3_1 ++ t111) t101 (t101.length : Int) (wrap64 (x9_1 + 1))) else (none))) = some r := H
            have A8 := Aside0.mk A80
            clear A80
            obtain ⟨y108, hy108⟩ : ∃ y_ : List (S33), y_ = (([(⟨t106, t107⟩ : S33)] : List (S33))) := ⟨_, rfl⟩
            replace H : ((api_Rat.f y108 (wrap64 ((wrap64 (((rd_T75 t101 x9_1).f1) - ((rd_T75 t101 x9_1).f0))) + 1))).bind fun t111 => (if x3_1.length + t111.length < 8796093022208 then (haze_best.l0 k1 (x3_1 ++ t111) t101 (t101.length : Int) (wrap64 (x9_1 + 1))) else (none))) = some r := by first | (rw [hy108]; with_reducible exact H) | (have H2_ := (Option.bind_some _ _).symm.trans H; rw [hy108]; with_reducible exact H2_) | (have H2_ := (Option.bind_some _ _).symm.trans H; with_reducible exact H2_) | with_reducible exact H | (rw [hy108]; exact H) | exact H
            have Ny108 := Aside0.mk hy108
            clear hy108
            replace H := Option.bind_eq_some_iff.mp H
            obtain ⟨t111, A90, H⟩ := H
            replace H : (if x3_1.length + t111.length < 8796093022208 then (haze_best.l0 k1 (x3_1 ++ t111) t101 (t101.length : Int) (wrap64 (x9_1 + 1))) else (none)) = some r := H
            have A9 := Aside0.mk A90
            clear A90
            by_cases c10 : x3_1.length + t111.length < 8796093022208
            · rw [if_pos c10] at H
              have LMc10 := Aside0.mk c10
              clear c10
              obtain ⟨y114, hy114⟩ : ∃ y_ : List (S33), y_ = (x3_1 ++ t111) := ⟨_, rfl⟩
              replace H : (haze_best.l0 k1 y114 t101 (t101.length : Int) (wrap64 (x9_1 + 1))) = some r := by first | (rw [hy114]; with_reducible exact H) | (have H2_ := (Option.bind_some _ _).symm.trans H; rw [hy114]; with_reducible exact H2_) | (have H2_ := (Option.bind_some _ _).symm.trans H; with_reducible exact H2_) | with_reducible exact H | (rw [hy114]; exact H) | exact H
              have Ny114 := Aside0.mk hy114
              clear hy114
              have H' := Aside0.mk H
              clear H
              have p104 : 0 ≤ (x9_1 : Int) := of_decide_eq_true (by first | (with_reducible assumption) | assumption)
              have q104 : x9_1 < (t101.length : Int) := of_decide_eq_true (by first | (with_reducible assumption) | assumption)
              obtain ⟨ad104, e104, hx104_0, hx104_1, hx104_2, hx104_3⟩ := at_T75 (Kd.R_reads' HO_7.out).2.2 x9_1 p104 q104
              cases e104
              replace p104 := eq_true p104
              replace q104 := eq_true q104
              try go_wp2_with (first | ((with_reducible refine gate_dst (N := 5) rfl ?_); refine box_event ?hg (N := 5) ?hd (cs := #[.int .i64 0, .int .i64 0, .int .i64 0, .int .i64 0]) (t := 75) ?hr ?_; (case hd => rfl); (case hg => rfl); (case hr => first | (go_simp; done) | (go_simp; rfl)); intro gb105 hg w11 hbox hb; have n0_ := Aside0.mk (Kd.R_below (by (with_reducible repeat (first | apply Kd.R_alloc | apply Kd.R_drewN | apply Kd.R_drew)); exact HO_3.out) hb); have n1_ := Aside0.mk (Kd.R_below (Kd.R_elderB (by (with_reducible repeat (first | apply Kd.R_alloc | apply Kd.R_drewN | apply Kd.R_drew)); exact HO_7.out) gb105 (Nat.le_of_eq hg.symm)) hb); have n2_ := Aside0.mk (below_step (by repeat (first | (with_reducible first | exact HB.out | apply below_alloc | apply pw_below_drewN | apply below_drew1) | exact HB.out)) hb); have n3_ := Aside0.mk (hbox); have n4_ := Aside0.mk ((by rw [hg]; exact (below_size (by repeat (first | (with_reducible first | exact HB.out | apply below_alloc | apply pw_below_drewN | apply below_drew1) | exact HB.out))) : w.heap.size ≤ gb105)); have n5_ := Aside0.mk ((by rw [hg]; exact (below_size (by repeat (first | (with_reducible first | exact HB.out | apply below_alloc | apply pw_below_drewN | apply below_drew1) | exact HB.out))) : w.heap.size ≤ gb105)); clear HO_3; clear HO_7; clear HB; have HO_3 := n0_; have HO_7 := n1_; have HB := n2_; have BK105 := n3_; have GW105 := n4_; have GE105 := n5_; clear n0_ n1_ n2_ n3_ n4_ n5_; clear hb hbox hg; have hcz12_0 : w11.cell? ⟨gb105, 0, none⟩ = some (.int .i64 0) := (blk_cell BK105.out 0).trans rfl; have hcz12_1 : w11.cell? ⟨gb105, 1, none⟩ = some (.int .i64 0) := (blk_cell BK105.out 1).trans rfl; have hcz12_2 : w11.cell? ⟨gb105, 2, none⟩ = some (.int .i64 0) := (blk_cell BK105.out 2).trans rfl; have hcz12_3 : w11.cell? ⟨gb105, 3, none⟩ = some (.int .i64 0) := (blk_cell BK105.out 3).trans rfl; have hfz12_0 := blk_frozen BK105.out 0; have hfz12_1 := blk_frozen BK105.out 1; have hfz12_2 := blk_frozen BK105.out 2; have hfz12_3 := blk_frozen BK105.out 3))
              have n0_ : Aside0 (Kd.R k33 33 ((((w11.setCell ⟨gb105, 0, none⟩ (.int .i64 ((rd_T75 t101 x9_1).f0))).setCell ⟨gb105, 1, none⟩ (.int .i64 ((rd_T75 t101 x9_1).f1))).setCell ⟨gb105, 2, none⟩ (.int .i64 ((rd_T75 t101 x9_1).f2))).setCell ⟨gb105, 3, none⟩ (.int .i64 ((rd_T75 t101 x9_1).f3))) w.heap.size (fun _ => True) u3 x3_1) := ⟨by (with_reducible repeat (first | apply Kd.R_alloc | apply Kd.R_drewN | apply Kd.R_drew)); exact Kd.R_mono (Kd.R_far (p := ⟨gb105, 3, none⟩) (Kd.R_far (p := ⟨gb105, 2, none⟩) (Kd.R_far (p := ⟨gb105, 1, none⟩) (Kd.R_far (p := ⟨gb105, 0, none⟩) (Kd.R_types HO_3.out BK105.out (by decide)) (fun _ hk => hk.2) (.int .i64 ((rd_T75 t101 x9_1).f0))) (fun _ hk => hk.2) (.int .i64 ((rd_T75 t101 x9_1).f1))) (fun _ hk => hk.2) (.int .i64 ((rd_T75 t101 x9_1).f2))) (fun _ hk => hk.2) (.int .i64 ((rd_T75 t101 x9_1).f3))) (fun _ hk => trivial)⟩
              have n1_ : Aside0 (Kd.R k75 75 ((((w11.setCell ⟨gb105, 0, none⟩ (.int .i64 ((rd_T75 t101 x9_1).f0))).setCell ⟨gb105, 1, none⟩ (.int .i64 ((rd_T75 t101 x9_1).f1))).setCell ⟨gb105, 2, none⟩ (.int .i64 ((rd_T75 t101 x9_1).f2))).setCell ⟨gb105, 3, none⟩ (.int .i64 ((rd_T75 t101 x9_1).f3))) w.heap.size (fun k_ => k_ ≠ gb105) (.slice (some ad104) t101.length co4) t101) := ⟨by (with_reducible repeat (first | apply Kd.R_alloc | apply Kd.R_drewN | apply Kd.R_drew)); exact Kd.R_mono (Kd.R_far (p := ⟨gb105, 3, none⟩) (Kd.R_far (p := ⟨gb105, 2, none⟩) (Kd.R_far (p := ⟨gb105, 1, none⟩) (Kd.R_far (p := ⟨gb105, 0, none⟩) (Kd.R_mono HO_7.out (fun k_ hk => (⟨hk, hk.2⟩ : _ ∧ k_ ≠ gb105))) (fun _ hk => hk.2) (.int .i64 ((rd_T75 t101 x9_1).f0))) (fun _ hk => hk.2) (.int .i64 ((rd_T75 t101 x9_1).f1))) (fun _ hk => hk.2) (.int .i64 ((rd_T75 t101 x9_1).f2))) (fun _ hk => hk.2) (.int .i64 ((rd_T75 t101 x9_1).f3))) (fun _ hk => hk.1.2)⟩
              have n2_ : Aside0 (((((w11.setCell ⟨gb105, 0, none⟩ (.int .i64 ((rd_T75 t101 x9_1).f0))).setCell ⟨gb105, 1, none⟩ (.int .i64 ((rd_T75 t101 x9_1).f1))).setCell ⟨gb105, 2, none⟩ (.int .i64 ((rd_T75 t101 x9_1).f2))).setCell ⟨gb105, 3, none⟩ (.int .i64 ((rd_T75 t101 x9_1).f3))).heap[gb105]? = some (.cells #[.int .i64 ((rd_T75 t101 x9_1).f0), .int .i64 ((rd_T75 t101 x9_1).f1), .int .i64 ((rd_T75 t101 x9_1).f2), .int .i64 ((rd_T75 t101 x9_1).f3)] 75 (0, 0))) := ⟨by (with_reducible repeat (first | refine blk_drewN ?_ _ | refine blk_drew ?_ | refine blk_alloc ?_ _)); refine blk_put (cs := #[.int .i64 ((rd_T75 t101 x9_1).f0), .int .i64 ((rd_T75 t101 x9_1).f1), .int .i64 ((rd_T75 t101 x9_1).f2), .int .i64 0]) ?_ 3 _ rfl; (with_reducible repeat (first | refine blk_drewN ?_ _ | refine blk_drew ?_ | refine blk_alloc ?_ _)); refine blk_put (cs := #[.int .i64 ((rd_T75 t101 x9_1).f0), .int .i64 ((rd_T75 t101 x9_1).f1), .int .i64 0, .int .i64 0]) ?_ 2 _ rfl; (with_reducible repeat (first | refine blk_drewN ?_ _ | refine blk_drew ?_ | refine blk_alloc ?_ _)); refine blk_put (cs := #[.int .i64 ((rd_T75 t101 x9_1).f0), .int .i64 0, .int .i64 0, .int .i64 0]) ?_ 1 _ rfl; (with_reducible repeat (first | refine blk_drewN ?_ _ | refine blk_drew ?_ | refine blk_alloc ?_ _)); refine blk_put (cs := #[.int .i64 0, .int .i64 0, .int .i64 0, .int .i64 0]) ?_ 0 _ rfl; (with_reducible repeat (first | refine blk_drewN ?_ _ | refine blk_drew ?_ | refine blk_alloc ?_ _)); exact BK105.out⟩
              have n3_ : Aside0 (Below w.heap.size w ((((w11.setCell ⟨gb105, 0, none⟩ (.int .i64 ((rd_T75 t101 x9_1).f0))).setCell ⟨gb105, 1, none⟩ (.int .i64 ((rd_T75 t101 x9_1).f1))).setCell ⟨gb105, 2, none⟩ (.int .i64 ((rd_T75 t101 x9_1).f2))).setCell ⟨gb105, 3, none⟩ (.int .i64 ((rd_T75 t101 x9_1).f3)))) := ⟨by repeat (first | (with_reducible first | exact HB.out | apply below_alloc | apply pw_below_drewN | apply below_drew1 | refine below_set ?_ GE105.out) | exact HB.out)⟩
              (try clear HO_3)
              (try clear HO_7)
              (try clear BK105)
              (try clear HB)
              generalize ((((w11.setCell ⟨gb105, 0, none⟩ (.int .i64 ((rd_T75 t101 x9_1).f0))).setCell ⟨gb105, 1, none⟩ (.int .i64 ((rd_T75 t101 x9_1).f1))).setCell ⟨gb105, 2, none⟩ (.int .i64 ((rd_T75 t101 x9_1).f2))).setCell ⟨gb105, 3, none⟩ (.int .i64 ((rd_T75 t101 x9_1).f3))) = w13 at n0_ n1_ n2_ n3_ ⊢
              have HO_3 := n0_
              have HO_7 := n1_
              have BK105 := n2_
              have HB := n3_
              clear n0_ n1_ n2_ n3_
              have n0_ := Aside0.mk (Kd.R_drew HO_3.out)
              have n1_ := Aside0.mk (Kd.R_drew HO_7.out)
              have n2_ := Aside0.mk (blk_drew BK105.out)
              have n3_ := Aside0.mk (below_drew1 HB.out)
              clear HO_3
              clear HO_7
              clear BK105
              clear HB
              have HO_3 := n0_
              have HO_7 := n1_
              have BK105 := n2_
              have HB := n3_
              clear n0_ n1_ n2_ n3_
              refine start_ (n := 13) (S := fun w' => w'.cell? ⟨gb105, 0, none⟩ = some (.int .i64 ((rd_T75 t101 x9_1).f0)) ∧ w'.cell? ⟨gb105, 1, none⟩ = some (.int .i64 ((rd_T75 t101 x9_1).f1)) ∧ w'.cell? ⟨gb105, 2, none⟩ = some (.int .i64 ((rd_T75 t101 x9_1).f2)) ∧ w'.cell? ⟨gb105, 3, none⟩ = some (.int .i64 ((rd_T75 t101 x9_1).f3))) (ds := []) #[false, false, false, false, false, false, false, false, false, false, false, false, false] (by kernel_rfl) rfl rfl ⟨(blk_cell BK105.out 0).trans rfl, (blk_cell BK105.out 1).trans rfl, (blk_cell BK105.out 2).trans rfl, (blk_cell BK105.out 3).trans rfl⟩ (fun hHeld => ?_); refine with_tabW haze_best.tab5 haze_best.bits5 (fun HT_ HW_ => ?_)
              generalize w13.drew = w14 at HO_3 HO_7 BK105 HB hHeld ⊢
              refine pure_ (i := 0) (N := some 13) (v := ?_) (a' := ?_) #[true, false, false, false, false, false, false, false, false, false, false, false, false] rfl rfl (any_of HT_.out (by kernel_rfl)) (fun _ _ _ h => h) (Or.inl ⟨by rfl, ?_⟩) ?_ ?_
              rotate_left
              · intro w'
                go_simp
                with_reducible rfl
              rotate_left
              · simp only [Act.put, List.setIfInBounds_toArray, List.set_cons_zero, List.set_cons_succ, i64_w, i32_w]
                rfl
              refine pure_ (i := 4) (N := some 17) (v := ?_) (a' := ?_) #[true, false, false, false, true, false, false, false, false, false, false, false, false] rfl rfl (any_of HT_.out (by kernel_rfl)) (fun _ _ _ h => h) (Or.inl ⟨by rfl, ?_⟩) ?_ ?_
              rotate_left
              · intro w'
                go_simp
                with_reducible rfl
              rotate_left
              · simp only [Act.put, List.setIfInBounds_toArray, List.set_cons_zero, List.set_cons_succ, i64_w, i32_w]
                rfl
              refine pure_ (i := 6) (N := some 19) (v := ?_) (a' := ?_) #[true, false, false, false, true, false, true, false, false, false, false, false, false] rfl rfl (any_of HT_.out (by kernel_rfl)) (fun _ _ _ h => h) (Or.inl ⟨by rfl, ?_⟩) ?_ ?_
              rotate_left
              · intro w'
                go_simp
                with_reducible rfl
              rotate_left
              · simp only [Act.put, List.setIfInBounds_toArray, List.set_cons_zero, List.set_cons_succ, i64_w, i32_w]
                rfl
              refine take_ (i := 1) (N := some 14) (v := ?_) (a' := ?_) #[true, true, false, false, true, false, true, false, false, false, false, false, false] rfl rfl (take_ofW HT_.out HW_.out (by kernel_rfl)) (fun _ _ _ h => h) (Or.inl ⟨by rfl, ?_⟩) hHeld ?_ ?_
              rotate_left
              · rintro w' ⟨s0, s1, s2, s3⟩
                go_simp
                with_reducible rfl
              rotate_left
              · simp only [Act.put, List.setIfInBounds_toArray, List.set_cons_zero, List.set_cons_succ, i64_w, i32_w]
                rfl
              refine take_ (i := 5) (N := some 18) (v := ?_) (a' := ?_) #[true, true, false, false, true, true, true, false, false, false, false, false, false] rfl rfl (take_ofW HT_.out HW_.out (by kernel_rfl)) (fun _ _ _ h => h) (Or.inl ⟨by rfl, ?_⟩) hHeld ?_ ?_
              rotate_left
              · rintro w' ⟨s0, s1, s2, s3⟩
                go_simp
                with_reducible rfl
              rotate_left
              · simp only [Act.put, List.setIfInBounds_toArray, List.set_cons_zero, List.set_cons_succ, i64_w, i32_w]
                rfl
              refine take_ (i := 7) (N := some 20) (v := ?_) (a' := ?_) #[true, true, false, false, true, true, true, true, false, false, false, false, false] rfl rfl (take_ofW HT_.out HW_.out (by kernel_rfl)) (fun _ _ _ h => h) (Or.inl ⟨by rfl, ?_⟩) hHeld ?_ ?_
              rotate_left
              · rintro w' ⟨s0, s1, s2, s3⟩
                go_simp
                with_reducible rfl
              rotate_left
              · simp only [Act.put, List.setIfInBounds_toArray, List.set_cons_zero, List.set_cons_succ, i64_w, i32_w]
                rfl
              refine pure_ (i := 8) (N := some 21) (v := ?_) (a' := ?_) #[true, true, false, false, true, true, true, true, true, false, false, false, false] rfl rfl (any_of HT_.out (by kernel_rfl)) (fun _ _ _ h => h) (Or.inl ⟨by rfl, ?_⟩) ?_ ?_
              rotate_left
              · intro w'
                go_simp
                with_reducible rfl
              rotate_left
              · simp only [Act.put, List.setIfInBounds_toArray, List.set_cons_zero, List.set_cons_succ, i64_w, i32_w]
                rfl
              refine pure_ (i := 9) (N := some 22) (v := ?_) (a' := ?_) #[true, true, false, false, true, true, true, true, true, true, false, false, false] rfl rfl (any_of HT_.out (by kernel_rfl)) (fun _ _ _ h => h) (Or.inl ⟨by rfl, ?_⟩) ?_ ?_
              rotate_left
              · intro w'
                go_simp
                with_reducible rfl
              rotate_left
              · simp only [Act.put, List.setIfInBounds_toArray, List.set_cons_zero, List.set_cons_succ, i64_w, i32_w]
                rfl
              refine one_ (i := 2) (N := some 15) #[true, true, true, false, true, true, true, true, true, true, false, false, false] rfl rfl (one_of HT_.out (by kernel_rfl)) (by decide) (fun K hK => ?_)
              refine goes_ Try.func73 (by kernel_rfl) rfl #[.agg #[.int .i64 ((rd_T75 t101 x9_1).f0), .int .i64 ((rd_T75 t101 x9_1).f1), .int .i64 ((rd_T75 t101 x9_1).f2), .int .i64 ((rd_T75 t101 x9_1).f3)]] (by rfl) rfl rfl (by (try simp only [List.map_toArray, List.map_cons, List.map_nil]); first | done | rfl | (simp only [List.length_drop, List.length_take]; rfl)) ?_
              with_reducible refine (haze_block_mean.calls k1 ((rd_T75 t101 x9_1).f0) ((rd_T75 t101 x9_1).f1) ((rd_T75 t101 x9_1).f2) ((rd_T75 t101 x9_1).f3) t106 t107 _ A8.out).mono ?_
              rintro e w15 ⟨rfl, hb⟩
              refine ⟨_, rfl, ?_⟩
              have n0_ := Aside0.mk (Kd.R_below (by (with_reducible repeat (first | apply Kd.R_alloc | apply Kd.R_drewN | apply Kd.R_drew)); exact HO_3.out) hb)
              have n1_ := Aside0.mk (Kd.R_below (by (with_reducible repeat (first | apply Kd.R_alloc | apply Kd.R_drewN | apply Kd.R_drew)); exact HO_7.out) hb)
              have n2_ := Aside0.mk (blk_below (g := gb105) (o := .cells #[.int .i64 ((rd_T75 t101 x9_1).f0), .int .i64 ((rd_T75 t101 x9_1).f1), .int .i64 ((rd_T75 t101 x9_1).f2), .int .i64 ((rd_T75 t101 x9_1).f3)] 75 (0, 0)) (by (with_reducible repeat (first | refine blk_drewN ?_ _ | refine blk_drew ?_ | refine blk_alloc ?_ _)); exact BK105.out) hb)
              have n3_ := Aside0.mk (below_step (by repeat (first | (with_reducible first | exact HB.out | apply below_alloc | apply pw_below_drewN | apply below_drew1 | refine below_set ?_ GE105.out) | exact HB.out)) hb)
              clear HO_3
              clear HO_7
              clear BK105
              clear HB
              have HO_3 := n0_
              have HO_7 := n1_
              have BK105 := n2_
              have HB := n3_
              clear n0_ n1_ n2_ n3_
              (try clear hb)
              (try clear hb2)
              (try clear hk)
              (try clear hi)
              refine hK.out _ _ ⟨(blk_cell BK105.out 0).trans rfl, (blk_cell BK105.out 1).trans rfl, (blk_cell BK105.out 2).trans rfl, (blk_cell BK105.out 3).trans rfl⟩ (fun hHeld => ?_)
              clear hK K
              refine norm_ (a' := ?_) ?_ ?_
              rotate_left
              · show Act.put _ (some 15) _ = _
                simp only [Act.put, List.setIfInBounds_toArray, List.set_cons_zero, List.set_cons_succ, i64_w, i32_w]
                rfl
              refine one_ (i := 3) (N := some 16) #[true, true, true, true, true, true, true, true, true, true, false, false, false] rfl rfl (one_of HT_.out (by kernel_rfl)) (by decide) (fun K hK => ?_)
              refine Kd.R_lit_step k33 _ 33 ?hg (N := 16) ?hd (xs := ([(⟨t106, t107⟩ : S33)] : List (S33))) (inner := [.int .i64 t106, .int .i64 t107]) (ok := fun _ => True) (okp := fun _ => True) ?hr ?hp (fun _ hk => hk) trivial (Below.refl _ _) (Nat.le_refl _) (by simp) ?_; (case hd => rfl); (case hg => rfl); (case hr => first | (go_simp; done) | (go_simp; rfl)); (case hp => exact (Reps.c2 (show Kd.M k33 _ _ _ (⟨t106, t107⟩ : S33) [.int .i64 t106, .int .i64 t107] from (k33_mkM _ _ _ (⟨t106, t107⟩ : S33) )) (Reps.none _ _)))
              intro v109 w16 ho17 hb hg_ hnew_
              clear hg_ hnew_
              (first | rw [← Ny108.out] at ho17 | (simp only [Int.reduceToNat] at ho17; rw [← Ny108.out] at ho17))
              have n0_ := Aside0.mk (Kd.R_elder' (by (with_reducible repeat (first | apply Kd.R_alloc | apply Kd.R_drewN | apply Kd.R_drew)); exact HO_3.out) (Kd.R_base ho17) hb)
              have n1_ := Aside0.mk (Kd.R_below (by (with_reducible repeat (first | apply Kd.R_alloc | apply Kd.R_drewN | apply Kd.R_drew)); exact HO_7.out) hb)
              have n2_ := Aside0.mk (Kd.R_lower (Kd.R_new' ho17 (Kd.R_lt (by (with_reducible repeat (first | apply Kd.R_alloc | apply Kd.R_drewN | apply Kd.R_drew)); exact HO_3.out))) (below_size (by repeat (first | (with_reducible first | exact HB.out | apply below_alloc | apply pw_below_drewN | apply below_drew1 | refine below_set ?_ GE105.out) | exact HB.out))))
              have n3_ := Aside0.mk (blk_below (g := gb105) (o := .cells #[.int .i64 ((rd_T75 t101 x9_1).f0), .int .i64 ((rd_T75 t101 x9_1).f1), .int .i64 ((rd_T75 t101 x9_1).f2), .int .i64 ((rd_T75 t101 x9_1).f3)] 75 (0, 0)) (by (with_reducible repeat (first | refine blk_drewN ?_ _ | refine blk_drew ?_ | refine blk_alloc ?_ _)); exact BK105.out) hb)
              have n4_ := Aside0.mk (below_step (by repeat (first | (with_reducible first | exact HB.out | apply below_alloc | apply pw_below_drewN | apply below_drew1 | refine below_set ?_ GE105.out) | exact HB.out)) hb)
              clear HO_3
              clear HO_7
              clear BK105
              clear HB
              have HO_3 := n0_
              have HO_7 := n1_
              have HO110 := n2_
              have BK105 := n3_
              have HB := n4_
              clear n0_ n1_ n2_ n3_ n4_
              clear hb ho17
              obtain ⟨Ao18, co18, eo18⟩ := Kd.R_slice HO110.out
              (first | subst eo18 | (injection eo18 with f1_ f2_ f3_; have f4_ := f1_.symm; have f5_ := f3_.symm; clear f1_ f2_ f3_; subst f4_; subst f5_))
              refine hK.out _ _ ⟨(blk_cell BK105.out 0).trans rfl, (blk_cell BK105.out 1).trans rfl, (blk_cell BK105.out 2).trans rfl, (blk_cell BK105.out 3).trans rfl⟩ (fun hHeld => ?_)
              clear hK K
              refine norm_ (a' := ?_) ?_ ?_
              rotate_left
              · show Act.put _ (some 16) _ = _
                simp only [Act.put, List.setIfInBounds_toArray, List.set_cons_zero, List.set_cons_succ, i64_w, i32_w]
                rfl
              refine one_ (i := 10) (N := some 23) #[true, true, true, true, true, true, true, true, true, true, true, false, false] rfl rfl (one_of HT_.out (by kernel_rfl)) (by decide) (fun K hK => ?_)
              refine goes_ Try.func83 (by kernel_rfl) rfl #[.slice Ao18 y108.length co18, .int .i64 (wrap64 ((wrap64 (((rd_T75 t101 x9_1).f1) - ((rd_T75 t101 x9_1).f0))) + 1))] (by rfl) rfl rfl (by (try simp only [List.map_toArray, List.map_cons, List.map_nil]); first | done | rfl | (simp only [List.length_drop, List.length_take]; rfl)) ?_
              with_reducible refine (api_Rat.calls _ _ y108 (wrap64 ((wrap64 (((rd_T75 t101 x9_1).f1) - ((rd_T75 t101 x9_1).f0))) + 1)) t111 _ ?side1 ?side2 A9.out).mono ?_
              (case side1 => repeat (first | exact (Kd.R_reads' HO110.out).2.2 | (with_reducible refine Kd.C_alloc ?_ _) | (with_reducible refine Kd.C_drewN ?_ _) | (with_reducible refine Kd.C_drew ?_)))
              (case side2 => exact (Kd.R_reads' HO110.out).2.1)
              rintro e w19 ⟨v112, rfl, ho0, hb⟩
              refine ⟨_, rfl, ?_⟩
              have n0_ := Aside0.mk (Kd.R_elder' (by (with_reducible repeat (first | apply Kd.R_alloc | apply Kd.R_drewN | apply Kd.R_drew)); exact HO_3.out) (Kd.R_base ho0) hb)
              have n1_ := Aside0.mk (Kd.R_below (by (with_reducible repeat (first | apply Kd.R_alloc | apply Kd.R_drewN | apply Kd.R_drew)); exact HO_7.out) hb)
              have n2_ := Aside0.mk (Kd.R_elder' (by (with_reducible repeat (first | apply Kd.R_alloc | apply Kd.R_drewN | apply Kd.R_drew)); exact HO110.out) (Kd.R_base ho0) hb)
              have n3_ := Aside0.mk (Kd.R_lower (Kd.R_new' (Kd.R_new' ho0 (Kd.R_lt (by (with_reducible repeat (first | apply Kd.R_alloc | apply Kd.R_drewN | apply Kd.R_drew)); exact HO_3.out))) (Kd.R_lt (by (with_reducible repeat (first | apply Kd.R_alloc | apply Kd.R_drewN | apply Kd.R_drew)); exact HO110.out))) (below_size (by repeat (first | (with_reducible first | exact HB.out | apply below_alloc | apply pw_below_drewN | apply below_drew1 | refine below_set ?_ GE105.out) | exact HB.out))))
              have n4_ := Aside0.mk (blk_below (g := gb105) (o := .cells #[.int .i64 ((rd_T75 t101 x9_1).f0), .int .i64 ((rd_T75 t101 x9_1).f1), .int .i64 ((rd_T75 t101 x9_1).f2), .int .i64 ((rd_T75 t101 x9_1).f3)] 75 (0, 0)) (by (with_reducible repeat (first | refine blk_drewN ?_ _ | refine blk_drew ?_ | refine blk_alloc ?_ _)); exact BK105.out) hb)
              have n5_ := Aside0.mk (below_step (by repeat (first | (with_reducible first | exact HB.out | apply below_alloc | apply pw_below_drewN | apply below_drew1 | refine below_set ?_ GE105.out) | exact HB.out)) hb)
              clear HO_3
              clear HO_7
              clear HO110
              clear BK105
              clear HB
              have HO_3 := n0_
              have HO_7 := n1_
              have HO110 := n2_
              have HO113 := n3_
              have BK105 := n4_
              have HB := n5_
              clear n0_ n1_ n2_ n3_ n4_ n5_
              (try clear hb)
              (try clear hb2)
              (try clear hk)
              (try clear hi)
              (try clear ho0)
              obtain ⟨Ao21, co21, eo21⟩ := Kd.R_slice HO113.out
              (first | subst eo21 | (injection eo21 with f1_ f2_ f3_; have f4_ := f1_.symm; have f5_ := f3_.symm; clear f1_ f2_ f3_; subst f4_; subst f5_))
              refine hK.out _ _ ⟨(blk_cell BK105.out 0).trans rfl, (blk_cell BK105.out 1).trans rfl, (blk_cell BK105.out 2).trans rfl, (blk_cell BK105.out 3).trans rfl⟩ (fun hHeld => ?_)
              clear hK K
              refine norm_ (a' := ?_) ?_ ?_
              rotate_left
              · show Act.put _ (some 23) _ = _
                simp only [Act.put, List.setIfInBounds_toArray, List.set_cons_zero, List.set_cons_succ, i64_w, i32_w]
                rfl
              refine one_ (i := 11) (N := some 24) #[true, true, true, true, true, true, true, true, true, true, true, true, false] rfl rfl (one_of HT_.out (by kernel_rfl)) (by decide) (fun K hK => ?_)
              refine Kd.R_append_rows_step k33 (w0 := w) w.heap.size (by rfl) (.tmp 13) (.tmp 23) 25 33 (.agg #[(.int .i64 0), (.int .i64 0)]) 16 rfl Try.underlying25 info33 rfl (by decide) (by omega) u3 x3_1 t111 _ _ _ (fun k_ => some k_ ≠ (.slice Ao18 y108.length co18 : Value).ownBlock ∧ some k_ ≠ (.slice Ao21 t111.length co21 : Value).ownBlock) (fun _ => False) rfl rfl ?aO ?aR (fun _ _ h => h) (fun _ h => h.elim) ?aF ?aB ?aS ?aL ?_
              (case aR => repeat (first | exact (Kd.R_reads' HO113.out).2.2 | (with_reducible refine Kd.C_alloc ?_ _) | (with_reducible refine Kd.C_drewN ?_ _) | (with_reducible refine Kd.C_drew ?_)))
              (case aB => exact (by repeat (first | (with_reducible first | exact HB.out | apply below_alloc | apply pw_below_drewN | apply below_drew1 | refine below_set ?_ GE105.out) | exact HB.out)))
              (case aF => exact (fun k_ hk => ⟨Kd.fresh' (Kd.R_lt (by (with_reducible repeat (first | apply Kd.R_alloc | apply Kd.R_drewN | apply Kd.R_drew)); exact HO110.out)) k_ hk, Kd.fresh' (Kd.R_lt (by (with_reducible repeat (first | apply Kd.R_alloc | apply Kd.R_drewN | apply Kd.R_drew)); exact HO113.out)) k_ hk⟩))
              (case aO => exact (by (with_reducible repeat (first | apply Kd.R_alloc | apply Kd.R_drewN | apply Kd.R_drew)); exact Kd.R_mono HO_3.out (fun _ hk => ⟨hk.1.2, hk.2⟩)))
              (case aS => exact (below_size (by repeat (first | (with_reducible first | exact HB.out | apply below_alloc | apply pw_below_drewN | apply below_drew1 | refine below_set ?_ GE105.out) | exact HB.out))))
              (case aL => have := LMc10.out; omega)
              intro v115 w20 ho hb hg hat
              rw [← Ny114.out] at ho
              have n0_ := Aside0.mk (Kd.R_over' (by (with_reducible repeat (first | apply Kd.R_alloc | apply Kd.R_drewN | apply Kd.R_drew)); exact HO_7.out) (Kd.R_typed (by (with_reducible repeat (first | apply Kd.R_alloc | apply Kd.R_drewN | apply Kd.R_drew)); exact HO_3.out)) (by decide) hg)
              have n1_ := Aside0.mk (blk_grown (g := gb105) (o := .cells #[.int .i64 ((rd_T75 t101 x9_1).f0), .int .i64 ((rd_T75 t101 x9_1).f1), .int .i64 ((rd_T75 t101 x9_1).f2), .int .i64 ((rd_T75 t101 x9_1).f3)] 75 (0, 0)) (by (with_reducible repeat (first | refine blk_drewN ?_ _ | refine blk_drew ?_ | refine blk_alloc ?_ _)); exact BK105.out) hg (Kd.R_ne HO_3.out BK105.out (by decide)))
              have n2_ := Aside0.mk (Kd.R_after (ok := (fun k_ => some k_ ≠ (.slice Ao21 t111.length co21 : Value).ownBlock)) (by (with_reducible repeat (first | apply Kd.R_alloc | apply Kd.R_drewN | apply Kd.R_drew)); exact Kd.R_mono HO110.out (fun _ hk => ⟨hk.2, hk.1.2⟩)) hg hat)
              have n3_ := Aside0.mk (Kd.R_after (ok := (fun k_ => some k_ ≠ (.slice Ao18 y108.length co18 : Value).ownBlock)) (by (with_reducible repeat (first | apply Kd.R_alloc | apply Kd.R_drewN | apply Kd.R_drew)); exact Kd.R_mono HO113.out (fun _ hk => ⟨hk.2, hk.1.2⟩)) hg hat)
              have n4_ := Aside0.mk (hb)
              have n5_ := Aside0.mk (ho)
              clear HO_7
              clear BK105
              clear HO110
              clear HO113
              clear HB
              clear HO_3
              have HO_7 := n0_
              have BK105 := n1_
              have HO110 := n2_
              have HO113 := n3_
              have HB := n4_
              have HO116 := n5_
              clear n0_ n1_ n2_ n3_ n4_ n5_
              clear ho hb hg hat
              refine hK.out _ _ ⟨(blk_cell BK105.out 0).trans rfl, (blk_cell BK105.out 1).trans rfl, (blk_cell BK105.out 2).trans rfl, (blk_cell BK105.out 3).trans rfl⟩ (fun hHeld => ?_)
              clear hK K
              refine norm_ (a' := ?_) ?_ ?_
              rotate_left
              · show Act.put _ (some 24) _ = _
                simp only [Act.put, List.setIfInBounds_toArray, List.set_cons_zero, List.set_cons_succ, i64_w, i32_w]
                rfl
              refine pure_ (i := 12) (N := some 3) (v := ?_) (a' := ?_) #[true, true, true, true, true, true, true, true, true, true, true, true, true] rfl rfl (any_of HT_.out (by kernel_rfl)) (fun _ _ _ h => h) (Or.inl ⟨by rfl, ?_⟩) ?_ ?_
              rotate_left
              · intro w'
                go_simp
                with_reducible rfl
              rotate_left
              · simp only [Act.put, List.setIfInBounds_toArray, List.set_cons_zero, List.set_cons_succ, i64_w, i32_w]
                rfl
              refine done_ (done_of HT_.out (by kernel_rfl)) ?_
              try go_wp2
              go_roundg k1
              case measure => have := HK1.out; omega
              case rel => exact ⟨(y114), (wrap64 (x9_1 + 1)), (by first | rfl | (simp; done) | (simp [*]; done)), H', ⟨by have := HK1.out; omega⟩, ⟨by (with_reducible repeat (first | apply Kd.R_alloc | apply Kd.R_drewN | apply Kd.R_drew)); exact Kd.R_mono HO116.out (fun _ hk => trivial)⟩, ⟨by (with_reducible repeat (first | apply Kd.R_alloc | apply Kd.R_drewN | apply Kd.R_drew)); exact Kd.R_mono HO_7.out (fun _ hk => trivial)⟩, ⟨by repeat (first | (with_reducible first | exact HB.out | apply below_alloc | apply pw_below_drewN | apply below_drew1 | refine below_set ?_ GE105.out) | exact HB.out)⟩⟩
            · rw [if_neg c10] at H
              exact absurd H (by simp)
          · rw [if_neg c7] at H
            exact absurd H (by simp)
        · rw [if_neg c6] at H
          exact absurd H (by simp)
      · rw [if_neg c5] at H
        have c5b0 : decide (x9_1 < (t101.length : Int)) = false := decide_eq_false c5
        clear c5
        obtain rfl := Option.some.inj H
        go_wp2
        go_ret
        exact ⟨_, by first | rfl | (simp [errW_none, errW_some] <;> rfl) | (simp [*, errW_none, errW_some] <;> rfl), by (with_reducible repeat (first | apply Kd.R_alloc | apply Kd.R_drewN | apply Kd.R_drew)); exact HO_3.out, by repeat (first | (with_reducible first | exact HB.out | apply below_alloc | apply pw_below_drewN | apply below_drew1) | exact HB.out)⟩

/-! ### haze_Best: function 20 -/
def haze_Best.f (k : Nat) (l0 : List (S31)) : Option ((List (S33)) × Int) := (haze_Validate.f k l0).bind fun t101 => (if t101 = 0 then ((haze_best.f k l0).bind fun t102 => (some (t102, 0))) else (some (([] : List (S33)), t101)))
theorem haze_Best.mono : ∀ a0 k, LeO (haze_Best.f k a0) (haze_Best.f (k + 1) a0) := by
  intro a0 k
  unfold haze_Best.f
  repeat' first
      | (with_reducible exact haze_Validate.mono _ _)
      | (with_reducible exact haze_best.mono _ _)
      | (with_reducible exact LeO.refl _)
      | (with_reducible exact LeO.none _)
      | (with_reducible refine LeO.ite ?_ ?_)
      | (with_reducible refine LeO.bind ?_ (fun _ => ?_))
      | exact haze_Validate.mono _ _
      | exact haze_best.mono _ _
      | exact LeO.none _
      | refine LeO.ite ?_ ?_
      | refine LeO.bind ?_ (fun _ => ?_)
set_option maxHeartbeats 8000000 in
set_option maxRecDepth 100000 in
theorem haze_Best.calls (k : Nat) (A0 : Option Addr) (c0 : Nat) (l0 : List (S31)) (r1 : List (S33)) (r2 : Int) (w : World) (hr0 : Kd.C k31 w A0 l0.length l0) (hc0 : l0.length ≤ c0) (h : haze_Best.f k l0 = some (r1, r2)) :
    Calls Try.prog 20 #[.slice A0 l0.length c0] w fun e w' => ∃ v0_ : Value, e = .returned (.tuple #[v0_, .int .i64 r2]) ∧ Kd.R k33 33 w' w.heap.size (fun _ => True) v0_ r1 ∧ Below w.heap.size w w' := by
  have HR0 := Aside0.mk hr0
  have HC0 := Aside0.mk hc0
  clear hr0 hc0
  have HB := Aside0.mk (Below.refl w.heap.size w)
  have H : ((haze_Validate.f k l0).bind fun t101 => (if t101 = 0 then ((haze_best.f k l0).bind fun t102 => (some (t102, 0))) else (some (([] : List (S33)), t101)))) = some (r1, r2) := h
  clear h
  replace H := Option.bind_eq_some_iff.mp H
  obtain ⟨t101, A20, H⟩ := H
  replace H : (if t101 = 0 then ((haze_best.f k l0).bind fun t102 => (some (t102, 0))) else (some (([] : List (S33)), t101))) = some (r1, r2) := H
  have A2 := Aside0.mk A20
  clear A20
  by_cases c3 : t101 = 0
  · rw [if_pos c3] at H
    have c3b0 : (t101 == 0) = true := beq_iff_eq.mpr c3
    have c3b1 : (t101 != 0) = false := bne_eq_false_iff_eq.mpr c3
    clear c3
    replace H := Option.bind_eq_some_iff.mp H
    obtain ⟨t102, A40, H⟩ := H
    replace H : (some (t102, 0)) = some (r1, r2) := H
    have A4 := Aside0.mk A40
    clear A40
    simp only [Option.some.injEq, Prod.mk.injEq] at H
    obtain ⟨rfl, rfl⟩ := H
    go_enter Try.func20, Try.ntmps20
    go_wp2_with (first | ((with_reducible refine gate_callee (f := 56) rfl ?_); refine goesL_ (some 6) rfl rfl Try.func56 (by kernel_rfl) rfl #[.slice A0 l0.length c0] rfl (by (try simp only [List.map_toArray, List.map_cons, List.map_nil]); first | done | rfl | (simp only [List.length_drop, List.length_take]; rfl)) ?_; (with_reducible refine (haze_Validate.calls k _ _ l0 t101 _ ?side1 ?side2 A2.out).mono ?_); (case side1 => repeat (first | exact HR0.out | (with_reducible refine Kd.C_alloc ?_ _) | (with_reducible refine Kd.C_drewN ?_ _) | (with_reducible refine Kd.C_drew ?_))); (case side2 => exact HC0.out); rintro e w5 ⟨rfl, hb⟩; refine ⟨_, rfl, ?_⟩; have n0_ := Aside0.mk (below_step (by repeat (first | (with_reducible first | exact HB.out | apply below_alloc | apply pw_below_drewN | apply below_drew1) | exact HB.out)) hb); clear HB; have HB := n0_; clear n0_; (try clear hb); (try clear hb2); (try clear hk); (try clear hi)) | ((with_reducible refine gate_callee (f := 59) rfl ?_); refine goesL_ (some 11) rfl rfl Try.func59 (by kernel_rfl) rfl #[.slice A0 l0.length c0] rfl (by (try simp only [List.map_toArray, List.map_cons, List.map_nil]); first | done | rfl | (simp only [List.length_drop, List.length_take]; rfl)) ?_; (with_reducible refine (haze_best.calls k _ _ l0 t102 _ ?side1 ?side2 A4.out).mono ?_); (case side1 => repeat (first | exact (Kd.C_below HR0.out HB.out) | (with_reducible refine Kd.C_alloc ?_ _) | (with_reducible refine Kd.C_drewN ?_ _) | (with_reducible refine Kd.C_drew ?_))); (case side2 => exact HC0.out); rintro e w6 ⟨v103, rfl, ho0, hb⟩; refine ⟨_, rfl, ?_⟩; have n0_ := Aside0.mk (Kd.R_lower ho0 (below_size (by repeat (first | (with_reducible first | exact HB.out | apply below_alloc | apply pw_below_drewN | apply below_drew1) | exact HB.out)))); have n1_ := Aside0.mk (below_step (by repeat (first | (with_reducible first | exact HB.out | apply below_alloc | apply pw_below_drewN | apply below_drew1) | exact HB.out)) hb); clear HB; have HO104 := n0_; have HB := n1_; clear n0_ n1_; (try clear hb); (try clear hb2); (try clear hk); (try clear hi); (try clear ho0)))
    go_ret2
    exact ⟨_, by first | rfl | (simp [errW_none, errW_some] <;> rfl) | (simp [*, errW_none, errW_some] <;> rfl), by (with_reducible repeat (first | apply Kd.R_alloc | apply Kd.R_drewN | apply Kd.R_drew)); exact HO104.out, by repeat (first | (with_reducible first | exact HB.out | apply below_alloc | apply pw_below_drewN | apply below_drew1) | exact HB.out)⟩
  · rw [if_neg c3] at H
    have c3b0 : (t101 == 0) = false := beq_eq_false_iff_ne.mpr c3
    have c3b1 : (t101 != 0) = true := bne_iff_ne.mpr c3
    simp only [Option.some.injEq, Prod.mk.injEq] at H
    obtain ⟨rfl, rfl⟩ := H
    go_enter Try.func20, Try.ntmps20
    go_wp2_with (first | ((with_reducible refine gate_callee (f := 56) rfl ?_); refine goesL_ (some 6) rfl rfl Try.func56 (by kernel_rfl) rfl #[.slice A0 l0.length c0] rfl (by (try simp only [List.map_toArray, List.map_cons, List.map_nil]); first | done | rfl | (simp only [List.length_drop, List.length_take]; rfl)) ?_; (with_reducible refine (haze_Validate.calls k _ _ l0 t101 _ ?side1 ?side2 A2.out).mono ?_); (case side1 => repeat (first | exact HR0.out | (with_reducible refine Kd.C_alloc ?_ _) | (with_reducible refine Kd.C_drewN ?_ _) | (with_reducible refine Kd.C_drew ?_))); (case side2 => exact HC0.out); rintro e w7 ⟨rfl, hb⟩; refine ⟨_, rfl, ?_⟩; have n0_ := Aside0.mk (below_step (by repeat (first | (with_reducible first | exact HB.out | apply below_alloc | apply pw_below_drewN | apply below_drew1) | exact HB.out)) hb); clear HB; have HB := n0_; clear n0_; (try clear hb); (try clear hb2); (try clear hk); (try clear hi)))
    go_ret2
    exact ⟨_, by first | rfl | (simp [errW_none, errW_some] <;> rfl) | (simp [*, errW_none, errW_some] <;> rfl), by first | exact Kd.R_nil _ _ _ _ _ | exact Kd.N_nil _ _ _ _ _ | exact Kd.V_nil _ _ _ _ _ | exact Kd.Q_nil _ _ _ _ _ | exact Kd.S_nil _ _ _ _ _, by repeat (first | (with_reducible first | exact HB.out | apply below_alloc | apply pw_below_drewN | apply below_drew1) | exact HB.out)⟩

/-! ### diaphoneref02_SameRats: function 31 -/
def diaphoneref02_SameRats.l0 : Nat → List (S33) → List (S33) → Int → Option (Bool)
  | 0, _, _, _ => none
  | k + 1, x0, x1, x5 => if x5 < (x0.length : Int) then (if 0 ≤ x5 then (if x5 < (x1.length : Int) then (if (!(((rd_T33 x0 x5).f0) == ((rd_T33 x1 x5).f0)) || (!(((rd_T33 x0 x5).f1) == ((rd_T33 x1 x5).f1)))) = true then (some false) else (diaphoneref02_SameRats.l0 k x0 x1 (wrap64 (x5 + 1)))) else (none)) else (none)) else (some true)
def diaphoneref02_SameRats.f (k : Nat) (l0 : List (S33)) (l1 : List (S33)) : Option (Bool) := if (l0.length : Int) = (l1.length : Int) then (diaphoneref02_SameRats.l0 k l0 l1 0) else (some false)
theorem diaphoneref02_SameRats.mono_l : ∀ k, (∀ y0 y1 y2, LeO (diaphoneref02_SameRats.l0 k y0 y1 y2) (diaphoneref02_SameRats.l0 (k + 1) y0 y1 y2))
  | 0 => fun _ _ _ r h => by simp [diaphoneref02_SameRats.l0] at h
  | k + 1 => by
    have ih0 := diaphoneref02_SameRats.mono_l k
    · intro y0 y1 y2
      unfold diaphoneref02_SameRats.l0
      repeat' first
      | (with_reducible exact ih0 _ _ _)
      | (with_reducible exact LeO.refl _)
      | (with_reducible exact LeO.none _)
      | (with_reducible refine LeO.ite ?_ ?_)
      | (with_reducible refine LeO.bind ?_ (fun _ => ?_))
      | exact ih0 _ _ _
      | exact LeO.none _
      | refine LeO.ite ?_ ?_
      | refine LeO.bind ?_ (fun _ => ?_)
theorem diaphoneref02_SameRats.mono : ∀ a0 a1 k, LeO (diaphoneref02_SameRats.f k a0 a1) (diaphoneref02_SameRats.f (k + 1) a0 a1) := by
  intro a0 a1 k
  have ih0 := diaphoneref02_SameRats.mono_l k
  unfold diaphoneref02_SameRats.f
  repeat' first
      | (with_reducible exact ih0 _ _ _)
      | (with_reducible exact LeO.refl _)
      | (with_reducible exact LeO.none _)
      | (with_reducible refine LeO.ite ?_ ?_)
      | (with_reducible refine LeO.bind ?_ (fun _ => ?_))
      | exact ih0 _ _ _
      | exact LeO.none _
      | refine LeO.ite ?_ ?_
      | refine LeO.bind ?_ (fun _ => ?_)
set_option maxHeartbeats 8000000 in
set_option maxRecDepth 100000 in
theorem diaphoneref02_SameRats.calls (k : Nat) (A0 : Option Addr) (c0 : Nat) (l0 : List (S33)) (A1 : Option Addr) (c1 : Nat) (l1 : List (S33)) (r : Bool) (w : World) (hr0 : Kd.C k33 w A0 l0.length l0) (hc0 : l0.length ≤ c0) (hr1 : Kd.C k33 w A1 l1.length l1) (hc1 : l1.length ≤ c1) (h : diaphoneref02_SameRats.f k l0 l1 = some r) :
    Calls Try.prog 31 #[.slice A0 l0.length c0, .slice A1 l1.length c1] w fun e w' => e = .returned (.bool r) ∧ Drawn0 w w' := by
  have hu33 := Try.underlying33
  have HR0 := Aside0.mk hr0
  have HC0 := Aside0.mk hc0
  clear hr0 hc0
  have HR1 := Aside0.mk hr1
  have HC1 := Aside0.mk hc1
  clear hr1 hc1
  have H : (if (l0.length : Int) = (l1.length : Int) then (diaphoneref02_SameRats.l0 k l0 l1 0) else (some false)) = some r := h
  clear h
  by_cases c3 : (l0.length : Int) = (l1.length : Int)
  · rw [if_pos c3] at H
    have c3b0 : ((l0.length : Int) == (l1.length : Int)) = true := beq_iff_eq.mpr c3
    have c3b1 : ((l0.length : Int) != (l1.length : Int)) = false := bne_eq_false_iff_eq.mpr c3
    have c3b2 : (l0.length == l1.length) = true := by first | simpa using c3 | (simp at c3 ⊢; omega)
    clear c3
    have H' := Aside0.mk H
    clear H
    go_enter Try.func31, Try.ntmps31
    go_wp2
    repeat (go_quiet (fail); try go_wp2)
    go_loopg [5] k (fun kq v5 w' => ∃ (x5_1 : Int), v5 = .int .i64 x5_1 ∧ Aside0 (diaphoneref02_SameRats.l0 kq l0 l1 x5_1 = some r) ∧ Aside0 (kq ≤ k) ∧ Drawn0 w w')
    case atStart => exact ⟨(0), (by first | rfl | (simp; done) | (simp [*]; done)), H', ⟨Nat.le_refl _⟩, by repeat (first | exact Drawn0.refl _ | apply Drawn0.step)⟩
    case round =>
      clear H'
      try clear c1
      try clear p2
      try clear c3
      try clear c3b0
      try clear c3b1
      try clear c3b2
      obtain ⟨x5_1, rfl, HA, HK1, ⟨m1, rfl⟩⟩ := hrel
      cases gk with
      | zero => exact absurd HA.out (by simp [diaphoneref02_SameRats.l0])
      | succ k1 =>
        have H := HA.out
        clear HA
        simp only [diaphoneref02_SameRats.l0] at H
        by_cases c4 : x5_1 < (l0.length : Int)
        · rw [if_pos c4] at H
          have c4b0 : decide (x5_1 < (l0.length : Int)) = true := decide_eq_true c4
          clear c4
          by_cases c5 : 0 ≤ x5_1
          · rw [if_pos c5] at H
            have c5b0 : decide (0 ≤ x5_1) = true := decide_eq_true c5
            clear c5
            by_cases c6 : x5_1 < (l1.length : Int)
            · rw [if_pos c6] at H
              have c6b0 : decide (x5_1 < (l1.length : Int)) = true := decide_eq_true c6
              clear c6
              by_cases c7 : (!(((rd_T33 l0 x5_1).f0) == ((rd_T33 l1 x5_1).f0)) || (!(((rd_T33 l0 x5_1).f1) == ((rd_T33 l1 x5_1).f1)))) = true
              · rw [if_pos c7] at H
                have c7b0 : (!(((rd_T33 l0 x5_1).f0) == ((rd_T33 l1 x5_1).f0)) || (!(((rd_T33 l0 x5_1).f1) == ((rd_T33 l1 x5_1).f1)))) = true := c7
                clear c7
                obtain rfl := Option.some.inj H
                have p101 : 0 ≤ (x5_1 : Int) := of_decide_eq_true (by first | (with_reducible assumption) | assumption)
                have q101 : x5_1 < (l0.length : Int) := of_decide_eq_true (by first | (with_reducible assumption) | assumption)
                obtain ⟨ad101, e101, hx101_0, hx101_1⟩ := at_T33 HR0.out x5_1 p101 q101
                cases e101
                replace p101 := eq_true p101
                replace q101 := eq_true q101
                have p102 : 0 ≤ (x5_1 : Int) := of_decide_eq_true (by first | (with_reducible assumption) | assumption)
                have q102 : x5_1 < (l1.length : Int) := of_decide_eq_true (by first | (with_reducible assumption) | assumption)
                obtain ⟨ad102, e102, hx102_0, hx102_1⟩ := at_T33 HR1.out x5_1 p102 q102
                cases e102
                replace p102 := eq_true p102
                replace q102 := eq_true q102
                go_wp2
                repeat (go_quiet (fail); try go_wp2)
                go_ret
                exact ⟨by first | rfl | (simp; done) | (simp [*]; done), by repeat (first | exact Drawn0.refl _ | apply Drawn0.step)⟩
              · rw [if_neg c7] at H
                have c7b0 : (!(((rd_T33 l0 x5_1).f0) == ((rd_T33 l1 x5_1).f0)) || (!(((rd_T33 l0 x5_1).f1) == ((rd_T33 l1 x5_1).f1)))) = false := by simpa using c7
                clear c7
                have H' := Aside0.mk H
                clear H
                have p101 : 0 ≤ (x5_1 : Int) := of_decide_eq_true (by first | (with_reducible assumption) | assumption)
                have q101 : x5_1 < (l0.length : Int) := of_decide_eq_true (by first | (with_reducible assumption) | assumption)
                obtain ⟨ad101, e101, hx101_0, hx101_1⟩ := at_T33 HR0.out x5_1 p101 q101
                cases e101
                replace p101 := eq_true p101
                replace q101 := eq_true q101
                have p102 : 0 ≤ (x5_1 : Int) := of_decide_eq_true (by first | (with_reducible assumption) | assumption)
                have q102 : x5_1 < (l1.length : Int) := of_decide_eq_true (by first | (with_reducible assumption) | assumption)
                obtain ⟨ad102, e102, hx102_0, hx102_1⟩ := at_T33 HR1.out x5_1 p102 q102
                cases e102
                replace p102 := eq_true p102
                replace q102 := eq_true q102
                go_wp2
                repeat (go_quiet (fail); try go_wp2)
                go_roundg k1
                case measure => have := HK1.out; omega
                case rel => exact ⟨(wrap64 (x5_1 + 1)), (by first | rfl | (simp; done) | (simp [*]; done)), H', ⟨by have := HK1.out; omega⟩, by repeat (first | exact Drawn0.refl _ | apply Drawn0.step)⟩
            · rw [if_neg c6] at H
              exact absurd H (by simp)
          · rw [if_neg c5] at H
            exact absurd H (by simp)
        · rw [if_neg c4] at H
          have c4b0 : decide (x5_1 < (l0.length : Int)) = false := decide_eq_false c4
          clear c4
          obtain rfl := Option.some.inj H
          go_wp2
          repeat (go_quiet (fail); try go_wp2)
          go_ret
          exact ⟨by first | rfl | (simp; done) | (simp [*]; done), by repeat (first | exact Drawn0.refl _ | apply Drawn0.step)⟩
  · rw [if_neg c3] at H
    have c3b0 : ((l0.length : Int) == (l1.length : Int)) = false := beq_eq_false_iff_ne.mpr c3
    have c3b1 : ((l0.length : Int) != (l1.length : Int)) = true := bne_iff_ne.mpr c3
    have c3b2 : (l0.length == l1.length) = false := by first | simpa using c3 | (simp at c3 ⊢; omega)
    obtain rfl := Option.some.inj H
    go_enter Try.func31, Try.ntmps31
    go_wp2
    repeat (go_quiet (fail); try go_wp2)
    go_ret
    exact ⟨by first | rfl | (simp; done) | (simp [*]; done), by repeat (first | exact Drawn0.refl _ | apply Drawn0.step)⟩

end Go.Proofs.Ytgdhbeccpicdcaa.P
