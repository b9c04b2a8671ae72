-- laid by a program of this session (wip/tools): plain functions of the Go code and their contracts
-- thinned
import Derived.Test.YtboefcikdfjfmaaPx0
namespace Go.Proofs.Ytboefcikdfjfmaa.P
open Go.RowKit Go.Proofs.YtboefcikdfjfmaaW.PrintWords Go.Proofs.YtboefcikdfjfmaaW.PrintLast Go.Proofs.YtboefcikdfjfmaaW.PrintMore
attribute [local go_sem] max2_int min2_int max_two min_two max_three min_three max_four min_four   -- for this text's walks alone
set_option linter.unusedVariables false
set_option linter.unusedSimpArgs false

/-! ### diaphoneref03_first: function 58 -/
def diaphoneref03_first.f (a0 a1 : Int) (l2 l3 : List Int) (n : Int) : Option (Int × Int × List Int × List Int) := none
set_option maxHeartbeats 8000000 in
set_option maxRecDepth 100000 in
/-- The task of the first hours, in the task's own memory. -/
theorem diaphoneref03_first.shares (a0 a1 : Int) (A2 : Option Addr) (c2 m2 : Nat) (A3 : Option Addr) (c3 m3 : Nat) (n : Int) (w : World) (hc2 : m2 ≤ c2) (hc3 : m3 ≤ c3) (h0 : 0 ≤ n) (h2 : n ≤ m2) (h3 : n ≤ m3) :
  Calls Try.prog 58 #[.agg #[.int .i64 a0, .int .i64 a1, .slice A2 m2 c2, .slice A3 m3 c3], .int .i64 n] w fun e w' => e = .returned (.agg #[.int .i64 a0, .int .i64 a1, .slice A2 n.toNat c2, .slice A3 n.toNat c3]) ∧ Below w.heap.size w w' := by
 have HB := XB (Below.refl w.heap.size w); obtain ⟨i0, hi0, _, hsz0, _⟩ := info_parts info3; have hcut2 := cut_to (P := Try.prog) 22 3 .i64 Try.underlying22 hi0 A2 m2 c2 n h0 h2 hc2; have hcut3 := cut_to (P := Try.prog) 22 3 .i64 Try.underlying22 hi0 A3 m3 c3 n h0 h3 hc3; clear hi0 hsz0 h0 h2 h3 hc2 hc3; go_enter Try.func58, Try.ntmps58
 go_wp2_with (first
  | ((with_reducible refine gate_dst (N := 2) rfl ?_); refine box_event ?hg (N := 2) ?hd (cs := #[.int .i64 a0, .int .i64 a1, .slice A2 m2 c2, .slice A3 m3 c3]) (t := 24) ?hr ?_; (case hd => rfl); (case hg => rfl); (case hr => first | (go_simp; done) | (go_simp; rfl)); intro gt hg w1 hbox hb; have GT := XB (show w.heap.size ≤ gt by omega); have n2_ := XB (Xz HB.out hb); have BT := XB hbox; clear HB; have HB := n2_; clear n2_; clear hb hbox hg)
  | ((with_reducible refine gate_dst (N := 4) rfl ?_); refine box_event ?hg (N := 4) ?hd (cs := #[.int .i64 0, .int .i64 0, .slice none 0 0, .slice none 0 0]) (t := 24) ?hr ?_; (case hd => rfl); (case hg => rfl); (case hr => first | (go_simp; done) | (go_simp; rfl)); intro gr hg w2 hbox hb; have GR := XB (show w.heap.size ≤ gr by have := HB.out.size; omega); have NE := XB (show gt ≠ gr by have := blk_lt BT.out; omega); have n2_ := XB (Xz HB.out hb); have n3_ := XB (XA BT.out hb); have BR := XB hbox; clear HB BT; have HB := n2_; have BT := n3_; clear n2_ n3_; clear hb hbox hg))
 refine start_ (n := 14) (S := fun w' => w'.cell? ⟨gt, 0, none⟩ = some (.int .i64 a0) ∧ w'.cell? ⟨gt, 1, none⟩ = some (.int .i64 a1) ∧ w'.cell? ⟨gt, 2, none⟩ = some (.slice A2 m2 c2) ∧ w'.cell? ⟨gt, 3, none⟩ = some (.slice A3 m3 c3)) (ds := [13]) #[false, false, false, false, false, false, false, false, false, false, false, false, false, false] (by kernel_rfl) rfl rfl
  ⟨(Xi BT.out 0).trans rfl, (Xi BT.out 1).trans rfl, (Xi BT.out 2).trans rfl, (Xi BT.out 3).trans rfl⟩ (fun hHeld => ?_)
 refine pure_ (i := 0) (N := some 5) (v := ?_) (a' := ?_) (Bq 14 1) rfl rfl (by kernel_rfl) (fun _ _ _ h => h) (Or.inl ⟨by rfl, ?_⟩) ?_ ?_; rotate_left
 ·intro w'; go_simp; with_reducible rfl
 rotate_left
 ·simp only [Act.put, Xj, Xk, Xl, i64_w, i32_w]; rfl
 refine take_ (i := 1) (N := some 6) (v := ?_) (a' := ?_) (Bq 14 3) rfl rfl (by kernel_rfl) (fun _ _ _ h => h) (Or.inl ⟨by rfl, ?_⟩) hHeld ?_ ?_; rotate_left
 ·rintro w' hS_; obtain ⟨s0_, s1_, s2_, s3_⟩ := hS_; go_simp; with_reducible rfl
 rotate_left
 ·simp only [Act.put, Xj, Xk, Xl, i64_w, i32_w]; rfl
 refine pure_ (i := 2) (N := some 7) (v := ?_) (a' := ?_) (Bq 14 7) rfl rfl (by kernel_rfl) (fun _ _ _ h => h) (Or.inl ⟨by rfl, ?_⟩) ?_ ?_; rotate_left
 ·intro w'; go_simp; with_reducible rfl
 rotate_left
 ·simp only [Act.put, Xj, Xk, Xl, i64_w, i32_w]; rfl
 refine take_ (i := 3) (N := some 8) (v := ?_) (a' := ?_) (Bq 14 15) rfl rfl (by kernel_rfl) (fun _ _ _ h => h) (Or.inl ⟨by rfl, ?_⟩) hHeld ?_ ?_; rotate_left
 ·rintro w' hS_; obtain ⟨s0_, s1_, s2_, s3_⟩ := hS_; go_simp; with_reducible rfl
 rotate_left
 ·simp only [Act.put, Xj, Xk, Xl, i64_w, i32_w]; rfl
 refine pure_ (i := 4) (N := some 9) (v := ?_) (a' := ?_) (Bq 14 31) rfl rfl (by kernel_rfl) (fun _ _ _ h => h) (Or.inl ⟨by rfl, ?_⟩) ?_ ?_; rotate_left
 ·intro w'; go_simp; with_reducible rfl
 rotate_left
 ·simp only [Act.put, Xj, Xk, Xl, i64_w, i32_w]; rfl
 refine take_ (i := 5) (N := some 10) (v := ?_) (a' := ?_) (Bq 14 63) rfl rfl (by kernel_rfl) (fun _ _ _ h => h) (Or.inl ⟨by rfl, ?_⟩) hHeld ?_ ?_; rotate_left
 ·rintro w' hS_; obtain ⟨s0_, s1_, s2_, s3_⟩ := hS_; go_simp; with_reducible rfl
 rotate_left
 ·simp only [Act.put, Xj, Xk, Xl, i64_w, i32_w]; rfl
 refine pure_ (i := 6) (N := some 11) (v := ?_) (a' := ?_) (Bq 14 127) rfl rfl (by kernel_rfl) (fun _ _ _ h => h) (Or.inl ⟨by rfl, ?_⟩) ?_ ?_; rotate_left
 ·intro w'; go_simp; with_reducible rfl
 rotate_left
 ·simp only [Act.put, Xj, Xk, Xl, i64_w, i32_w]; rfl
 refine pure_ (i := 7) (N := some 12) (v := ?_) (a' := ?_) (Bq 14 255) rfl rfl (by kernel_rfl) (fun _ _ _ h => h) (Or.inl ⟨by rfl, ?_⟩) ?_ ?_; rotate_left
 ·intro w'; go_simp; with_reducible rfl
 rotate_left
 ·simp only [Act.put, Xj, Xk, Xl, i64_w, i32_w]; rfl
 refine pure_ (i := 8) (N := some 13) (v := ?_) (a' := ?_) (Bq 14 511) rfl rfl (by kernel_rfl) (fun _ _ _ h => h) (Or.inl ⟨by rfl, ?_⟩) ?_ ?_; rotate_left
 ·intro w'; go_simp; with_reducible rfl
 rotate_left
 ·simp only [Act.put, Xj, Xk, Xl, i64_w, i32_w]; rfl
 refine take_ (i := 9) (N := some 14) (v := ?_) (a' := ?_) (Bq 14 1023) rfl rfl (by kernel_rfl) (fun _ _ _ h => h) (Or.inl ⟨by rfl, ?_⟩) hHeld ?_ ?_; rotate_left
 ·rintro w' hS_; obtain ⟨s0_, s1_, s2_, s3_⟩ := hS_; go_simp; with_reducible rfl
 rotate_left
 ·simp only [Act.put, Xj, Xk, Xl, i64_w, i32_w]; rfl
 refine pure_ (i := 10) (N := some 15) (v := ?_) (a' := ?_) (Bq 14 2047) rfl rfl (by kernel_rfl) (fun _ _ _ h => h) (Or.inl ⟨by rfl, ?_⟩) ?_ ?_; rotate_left
 ·intro w'; go_simp; with_reducible rfl
 rotate_left
 ·simp only [Act.put, Xj, Xk, Xl, i64_w, i32_w]; rfl
 refine pure_ (i := 11) (N := some 16) (v := ?_) (a' := ?_) (Bq 14 4095) rfl rfl (by kernel_rfl) (fun _ _ _ h => h) (Or.inl ⟨by rfl, ?_⟩) ?_ ?_; rotate_left
 ·intro w'; go_simp; with_reducible rfl
 rotate_left
 ·simp only [Act.put, Xj, Xk, Xl, i64_w, i32_w]; rfl
 refine pure_ (i := 12) (N := some 17) (v := ?_) (a' := ?_) (Bq 14 8191) rfl rfl (by kernel_rfl) (fun _ _ _ h => h) (Or.inl ⟨by rfl, ?_⟩) ?_ ?_; rotate_left
 ·intro w'; go_simp; with_reducible rfl
 rotate_left
 ·simp only [Act.put, Xj, Xk, Xl, i64_w, i32_w]; rfl
 refine last_ (i := 13) (N := none) (Bq 14 16383) rfl rfl (by kernel_rfl) (by decide) (fun K hK => ?_); have hs0 : w2.cell? ⟨gr, 0, none⟩ = some (.int .i64 0) := (Xi BR.out 0).trans rfl; have hs1 : w2.cell? ⟨gr, 1, none⟩ = some (.int .i64 0) := (Xi BR.out 1).trans rfl; have hs2 : w2.cell? ⟨gr, 2, none⟩ = some (.slice none 0 0) := (Xi BR.out 2).trans rfl; have hs3 : w2.cell? ⟨gr, 3, none⟩ = some (.slice none 0 0) := (Xi BR.out 3).trans rfl; have hf0 : w2.frozen? ⟨gr, 0, none⟩ = false := Xh BR.out 0; have hf1 : w2.frozen? ⟨gr, 1, none⟩ = false := Xh BR.out 1; have hf2 : w2.frozen? ⟨gr, 2, none⟩ = false := Xh BR.out 2; have hf3 : w2.frozen? ⟨gr, 3, none⟩ = false := Xh BR.out 3; refine skip_ (w1 := ?_) (by rfl) rfl ?_ ?_; rotate_left
 ·go_simp; rfl
 refine hK.out _ _ ?_; clear hK K; refine done_ (by kernel_rfl) ?_; try go_wp2
 refine bodyPost_ret (results_cell_row rfl _ _ gr 24 #[.int .i64 a0, .int .i64 a1, .slice A2 n.toNat c2, .slice A3 n.toNat c3] (0, 0) _ rfl (by (with_reducible repeat (first | refine Xf ?_ _ | refine Xg ?_ | refine Xe ?_ _)); refine blk_put (cs := #[.int .i64 a0, .int .i64 a1, .slice A2 n.toNat c2, .slice none 0 0]) ?_ 3 _ rfl; (with_reducible repeat (first | refine Xf ?_ _ | refine Xg ?_ | refine Xe ?_ _)); refine blk_put (cs := #[.int .i64 a0, .int .i64 a1, .slice none 0 0, .slice none 0 0]) ?_ 2 _ rfl; (with_reducible repeat (first | refine Xf ?_ _ | refine Xg ?_ | refine Xe ?_ _)); refine blk_put (cs := #[.int .i64 a0, .int .i64 0, .slice none 0 0, .slice none 0 0]) ?_ 1 _ rfl; (with_reducible repeat (first | refine Xf ?_ _ | refine Xg ?_ | refine Xe ?_ _)); refine blk_put (cs := #[.int .i64 0, .int .i64 0, .slice none 0 0, .slice none 0 0]) ?_ 0 _ rfl; (with_reducible repeat (first | refine Xf ?_ _ | refine Xg ?_ | refine Xe ?_ _)); exact BR.out) Try.underlying24 rfl (by kernel_rfl)) rfl ?_; exact ⟨rfl, by repeat (first | (with_reducible first | exact HB.out | apply Xc | apply Xa | apply Xb | refine Xd ?_ GT.out | refine Xd ?_ GR.out) | exact HB.out)⟩


end Go.Proofs.Ytboefcikdfjfmaa.P
