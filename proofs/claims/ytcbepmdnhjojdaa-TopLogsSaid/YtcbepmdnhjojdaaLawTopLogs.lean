-- laid by a program of this session (wip/tools): plain functions of the Go code and their contracts
import Derived.Test.YtcbepmdnhjojdaaRows
import Derived.Test.YtcbepmdnhjojdaaPx64
import Derived.Test.YtcbepmdnhjojdaaPureTopLogs
import Derived.Test.YtcbepmdnhjojdaaWOpen
import Derived.WalkKit
import Derived.ProofKit
import Derived.OpenShut
import Derived.ShutString
import Derived.ChangeOld
import Derived.Below
import Derived.SizedLaws
namespace Go.Proofs.Ytcbepmdnhjojdaa.topLogs
open Go.ChangeShapes Go.WideShapes Go.ChangeAt Go.RowKit Go.Proofs.YtcbepmdnhjojdaaW.PrintWords Go.Proofs.YtcbepmdnhjojdaaW.PrintOpen Go.Proofs.Ytcbepmdnhjojdaa.P
set_option linter.unusedVariables false
theorem own : ownKnob Try.prog.godebug = none := by kernel_rfl
theorem laidOut : laidOutB Try.prog = true := by kernel_rfl
theorem opens0 : Opens Try.prog 26 k26 (fun x => ((∀ y ∈ x.f0, (Lit.int .i64 y).wf = true) ∧ x.f0.length ≤ maxLen) ∧ ((∀ y ∈ x.f1, (Lit.int .i64 y).wf = true) ∧ x.f1.length ≤ maxLen) ∧ (((Lit.int .i64 x.f2.f0).wf = true) ∧ ((Lit.int .i64 x.f2.f1).wf = true) ∧ ((Lit.int .i64 x.f2.f2).wf = true))) := (Opens.iso (Opens.struct Try.underlying26 (by kernel_rfl) (OpensFs.cons rfl (by kernel_rfl) (Opens.slice (d := (Kd.int .i64)) Try.underlying22 (by kernel_rfl) (Opens.int Try.underlying3)) (OpensFs.cons rfl (by kernel_rfl) (Opens.slice (d := (Kd.int .i64)) Try.underlying22 (by kernel_rfl) (Opens.int Try.underlying3)) (OpensFs.one rfl (by kernel_rfl) (Opens.iso (Opens.struct Try.underlying24 (by kernel_rfl) (OpensFs.cons rfl (by kernel_rfl) (Opens.int Try.underlying3) (OpensFs.cons rfl (by kernel_rfl) (Opens.int Try.underlying3) (OpensFs.one rfl (by kernel_rfl) (Opens.int Try.underlying3))))) (fun x : S24 => (x.f0, x.f1, x.f2)) (fun p => (⟨p.1, p.2.1, p.2.2⟩ : S24)) (fun _ => rfl)))))) (fun x : S26 => (x.f0, x.f1, x.f2)) (fun p => (⟨p.1, p.2.1, p.2.2⟩ : S26)) (fun _ => rfl))
theorem opens1 : Opens Try.prog 22 (Kd.slice 3 (Kd.int .i64)) (fun x => (∀ y ∈ x, (Lit.int .i64 y).wf = true) ∧ x.length ≤ maxLen) := (Opens.slice (d := (Kd.int .i64)) Try.underlying22 (by kernel_rfl) (Opens.int Try.underlying3))
set_option maxRecDepth 100000 in
theorem lifted (os : Os) (started : os.Started) (H : Type) (enc : TypeId × Value → H) :
    ReturnsInHanded {} Try.checked os 11 .any (Rows.topLogsSpec.pre6 enc Try.prog Try.f11 Rows.topLogsRow.domain false) (Rows.topLogsSpec.post enc Try.prog Try.f11 false true false false) := by
  refine returnsInHanded_of_change_sized (C := Try.checked) own started (by kernel_rfl) Try.func11
    (ChangeSpec.witness6 (enc := enc) (C := Try.checked) false ⟨#[], #[.agg #[.slice none 0 0, .slice none 0 0, .int .i64 0, .int .i64 0, .int .i64 0], .slice none 0 0], []⟩ 8 (by kernel_rfl) (by kernel_rfl) (by kernel_rfl) (by kernel_rfl)) ?_
  intro W base args ds gs before hval0 hW hcnd hsz0 _
  have hval : ∀ (j : Nat) t v, Try.f11.params[j]? = some t → args[j]? = some v → Value.okWide Try.prog W .any base t v := hval0
  have hW' := hW
  obtain ⟨p, q, hA0, hV, rfl, hfz, hnd⟩ := hW
  have hA : DataW.TrodAll enc Try.prog W 0 (fun _ => true) true Try.f11.params.toList args.toList ds p := hA0
  rw [Try.params11] at hA hval
  obtain ⟨v0, vs0, d0, ds0, p0, q0, hargs, rfl, rfl, h0, r0⟩ := trodAll_cons hA
  obtain ⟨v1, vs1, d1, ds1, p1, q1, rfl, rfl, rfl, h1, r1⟩ := trodAll_cons r0
  obtain ⟨rfl, rfl, rfl⟩ := trodAll_nil r1
  obtain rfl : args = #[v0, v1] := by cases args; simp_all
  obtain ⟨rfl, rfl⟩ := trodVars_none hV
  have k0 := h0
  have lt0 : ∀ x ∈ p0, x.block < W.heap.size := by obtain ⟨m, hm⟩ := k0; exact DataW.trod_lt m _ _ _ hm
  obtain ⟨cs0, rfl, _⟩ := okWide_struct Try.underlying26 (hval 0 26 v0 rfl rfl)
  obtain ⟨x0, l0, rfl, hK0, w0⟩ := opens0.arg_struct h0
  obtain ⟨_, _, rfl, ⟨A0_0, c0_0, rfl, hl0_0, hC0_0⟩, ⟨_, _, rfl, ⟨A0_1, c0_1, rfl, hl0_1, hC0_1⟩, ⟨_, _, rfl, rfl, ⟨_, _, rfl, rfl, rfl⟩⟩⟩⟩ := hK0
  have k1 := h1
  have lt1 : ∀ x ∈ p1, x.block < W.heap.size := by obtain ⟨m, hm⟩ := k1; exact DataW.trod_lt m _ _ _ hm
  obtain ⟨A1, len1, c1, rfl⟩ := okWide_slice Try.underlying22 (hval 1 22 v1 rfl rfl)
  obtain ⟨x1, rfl, hl1, hC1, w1⟩ := opens1.arg_slice h1
  clear hA0 hval0 hsz0
  obtain ⟨k, hk⟩ := Pure.TopLogs x0 x1 w0 w1
  have hcall := diaphonetop_TopLogs.calls k A0_0 c0_0 x0.f0 A0_1 c0_1 x0.f1 x0.f2.f0 x0.f2.f1 x0.f2.f2 A1 c1 x1 true W hC0_0 hl0_0 hC0_1 hl0_1 hC1 hl1 hk
  show Calls Try.prog 11 #[.agg #[.slice A0_0 x0.f0.length c0_0, .slice A0_1 x0.f1.length c0_1, .int .i64 x0.f2.f0, .int .i64 x0.f2.f1, .int .i64 x0.f2.f2], .slice A1 x1.length c1] W _
  refine hcall.mono fun e W' ⟨he, bel0⟩ => ?_
  have bel : Below W.heap.size W W' := bel0
  subst he
  exact ⟨_, rfl, _, _, _, [], _, [], hW', trodAll_mk1 (shut_bool Try.underlying4 _), (trodAll_cons_mk (Below.trod laidOut (by kernel_rfl) (of_decide_eq_true (by kernel_rfl)) k0 bel lt0) (trodAll_cons_mk (Below.trod laidOut (by kernel_rfl) (of_decide_eq_true (by kernel_rfl)) k1 bel lt1) trodAll_mk0)), rfl, bel.frame _, fun h => by cases h⟩
theorem over : Rows.topLogsRow.holds Try.pinned (OpenSpec.ofChange Rows.topLogsSpec) :=
  OpenClaim.holds_of_wide 11 Try.f11 rfl rfl rfl rfl rfl rfl rfl ⟨rfl, rfl, rfl, rfl, rfl⟩ rfl rfl rfl rfl rfl (by kernel_rfl) Try.func11 (by kernel_rfl)
    (of_decide_eq_true (by kernel_rfl)) (by unfold Func.isWrapper; first | (rw [if_pos (by decide +kernel)]; kernel_rfl) | (rw [if_neg (by decide +kernel)]; exact ⟨rfl, rfl⟩))
    (fun os started H enc _ => lifted os started H enc)
theorem proved : Rows.TopLogsSaid := over
#print axioms proved
end Go.Proofs.Ytcbepmdnhjojdaa.topLogs
namespace Go.Proofs.Ytcbepmdnhjojdaa
/-- The row, under a short name, for the claim. -/
theorem topLogs_holds : Rows.TopLogsSaid := topLogs.proved
end Go.Proofs.Ytcbepmdnhjojdaa
