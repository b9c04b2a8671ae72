-- laid by a program of this session (wip/tools): plain functions of the Go code and their contracts
import Derived.Test.YtboefcikdfjfmaaRows
import Derived.Test.YtboefcikdfjfmaaPx62
import Derived.Test.YtboefcikdfjfmaaPureTopAir
import Derived.Test.YtboefcikdfjfmaaWOpen
import Derived.WalkKit
import Derived.ProofKit
import Derived.OpenShut
import Derived.ShutString
import Derived.ChangeOld
import Derived.Below
import Derived.SizedLaws
namespace Go.Proofs.Ytboefcikdfjfmaa.topAir
open Go.ChangeShapes Go.WideShapes Go.ChangeAt Go.RowKit Go.Proofs.YtboefcikdfjfmaaW.PrintWords Go.Proofs.YtboefcikdfjfmaaW.PrintOpen Go.Proofs.Ytboefcikdfjfmaa.P
set_option linter.unusedVariables false
theorem own : ownKnob Try.prog.godebug = none := by kernel_rfl
theorem laidOut : laidOutB Try.prog = true := by kernel_rfl
theorem opens0 : Opens Try.prog 24 k24 (fun x => ((Lit.int .i64 x.f0).wf = true) ∧ ((Lit.int .i64 x.f1).wf = true) ∧ ((∀ y ∈ x.f2, (Lit.int .i64 y).wf = true) ∧ x.f2.length ≤ maxLen) ∧ ((∀ y ∈ x.f3, (Lit.int .i64 y).wf = true) ∧ x.f3.length ≤ maxLen)) := (Opens.iso (Opens.struct Try.underlying24 (by kernel_rfl) (OpensFs.cons rfl (by kernel_rfl) (Opens.int Try.underlying3) (OpensFs.cons rfl (by kernel_rfl) (Opens.int Try.underlying3) (OpensFs.cons rfl (by kernel_rfl) (Opens.slice (d := (Kd.int .i64)) Try.underlying22 (by kernel_rfl) (Opens.int Try.underlying3)) (OpensFs.one rfl (by kernel_rfl) (Opens.slice (d := (Kd.int .i64)) Try.underlying22 (by kernel_rfl) (Opens.int Try.underlying3))))))) (fun x : S24 => (x.f0, x.f1, x.f2, x.f3)) (fun p => (⟨p.1, p.2.1, p.2.2.1, p.2.2.2⟩ : S24)) (fun _ => rfl))
theorem opens1 : Opens Try.prog 47 k47 (fun x => ((∀ y ∈ x.f0, (Lit.int .i64 y).wf = true) ∧ x.f0.length ≤ maxLen) ∧ ((∀ y ∈ x.f1, (Lit.int .i64 y).wf = true) ∧ x.f1.length ≤ maxLen)) := (Opens.iso (Opens.struct Try.underlying47 (by kernel_rfl) (OpensFs.cons rfl (by kernel_rfl) (Opens.slice (d := (Kd.int .i64)) Try.underlying22 (by kernel_rfl) (Opens.int Try.underlying3)) (OpensFs.one rfl (by kernel_rfl) (Opens.slice (d := (Kd.int .i64)) Try.underlying22 (by kernel_rfl) (Opens.int Try.underlying3))))) (fun x : S47 => (x.f0, x.f1)) (fun p => (⟨p.1, p.2⟩ : S47)) (fun _ => rfl))
theorem opens2 : Opens Try.prog 22 (Kd.slice 3 (Kd.int .i64)) (fun x => (∀ y ∈ x, (Lit.int .i64 y).wf = true) ∧ x.length ≤ maxLen) := (Opens.slice (d := (Kd.int .i64)) Try.underlying22 (by kernel_rfl) (Opens.int Try.underlying3))
set_option maxRecDepth 100000 in
theorem lifted (os : Os) (started : os.Started) (H : Type) (enc : TypeId × Value → H) :
    ReturnsInHanded {} Try.checked os 12 .any (Rows.topAirSpec.pre6 enc Try.prog Try.f12 Rows.topAirRow.domain false) (Rows.topAirSpec.post enc Try.prog Try.f12 false true false false) := by
  refine returnsInHanded_of_change_sized (C := Try.checked) own started (by kernel_rfl) Try.func12
    (ChangeSpec.witness6 (enc := enc) (C := Try.checked) false ⟨#[], #[.agg #[.int .i64 0, .int .i64 0, .slice none 0 0, .slice none 0 0], .agg #[.slice none 0 0, .slice none 0 0], .slice none 0 0], []⟩ 8 (by kernel_rfl) (by kernel_rfl) (by kernel_rfl) (by kernel_rfl)) ?_
  intro W base args ds gs before hval0 hW hcnd hsz0 _
  have hval : ∀ (j : Nat) t v, Try.f12.params[j]? = some t → args[j]? = some v → Value.okWide Try.prog W .any base t v := hval0
  have hW' := hW
  obtain ⟨p, q, hA0, hV, rfl, hfz, hnd⟩ := hW
  have hA : DataW.TrodAll enc Try.prog W 0 (fun _ => true) true Try.f12.params.toList args.toList ds p := hA0
  rw [Try.params12] at hA hval
  obtain ⟨v0, vs0, d0, ds0, p0, q0, hargs, rfl, rfl, h0, r0⟩ := trodAll_cons hA
  obtain ⟨v1, vs1, d1, ds1, p1, q1, rfl, rfl, rfl, h1, r1⟩ := trodAll_cons r0
  obtain ⟨v2, vs2, d2, ds2, p2, q2, rfl, rfl, rfl, h2, r2⟩ := trodAll_cons r1
  obtain ⟨rfl, rfl, rfl⟩ := trodAll_nil r2
  obtain rfl : args = #[v0, v1, v2] := by cases args; simp_all
  obtain ⟨rfl, rfl⟩ := trodVars_none hV
  have k0 := h0
  have lt0 : ∀ x ∈ p0, x.block < W.heap.size := by obtain ⟨m, hm⟩ := k0; exact DataW.trod_lt m _ _ _ hm
  obtain ⟨cs0, rfl, _⟩ := okWide_struct Try.underlying24 (hval 0 24 v0 rfl rfl)
  obtain ⟨x0, l0, rfl, hK0, w0⟩ := opens0.arg_struct h0
  obtain ⟨_, _, rfl, rfl, ⟨_, _, rfl, rfl, ⟨_, _, rfl, ⟨A0_2, c0_2, rfl, hl0_2, hC0_2⟩, ⟨A0_3, c0_3, rfl, hl0_3, hC0_3⟩⟩⟩⟩ := hK0
  have k1 := h1
  have lt1 : ∀ x ∈ p1, x.block < W.heap.size := by obtain ⟨m, hm⟩ := k1; exact DataW.trod_lt m _ _ _ hm
  obtain ⟨cs1, rfl, _⟩ := okWide_struct Try.underlying47 (hval 1 47 v1 rfl rfl)
  obtain ⟨x1, l1, rfl, hK1, w1⟩ := opens1.arg_struct h1
  obtain ⟨_, _, rfl, ⟨A1_0, c1_0, rfl, hl1_0, hC1_0⟩, ⟨A1_1, c1_1, rfl, hl1_1, hC1_1⟩⟩ := hK1
  have k2 := h2
  have lt2 : ∀ x ∈ p2, x.block < W.heap.size := by obtain ⟨m, hm⟩ := k2; exact DataW.trod_lt m _ _ _ hm
  obtain ⟨A2, len2, c2, rfl⟩ := okWide_slice Try.underlying22 (hval 2 22 v2 rfl rfl)
  obtain ⟨x2, rfl, hl2, hC2, w2⟩ := opens2.arg_slice h2
  clear hA0 hval0 hsz0
  obtain ⟨k, hk⟩ := Pure.TopAir x0 x1 x2 w0 w1 w2
  have hcall := diaphonetop_TopAir.calls k x0.f0 x0.f1 A0_2 c0_2 x0.f2 A0_3 c0_3 x0.f3 A1_0 c1_0 x1.f0 A1_1 c1_1 x1.f1 A2 c2 x2 true W hC0_2 hl0_2 hC0_3 hl0_3 hC1_0 hl1_0 hC1_1 hl1_1 hC2 hl2 hk
  show Calls Try.prog 12 #[.agg #[.int .i64 x0.f0, .int .i64 x0.f1, .slice A0_2 x0.f2.length c0_2, .slice A0_3 x0.f3.length c0_3], .agg #[.slice A1_0 x1.f0.length c1_0, .slice A1_1 x1.f1.length c1_1], .slice A2 x2.length c2] W _
  refine hcall.mono fun e W' ⟨he, bel0⟩ => ?_
  have bel : Below W.heap.size W W' := bel0
  subst he
  exact ⟨_, rfl, _, _, _, [], _, [], hW', trodAll_mk1 (shut_bool Try.underlying4 _), (trodAll_cons_mk (Below.trod laidOut (by kernel_rfl) (of_decide_eq_true (by kernel_rfl)) k0 bel lt0) (trodAll_cons_mk (Below.trod laidOut (by kernel_rfl) (of_decide_eq_true (by kernel_rfl)) k1 bel lt1) (trodAll_cons_mk (Below.trod laidOut (by kernel_rfl) (of_decide_eq_true (by kernel_rfl)) k2 bel lt2) trodAll_mk0))), rfl, bel.frame _, fun h => by cases h⟩
theorem over : Rows.topAirRow.holds Try.pinned (OpenSpec.ofChange Rows.topAirSpec) :=
  OpenClaim.holds_of_wide 12 Try.f12 rfl rfl rfl rfl rfl rfl rfl ⟨rfl, rfl, rfl, rfl, rfl⟩ rfl rfl rfl rfl rfl (by kernel_rfl) Try.func12 (by kernel_rfl)
    (of_decide_eq_true (by kernel_rfl)) (by unfold Func.isWrapper; first | (rw [if_pos (by decide +kernel)]; kernel_rfl) | (rw [if_neg (by decide +kernel)]; exact ⟨rfl, rfl⟩))
    (fun os started H enc _ => lifted os started H enc)
theorem proved : Rows.TopAirSaid := over
#print axioms proved
end Go.Proofs.Ytboefcikdfjfmaa.topAir
namespace Go.Proofs.Ytboefcikdfjfmaa
/-- The row, under a short name, for the claim. -/
theorem topAir_holds : Rows.TopAirSaid := topAir.proved
end Go.Proofs.Ytboefcikdfjfmaa
