/- Words for contracts written by hand: what a call of a function that lies in a place needs. -/
import Derived.Test.YtboefcikdfjfmaaWWords
import Derived.Test.YtboefcikdfjfmaaWLast
set_option linter.unusedVariables false
namespace Go.Proofs.YtboefcikdfjfmaaW.PrintHand
open Go.RowKit Go.Proofs.YtboefcikdfjfmaaW.PrintWords Go.Proofs.YtboefcikdfjfmaaW.PrintLast

/-- The cells of elements that are read one by one. -/
theorem C_cells {α : Type} {d : Kd α} {w : World} {A : Option Addr} {n : Nat} {xs : List α} (h : d.C w A n xs) (hn : xs.length = n) (h0 : 0 < n) :
    ∃ ad cs, A = some ad ∧ Reps (d.K w) d.sz xs cs ∧ ∀ j v, cs[j]? = some v → w.cell? (ad.add j) = some v := by
  obtain ⟨h1, h2, h3⟩ := h
  obtain ⟨ad, hA, hc⟩ := h3 h0
  have key : ∀ m, m ≤ xs.length → ∃ cs, Reps (d.K w) d.sz (xs.take m) cs ∧ ∀ j v, cs[j]? = some v → w.cell? (ad.add j) = some v := by
    intro m
    induction m with
    | zero => exact fun _ => ⟨[], by simpa using Reps.none _ _, fun j v hj => by simp at hj⟩
    | succ m ih =>
      intro hm
      obtain ⟨cs, hr, hcs⟩ := ih (by omega)
      obtain ⟨c, hl, hk, hcc⟩ := hc m _ (List.getElem?_eq_getElem (show m < xs.length by omega))
      have hlen : cs.length = m * d.sz := by have := hr.1; rw [List.length_take, Nat.min_eq_left (by omega)] at this; exact this
      refine ⟨cs ++ c, ?_, fun j v hj => ?_⟩
      · rw [List.take_succ_eq_append_getElem (show m < xs.length by omega)]
        exact hr.snoc hk hl
      · rcases Nat.lt_or_ge j cs.length with hlt | hge
        · rw [List.getElem?_append_left hlt] at hj
          exact hcs j v hj
        · rw [List.getElem?_append_right hge] at hj
          have := hcc _ v hj
          rwa [hlen, show m * d.sz + (j - m * d.sz) = j by omega] at this
  obtain ⟨cs, hr, hcs⟩ := key xs.length (Nat.le_refl _)
  rw [List.take_length] at hr
  exact ⟨ad, cs, hA, hr, hcs⟩

section
variable {P : Program} {ops : Array Oper} {rest : List Oper} {o oi : Oper} {a : Act} {Q : Exit → Act → World → Prop} {W w : World}
/-- The operation calls what lies in this place. -/
theorem gate_calleeT {t : Tmp} {as : Array Operand} {ts : Array TypeId} (_ho : o.op = .call { callee := .value (.tmp t), args := as, argTypes := ts }) (h : wpList P ops Q (o :: rest) a W) : wpList P ops Q (o :: rest) a W := h
/-- A call of a function that lies in a place, as an arm of go_wp2_with. -/
theorem goesT_ {t : Tmp} (N : Option Tmp) (hd : oi.dst = N) (hg : oi.guard = none) {f : FuncId} {fn : Func} {as : Array Operand} {ts : Array TypeId} (hf : P.funcs[f]? = some fn) (hname : (fn.name == "runtime.NumGoroutine") = false) (hb : fn.body.isSome = true) (args : Array Value)
    (hop : oi.op = .call { callee := .value (.tmp t), args := as, argTypes := ts }) (hev : a.eval (.tmp t) = .func (.func f) #[] #[]) (hargs : as.map a.eval = args)
    (h : Calls P f args w fun e w' => ∃ v, e = .returned v ∧ wpList P ops Q rest (a.put N v) w') : wpList P ops Q (oi :: rest) a w := by
  refine wpList_plain hg fun K hK => ?_
  have he := enters_ hf hname hb args w
  have hrun : (execOp a.eval oi).run P w = .ok (.enter f args) w := by
    unfold execOp
    simp [hop, hev, resolve, Deferred.ofValue, invoke, hargs, he]
  unfold Oper.wp
  rw [hrun, Oper.upon_enter]
  refine h.mono fun e w'' hh => ?_
  obtain ⟨v, rfl, hk⟩ := hh
  subst hd
  exact hK _ _ hk
end
end Go.Proofs.YtboefcikdfjfmaaW.PrintHand
