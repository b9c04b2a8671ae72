/- Words for contracts written by hand: the builtin copy for elements of any number of cells. -/
import Derived.Test.YtcbepmdnhjojdaaWWords
import Derived.Test.YtcbepmdnhjojdaaWLast
import Derived.Laws.CopyRow
import Derived.Laws.CopyOwn
set_option linter.unusedVariables false
namespace Go.Proofs.YtcbepmdnhjojdaaW.PrintHand
open Go.RowKit Go.Proofs.YtcbepmdnhjojdaaW.PrintWords Go.Proofs.YtcbepmdnhjojdaaW.PrintLast

theorem run_copy_size {P : Program} (w : World) (dT sT ty elem : TypeId) (size : Nat) (g o dLen dCap : Nat) (a : Addr) (sLen sCap : Nat) (cur : Array Value) (t : TypeId) (cs : List Value)
    (hu : P.underlying dT = some (.slice elem)) (hs : (P.info? elem).map (·.size) = some size)
    (hg : w.heap[g]? = some (.cells cur t (0, 0))) (hn : cs.length = Nat.min sLen dLen * size)
    (hsrc : ∀ j v, cs[j]? = some v → w.cell? (a.add j) = some v) (hfit : o + cs.length ≤ cur.size) (h1 : ∀ v ∈ cs, v.oneCell' = true) :
    (Builtin.copy_ #[dT, sT] ty #[.slice (some ⟨g, o, none⟩) dLen dCap, .slice (some a) sLen sCap]).run P w =
      .ok (goInt (Nat.min sLen dLen)) (w.setRow g (cur.toList.take o ++ cs ++ cur.toList.drop (o + cs.length)).toArray) := by
  have hl := run_loadCells_list (P := P) w a cs hsrc
  have hst := run_storeCells_at P g o t cs 0 cur w hg (by simpa using hfit) h1
  cases hq : P.info? elem with
  | none => simp [hq] at hs
  | some i =>
    have hi : i.size = size := by simpa [hq] using hs
    rw [hn] at hl
    simp [Builtin.copy_, run_underlying hu, Builtin.lenOf, Builtin.firstCells, sizeOf, typeInfo, hq, hi, hl, hst]

theorem wpList_copy_size {P : Program} {w : World} {ops : Array Oper} {rest : List Oper} {o : Oper} {a : Act} {Q : Exit → Act → World → Prop} (hgd : o.guard = none) (d s : Operand) (dT sT : TypeId)
    (ho : o.op = .call { callee := .builtin .copy, args := #[d, s], argTypes := #[dT, sT] }) (elem : TypeId) (hu : P.underlying dT = some (.slice elem)) (size : Nat) (hsz : (P.info? elem).map (·.size) = some size)
    (g off dLen dCap : Nat) (ad : Addr) (sLen sCap : Nat) (hd : a.eval d = .slice (some ⟨g, off, none⟩) dLen dCap) (hs : a.eval s = .slice (some ad) sLen sCap)
    (cur : Array Value) (t : TypeId) (hg : w.heap[g]? = some (.cells cur t (0, 0))) (cs : List Value) (hn : cs.length = Nat.min sLen dLen * size)
    (hsrc : ∀ j v, cs[j]? = some v → w.cell? (ad.add j) = some v) (hfit : off + cs.length ≤ cur.size) (h1 : ∀ v ∈ cs, v.oneCell' = true)
    (h : ∀ w', w'.heap[g]? = some (.cells (cur.toList.take off ++ cs ++ cur.toList.drop (off + cs.length)).toArray t (0, 0)) → w.grownBy w' (some g) → w.heap.size = w'.heap.size → wpList P ops Q rest (a.put o.dst (goInt (Nat.min sLen dLen))) w') : wpList P ops Q (o :: rest) a w := by
  refine wpList_plain hgd fun K hK => ?_
  have hrun := run_copy_size (P := P) w dT sT o.type elem size g off dLen dCap ad sLen sCap cur t cs hu hsz hg hn hsrc hfit h1
  unfold Oper.wp
  simp [execOp, ho, resolve, invoke, builtin, hd, hs, hrun, Result.andThen]
  refine hK _ _ (h _ ?_ ⟨rfl, rfl, rfl, ?_, ?_⟩ ?_)
  · simpa using setRow_heap w g cur _ t _ hg
  · simp [World.setRow]
  · exact fun k _ hne => setRow_other w g k _ (fun e => hne (by rw [e]))
  · simp [World.setRow]

/-- What a row of the call's own is, once it has an element. -/
theorem R_block {α : Type} {d : Kd α} {e : Nat} {w : World} {base : Nat} {ok : Nat → Prop} {v : Value} {xs : List α} (h : d.R e w base ok v xs) (hx : 0 < xs.length) :
    ∃ g cap cur, v = .slice (some ⟨g, 0, none⟩) xs.length cap ∧ base ≤ g ∧ w.heap[g]? = some (.cells cur e (0, 0)) ∧ xs.length ≤ cap ∧ cap ≤ maxLen ∧ cur.size = cap * d.sz ∧ ok g := by
  obtain ⟨h0, inner, ⟨hl, h2⟩, hr⟩ := h
  rcases h2 with ⟨_, h2⟩ | ⟨g, cap, cur, rfl, hb, hh, h3, h4, h5, h6⟩
  · omega
  · exact ⟨g, cap, cur, rfl, hb, hh, h3, h4, h5, h0 g (by simp [Value.ownBlock])⟩

theorem R_frozen {α : Type} {d : Kd α} {e : Nat} {w : World} {base : Nat} {ok : Nat → Prop} {g n c : Nat} {xs : List α} (h : d.R e w base ok (.slice (some ⟨g, 0, none⟩) n c) xs) (j : Nat) : w.frozen? ⟨g, j, none⟩ = false := by
  obtain ⟨h0, inner, ⟨hl, h2⟩, hr⟩ := h
  rcases h2 with ⟨h2, _⟩ | ⟨g', cap, cur, h2, hb, hh, _⟩
  · cases h2
  · injection h2 with h2 _ _
    injection h2 with h2
    injection h2 with h2 _ _
    subst h2
    exact blk_frozen hh j
/-- Elements that lead to no row of their own: what is read of them is all that there is. -/
def Flat {α : Type} (d : Kd α) : Prop := ∀ w w' base ok x cs, d.K w x cs → d.M w' base ok x cs

theorem flat_pair_2 {β : Type} {f : β → Int × Int} : Flat (Kd.iso (Kd.pair (Kd.int .i64) (Kd.int .i64)) f) := by
  rintro w w' base ok x cs ⟨_, _, rfl, rfl, rfl⟩
  exact ⟨_, _, rfl, rfl, rfl⟩
/-- The cells of elements that are read one by one. -/
theorem C_cells {α : Type} {d : Kd α} {w : World} {A : Option Addr} {n : Nat} {xs : List α} (h : d.C w A n xs) (hn : xs.length = n) (h0 : 0 < n) :
    ∃ ad cs, A = some ad ∧ Reps (d.K w) d.sz xs cs ∧ ∀ j v, cs[j]? = some v → w.cell? (ad.add j) = some v := by
  obtain ⟨h1, h2, h3⟩ := h
  obtain ⟨ad, hA, hc⟩ := h3 h0
  have key : ∀ m, m ≤ xs.length → ∃ cs, Reps (d.K w) d.sz (xs.take m) cs ∧ ∀ j v, cs[j]? = some v → w.cell? (ad.add j) = some v := by
    intro m
    induction m with
    | zero => exact fun _ => ⟨[], by simpa using Reps.none _ _, fun j v hj => by simp at hj⟩
    | succ m ih =>
      intro hm
      obtain ⟨cs, hr, hcs⟩ := ih (by omega)
      obtain ⟨c, hl, hk, hcc⟩ := hc m _ (List.getElem?_eq_getElem (show m < xs.length by omega))
      have hlen : cs.length = m * d.sz := by have := hr.1; rw [List.length_take, Nat.min_eq_left (by omega)] at this; exact this
      refine ⟨cs ++ c, ?_, fun j v hj => ?_⟩
      · rw [List.take_succ_eq_append_getElem (show m < xs.length by omega)]
        exact hr.snoc hk hl
      · rcases Nat.lt_or_ge j cs.length with hlt | hge
        · rw [List.getElem?_append_left hlt] at hj
          exact hcs j v hj
        · rw [List.getElem?_append_right hge] at hj
          have := hcc _ v hj
          rwa [hlen, show m * d.sz + (j - m * d.sz) = j by omega] at this
  obtain ⟨cs, hr, hcs⟩ := key xs.length (Nat.le_refl _)
  rw [List.take_length] at hr
  exact ⟨ad, cs, hA, hr, hcs⟩

/-- copy(v, src): v a row of the call's own, as long as src. -/
theorem R_copy {α : Type} {d : Kd α} (hflat : Flat d) {P : Program} {w : World} {ops : Array Oper} {rest : List Oper} {o : Oper} {a : Act} {Q : Exit → Act → World → Prop} (hgd : o.guard = none) (dd s : Operand) (dT sT : TypeId)
    (ho : o.op = .call { callee := .builtin .copy, args := #[dd, s], argTypes := #[dT, sT] }) (elem : TypeId) (hu : P.underlying dT = some (.slice elem)) (hsz : (P.info? elem).map (·.size) = some d.sz)
    {e base : Nat} {ok : Nat → Prop} {v : Value} {xs ys : List α} {A : Option Addr} {c : Nat} (hd : a.eval dd = v) (hs : a.eval s = .slice A ys.length c)
    (HO : d.R e w base ok v xs) (HC : d.C w A ys.length ys) (hl : xs.length = ys.length) (h0 : 0 < ys.length) {w0 : World} (HB : Below base w0 w) (hbase : base ≤ w.heap.size)
    (h : ∀ w', d.R e w' base ok v ys → Below base w0 w' → wpList P ops Q rest (a.put o.dst (goInt ys.length)) w') : wpList P ops Q (o :: rest) a w := by
  obtain ⟨g, cap, cur, rfl, hb, hh, h3, h4, h5, hok⟩ := R_block HO (by omega)
  obtain ⟨ad, cs, rfl, hr, hc⟩ := C_cells HC rfl h0
  have hcs : cs.length = ys.length * d.sz := hr.1
  have hmin : Nat.min ys.length xs.length = ys.length := by rw [hl]; exact Nat.min_self _
  refine wpList_copy_size hgd dd s dT sT ho elem hu d.sz hsz g 0 xs.length cap ad ys.length c hd hs cur e hh cs (by rw [hcs, hmin]) hc ?_ ?_ ?_
  · rw [hcs, h5, Nat.zero_add]
    exact Nat.mul_le_mul_right _ (by omega)
  · intro u hu'
    obtain ⟨j, hj⟩ := List.getElem?_of_mem hu'
    have hsz0 : 0 < d.sz := by
      rcases Nat.eq_zero_or_pos d.sz with hz | hz
      · rw [hz, Nat.mul_zero] at hcs
        have := List.length_eq_zero_iff.1 hcs
        subst this
        simp at hj
      · exact hz
    have hjl : j < cs.length := (List.getElem?_eq_some_iff.1 hj).1
    have hq : j / d.sz < ys.length := by
      rw [hcs] at hjl
      exact Nat.div_lt_of_lt_mul (by rw [Nat.mul_comm]; exact hjl)
    have hk := hr.2 (j / d.sz) _ (List.getElem?_eq_getElem hq)
    refine d.K_one hk u ?_
    refine List.mem_of_getElem? (i := j % d.sz) ?_
    rw [List.getElem?_take_of_lt (Nat.mod_lt _ hsz0), List.getElem?_drop]
    rw [show j / d.sz * d.sz + j % d.sz = j by rw [Nat.mul_comm]; exact Nat.div_add_mod j d.sz]
    exact hj
  · intro w' hw' hgr hsize
    have hm2 : (goInt (Nat.min ys.length xs.length) : Value) = goInt ys.length := by rw [hmin]
    rw [hm2]
    refine h w' ⟨fun k hk => ?_, cs, ⟨by rw [hcs], .inr ⟨g, cap, _, by rw [hl], hb, hw', by omega, h4, ?_, ?_⟩⟩, ?_⟩ (HB.grown hgr hbase (fun k hk => by injection hk with hk; omega))
    · have : g = k := by simpa [Value.ownBlock] using hk
      subst this
      exact hok
    · simp only [List.take_zero, List.nil_append, Nat.zero_add, List.size_toArray, List.length_append, List.length_drop, Array.length_toList]
      rw [hcs, h5]
      have : ys.length * d.sz ≤ cap * d.sz := Nat.mul_le_mul_right _ (by omega)
      omega
    · simp [← hcs]
    · exact hr.imp_ (fun _ _ hk => hflat _ _ _ _ _ _ hk)
theorem Reps.join {α : Type} {R : α → List Value → Prop} {size : Nat} {xs ys : List α} {cs ds : List Value} (h : Reps R size xs cs) (k : Reps R size ys ds) : Reps R size (xs ++ ys) (cs ++ ds) := by
  obtain ⟨h1, h2⟩ := h
  obtain ⟨k1, k2⟩ := k
  refine ⟨by rw [List.length_append, List.length_append, h1, k1, Nat.add_mul], fun j p hj => ?_⟩
  rcases Nat.lt_or_ge j xs.length with hlt | hge
  · rw [List.getElem?_append_left hlt] at hj
    have := h2 j p hj
    have hle : j * size + size ≤ cs.length := by rw [h1, ← Nat.succ_mul]; exact Nat.mul_le_mul_right _ hlt
    rw [List.drop_append_of_le_length (by omega), List.take_append_of_le_length (by rw [List.length_drop]; omega)]
    exact this
  · rw [List.getElem?_append_right hge] at hj
    have := k2 _ p hj
    have hge2 : cs.length ≤ j * size := by rw [h1]; exact Nat.mul_le_mul_right _ hge
    rw [List.drop_append, List.drop_eq_nil_of_le hge2, List.nil_append, h1, ← Nat.sub_mul]
    exact this
theorem Reps.times {α : Type} {R : α → List Value → Prop} {size : Nat} {xs : List α} {cs : List Value} (h : Reps R size xs cs) (n : Nat) : Reps R size (List.replicate n xs).flatten (List.replicate n cs).flatten := by
  induction n with
  | zero => simpa using Reps.none _ _
  | succ n ih => rw [List.replicate_succ, List.replicate_succ, List.flatten_cons, List.flatten_cons]; exact Reps.join h ih
/-- A list of equal pieces: it looks the same from each piece's begin on. -/
theorem times_get {α : Type} (cs : List α) (n j : Nat) (hj : j + cs.length < (List.replicate n cs).flatten.length) : (List.replicate n cs).flatten[j + cs.length]? = (List.replicate n cs).flatten[j]? := by
  cases n with
  | zero => simp at hj
  | succ n =>
    have e1 : (List.replicate (n + 1) cs).flatten = cs ++ (List.replicate n cs).flatten := by rw [List.replicate_succ, List.flatten_cons]
    have e2 : (List.replicate (n + 1) cs).flatten = (List.replicate n cs).flatten ++ cs := by
      rw [List.replicate_succ', List.flatten_append]; simp
    rw [e1] at hj
    simp at hj
    conv => lhs; rw [e1]
    conv => rhs; rw [e2]
    rw [List.getElem?_append_right (by omega), List.getElem?_append_left (by simp; omega)]
    congr 1
    omega
theorem times_get' {α : Type} (cs : List α) (n j q : Nat) (hj : j + q * cs.length < (List.replicate n cs).flatten.length) : (List.replicate n cs).flatten[j + q * cs.length]? = (List.replicate n cs).flatten[j]? := by
  induction q with
  | zero => simp
  | succ q ih =>
    rw [show j + (q + 1) * cs.length = (j + q * cs.length) + cs.length by rw [Nat.succ_mul]; omega]
    rw [times_get cs n _ (by rw [Nat.succ_mul] at hj; omega)]
    exact ih (by rw [Nat.succ_mul] at hj; omega)
/-- One doubling: what was filled is laid behind itself. -/
theorem double0 {α : Type} (X : List α) (a b : Nat) (hp : ∀ j, j + a < X.length → X[j + a]? = X[j]?) (hb : b ≤ a) (hab : a + b ≤ X.length) (cur : List α) (hc : cur.take a = X.take a) (hl : a + b ≤ cur.length) :
    (cur.take a ++ X.take b ++ cur.drop (a + b)).take (a + b) = X.take (a + b) := by
  have l1 : (X.take a).length = a := by rw [List.length_take]; omega
  have l2 : (X.take b).length = b := by rw [List.length_take]; omega
  rw [hc, List.take_append_of_le_length (by rw [List.length_append, l1, l2]; omega), List.take_of_length_le (by rw [List.length_append, l1, l2]; omega)]
  apply List.ext_getElem?
  intro j
  rcases Nat.lt_or_ge j a with h1 | h1
  · rw [List.getElem?_append_left (by omega), List.getElem?_take_of_lt h1, List.getElem?_take_of_lt (by omega)]
  · rw [List.getElem?_append_right (by omega), l1]
    rcases Nat.lt_or_ge j (a + b) with h2 | h2
    · rw [List.getElem?_take_of_lt (by omega), List.getElem?_take_of_lt h2]
      have := hp (j - a) (by omega)
      rw [← this]
      congr 1
      omega
    · rw [List.getElem?_eq_none (by rw [l2]; omega), List.getElem?_eq_none (by rw [List.length_take]; omega)]
theorem double {α : Type} (cs : List α) (n q a b : Nat) (hq : a = q * cs.length) (hb : b ≤ a) (hab : a + b ≤ (List.replicate n cs).flatten.length) (cur : List α) (hc : cur.take a = (List.replicate n cs).flatten.take a) (hl : a + b ≤ cur.length) :
    (cur.take a ++ (List.replicate n cs).flatten.take b ++ cur.drop (a + b)).take (a + b) = (List.replicate n cs).flatten.take (a + b) :=
  double0 _ a b (fun j hj => by have := times_get' cs n j q (by rw [← hq]; exact hj); rwa [← hq] at this) hb hab cur hc hl
theorem step_copy_size {P : Program} {ops : Array Oper} {o : Oper} {a : Act} {w : World} {K : Act → World → Prop} {Q : Exit → Act → World → Prop} {E : Prop} (hgd : o.guard = none) (d s : Operand) (dT sT : TypeId)
    (ho : o.op = .call { callee := .builtin .copy, args := #[d, s], argTypes := #[dT, sT] }) (elem : TypeId) (hu : P.underlying dT = some (.slice elem)) (size : Nat) (hsz : (P.info? elem).map (·.size) = some size)
    (g off dLen dCap : Nat) (ad : Addr) (sLen sCap : Nat) (hd : a.eval d = .slice (some ⟨g, off, none⟩) dLen dCap) (hs : a.eval s = .slice (some ad) sLen sCap)
    (cur : Array Value) (t : TypeId) (hg : w.heap[g]? = some (.cells cur t (0, 0))) (cs : List Value) (hn : cs.length = Nat.min sLen dLen * size)
    (hsrc : ∀ j v, cs[j]? = some v → w.cell? (ad.add j) = some v) (hfit : off + cs.length ≤ cur.size) (h1 : ∀ v ∈ cs, v.oneCell' = true)
    (h : ∀ w', Hid (w'.heap[g]? = some (.cells (cur.toList.take off ++ cs ++ cur.toList.drop (off + cs.length)).toArray t (0, 0))) → Hid (w.grownBy w' (some g)) → K (a.put o.dst (goInt (Nat.min sLen dLen))) w') :
    if Region.wanted o (yielded ops a.tmps) = true then Oper.wp P o a w K Q else E := by
  have hw : Region.wanted o (yielded ops a.tmps) = true := by simp [Region.wanted, hgd]
  rw [if_pos hw]
  have hrun := run_copy_size (P := P) w dT sT o.type elem size g off dLen dCap ad sLen sCap cur t cs hu hsz hg hn hsrc hfit h1
  unfold Oper.wp
  simp [execOp, ho, resolve, invoke, builtin, hd, hs, hrun, Result.andThen]
  refine h _ (show _ = _ from ?_) (show World.grownBy _ _ _ from ⟨rfl, rfl, rfl, ?_, ?_⟩)
  · simpa using setRow_heap w g cur _ t _ hg
  · simp [World.setRow]
  · exact fun k _ hne => setRow_other w g k _ (fun e => hne (by rw [e]))
section
variable {P : Program} {ops : Array Oper} {rest : List Oper} {o oi : Oper} {a : Act} {Q : Exit → Act → World → Prop} {W w : World}
/-- The operation calls what lies in this place. -/
theorem gate_calleeT {t : Tmp} {as : Array Operand} {ts : Array TypeId} (_ho : o.op = .call { callee := .value (.tmp t), args := as, argTypes := ts }) (h : wpList P ops Q (o :: rest) a W) : wpList P ops Q (o :: rest) a W := h
/-- A call of a function that lies in a place, as an arm of go_wp2_with. -/
theorem goesT_ {t : Tmp} (N : Option Tmp) (hd : oi.dst = N) (hg : oi.guard = none) {f : FuncId} {fn : Func} {as : Array Operand} {ts : Array TypeId} (hf : P.funcs[f]? = some fn) (hname : (fn.name == "runtime.NumGoroutine") = false) (hb : fn.body.isSome = true) (args : Array Value)
    (hop : oi.op = .call { callee := .value (.tmp t), args := as, argTypes := ts }) (hev : a.eval (.tmp t) = .func (.func f) #[] #[]) (hargs : as.map a.eval = args)
    (h : Calls P f args w fun e w' => ∃ v, e = .returned v ∧ wpList P ops Q rest (a.put N v) w') : wpList P ops Q (oi :: rest) a w := by
  refine wpList_plain hg fun K hK => ?_
  have he := enters_ hf hname hb args w
  have hrun : (execOp a.eval oi).run P w = .ok (.enter f args) w := by
    unfold execOp
    simp [hop, hev, resolve, Deferred.ofValue, invoke, hargs, he]
  unfold Oper.wp
  rw [hrun, Oper.upon_enter]
  refine h.mono fun e w'' hh => ?_
  obtain ⟨v, rfl, hk⟩ := hh
  subst hd
  exact hK _ _ hk
end
end Go.Proofs.YtcbepmdnhjojdaaW.PrintHand
