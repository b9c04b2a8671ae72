-- laid by a program of this session (wip/tools): plain functions of the Go code and their contracts
import Derived.Test.YtmpmfjnmfgnhcaaPx0
import Derived.Test.YtmpmfjnmfgnhcaaPx34
namespace Go.Proofs.Ytmpmfjnmfgnhcaa.P
open Go.RowKit Go.Proofs.YtmpmfjnmfgnhcaaW.PrintWords Go.Proofs.YtmpmfjnmfgnhcaaW.PrintLast Go.Proofs.YtmpmfjnmfgnhcaaW.PrintMore
attribute [local go_sem] max2_int min2_int max_two min_two max_three min_three max_four min_four   -- for this text's walks alone
set_option linter.unusedVariables false
set_option linter.unusedSimpArgs false

/-! ### tone_pieces: function 84 -/
/-! ### Pieces as keys -/
theorem tp_laidOut : laidOutB Try.prog = true := by kernel_rfl
theorem tp_row : (67 : TypeId) < Try.prog.types.size := of_decide_eq_true (by kernel_rfl)
theorem tp_wide : (match Try.prog.underlying 67 with | some (.array _ _) | some (.struct _) => true | _ => false) = true := by rw [Try.underlying67]
theorem tp_law : WideMaps.KeyLaw Try.prog 67 := deep_law_laid tp_laidOut (m := 2) (by omega) tp_row (by kernel_rfl) tp_wide
theorem tp_keyed : Maps.Keyed Try.prog 67 := Maps.Keyed.of_law tp_law
/-- A piece, padded to the array's sixty. -/
def tp_pad (xs : List Int) : List Int := xs ++ List.replicate (60 - xs.length) 0
theorem tp_pad_len {xs : List Int} (h : xs.length ≤ 60) : (tp_pad xs).length = 60 := by simp [tp_pad]; omega
theorem tp_pad_set {xs : List Int} (h : xs.length < 60) (x : Int) : (tp_pad xs).set xs.length x = tp_pad (xs ++ [x]) := by
  unfold tp_pad
  rw [List.set_append_right _ _ (Nat.le_refl _), Nat.sub_self, show 60 - xs.length = (60 - (xs ++ [x]).length) + 1 by simp; omega, List.replicate_succ, List.set_cons_zero, List.append_assoc]
  rfl
theorem tp_pad_inj {xs ys : List Int} (h : xs.length = ys.length) (e : tp_pad xs = tp_pad ys) : xs = ys := (List.append_inj e h).1
def tp_cells (xs : List Int) : List Value := (tp_pad xs).map (Value.int .i64)
def tp_val (xs : List Int) : Value := .agg (tp_cells xs).toArray
def tp_ok (xs : List Int) : Prop := xs.length ≤ 60 ∧ ∀ x ∈ xs, (Lit.int .i64 x).wf = true
def tp_lit (xs : List Int) : Lit := .string (keyBytes ((tp_pad xs).map (Lit.int .i64)))
theorem tp_cells_len {xs : List Int} (h : xs.length ≤ 60) : (tp_cells xs).length = 60 := by simp [tp_cells, tp_pad_len h]
theorem tp_wf {xs : List Int} (h : tp_ok xs) : ∀ x ∈ tp_pad xs, (Lit.int .i64 x).wf = true := by
  intro x hx
  rcases List.mem_append.1 hx with h1 | h1
  · exact h.2 x h1
  · rw [(List.mem_replicate.1 h1).2]; decide
theorem tp_mapM (g : Nat → Option (List Lit)) (ys : List Int) (hg : ∀ i, (hi : i < ys.length) → g i = some [Lit.int .i64 ys[i]]) : (List.range ys.length).mapM g = some (ys.map fun y => [Lit.int .i64 y]) := by
  have key : ∀ n, n ≤ ys.length → (List.range n).mapM g = some ((ys.take n).map fun y => [Lit.int .i64 y]) := by
    intro n
    induction n with
    | zero => intro _; rfl
    | succ n ih =>
      intro hn
      have e : (ys.take (n + 1)).map (fun y => [Lit.int .i64 y]) = (ys.take n).map (fun y => [Lit.int .i64 y]) ++ [[Lit.int .i64 (ys[n]'(by omega))]] := by
        rw [List.take_succ_eq_append_getElem (by omega), List.map_append]; rfl
      rw [List.range_succ, List.mapM_append, ih (by omega), e]
      simp only [List.mapM_cons, List.mapM_nil, hg n (by omega), Option.pure_def, Option.bind_eq_bind, Option.bind_some]
  have := key ys.length (Nat.le_refl _)
  rwa [List.take_length] at this
theorem tp_cellsOf : Try.prog.cellsOf 67 = 60 := by kernel_rfl
theorem tp_cellsOf3 : Try.prog.cellsOf 3 = 1 := by kernel_rfl
theorem tp_keyType : Try.prog.keyType 67 = true := by kernel_rfl
theorem tp_keyOf {xs : List Int} (h : tp_ok xs) : keyOf Try.prog 67 (tp_val xs) = some (tp_lit xs) := by
  have hl := tp_cells_len h.1
  have hf : (tp_val xs).formed Try.prog 67 = true := by
    simp [tp_val, Value.formed, Try.underlying67, tp_cellsOf, hl]
  have hsz : Try.prog.types.size + 1 = (Try.prog.types.size - 1 + 1) + 1 := by
    have := tp_row
    have h2 : (67 : Nat) < Try.prog.types.size := this
    omega
  unfold keyOf
  rw [Try.underlying67]
  simp only [tp_keyType, hf, Bool.and_self, if_true]
  have hc : (tp_val xs).cells.toList = tp_cells xs := rfl
  have hm := tp_mapM (fun i => Program.keyLits Try.prog (Try.prog.types.size - 1 + 1) 3 (((tp_cells xs).drop i).take 1)) (tp_pad xs) (fun i hi => by
    have e : ((tp_cells xs).drop i).take 1 = [Value.int .i64 (tp_pad xs)[i]] := by
      rw [List.drop_eq_getElem_cons (by simpa [tp_cells] using hi)]
      simp [tp_cells]
    rw [e]
    simp only [Program.keyLits, Try.underlying3, tp_wf h _ (List.getElem_mem hi), and_self, if_true])
  rw [tp_pad_len h.1] at hm
  rw [hc, hsz]
  generalize Try.prog.types.size - 1 + 1 = d at hm ⊢
  simp only [Program.keyLits, Try.underlying67, hl, tp_cellsOf, tp_cellsOf3, if_true, Nat.mul_one]
  rw [hm]
  simp only [Option.map_some, tp_lit]
  congr 3
  induction tp_pad xs with
  | nil => rfl
  | cons a l ih => simp [ih]
theorem tp_islit {x : List Int} (h : tp_ok x) : WideAt.IsKeyLit (tp_lit x) := tp_keyed.key (tp_keyOf h)
theorem tp_lit_inj {x y : List Int} (hx : tp_ok x) (hy : tp_ok y) (hl : x.length = y.length) (e : tp_lit x = tp_lit y) : x = y := by
  have e1 := tp_keyOf hy
  rw [← e] at e1
  have e2 : tp_val x = tp_val y := tp_keyed.inj (tp_keyOf hx) e1
  unfold tp_val at e2
  injection e2 with e3
  have e4 : tp_cells x = tp_cells y := by simpa using e3
  unfold tp_cells at e4
  have e5 : tp_pad x = tp_pad y := (List.map_inj_right (fun a b hab => by injection hab)).1 e4
  exact tp_pad_inj hl e5
theorem tp_same {x y : List Int} (hx : tp_ok x) (hy : tp_ok y) (hl : x.length = y.length) : (tp_lit x).sameKey (tp_lit y) = decide (x = y) := by
  by_cases e : x = y
  · subst e
    rw [WideAt.sameKey_self (tp_islit hx)]; simp
  · rw [Maps.sameKey_ne (fun q => e (tp_lit_inj hx hy hl q))]; simp [e]
/-- The set of the pieces of n seconds. -/
def tp_set (L : List (List Int)) : DataW Unit := Maps.setOf (.lit (.bool true)) (L.map tp_lit)
def tp_all (n : Nat) (L : List (List Int)) : Prop := ∀ x ∈ L, tp_ok x ∧ x.length = n
theorem tp_lits {n : Nat} {L : List (List Int)} (h : tp_all n L) : ∀ k ∈ L.map tp_lit, WideAt.IsKeyLit k := by
  intro k hk
  obtain ⟨x, hx, rfl⟩ := List.mem_map.1 hk
  exact tp_islit (h x hx).1
theorem tp_any {n : Nat} {L : List (List Int)} (h : tp_all n L) {x : List Int} (hx : tp_ok x) (hl : x.length = n) : (L.map tp_lit).any (fun y => y.sameKey (tp_lit x)) = decide (x ∈ L) := by
  rw [List.any_map]
  have : ∀ L : List (List Int), tp_all n L → L.any ((fun y => y.sameKey (tp_lit x)) ∘ tp_lit) = decide (x ∈ L) := by
    intro L
    induction L with
    | nil => intro _; simp
    | cons a L ih =>
      intro ha
      have a1 := ha a (by simp)
      rw [List.any_cons, ih (fun y hy => ha y (by simp [hy]))]
      simp only [Function.comp, tp_same a1.1 hx (a1.2.trans hl.symm), List.mem_cons]
      by_cases e : x = a
      · subst e; simp
      · have e' : ¬ a = x := fun q => e q.symm
        simp [e, e']
  exact this L h
theorem tp_has {n : Nat} {L : List (List Int)} (h : tp_all n L) {x : List Int} (hx : tp_ok x) (hl : x.length = n) : Maps.has (tp_set L) (tp_lit x) = decide (x ∈ L) := by
  unfold tp_set
  rw [Maps.has_setOf _ _ _ (tp_lits h), tp_any h hx hl]
theorem tp_atKey_fold (u z : DataW Unit) (k : Lit) : ∀ (acc : List Lit) (m : DataW Unit), Maps.IsMap m → (∀ x ∈ acc, WideAt.IsKeyLit x) → (m.atKey k z = u ∨ Maps.has m k = false) → WideAt.IsKeyLit k →
    (acc.foldl (fun m x => m.put x u) m).atKey k z = if acc.any (fun x => x.sameKey k) = true then u else m.atKey k z := by
  intro acc
  induction acc with
  | nil => intro m _ _ _ _; simp
  | cons a acc ih =>
    intro m hm ha hu hk
    rw [List.foldl_cons, List.any_cons]
    by_cases e : a = k
    · subst e
      have e1 := Maps.atKey_put_same hm hk u z
      rw [ih _ (hm.put _ _) (fun x hx => ha x (by simp [hx])) (.inl e1) hk, e1, WideAt.sameKey_self hk]
      simp
    · have e1 := Maps.atKey_put_other (D := m) (k := a) (k' := k) (fun q => e q.symm) u z
      have e2 := Maps.has_put_other (D := m) (k := a) (k' := k) (fun q => e q.symm) u
      rw [ih _ (hm.put _ _) (fun x hx => ha x (by simp [hx])) (by rw [e1, e2]; exact hu) hk, e1, Maps.sameKey_ne e]
      simp
theorem tp_atKey {n : Nat} {L : List (List Int)} (h : tp_all n L) {x : List Int} (hx : tp_ok x) (hl : x.length = n) : (tp_set L).atKey (tp_lit x) (.lit (.bool false)) = .lit (.bool (decide (x ∈ L))) := by
  unfold tp_set Maps.setOf
  rw [tp_atKey_fold _ _ _ _ _ Maps.isMap_empty (tp_lits h) (.inr rfl) (tp_islit hx), tp_any h hx hl]
  by_cases e : x ∈ L
  · simp [e]
  · simp [e, DataW.atKey]
/-- The different pieces. -/
def tp_new (a : List (List Int)) (x : List Int) : List (List Int) := if x ∈ a then a else a ++ [x]
theorem tp_size {n : Nat} {L : List (List Int)} (h : tp_all n L) : Maps.size (tp_set L) = (L.foldl tp_new []).length := by
  unfold tp_set
  rw [Maps.size_setOf _ _ (tp_lits h)]
  have key : ∀ (L a : List (List Int)), tp_all n L → tp_all n a → (L.map tp_lit).foldl Maps.addKey (a.map tp_lit) = (L.foldl tp_new a).map tp_lit := by
    intro L
    induction L with
    | nil => intro a _ _; rfl
    | cons x L ih =>
      intro a hL ha
      have hx := hL x (by simp)
      rw [List.map_cons, List.foldl_cons, List.foldl_cons]
      have e : Maps.addKey (a.map tp_lit) (tp_lit x) = (tp_new a x).map tp_lit := by
        unfold Maps.addKey tp_new
        rw [tp_any ha hx.1 hx.2]
        by_cases e : x ∈ a <;> simp [e]
      rw [e]
      refine ih _ (fun y hy => hL y (by simp [hy])) ?_
      unfold tp_new
      split
      · exact ha
      · intro y hy
        rcases List.mem_append.1 hy with h1 | h1
        · exact ha y h1
        · rw [List.mem_singleton.1 h1]; exact hx
  have := key L [] h (by intro x hx; simp at hx)
  rw [show ([] : List (List Int)).map tp_lit = [] from rfl] at this
  rw [this, List.length_map]
def tone_pieces.row (l0 : List Int) (i : Nat) : Nat → Option (List Int)
  | 0 => some []
  | k + 1 => (tone_pieces.row l0 i k).bind fun xs => (tone_at.f l0 (wrap64 ((i : Int) + (k : Int)))).bind fun x => some (xs ++ [x])
def tone_pieces.rows (l0 : List Int) (n : Nat) : Nat → Option (List (List Int))
  | 0 => some []
  | m + 1 => (tone_pieces.rows l0 n m).bind fun L => (tone_pieces.row l0 m n).bind fun x => some (L ++ [x])
theorem row_len {l0 : List Int} {i : Nat} : ∀ {k : Nat} {xs : List Int}, tone_pieces.row l0 i k = some xs → xs.length = k := by
  intro k
  induction k with
  | zero => intro xs h; simp only [tone_pieces.row, Option.some.injEq] at h; subst h; rfl
  | succ k ih =>
    intro xs h
    simp only [tone_pieces.row, Option.bind_eq_some_iff] at h
    obtain ⟨ys, h1, x, h2, h3⟩ := h
    injection h3 with h3
    rw [← h3, List.length_append, ih h1]; rfl
theorem rows_len {l0 : List Int} {n : Nat} : ∀ {m : Nat} {L : List (List Int)}, tone_pieces.rows l0 n m = some L → L.length = m := by
  intro m
  induction m with
  | zero => intro L h; simp only [tone_pieces.rows, Option.some.injEq] at h; subst h; rfl
  | succ m ih =>
    intro L h
    simp only [tone_pieces.rows, Option.bind_eq_some_iff] at h
    obtain ⟨M, h1, x, h2, h3⟩ := h
    injection h3 with h3
    rw [← h3, List.length_append, ih h1]; rfl
theorem row_down {l0 : List Int} {i k : Nat} (d : Nat) : ∀ {n : Nat} {R : List Int}, n = k + d → tone_pieces.row l0 i n = some R → ∃ R', tone_pieces.row l0 i k = some R' := by
  induction d with
  | zero => intro n R e h; subst e; exact ⟨R, h⟩
  | succ d ih =>
    intro n R e h
    subst e
    rw [← Nat.add_assoc] at h
    simp only [tone_pieces.row, Option.bind_eq_some_iff] at h
    obtain ⟨ys, h1, _⟩ := h
    exact ih rfl h1
theorem rows_down {l0 : List Int} {n k : Nat} (d : Nat) : ∀ {m : Nat} {R : List (List Int)}, m = k + d → tone_pieces.rows l0 n m = some R → ∃ R', tone_pieces.rows l0 n k = some R' := by
  induction d with
  | zero => intro n R e h; subst e; exact ⟨R, h⟩
  | succ d ih =>
    intro m R e h
    subst e
    rw [← Nat.add_assoc] at h
    simp only [tone_pieces.rows, Option.bind_eq_some_iff] at h
    obtain ⟨ys, h1, _⟩ := h
    exact ih rfl h1
theorem rows_at {l0 : List Int} {n m i k : Nat} {R : List (List Int)} (h : tone_pieces.rows l0 n m = some R) (hi : i < m) (hk : k < n) : ∃ x, tone_at.f l0 (wrap64 ((i : Int) + (k : Int))) = some x := by
  obtain ⟨R1, h1⟩ := rows_down (k := i + 1) (m - (i + 1)) (by omega) h
  simp only [tone_pieces.rows, Option.bind_eq_some_iff] at h1
  obtain ⟨_, _, y, h2, _⟩ := h1
  obtain ⟨R2, h3⟩ := row_down (k := k + 1) (n - (k + 1)) (by omega) h2
  simp only [tone_pieces.row, Option.bind_eq_some_iff] at h3
  obtain ⟨_, _, x, h4, _⟩ := h3
  exact ⟨x, h4⟩
theorem at_bit {l0 : List Int} (hl : l0.all (fun x => x == 0 || x == 1) = true) {z x : Int} (h : tone_at.f l0 z = some x) : x = 0 ∨ x = 1 := by
  have key : ∀ j : Int, rd l0 j = 0 ∨ rd l0 j = 1 := by
    intro j
    unfold rd
    rw [List.getD_eq_getElem?_getD]
    cases e : l0[j.toNat]? with
    | none => exact .inl rfl
    | some y =>
      have := List.all_eq_true.1 hl y (List.mem_of_getElem? e)
      simpa using this
  unfold tone_at.f at h
  repeat' (split at h)
  all_goals first | (cases h; done) | (injection h with h; rw [← h]; exact key _)
theorem row_bits {l0 : List Int} (hl : l0.all (fun x => x == 0 || x == 1) = true) {i : Nat} : ∀ {k : Nat} {xs : List Int}, tone_pieces.row l0 i k = some xs → ∀ x ∈ xs, x = 0 ∨ x = 1 := by
  intro k
  induction k with
  | zero => intro xs h; simp only [tone_pieces.row, Option.some.injEq] at h; subst h; intro x hx; simp at hx
  | succ k ih =>
    intro xs h
    simp only [tone_pieces.row, Option.bind_eq_some_iff] at h
    obtain ⟨ys, h1, x, h2, h3⟩ := h
    injection h3 with h3
    subst h3
    intro y hy
    rcases List.mem_append.1 hy with h4 | h4
    · exact ih h1 y h4
    · rw [List.mem_singleton.1 h4]; exact at_bit hl h2
def tone_pieces.f (l0 : List Int) (a1 : Int) : Option (List (List Int)) := if l0.all (fun x => x == 0 || x == 1) = true then (if a1 ≤ 60 then (if l0.length ≤ 4096 then tone_pieces.rows l0 a1.toNat l0.length else none) else none) else none
theorem tp_cell_zero {xs : List Int} {k : Nat} (h : xs.length = k) (hk : k < 60) : (tp_cells xs).toArray[k]? = some (.int .i64 0) := by
  simp only [List.getElem?_toArray, tp_cells, List.getElem?_map]
  have e : (tp_pad xs)[k]? = some 0 := by
    unfold tp_pad
    rw [List.getElem?_append_right (by omega), List.getElem?_replicate, if_pos (by omega)]
  rw [e]; rfl
theorem tp_cell_set {xs : List Int} {k : Nat} (h : xs.length = k) (hk : k < 60) (x : Int) : (tp_cells xs).toArray.setIfInBounds k (.int .i64 x) = (tp_cells (xs ++ [x])).toArray := by
  rw [List.setIfInBounds_toArray]
  congr 1
  unfold tp_cells
  subst h
  rw [← tp_pad_set hk, List.map_set]
/-- Block b is the map of the pieces. -/
def tp_map (w : World) (n b : Nat) (L : List (List Int)) : Prop := tp_all n L ∧ w.ownsMap Try.prog 67 (plainElem Try.prog 4) b L.length (tp_set L)
theorem tp_map_of {w w' : World} {n b : Nat} {L : List (List Int)} (h : tp_map w n b L) (e : w'.heap[b]? = w.heap[b]?) : tp_map w' n b L := by
  obtain ⟨h1, es, clock, hb, rest⟩ := h
  exact ⟨h1, es, clock, e.trans hb, rest⟩
set_option maxHeartbeats 8000000 in
set_option maxRecDepth 100000 in
theorem tone_pieces.calls (A0 : Option Addr) (c0 : Nat) (l0 : List Int) (a1 : Int) (r : List (List Int)) (w : World) (hr0 : Kd.C (Kd.int .i64) w A0 l0.length l0) (hc0 : l0.length ≤ c0) (h : tone_pieces.f l0 a1 = some r) :
    Calls Try.prog 84 #[.slice A0 l0.length c0, .int .i64 a1] w fun e w' => ∃ b : Nat, e = .returned (.map (some b)) ∧ w.heap.size ≤ b ∧ tp_map w' a1.toNat b r ∧ Below w.heap.size w w' := by
  have HR0 := Aside0.mk hr0
  have HC0 := Aside0.mk hc0
  have HB := Aside0.mk (Below.refl w.heap.size w)
  clear hr0 hc0
  unfold tone_pieces.f at h
  by_cases c1 : l0.all (fun x => x == 0 || x == 1) = true
  · rw [if_pos c1] at h
    by_cases c2 : a1 ≤ 60
    · rw [if_pos c2] at h
      by_cases c20 : l0.length ≤ 4096
      case neg => rw [if_neg c20] at h; cases h
      rw [if_pos c20] at h
      have H := Aside0.mk h
      clear h
      have hmm := @run_makeMap Try.prog
      have HMAP : Aside0 (tp_map (w.alloc (.map #[] 0)) a1.toNat w.heap.size []) := ⟨fun x hx => by simp at hx, World.ownsMap_made w _ _ _⟩
      have HB1 := Aside0.mk (below_alloc (Below.refl w.heap.size w) (.map #[] 0))
      have HR1 := Aside0.mk (Kd.C_alloc HR0.out (.map #[] 0))
      clear HB
      go_enter Try.func84, Try.ntmps84
      go_wp2
      go_loopg [12] l0.length (fun kq v12 w' => ∃ (i : Nat) (L : List (List Int)), v12 = .int .i64 (i : Int) ∧ Aside0 (i + kq = l0.length) ∧ Aside0 (tone_pieces.rows l0 a1.toNat i = some L) ∧ Aside0 (tp_map w' a1.toNat w.heap.size L) ∧ Aside0 (Below w.heap.size w w'))
      case atStart => exact ⟨0, [], rfl, ⟨by omega⟩, ⟨rfl⟩, HMAP, HB1⟩
      case round =>
        clear HMAP HB1 HR1
        obtain ⟨i, L, rfl, HK, HL, HMAP, HB⟩ := hrel
        obtain ⟨wo, hwo⟩ : ∃ wo, wo = wr := ⟨_, rfl⟩
        subst hwo
        by_cases c3 : (i : Int) < (l0.length : Int)
        · have c3b0 : decide ((i : Int) < (l0.length : Int)) = true := decide_eq_true c3
          have HN := HL.out
          obtain ⟨q0, rfl⟩ : ∃ q, gk = q + 1 := ⟨gk - 1, by have := HK.out; omega⟩
          have ei0 : IntKind.i64.wrap ((i : Int) + 1) = ((i + 1 : Nat) : Int) := by simp only [i64_w]; unfold wrap64; omega
          go_wp2
          go_loopg [16] a1.toNat (fun kq v16 w2 => ∃ (k : Nat) (xs : List Int), v16 = .int .i64 (k : Int) ∧ Aside0 (k + kq = a1.toNat) ∧ Aside0 (tone_pieces.row l0 i k = some xs) ∧ Aside0 (w2.heap[wo.heap.size]? = some (.cells (tp_cells xs).toArray 67 (0, 0))) ∧ Aside0 (w2.heap[w.heap.size]? = wo.heap[w.heap.size]?) ∧ Aside0 (Below w.heap.size w w2))
          case atStart => exact ⟨0, [], rfl, ⟨by omega⟩, ⟨rfl⟩, ⟨(MapKept.heap_alloc _ _).1⟩, ⟨(MapKept.heap_alloc _ _).2 _ (by obtain ⟨_, es, cl, hb, _⟩ := HMAP.out; exact (Array.getElem?_eq_some_iff.1 hb).1)⟩, ⟨below_alloc HB.out _⟩⟩
          case round =>
            obtain ⟨k, xs, rfl, HK2, HX, HP, HM2, HB2⟩ := hrel
            by_cases c4 : (k : Int) < a1
            · have c4b0 : decide ((k : Int) < a1) = true := decide_eq_true c4
              obtain ⟨q1, rfl⟩ : ∃ q, gk = q + 1 := ⟨gk - 1, by have := HK2.out; omega⟩
              have ei : IntKind.i64.wrap ((k : Int) + 1) = ((k + 1 : Nat) : Int) := by simp only [i64_w]; unfold wrap64; omega
              obtain ⟨x, A7⟩ : ∃ x, tone_at.f l0 (wrap64 ((i : Int) + (k : Int))) = some x := rows_at H.out (by omega) (by omega)
              have e7 : wrap64 ((i : Int) + (k : Int)) = (i : Int) + (k : Int) := by unfold wrap64; omega
              have A8 := A7
              rw [e7] at A8
              have A7 := Aside0.mk A7
              have A8 := Aside0.mk A8
              have hkl : xs.length = k := row_len HX.out
              have hcz : wr.cell? ⟨wo.heap.size, k, none⟩ = some (.int .i64 0) := (blk_cell HP.out k).trans (tp_cell_zero hkl (by omega))
              have hfz : wr.frozen? ⟨wo.heap.size, k, none⟩ = false := blk_frozen HP.out k
              go_wp2_with (first | ((with_reducible refine gate_callee (f := 69) rfl ?_); refine goesL_ (some 24) rfl rfl Try.func69 (by kernel_rfl) rfl #[.slice A0 l0.length c0, .int .i64 ((i : Int) + (k : Int))] rfl (by (try simp only [List.map_toArray, List.map_cons, List.map_nil]); first | done | rfl) ?_; (with_reducible refine (tone_at.calls _ _ l0 _ x _ ?side1 ?side2 A8.out).mono ?_); (case side1 => repeat (first | exact (Kd.C_below HR0.out HB2.out) | (with_reducible refine Kd.C_alloc ?_ _) | (with_reducible refine Kd.C_drewN ?_ _) | (with_reducible refine Kd.C_drew ?_))); (case side2 => exact HC0.out); rintro e w' ⟨rfl, ⟨nd, rfl⟩⟩; refine ⟨_, rfl, ?_⟩))
              have hglt : w.heap.size < wo.heap.size := by obtain ⟨_, es, cl, hb, _⟩ := HMAP.out; exact (Array.getElem?_eq_some_iff.1 hb).1
              have hgne : w.heap.size ≠ wo.heap.size := by omega
              have hgle : w.heap.size ≤ wo.heap.size := by omega
              go_roundg q1
              case measure => omega
              case rel =>
                refine ⟨k + 1, xs ++ [x], (by first | rfl | (simp; done) | (simp [*]; done)), ⟨by have := HK2.out; omega⟩, ⟨by simp only [tone_pieces.row, HX.out, Option.bind_some, A7.out]⟩, ⟨?_⟩, ⟨?_⟩, ⟨?_⟩⟩
                · refine blk_put (cs := (tp_cells xs).toArray) (blk_drewN HP.out _) k _ (tp_cell_set hkl (by omega) x)
                · exact (Below.heap_setCell _ _ _ _ hgne).trans HM2.out
                · exact below_set (pw_below_drewN HB2.out nd) hgle
            · have c4b0 : decide ((k : Int) < a1) = false := decide_eq_false c4
              have hkn : k = a1.toNat := by have := HK2.out; omega
              have hsz : (Try.prog.info? 67).map (·.size) = some (tp_cells xs).toArray.size := by
                rw [List.size_toArray, tp_cells_len (by rw [row_len HX.out]; omega)]; kernel_rfl
              have hok : tp_ok xs := ⟨by rw [row_len HX.out]; omega, fun x hx => by rcases row_bits c1 HX.out x hx with e | e <;> (subst e; decide)⟩
              have hown : wr.ownsMap Try.prog 67 (plainElem Try.prog 4) w.heap.size L.length (tp_set L) := (tp_map_of HMAP.out HM2.out).2
              have hLl : L.length < maxLen := by
                have e := rows_len HL.out
                have : (4096 : Nat) < maxLen := by decide
                omega
              go_wp2_with (first | (with_reducible refine wpList_load_row rfl 67 (.tmp 7) rfl wo.heap.size rfl 67 (tp_cells xs).toArray (0, 0) _ HP.out Try.underlying67 rfl hsz ?_) | (at_mapUpdate; refine wpList_mapUpdate_own _ rfl _ _ _ 61 rfl 67 4 tp_keyed Try.underlying61 _ w.heap.size L.length (tp_set L) rfl hown hLl _ _ (tp_lit xs) rfl rfl (tp_keyOf hok) (.lit (.bool true)) [] (plainElem_bool Try.underlying4 true) ?_; intro w1 hown1 hgrow1))
              go_roundg q0
              case measure => omega
              case rel =>
                refine ⟨i + 1, L ++ [xs], (by first | rfl | (simp; done) | (simp [*]; done)), ⟨by have := HK.out; omega⟩, ⟨?_⟩, ⟨?_⟩, ⟨?_⟩⟩
                · simp only [tone_pieces.rows, HL.out, Option.bind_some]
                  rw [← hkn, HX.out]; rfl
                · refine ⟨?_, ?_⟩
                  · intro y hy
                    rcases List.mem_append.1 hy with h1 | h1
                    · exact HMAP.out.1 y h1
                    · rw [List.mem_singleton.1 h1]
                      exact ⟨hok, by rw [row_len HX.out]; exact hkn⟩
                  · rw [List.length_append, show tp_set (L ++ [xs]) = (tp_set L).put (tp_lit xs) (.lit (.bool true)) by unfold tp_set; rw [List.map_append]; exact Maps.setOf_snoc _ _ _]
                    exact hown1
                · exact HB2.out.grown hgrow1 (by have := below_size HB2.out; omega) (fun j hj => by injection hj with hj; omega)
        · have c3b0 : decide ((i : Int) < (l0.length : Int)) = false := decide_eq_false c3
          obtain rfl : i = l0.length := by have := HK.out; omega
          have e1 : L = r := Option.some.inj (HL.out.symm.trans H.out)
          subst e1
          go_wp2
          go_ret
          exact ⟨_, rfl, Nat.le_refl _, HMAP.out, HB.out⟩
    · rw [if_neg c2] at h; cases h
  · rw [if_neg c1] at h; cases h


end Go.Proofs.Ytmpmfjnmfgnhcaa.P
