-- laid by a program of this session (wip/tools): plain functions of the Go code and their contracts
import Derived.Shelf.Spec.SlicesInsert
import Derived.Shelf.Spec.SlicesInsertGrow
import Derived.Test.YtcbepmdnhjojdaaPx0
import Derived.Test.YtcbepmdnhjojdaaPx2
import Derived.Test.YtcbepmdnhjojdaaPx4
import Derived.Test.YtcbepmdnhjojdaaPx9
namespace Go.Proofs.Ytcbepmdnhjojdaa.P
open Go.RowKit Go.Proofs.YtcbepmdnhjojdaaW.PrintWords Go.Proofs.YtcbepmdnhjojdaaW.PrintLast Go.Proofs.YtcbepmdnhjojdaaW.PrintMore
attribute [local go_sem] max2_int min2_int max_two min_two max_three min_three max_four min_four   -- for this text's walks alone
set_option linter.unusedVariables false
set_option linter.unusedSimpArgs false

/-! ### slices.Insert: the library's own contracts, laid at this program -/
def log_ren : Shelf.Ren := ⟨fun x => if x = 21 then 85 else if x = 27 then 88 else if x = 28 then 89 else if x = 35 then 90 else if x = 39 then 73 else x, fun x => x, fun x => x⟩
theorem log_lays : Lays2.n21 Try.prog log_ren where
  mixed := by kernel_rfl
  f21 := by kernel_rfl
  f27 := by kernel_rfl
  f28 := by kernel_rfl
  f35 := by kernel_rfl
  f39 := by kernel_rfl
  t0 := by kernel_rfl
  a0 := fun w => by kernel_rfl
  z0 := fun w => by kernel_rfl
  v0 := fun w => by kernel_rfl
  t3 := by kernel_rfl
  a3 := fun w => by kernel_rfl
  z3 := fun w => by kernel_rfl
  v3 := fun w => by kernel_rfl
  t4 := by kernel_rfl
  a4 := fun w => by kernel_rfl
  z4 := fun w => by kernel_rfl
  v4 := fun w => by kernel_rfl
  t22 := by kernel_rfl
  a22 := fun w => by kernel_rfl
  z22 := fun w => by kernel_rfl
  v22 := fun w => by kernel_rfl
  i3 := by kernel_rfl
theorem log_put (g : Nat) (t : TypeId) : ∀ (vs : List Value) (o : Nat) (w : World) (cur : Array Value), w.heap[g]? = some (.cells cur t (0, 0)) → ∃ cur', (w.setCells g o vs).heap[g]? = some (.cells cur' t (0, 0)) ∧ cur'.size = cur.size ∧ ∀ j, j < cur.size → cur'[j]? = if o ≤ j ∧ j < o + vs.length then vs[j - o]? else cur[j]?
  | [], o, w, cur, h => ⟨cur, h, rfl, fun j _ => by rw [if_neg (by simp only [List.length_nil]; omega)]⟩
  | v :: r, o, w, cur, h => by
    obtain ⟨cur', h1, h2, h3⟩ := log_put g t r (o + 1) (w.setCell ⟨g, o, none⟩ v) (cur.setIfInBounds o v) (blk_put h o v rfl)
    refine ⟨cur', h1, by rw [h2]; simp, fun j hj => ?_⟩
    rw [h3 j (by simpa using hj), Array.getElem?_setIfInBounds]
    by_cases e : j = o
    · subst e
      rw [if_neg (by omega), if_pos rfl, if_pos hj, if_pos ⟨Nat.le_refl _, by simp⟩, Nat.sub_self, List.getElem?_cons_zero]
    · by_cases c : o + 1 ≤ j ∧ j < o + 1 + r.length
      · rw [if_pos c, if_pos (by simp; omega), show j - o = (j - (o + 1)) + 1 by omega, List.getElem?_cons_succ]
      · rw [if_neg c, if_neg (Ne.symm e), if_neg (by simp; omega)]
theorem log_below_sets {w : World} {g : Nat} (hg : w.heap.size ≤ g) : ∀ (vs : List Value) (o : Nat) (W : World), Below w.heap.size w W → Below w.heap.size w (W.setCells g o vs)
  | [], _, _, h => h
  | v :: r, o, W, h => log_below_sets hg r (o + 1) _ (below_set h hg)
theorem log_ins_row {w w' : World} {g cap i : Nat} {x : Int} {xs : List Int} {cur' : Array Value} (hi : i ≤ xs.length) (hb : w.heap.size ≤ g) (hg : w'.heap[g]? = some (.cells cur' 3 (0, 0))) (hc : xs.length + 1 ≤ cap) (hm : cap ≤ maxLen) (hs : cur'.size = cap)
    (hj : ∀ j, j < xs.length + 1 → cur'[j]? = if j < i then (encs (Value.int .i64) xs)[j]? else if j = i then some (.int .i64 x) else (encs (Value.int .i64) xs)[j - 1]?) : Kd.R (Kd.int .i64) 3 w' w.heap.size (fun _ => True) (.slice (some ⟨g, 0, none⟩) (xs.length + 1) cap) (xs.take i ++ x :: xs.drop i) := by
  have hlen : (xs.take i ++ x :: xs.drop i).length = xs.length + 1 := by simp; omega
  refine Kd.R_of_own (enc := Value.int .i64) (h1 := fun _ => rfl) ?_ (fun _ _ => trivial)
  rw [hlen]
  refine ⟨by rw [encs_length, hlen]; omega, .inr ⟨g, cap, cur', rfl, hb, hg, hc, hm, by omega, ?_⟩⟩
  rw [Nat.mul_one]
  refine List.ext_getElem? (fun j => ?_)
  rw [List.getElem?_take]
  by_cases c : j < xs.length + 1
  · rw [if_pos c, Array.getElem?_toList, hj j c]
    unfold encs
    rw [List.getElem?_map, List.getElem?_map, List.getElem?_map, List.getElem?_append, List.length_take, Nat.min_eq_left hi]
    by_cases c1 : j < i
    · rw [if_pos c1, if_pos c1, List.getElem?_take, if_pos c1]
    · rw [if_neg c1, if_neg c1]
      by_cases c2 : j = i
      · subst c2; rw [if_pos rfl, Nat.sub_self]; rfl
      · rw [if_neg c2, show j - i = (j - i - 1) + 1 by omega, List.getElem?_cons_succ, List.getElem?_drop, show i + (j - i - 1) = j - 1 by omega]
  · rw [if_neg c, List.getElem?_eq_none (by rw [encs_length, hlen]; omega)]
theorem log_ins (w W : World) (ok : Nat → Prop) (v : Value) (xs : List Int) (i : Nat) (x : Int) (vb vc : Nat) (tv : TypeId) (HO : Kd.R (Kd.int .i64) 3 W w.heap.size ok v xs) (HB : Below w.heap.size w W) (hi : i ≤ xs.length) (hl : xs.length ≤ 1000) (hv : W.heap[vb]? = some (.cells #[.int .i64 x] tv (0, 0))) (hne : some vb ≠ v.ownBlock) :
    Calls Try.prog 85 #[v, .int .i64 (i : Int), .slice (some ⟨vb, 0, none⟩) 1 vc] W fun e w' => ∃ v1 : Value, e = .returned v1 ∧ Kd.R (Kd.int .i64) 3 w' w.heap.size (fun _ => True) v1 (xs.take i ++ x :: xs.drop i) ∧ Below w.heap.size w w' := by
  have ho := Kd.own_of_R (enc := Value.int .i64) (h1 := fun _ => rfl) HO
  have hsz : w.heap.size ≤ W.heap.size := below_size HB
  have hvs : ∀ (j : Nat) (u : Value), [Value.int .i64 x][j]? = some u → W.cell? ⟨vb, 0 + j, none⟩ = some u := by
    intro j u hu
    rw [Nat.zero_add, blk_cell hv j]
    cases j with
    | zero => simpa using hu
    | succ j => simp at hu
  have h1v : ∀ u ∈ [Value.int .i64 x], u.oneCell' = true := by intro u hu; rw [List.mem_singleton.1 hu]; rfl
  have hmax : (1001 : Nat) ≤ maxLen := by decide
  have hm63 : maxLen ≤ 9223372036854775807 := by decide
  have hone : (Value.int .i64 0).cells.size = 1 := rfl
  have hel : (encs (Value.int .i64) xs).length = xs.length := encs_length xs
  have h1c : ∀ u ∈ encs (Value.int .i64) xs, u.oneCell' = true := by
    intro u hu
    obtain ⟨y, _, rfl⟩ := List.mem_map.1 hu
    rfl
  obtain ⟨hlen, hc | ⟨g, cap, cur, rfl, hbg, hg, hnc, hcm, hcs, hin⟩⟩ := ho
  · obtain ⟨rfl, hn⟩ := hc
    obtain rfl : xs = [] := List.eq_nil_of_length_eq_zero hn
    obtain rfl : i = 0 := by simpa using hi
    refine (Any2.slices_Insert_int_end_grow (P := Try.prog) (ρ := log_ren) log_lays none 0 0 vb 0 1 vc [] [.int .i64 x] W (by omega) (by omega) (by omega) (by omega) rfl rfl (fun _ => rfl) (fun a h => by cases h) hvs h1v).mono ?_
    rintro e w' ⟨rfl, rfl⟩
    refine ⟨_, rfl, ?_, below_alloc (below_drew HB) _⟩
    have hsize := size_zeroCells (Value.int .i64 0).cells (grownCap W (0 + 1) 0 (log_ren.t 3) - (0 + 1))
    have hge := grownCap_ge W (0 + 1) 0 (log_ren.t 3)
    refine log_ins_row (xs := []) (i := 0) (Nat.le_refl _) hsz (blk_new W.drew _) hge (grownCap_le_maxLen _ _ _ _ (by omega)) ?_ ?_
    · rw [Array.size_append, hsize, hone, List.size_toArray]; simp only [List.length_append, List.length_nil, List.length_cons]; omega
    · intro j hj
      obtain rfl : j = 0 := by simpa using hj
      rw [Array.getElem?_append_left (by simp)]; rfl
  · rw [Nat.mul_one] at hcs hin hlen
    have h63 : cap ≤ 9223372036854775807 := by omega
    have hget : ∀ j, j < xs.length → cur[j]? = (encs (Value.int .i64) xs)[j]? := by
      intro j hj
      rw [← hin, List.getElem?_take, if_pos hj, Array.getElem?_toList]
    have hcell : ∀ (j : Nat) (u : Value), (encs (Value.int .i64) xs)[j]? = some u → W.cell? ⟨g, 0 + j, none⟩ = some u := by
      intro j u hu
      have hj : j < xs.length := by obtain ⟨h, _⟩ := List.getElem?_eq_some_iff.1 hu; omega
      rw [Nat.zero_add, blk_cell hg j, hget j hj, hu]
    have hsome : ∀ j, j < cap → (W.cell? ⟨g, 0 + j, none⟩).isSome = true := by
      intro j hj
      rw [Nat.zero_add, blk_cell hg j]
      simp; omega
    by_cases room : xs.length + 1 ≤ cap
    · by_cases he : i = xs.length
      · subst he
        refine (Any2.slices_Insert_int_end_room (P := Try.prog) (ρ := log_ren) log_lays g 0 xs.length cap vb 0 1 vc [.int .i64 x] W (by omega) room h63 rfl (fun j hj => by rw [show 0 + xs.length + j = 0 + (xs.length + j) by omega]; exact hsome _ (by omega)) (fun j _ => blk_frozen hg _) hvs h1v).mono ?_
        rintro e w' ⟨rfl, rfl⟩
        refine ⟨_, rfl, ?_, log_below_sets hbg _ _ _ HB⟩
        obtain ⟨cur', q1, q2, q3⟩ := log_put g 3 [.int .i64 x] (0 + xs.length) W cur hg
        refine log_ins_row (Nat.le_refl _) hbg q1 room hcm (by omega) (fun j hj => ?_)
        rw [q3 j (by omega)]
        by_cases c : j < xs.length
        · rw [if_neg (by simp; omega), if_pos c, hget j c]
        · obtain rfl : j = xs.length := by omega
          rw [if_pos (by simp), if_neg c, if_pos rfl]; simp
      · refine (Any2.slices_Insert_int_shift (P := Try.prog) (ρ := log_ren) log_lays g 0 xs.length cap i vb 0 1 vc (encs (Value.int .i64) xs) [.int .i64 x] W (by omega) (by omega) room h63 (fun e => hne (by rw [e]; rfl)) hel rfl hcell (fun j hj => hsome j (by omega)) (fun j _ => blk_frozen hg _) hvs h1c h1v tv 3 1 cap (by unfold World.shape?; rw [hv]; rfl) (by unfold World.shape?; rw [hg]; simp [hcs]) (by omega) (blk_frozen hv _) (blk_frozen hv _)).mono ?_
        rintro e w' ⟨rfl, rfl⟩
        refine ⟨_, rfl, ?_, log_below_sets hbg _ _ _ (log_below_sets hbg _ _ _ (below_drew HB))⟩
        obtain ⟨cur1, p1, p2, p3⟩ := log_put g 3 ((encs (Value.int .i64) xs).drop i) (0 + (i + 1)) W.drew cur hg
        obtain ⟨cur', q1, q2, q3⟩ := log_put g 3 [.int .i64 x] (0 + i) _ cur1 p1
        refine log_ins_row hi hbg q1 room hcm (by omega) (fun j hj => ?_)
        rw [q3 j (by omega), p3 j (by omega)]
        have hd : ((encs (Value.int .i64) xs).drop i).length = xs.length - i := by rw [List.length_drop, hel]
        by_cases c : j < i
        · rw [if_neg (by simp; omega), if_neg (by rw [hd]; omega), if_pos c, hget j (by omega)]
        · by_cases c2 : j = i
          · subst c2; rw [if_pos (by simp), if_neg c, if_pos rfl]; simp
          · rw [if_neg (by simp; omega), if_pos (by rw [hd]; omega), if_neg c, if_neg c2, List.getElem?_drop, show i + (j - (0 + (i + 1))) = j - 1 by omega]
    · have hbw : g < W.heap.size := blk_lt hg
      have hge := grownCap_ge W (xs.length + 1) cap (log_ren.t 3)
      have hle := grownCap_le_maxLen W (xs.length + 1) cap (log_ren.t 3) (by omega)
      have hsize := size_zeroCells (Value.int .i64 0).cells (grownCap W (xs.length + 1) cap (log_ren.t 3) - (xs.length + 1))
      by_cases he : i = xs.length
      · subst he
        refine (Any2.slices_Insert_int_end_grow (P := Try.prog) (ρ := log_ren) log_lays (some ⟨g, 0, none⟩) xs.length cap vb 0 1 vc (encs (Value.int .i64) xs) [.int .i64 x] W (by omega) hnc (by omega) (by omega) hel rfl (fun h => by cases h) (fun a ha j u hu => by obtain rfl := Option.some.inj ha; rw [Addr.add_lit]; exact hcell j u hu) hvs h1v).mono ?_
        rintro e w' ⟨rfl, rfl⟩
        refine ⟨_, rfl, ?_, below_alloc (below_drew HB) _⟩
        refine log_ins_row (Nat.le_refl _) hsz (blk_new W.drew _) hge hle ?_ (fun j hj => ?_)
        · rw [Array.size_append, hsize, hone]; simp [hel]; omega
        · rw [Array.getElem?_append_left (by simp [hel]; omega)]
          simp only [List.getElem?_toArray]
          by_cases c : j < xs.length
          · rw [if_pos c, List.getElem?_append_left (by omega)]
          · obtain rfl : j = xs.length := by omega
            rw [if_neg c, if_pos rfl, List.getElem?_append_right (by omega), hel, Nat.sub_self]; rfl
      · refine (Any2.slices_Insert_int_grow (P := Try.prog) (ρ := log_ren) log_lays g 0 xs.length cap i vb 0 1 vc (encs (Value.int .i64) xs) [.int .i64 x] W (by omega) (by omega) hnc (by omega) (by omega) hel rfl hcell hvs h1c h1v).mono ?_
        rintro e w' ⟨rfl, rfl⟩
        refine ⟨_, rfl, ?_, log_below_sets hsz _ _ _ (below_drew (log_below_sets hsz _ _ _ (below_drew (below_alloc HB _))))⟩
        have hsize2 := size_zeroCells (Value.int .i64 0).cells (xs.length + 1 - i)
        have ht : ((encs (Value.int .i64) xs).take i).length = i := by rw [List.length_take, hel]; omega
        have hd : ((encs (Value.int .i64) xs).drop i).length = xs.length - i := by rw [List.length_drop, hel]
        have h0 := blk_new W (.cells (((encs (Value.int .i64) xs).take i).toArray ++ Builtin.zeroCells (Value.int .i64 0).cells (xs.length + 1 - i) ++ Builtin.zeroCells (Value.int .i64 0).cells (grownCap W (xs.length + 1) cap (log_ren.t 3) - (xs.length + 1))) (log_ren.t 3))
        have hcs0 : (((encs (Value.int .i64) xs).take i).toArray ++ Builtin.zeroCells (Value.int .i64 0).cells (xs.length + 1 - i) ++ Builtin.zeroCells (Value.int .i64 0).cells (grownCap W (xs.length + 1) cap (log_ren.t 3) - (xs.length + 1))).size = grownCap W (xs.length + 1) cap (log_ren.t 3) := by
          rw [Array.size_append, Array.size_append, hsize, hsize2, hone, List.size_toArray, ht]; omega
        have hg0 : ∀ j, j < i → (((encs (Value.int .i64) xs).take i).toArray ++ Builtin.zeroCells (Value.int .i64 0).cells (xs.length + 1 - i) ++ Builtin.zeroCells (Value.int .i64 0).cells (grownCap W (xs.length + 1) cap (log_ren.t 3) - (xs.length + 1)))[j]? = (encs (Value.int .i64) xs)[j]? := by
          intro j hj
          rw [Array.getElem?_append_left (by rw [Array.size_append, List.size_toArray, ht]; omega), Array.getElem?_append_left (by rw [List.size_toArray, ht]; omega), List.getElem?_toArray, List.getElem?_take, if_pos hj]
        generalize (((encs (Value.int .i64) xs).take i).toArray ++ Builtin.zeroCells (Value.int .i64 0).cells (xs.length + 1 - i) ++ Builtin.zeroCells (Value.int .i64 0).cells (grownCap W (xs.length + 1) cap (log_ren.t 3) - (xs.length + 1))) = cur0 at h0 hcs0 hg0 ⊢
        obtain ⟨cur1, p1, p2, p3⟩ := log_put W.heap.size 3 [.int .i64 x] i (W.alloc (.cells cur0 (log_ren.t 3))).drew cur0 h0
        obtain ⟨cur', q1, q2, q3⟩ := log_put W.heap.size 3 ((encs (Value.int .i64) xs).drop i) (i + 1) ((W.alloc (.cells cur0 (log_ren.t 3))).drew.setCells W.heap.size i [.int .i64 x]).drew cur1 p1
        refine log_ins_row hi hsz q1 hge hle (by omega) (fun j hj => ?_)
        rw [q3 j (by omega), p3 j (by omega), hd]
        by_cases c : j < i
        · rw [if_neg (by omega), if_neg (by simp; omega), if_pos c, hg0 j c]
        · by_cases c2 : j = i
          · subst c2; rw [if_neg (by omega), if_pos (by simp), if_neg c, if_pos rfl, Nat.sub_self]; rfl
          · rw [if_pos (by omega), if_neg c, if_neg c2, List.getElem?_drop, show i + (j - (i + 1)) = j - 1 by omega]
theorem log_ins' (w W : World) (ok : Nat → Prop) (v : Value) (xs : List Int) (i : Int) (x : Int) (vb vc : Nat) (tv : TypeId) (HO : Kd.R (Kd.int .i64) 3 W w.heap.size ok v xs) (HB : Below w.heap.size w W) (h0 : 0 ≤ i) (hi : i ≤ (xs.length : Int)) (hl : xs.length ≤ 1000) (hv : W.heap[vb]? = some (.cells #[.int .i64 x] tv (0, 0))) (hne : some vb ≠ v.ownBlock) :
    Calls Try.prog 85 #[v, .int .i64 i, .slice (some ⟨vb, 0, none⟩) 1 vc] W fun e w' => ∃ v1 : Value, e = .returned v1 ∧ Kd.R (Kd.int .i64) 3 w' w.heap.size (fun _ => True) v1 (xs.take i.toNat ++ x :: xs.drop i.toNat) ∧ Below w.heap.size w w' := by
  have h := log_ins w W ok v xs i.toNat x vb vc tv HO HB (by omega) hl hv hne
  rwa [show ((i.toNat : Nat) : Int) = i by omega] at h
/-! ### log_Insert: function 53 -/
def log_Insert.j0 : Nat → List Int → Int → Int → Bool → Option (List Int × Int)
  | 0, _, _, _, _ => none
  | k + 1, x0, x1, x2, x23 => if x23 = true then (some (([] : List Int), 1)) else (if (x0.length : Int) = 10 then (some (([] : List Int), 3)) else ((slices_Clone_int_int.f x0).bind fun t104 => (if 0 ≤ x1 ∧ x1 ≤ (t104.length : Int) ∧ t104.length ≤ 1000 then (some ((t104.take x1.toNat ++ x2 :: t104.drop x1.toNat), 0)) else (none))))
def log_Insert.f (k : Nat) (l0 : List Int) (a1 : Int) (a2 : Int) : Option (List Int × Int) := (log_Validate.f k l0).bind fun t101 => (if t101 = 0 then ((log_within.f a1 0 (l0.length : Int)).bind fun t102 => (if t102 = true then ((log_within.f a2 0 5).bind fun t103 => (log_Insert.j0 k l0 a1 a2 (!t103))) else (log_Insert.j0 k l0 a1 a2 true))) else (some (([] : List Int), t101)))
theorem log_Insert.mono_l : ∀ k, (∀ y0 y1 y2 y3, LeO (log_Insert.j0 k y0 y1 y2 y3) (log_Insert.j0 (k + 1) y0 y1 y2 y3))
  | 0 => fun _ _ _ _ r h => by simp [log_Insert.j0] at h
  | k + 1 => by
    have ih0 := log_Insert.mono_l k
    · intro y0 y1 y2 y3
      unfold log_Insert.j0
      repeat' first
      | (with_reducible exact ih0 _ _ _ _)
      | (with_reducible exact log_Validate.mono _ _)
      | (with_reducible exact LeO.refl _)
      | (with_reducible exact LeO.none _)
      | (with_reducible refine LeO.ite ?_ ?_)
      | (with_reducible refine LeO.bind ?_ (fun _ => ?_))
      | exact ih0 _ _ _ _
      | exact log_Validate.mono _ _
      | exact LeO.none _
      | refine LeO.ite ?_ ?_
      | refine LeO.bind ?_ (fun _ => ?_)
theorem log_Insert.mono : ∀ a0 a1 a2 k, LeO (log_Insert.f k a0 a1 a2) (log_Insert.f (k + 1) a0 a1 a2) := by
  intro a0 a1 a2 k
  have ih0 := log_Insert.mono_l k
  unfold log_Insert.f
  repeat' first
      | (with_reducible exact ih0 _ _ _ _)
      | (with_reducible exact log_Validate.mono _ _)
      | (with_reducible exact LeO.refl _)
      | (with_reducible exact LeO.none _)
      | (with_reducible refine LeO.ite ?_ ?_)
      | (with_reducible refine LeO.bind ?_ (fun _ => ?_))
      | exact ih0 _ _ _ _
      | exact log_Validate.mono _ _
      | exact LeO.none _
      | refine LeO.ite ?_ ?_
      | refine LeO.bind ?_ (fun _ => ?_)
set_option maxHeartbeats 8000000 in
set_option maxRecDepth 100000 in
theorem log_Insert.calls (k : Nat) (A0 : Option Addr) (c0 : Nat) (l0 : List Int) (a1 : Int) (a2 : Int) (r1 : List Int) (r2 : Int) (w : World) (hr0 : Kd.C (Kd.int .i64) w A0 l0.length l0) (hc0 : l0.length ≤ c0) (h : log_Insert.f k l0 a1 a2 = some (r1, r2)) :
    Calls Try.prog 53 #[.slice A0 l0.length c0, .int .i64 a1, .int .i64 a2] w fun e w' => ∃ v0_ : Value, e = .returned (.tuple #[v0_, .int .i64 r2]) ∧ Kd.R (Kd.int .i64) 3 w' w.heap.size (fun _ => True) v0_ r1 ∧ Below w.heap.size w w' := by
  have HR0 := Aside0.mk hr0
  have HC0 := Aside0.mk hc0
  clear hr0 hc0
  have HB := Aside0.mk (Below.refl w.heap.size w)
  have H : ((log_Validate.f k l0).bind fun t101 => (if t101 = 0 then ((log_within.f a1 0 (l0.length : Int)).bind fun t102 => (if t102 = true then ((log_within.f a2 0 5).bind fun t103 => (log_Insert.j0 k l0 a1 a2 (!t103))) else (log_Insert.j0 k l0 a1 a2 true))) else (some (([] : List Int), t101)))) = some (r1, r2) := h
  clear h
  replace H := Option.bind_eq_some_iff.mp H
  obtain ⟨t101, A40, H⟩ := H
  replace H : (if t101 = 0 then ((log_within.f a1 0 (l0.length : Int)).bind fun t102 => (if t102 = true then ((log_within.f a2 0 5).bind fun t103 => (log_Insert.j0 k l0 a1 a2 (!t103))) else (log_Insert.j0 k l0 a1 a2 true))) else (some (([] : List Int), t101))) = some (r1, r2) := H
  have A4 := Aside0.mk A40
  clear A40
  by_cases c5 : t101 = 0
  · rw [if_pos c5] at H
    have c5b0 : (t101 == 0) = true := beq_iff_eq.mpr c5
    have c5b1 : (t101 != 0) = false := bne_eq_false_iff_eq.mpr c5
    clear c5
    have HC6 := Aside0.mk H
    clear H
    go_enter Try.func53, Try.ntmps53
    go_upto_region 4 with (first | ((with_reducible refine gate_callee (f := 31) rfl ?_); refine goesL_ (some 10) rfl rfl Try.func31 (by kernel_rfl) rfl #[.slice A0 l0.length c0] rfl (by (try simp only [List.map_toArray, List.map_cons, List.map_nil]); first | done | rfl | (simp only [List.length_drop, List.length_take]; rfl)) ?_; (with_reducible refine (log_Validate.calls k _ _ l0 t101 _ ?side1 ?side2 A4.out).mono ?_); (case side1 => repeat (first | exact HR0.out | (with_reducible refine Kd.C_alloc ?_ _) | (with_reducible refine Kd.C_drewN ?_ _) | (with_reducible refine Kd.C_drew ?_))); (case side2 => exact HC0.out); rintro e w' ⟨rfl, ⟨nd, rfl⟩⟩; refine ⟨_, rfl, ?_⟩))
    (try simp only [Act.put, List.setIfInBounds_toArray, List.set_cons_zero, List.set_cons_succ])
    go_cut [23] (fun v23 wc => ∃ (kq : Nat) (x23_5 : Bool), v23 = .bool x23_5 ∧ Aside0 (log_Insert.j0 kq l0 a1 a2 x23_5 = some (r1, r2)) ∧ Aside0 (kq ≤ k) ∧ Aside0 (Below w.heap.size w wc))
    case first =>
      have H := HC6.out
      clear HC6
      replace H := Option.bind_eq_some_iff.mp H
      obtain ⟨t102, A70, H⟩ := H
      replace H : (if t102 = true then ((log_within.f a2 0 5).bind fun t103 => (log_Insert.j0 k l0 a1 a2 (!t103))) else (log_Insert.j0 k l0 a1 a2 true)) = some (r1, r2) := H
      have A7 := Aside0.mk A70
      clear A70
      by_cases c8 : t102 = true
      · subst c8
        have H1 : ((log_within.f a2 0 5).bind fun t103 => (log_Insert.j0 k l0 a1 a2 (!t103))) = some (r1, r2) := by rw [if_pos rfl] at H; exact H
        clear H
        have H := H1
        clear H1
        replace H := Option.bind_eq_some_iff.mp H
        obtain ⟨t103, A90, H⟩ := H
        replace H : (log_Insert.j0 k l0 a1 a2 (!t103)) = some (r1, r2) := H
        have A9 := Aside0.mk A90
        clear A90
        have H' := Aside0.mk H
        clear H
        go_wp2_with (first | ((with_reducible refine gate_callee (f := 66) rfl ?_); refine goesL_ (some 17) rfl rfl Try.func66 (by kernel_rfl) rfl #[.int .i64 a1, .int .i64 0, .int .i64 (l0.length : Int)] rfl (by (try simp only [List.map_toArray, List.map_cons, List.map_nil]); first | done | rfl | (simp only [List.length_drop, List.length_take]; rfl)) ?_; (with_reducible refine (log_within.calls a1 0 (l0.length : Int) true _ A7.out).mono ?_); rintro e w' ⟨rfl, ⟨nd, rfl⟩⟩; refine ⟨_, rfl, ?_⟩) | (go_at_call 66; (with_reducible refine (log_within.calls a2 0 5 t103 _ A9.out).mono ?_); rintro e w' ⟨rfl, ⟨nd, rfl⟩⟩))
        go_meet
        case rel => exact ⟨_, (!t103), (by first | rfl | (simp; done) | (simp [*]; done)), H', ⟨by first | omega | exact Nat.le_refl _⟩, ⟨by repeat (first | (with_reducible first | exact HB.out | apply below_alloc | apply pw_below_drewN | apply below_drew1) | exact HB.out)⟩⟩
      · replace c8 := Bool.eq_false_iff.mpr c8
        subst c8
        have H1 : (log_Insert.j0 k l0 a1 a2 true) = some (r1, r2) := by rw [if_neg (show ¬ (false = true) by decide)] at H; exact H
        clear H
        have H := H1
        clear H1
        have H' := Aside0.mk H
        clear H
        go_wp2_with (first | ((with_reducible refine gate_callee (f := 66) rfl ?_); refine goesL_ (some 17) rfl rfl Try.func66 (by kernel_rfl) rfl #[.int .i64 a1, .int .i64 0, .int .i64 (l0.length : Int)] rfl (by (try simp only [List.map_toArray, List.map_cons, List.map_nil]); first | done | rfl | (simp only [List.length_drop, List.length_take]; rfl)) ?_; (with_reducible refine (log_within.calls a1 0 (l0.length : Int) false _ A7.out).mono ?_); rintro e w' ⟨rfl, ⟨nd, rfl⟩⟩; refine ⟨_, rfl, ?_⟩))
        go_meet
        case rel => exact ⟨_, (true), (by first | rfl | (simp; done) | (simp [*]; done)), H', ⟨by first | omega | exact Nat.le_refl _⟩, ⟨by repeat (first | (with_reducible first | exact HB.out | apply below_alloc | apply pw_below_drewN | apply below_drew1) | exact HB.out)⟩⟩
    case rest =>
      clear HC6
      try clear p2
      try clear c3
      try clear c5
      try clear c5b0
      try clear c5b1
      try clear c6
      try clear c8
      obtain ⟨kq, x23_5, rfl, HA, HJ5, HB⟩ := hcut
      cases kq with
      | zero => exact absurd HA.out (by simp [log_Insert.j0])
      | succ kj5 =>
        have H := HA.out
        clear HA
        simp only [log_Insert.j0] at H
        by_cases c10 : x23_5 = true
        · subst c10
          have H1 : (some (([] : List Int), 1)) = some (r1, r2) := by rw [if_pos rfl] at H; exact H
          clear H
          have H := H1
          clear H1
          simp only [Option.some.injEq, Prod.mk.injEq] at H
          obtain ⟨rfl, rfl⟩ := H
          go_wp2
          go_ret2
          exact ⟨_, by first | rfl | (simp [errW_none, errW_some] <;> rfl) | (simp [*, errW_none, errW_some] <;> rfl), by first | exact Kd.R_nil _ _ _ _ _ | exact Kd.N_nil _ _ _ _ _ | exact Kd.V_nil _ _ _ _ _ | exact Kd.Q_nil _ _ _ _ _ | exact Kd.S_nil _ _ _ _ _, by repeat (first | (with_reducible first | exact HB.out | apply below_alloc | apply pw_below_drewN | apply below_drew1) | exact HB.out)⟩
        · replace c10 := Bool.eq_false_iff.mpr c10
          subst c10
          have H1 : (if (l0.length : Int) = 10 then (some (([] : List Int), 3)) else ((slices_Clone_int_int.f l0).bind fun t104 => (if 0 ≤ a1 ∧ a1 ≤ (t104.length : Int) ∧ t104.length ≤ 1000 then (some ((t104.take a1.toNat ++ a2 :: t104.drop a1.toNat), 0)) else (none)))) = some (r1, r2) := by rw [if_neg (show ¬ (false = true) by decide)] at H; exact H
          clear H
          have H := H1
          clear H1
          by_cases c11 : (l0.length : Int) = 10
          · rw [if_pos c11] at H
            have c11b0 : ((l0.length : Int) == 10) = true := beq_iff_eq.mpr c11
            have c11b1 : ((l0.length : Int) != 10) = false := bne_eq_false_iff_eq.mpr c11
            clear c11
            simp only [Option.some.injEq, Prod.mk.injEq] at H
            obtain ⟨rfl, rfl⟩ := H
            go_wp2
            go_ret2
            exact ⟨_, by first | rfl | (simp [errW_none, errW_some] <;> rfl) | (simp [*, errW_none, errW_some] <;> rfl), by first | exact Kd.R_nil _ _ _ _ _ | exact Kd.N_nil _ _ _ _ _ | exact Kd.V_nil _ _ _ _ _ | exact Kd.Q_nil _ _ _ _ _ | exact Kd.S_nil _ _ _ _ _, by repeat (first | (with_reducible first | exact HB.out | apply below_alloc | apply pw_below_drewN | apply below_drew1) | exact HB.out)⟩
          · rw [if_neg c11] at H
            have c11b0 : ((l0.length : Int) == 10) = false := beq_eq_false_iff_ne.mpr c11
            have c11b1 : ((l0.length : Int) != 10) = true := bne_iff_ne.mpr c11
            replace H := Option.bind_eq_some_iff.mp H
            obtain ⟨t104, A120, H⟩ := H
            replace H : (if 0 ≤ a1 ∧ a1 ≤ (t104.length : Int) ∧ t104.length ≤ 1000 then (some ((t104.take a1.toNat ++ a2 :: t104.drop a1.toNat), 0)) else (none)) = some (r1, r2) := H
            have A12 := Aside0.mk A120
            clear A120
            by_cases c13 : 0 ≤ a1 ∧ a1 ≤ (t104.length : Int) ∧ t104.length ≤ 1000
            · rw [if_pos c13] at H
              have LMc13 := Aside0.mk c13
              clear c13
              obtain ⟨y107, hy107⟩ : ∃ y_ : List Int, y_ = (t104.take a1.toNat ++ a2 :: t104.drop a1.toNat) := ⟨_, rfl⟩
              replace H : (some (y107, 0)) = some (r1, r2) := by first | (rw [hy107]; with_reducible exact H) | (have H2_ := (Option.bind_some _ _).symm.trans H; rw [hy107]; with_reducible exact H2_) | (have H2_ := (Option.bind_some _ _).symm.trans H; with_reducible exact H2_) | with_reducible exact H | (rw [hy107]; exact H) | exact H
              have Ny107 := Aside0.mk hy107
              clear hy107
              simp only [Option.some.injEq, Prod.mk.injEq] at H
              obtain ⟨rfl, rfl⟩ := H
              go_wp2_with (first | ((with_reducible refine gate_callee (f := 63) rfl ?_); refine goesL_ (some 28) rfl rfl Try.func63 (by kernel_rfl) rfl #[.slice A0 l0.length c0] rfl (by (try simp only [List.map_toArray, List.map_cons, List.map_nil]); first | done | rfl | (simp only [List.length_drop, List.length_take]; rfl)) ?_; (with_reducible refine (slices_Clone_int_int.calls _ _ l0 t104 _ ?side1 ?side2 A12.out).mono ?_); (case side1 => repeat (first | exact (Kd.C_below HR0.out HB.out) | (with_reducible refine Kd.C_alloc ?_ _) | (with_reducible refine Kd.C_drewN ?_ _) | (with_reducible refine Kd.C_drew ?_))); (case side2 => exact HC0.out); rintro e w14 ⟨v105, rfl, ho0, hb⟩; refine ⟨_, rfl, ?_⟩; have n0_ := Aside0.mk (Kd.R_lower ho0 (below_size (by repeat (first | (with_reducible first | exact HB.out | apply below_alloc | apply pw_below_drewN | apply below_drew1) | exact HB.out)))); have n1_ := Aside0.mk (below_step (by repeat (first | (with_reducible first | exact HB.out | apply below_alloc | apply pw_below_drewN | apply below_drew1) | exact HB.out)) hb); clear HB; have HO106 := n0_; have HB := n1_; clear n0_ n1_; (try clear hb); (try clear hb2); (try clear hk); (try clear hi); (try clear ho0)) | ((with_reducible refine gate_callee (f := 85) rfl ?_); refine goesL_ (some 32) rfl rfl Try.func85 (by kernel_rfl) rfl #[v105, .int .i64 a1, .slice (some ⟨w14.heap.size, 0, none⟩) 1 1] rfl (by (try simp only [List.map_toArray, List.map_cons, List.map_nil]); first | done | rfl) ?_; refine (log_ins' w _ _ v105 t104 a1 a2 _ 1 3 (by (with_reducible repeat (first | apply Kd.R_alloc | apply Kd.R_drewN | apply Kd.R_drew)); exact HO106.out) (by exact (by repeat (first | (with_reducible first | exact HB.out | apply below_alloc | apply pw_below_drewN | apply below_drew1) | exact HB.out))) LMc13.out.1 LMc13.out.2.1 LMc13.out.2.2 (blk_new _ _) (Kd.R_ne_new HO106.out 0)).mono ?_; rintro e w15 ⟨v108, rfl, ho, hb⟩; refine ⟨_, rfl, ?_⟩; rw [← Ny107.out] at ho; have n0_ := Aside0.mk (hb); have n1_ := Aside0.mk (ho); clear HB; clear HO106; have HB := n0_; have HO109 := n1_; clear n0_ n1_; clear ho hb))
              go_ret2
              exact ⟨_, by first | rfl | (simp [errW_none, errW_some] <;> rfl) | (simp [*, errW_none, errW_some] <;> rfl), by (with_reducible repeat (first | apply Kd.R_alloc | apply Kd.R_drewN | apply Kd.R_drew)); exact HO109.out, by repeat (first | (with_reducible first | exact HB.out | apply below_alloc | apply pw_below_drewN | apply below_drew1) | exact HB.out)⟩
            · rw [if_neg c13] at H
              exact absurd H (by simp)
  · rw [if_neg c5] at H
    have c5b0 : (t101 == 0) = false := beq_eq_false_iff_ne.mpr c5
    have c5b1 : (t101 != 0) = true := bne_iff_ne.mpr c5
    simp only [Option.some.injEq, Prod.mk.injEq] at H
    obtain ⟨rfl, rfl⟩ := H
    go_enter Try.func53, Try.ntmps53
    go_wp2_with (first | ((with_reducible refine gate_callee (f := 31) rfl ?_); refine goesL_ (some 10) rfl rfl Try.func31 (by kernel_rfl) rfl #[.slice A0 l0.length c0] rfl (by (try simp only [List.map_toArray, List.map_cons, List.map_nil]); first | done | rfl | (simp only [List.length_drop, List.length_take]; rfl)) ?_; (with_reducible refine (log_Validate.calls k _ _ l0 t101 _ ?side1 ?side2 A4.out).mono ?_); (case side1 => repeat (first | exact HR0.out | (with_reducible refine Kd.C_alloc ?_ _) | (with_reducible refine Kd.C_drewN ?_ _) | (with_reducible refine Kd.C_drew ?_))); (case side2 => exact HC0.out); rintro e w' ⟨rfl, ⟨nd, rfl⟩⟩; refine ⟨_, rfl, ?_⟩))
    go_ret2
    exact ⟨_, by first | rfl | (simp [errW_none, errW_some] <;> rfl) | (simp [*, errW_none, errW_some] <;> rfl), by first | exact Kd.R_nil _ _ _ _ _ | exact Kd.N_nil _ _ _ _ _ | exact Kd.V_nil _ _ _ _ _ | exact Kd.Q_nil _ _ _ _ _ | exact Kd.S_nil _ _ _ _ _, by repeat (first | (with_reducible first | exact HB.out | apply below_alloc | apply pw_below_drewN | apply below_drew1) | exact HB.out)⟩

/-! ### diaphoneref06_Insert: function 54 -/
def diaphoneref06_Insert.j0 : Nat → List Int → Int → Int → Bool → Option (List Int × Int)
  | 0, _, _, _, _ => none
  | k + 1, x0, x1, x2, x24 => if x24 = true then (some (([] : List Int), 1)) else (if (x0.length : Int) = 10 then (some (([] : List Int), 3)) else ((some (([] : List Int) : List Int)).bind fun y104 => (if 0 ≤ x1 then (if x1 ≤ (x0.length : Int) then (if y104.length + (x0.take (x1 : Int).toNat).length < 17592186044416 then ((some (y104 ++ (x0.take (x1 : Int).toNat) : List Int)).bind fun y108 => (if y108.length < 17592186044416 then ((some (y108 ++ [x2] : List Int)).bind fun y111 => (if y111.length + (x0.drop (x1 : Int).toNat).length < 17592186044416 then (some ((y111 ++ (x0.drop (x1 : Int).toNat)), 0)) else (none))) else (none))) else (none)) else (none)) else (none))))
def diaphoneref06_Insert.f (k : Nat) (l0 : List Int) (a1 : Int) (a2 : Int) : Option (List Int × Int) := (diaphoneref06_Validate.f k l0).bind fun t101 => (if t101 = 0 then ((diaphoneref06_within.f a1 0 (l0.length : Int)).bind fun t102 => (if t102 = true then ((diaphoneref06_within.f a2 0 5).bind fun t103 => (diaphoneref06_Insert.j0 k l0 a1 a2 (!t103))) else (diaphoneref06_Insert.j0 k l0 a1 a2 true))) else (some (([] : List Int), t101)))
theorem diaphoneref06_Insert.mono_l : ∀ k, (∀ y0 y1 y2 y3, LeO (diaphoneref06_Insert.j0 k y0 y1 y2 y3) (diaphoneref06_Insert.j0 (k + 1) y0 y1 y2 y3))
  | 0 => fun _ _ _ _ r h => by simp [diaphoneref06_Insert.j0] at h
  | k + 1 => by
    have ih0 := diaphoneref06_Insert.mono_l k
    · intro y0 y1 y2 y3
      unfold diaphoneref06_Insert.j0
      repeat' first
      | (with_reducible exact ih0 _ _ _ _)
      | (with_reducible exact diaphoneref06_Validate.mono _ _)
      | (with_reducible exact LeO.refl _)
      | (with_reducible exact LeO.none _)
      | (with_reducible refine LeO.ite ?_ ?_)
      | (with_reducible refine LeO.bind ?_ (fun _ => ?_))
      | exact ih0 _ _ _ _
      | exact diaphoneref06_Validate.mono _ _
      | exact LeO.none _
      | refine LeO.ite ?_ ?_
      | refine LeO.bind ?_ (fun _ => ?_)
theorem diaphoneref06_Insert.mono : ∀ a0 a1 a2 k, LeO (diaphoneref06_Insert.f k a0 a1 a2) (diaphoneref06_Insert.f (k + 1) a0 a1 a2) := by
  intro a0 a1 a2 k
  have ih0 := diaphoneref06_Insert.mono_l k
  unfold diaphoneref06_Insert.f
  repeat' first
      | (with_reducible exact ih0 _ _ _ _)
      | (with_reducible exact diaphoneref06_Validate.mono _ _)
      | (with_reducible exact LeO.refl _)
      | (with_reducible exact LeO.none _)
      | (with_reducible refine LeO.ite ?_ ?_)
      | (with_reducible refine LeO.bind ?_ (fun _ => ?_))
      | exact ih0 _ _ _ _
      | exact diaphoneref06_Validate.mono _ _
      | exact LeO.none _
      | refine LeO.ite ?_ ?_
      | refine LeO.bind ?_ (fun _ => ?_)
set_option maxHeartbeats 8000000 in
set_option maxRecDepth 100000 in
theorem diaphoneref06_Insert.calls (k : Nat) (A0 : Option Addr) (c0 : Nat) (l0 : List Int) (a1 : Int) (a2 : Int) (r1 : List Int) (r2 : Int) (w : World) (hr0 : Kd.C (Kd.int .i64) w A0 l0.length l0) (hc0 : l0.length ≤ c0) (h : diaphoneref06_Insert.f k l0 a1 a2 = some (r1, r2)) :
    Calls Try.prog 54 #[.slice A0 l0.length c0, .int .i64 a1, .int .i64 a2] w fun e w' => ∃ v0_ : Value, e = .returned (.tuple #[v0_, .int .i64 r2]) ∧ Kd.R (Kd.int .i64) 3 w' w.heap.size (fun _ => True) v0_ r1 ∧ Below w.heap.size w w' := by
  have HR0 := Aside0.mk hr0
  have HC0 := Aside0.mk hc0
  clear hr0 hc0
  have HB := Aside0.mk (Below.refl w.heap.size w)
  have H : ((diaphoneref06_Validate.f k l0).bind fun t101 => (if t101 = 0 then ((diaphoneref06_within.f a1 0 (l0.length : Int)).bind fun t102 => (if t102 = true then ((diaphoneref06_within.f a2 0 5).bind fun t103 => (diaphoneref06_Insert.j0 k l0 a1 a2 (!t103))) else (diaphoneref06_Insert.j0 k l0 a1 a2 true))) else (some (([] : List Int), t101)))) = some (r1, r2) := h
  clear h
  replace H := Option.bind_eq_some_iff.mp H
  obtain ⟨t101, A40, H⟩ := H
  replace H : (if t101 = 0 then ((diaphoneref06_within.f a1 0 (l0.length : Int)).bind fun t102 => (if t102 = true then ((diaphoneref06_within.f a2 0 5).bind fun t103 => (diaphoneref06_Insert.j0 k l0 a1 a2 (!t103))) else (diaphoneref06_Insert.j0 k l0 a1 a2 true))) else (some (([] : List Int), t101))) = some (r1, r2) := H
  have A4 := Aside0.mk A40
  clear A40
  by_cases c5 : t101 = 0
  · rw [if_pos c5] at H
    have c5b0 : (t101 == 0) = true := beq_iff_eq.mpr c5
    have c5b1 : (t101 != 0) = false := bne_eq_false_iff_eq.mpr c5
    clear c5
    have HC6 := Aside0.mk H
    clear H
    go_enter Try.func54, Try.ntmps54
    go_upto_region 4 with (first | ((with_reducible refine gate_callee (f := 32) rfl ?_); refine goesL_ (some 11) rfl rfl Try.func32 (by kernel_rfl) rfl #[.slice A0 l0.length c0] rfl (by (try simp only [List.map_toArray, List.map_cons, List.map_nil]); first | done | rfl | (simp only [List.length_drop, List.length_take]; rfl)) ?_; (with_reducible refine (diaphoneref06_Validate.calls k _ _ l0 t101 _ ?side1 ?side2 A4.out).mono ?_); (case side1 => repeat (first | exact HR0.out | (with_reducible refine Kd.C_alloc ?_ _) | (with_reducible refine Kd.C_drewN ?_ _) | (with_reducible refine Kd.C_drew ?_))); (case side2 => exact HC0.out); rintro e w' ⟨rfl, ⟨nd, rfl⟩⟩; refine ⟨_, rfl, ?_⟩))
    (try simp only [Act.put, List.setIfInBounds_toArray, List.set_cons_zero, List.set_cons_succ])
    go_cut [24] (fun v24 wc => ∃ (kq : Nat) (x24_5 : Bool), v24 = .bool x24_5 ∧ Aside0 (diaphoneref06_Insert.j0 kq l0 a1 a2 x24_5 = some (r1, r2)) ∧ Aside0 (kq ≤ k) ∧ Aside0 (Below w.heap.size w wc))
    case first =>
      have H := HC6.out
      clear HC6
      replace H := Option.bind_eq_some_iff.mp H
      obtain ⟨t102, A70, H⟩ := H
      replace H : (if t102 = true then ((diaphoneref06_within.f a2 0 5).bind fun t103 => (diaphoneref06_Insert.j0 k l0 a1 a2 (!t103))) else (diaphoneref06_Insert.j0 k l0 a1 a2 true)) = some (r1, r2) := H
      have A7 := Aside0.mk A70
      clear A70
      by_cases c8 : t102 = true
      · subst c8
        have H1 : ((diaphoneref06_within.f a2 0 5).bind fun t103 => (diaphoneref06_Insert.j0 k l0 a1 a2 (!t103))) = some (r1, r2) := by rw [if_pos rfl] at H; exact H
        clear H
        have H := H1
        clear H1
        replace H := Option.bind_eq_some_iff.mp H
        obtain ⟨t103, A90, H⟩ := H
        replace H : (diaphoneref06_Insert.j0 k l0 a1 a2 (!t103)) = some (r1, r2) := H
        have A9 := Aside0.mk A90
        clear A90
        have H' := Aside0.mk H
        clear H
        go_wp2_with (first | ((with_reducible refine gate_callee (f := 67) rfl ?_); refine goesL_ (some 18) rfl rfl Try.func67 (by kernel_rfl) rfl #[.int .i64 a1, .int .i64 0, .int .i64 (l0.length : Int)] rfl (by (try simp only [List.map_toArray, List.map_cons, List.map_nil]); first | done | rfl | (simp only [List.length_drop, List.length_take]; rfl)) ?_; (with_reducible refine (diaphoneref06_within.calls a1 0 (l0.length : Int) true _ A7.out).mono ?_); rintro e w' ⟨rfl, ⟨nd, rfl⟩⟩; refine ⟨_, rfl, ?_⟩) | (go_at_call 67; (with_reducible refine (diaphoneref06_within.calls a2 0 5 t103 _ A9.out).mono ?_); rintro e w' ⟨rfl, ⟨nd, rfl⟩⟩))
        go_meet
        case rel => exact ⟨_, (!t103), (by first | rfl | (simp; done) | (simp [*]; done)), H', ⟨by first | omega | exact Nat.le_refl _⟩, ⟨by repeat (first | (with_reducible first | exact HB.out | apply below_alloc | apply pw_below_drewN | apply below_drew1) | exact HB.out)⟩⟩
      · replace c8 := Bool.eq_false_iff.mpr c8
        subst c8
        have H1 : (diaphoneref06_Insert.j0 k l0 a1 a2 true) = some (r1, r2) := by rw [if_neg (show ¬ (false = true) by decide)] at H; exact H
        clear H
        have H := H1
        clear H1
        have H' := Aside0.mk H
        clear H
        go_wp2_with (first | ((with_reducible refine gate_callee (f := 67) rfl ?_); refine goesL_ (some 18) rfl rfl Try.func67 (by kernel_rfl) rfl #[.int .i64 a1, .int .i64 0, .int .i64 (l0.length : Int)] rfl (by (try simp only [List.map_toArray, List.map_cons, List.map_nil]); first | done | rfl | (simp only [List.length_drop, List.length_take]; rfl)) ?_; (with_reducible refine (diaphoneref06_within.calls a1 0 (l0.length : Int) false _ A7.out).mono ?_); rintro e w' ⟨rfl, ⟨nd, rfl⟩⟩; refine ⟨_, rfl, ?_⟩))
        go_meet
        case rel => exact ⟨_, (true), (by first | rfl | (simp; done) | (simp [*]; done)), H', ⟨by first | omega | exact Nat.le_refl _⟩, ⟨by repeat (first | (with_reducible first | exact HB.out | apply below_alloc | apply pw_below_drewN | apply below_drew1) | exact HB.out)⟩⟩
    case rest =>
      clear HC6
      try clear p2
      try clear c3
      try clear c5
      try clear c5b0
      try clear c5b1
      try clear c6
      try clear c8
      obtain ⟨kq, x24_5, rfl, HA, HJ5, HB⟩ := hcut
      cases kq with
      | zero => exact absurd HA.out (by simp [diaphoneref06_Insert.j0])
      | succ kj5 =>
        have H := HA.out
        clear HA
        simp only [diaphoneref06_Insert.j0] at H
        by_cases c10 : x24_5 = true
        · subst c10
          have H1 : (some (([] : List Int), 1)) = some (r1, r2) := by rw [if_pos rfl] at H; exact H
          clear H
          have H := H1
          clear H1
          simp only [Option.some.injEq, Prod.mk.injEq] at H
          obtain ⟨rfl, rfl⟩ := H
          go_wp2
          go_ret2
          exact ⟨_, by first | rfl | (simp [errW_none, errW_some] <;> rfl) | (simp [*, errW_none, errW_some] <;> rfl), by first | exact Kd.R_nil _ _ _ _ _ | exact Kd.N_nil _ _ _ _ _ | exact Kd.V_nil _ _ _ _ _ | exact Kd.Q_nil _ _ _ _ _ | exact Kd.S_nil _ _ _ _ _, by repeat (first | (with_reducible first | exact HB.out | apply below_alloc | apply pw_below_drewN | apply below_drew1) | exact HB.out)⟩
        · replace c10 := Bool.eq_false_iff.mpr c10
          subst c10
          have H1 : (if (l0.length : Int) = 10 then (some (([] : List Int), 3)) else ((some (([] : List Int) : List Int)).bind fun y104 => (if 0 ≤ a1 then (if a1 ≤ (l0.length : Int) then (if y104.length + (l0.take (a1 : Int).toNat).length < 17592186044416 then ((some (y104 ++ (l0.take (a1 : Int).toNat) : List Int)).bind fun y108 => (if y108.length < 17592186044416 then ((some (y108 ++ [a2] : List Int)).bind fun y111 => (if y111.length + (l0.drop (a1 : Int).toNat).length < 17592186044416 then (some ((y111 ++ (l0.drop (a1 : Int).toNat)), 0)) else (none))) else (none))) else (none)) else (none)) else (none)))) = some (r1, r2) := by rw [if_neg (show ¬ (false = true) by decide)] at H; exact H
          clear H
          have H := H1
          clear H1
          by_cases c11 : (l0.length : Int) = 10
          · rw [if_pos c11] at H
            have c11b0 : ((l0.length : Int) == 10) = true := beq_iff_eq.mpr c11
            have c11b1 : ((l0.length : Int) != 10) = false := bne_eq_false_iff_eq.mpr c11
            clear c11
            simp only [Option.some.injEq, Prod.mk.injEq] at H
            obtain ⟨rfl, rfl⟩ := H
            go_wp2
            go_ret2
            exact ⟨_, by first | rfl | (simp [errW_none, errW_some] <;> rfl) | (simp [*, errW_none, errW_some] <;> rfl), by first | exact Kd.R_nil _ _ _ _ _ | exact Kd.N_nil _ _ _ _ _ | exact Kd.V_nil _ _ _ _ _ | exact Kd.Q_nil _ _ _ _ _ | exact Kd.S_nil _ _ _ _ _, by repeat (first | (with_reducible first | exact HB.out | apply below_alloc | apply pw_below_drewN | apply below_drew1) | exact HB.out)⟩
          · rw [if_neg c11] at H
            have c11b0 : ((l0.length : Int) == 10) = false := beq_eq_false_iff_ne.mpr c11
            have c11b1 : ((l0.length : Int) != 10) = true := bne_iff_ne.mpr c11
            obtain ⟨y104, hy104⟩ : ∃ y_ : List Int, y_ = (([] : List Int)) := ⟨_, rfl⟩
            replace H : (if 0 ≤ a1 then (if a1 ≤ (l0.length : Int) then (if y104.length + (l0.take (a1 : Int).toNat).length < 17592186044416 then ((some (y104 ++ (l0.take (a1 : Int).toNat) : List Int)).bind fun y108 => (if y108.length < 17592186044416 then ((some (y108 ++ [a2] : List Int)).bind fun y111 => (if y111.length + (l0.drop (a1 : Int).toNat).length < 17592186044416 then (some ((y111 ++ (l0.drop (a1 : Int).toNat)), 0)) else (none))) else (none))) else (none)) else (none)) else (none)) = some (r1, r2) := by first | (rw [hy104]; with_reducible exact H) | (have H2_ := (Option.bind_some _ _).symm.trans H; rw [hy104]; with_reducible exact H2_) | (have H2_ := (Option.bind_some _ _).symm.trans H; with_reducible exact H2_) | with_reducible exact H | (rw [hy104]; exact H) | exact H
            have Ny104 := Aside0.mk hy104
            clear hy104
            by_cases c12 : 0 ≤ a1
            · rw [if_pos c12] at H
              have c12b0 := eq_true c12
              have c12b1 : decide (0 ≤ a1) = true := decide_eq_true c12
              clear c12
              by_cases c13 : a1 ≤ (l0.length : Int)
              · rw [if_pos c13] at H
                have c13b0 := eq_true c13
                have c13b1 : decide (a1 ≤ (l0.length : Int)) = true := decide_eq_true c13
                clear c13
                by_cases c14 : y104.length + (l0.take (a1 : Int).toNat).length < 17592186044416
                · rw [if_pos c14] at H
                  have LMc14 := Aside0.mk c14
                  clear c14
                  obtain ⟨y108, hy108⟩ : ∃ y_ : List Int, y_ = (y104 ++ (l0.take (a1 : Int).toNat)) := ⟨_, rfl⟩
                  replace H : (if y108.length < 17592186044416 then ((some (y108 ++ [a2] : List Int)).bind fun y111 => (if y111.length + (l0.drop (a1 : Int).toNat).length < 17592186044416 then (some ((y111 ++ (l0.drop (a1 : Int).toNat)), 0)) else (none))) else (none)) = some (r1, r2) := by first | (rw [hy108]; with_reducible exact H) | (have H2_ := (Option.bind_some _ _).symm.trans H; rw [hy108]; with_reducible exact H2_) | (have H2_ := (Option.bind_some _ _).symm.trans H; with_reducible exact H2_) | with_reducible exact H | (rw [hy108]; exact H) | exact H
                  have Ny108 := Aside0.mk hy108
                  clear hy108
                  by_cases c15 : y108.length < 17592186044416
                  · rw [if_pos c15] at H
                    have LMc15 := Aside0.mk c15
                    clear c15
                    obtain ⟨y111, hy111⟩ : ∃ y_ : List Int, y_ = (y108 ++ [a2]) := ⟨_, rfl⟩
                    replace H : (if y111.length + (l0.drop (a1 : Int).toNat).length < 17592186044416 then (some ((y111 ++ (l0.drop (a1 : Int).toNat)), 0)) else (none)) = some (r1, r2) := by first | (rw [hy111]; with_reducible exact H) | (have H2_ := (Option.bind_some _ _).symm.trans H; rw [hy111]; with_reducible exact H2_) | (have H2_ := (Option.bind_some _ _).symm.trans H; with_reducible exact H2_) | with_reducible exact H | (rw [hy111]; exact H) | exact H
                    have Ny111 := Aside0.mk hy111
                    clear hy111
                    have c16b0 := eq_true (of_decide_eq_true (by first | (with_reducible assumption) | assumption) : 0 ≤ a1)
                    have c17b0 := eq_true (of_decide_eq_true (by first | (with_reducible assumption) | assumption) : a1 ≤ (l0.length : Int))
                    by_cases c18 : y111.length + (l0.drop (a1 : Int).toNat).length < 17592186044416
                    · rw [if_pos c18] at H
                      have LMc18 := Aside0.mk c18
                      clear c18
                      obtain ⟨y115, hy115⟩ : ∃ y_ : List Int, y_ = (y111 ++ (l0.drop (a1 : Int).toNat)) := ⟨_, rfl⟩
                      replace H : (some (y115, 0)) = some (r1, r2) := by first | (rw [hy115]; with_reducible exact H) | (have H2_ := (Option.bind_some _ _).symm.trans H; rw [hy115]; with_reducible exact H2_) | (have H2_ := (Option.bind_some _ _).symm.trans H; with_reducible exact H2_) | with_reducible exact H | (rw [hy115]; exact H) | exact H
                      have Ny115 := Aside0.mk hy115
                      clear hy115
                      simp only [Option.some.injEq, Prod.mk.injEq] at H
                      obtain ⟨rfl, rfl⟩ := H
                      go_wp2_with (first | ((with_reducible refine gate_dst (N := 28) rfl ?_); refine Kd.R_lit (Kd.int .i64) _ 3 ?hg (N := 28) ?hd (xs := ([] : List Int)) (inner := []) (ok := fun _ => True) (okp := fun _ => True) ?hr ?hp (fun _ hk => hk) trivial (Below.refl _ _) (Nat.le_refl _) (by simp) ?_; (case hd => rfl); (case hg => rfl); (case hr => first | (go_simp; done) | (go_simp; rfl)); (case hp => exact (Reps.none _ _)); intro v105 w19 ho20 hb hg_ hnew_; clear hg_ hnew_; (first | rw [← Ny104.out] at ho20 | (simp only [Int.reduceToNat] at ho20; rw [← Ny104.out] at ho20)); have n0_ := Aside0.mk (Kd.R_lower ho20 (below_size (by repeat (first | (with_reducible first | exact HB.out | apply below_alloc | apply pw_below_drewN | apply below_drew1) | exact HB.out)))); have n1_ := Aside0.mk (below_step (by repeat (first | (with_reducible first | exact HB.out | apply below_alloc | apply pw_below_drewN | apply below_drew1) | exact HB.out)) hb); clear HB; have HO106 := n0_; have HB := n1_; clear n0_ n1_; clear hb ho20; obtain ⟨i021, hi021, _, hsz21, _⟩ := info_parts info3; obtain ⟨hcut21, hA21, hC21⟩ := print_take_of (P := Try.prog) (Value.int .i64) 0 22 3 .i64 Try.underlying22 hi021 hsz21 A0 c0 l0 a1 (of_decide_eq_true (by first | (with_reducible assumption) | assumption)) (of_decide_eq_true (by first | (with_reducible assumption) | assumption)) HC0.out; have HR107 := Aside0.mk (Kd.C_of_reads (h1 := fun _ => rfl) (hA21 _ (Kd.reads_of_C HR0.out))); have HC107 := Aside0.mk hC21; clear hA21 hC21 hi021 hsz21) | ((with_reducible refine gate_builtin (b := .append) (xs := #[.tmp 28, .tmp 31]) rfl ?_); at_builtin; refine Kd.R_append_rows (Kd.int .i64) (w0 := w) w.heap.size rfl (.tmp 28) (.tmp 31) 22 3 (.int .i64 0) 8 rfl Try.underlying22 info3 rfl (by decide) (by omega) v105 y104 (l0.take (a1 : Int).toNat) _ _ _ (fun _ => True) (fun _ => False) rfl rfl ?aO ?aR (fun _ _ h => h) (fun _ h => h.elim) ?aF ?aB ?aS ?aL ?_; (case aR => first | (have hx_ := (Kd.C_below HR107.out HB.out); rw [show (l0.take (a1 : Int).toNat).length = a1.toNat from (by rw [List.length_take]; have h_ : (a1 : Int) ≤ (l0.length : Int) := of_decide_eq_true (by first | (with_reducible assumption) | assumption); omega)] at hx_; exact hx_) | (rw [← show (l0.take (a1 : Int).toNat).length = a1.toNat from (by rw [List.length_take]; have h_ : (a1 : Int) ≤ (l0.length : Int) := of_decide_eq_true (by first | (with_reducible assumption) | assumption); omega)]; repeat (first | exact (Kd.C_below HR107.out HB.out) | (with_reducible refine Kd.C_alloc ?_ _) | (with_reducible refine Kd.C_drewN ?_ _) | (with_reducible refine Kd.C_drew ?_))) | (repeat (first | exact (Kd.C_below HR107.out HB.out) | (with_reducible refine Kd.C_alloc ?_ _) | (with_reducible refine Kd.C_drewN ?_ _) | (with_reducible refine Kd.C_drew ?_)))); (case aB => exact (by repeat (first | (with_reducible first | exact HB.out | apply below_alloc | apply pw_below_drewN | apply below_drew1) | exact HB.out))); (case aF => exact (fun _ _ => trivial)); (case aO => exact (by (with_reducible repeat (first | apply Kd.R_alloc | apply Kd.R_drewN | apply Kd.R_drew)); exact HO106.out)); (case aS => exact (below_size (by repeat (first | (with_reducible first | exact HB.out | apply below_alloc | apply pw_below_drewN | apply below_drew1) | exact HB.out)))); (case aL => have := LMc14.out; have hlx_ := (show (l0.take (a1 : Int).toNat).length = a1.toNat from (by rw [List.length_take]; have h_ : (a1 : Int) ≤ (l0.length : Int) := of_decide_eq_true (by first | (with_reducible assumption) | assumption); omega)); omega); intro v109 w22 ho hb hg hat; rw [← Ny108.out] at ho; have n0_ := Aside0.mk (hb); have n1_ := Aside0.mk (ho); clear HB; clear HO106; have HB := n0_; have HO110 := n1_; clear n0_ n1_; clear ho hb hg hat) | ((with_reducible refine gate_builtin (b := .append) (xs := #[.tmp 32, .tmp 34]) rfl ?_); at_builtin; refine Kd.R_append (Kd.int .i64) (w0 := w) w.heap.size rfl (.tmp 32) (.tmp 34) 22 3 (.int .i64 0) 8 rfl Try.underlying22 info3 rfl (by decide) (by omega) v109 y108 a2 [.int .i64 a2] (fun _ => True) (fun _ => False) rfl rfl ?aP (fun _ hk => hk.elim) ?aF ?aO ?aB ?aS ?aL ?_; (case aP => exact rfl); (case aB => exact (by repeat (first | (with_reducible first | exact HB.out | apply below_alloc | apply pw_below_drewN | apply below_drew1) | exact HB.out))); (case aF => exact (fun _ _ => trivial)); (case aO => exact (by (with_reducible repeat (first | apply Kd.R_alloc | apply Kd.R_drewN | apply Kd.R_drew)); exact HO110.out)); (case aS => exact (below_size (by repeat (first | (with_reducible first | exact HB.out | apply below_alloc | apply pw_below_drewN | apply below_drew1) | exact HB.out)))); (case aL => have := LMc15.out; omega); intro v112 w23 ho hb hg hat; rw [← Ny111.out] at ho; have n0_ := Aside0.mk (hb); have n1_ := Aside0.mk (ho); clear HB; clear HO110; have HB := n0_; have HO113 := n1_; clear n0_ n1_; clear ho hb hg hat; obtain ⟨i024, hi024, _, hsz24, _⟩ := info_parts info3; obtain ⟨A24, hcut24, hA24, hC24⟩ := print_drop_of (P := Try.prog) (Value.int .i64) 0 22 3 .i64 Try.underlying22 hi024 hsz24 A0 c0 l0 a1 (of_decide_eq_true (by first | (with_reducible assumption) | assumption)) (of_decide_eq_true (by first | (with_reducible assumption) | assumption)) HC0.out; have HR114 := Aside0.mk (Kd.C_of_reads (h1 := fun _ => rfl) (hA24 _ (Kd.reads_of_C HR0.out))); have HC114 := Aside0.mk hC24; clear hA24 hC24 hi024 hsz24) | ((with_reducible refine gate_builtin (b := .append) (xs := #[.tmp 36, .tmp 39]) rfl ?_); at_builtin; refine Kd.R_append_rows (Kd.int .i64) (w0 := w) w.heap.size rfl (.tmp 36) (.tmp 39) 22 3 (.int .i64 0) 8 rfl Try.underlying22 info3 rfl (by decide) (by omega) v112 y111 (l0.drop (a1 : Int).toNat) _ _ _ (fun _ => True) (fun _ => False) rfl rfl ?aO ?aR (fun _ _ h => h) (fun _ h => h.elim) ?aF ?aB ?aS ?aL ?_; (case aR => first | (have hx_ := (Kd.C_below HR114.out HB.out); rw [show (l0.drop (a1 : Int).toNat).length = (l0.length - a1.toNat) from List.length_drop] at hx_; exact hx_) | (rw [← show (l0.drop (a1 : Int).toNat).length = (l0.length - a1.toNat) from List.length_drop]; repeat (first | exact (Kd.C_below HR114.out HB.out) | (with_reducible refine Kd.C_alloc ?_ _) | (with_reducible refine Kd.C_drewN ?_ _) | (with_reducible refine Kd.C_drew ?_))) | (repeat (first | exact (Kd.C_below HR114.out HB.out) | (with_reducible refine Kd.C_alloc ?_ _) | (with_reducible refine Kd.C_drewN ?_ _) | (with_reducible refine Kd.C_drew ?_)))); (case aB => exact (by repeat (first | (with_reducible first | exact HB.out | apply below_alloc | apply pw_below_drewN | apply below_drew1) | exact HB.out))); (case aF => exact (fun _ _ => trivial)); (case aO => exact (by (with_reducible repeat (first | apply Kd.R_alloc | apply Kd.R_drewN | apply Kd.R_drew)); exact HO113.out)); (case aS => exact (below_size (by repeat (first | (with_reducible first | exact HB.out | apply below_alloc | apply pw_below_drewN | apply below_drew1) | exact HB.out)))); (case aL => have := LMc18.out; have hlx_ := (show (l0.drop (a1 : Int).toNat).length = (l0.length - a1.toNat) from List.length_drop); omega); intro v116 w25 ho hb hg hat; rw [← Ny115.out] at ho; have n0_ := Aside0.mk (hb); have n1_ := Aside0.mk (ho); clear HB; clear HO113; have HB := n0_; have HO117 := n1_; clear n0_ n1_; clear ho hb hg hat))
                      go_ret2
                      exact ⟨_, by first | rfl | (simp [errW_none, errW_some] <;> rfl) | (simp [*, errW_none, errW_some] <;> rfl), by (with_reducible repeat (first | apply Kd.R_alloc | apply Kd.R_drewN | apply Kd.R_drew)); exact HO117.out, by repeat (first | (with_reducible first | exact HB.out | apply below_alloc | apply pw_below_drewN | apply below_drew1) | exact HB.out)⟩
                    · rw [if_neg c18] at H
                      exact absurd H (by simp)
                  · rw [if_neg c15] at H
                    exact absurd H (by simp)
                · rw [if_neg c14] at H
                  exact absurd H (by simp)
              · rw [if_neg c13] at H
                exact absurd H (by simp)
            · rw [if_neg c12] at H
              exact absurd H (by simp)
  · rw [if_neg c5] at H
    have c5b0 : (t101 == 0) = false := beq_eq_false_iff_ne.mpr c5
    have c5b1 : (t101 != 0) = true := bne_iff_ne.mpr c5
    simp only [Option.some.injEq, Prod.mk.injEq] at H
    obtain ⟨rfl, rfl⟩ := H
    go_enter Try.func54, Try.ntmps54
    go_wp2_with (first | ((with_reducible refine gate_callee (f := 32) rfl ?_); refine goesL_ (some 11) rfl rfl Try.func32 (by kernel_rfl) rfl #[.slice A0 l0.length c0] rfl (by (try simp only [List.map_toArray, List.map_cons, List.map_nil]); first | done | rfl | (simp only [List.length_drop, List.length_take]; rfl)) ?_; (with_reducible refine (diaphoneref06_Validate.calls k _ _ l0 t101 _ ?side1 ?side2 A4.out).mono ?_); (case side1 => repeat (first | exact HR0.out | (with_reducible refine Kd.C_alloc ?_ _) | (with_reducible refine Kd.C_drewN ?_ _) | (with_reducible refine Kd.C_drew ?_))); (case side2 => exact HC0.out); rintro e w' ⟨rfl, ⟨nd, rfl⟩⟩; refine ⟨_, rfl, ?_⟩))
    go_ret2
    exact ⟨_, by first | rfl | (simp [errW_none, errW_some] <;> rfl) | (simp [*, errW_none, errW_some] <;> rfl), by first | exact Kd.R_nil _ _ _ _ _ | exact Kd.N_nil _ _ _ _ _ | exact Kd.V_nil _ _ _ _ _ | exact Kd.Q_nil _ _ _ _ _ | exact Kd.S_nil _ _ _ _ _, by repeat (first | (with_reducible first | exact HB.out | apply below_alloc | apply pw_below_drewN | apply below_drew1) | exact HB.out)⟩

end Go.Proofs.Ytcbepmdnhjojdaa.P
