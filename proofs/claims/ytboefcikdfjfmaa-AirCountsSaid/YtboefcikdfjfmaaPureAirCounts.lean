/- Proved here: for every task, the number of the best sets of hours is as the document says, and there is one; it holds under no condition. -/
import Derived.Test.YtboefcikdfjfmaaKn
import Derived.Test.YtboefcikdfjfmaaLe
import Derived.Test.YtboefcikdfjfmaaPl
import Derived.Test.YtboefcikdfjfmaaPc
import Derived.Test.YtboefcikdfjfmaaSt
import Derived.Test.YtboefcikdfjfmaaPx46
import Derived.Test.YtboefcikdfjfmaaPx46
import Derived.Test.YtboefcikdfjfmaaPx49
import Derived.Test.YtboefcikdfjfmaaPx50
set_option linter.unusedVariables false
namespace Go.Proofs.Ytboefcikdfjfmaa.Pure
open Go.RowKit Go.Proofs.Ytboefcikdfjfmaa.P Go.Proofs.Ytboefcikdfjfmaa.E Go.Proofs.Ytboefcikdfjfmaa.Am Go.Proofs.Ytboefcikdfjfmaa.Va Go.Proofs.Ytboefcikdfjfmaa.Fi Go.Proofs.Ytboefcikdfjfmaa.Pn Go.Proofs.Ytboefcikdfjfmaa.At Go.Proofs.Ytboefcikdfjfmaa.Le Go.Proofs.Ytboefcikdfjfmaa.Kn Go.Proofs.YtboefcikdfjfmaaW.PrintMore Go.Proofs.YtboefcikdfjfmaaW.PrintWords
variable {a0 a1 : Int} {c d : List Int}
theorem eq_loop (l m : List Int) (hl : l.length ≤ 1000) (hm : l.length = m.length) (e : Nat) : ∀ i : Nat, i ≤ l.length → l.length - i = e →
    Tl (fun k => slices_Equal_int_int.l0 k l m (l.length : Int) (i : Int)) (decide (l.drop i = m.drop i)) := by
  induction e with
  | zero =>
    intro i hi hd
    refine Tl.succ ?_
    simp only [slices_Equal_int_int.l0]
    refine (Tl.neg (by omega) Tl.now).to ?_
    rw [List.drop_eq_nil_of_le (by omega), List.drop_eq_nil_of_le (by omega)]; rfl
  | succ e ih =>
    intro i hi hd
    have hlt : i < l.length := by omega
    refine Tl.succ ?_
    simp only [slices_Equal_int_int.l0]
    refine Tl.pos (by omega) (Tl.pos (by omega) (Tl.pos (by omega) (Tl.pos (by omega) ?_)))
    rw [rd_lt hlt, rd_lt (show i < m.length by omega), List.drop_eq_getElem_cons hlt, List.drop_eq_getElem_cons (show i < m.length by omega)]
    by_cases hr : l[i] = m[i]'(by omega)
    · refine Tl.pos hr ?_
      rw [w64 (by omega) (by omega)]
      refine (ih (i + 1) (by omega) (by omega)).to ?_
      rw [hr]
      simp only [List.cons.injEq, true_and]
    · refine (Tl.neg hr Tl.now).to ?_
      simp only [List.cons.injEq, hr, false_and, decide_false]
theorem ev_Equal {l m : List Int} (hl : l.length ≤ 1000) : Tl (fun k => slices_Equal_int_int.f k l m) (decide (l = m)) := by
  unfold slices_Equal_int_int.f
  by_cases c : l.length = m.length
  · refine Tl.pos (by omega) ?_
    have := eq_loop l m hl c l.length 0 (by omega) (by omega)
    simpa using this
  · refine (Tl.neg (by omega) Tl.now).to ?_
    symm
    rw [decide_eq_false_iff_not]
    rintro rfl
    exact c rfl
/-- The hours of a number, as a list. -/
def bl (m : Int) (n : Nat) : List Int := ((List.range n).filter fun i => bit m i).map fun (i : Nat) => (i : Int)
theorem bl_succ (m : Int) (n : Nat) : bl m (n + 1) = if bit m n = true then bl m n ++ [(n : Int)] else bl m n := by
  unfold bl
  rw [List.range_succ, List.filter_append, List.map_append]
  by_cases c1 : bit m n = true
  · rw [if_pos c1]; simp [c1]
  · rw [if_neg c1]; simp [c1]
theorem bl_len (m : Int) (n : Nat) : (bl m n).length ≤ n := by
  unfold bl
  rw [List.length_map]
  exact Nat.le_trans (List.length_filter_le _ _) (by simp)
theorem bl_mem {m : Int} {n s : Nat} : ((s : Int) ∈ bl m n) ↔ s < n ∧ bit m s = true := by
  unfold bl
  rw [List.mem_map]
  constructor
  · rintro ⟨i, hi, he⟩
    obtain rfl : i = s := by omega
    simpa using hi
  · intro h
    exact ⟨s, by simpa using h, rfl⟩
theorem bl_set (m : Int) (n : Nat) : Set (bl m n) n := by
  induction n with
  | zero => exact ⟨fun i hi => by simp [bl] at hi, fun i hi => by simp [bl] at hi, fun i hi => by simp [bl] at hi⟩
  | succ n ih =>
    by_cases c1 : bit m n = true
    · have e : bl m (n + 1) = bl m n ++ [(n : Int)] := by rw [bl_succ, if_pos c1]
      refine ⟨fun i hi => ?_, fun i hi => ?_, fun i hi => ?_⟩
      · rw [e] at hi ⊢; rw [fl_snoc]
        split
        · omega
        · exact ih.lo i (by simp at hi; omega)
      · rw [e] at hi ⊢; rw [fl_snoc]
        split
        · omega
        · have := ih.hi i (by simp at hi; omega); omega
      · rw [e] at hi ⊢; rw [fl_snoc, fl_snoc]
        simp at hi
        rw [if_neg (by omega)]
        split
        · exact ih.hi i (by omega)
        · exact ih.up i (by omega)
    · have e : bl m (n + 1) = bl m n := by rw [bl_succ, if_neg c1]
      rw [e]
      exact ⟨ih.lo, fun i hi => by have := ih.hi i hi; omega, ih.up⟩
theorem bl_bit {m : Int} {n s : Nat} (hs : s < n) : mem (bl m n) s = bit m s := by
  unfold mem
  cases hb : bit m s with
  | true => exact decide_eq_true (bl_mem.2 ⟨hs, hb⟩)
  | false => exact decide_eq_false (fun q => by have := (bl_mem.1 q).2; rw [hb] at this; cases this)
/-- A plan pumps in all hours of a set, and in no others. -/
def Use (x : List Int) (m : Int) (n : Nat) : Prop := ∀ i, i < n → on (fl x) i = bit m i
theorem use_iff {x : List Int} {m : Int} {n : Nat} : sts x n = bl m n ↔ Use x m n := by
  constructor
  · intro h i hi
    have h1 : ((i : Int) ∈ sts x n) ↔ ((i : Int) ∈ bl m n) := by rw [h]
    rw [bl_mem] at h1
    have h2 : ((i : Int) ∈ sts x n) ↔ on (fl x) i = true := by
      unfold sts
      rw [List.mem_map]
      constructor
      · rintro ⟨j, hj, he⟩
        obtain rfl : j = i := by omega
        exact (List.mem_filter.1 hj).2
      · intro q
        exact ⟨i, List.mem_filter.2 ⟨List.mem_range.2 hi, q⟩, rfl⟩
    rw [h2] at h1
    cases hb : bit m i with
    | true => exact h1.2 ⟨hi, hb⟩
    | false =>
      cases ho : on (fl x) i with
      | false => rfl
      | true => have := (h1.1 ho).2; rw [hb] at this; cases this
  · intro h
    unfold sts bl
    congr 1
    exact List.filter_congr (fun i hi => h i (List.mem_range.1 hi))
/-- A set is one of the best. -/
def Gd (a0 a1 : Int) (c d : List Int) (F : Int) (m : Int) : Prop := okA a1 (fl c) (fl d) (bit m) d.length ∧ Use (pxl a1 c d (bit m) d.length) m d.length ∧ cm a0 a1 c d (bit m) = F
/-- So many of the first m numbers are best sets. -/
inductive Cn (P : Nat → Prop) : Nat → Nat → Prop
  | z : Cn P 0 0
  | y {m n : Nat} : P m → Cn P m n → Cn P (m + 1) (n + 1)
  | n {m n : Nat} : ¬ P m → Cn P m n → Cn P (m + 1) n
theorem Cn.le {P : Nat → Prop} {m n : Nat} (h : Cn P m n) : n ≤ m := by
  induction h with
  | z => exact Nat.le_refl _
  | y _ _ ih => omega
  | n _ _ ih => omega
theorem Cn.pos {P : Nat → Prop} {m n : Nat} (h : Cn P m n) {q : Nat} (hq : q < m) (hP : P q) : 0 < n := by
  induction h with
  | z => omega
  | y _ _ ih => omega
  | @n m n h1 _ ih =>
    rcases Nat.lt_or_ge q m with c1 | c1
    · exact ih c1
    · obtain rfl : q = m := by omega
      exact absurd hP h1
theorem Cn.un {P : Nat → Prop} {m n n' : Nat} (h : Cn P m n) (h' : Cn P m n') : n = n' := by
  induction h generalizing n' with
  | z => cases h'; rfl
  | y h1 _ ih => cases h' with
    | y _ q => rw [ih q]
    | n q _ => exact absurd h1 q
  | n h1 _ ih => cases h' with
    | y q _ => exact absurd q h1
    | n _ q => exact ih q
theorem Cn.ex (P : Nat → Prop) (m : Nat) : ∃ n, Cn P m n := by
  induction m with
  | zero => exact ⟨0, .z⟩
  | succ m ih =>
    obtain ⟨n, h⟩ := ih
    by_cases c1 : P m
    · exact ⟨n + 1, .y c1 h⟩
    · exact ⟨n, .n c1 h⟩
theorem count_inner (ok : Ok a0 a1 c d) {F : Int} {M : Nat} {n m : Nat} (hM : M ≤ 4096) (hm : m < M) (r : Int × Int)
    (hy : Gd a0 a1 c d F (m : Int) → Tl (fun k => air_Count.l0 k F (wrap64 ((n : Int) + 1)) (M : Int) (wrap64 ((m : Int) + 1)) a0 a1 c d) r)
    (hn : ¬ Gd a0 a1 c d F (m : Int) → Tl (fun k => air_Count.l0 k F (n : Int) (M : Int) (wrap64 ((m : Int) + 1)) a0 a1 c d) r) (e : Nat) : ∀ i : Nat, i ≤ d.length → d.length - i = e →
    Tl (fun k => air_Count.l1 k F (n : Int) (m : Int) (bl (m : Int) i) (M : Int) (m : Int) (d.length : Int) (i : Int) a0 a1 c d) r := by
  have hn2 := ok.n2
  induction e with
  | zero =>
    intro i h1 h2
    obtain rfl : i = d.length := by omega
    refine Tl.succ ?_
    simp only [air_Count.l1]
    refine Tl.neg (by omega) ?_
    obtain ⟨v, hv⟩ := Atv_ex a1 c d (bit (m : Int))
    have hpl := ev_plan ok (bl_set (m : Int) d.length) (by have := bl_len (m : Int) d.length; omega) ((Atv_congr (fun i hi => bl_bit hi)).2 hv)
    refine Tl.bind hpl ?_
    by_cases hok : okA a1 (fl c) (fl d) (bit (m : Int)) d.length
    · rw [hv.1 hok]
      have hlen := pxl_len (a1 := a1) (c := c) (d := d) (bit (m : Int)) d.length
      have hst := ev_starts (x := pxl a1 c d (bit (m : Int)) d.length) (by omega)
      rw [hlen] at hst
      have hsl := sts_len (pxl a1 c d (bit (m : Int)) d.length) d.length
      refine Tl.pos rfl (Tl.bind hst (Tl.bind (ev_Equal (by omega)) ?_))
      by_cases hu : Use (pxl a1 c d (bit (m : Int)) d.length) (m : Int) d.length
      · refine Tl.pos (decide_eq_true (use_iff.2 hu)) (Tl.bind (ev_cost ok (pxl_small ok _ (Nat.le_refl _)) hlen) ?_)
        by_cases hc : cm a0 a1 c d (bit (m : Int)) = F
        · exact Tl.pos hc (hy ⟨hok, hu, hc⟩)
        · exact Tl.neg hc (hn (fun q => hc q.2.2))
      · exact Tl.neg (by simpa using fun q => hu (use_iff.1 q)) (hn (fun q => hu q.2.1))
    · rw [hv.2 hok]
      exact Tl.neg (by decide) (hn (fun q => hok q.1))
  | succ e ih =>
    intro i h1 h2
    have hbl := bl_len (m : Int) i
    have hrec := ih (i + 1) (by omega) (by omega)
    rw [bl_succ] at hrec
    refine Tl.succ ?_
    simp only [air_Count.l1]
    rw [w64 (x := (i : Int) + 1) (by omega) (by omega)]
    refine Tl.pos (by omega) (Tl.pos (by omega) ?_)
    by_cases hb : bit (m : Int) i = true
    · rw [if_pos hb] at hrec
      exact Tl.pos (of_decide_eq_true hb) (Tl.pos (by omega) hrec)
    · rw [if_neg hb] at hrec
      exact Tl.neg (fun q => hb (decide_eq_true q)) hrec
theorem count_loop (ok : Ok a0 a1 c d) {F : Int} {M : Nat} (hM : M ≤ 4096) {t : Nat} (ht : Cn (fun m => Gd a0 a1 c d F (m : Int)) M t) (e : Nat) : ∀ m n : Nat, m ≤ M → M - m = e → Cn (fun m => Gd a0 a1 c d F (m : Int)) m n →
    Tl (fun k => air_Count.l0 k F (n : Int) (M : Int) (m : Int) a0 a1 c d) ((t : Int), 0) := by
  have hn2 := ok.n2
  induction e with
  | zero =>
    intro m n h1 h2 h3
    obtain rfl : m = M := by omega
    refine Tl.succ ?_
    simp only [air_Count.l0]
    refine (Tl.neg (by omega) Tl.now).to ?_
    rw [h3.un ht]
  | succ e ih =>
    intro m n h1 h2 h3
    have hle := h3.le
    refine Tl.succ ?_
    simp only [air_Count.l0]
    refine Tl.pos (by omega) ?_
    have h := count_inner ok (F := F) (n := n) hM (show m < M by omega) ((t : Int), 0) (fun q => ?_) (fun q => ?_) d.length 0 (by omega) (by omega)
    · exact h
    · rw [w64 (by omega) (by omega), w64 (by omega) (by omega)]
      exact ih (m + 1) (n + 1) (by omega) (by omega) (.y q h3)
    · rw [w64 (by omega) (by omega)]
      exact ih (m + 1) n (by omega) (by omega) (.n q h3)
theorem rcount_used (ok : Ok a0 a1 c d) {F : Int} {n m : Nat} {x : List Int} (hx : x.length = d.length) (r : Int × Int)
    (hy : Use x (m : Int) d.length → Tl (fun k => diaphoneref03_Count.l0 k F (wrap64 ((n : Int) + 1)) (wrap64 ((m : Int) + 1)) a0 a1 c d) r)
    (hn : ¬ Use x (m : Int) d.length → Tl (fun k => diaphoneref03_Count.l0 k F (n : Int) (wrap64 ((m : Int) + 1)) a0 a1 c d) r) (e : Nat) : ∀ (i : Nat) (b : Bool), i ≤ d.length → d.length - i = e → (b = true ↔ ∀ j, j < i → on (fl x) j = bit (m : Int) j) →
    Tl (fun k => diaphoneref03_Count.l1 k F (n : Int) (m : Int) x b (i : Int) a0 a1 c d) r := by
  have hn2 := ok.n2
  induction e with
  | zero =>
    intro i b h1 h2 h3
    obtain rfl : i = d.length := by omega
    refine Tl.succ ?_
    simp only [diaphoneref03_Count.l1]
    refine Tl.neg (by omega) ?_
    by_cases hb : b = true
    · exact Tl.pos hb (hy (h3.1 hb))
    · exact Tl.neg hb (hn (fun q => hb (h3.2 q)))
  | succ e ih =>
    intro i b h1 h2 h3
    refine Tl.succ ?_
    simp only [diaphoneref03_Count.l1]
    rw [u64_nat (show i ≤ 1000 by omega), w64 (x := (i : Int) + 1) (by omega) (by omega)]
    refine Tl.pos (by omega) ?_
    by_cases hb : b = true
    · refine Tl.pos hb (Tl.pos (by omega) (Tl.pos (by omega) ?_))
      rw [rd_fl]
      refine ih (i + 1) _ (by omega) (by omega) ?_
      have e1 : (decide (fl x i > 0) == (Go.bits .and .i64 (shr .i64 (m : Int) (i : Int)) 1 == 1)) = (on (fl x) i == bit (m : Int) i) := by
        congr 1
      rw [e1, beq_iff_eq]
      constructor
      · intro q j hj
        rcases Nat.lt_or_ge j i with c1 | c1
        · exact h3.1 hb j c1
        · obtain rfl : j = i := by omega
          exact q
      · exact fun q => q i (by omega)
    · refine Tl.neg hb (ih (i + 1) false (by omega) (by omega) ⟨fun q => (by cases q), fun q => absurd (h3.2 (fun j hj => q j (by omega))) hb⟩)
theorem rcount_loop (ok : Ok a0 a1 c d) {F : Int} {M : Nat} (hMp : M = 2 ^ d.length) {t : Nat} (ht : Cn (fun m => Gd a0 a1 c d F (m : Int)) M t) (e : Nat) : ∀ m n : Nat, m ≤ M → M - m = e → Cn (fun m => Gd a0 a1 c d F (m : Int)) m n →
    Tl (fun k => diaphoneref03_Count.l0 k F (n : Int) (m : Int) a0 a1 c d) ((t : Int), 0) := by
  have hn2 := ok.n2
  have hsh := shl_pow hn2
  have hM := pow_le hn2
  rw [← hMp] at hsh hM
  clear hMp
  induction e with
  | zero =>
    intro m n h1 h2 h3
    obtain rfl : m = M := by omega
    refine Tl.succ ?_
    simp only [diaphoneref03_Count.l0]
    rw [u64_nat (by omega), hsh]
    refine (Tl.pos (by omega) (Tl.neg (by omega) Tl.now)).to ?_
    rw [h3.un ht]
  | succ e ih =>
    intro m n h1 h2 h3
    have hle := h3.le
    refine Tl.succ ?_
    simp only [diaphoneref03_Count.l0]
    rw [u64_nat (by omega), hsh]
    refine Tl.pos (by omega) (Tl.pos (by omega) ?_)
    obtain ⟨v, hv⟩ := Atv_ex a1 c d (bit (m : Int))
    refine Tl.bind (ev_at ok (m : Int) hv) ?_
    have hno : ¬ Gd a0 a1 c d F (m : Int) → Tl (fun k => diaphoneref03_Count.l0 k F (n : Int) (wrap64 ((m : Int) + 1)) a0 a1 c d) ((t : Int), 0) := by
      intro q
      rw [w64 (by omega) (by omega)]
      exact ih (m + 1) n (by omega) (by omega) (.n q h3)
    by_cases hok : okA a1 (fl c) (fl d) (bit (m : Int)) d.length
    · rw [hv.1 hok]
      have hlen := pxl_len (a1 := a1) (c := c) (d := d) (bit (m : Int)) d.length
      refine Tl.pos rfl (Tl.bind (ev_rcost ok (pxl_small ok _ (Nat.le_refl _)) hlen) ?_)
      refine Tl.succ ?_
      simp only [diaphoneref03_Count.j1]
      by_cases hc : cm a0 a1 c d (bit (m : Int)) = F
      · have e1 : (cs a0 a1 c d (pxl a1 c d (bit (m : Int)) d.length) d.length != F) = false := by
          rw [bne_eq_false_iff_eq]; exact hc
        rw [e1]
        refine Tl.neg (by decide) (rcount_used ok hlen ((t : Int), 0) (fun q => ?_) (fun q => hno (fun q2 => q q2.2.1)) d.length 0 true (by omega) (by omega) ⟨fun _ j hj => by omega, fun _ => rfl⟩)
        rw [w64 (by omega) (by omega), w64 (by omega) (by omega)]
        exact ih (m + 1) (n + 1) (by omega) (by omega) (.y ⟨hok, q, hc⟩ h3)
      · have e1 : (cs a0 a1 c d (pxl a1 c d (bit (m : Int)) d.length) d.length != F) = true := by
          rw [bne_iff_ne]; exact hc
        rw [e1]
        exact Tl.pos rfl (hno (fun q => hc q.2.2))
    · rw [hv.2 hok]
      refine Tl.neg (by decide) (Tl.succ ?_)
      simp only [diaphoneref03_Count.j1]
      exact Tl.pos trivial (hno (fun q => hok q.1))
theorem gd_ex (ok : Ok a0 a1 c d) {F : Nat → Int} (hF : IsF a0 a1 (fl c) (fl d) d.length F) : ∃ m : Nat, m < 2 ^ d.length ∧ Gd a0 a1 c d (F d.length) (m : Int) := by
  obtain ⟨m, h1, h2, h3⟩ := cm_ex ok hF
  have hn := ok.n2
  have hp := pow_le hn
  obtain ⟨k1, k2⟩ := px_again ok.rt h2
  have hlt := mk_lt (on (px a1 (fl c) (fl d) (bit (m : Int)) d.length)) d.length
  have hbit : ∀ i, i < d.length → bit ((mk (on (px a1 (fl c) (fl d) (bit (m : Int)) d.length)) d.length : Nat) : Int) i = on (px a1 (fl c) (fl d) (bit (m : Int)) d.length) i := fun i hi => by
    rw [bit_nat (by omega) (by omega), mk_bit]; simp [hi]
  have hpx : ∀ i, px a1 (fl c) (fl d) (bit ((mk (on (px a1 (fl c) (fl d) (bit (m : Int)) d.length)) d.length : Nat) : Int)) d.length i = px a1 (fl c) (fl d) (bit (m : Int)) d.length i := fun i => (px_congr2 hbit i).trans (k2 i)
  refine ⟨_, hlt, (okA_congr hbit).2 k1, fun i hi => ?_, ?_⟩
  · rw [hbit i hi]
    show decide (0 < fl _ i) = decide (0 < px _ _ _ _ _ i)
    rw [pxl_fl _ _ hi, hpx]
  · rw [← h3]
    unfold cm
    rw [at_cost, at_cost]
    exact cost_congr (fun i _ => hpx i)
theorem AirCounts : ∀ (x0 : S24), (((Lit.int .i64 x0.f0).wf = true) ∧ ((Lit.int .i64 x0.f1).wf = true) ∧ ((∀ y ∈ x0.f2, (Lit.int .i64 y).wf = true) ∧ x0.f2.length ≤ maxLen) ∧ ((∀ y ∈ x0.f3, (Lit.int .i64 y).wf = true) ∧ x0.f3.length ≤ maxLen)) → ∃ k, diaphonelaw03_AirCounts.f k x0.f0 x0.f1 x0.f2 x0.f3 = some true := by
  rintro ⟨a0, a1, c, d⟩ _
  refine Tl.ex (g := fun k => diaphonelaw03_AirCounts.f k a0 a1 c d) ?_
  unfold diaphonelaw03_AirCounts.f
  refine by_long (fun h1 h2 => ?_)
  rcases vc_cases a0 a1 c d with ⟨hv, ok⟩ | ⟨hv, no⟩
  · obtain ⟨fs, bs, hf⟩ := firsts_ex ok
    have hn2 := ok.n2
    obtain ⟨t, ht⟩ := Cn.ex (fun m => Gd a0 a1 c d (fl fs d.length) (m : Int)) (2 ^ d.length)
    obtain ⟨q, q1, q2⟩ := gd_ex ok hf.F
    have hpos := ht.pos q1 q2
    have e1 : Tl (fun k => air_Count.f k a0 a1 c d) ((t : Int), 0) := by
      unfold air_Count.f
      refine Tl.bind' (ev_Validate (by omega) (by omega)) (Tl.pos hv (Tl.bind (ev_Least ok hf) ?_))
      rw [shl_pow hn2]
      exact count_loop ok (pow_le hn2) ht (2 ^ d.length) 0 0 (Nat.zero_le _) rfl .z
    have e2 : Tl (fun k => diaphoneref03_Count.f k a0 a1 c d) ((t : Int), 0) := by
      unfold diaphoneref03_Count.f
      refine Tl.bind (ev_rValidate (by omega) (by omega)) (Tl.pos hv (Tl.bind (ev_rleast ok hf.F (hf.le _ (Nat.le_refl _)).1) ?_))
      exact rcount_loop ok rfl ht (2 ^ d.length) 0 0 (Nat.zero_le _) rfl .z
    exact Tl.bind e1 (Tl.bind e2 (Tl.pos rfl (Tl.pos rfl (Tl.pos rfl (Tl.pos (by show (t : Int) > 0; omega) ev_known')))))
  · have e1 : Tl (fun k => air_Count.f k a0 a1 c d) (0, vc a0 a1 c d) := by
      unfold air_Count.f
      exact Tl.bind' (ev_Validate (by omega) (by omega)) (Tl.neg (by omega) Tl.now)
    have e2 : Tl (fun k => diaphoneref03_Count.f k a0 a1 c d) (0, vc a0 a1 c d) := by
      unfold diaphoneref03_Count.f
      exact Tl.bind (ev_rValidate (by omega) (by omega)) (Tl.neg (by omega) Tl.now)
    exact Tl.bind e1 (Tl.bind e2 (Tl.pos rfl (Tl.pos rfl (Tl.neg (by show vc a0 a1 c d ≠ 0; omega) ev_known'))))
end Go.Proofs.Ytboefcikdfjfmaa.Pure
