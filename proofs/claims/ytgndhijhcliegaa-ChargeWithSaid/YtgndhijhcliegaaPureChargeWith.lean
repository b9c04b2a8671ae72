/- Proved here: for all weights and amounts, nothing that was made up is lost by one more weight, and nothing is won if it was made up itself; the program's weights with one more are the document's; it holds under no condition. -/
import Derived.Test.YtgndhijhcliegaaGp
import Derived.Test.YtgndhijhcliegaaPx48
set_option linter.unusedVariables false
namespace Go.Proofs.Ytgndhijhcliegaa.Pure
open Go.RowKit Go.Proofs.Ytgndhijhcliegaa.P Go.Proofs.Ytgndhijhcliegaa.E Go.Proofs.Ytgndhijhcliegaa.Va Go.Proofs.Ytgndhijhcliegaa.Kn Go.Proofs.Ytgndhijhcliegaa.Me Go.Proofs.Ytgndhijhcliegaa.Gp Go.Proofs.YtgndhijhcliegaaW.PrintMore
open Go.Proofs.YtgndhijhcliegaaW.PrintWords
namespace Wit
theorem less_eq (a b : Int) : cmp_Less_int.f a b = some (decide (a < b)) := by
  unfold cmp_Less_int.f cmp_isNaN_int.f
  rw [Option.bind_some, if_neg (by simp)]
theorem mono {w : List Int} (ok : Ok w) {i : Nat} : ∀ d : Nat, i + d < w.length → rd w (i : Int) ≤ rd w ((i + d : Nat) : Int)
  | 0, _ => Int.le_refl _
  | d + 1, h => by
    have h1 := mono ok (i := i) d (by omega)
    have h2 := (ok.2 (i + d + 1) (by omega)).2 (by omega)
    rw [show ((i + d + 1 : Nat) : Int) - 1 = ((i + d : Nat) : Int) by omega] at h2
    rw [show i + (d + 1) = i + d + 1 by omega]; omega
theorem mono' {w : List Int} (ok : Ok w) {i j : Nat} (h : i ≤ j) (hj : j < w.length) : rd w (i : Int) ≤ rd w (j : Int) := by
  have := mono ok (i := i) (j - i) (by omega)
  rwa [show i + (j - i) = j by omega] at this
/-- Where a weight belongs. -/
def At (w : List Int) (x : Int) (p : Nat) : Prop := p ≤ w.length ∧ (∀ i : Nat, i < p → rd w (i : Int) < x) ∧ ∀ i : Nat, p ≤ i → i < w.length → x ≤ rd w (i : Int)
theorem mid {a b : Nat} (h : a + b ≤ 100) : wrap64 ((IntKind.u64.wrap (wrap64 ((a : Int) + (b : Int)))) / 2) = (((a + b) / 2 : Nat) : Int) := by
  have e1 : wrap64 ((a : Int) + (b : Int)) = ((a + b : Nat) : Int) := by rw [w64 (by omega) (by omega)]; omega
  have e2 : IntKind.u64.wrap ((a + b : Nat) : Int) = ((a + b : Nat) : Int) := by
    have h2 : IntKind.u64.wrap ((a + b : Nat) : Int) = ((a + b : Nat) : Int) % 18446744073709551616 := by simp [IntKind.wrap, IntKind.bits, IntKind.signed]
    rw [h2]; omega
  rw [e1, e2, w64 (by omega) (by omega)]; omega
theorem bs_loop {w : List Int} (ok : Ok w) (x : Int) : ∀ (d lo hi : Nat), hi - lo ≤ d → lo ≤ hi → hi ≤ w.length → (∀ i : Nat, i < lo → rd w (i : Int) < x) → (∀ i : Nat, hi ≤ i → i < w.length → x ≤ rd w (i : Int)) →
    ∃ p, At w x p ∧ Tl (fun k => slices_BinarySearch_int_int.l0 k w x (w.length : Int) (lo : Int) (hi : Int)) ((p : Int), decide (p < w.length ∧ rd w (p : Int) = x)) := by
  have hn := ok.1
  intro d
  induction d with
  | zero =>
    intro lo hi h1 h2 h3 h4 h5
    obtain rfl : lo = hi := by omega
    refine ⟨lo, ⟨h3, h4, h5⟩, Tl.succ ?_⟩
    simp only [slices_BinarySearch_int_int.l0]
    refine Tl.neg (by omega) ?_
    by_cases c : lo < w.length
    · refine Tl.pos (by omega) (Tl.pos (by omega) (Tl.pos (by omega) ?_))
      by_cases e : rd w (lo : Int) = x
      · exact Tl.to (Tl.pos e Tl.now) (by rw [decide_eq_true (⟨c, e⟩ : lo < w.length ∧ rd w (lo : Int) = x)])
      · refine Tl.neg e (Tl.bind' rfl (Tl.neg (by simp) (Tl.to Tl.now ?_)))
        rw [decide_eq_false (fun q : lo < w.length ∧ rd w (lo : Int) = x => e q.2)]
    · refine Tl.neg (by omega) (Tl.to Tl.now ?_)
      rw [decide_eq_false (fun q : lo < w.length ∧ rd w (lo : Int) = x => c q.1)]
  | succ d ih =>
    intro lo hi h1 h2 h3 h4 h5
    by_cases c : lo < hi
    · have hm : (lo + hi) / 2 < w.length := by omega
      have E := Aside0.mk (mid (a := lo) (b := hi) (by omega))
      have E2 := Aside0.mk (show wrap64 ((((lo + hi) / 2 : Nat) : Int) + 1) = (((lo + hi) / 2 + 1 : Nat) : Int) by rw [w64 (by omega) (by omega)]; omega)
      by_cases e : rd w (((lo + hi) / 2 : Nat) : Int) < x
      · obtain ⟨p, p1, p2⟩ := ih ((lo + hi) / 2 + 1) hi (by omega) (by omega) h3 (fun i hi' => by
          have := mono' ok (i := i) (j := (lo + hi) / 2) (by omega) hm; omega) h5
        refine ⟨p, p1, Tl.succ ?_⟩
        simp only [slices_BinarySearch_int_int.l0]
        rw [E.out, E2.out]
        exact Tl.pos (by omega) (Tl.pos (by omega) (Tl.pos (by omega) (Tl.bind' (less_eq _ _) (Tl.pos (decide_eq_true e) p2))))
      · obtain ⟨p, p1, p2⟩ := ih lo ((lo + hi) / 2) (by omega) (by omega) (by omega) h4 (fun i hi' hl => by
          have := mono' ok (i := (lo + hi) / 2) (j := i) hi' hl; omega)
        refine ⟨p, p1, Tl.succ ?_⟩
        simp only [slices_BinarySearch_int_int.l0]
        rw [E.out, E2.out]
        exact Tl.pos (by omega) (Tl.pos (by omega) (Tl.pos (by omega) (Tl.bind' (less_eq _ _) (Tl.neg (by rw [decide_eq_true_eq]; exact e) p2))))
    · exact (by
        obtain rfl : lo = hi := by omega
        exact ih lo lo (by omega) h2 h3 h4 h5)
theorem mem_at {w : List Int} (ok : Ok w) {x : Int} {p : Nat} (h : At w x p) : x ∈ w ↔ p < w.length ∧ rd w (p : Int) = x := by
  obtain ⟨h1, h2, h3⟩ := h
  constructor
  · intro hm
    obtain ⟨i, hi, e⟩ := List.getElem_of_mem hm
    rw [← rd_lt hi] at e
    by_cases c : i < p
    · have := h2 i c; omega
    · have a1 := mono' ok (i := p) (j := i) (by omega) hi
      have a2 := h3 p (Nat.le_refl _) (by omega)
      exact ⟨by omega, by omega⟩
  · rintro ⟨c, e⟩
    rw [← e, rd_lt c]; exact List.getElem_mem c
def ins (w : List Int) (x : Int) (p : Nat) : List Int := w.take p ++ x :: w.drop p
noncomputable def wr (w : List Int) (x : Int) (p : Nat) : List Int × Int := if vc w = 0 then (if x ∈ w then ([], 5) else (if vc (ins w x p) = 0 then (ins w x p, 0) else ([], vc (ins w x p)))) else ([], vc w)
theorem ins_len {w : List Int} {x : Int} {p : Nat} (h : p ≤ w.length) : (ins w x p).length = w.length + 1 := by
  unfold ins; rw [List.length_append, List.length_cons, List.length_take, List.length_drop]; omega
theorem ev_With {w : List Int} {x : Int} (hw : w.length ≤ 1000) : ∃ p, (vc w = 0 → At w x p) ∧ Tl (fun k => charge_With.f k w x) (wr w x p) := by
  unfold charge_With.f wr
  by_cases h : vc w = 0
  · have ok := vc_ok.1 h
    obtain ⟨p, p1, p2⟩ := bs_loop ok x w.length 0 w.length (by omega) (by omega) (Nat.le_refl _) (fun i hi => by omega) (fun i h1 h2 => by omega)
    refine ⟨p, fun _ => p1, Tl.bind (ev_Validate w) (Tl.pos h ?_)⟩
    have hb : Tl (fun k => slices_BinarySearch_int_int.f k w x) ((p : Int), decide (p < w.length ∧ rd w (p : Int) = x)) := by
      unfold slices_BinarySearch_int_int.f; exact p2
    refine Tl.bind hb ?_
    rw [if_pos h]
    by_cases c : x ∈ w
    · rw [if_pos c]
      exact Tl.pos (decide_eq_true ((mem_at ok p1).1 c)) Tl.now
    · rw [if_neg c]
      refine Tl.neg (by rw [decide_eq_true_eq]; exact fun q => c ((mem_at ok p1).2 q)) (Tl.bind' (a := w) (by unfold slices_Clone_int_int.f; rw [if_pos (by omega)]) (Tl.pos ⟨by omega, by have := p1.1; simp only; omega, hw⟩ (Tl.bind' (a := ins w x p) ?_ (Tl.bind (ev_Validate _) ?_))))
      · simp only [Int.toNat_natCast]; rfl
      · by_cases e : vc (ins w x p) = 0
        · exact Tl.to (Tl.pos e Tl.now) (by rw [if_pos e])
        · exact Tl.to (Tl.neg e Tl.now) (by rw [if_neg e])
  · exact ⟨0, fun q => absurd q h, by rw [if_neg h]; exact Tl.bind (ev_Validate w) (Tl.neg h Tl.now)⟩
theorem rw_loop {w : List Int} {x : Int} {p : Nat} (hw : w.length ≤ 1000) (hp : At w x p) : ∀ (d i : Nat), i ≤ p → p - i = d → Tl (fun k => diaphoneref07_With.l0 k w x (w.take i) (i : Int)) (if vc (ins w x p) = 0 then (ins w x p, 0) else ([], vc (ins w x p))) := by
  obtain ⟨h1, h2, h3⟩ := hp
  have tl : ∀ i, i ≤ w.length → (w.take i).length = i := fun i hi => by rw [List.length_take]; omega
  have fin : Tl (fun k => (diaphoneref07_Validate.f k (ins w x p)).bind fun t115 => (if t115 = 0 then (some (ins w x p, 0)) else (some (([] : List Int), t115)))) (if vc (ins w x p) = 0 then (ins w x p, 0) else ([], vc (ins w x p))) := by
    refine Tl.bind (ev_rValidate _) ?_
    by_cases e : vc (ins w x p) = 0
    · exact Tl.to (Tl.pos e Tl.now) (by rw [if_pos e])
    · exact Tl.to (Tl.neg e Tl.now) (by rw [if_neg e])
  have ei : w.take p ++ [x] ++ w.drop p = ins w x p := by unfold ins; simp
  have dl : (w.drop p).length ≤ 1000 := by rw [List.length_drop]; omega
  intro d
  induction d with
  | zero =>
    intro i hi hd
    obtain rfl : i = p := by omega
    have t := tl i h1
    refine Tl.succ ?_
    simp only [diaphoneref07_With.l0]
    rw [t, Int.toNat_natCast]
    by_cases c : i < w.length
    · refine Tl.pos (by omega) (Tl.pos (by omega) (Tl.neg (by have := h3 i (Nat.le_refl _) c; omega) (Tl.pos (by omega) (Tl.bind' rfl (Tl.pos (by omega) (Tl.pos (by omega) (Tl.pos ?_ (Tl.bind' (a := ins w x i) ?_ fin))))))))
      · rw [List.length_append, t, List.length_cons, List.length_nil]; omega
      · rw [ei]
    · refine Tl.neg (by omega) (Tl.pos (by omega) (Tl.bind' rfl (Tl.pos (by omega) (Tl.pos (by omega) (Tl.pos ?_ (Tl.bind' (a := ins w x i) ?_ fin))))))
      · rw [List.length_append, t, List.length_cons, List.length_nil]; omega
      · rw [ei]
  | succ d ih =>
    intro i hi hd
    have hil : i < w.length := by omega
    have t := tl i (by omega)
    have next := ih (i + 1) (by omega) (by omega)
    have E := Aside0.mk (show wrap64 ((i : Int) + 1) = ((i + 1 : Nat) : Int) by rw [w64 (by omega) (by omega)]; omega)
    refine Tl.succ ?_
    simp only [diaphoneref07_With.l0]
    rw [E.out, t, rd_lt hil, ← List.take_succ_eq_append_getElem hil]
    have hlt := h2 i (by omega)
    rw [rd_lt hil] at hlt
    exact Tl.pos (by omega) (Tl.pos (by omega) (Tl.pos hlt (Tl.pos (by omega) next)))
theorem ev_rWith {w : List Int} {x : Int} {p : Nat} (hw : w.length ≤ 1000) (hp : vc w = 0 → At w x p) : Tl (fun k => diaphoneref07_With.f k w x) (wr w x p) := by
  unfold diaphoneref07_With.f wr
  by_cases h : vc w = 0
  · rw [if_pos h]
    refine Tl.bind (ev_rValidate w) (Tl.pos h (Tl.bind (ev_Has hw x) ?_))
    by_cases c : x ∈ w
    · rw [if_pos c]; exact Tl.pos (decide_eq_true c) Tl.now
    · rw [if_neg c]
      have := rw_loop hw (hp h) p 0 (by omega) (by omega)
      rw [List.take_zero] at this
      exact Tl.neg (by rw [decide_eq_true_eq]; exact c) this
  · rw [if_neg h]; exact Tl.bind (ev_rValidate w) (Tl.neg h Tl.now)
theorem ev_Same {l : List Int} (hl : l.length ≤ 1000) : Tl (fun k => diaphoneref07_SameInts.f k l l) true := by
  have loop : ∀ d i : Nat, i + d = l.length → Tl (fun k => diaphoneref07_SameInts.l0 k l l (i : Int)) true := by
    intro d
    induction d with
    | zero =>
      intro i h
      refine Tl.succ ?_
      simp only [diaphoneref07_SameInts.l0]
      exact Tl.neg (by omega) Tl.now
    | succ d ih =>
      intro i h
      have next := ih (i + 1) (by omega)
      have E := Aside0.mk (show wrap64 ((i : Int) + 1) = ((i + 1 : Nat) : Int) by rw [w64 (by omega) (by omega)]; omega)
      refine Tl.succ ?_
      simp only [diaphoneref07_SameInts.l0]
      rw [E.out]
      exact Tl.pos (by omega) (Tl.pos (by omega) (Tl.pos (by omega) (Tl.pos trivial next)))
  unfold diaphoneref07_SameInts.f
  exact Tl.pos rfl (loop l.length 0 (by omega))
/-! What is made up. -/
theorem at_ins {w : List Int} {x : Int} {p : Nat} {i : Nat} (hi : i < w.length) : ∃ j : Nat, j < (ins w x p).length ∧ rd (ins w x p) (j : Int) = rd w (i : Int) := by
  have hm : w[i] ∈ ins w x p := by
    unfold ins
    have : w[i] ∈ w.take p ++ w.drop p := by rw [List.take_append_drop]; exact List.getElem_mem hi
    rcases List.mem_append.1 this with h | h
    · exact List.mem_append.2 (.inl h)
    · exact List.mem_append.2 (.inr (List.mem_cons_of_mem _ h))
  obtain ⟨j, hj, e⟩ := List.getElem_of_mem hm
  exact ⟨j, hj, by rw [rd_lt hj, rd_lt hi, e]⟩
theorem mk_more {w : List Int} {x : Int} {p n c : Nat} (h : Mk w n c) : Mk (ins w x p) n c := by
  induction h with
  | zero => exact .zero
  | step hi _ ih =>
    obtain ⟨j, hj, e⟩ := at_ins (x := x) (p := p) hi
    rw [← e]; exact .step hj ih
theorem mk_less {w : List Int} {x : Int} {p n c : Nat} (hx : ∃ d, Mk w x.toNat d) (h : Mk (ins w x p) n c) : ∃ d, Mk w n d := by
  induction h with
  | zero => exact ⟨0, .zero⟩
  | @step n c j hj _ ih =>
    obtain ⟨d, hd⟩ := ih
    have hm := List.getElem_mem hj
    rw [rd_lt hj]
    generalize (ins w x p)[j] = v at hm
    unfold ins at hm
    have : v ∈ w ∨ v = x := by
      rcases List.mem_append.1 hm with h | h
      · exact .inl (List.mem_of_mem_take h)
      · rcases List.mem_cons.1 h with h | h
        · exact .inr h
        · exact .inl (List.mem_of_mem_drop h)
    rcases this with h | h
    · obtain ⟨i, hi, e⟩ := List.getElem_of_mem h
      rw [← e, ← rd_lt hi]; exact ⟨_, .step hi hd⟩
    · subst h
      obtain ⟨d', hd'⟩ := hx
      exact ⟨_, mk_add hd hd'⟩
theorem wr_zero {w : List Int} {x : Int} {p : Nat} (h : (wr w x p).2 = 0) : vc w = 0 ∧ vc (ins w x p) = 0 ∧ (wr w x p).1 = ins w x p := by
  unfold wr at h ⊢
  by_cases h1 : vc w = 0
  · rw [if_pos h1] at h ⊢
    by_cases h2 : x ∈ w
    · rw [if_pos h2] at h; exact absurd h (by simp)
    · rw [if_neg h2] at h ⊢
      by_cases h3 : vc (ins w x p) = 0
      · rw [if_pos h3] at h ⊢; exact ⟨h1, h3, rfl⟩
      · rw [if_neg h3] at h; exact absurd h h3
  · rw [if_neg h1] at h; exact absurd h h1
theorem fin {w : List Int} {x m : Int} {p : Nat} (hp : vc w = 0 → At w x p) : Tl (fun k => diaphonelaw07_ChargeWith.j0 k w x m (wr w x p).1 (wr w x p).2 false) true := by
  refine Tl.succ ?_
  simp only [diaphonelaw07_ChargeWith.j0]
  refine Tl.neg (by simp) ?_
  by_cases h : (wr w x p).2 = 0
  case neg => exact Tl.neg h ev_sane'
  obtain ⟨v1, v2, v3⟩ := wr_zero h
  have ok1 := vc_ok.1 v1
  have ok2 := vc_ok.1 v2
  have hl := ins_len (x := x) (hp v1).1
  rw [v3]
  refine Tl.pos h (Tl.bind (ev_Can w m) (Tl.bind (ev_Can (ins w x p) m) (Tl.bind (ev_Can w x) ?_)))
  have hx : 1 ≤ x ∧ x ≤ 30 := by
    have hm : x ∈ ins w x p := by unfold ins; simp
    obtain ⟨j, hj, e⟩ := List.getElem_of_mem hm
    have := (ok2.2 j hj).1
    rw [rd_lt hj, e] at this; exact this
  have hacx : ac w x = 0 := ac_ok.2 ⟨ok1, by omega, by omega⟩
  have hac : ac w m = ac (ins w x p) m := by
    unfold ac; rw [if_pos v1, if_pos v2]
  have c2 : (cc w m).2 = ac w m := by
    unfold cc; split
    · rename_i q; exact q.symm
    · rfl
  have c3 : (cc (ins w x p) m).2 = ac (ins w x p) m := by
    unfold cc; split
    · rename_i q; exact q.symm
    · rfl
  have c4 : (cc w x).2 = 0 := by unfold cc; rw [if_pos hacx]
  have up : (cc w m).1 = true → (cc (ins w x p) m).1 = true := by
    unfold cc
    rw [← hac]
    by_cases q : ac w m = 0
    · rw [if_pos q, if_pos q]
      intro hq
      obtain ⟨c, hc⟩ := fw_nonneg.1 (show 0 ≤ fw w m.toNat from of_decide_eq_true hq)
      exact decide_eq_true (show fw (ins w x p) m.toNat ≥ 0 from fw_nonneg.2 ⟨c, mk_more hc⟩)
    · rw [if_neg q, if_neg q]; exact fun hq => hq
  have dn : (cc w x).1 = true → (cc (ins w x p) m).1 = true → (cc w m).1 = true := by
    unfold cc
    rw [← hac, if_pos hacx]
    by_cases q : ac w m = 0
    · rw [if_pos q, if_pos q]
      intro ho hq
      have o1 := fw_nonneg.1 (show 0 ≤ fw w x.toNat from of_decide_eq_true ho)
      obtain ⟨c, hc⟩ := fw_nonneg.1 (show 0 ≤ fw (ins w x p) m.toNat from of_decide_eq_true hq)
      exact decide_eq_true (show fw w m.toNat ≥ 0 from fw_nonneg.2 (mk_less o1 hc))
    · rw [if_neg q, if_neg q]; exact fun _ hq => hq
  refine Tl.pos (by rw [c2, c3, hac]) (Tl.pos c4 ?_)
  by_cases b1 : (cc w m).1 = true
  · refine Tl.pos b1 (Tl.pos (up b1) ?_)
    by_cases b3 : (cc w x).1 = true
    · exact Tl.pos b3 (Tl.pos (by rw [b1, up b1]; rfl) ev_sane')
    · exact Tl.neg b3 ev_sane'
  · refine Tl.neg b1 ?_
    by_cases b3 : (cc w x).1 = true
    · have b2 : ¬ (cc (ins w x p) m).1 = true := fun q => b1 (dn b3 q)
      refine Tl.pos b3 (Tl.pos ?_ ev_sane')
      rw [Bool.eq_false_iff.2 b1, Bool.eq_false_iff.2 b2]; rfl
    · exact Tl.neg b3 ev_sane'
end Wit
theorem ChargeWith : ∀ (x0 : List Int) (x1 : Int) (x2 : Int), ((∀ y ∈ x0, (Lit.int .i64 y).wf = true) ∧ x0.length ≤ maxLen) → ((Lit.int .i64 x1).wf = true) → ((Lit.int .i64 x2).wf = true) → ∃ k, diaphonelaw07_ChargeWith.f k x0 x1 x2 = some true := by
  intro w x m _ _ _
  refine Tl.ex (g := fun k => diaphonelaw07_ChargeWith.f k w x m) ?_
  unfold diaphonelaw07_ChargeWith.f
  refine by_long (fun hl => ?_)
  obtain ⟨p, hp, e⟩ := Wit.ev_With (w := w) (x := x) (by omega)
  have hs : (Wit.wr w x p).1.length ≤ 1000 := by
    by_cases h : (Wit.wr w x p).2 = 0
    · obtain ⟨v1, v2, v3⟩ := Wit.wr_zero h
      rw [v3, Wit.ins_len (hp v1).1]; omega
    · unfold Wit.wr at h ⊢
      split
      · split
        · simp
        · split
          · rename_i h1 h2 h3; rw [if_pos h1, if_neg h2, if_pos h3] at h; exact absurd rfl h
          · simp
      · simp
  refine Tl.bind e (Tl.bind (Wit.ev_rWith (by omega) hp) (Tl.bind (Wit.ev_Same hs) (Tl.pos rfl ?_)))
  rw [show ((Wit.wr w x p).2 != (Wit.wr w x p).2) = false by simp]
  exact Wit.fin hp
end Go.Proofs.Ytgndhijhcliegaa.Pure
