/- Blasts of a tone, and tones with given blasts: what both programs calculate. -/
import Derived.Test.YtmpmfjnmfgnhcaaSm
import Derived.Test.YtmpmfjnmfgnhcaaPx26
import Derived.Test.YtmpmfjnmfgnhcaaPx27
import Derived.Test.YtmpmfjnmfgnhcaaPx26
import Derived.Test.YtmpmfjnmfgnhcaaPx29
set_option linter.unusedVariables false
namespace Go.Proofs.Ytmpmfjnmfgnhcaa.Bt
open Go.RowKit Go.Proofs.Ytmpmfjnmfgnhcaa.P Go.Proofs.Ytmpmfjnmfgnhcaa.E Go.Proofs.Ytmpmfjnmfgnhcaa.Va Go.Proofs.Ytmpmfjnmfgnhcaa.Pe Go.Proofs.Ytmpmfjnmfgnhcaa.Nm Go.Proofs.Ytmpmfjnmfgnhcaa.Sm Go.Proofs.YtmpmfjnmfgnhcaaW.PrintMore
open Go.Proofs.YtmpmfjnmfgnhcaaW.PrintWords
/-- The seconds of runs, the first of which has number j. -/
def ex : Nat → List Int → List Int
  | _, [] => []
  | j, a :: l => List.replicate a.toNat (1 - ((j % 2 : Nat) : Int)) ++ ex (j + 1) l
theorem ex_append (m : List Int) : ∀ (l : List Int) (j : Nat), ex j (l ++ m) = ex j l ++ ex (j + l.length) m := by
  intro l
  induction l with
  | nil => intro j; simp [ex]
  | cons a l ih =>
    intro j
    rw [List.cons_append, ex, ex, ih, List.append_assoc, List.length_cons, show j + 1 + l.length = j + (l.length + 1) by omega]
theorem ex_snoc (l : List Int) (a : Int) : ex 0 (l ++ [a]) = ex 0 l ++ List.replicate a.toNat (1 - ((l.length % 2 : Nat) : Int)) := by
  rw [ex_append]; simp [ex]
theorem ex_bits : ∀ (l : List Int) (j : Nat), ∀ x ∈ ex j l, x = 0 ∨ x = 1 := by
  intro l
  induction l with
  | nil => intro j x hx; simp [ex] at hx
  | cons a l ih =>
    intro j x hx
    rw [ex] at hx
    rcases List.mem_append.1 hx with h | h
    · have := (List.mem_replicate.1 h).2
      omega
    · exact ih _ x h
/-- The list with its last number one greater. -/
def inc (l : List Int) : List Int := l.set (l.length - 1) (rd l ((l.length : Int) - 1) + 1)
theorem set_snoc (C : List Int) (r v : Int) : (C ++ [r]).set C.length v = C ++ [v] := by simp
theorem rd_snoc (C : List Int) (r : Int) : rd (C ++ [r]) (C.length : Int) = r := by
  rw [rd_lt (by simp)]; simp
theorem inc_snoc (C : List Int) (r : Int) : inc (C ++ [r]) = C ++ [r + 1] := by
  unfold inc
  rw [show (C ++ [r]).length - 1 = C.length by simp, show (((C ++ [r]).length : Int) - 1) = (C.length : Int) by simp, rd_snoc, set_snoc]
/-- The runs of the first seconds. -/
def rn (t : List Int) : Nat → List Int
  | 0 => []
  | i + 1 => if i = 0 ∨ rd t (i : Int) ≠ rd t ((i : Int) - 1) then rn t i ++ [1] else inc (rn t i)
theorem rn_inv {t : List Int} (ok : Ok t) (h1 : rd t 0 = 1) (d : Nat) : d + 1 ≤ t.length → ∃ (C : List Int) (r : Int), rn t (d + 1) = C ++ [r] ∧ 1 ≤ r ∧ r ≤ 24 ∧ (∀ c ∈ C, 1 ≤ c ∧ c ≤ 24) ∧ C.length < d + 1 ∧ ex 0 (C ++ [r]) = t.take (d + 1) ∧ rd t (d : Int) = 1 - ((C.length % 2 : Nat) : Int) := by
  have hl := ok.2.1
  induction d with
  | zero =>
    intro h
    refine ⟨[], 1, by simp [rn], by omega, by omega, by simp, by simp, ?_, by simpa using h1⟩
    have : t = rd t 0 :: t.drop 1 := by
      have := rd_lt (xs := t) (i := 0) (by omega)
      have e := drop_cons (h := t) (i := 0) (by omega)
      rw [List.drop_zero] at e
      rw [show ((0 : Nat) : Int) = 0 from rfl] at this
      rw [this]; exact e
    rw [this, h1]; simp [ex]
  | succ d ih =>
    intro h
    obtain ⟨C, r, e1, r1, r2, hC, hlen, hex, hla⟩ := ih (by omega)
    have hd : d + 1 < t.length := by omega
    have hb := ok.2.2 (d + 1) hd
    have htk : t.take (d + 1 + 1) = t.take (d + 1) ++ [rd t ((d + 1 : Nat) : Int)] := by rw [List.take_succ_eq_append_getElem hd, rd_lt hd]
    by_cases c : rd t ((d + 1 : Nat) : Int) = rd t (d : Int)
    · have e2 : rn t (d + 1 + 1) = C ++ [r + 1] := by
        rw [rn, if_neg, e1, inc_snoc]
        rw [show ((d + 1 : Nat) : Int) - 1 = (d : Int) by omega]
        omega
      have hex2 : ex 0 (C ++ [r + 1]) = t.take (d + 1 + 1) := by
        rw [htk, ← hex, ex_snoc, ex_snoc, show (r + 1).toNat = r.toNat + 1 by omega, List.replicate_succ', c, hla]; simp
      have hlen2 : (ex 0 (C ++ [r + 1])).length = d + 1 + 1 := by rw [hex2]; simp; omega
      rw [ex_snoc] at hlen2
      simp only [List.length_append, List.length_replicate] at hlen2
      exact ⟨C, r + 1, e2, by omega, by omega, hC, by omega, hex2, by rw [c, hla]⟩
    · have e2 : rn t (d + 1 + 1) = (C ++ [r]) ++ [1] := by
        rw [rn, if_pos, e1]
        rw [show ((d + 1 : Nat) : Int) - 1 = (d : Int) by omega]
        exact .inr c
      have hv : rd t ((d + 1 : Nat) : Int) = 1 - (((C ++ [r]).length % 2 : Nat) : Int) := by
        simp only [List.length_append, List.length_singleton]
        omega
      refine ⟨C ++ [r], 1, e2, by omega, by omega, ?_, by simp; omega, ?_, hv⟩
      · intro x hx
        rcases List.mem_append.1 hx with h | h
        · exact hC x h
        · rw [List.mem_singleton] at h; omega
      · rw [htk, ← hex, ex_snoc (C ++ [r]), hv]; simp
theorem bl_loop {t : List Int} (ok : Ok t) (h1 : rd t 0 = 1) (d : Nat) : ∀ i : Nat, i ≤ t.length → t.length - i = d → Tl (fun k => tone_Blasts.l0 k t (rn t i) t (t.length : Int) (i : Int)) (rn t t.length, 0) := by
  have hl := ok.2.1
  induction d with
  | zero =>
    intro i h2 h3
    obtain rfl : i = t.length := by omega
    refine Tl.succ ?_
    simp only [tone_Blasts.l0]
    exact Tl.neg (by omega) Tl.now
  | succ d ih =>
    intro i h2 h3
    have next := ih (i + 1) (by omega) (by omega)
    have st : ∀ (D : List Int) (r : Int), D.length ≤ 100 → 0 ≤ r → r ≤ 100 → rn t (i + 1) = D ++ [r + 1] →
        Tl (fun k => if 0 ≤ (wrap64 (((D ++ [r]).length : Int) - 1)) then (if (wrap64 (((D ++ [r]).length : Int) - 1)) < ((D ++ [r]).length : Int) then (tone_Blasts.l0 k t ((D ++ [r]).set ((wrap64 (((D ++ [r]).length : Int) - 1)) : Int).toNat (wrap64 ((rd (D ++ [r]) (wrap64 (((D ++ [r]).length : Int) - 1))) + 1))) t (t.length : Int) (wrap64 ((i : Int) + 1))) else none) else none) (rn t t.length, 0) := by
      intro D r hD r1 r2 hr
      have e : wrap64 (((D ++ [r]).length : Int) - 1) = (D.length : Int) := by
        rw [show (((D ++ [r]).length : Int) - 1) = (D.length : Int) by simp, w64 (by omega) (by omega)]
      rw [e, rd_snoc, w64 (x := r + 1) (by omega) (by omega), w64 (x := (i : Int) + 1) (by omega) (by omega), Int.toNat_natCast, set_snoc, ← hr]
      exact Tl.pos (by omega) (Tl.pos (by simp; omega) next)
    refine Tl.succ ?_
    simp only [tone_Blasts.l0]
    refine Tl.pos (by omega) (Tl.pos (by omega) (Tl.pos (by omega) ?_))
    by_cases z : i = 0
    · subst z
      refine Tl.pos (by omega) (Tl.pos (by simp [rn]) (Tl.bind' rfl ?_))
      exact st [] 0 (by simp) (by omega) (by omega) (by simp [rn])
    · obtain ⟨m, rfl⟩ : ∃ m, i = m + 1 := ⟨i - 1, by omega⟩
      obtain ⟨C, r, e1, r1, r2, hC, hlen, hex, hla⟩ := rn_inv ok h1 m (by omega)
      rw [show ((m + 1 : Nat) : Int) - 1 = (m : Int) by omega, w64 (x := (m : Int)) (by omega) (by omega)]
      refine Tl.neg (by omega) (Tl.pos (by omega) (Tl.pos (by omega) ?_))
      by_cases c : rd t ((m + 1 : Nat) : Int) = rd t (m : Int)
      · refine Tl.pos c ?_
        rw [e1]
        refine st C r (by omega) (by omega) (by omega) ?_
        rw [rn, if_neg, e1, inc_snoc]
        rw [show ((m + 1 : Nat) : Int) - 1 = (m : Int) by omega]
        omega
      · refine Tl.neg c (Tl.pos (by rw [e1]; simp; omega) (Tl.bind' rfl ?_))
        rw [e1]
        refine st (C ++ [r]) 0 (by simp; omega) (by omega) (by omega) ?_
        rw [rn, if_pos, e1]; rfl
        rw [show ((m + 1 : Nat) : Int) - 1 = (m : Int) by omega]
        exact .inr c
theorem rbl_loop {t : List Int} (ok : Ok t) (h1 : rd t 0 = 1) (d : Nat) : ∀ (i : Nat) (D : List Int) (r : Int), i ≤ t.length → t.length - i = d → D.length ≤ i → 0 ≤ r → r ≤ i → (i = t.length → D = rn t i) →
    (i < t.length → rn t (i + 1) = D ++ [r + 1]) → Tl (fun k => diaphoneref01_Blasts.l0 k t D r (i : Int)) (rn t t.length, 0) := by
  have hl := ok.2.1
  induction d with
  | zero =>
    intro i D r h2 h3 _ _ _ h4 _
    obtain rfl : i = t.length := by omega
    refine Tl.succ ?_
    simp only [diaphoneref01_Blasts.l0]
    exact Tl.to (Tl.neg (by omega) Tl.now) (by rw [h4 rfl])
  | succ d ih =>
    intro i D r h2 h3 hD r1 r2 h4 h5
    have e1 := h5 (by omega)
    refine Tl.succ ?_
    simp only [diaphoneref01_Blasts.l0]
    rw [w64 (x := (i : Int) + 1) (by omega) (by omega), w64 (x := r + 1) (by omega) (by omega)]
    refine Tl.pos (by omega) ?_
    have ei : (i : Int) + 1 = ((i + 1 : Nat) : Int) := by omega
    by_cases c : i + 1 = t.length
    · refine Tl.pos (by omega) (Tl.pos (by omega) ?_)
      rw [ei]
      exact ih (i + 1) _ 0 (by omega) (by omega) (by simp; omega) (by omega) (by omega) (fun _ => e1.symm) (fun q => by omega)
    · refine Tl.neg (by omega) (Tl.pos (by omega) (Tl.pos (by omega) (Tl.pos (by omega) ?_)))
      rw [ei]
      by_cases c2 : rd t ((i + 1 : Nat) : Int) = rd t (i : Int)
      · refine Tl.pos c2 (ih (i + 1) D (r + 1) (by omega) (by omega) (by omega) (by omega) (by omega) (fun q => absurd q c) (fun _ => ?_))
        rw [rn, if_neg, e1, inc_snoc]
        rw [show ((i + 1 : Nat) : Int) - 1 = (i : Int) by omega]
        omega
      · refine Tl.neg c2 (Tl.pos (by omega) (ih (i + 1) _ 0 (by omega) (by omega) (by simp; omega) (by omega) (by omega) (fun q => absurd q c) (fun _ => ?_)))
        rw [rn, if_pos, e1]; rfl
        rw [show ((i + 1 : Nat) : Int) - 1 = (i : Int) by omega]
        exact .inr c2
/-- What the blasts of a list come to. -/
def bc (t : List Int) : List Int × Int := if vc t = 0 then (if rd t 0 = 1 ∧ rd t ((t.length : Int) - 1) = 0 then (rn t t.length, 0) else ([], 6)) else ([], vc t)
theorem ev_Blasts {t : List Int} (hl : t.length ≤ 1000) : Tl (fun k => tone_Blasts.f k t) (bc t) := by
  unfold tone_Blasts.f bc
  refine Tl.bind (ev_Validate hl) ?_
  by_cases hk : vc t = 0
  · have ok := vc_ok.1 hk
    have h0 := ok.1
    have j : ∀ b : Bool, (b = true ↔ ¬ rd t 0 = 1 ∨ ¬ rd t ((t.length : Int) - 1) = 0) → Tl (fun k => tone_Blasts.j0 k t b) (if rd t 0 = 1 ∧ rd t ((t.length : Int) - 1) = 0 then (rn t t.length, 0) else ([], 6)) := by
      intro b hb
      refine Tl.succ ?_
      simp only [tone_Blasts.j0]
      by_cases c : rd t 0 = 1 ∧ rd t ((t.length : Int) - 1) = 0
      · rw [if_pos c]
        have : ¬ b = true := fun q => by have := hb.1 q; omega
        exact Tl.neg this (bl_loop ok c.1 t.length 0 (by omega) (by omega))
      · rw [if_neg c]
        exact Tl.pos (hb.2 (by omega)) Tl.now
    rw [if_pos hk]
    refine Tl.pos hk (Tl.pos (by omega) ?_)
    rw [w64 (by omega) (by omega)]
    by_cases c : rd t 0 = 1
    · refine Tl.pos c (Tl.pos (by omega) (Tl.pos (by omega) (j _ ?_)))
      rw [bne_iff_ne]
      simp [c]
    · refine Tl.neg c (j _ ?_)
      simp [c]
  · rw [if_neg hk]
    exact Tl.neg hk Tl.now
theorem ev_rBlasts {t : List Int} (hl : t.length ≤ 1000) : Tl (fun k => diaphoneref01_Blasts.f k t) (bc t) := by
  unfold diaphoneref01_Blasts.f bc
  refine Tl.bind (ev_rValidate hl) ?_
  by_cases hk : vc t = 0
  · have ok := vc_ok.1 hk
    have h0 := ok.1
    have j : ∀ b : Bool, (b = true ↔ ¬ rd t 0 = 1 ∨ ¬ rd t ((t.length : Int) - 1) = 0) → Tl (fun k => diaphoneref01_Blasts.j0 k t b) (if rd t 0 = 1 ∧ rd t ((t.length : Int) - 1) = 0 then (rn t t.length, 0) else ([], 6)) := by
      intro b hb
      refine Tl.succ ?_
      simp only [diaphoneref01_Blasts.j0]
      by_cases c : rd t 0 = 1 ∧ rd t ((t.length : Int) - 1) = 0
      · rw [if_pos c]
        have : ¬ b = true := fun q => by have := hb.1 q; omega
        exact Tl.neg this (rbl_loop ok c.1 t.length 0 [] 0 (by omega) (by omega) (by simp) (by omega) (by omega) (fun q => by omega) (fun _ => by simp [rn]))
      · rw [if_neg c]
        exact Tl.pos (hb.2 (by omega)) Tl.now
    rw [if_pos hk]
    refine Tl.pos hk (Tl.pos (by omega) ?_)
    rw [w64 (by omega) (by omega)]
    by_cases c : rd t 0 = 1
    · refine Tl.pos c (Tl.pos (by omega) (Tl.pos (by omega) (j _ ?_)))
      rw [bne_iff_ne]
      simp [c]
    · refine Tl.neg c (j _ ?_)
      simp [c]
  · rw [if_neg hk]
    exact Tl.neg hk Tl.now
/-- A list of lengths of blasts and silences. -/
def In (l : List Int) : Prop := ∀ i : Nat, i < l.length → 1 ≤ rd l (i : Int) ∧ rd l (i : Int) ≤ 24
def inb (l : List Int) : Bool := l.all (fun x => decide (1 ≤ x ∧ x ≤ 24))
theorem inb_drop {t : List Int} {i : Nat} (hi : i < t.length) : inb (t.drop i) = (decide (1 ≤ rd t (i : Int) ∧ rd t (i : Int) ≤ 24) && inb (t.drop (i + 1))) := by
  rw [drop_cons hi, rd_lt hi]; rfl
theorem inb_iff {l : List Int} : inb l = true ↔ In l := by
  unfold inb In
  constructor
  · intro h i hi
    rw [rd_lt hi]
    have := List.all_eq_true.1 h _ (List.getElem_mem hi)
    simpa using this
  · intro h
    refine List.all_eq_true.2 (fun x hx => ?_)
    obtain ⟨i, hi, rfl⟩ := List.getElem_of_mem hx
    have := h i hi
    rw [rd_lt hi] at this
    simpa using this
theorem ex_take_succ {l : List Int} {i : Nat} (hi : i < l.length) : ex 0 (l.take (i + 1)) = ex 0 (l.take i) ++ List.replicate (rd l (i : Int)).toNat (1 - ((i % 2 : Nat) : Int)) := by
  rw [List.take_succ_eq_append_getElem hi, ex_snoc, rd_lt hi]
  simp only [List.length_take]
  rw [Nat.min_eq_left (by omega)]
theorem ex_mono {l : List Int} {i : Nat} (hi : i ≤ l.length) : (ex 0 (l.take i)).length ≤ (ex 0 l).length := by
  conv => rhs; rw [← List.take_append_drop i l, ex_append]
  simp
/-- What the tone with given blasts comes to. -/
def fc (l : List Int) : List Int × Int := if 2 ≤ l.length ∧ l.length % 2 = 0 ∧ inb l = true then (if (ex 0 l).length ≤ 24 then (ex 0 l, 0) else ([], 3)) else ([], 1)
theorem par_eq (i : Nat) : wrap64 (1 - Int.tmod (i : Int) 2) = 1 - ((i % 2 : Nat) : Int) := by
  rw [Int.tmod_eq_emod_of_nonneg (by omega), w64 (by omega) (by omega)]; omega
theorem flat_rep (n : Nat) (x : Int) : (List.replicate n [x]).flatten = List.replicate n x := by
  induction n with
  | zero => rfl
  | succ n ih => rw [List.replicate_succ, List.flatten_cons, ih, List.replicate_succ]; rfl
theorem fb_loop {l : List Int} (hl : l.length ≤ 1000) (hin : In l) (d : Nat) : ∀ i : Nat, i ≤ l.length → l.length - i = d → (ex 0 (l.take i)).length ≤ 24 → Tl (fun k => tone_FromBlasts.l0 k (ex 0 (l.take i)) l (l.length : Int) (i : Int)) (if (ex 0 l).length ≤ 24 then (ex 0 l, 0) else ([], 3)) := by
  induction d with
  | zero =>
    intro i h1 h2 h3
    obtain rfl : i = l.length := by omega
    rw [List.take_length] at h3 ⊢
    refine Tl.succ ?_
    simp only [tone_FromBlasts.l0]
    exact Tl.to (Tl.neg (by omega) Tl.now) (by rw [if_pos h3])
  | succ d ih =>
    intro i h1 h2 h3
    have hi : i < l.length := by omega
    have hr := hin i hi
    have e1 := ex_take_succ hi
    have e2 := congrArg List.length e1
    rw [List.length_append, List.length_replicate] at e2
    have hm := ex_mono (l := l) (i := i + 1) (by omega)
    refine Tl.succ ?_
    simp only [tone_FromBlasts.l0]
    rw [w64 (x := ((ex 0 (l.take i)).length : Int) + rd l (i : Int)) (by omega) (by omega), w64 (x := (i : Int) + 1) (by omega) (by omega), par_eq]
    refine Tl.pos (by omega) (Tl.pos (by omega) (Tl.pos (by omega) ?_))
    by_cases c : ((ex 0 (l.take i)).length : Int) + rd l (i : Int) > 24
    · exact Tl.to (Tl.pos c Tl.now) (by rw [if_neg (by omega)])
    · have next := ih (i + 1) (by omega) (by omega) (by omega)
      have er : slices_Repeat_int_int.f [1 - ((i % 2 : Nat) : Int)] (rd l (i : Int)) = some (List.replicate (rd l (i : Int)).toNat (1 - ((i % 2 : Nat) : Int))) := by
        unfold slices_Repeat_int_int.f
        rw [if_pos (by simp), if_pos (by simp), if_pos (by omega), if_pos (by omega), flat_rep]
      refine Tl.neg c (Tl.bind' er (Tl.pos (by simp; omega) ?_))
      rw [← e1]
      exact next
theorem fbc_loop (t : List Int) (hl : t.length ≤ 1000) (d : Nat) : ∀ i : Nat, i ≤ t.length → t.length - i = d → ∃ j : Int, (j < 0 ↔ inb (t.drop i) = true) ∧ Tl (fun k => slices_IndexFunc_int_int_tone_FromBlasts_1.l0 k t (t.length : Int) (i : Int)) j := by
  induction d with
  | zero =>
    intro i h1 h2
    refine ⟨-1, ?_, ?_⟩
    · rw [List.drop_eq_nil_of_le (by omega)]; simp [inb]
    · refine Tl.succ ?_
      simp only [slices_IndexFunc_int_int_tone_FromBlasts_1.l0]
      exact Tl.neg (by omega) Tl.now
  | succ d ih =>
    intro i h1 h2
    have hlt : i < t.length := by omega
    obtain ⟨j, hj, next⟩ := ih (i + 1) (by omega) (by omega)
    rw [show ((i + 1 : Nat) : Int) = (i : Int) + 1 by omega, ← w64 (x := (i : Int) + 1) (by omega) (by omega)] at next
    rw [inb_drop hlt]
    have e : tone_FromBlasts_1.f (rd t (i : Int)) = some (!decide (1 ≤ rd t (i : Int) ∧ rd t (i : Int) ≤ 24)) := by
      unfold tone_FromBlasts_1.f
      rw [within_eq]; rfl
    by_cases c : 1 ≤ rd t (i : Int) ∧ rd t (i : Int) ≤ 24
    · refine ⟨j, by rw [hj]; simp [c], ?_⟩
      refine Tl.succ ?_
      simp only [slices_IndexFunc_int_int_tone_FromBlasts_1.l0]
      exact Tl.pos (by omega) (Tl.pos (by omega) (Tl.pos (by omega) (Tl.bind' e (Tl.neg (by simp [c]) next))))
    · refine ⟨(i : Int), by simp [c] <;> omega, ?_⟩
      refine Tl.succ ?_
      simp only [slices_IndexFunc_int_int_tone_FromBlasts_1.l0]
      exact Tl.pos (by omega) (Tl.pos (by omega) (Tl.pos (by omega) (Tl.bind' e (Tl.pos (by simp [c]) Tl.now))))
theorem ev_FromBlasts {l : List Int} (hl : l.length ≤ 1000) : Tl (fun k => tone_FromBlasts.f k l) (fc l) := by
  unfold tone_FromBlasts.f fc
  obtain ⟨j, hj, hr⟩ := fbc_loop l hl l.length 0 (by omega) (by omega)
  rw [List.drop_zero] at hj
  have b : Tl (fun k => slices_ContainsFunc_int_int_tone_FromBlasts_1.f k l) (!inb l) := by
    unfold slices_ContainsFunc_int_int_tone_FromBlasts_1.f
    refine Tl.to (Tl.bind hr Tl.now) ?_
    cases hb : inb l with
    | true => rw [hb] at hj; have := hj.2 rfl; simp; omega
    | false => rw [hb] at hj; have : ¬ j < 0 := fun q => by simpa using hj.1 q
               simp; omega
  have jt : Tl (fun k => tone_FromBlasts.j0 k l true) ([], 1) := by
    refine Tl.succ ?_
    simp only [tone_FromBlasts.j0]
    exact Tl.pos trivial Tl.now
  by_cases c1 : (l.length : Int) < 2
  · rw [if_neg (by omega)]
    exact Tl.pos c1 jt
  · refine Tl.neg c1 ?_
    by_cases c2 : (l.length : Int) % 2 = 0
    · refine Tl.pos c2 (Tl.bind b ?_)
      by_cases c3 : inb l = true
      · rw [if_pos ⟨by omega, by omega, c3⟩, c3]
        refine Tl.succ ?_
        simp only [tone_FromBlasts.j0]
        have := fb_loop hl (inb_iff.1 c3) l.length 0 (by omega) (by omega) (by simp [ex])
        simp only [List.take_zero, ex] at this
        exact Tl.neg (by simp) this
      · rw [if_neg (fun q => c3 q.2.2)]
        rw [show inb l = false by simpa using c3]
        exact jt
    · rw [if_neg (by omega)]
      exact Tl.neg c2 jt
theorem rfb2 {l : List Int} {i : Nat} (hi : i < l.length) {r : List Int × Int} (hr : 0 ≤ rd l (i : Int) ∧ rd l (i : Int) ≤ 24) {x : List Int} (hx : x.length ≤ 1000) (next : Tl (fun k => diaphoneref01_FromBlasts.l1 k l (x ++ List.replicate (rd l (i : Int)).toNat (1 - ((i % 2 : Nat) : Int))) (wrap64 ((i : Int) + 1))) r) (d : Nat) :
    ∀ j : Nat, (j : Int) ≤ rd l (i : Int) → (rd l (i : Int)).toNat - j = d → Tl (fun k => diaphoneref01_FromBlasts.l2 k l (x ++ List.replicate j (1 - ((i % 2 : Nat) : Int))) (i : Int) (j : Int)) r := by
  induction d with
  | zero =>
    intro j h1 h2
    refine Tl.succ ?_
    simp only [diaphoneref01_FromBlasts.l2]
    refine Tl.pos (by omega) (Tl.pos (by omega) (Tl.neg (by omega) ?_))
    rw [show j = (rd l (i : Int)).toNat by omega]
    exact next
  | succ d ih =>
    intro j h1 h2
    have nx := ih (j + 1) (by omega) (by omega)
    rw [List.replicate_succ', ← List.append_assoc, show ((j + 1 : Nat) : Int) = (j : Int) + 1 by omega] at nx
    refine Tl.succ ?_
    simp only [diaphoneref01_FromBlasts.l2]
    rw [par_eq, w64 (x := (j : Int) + 1) (by omega) (by omega)]
    exact Tl.pos (by omega) (Tl.pos (by omega) (Tl.pos (by omega) (Tl.pos (by simp; omega) nx)))
theorem rfb1 {l : List Int} (hl : l.length ≤ 1000) (hin : In l) (h24 : (ex 0 l).length ≤ 24) (d : Nat) : ∀ i : Nat, i ≤ l.length → l.length - i = d → Tl (fun k => diaphoneref01_FromBlasts.l1 k l (ex 0 (l.take i)) (i : Int)) (ex 0 l, 0) := by
  induction d with
  | zero =>
    intro i h1 h2
    obtain rfl : i = l.length := by omega
    rw [List.take_length]
    refine Tl.succ ?_
    simp only [diaphoneref01_FromBlasts.l1]
    exact Tl.neg (by omega) Tl.now
  | succ d ih =>
    intro i h1 h2
    have hi : i < l.length := by omega
    have hr := hin i hi
    have hm := ex_mono (l := l) (i := i) (by omega)
    have next := ih (i + 1) (by omega) (by omega)
    rw [ex_take_succ hi, show ((i + 1 : Nat) : Int) = (i : Int) + 1 by omega, ← w64 (x := (i : Int) + 1) (by omega) (by omega)] at next
    refine Tl.succ ?_
    simp only [diaphoneref01_FromBlasts.l1]
    have := rfb2 hi (by omega) (by omega) next (rd l (i : Int)).toNat 0 (by omega) (by omega)
    simp only [List.replicate_zero, List.append_nil] at this
    exact Tl.pos (by omega) this
theorem rfb0 {l : List Int} (hl : l.length ≤ 1000) (d : Nat) : ∀ i : Nat, i ≤ l.length → l.length - i = d → (∀ j : Nat, j < i → 1 ≤ rd l (j : Int) ∧ rd l (j : Int) ≤ 24) → (ex 0 (l.take i)).length ≤ 24 * i →
    Tl (fun k => diaphoneref01_FromBlasts.l0 k l ((ex 0 (l.take i)).length : Int) (i : Int)) (if inb l = true then (if (ex 0 l).length ≤ 24 then (ex 0 l, 0) else ([], 3)) else ([], 1)) := by
  induction d with
  | zero =>
    intro i h1 h2 h3 h4
    obtain rfl : i = l.length := by omega
    rw [List.take_length]
    rw [if_pos (inb_iff.2 h3)]
    refine Tl.succ ?_
    simp only [diaphoneref01_FromBlasts.l0]
    refine Tl.neg (by omega) ?_
    by_cases c : (ex 0 l).length ≤ 24
    · rw [if_pos c]
      have := rfb1 hl h3 c l.length 0 (by omega) (by omega)
      simp only [List.take_zero, ex] at this
      exact Tl.neg (by omega) this
    · rw [if_neg c]
      exact Tl.pos (by omega) Tl.now
  | succ d ih =>
    intro i h1 h2 h3 h4
    have hi : i < l.length := by omega
    have e1 := ex_take_succ hi
    have e2 := congrArg List.length e1
    rw [List.length_append, List.length_replicate] at e2
    refine Tl.succ ?_
    simp only [diaphoneref01_FromBlasts.l0]
    refine Tl.pos (by omega) (Tl.pos (by omega) (Tl.bind' (rwithin_eq _ _ _) ?_))
    by_cases c : 1 ≤ rd l (i : Int) ∧ rd l (i : Int) ≤ 24
    · refine Tl.pos (decide_eq_true c) ?_
      have next := ih (i + 1) (by omega) (by omega) (fun j hj => by
        by_cases e : j = i
        · rw [e]; exact c
        · exact h3 j (by omega)) (by omega)
      rw [w64 (x := ((ex 0 (l.take i)).length : Int) + rd l (i : Int)) (by omega) (by omega), w64 (x := (i : Int) + 1) (by omega) (by omega)]
      rw [show ((ex 0 (l.take i)).length : Int) + rd l (i : Int) = ((ex 0 (l.take (i + 1))).length : Int) by omega]
      exact next
    · rw [if_neg (fun q => c (inb_iff.1 q i hi))]
      exact Tl.neg (by rw [decide_eq_true_eq]; exact c) Tl.now
theorem ev_rFromBlasts {l : List Int} (hl : l.length ≤ 1000) : Tl (fun k => diaphoneref01_FromBlasts.f k l) (fc l) := by
  unfold diaphoneref01_FromBlasts.f fc
  have jt : Tl (fun k => diaphoneref01_FromBlasts.j0 k l true) ([], 1) := by
    refine Tl.succ ?_
    simp only [diaphoneref01_FromBlasts.j0]
    exact Tl.pos trivial Tl.now
  by_cases c1 : (l.length : Int) < 2
  · rw [if_neg (by omega)]
    exact Tl.pos c1 jt
  · refine Tl.neg c1 ?_
    by_cases c2 : (l.length : Int) % 2 = 0
    · rw [show ((l.length : Int) % 2 != 0) = false by simp; omega]
      refine Tl.succ ?_
      simp only [diaphoneref01_FromBlasts.j0]
      have := rfb0 hl l.length 0 (by omega) (by omega) (fun j hj => by omega) (by simp [ex])
      simp only [List.take_zero, ex, List.length_nil] at this
      refine Tl.neg (by simp) (Tl.to this ?_)
      by_cases c3 : inb l = true
      · rw [if_pos c3]; exact (if_pos ⟨by omega, by omega, c3⟩).symm
      · rw [if_neg c3, if_neg (fun q => c3 q.2.2)]
    · rw [show ((l.length : Int) % 2 != 0) = true by simp; omega, if_neg (by omega)]
      exact jt
/-- The tone is made again from its blasts. -/
theorem back {t : List Int} (ok : Ok t) (h1 : rd t 0 = 1) (h0 : rd t ((t.length : Int) - 1) = 0) : fc (rn t t.length) = (t, 0) := by
  have hl := ok.2.1
  obtain ⟨m, hm⟩ : ∃ m, t.length = m + 1 := ⟨t.length - 1, by have := ok.1; omega⟩
  obtain ⟨C, r, e1, r1, r2, hC, hlen, hex, hla⟩ := rn_inv ok h1 m (by omega)
  rw [← hm] at e1 hex
  rw [List.take_length] at hex
  rw [show (t.length : Int) - 1 = (m : Int) by omega, hla] at h0
  rw [e1]
  unfold fc
  have hin : inb (C ++ [r]) = true := by
    unfold inb
    refine List.all_eq_true.2 (fun x hx => ?_)
    rcases List.mem_append.1 hx with h | h
    · have := hC x h; simpa using this
    · rw [List.mem_singleton] at h; rw [h]; simp; omega
  rw [if_pos ⟨by simp; omega, by simp; omega, hin⟩, hex, if_pos (by omega)]
theorem ex_head {l : List Int} (hl : ∀ x ∈ l, (1 : Int) ≤ x) (j : Nat) {y : Int} {m : List Int} (h : ex j l = y :: m) : y = 1 - ((j % 2 : Nat) : Int) := by
  cases l with
  | nil => simp [ex] at h
  | cons a l =>
    have := hl a (by simp)
    rw [ex, show a.toNat = (a.toNat - 1) + 1 by omega, List.replicate_succ, List.cons_append] at h
    exact (List.cons.inj h).1.symm
theorem ex_inj : ∀ (l m : List Int) (j : Nat), (∀ x ∈ l, (1 : Int) ≤ x) → (∀ x ∈ m, (1 : Int) ≤ x) → ex j l = ex j m → l = m := by
  intro l
  induction l with
  | nil =>
    intro m j _ hm h
    cases m with
    | nil => rfl
    | cons b m =>
      have := hm b (by simp)
      rw [ex, ex, show b.toNat = (b.toNat - 1) + 1 by omega, List.replicate_succ] at h
      simp at h
  | cons a l ih =>
    intro m j hl hm h
    have ha := hl a (by simp)
    cases m with
    | nil =>
      rw [ex, ex, show a.toNat = (a.toNat - 1) + 1 by omega, List.replicate_succ] at h
      simp at h
    | cons b m =>
      have hb := hm b (by simp)
      rw [ex, ex] at h
      have key : ∀ (n : Nat) (u v : List Int), (∀ x ∈ u, (1 : Int) ≤ x) → ex (j + 1) u = List.replicate (n + 1) (1 - ((j % 2 : Nat) : Int)) ++ v → False := by
        intro n u v hu q
        rw [List.replicate_succ, List.cons_append] at q
        have := ex_head hu (j + 1) q
        omega
      rcases Nat.lt_trichotomy a.toNat b.toNat with c | c | c
      · exfalso
        rw [show b.toNat = a.toNat + ((b.toNat - a.toNat - 1) + 1) by omega, ← List.replicate_append_replicate, List.append_assoc] at h
        exact key _ l _ (fun x hx => hl x (by simp [hx])) (List.append_cancel_left h)
      · rw [c] at h
        have := ih m (j + 1) (fun x hx => hl x (by simp [hx])) (fun x hx => hm x (by simp [hx])) (List.append_cancel_left h)
        rw [this, show a = b by omega]
      · exfalso
        rw [show a.toNat = b.toNat + ((a.toNat - b.toNat - 1) + 1) by omega, ← List.replicate_append_replicate, List.append_assoc] at h
        exact key _ m _ (fun x hx => hm x (by simp [hx])) (List.append_cancel_left h).symm
/-- The tone that is made has the given blasts. -/
theorem forth {l : List Int} (h2 : 2 ≤ l.length ∧ l.length % 2 = 0 ∧ inb l = true) (h24 : (ex 0 l).length ≤ 24) : bc (ex 0 l) = (l, 0) := by
  have hin := inb_iff.1 h2.2.2
  have hpos : ∀ x ∈ l, (1 : Int) ≤ x := by
    intro x hx
    obtain ⟨i, hi, rfl⟩ := List.getElem_of_mem hx
    have := (hin i hi).1
    rwa [rd_lt hi] at this
  have hs : ∃ m, ex 0 l = 1 :: m := by
    cases l with
    | nil => simp at h2
    | cons a l =>
      have := hpos a (by simp)
      rw [ex, show a.toNat = (a.toNat - 1) + 1 by omega, List.replicate_succ]
      exact ⟨_, rfl⟩
  obtain ⟨m, hm⟩ := hs
  have hlen : (ex 0 l).length = m.length + 1 := by rw [hm]; rfl
  have ok : Ok (ex 0 l) := by
    refine ⟨by omega, h24, fun i hi => ?_⟩
    rw [rd_lt hi]
    exact ex_bits l 0 _ (List.getElem_mem hi)
  have f1 : rd (ex 0 l) 0 = 1 := by rw [hm]; rfl
  have f2 : rd (ex 0 l) (((ex 0 l).length : Int) - 1) = 0 := by
    obtain ⟨C, r, e⟩ : ∃ C r, l = C ++ [r] := ⟨l.dropLast, l.getLast (by intro q; rw [q] at h2; simp at h2), (List.dropLast_concat_getLast _).symm⟩
    have hr := hpos r (by rw [e]; simp)
    have hc : C.length % 2 = 1 := by have := h2.2.1; rw [e] at this; simp at this; omega
    have e2 : ex 0 l = (ex 0 C ++ List.replicate (r.toNat - 1) 0) ++ [0] := by
      rw [e, ex_snoc, hc, show r.toNat = (r.toNat - 1) + 1 by omega, List.replicate_succ']
      simp
    obtain ⟨D, hD⟩ : ∃ D, D = ex 0 C ++ List.replicate (r.toNat - 1) (0 : Int) := ⟨_, rfl⟩
    rw [← hD] at e2
    have hh : (((D ++ [(0 : Int)]).length : Int) - 1) = (D.length : Int) := by simp
    rw [e2, hh, rd_snoc]
  unfold bc
  rw [if_pos (vc_ok.2 ok), if_pos ⟨f1, f2⟩]
  congr 1
  have hb := back ok f1 f2
  unfold fc at hb
  by_cases c : 2 ≤ (rn (ex 0 l) (ex 0 l).length).length ∧ (rn (ex 0 l) (ex 0 l).length).length % 2 = 0 ∧ inb (rn (ex 0 l) (ex 0 l).length) = true
  · rw [if_pos c] at hb
    have hin2 := inb_iff.1 c.2.2
    by_cases c2 : (ex 0 (rn (ex 0 l) (ex 0 l).length)).length ≤ 24
    · rw [if_pos c2] at hb
      refine ex_inj _ _ 0 (fun x hx => ?_) hpos (Prod.mk.inj hb).1
      obtain ⟨i, hi, rfl⟩ := List.getElem_of_mem hx
      have := (hin2 i hi).1
      rwa [rd_lt hi] at this
    · rw [if_neg c2] at hb
      exact absurd (Prod.mk.inj hb).2 (by omega)
  · rw [if_neg c] at hb
    exact absurd (Prod.mk.inj hb).2 (by omega)
end Go.Proofs.Ytmpmfjnmfgnhcaa.Bt
