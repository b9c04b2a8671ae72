/- Proved here: for all weights and amounts, in how many ways an amount is made up is the document's answer, and it is in none exactly if it is not made up; it holds under no condition. -/
import Derived.Test.YtgndhijhcliegaaRs
import Derived.Test.YtgndhijhcliegaaPx16
import Derived.Test.YtgndhijhcliegaaPx46
import Derived.Test.YtgndhijhcliegaaPx47
set_option linter.unusedVariables false
namespace Go.Proofs.Ytgndhijhcliegaa.Pure
open Go.RowKit Go.Proofs.Ytgndhijhcliegaa.P Go.Proofs.Ytgndhijhcliegaa.E Go.Proofs.Ytgndhijhcliegaa.Va Go.Proofs.Ytgndhijhcliegaa.Kn Go.Proofs.Ytgndhijhcliegaa.Me Go.Proofs.Ytgndhijhcliegaa.Rs Go.Proofs.YtgndhijhcliegaaW.PrintMore
open Go.Proofs.YtgndhijhcliegaaW.PrintWords
namespace Wys
/-- With one weight more: none of it, or one less. -/
def wyi (f : Nat → Nat) (c n : Nat) : Nat := if h : 1 ≤ c ∧ c ≤ n then f n + wyi f c (n - c) else f n
termination_by n
decreasing_by omega
theorem wyi_step {f : Nat → Nat} {c n : Nat} (h1 : 1 ≤ c) (h2 : c ≤ n) : wyi f c n = f n + wyi f c (n - c) := by
  rw [wyi, dif_pos ⟨h1, h2⟩]
theorem wyi_end {f : Nat → Nat} {c n : Nat} (h2 : n < c) : wyi f c n = f n := by
  rw [wyi, dif_neg (by omega)]
/-- In how many ways, by the first weights. -/
def wy (w : List Int) : Nat → Nat → Nat
  | 0 => fun n => if n = 0 then 1 else 0
  | i + 1 => wyi (wy w i) (rd w (i : Int)).toNat
theorem wyi_le {f : Nat → Nat} {c M : Nat} (n : Nat) (h : ∀ m, m ≤ n → f m ≤ M) : wyi f c n ≤ (n + 1) * M := by
  induction n using Nat.strongRecOn with
  | _ n ih =>
    by_cases z : 1 ≤ c ∧ c ≤ n
    · rw [wyi_step z.1 z.2]
      have h1 := ih (n - c) (by omega) (fun m hm => h m (by omega))
      have h2 := h n (Nat.le_refl _)
      have h3 : (n - c + 1) * M ≤ n * M := Nat.mul_le_mul_right _ (by omega)
      rw [Nat.add_mul]
      omega
    · rw [wyi, dif_neg z]
      have h2 := h n (Nat.le_refl _)
      rw [Nat.add_mul]
      omega
theorem wy_le {w : List Int} : ∀ i n : Nat, n ≤ 200 → wy w i n ≤ 201 ^ i := by
  intro i
  induction i with
  | zero => intro n _; show (if n = 0 then 1 else 0) ≤ 1; by_cases h : n = 0 <;> simp [h]
  | succ i ih =>
    intro n hn
    have h1 := wyi_le (f := wy w i) (c := (rd w (i : Int)).toNat) (M := 201 ^ i) n (fun m hm => ih m (by omega))
    have h2 : (n + 1) * 201 ^ i ≤ 201 * 201 ^ i := Nat.mul_le_mul_right _ (by omega)
    rw [Nat.pow_succ, Nat.mul_comm (201 ^ i)]
    exact Nat.le_trans h1 h2
theorem pow_small {i : Nat} (h : i ≤ 4) : 201 ^ i ≤ 1632240801 := by
  have : (201 : Nat) ^ i ≤ 201 ^ 4 := Nat.pow_le_pow_right (by omega) h
  exact Nat.le_trans this (by decide)
theorem wyi_pos {f : Nat → Nat} {c : Nat} (hc : 1 ≤ c) (n : Nat) : 0 < wyi f c n ↔ ∃ t, t * c ≤ n ∧ 0 < f (n - t * c) := by
  induction n using Nat.strongRecOn with
  | _ n ih =>
    by_cases z : c ≤ n
    · rw [wyi_step hc z]
      constructor
      · intro h
        rcases Nat.eq_zero_or_pos (f n) with q | q
        · obtain ⟨t, t1, t2⟩ := (ih (n - c) (by omega)).1 (by omega)
          refine ⟨t + 1, by rw [Nat.add_mul]; omega, ?_⟩
          rw [Nat.add_mul, Nat.one_mul, show n - (t * c + c) = n - c - t * c by omega]
          exact t2
        · exact ⟨0, by omega, by simpa using q⟩
      · rintro ⟨t, t1, t2⟩
        rcases Nat.eq_zero_or_pos t with q | q
        · subst q
          rw [Nat.zero_mul, Nat.sub_zero] at t2
          omega
        · obtain ⟨s, rfl⟩ : ∃ s, t = s + 1 := ⟨t - 1, by omega⟩
          rw [Nat.add_mul, Nat.one_mul] at t1 t2
          have := (ih (n - c) (by omega)).2 ⟨s, by omega, by rw [show n - c - s * c = n - (s * c + c) by omega]; exact t2⟩
          omega
    · rw [wyi_end (by omega)]
      constructor
      · intro h; exact ⟨0, by omega, by simpa using h⟩
      · rintro ⟨t, t1, t2⟩
        rcases Nat.eq_zero_or_pos t with q | q
        · subst q; simpa using t2
        · have : 1 * c ≤ t * c := Nat.mul_le_mul_right _ q
          omega
theorem wy_made {w : List Int} (hw : Wt w) : ∀ i : Nat, i ≤ w.length → ∀ n, 0 < wy w i n → made w n := by
  intro i
  induction i with
  | zero =>
    intro _ n h
    have : 0 < (if n = 0 then 1 else 0) := h
    by_cases z : n = 0
    · subst z; exact made_zero w
    · rw [if_neg z] at this; omega
  | succ i ih =>
    intro hi n h
    have hwi := hw.2 i (by omega)
    obtain ⟨t, t1, t2⟩ := (wyi_pos (by omega) n).1 h
    have := made_add (ih (by omega) _ t2) (made_mul (made_weight (w := w) (i := i) (by omega)) t)
    rw [Nat.mul_comm (rd w (i : Int)).toNat t, Nat.sub_add_cancel t1] at this
    exact this
theorem wy_more {w : List Int} (hw : Wt w) {j : Nat} : ∀ i : Nat, j < i → i ≤ w.length → ∀ n, 0 < wy w i n → 0 < wy w i (n + (rd w (j : Int)).toNat) := by
  intro i
  induction i with
  | zero => intro h; omega
  | succ i ih =>
    intro h1 h2 n h
    have hwi := hw.2 i (by omega)
    show 0 < wyi (wy w i) _ _
    by_cases e : j = i
    · subst e
      rw [wyi_step (by omega) (by omega), Nat.add_sub_cancel]
      have : 0 < wyi (wy w j) (rd w (j : Int)).toNat n := h
      omega
    · obtain ⟨t, t1, t2⟩ := (wyi_pos (by omega) n).1 h
      refine (wyi_pos (by omega) _).2 ⟨t, by omega, ?_⟩
      have := ih (by omega) (by omega) _ t2
      rw [show n + (rd w (j : Int)).toNat - t * (rd w (i : Int)).toNat = n - t * (rd w (i : Int)).toNat + (rd w (j : Int)).toNat by omega]
      exact this
theorem made_wy {w : List Int} (hw : Wt w) {n : Nat} (h : made w n) : 0 < wy w w.length n := by
  obtain ⟨c, hc⟩ := h
  induction hc with
  | zero =>
    have : ∀ i : Nat, i ≤ w.length → 0 < wy w i 0 := by
      intro i
      induction i with
      | zero => intro _; show 0 < (if (0 : Nat) = 0 then 1 else 0); simp
      | succ i ih =>
        intro hi
        have := hw.2 i (by omega)
        show 0 < wyi (wy w i) _ 0
        rw [wyi_end (by omega)]
        exact ih (by omega)
    exact this _ (Nat.le_refl _)
  | step hi _ ih => exact wy_more hw _ hi (Nat.le_refl _) _ ih
theorem mod_wy {c : Nat} (hc : 1 ≤ c) (n : Nat) : wyi (fun n => if n = 0 then 1 else 0) c n = if n % c = 0 then 1 else 0 := by
  induction n using Nat.strongRecOn with
  | _ n ih =>
    by_cases z : c ≤ n
    · rw [wyi_step hc z, ih (n - c) (by omega), if_neg (by omega), Nat.mod_eq_sub_mod z, Nat.zero_add]
    · rw [wyi_end (by omega), Nat.mod_eq_of_lt (by omega)]
/-- The program's list while a weight is taken in. -/
def gw (w : List Int) (i n a : Nat) : List Int := (List.range (a + 1)).map (fun (j : Nat) => if j < n then ((wy w (i + 1) j : Nat) : Int) else ((wy w i j : Nat) : Int))
theorem gw_length (w : List Int) (i n a : Nat) : (gw w i n a).length = a + 1 := by simp [gw]
theorem gw_rd {w : List Int} {i n a j : Nat} (h : j ≤ a) : rd (gw w i n a) (j : Int) = if j < n then ((wy w (i + 1) j : Nat) : Int) else ((wy w i j : Nat) : Int) := by
  rw [rd_lt (by rw [gw_length]; omega)]; simp [gw]
theorem gw_set {w : List Int} {i n a : Nat} (hn : n ≤ a) : (gw w i n a).set n ((wy w (i + 1) n : Nat) : Int) = gw w i (n + 1) a := by
  refine List.ext_getElem (by simp [gw_length]) (fun j h1 h2 => ?_)
  rw [List.getElem_set]
  by_cases e : n = j
  · subst e; rw [if_pos rfl]; simp [gw]
  · rw [if_neg e]
    simp only [gw, List.getElem_map, List.getElem_range]
    by_cases c : j < n
    · rw [if_pos c, if_pos (by omega)]
    · rw [if_neg c, if_neg (by omega)]
theorem gw_first {w : List Int} {i a : Nat} (hw : 1 ≤ rd w (i : Int)) {n : Nat} (hn : n ≤ (rd w (i : Int)).toNat) : gw w i n a = (List.range (a + 1)).map (fun (j : Nat) => ((wy w i j : Nat) : Int)) := by
  unfold gw
  refine List.map_congr_left (fun j _ => ?_)
  by_cases c : j < n
  · rw [if_pos c]
    show ((wyi (wy w i) _ j : Nat) : Int) = _
    rw [wyi_end (by omega)]
  · rw [if_neg c]
theorem gw_last {w : List Int} {i a n : Nat} (hn : a < n) : gw w i n a = (List.range (a + 1)).map (fun (j : Nat) => ((wy w (i + 1) j : Nat) : Int)) := by
  unfold gw
  refine List.map_congr_left (fun j hj => ?_)
  rw [if_pos (by have := List.mem_range.1 hj; omega)]
theorem ways_in {w : List Int} (hw : Wt w) (h4 : w.length ≤ 4) {a i : Nat} (ha : a ≤ 200) (hi : i < w.length) {r : Int × Int}
    (next : Tl (fun k => charge_Ways.l0 k (a : Int) ((List.range (a + 1)).map (fun (j : Nat) => ((wy w (i + 1) j : Nat) : Int))) w (w.length : Int) ((i : Int) + 1)) r) (d : Nat) :
    ∀ n : Nat, (rd w (i : Int)).toNat ≤ n → n ≤ a + 31 → a + 31 - n = d → Tl (fun k => charge_Ways.l1 k (a : Int) (gw w i n a) (rd w (i : Int)) (n : Int) w (w.length : Int) (i : Int)) r := by
  have hwi := hw.2 i hi
  induction d with
  | zero =>
    intro n h1 h2 h3
    refine Tl.succ ?_
    simp only [charge_Ways.l1]
    rw [w64 (x := (i : Int) + 1) (by omega) (by omega), gw_last (by omega)]
    exact Tl.neg (by omega) next
  | succ d ih =>
    intro n h1 h2 h3
    refine Tl.succ ?_
    simp only [charge_Ways.l1]
    by_cases c : n ≤ a
    · have hl := gw_length w i n a
      have e : (n : Int) - rd w (i : Int) = ((n - (rd w (i : Int)).toNat : Nat) : Int) := by omega
      rw [w64 (x := (n : Int) - rd w (i : Int)) (by omega) (by omega), e, gw_rd c, gw_rd (show n - (rd w (i : Int)).toNat ≤ a by omega), if_neg (by omega), if_pos (by omega)]
      have e2 : ((wy w i n : Nat) : Int) + ((wy w (i + 1) (n - (rd w (i : Int)).toNat) : Nat) : Int) = ((wy w (i + 1) n : Nat) : Int) := by
        show _ + ((wyi (wy w i) _ (n - (rd w (i : Int)).toNat) : Nat) : Int) = ((wyi (wy w i) _ n : Nat) : Int)
        rw [wyi_step (f := wy w i) (n := n) (by omega) h1]
        omega
      have hb := wy_le (w := w) (i + 1) n (by omega)
      have hp := pow_small (i := i + 1) (by omega)
      have next2 := ih (n + 1) (by omega) (by omega) (by omega)
      rw [show ((n + 1 : Nat) : Int) = (n : Int) + 1 by omega] at next2
      rw [e2, w64 (x := ((wy w (i + 1) n : Nat) : Int)) (by omega) (by omega), w64 (x := (n : Int) + 1) (by omega) (by omega), Int.toNat_natCast, gw_set c]
      exact Tl.pos (by omega) (Tl.pos (by omega) (Tl.pos (by omega) (Tl.pos (by omega) (Tl.pos (by omega) next2))))
    · rw [w64 (x := (i : Int) + 1) (by omega) (by omega), gw_last (by omega)]
      exact Tl.neg (by omega) next
noncomputable def wc (w : List Int) (a : Int) : Int × Int := if ac w a = 0 then (if a > 200 then (0, 3) else (((wy w w.length a.toNat : Nat) : Int), 0)) else (0, ac w a)
theorem ev_Ways (w : List Int) (a : Int) : Tl (fun k => charge_Ways.f k w a) (wc w a) := by
  unfold charge_Ways.f
  refine Tl.bind (ev_amounted w a) ?_
  by_cases h : ac w a = 0
  · have hk := ac_ok.1 h
    have hw := hk.1.wt
    have h4 := hk.1.1.2
    refine Tl.pos h ?_
    by_cases c : a > 200
    · have e : wc w a = (0, 3) := by unfold wc; rw [if_pos h, if_pos c]
      rw [e]; exact Tl.pos c Tl.now
    · obtain ⟨m, rfl⟩ : ∃ m : Nat, a = (m : Int) := ⟨a.toNat, by omega⟩
      have e : wc w (m : Int) = (((wy w w.length m : Nat) : Int), 0) := by unfold wc; rw [if_pos h, if_neg c, Int.toNat_natCast]
      rw [e]
      have e0 : (List.replicate (m + 1) (0 : Int)).set 0 1 = (List.range (m + 1)).map (fun (j : Nat) => ((wy w 0 j : Nat) : Int)) := by
        refine List.ext_getElem (by simp) (fun j h1 h2 => ?_)
        rw [List.getElem_set]
        simp only [List.getElem_map, List.getElem_range]
        show _ = ((if j = 0 then 1 else 0 : Nat) : Int)
        by_cases z : 0 = j
        · subst z; simp
        · rw [if_neg z, if_neg (fun q => z q.symm)]; simp
      have loop : ∀ d i : Nat, i + d = w.length → Tl (fun k => charge_Ways.l0 k (m : Int) ((List.range (m + 1)).map (fun (j : Nat) => ((wy w i j : Nat) : Int))) w (w.length : Int) (i : Int)) (((wy w w.length m : Nat) : Int), 0) := by
        intro d
        induction d with
        | zero =>
          intro i h1
          obtain rfl : i = w.length := by omega
          refine Tl.succ ?_
          simp only [charge_Ways.l0]
          refine Tl.neg (by omega) (Tl.pos (by omega) (Tl.pos (by simp; omega) (Tl.to Tl.now ?_)))
          rw [rd_lt (by simp)]; simp
        | succ d ih =>
          intro i h1
          have hwi := hw.2 i (by omega)
          have next := ih (i + 1) (by omega)
          rw [show ((i + 1 : Nat) : Int) = (i : Int) + 1 by omega] at next
          have := ways_in hw h4 (show m ≤ 200 by omega) (show i < w.length by omega) next (m + 31 - (rd w (i : Int)).toNat) (rd w (i : Int)).toNat (by omega) (by omega) rfl
          rw [gw_first (by omega) (Nat.le_refl _), Int.toNat_of_nonneg (by omega)] at this
          refine Tl.succ ?_
          simp only [charge_Ways.l0]
          exact Tl.pos (by omega) (Tl.pos (by omega) (Tl.pos (by omega) this))
      rw [w64 (x := (m : Int) + 1) (by omega) (by omega), show ((m : Int) + 1).toNat = m + 1 by omega]
      refine Tl.neg c (Tl.pos (by omega) (Tl.pos (by omega) (Tl.bind' rfl (Tl.pos (by simp <;> omega) ?_))))
      rw [show ((0 : Int)).toNat = 0 from rfl, e0]
      exact loop w.length 0 (by omega)
  · have e : wc w a = (0, ac w a) := by unfold wc; rw [if_neg h]
    rw [e]; exact Tl.neg h Tl.now
theorem rd_take {w : List Int} {i j : Nat} (h : j < i) (hi : i ≤ w.length) : rd (w.take i) (j : Int) = rd w (j : Int) := by
  rw [rd_lt (by simp; omega), rd_lt (by omega), List.getElem_take]
theorem ev_ways {w : List Int} (hw : Wt w) (h4 : w.length ≤ 4) : ∀ i : Nat, i ≤ w.length → ∀ n : Nat, n ≤ 200 → Tl (fun k => diaphoneref07_ways.f k (w.take i) (n : Int)) ((wy w i n : Nat) : Int) := by
  intro i
  induction i with
  | zero =>
    intro _ n _
    refine Tl.succ ?_
    simp only [diaphoneref07_ways.f]
    refine Tl.pos (by simp) ?_
    show Tl _ ((if n = 0 then 1 else 0 : Nat) : Int)
    by_cases z : n = 0
    · rw [if_pos z]; exact Tl.pos (by omega) Tl.now
    · rw [if_neg z]; exact Tl.neg (by omega) Tl.now
  | succ i ih =>
    intro hi n hn
    have hwi := hw.2 i (by omega)
    have hvl : (w.take (i + 1)).length = i + 1 := by simp; omega
    have hvi : rd (w.take (i + 1)) (i : Int) = rd w (i : Int) := rd_take (by omega) hi
    have hvt : (w.take (i + 1)).take i = w.take i := by rw [List.take_take, Nat.min_eq_left (by omega)]
    have hp := pow_small (i := i + 1) (by omega)
    obtain ⟨v, hv⟩ : ∃ v, v = w.take (i + 1) := ⟨_, rfl⟩
    rw [← hv] at hvl hvi hvt ⊢
    have stop : ∀ (s l : Int), l < 0 → Tl (fun k => diaphoneref07_ways.l0 k v (i : Int) s l) s := by
      intro s l hl
      refine Tl.succ ?_
      simp only [diaphoneref07_ways.l0]
      exact Tl.neg (by omega) Tl.now
    refine Tl.succ ?_
    simp only [diaphoneref07_ways.f]
    have ew : wrap64 ((v.length : Int) - 1) = (i : Int) := by rw [w64 (by omega) (by omega)]; omega
    rw [ew]
    refine Tl.neg (by omega) ?_
    by_cases z : i = 0
    · subst z
      have e : wy w (0 + 1) n = if n % (rd w ((0 : Nat) : Int)).toNat = 0 then 1 else 0 := mod_wy (c := (rd w ((0 : Nat) : Int)).toNat) (by omega) n
      rw [e]
      have hv0 : rd v 0 = rd w ((0 : Nat) : Int) := hvi
      have loop : ∀ n : Nat, n ≤ 200 → Tl (fun k => diaphoneref07_ways.l0 k v ((0 : Nat) : Int) 0 (n : Int)) ((if n % (rd w ((0 : Nat) : Int)).toNat = 0 then 1 else 0 : Nat) : Int) := by
        intro n
        induction n using Nat.strongRecOn with
        | _ n ihn =>
          intro hn
          refine Tl.succ ?_
          simp only [diaphoneref07_ways.l0]
          refine Tl.pos (by omega) (Tl.pos rfl (Tl.pos (by omega) (Tl.neg (by omega) (Tl.succ ?_))))
          simp only [diaphoneref07_ways.j1]
          rw [hv0, Int.tmod_eq_emod_of_nonneg (by omega)]
          have em : (n : Int) % rd w ((0 : Nat) : Int) = ((n % (rd w ((0 : Nat) : Int)).toNat : Nat) : Int) := by
            have : rd w ((0 : Nat) : Int) = ((rd w ((0 : Nat) : Int)).toNat : Int) := by omega
            rw [Int.natCast_emod, ← this]
          rw [em]
          by_cases c : n % (rd w ((0 : Nat) : Int)).toNat = 0
          · rw [if_pos c]
            exact Tl.to (Tl.pos (by rw [c]; rfl) Tl.now) (by unfold wrap64; omega)
          · refine Tl.neg (by rw [beq_iff_eq]; omega) (Tl.neg (by omega) (Tl.pos (by omega) (Tl.pos (by omega) ?_)))
            rw [hvi]
            by_cases q : (rd w ((0 : Nat) : Int)).toNat ≤ n
            · have := ihn (n - (rd w ((0 : Nat) : Int)).toNat) (by omega) (by omega)
              rw [← Nat.mod_eq_sub_mod q] at this
              rw [w64 (x := (n : Int) - rd w ((0 : Nat) : Int)) (by omega) (by omega), show (n : Int) - rd w ((0 : Nat) : Int) = ((n - (rd w ((0 : Nat) : Int)).toNat : Nat) : Int) by omega]
              exact this
            · rw [if_neg c, w64 (x := (n : Int) - rd w ((0 : Nat) : Int)) (by omega) (by omega)]
              exact stop 0 _ (by omega)
      exact loop n hn
    · have loop : ∀ (n : Nat) (s : Int), n ≤ 200 → 0 ≤ s → s + ((wy w (i + 1) n : Nat) : Int) ≤ 1000000000000 → Tl (fun k => diaphoneref07_ways.l0 k v (i : Int) s (n : Int)) (s + ((wy w (i + 1) n : Nat) : Int)) := by
        intro n
        induction n using Nat.strongRecOn with
        | _ n ihn =>
          intro s hn h0 h1
          have hrec := ih (by omega) n hn
          rw [← hvt] at hrec
          have hit : ((i : Nat) : Int).toNat = i := Int.toNat_natCast i
          refine Tl.succ ?_
          simp only [diaphoneref07_ways.l0]
          refine Tl.pos (by omega) (Tl.neg (by omega) (Tl.succ ?_))
          simp only [diaphoneref07_ways.j1]
          rw [hit, hvi]
          refine Tl.neg (by simp) (Tl.pos (by omega) (Tl.pos (by omega) (Tl.pos (by omega) (Tl.bind hrec (Tl.pos (by omega) ?_)))))
          by_cases q : (rd w (i : Int)).toNat ≤ n
          · have es : wy w (i + 1) n = wy w i n + wy w (i + 1) (n - (rd w (i : Int)).toNat) := wyi_step (f := wy w i) (by omega) q
            rw [es] at h1 ⊢
            have := ihn (n - (rd w (i : Int)).toNat) (by omega) (s + ((wy w i n : Nat) : Int)) (by omega) (by omega) (by omega)
            rw [w64 (x := s + ((wy w i n : Nat) : Int)) (by omega) (by omega), w64 (x := (n : Int) - rd w (i : Int)) (by omega) (by omega), show (n : Int) - rd w (i : Int) = ((n - (rd w (i : Int)).toNat : Nat) : Int) by omega]
            exact Tl.to this (by omega)
          · have es : wy w (i + 1) n = wy w i n := wyi_end (f := wy w i) (by omega)
            rw [es] at h1 ⊢
            rw [w64 (x := s + ((wy w i n : Nat) : Int)) (by omega) (by omega), w64 (x := (n : Int) - rd w (i : Int)) (by omega) (by omega)]
            exact stop _ _ (by omega)
      have hb := wy_le (w := w) (i + 1) n hn
      exact Tl.to (loop n 0 hn (by omega) (by omega)) (by omega)
theorem ev_rWays (w : List Int) (a : Int) : Tl (fun k => diaphoneref07_Ways.f k w a) (wc w a) := by
  unfold diaphoneref07_Ways.f
  refine Tl.bind (ev_asked w a) ?_
  by_cases h : ac w a = 0
  · have hk := ac_ok.1 h
    refine Tl.pos h ?_
    by_cases c : a > 200
    · have e : wc w a = (0, 3) := by unfold wc; rw [if_pos h, if_pos c]
      rw [e]; exact Tl.pos c Tl.now
    · obtain ⟨m, rfl⟩ : ∃ m : Nat, a = (m : Int) := ⟨a.toNat, by omega⟩
      have e : wc w (m : Int) = (((wy w w.length m : Nat) : Int), 0) := by unfold wc; rw [if_pos h, if_neg c, Int.toNat_natCast]
      rw [e]
      have := ev_ways hk.1.wt hk.1.1.2 w.length (Nat.le_refl _) m (by omega)
      rw [List.take_length] at this
      exact Tl.neg c (Tl.bind this Tl.now)
  · have e : wc w a = (0, ac w a) := by unfold wc; rw [if_neg h]
    rw [e]; exact Tl.neg h Tl.now
end Wys
open Wys
theorem ChargeWays : ∀ (x0 : List Int) (x1 : Int), ((∀ y ∈ x0, (Lit.int .i64 y).wf = true) ∧ x0.length ≤ maxLen) → ((Lit.int .i64 x1).wf = true) → ∃ k, diaphonelaw07_ChargeWays.f k x0 x1 = some true := by
  intro w a _ _
  refine Tl.ex (g := fun k => diaphonelaw07_ChargeWays.f k w a) ?_
  unfold diaphonelaw07_ChargeWays.f
  refine by_long (fun hl => ?_)
  refine Tl.bind (ev_Ways w a) (Tl.bind (ev_rWays w a) (Tl.pos rfl (Tl.succ ?_)))
  simp only [diaphonelaw07_ChargeWays.j0]
  refine Tl.neg (by simp) (Tl.bind (ev_Can w a) ?_)
  by_cases h : ac w a = 0
  · have hk := ac_ok.1 h
    have ec : cc w a = (decide (fw w a.toNat ≥ 0), 0) := by unfold cc; rw [if_pos h]
    by_cases c : a > 200
    · have e : wc w a = (0, 3) := by unfold wc; rw [if_pos h, if_pos c]
      rw [e]; exact Tl.neg (by decide) ev_sane'
    · have e : wc w a = (((wy w w.length a.toNat : Nat) : Int), 0) := by unfold wc; rw [if_pos h, if_neg c]
      rw [e, ec]
      refine Tl.pos rfl (Tl.pos rfl (Tl.pos ?_ ev_sane'))
      rw [beq_iff_eq]
      refine decide_eq_decide.2 ?_
      constructor
      · intro q
        have := made_wy hk.1.wt (fw_nonneg.1 q)
        omega
      · intro q
        exact fw_nonneg.2 (wy_made hk.1.wt w.length (Nat.le_refl _) _ (by omega))
  · have e : wc w a = (0, ac w a) := by unfold wc; rw [if_neg h]
    rw [e]; exact Tl.neg h ev_sane'
end Go.Proofs.Ytgndhijhcliegaa.Pure
