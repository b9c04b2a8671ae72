/- Tones that are the same, and tones that are alike. -/
import Derived.Test.YtmpmfjnmfgnhcaaTn
import Derived.Test.YtmpmfjnmfgnhcaaPx37
import Derived.Test.YtmpmfjnmfgnhcaaPx39
import Derived.Test.YtmpmfjnmfgnhcaaPx13
import Derived.Test.YtmpmfjnmfgnhcaaPx13
set_option linter.unusedVariables false
namespace Go.Proofs.Ytmpmfjnmfgnhcaa.Sm
open Go.RowKit Go.Proofs.Ytmpmfjnmfgnhcaa.P Go.Proofs.Ytmpmfjnmfgnhcaa.E Go.Proofs.Ytmpmfjnmfgnhcaa.Va Go.Proofs.Ytmpmfjnmfgnhcaa.Pe Go.Proofs.Ytmpmfjnmfgnhcaa.Nm Go.Proofs.Ytmpmfjnmfgnhcaa.Tn Go.Proofs.YtmpmfjnmfgnhcaaW.PrintMore
open Go.Proofs.YtmpmfjnmfgnhcaaW.PrintWords
theorem ev_SameInts' {a b : List Int} (hl : a.length ≤ 1000) : Tl (fun k => diaphoneref01_SameInts.f k a b) (decide (a = b)) := by
  unfold diaphoneref01_SameInts.f
  by_cases h : a.length = b.length
  · refine Tl.pos (by omega) ?_
    have loop : ∀ d i : Nat, i ≤ a.length → a.length - i = d → Tl (fun k => diaphoneref01_SameInts.l0 k a b (i : Int)) (decide (a.drop i = b.drop i)) := by
      intro d
      induction d with
      | zero =>
        intro i h1 h2
        refine Tl.succ ?_
        simp only [diaphoneref01_SameInts.l0]
        refine Tl.to (Tl.neg (by omega) Tl.now) ?_
        rw [List.drop_eq_nil_of_le (by omega), List.drop_eq_nil_of_le (by omega)]; simp
      | succ d ih =>
        intro i h1 h2
        have h3 : i < a.length := by omega
        have h4 : i < b.length := by omega
        refine Tl.succ ?_
        simp only [diaphoneref01_SameInts.l0]
        rw [w64 (x := (i : Int) + 1) (by omega) (by omega)]
        refine Tl.pos (by omega) (Tl.pos (by omega) (Tl.pos (by omega) ?_))
        have e : (a.drop i = b.drop i) ↔ (a[i] = b[i] ∧ a.drop (i + 1) = b.drop (i + 1)) := by rw [drop_cons h3, drop_cons h4, List.cons.injEq]
        rw [rd_lt h3, rd_lt h4]
        by_cases c : a[i] = b[i]
        · exact Tl.to (Tl.pos c (ih (i + 1) (by omega) (by omega))) (decide_eq_decide.2 ⟨fun q => e.2 ⟨c, q⟩, fun q => (e.1 q).2⟩)
        · exact Tl.to (Tl.neg c Tl.now) (decide_eq_false (fun q => c (e.1 q).1)).symm
    have := loop a.length 0 (by omega) (by omega)
    simpa using this
  · exact Tl.to (Tl.neg (by omega) Tl.now) (decide_eq_false (fun q => h (by rw [q]))).symm
def Sh (s t : List Int) (b : Int) : Prop := ∀ i : Int, sec s (i + b) = sec t i
theorem sec_mul (t : List Int) (i k : Int) : sec t (i + (t.length : Int) * k) = sec t i := by
  rw [← sec_emod, Int.add_mul_emod_self_left, sec_emod]
theorem sh_nat {s t : List Int} (hs : 0 < s.length) (ht : 0 < t.length) {b : Int} (h : ∀ i : Nat, i < s.length * t.length → sec s ((i : Int) + b) = sec t (i : Int)) : Sh s t b := by
  intro i
  have hn : 0 < s.length * t.length := Nat.mul_pos hs ht
  obtain ⟨n, en⟩ : ∃ n : Nat, n = s.length * t.length := ⟨_, rfl⟩
  have k1 := Int.emod_nonneg i (show (n : Int) ≠ 0 by omega)
  have k2 := Int.emod_lt_of_pos i (show (0 : Int) < n by omega)
  obtain ⟨c, hc⟩ : ∃ c : Nat, i % (n : Int) = c := ⟨(i % (n : Int)).toNat, by omega⟩
  have := h c (by omega)
  have e0 := Int.emod_add_mul_ediv i (n : Int)
  rw [hc] at e0
  have e1 : i = (c : Int) + (t.length : Int) * ((s.length : Int) * (i / (n : Int))) := by
    conv => lhs; rw [← e0]
    rw [en, Int.natCast_mul, Int.mul_comm (s.length : Int) (t.length : Int), Int.mul_assoc]
  have e2 : i + b = ((c : Int) + b) + (s.length : Int) * ((t.length : Int) * (i / (n : Int))) := by
    conv => lhs; rw [← e0]
    rw [en, Int.natCast_mul, Int.mul_assoc]; omega
  rw [e2, sec_mul, this]
  conv => rhs; rw [e1]
  rw [sec_mul]
theorem ev_same {s t : List Int} (os : Ok s) (ot : Ok t) {b : Int} (hb : 0 ≤ b ∧ b ≤ 1000) {r : Bool} (hr : r = true ↔ Sh s t b) : Tl (fun k => diaphoneref01_same.f k s t b) r := by
  obtain ⟨s1, s2, _⟩ := os
  obtain ⟨t1, t2, _⟩ := ot
  obtain ⟨m, hm⟩ : ∃ m : Nat, s.length * t.length = m := ⟨_, rfl⟩
  have hm2 : m ≤ 24 * 24 := by rw [← hm]; exact Nat.mul_le_mul s2 t2
  have hw : wrap64 ((s.length : Int) * (t.length : Int)) = (m : Int) := by rw [← Int.natCast_mul, hm, w64 (by omega) (by omega)]
  have loop : ∀ d i : Nat, i ≤ m → m - i = d → (∀ j : Nat, j < i → sec s ((j : Int) + b) = sec t (j : Int)) → Tl (fun k => diaphoneref01_same.l0 k s t b (i : Int)) r := by
    intro d
    induction d with
    | zero =>
      intro i h1 h2 h3
      refine Tl.succ ?_
      simp only [diaphoneref01_same.l0]
      rw [hw]
      refine Tl.to (Tl.neg (by omega) Tl.now) (hr.2 (sh_nat s1 t1 (fun j hj => h3 j (by omega)))).symm
    | succ d ih =>
      intro i h1 h2 h3
      refine Tl.succ ?_
      simp only [diaphoneref01_same.l0]
      rw [hw, w64 (x := (i : Int) + b) (by omega) (by omega), w64 (x := (i : Int) + 1) (by omega) (by omega)]
      refine Tl.pos (by omega) (Tl.bind' (rat_eq s1 (by omega) _) (Tl.bind' (rat_eq t1 (by omega) _) ?_))
      by_cases c : sec s ((i : Int) + b) = sec t (i : Int)
      · exact Tl.pos c (ih (i + 1) (by omega) (by omega) (fun j hj => by
          by_cases e : j = i
          · rw [e]; exact c
          · exact h3 j (by omega)))
      · refine Tl.to (Tl.neg c Tl.now) ?_
        cases r with
        | false => rfl
        | true => exact absurd (hr.1 rfl (i : Int)) c
  exact loop m 0 (by omega) (by omega) (fun j hj => by omega)
theorem ev_alike {s t : List Int} (os : Ok s) (ot : Ok t) {r : Bool} (hr : r = true ↔ ∃ b : Nat, b < s.length ∧ Sh s t b) : Tl (fun k => diaphoneref01_alike.f k s t) r := by
  have s2 := os.2.1
  have loop : ∀ d i : Nat, i ≤ s.length → s.length - i = d → (∀ j : Nat, j < i → ¬ Sh s t j) → Tl (fun k => diaphoneref01_alike.l0 k s t (i : Int)) r := by
    intro d
    induction d with
    | zero =>
      intro i h1 h2 h3
      refine Tl.succ ?_
      simp only [diaphoneref01_alike.l0]
      refine Tl.to (Tl.neg (by omega) Tl.now) ?_
      cases r with
      | false => rfl
      | true =>
        obtain ⟨b, hb, hs⟩ := hr.1 rfl
        exact absurd hs (h3 b (by omega))
    | succ d ih =>
      intro i h1 h2 h3
      refine Tl.succ ?_
      simp only [diaphoneref01_alike.l0]
      rw [w64 (x := (i : Int) + 1) (by omega) (by omega)]
      refine Tl.pos (by omega) ?_
      by_cases c : Sh s t (i : Int)
      · exact Tl.to (Tl.bind (ev_same os ot (by omega) (r := true) ⟨fun _ => c, fun _ => rfl⟩) (Tl.pos rfl Tl.now)) (hr.2 ⟨i, by omega, c⟩).symm
      · exact Tl.bind (ev_same os ot (by omega) (r := false) ⟨fun q => by simp at q, fun q => absurd q c⟩) (Tl.neg (by simp) (ih (i + 1) (by omega) (by omega) (fun j hj => by
          by_cases e : j = i
          · rw [e]; exact c
          · exact h3 j (by omega))))
  exact loop s.length 0 (by omega) (by omega) (fun j hj => by omega)
theorem sh_per {s t : List Int} {b : Int} (h : Sh s t b) (q : Nat) : Per s q ↔ Per t q := by
  constructor
  · intro k i
    rw [← h, ← h, show i + (q : Int) + b = (i + b) + q by omega, k]
  · intro k i
    have := k (i - b)
    rw [← h, ← h, show i - b + (q : Int) + b = i + q by omega, show i - b + b = i by omega] at this
    exact this
theorem sh_isper {s t : List Int} {b : Int} (h : Sh s t b) {p q : Nat} (hp : IsPer s p) (hq : IsPer t q) : p = q := by
  have a1 := (sh_per h p).1 hp.2.2.1
  have a2 := (sh_per h q).2 hq.2.2.1
  rcases Nat.lt_trichotomy p q with c | c | c
  · exact absurd a1 (hq.2.2.2 p hp.1 c)
  · exact c
  · exact absurd a2 (hp.2.2.2 q hq.1 c)
/-- The same tone exactly if the roots are equal. -/
theorem same_root {s t : List Int} (hs : 0 < s.length) (ht : 0 < t.length) {p q : Nat} (hp : IsPer s p) (hq : IsPer t q) : s.take p = t.take q ↔ Sh s t 0 := by
  have p2 := hp.2.1
  have q2 := hq.2.1
  constructor
  · intro h
    refine sh_nat hs ht (fun i _ => ?_)
    rw [Int.add_zero, ← sec_root hp.1 p2 hp.2.2.1, ← sec_root hq.1 q2 hq.2.2.1, h]
  · intro h
    obtain rfl := sh_isper h hp hq
    rw [← pc_take p2, ← pc_take q2]
    exact pc_congr (fun j _ => by rw [← h, Int.add_zero])
/-- A list is the name of a tone. -/
def IsName (t : List Int) (p : Nat) (r : List Int) : Prop := (∃ j, j < p ∧ r = pc t ((j : Nat) : Int) p) ∧ ∀ q : Nat, q < p → lt (pc t (q : Int) p) r = false
/-- Alike exactly if the names are equal. -/
theorem alike_name {s t : List Int} (hs : 0 < s.length) (ht : 0 < t.length) {p q : Nat} (hp : IsPer s p) (hq : IsPer t q) {x y : List Int} (hx : IsName s p x) (hy : IsName t q y) :
    x = y ↔ ∃ b : Nat, b < s.length ∧ Sh s t b := by
  have p2 := hp.2.1
  have q2 := hq.2.1
  constructor
  · intro h
    obtain ⟨i, hi, ex⟩ := hx.1
    obtain ⟨j, hj, ey⟩ := hy.1
    have epq : p = q := by
      have := congrArg List.length (ex.symm.trans (h.trans ey))
      rwa [pc_length, pc_length] at this
    subst epq
    have key : ∀ z : Nat, z < p → sec s ((i : Int) + z) = sec t ((j : Int) + z) := by
      intro z hz
      have := congrArg (fun l : List Int => l[z]?) (ex.symm.trans (h.trans ey))
      simpa [pc, hz] using this
    have key2 : ∀ z : Nat, sec s ((i : Int) + z) = sec t ((j : Int) + z) := by
      intro z
      have e : (z : Int) = ((z % p : Nat) : Int) + (p : Int) * ((z / p : Nat) : Int) := by
        rw [← Int.natCast_mul, ← Int.natCast_add, Nat.mod_add_div]
      rw [e, ← Int.add_assoc, ← Int.add_assoc, per_mul hp.2.2.1, per_mul hq.2.2.1]
      exact key _ (Nat.mod_lt _ hp.1)
    have hn : (0 : Int) < s.length := by omega
    obtain ⟨c, hc⟩ : ∃ c : Nat, ((i : Int) - j) % (s.length : Int) = c := ⟨(((i : Int) - j) % (s.length : Int)).toNat, by
      have := Int.emod_nonneg ((i : Int) - j) (show (s.length : Int) ≠ 0 by omega); omega⟩
    have hc2 := Int.emod_lt_of_pos ((i : Int) - j) hn
    refine ⟨c, by omega, sh_nat hs ht (fun z _ => ?_)⟩
    have e1 : sec s ((z : Int) + c) = sec s ((z : Int) + ((i : Int) - j)) := by
      rw [← hc, Int.add_comm (z : Int), Int.add_comm (z : Int), sec_add]
    rw [e1]
    have := key2 (z + j * (t.length * s.length) - j)
    have hjl : j ≤ j * (t.length * s.length) := Nat.le_mul_of_pos_right _ (Nat.mul_pos ht hs)
    obtain ⟨m, hm⟩ : ∃ m : Nat, m = t.length * s.length := ⟨_, rfl⟩
    obtain ⟨jm, hjm⟩ : ∃ jm : Nat, jm = j * (t.length * s.length) := ⟨_, rfl⟩
    rw [← hjm] at this hjl
    rw [show (i : Int) + ((z + jm - j : Nat) : Int) = ((z : Int) + ((i : Int) - j)) + (jm : Int) by omega, show (j : Int) + ((z + jm - j : Nat) : Int) = (z : Int) + (jm : Int) by omega] at this
    have f1 : (jm : Int) = (s.length : Int) * ((j * t.length : Nat) : Int) := by rw [hjm, ← Int.natCast_mul]; congr 1; rw [Nat.mul_comm s.length, Nat.mul_assoc]
    have f2 : (jm : Int) = (t.length : Int) * ((j * s.length : Nat) : Int) := by rw [hjm, ← Int.natCast_mul]; congr 1; rw [Nat.mul_comm t.length (j * s.length), Nat.mul_assoc, Nat.mul_comm s.length]
    rw [f1, sec_mul, ← f1, f2, sec_mul] at this
    exact this
  · rintro ⟨b, hb, h⟩
    obtain rfl := sh_isper h hp hq
    have e : ∀ z : Int, pc t z p = pc (rot s b) z p := fun z => pc_congr (fun j _ => by rw [sec_rot hs (by omega), h])
    refine name_rot hs (b := b) (by omega) hp hx ?_
    obtain ⟨⟨j, hj, ey⟩, my⟩ := hy
    exact ⟨⟨j, hj, by rw [← e]; exact ey⟩, fun q hq2 => by rw [← e]; exact my q hq2⟩
/-- What the program's root and name come to, whatever the list. -/
theorem some_root (t : List Int) (hl : t.length ≤ 1000) : ∃ r, Tl (fun k => tone_Root.f k t) r := by
  unfold tone_Root.f
  by_cases hk : vc t = 0
  · have ok := vc_ok.1 hk
    obtain ⟨p, hp, _⟩ := ev_period ok.1 hl
    exact ⟨_, Tl.bind (ev_Validate hl) (Tl.pos hk (Tl.bind (ev_root ok.1 hl hp) Tl.now))⟩
  · exact ⟨_, Tl.bind (ev_Validate hl) (Tl.neg hk Tl.now)⟩
theorem some_name (t : List Int) (hl : t.length ≤ 1000) : ∃ r, Tl (fun k => tone_Name.f k t) r := by
  unfold tone_Name.f
  by_cases hk : vc t = 0
  · have ok := vc_ok.1 hk
    obtain ⟨p, hp, _⟩ := ev_period ok.1 hl
    obtain ⟨r, _, _, n1, _⟩ := ev_name ok.1 hl hp
    exact ⟨_, Tl.bind (ev_Validate hl) (Tl.pos hk (Tl.bind n1 Tl.now))⟩
  · exact ⟨_, Tl.bind (ev_Validate hl) (Tl.neg hk Tl.now)⟩
end Go.Proofs.Ytmpmfjnmfgnhcaa.Sm
