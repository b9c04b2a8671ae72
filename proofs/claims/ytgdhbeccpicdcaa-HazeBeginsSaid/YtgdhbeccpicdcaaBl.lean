/- The pooling of hours: the blocks that the program finds are a chain whose means fall. -/
import Derived.Test.YtgdhbeccpicdcaaFr
import Derived.Test.YtgdhbeccpicdcaaSad
import Derived.Test.YtgdhbeccpicdcaaPx6
import Derived.Test.YtgdhbeccpicdcaaPx10
set_option linter.unusedVariables false
namespace Go.Proofs.Ytgdhbeccpicdcaa.Bl
open Go.RowKit Go.Proofs.Ytgdhbeccpicdcaa.P Go.Proofs.Ytgdhbeccpicdcaa.E Go.Proofs.Ytgdhbeccpicdcaa.Fr Go.Proofs.Ytgdhbeccpicdcaa.Sd Go.Proofs.YtgdhbeccpicdcaaW.PrintMore
open Go.Proofs.YtgdhbeccpicdcaaW.PrintWords

/-- The sums of the weights, and of weight times value, of the first hours. -/
def sw (h : List S31) : Nat → Int
  | 0 => 0
  | n + 1 => sw h n + (rd_T31 h (n : Int)).f1
def sv (h : List S31) : Nat → Int
  | 0 => 0
  | n + 1 => sv h n + (rd_T31 h (n : Int)).f1 * (rd_T31 h (n : Int)).f0
def rok (r : S31) : Prop := 0 ≤ r.f0 ∧ r.f0 ≤ 100 ∧ 1 ≤ r.f1 ∧ r.f1 ≤ 9
instance (r : S31) : Decidable (rok r) := by unfold rok; infer_instance
def Ok (h : List S31) : Prop := 1 ≤ h.length ∧ h.length ≤ 12 ∧ ∀ i : Nat, i < h.length → rok (rd_T31 h (i : Int))

theorem Ok.up {h : List S31} (k : Ok h) : Up (sw h) h.length := by
  intro x hx
  have := k.2.2 x hx
  simp only [rok] at this
  simp only [sw]
  omega
theorem Ok.bd {h : List S31} (k : Ok h) {a b : Nat} (hab : a ≤ b) (hb : b ≤ h.length) :
    (b : Int) - a ≤ sw h b - sw h a ∧ sw h b - sw h a ≤ 9 * ((b : Int) - a) ∧ 0 ≤ sv h b - sv h a ∧ sv h b - sv h a ≤ 900 * ((b : Int) - a) := by
  induction b with
  | zero => obtain rfl : a = 0 := by omega
            simp
  | succ b ih =>
    rcases Nat.lt_or_ge a (b + 1) with h1 | h1
    · have i := ih (by omega) (by omega)
      have r := k.2.2 b (by omega)
      simp only [rok] at r
      have m1 : 0 ≤ (rd_T31 h (b : Int)).f1 * (rd_T31 h (b : Int)).f0 := Int.mul_nonneg (by omega) (by omega)
      have m2 : (rd_T31 h (b : Int)).f1 * (rd_T31 h (b : Int)).f0 ≤ 9 * 100 := Int.mul_le_mul (by omega) (by omega) (by omega) (by omega)
      simp only [sw, sv]
      omega
    · obtain rfl : a = b + 1 := by omega
      simp
theorem Ok.small {h : List S31} (k : Ok h) {a b : Nat} (hab : a < b) (hb : b ≤ h.length) :
    0 < sw h b - sw h a ∧ sw h b - sw h a ≤ 108 ∧ 0 ≤ sv h b - sv h a ∧ sv h b - sv h a ≤ 10800 := by
  have := k.bd (Nat.le_of_lt hab) hb
  have := k.2.1
  omega
/-- The mean of the hours from a to b, b not included. -/
def M (h : List S31) (a b : Nat) : Int × Int := Rt (sv h b - sv h a) (sw h b - sw h a)

theorem Rt_lt {a b c d : Int} (hb : 0 < b) (hd : 0 < d) : (Rt c d).1 * (Rt a b).2 < (Rt a b).1 * (Rt c d).2 ↔ c * b < a * d := by
  obtain ⟨h1, h2⟩ := Rt_mul (n := a) hb
  obtain ⟨h3, h4⟩ := Rt_mul (n := c) hd
  have g := gcd_pos' (n := a) hb
  have g' := gcd_pos' (n := c) hd
  have gg := Int.mul_pos g g'
  have e1 : c * b = ((Rt c d).1 * (Rt a b).2) * ((Int.gcd a b : Nat) * (Int.gcd c d : Nat) : Int) := by
    conv => lhs; rw [← h3, ← h2]
    grind
  have e2 : a * d = ((Rt a b).1 * (Rt c d).2) * ((Int.gcd a b : Nat) * (Int.gcd c d : Nat) : Int) := by
    conv => lhs; rw [← h1, ← h4]
    grind
  rw [e1, e2]
  exact (Int.mul_lt_mul_right gg).symm
theorem small_mul {x y : Int} (h1 : 0 ≤ x) (h2 : x ≤ 1000000000) (h3 : 0 ≤ y) (h4 : y ≤ 1000000000) : 0 ≤ x * y ∧ x * y ≤ 1000000000000000000 :=
  ⟨Int.mul_nonneg h1 h3, Int.le_trans (Int.mul_le_mul h2 h4 h3 (by decide)) (by decide)⟩
theorem above_eq {a b c d : Int} (ha : 0 ≤ a) (ha' : a ≤ 1000000000) (hb : 0 < b) (hb' : b ≤ 1000000000) (hc : 0 ≤ c) (hc' : c ≤ 1000000000) (hd : 0 < d) (hd' : d ≤ 1000000000) :
    api_Rat_haze_compare.f (Rt a b).1 (Rt a b).2 (Rt c d).1 (Rt c d).2 = some (decide (c * b < a * d)) := by
  unfold api_Rat_haze_compare.f haze_compare.f
  have i1 := Rt_nonneg ha hb
  have i2 := Rt_num_le ha hb
  have i3 := Rt_pos (n := a) hb
  have i4 := Rt_le (n := a) hb
  have j1 := Rt_nonneg hc hd
  have j2 := Rt_num_le hc hd
  have j3 := Rt_pos (n := c) hd
  have j4 := Rt_le (n := c) hd
  have p := small_mul i1 (by omega) (Int.le_of_lt j3) (by omega)
  have q := small_mul j1 (by omega) (Int.le_of_lt i3) (by omega)
  rw [w64 (x := (Rt a b).1 * (Rt c d).2) (by omega) (by omega), w64 (x := (Rt c d).1 * (Rt a b).2) (by omega) (by omega), w64 (by omega) (by omega)]
  simp only [Option.bind_some]
  congr 1
  have := Rt_lt (a := a) (c := c) hb hd
  rw [decide_eq_decide]
  omega
theorem less_eq {a b c d : Int} (ha : 0 ≤ a) (ha' : a ≤ 1000000000) (hb : 0 < b) (hb' : b ≤ 1000000000) (hc : 0 ≤ c) (hc' : c ≤ 1000000000) (hd : 0 < d) (hd' : d ≤ 1000000000) :
    diaphoneref02_Less.f (Rt a b).1 (Rt a b).2 (Rt c d).1 (Rt c d).2 = some (decide (a * d < c * b)) := by
  unfold diaphoneref02_Less.f
  have i1 := Rt_nonneg ha hb
  have i2 := Rt_num_le ha hb
  have i3 := Rt_pos (n := a) hb
  have i4 := Rt_le (n := a) hb
  have j1 := Rt_nonneg hc hd
  have j2 := Rt_num_le hc hd
  have j3 := Rt_pos (n := c) hd
  have j4 := Rt_le (n := c) hd
  have p := small_mul i1 (by omega) (Int.le_of_lt j3) (by omega)
  have q := small_mul j1 (by omega) (Int.le_of_lt i3) (by omega)
  rw [w64 (x := (Rt a b).1 * (Rt c d).2) (by omega) (by omega), w64 (x := (Rt c d).1 * (Rt a b).2) (by omega) (by omega)]
  congr 1
  have := Rt_lt (a := c) (c := a) hd hb
  rw [decide_eq_decide]
  exact this

theorem ev_block_mean {f t w v : Int} (h0 : 0 ≤ v) (h1 : v ≤ 1000000000) (hd : 0 < w) (hd1 : w ≤ 1000000000) : Tl (fun k => haze_block_mean.f k f t w v) (Rt v w) := by
  unfold haze_block_mean.f
  exact Tl.bind (ev_ratio h0 (by omega) hd (by omega)) Tl.now
theorem of_eq {h : List S31} (k : Ok h) {i : Nat} (hi : i < h.length) : haze_of.f h (i : Int) = some ((i : Int), (i : Int), sw h (i + 1) - sw h i, sv h (i + 1) - sv h i) := by
  unfold haze_of.f
  have r := k.2.2 i hi
  simp only [rok] at r
  have m1 : 0 ≤ (rd_T31 h (i : Int)).f1 * (rd_T31 h (i : Int)).f0 := Int.mul_nonneg (by omega) (by omega)
  have m2 : (rd_T31 h (i : Int)).f1 * (rd_T31 h (i : Int)).f0 ≤ 9 * 100 := Int.mul_le_mul (by omega) (by omega) (by omega) (by omega)
  rw [if_pos (by omega), if_pos (by omega), w64 (by omega) (by omega)]
  have e1 : sw h (i + 1) - sw h i = (rd_T31 h (i : Int)).f1 := by simp only [sw]; omega
  have e2 : sv h (i + 1) - sv h i = (rd_T31 h (i : Int)).f1 * (rd_T31 h (i : Int)).f0 := by simp only [sv]; omega
  rw [e1, e2]

def bk (h : List S31) (b : Nat × Nat) : S75 := ⟨(b.1 : Int), (b.2 : Int) - 1, sw h b.2 - sw h b.1, sv h b.2 - sv h b.1⟩
theorem Ch.inv {sv sw : Nat → Int} {l : List (Nat × Nat)} {a : Nat} (h : Ch sv sw l a) : (l = [] ∧ a = 0) ∨ ∃ l0 a0, l = l0 ++ [(a0, a)] ∧ Ch sv sw l0 a0 ∧ Blk sv sw a0 a ∧ ∀ b, b ∈ l0 → (sv a - sv a0) * (sw b.2 - sw b.1) < (sv b.2 - sv b.1) * (sw a - sw a0) := by
  cases h with
  | nil => exact .inl ⟨rfl, rfl⟩
  | snoc h hb hf => exact .inr ⟨_, _, rfl, h, hb, hf⟩
theorem rd_last {α : Type} (l : List α) (x z : α) : (l ++ [x]).getD l.length z = x := by simp

theorem inner {h : List S31} (ok : Ok h) {i : Nat} (hi : i < h.length) (n : Nat) : ∀ (l : List (Nat × Nat)) (a : Nat), l.length = n → Ch (sv h) (sw h) l a → Blk (sv h) (sw h) a (i + 1) →
    ∃ l', Ch (sv h) (sw h) l' (i + 1) ∧ l'.length ≤ n + 1 ∧ ∀ r, Tl (fun k => haze_blocks.l0 k h (l'.map (bk h)) (h.length : Int) ((i : Int) + 1)) r →
      Tl (fun k => haze_blocks.l1 k h (l.map (bk h)) (h.length : Int) (i : Int) (a : Int) ((i : Int)) (sw h (i + 1) - sw h a) (sv h (i + 1) - sv h a)) r := by
  induction n with
  | zero =>
    intro l a hl hc hb
    rcases Ch.inv hc with ⟨rfl, rfl⟩ | ⟨l0, a0, rfl, _⟩
    · refine ⟨[] ++ [(0, i + 1)], Ch.snoc hc hb (by simp), by simp, fun r hr => ?_⟩
      refine Tl.succ ?_
      simp only [haze_blocks.l1, List.map_nil, List.length_nil]
      refine Tl.neg (by decide) (Tl.pos (by decide) ?_)
      rw [w64 (x := (i : Int) + 1) (by omega) (by have := ok.2.1; omega)]
      refine hr.congr (fun k => ?_)
      simp [bk]
    · simp at hl
  | succ n ih =>
    intro l a hl hc hb
    rcases Ch.inv hc with ⟨rfl, rfl⟩ | ⟨l0, a0, rfl, hc0, hb0, hf0⟩
    · simp at hl
    · have hl0 : l0.length = n := by simpa using hl
      have ha := hb.1
      have ha0 := hb0.1
      have hlen := ok.2.1
      have s1 := ok.small (show a0 < a by omega) (show a ≤ h.length by omega)
      have s2 := ok.small (show a < i + 1 by omega) (show i + 1 ≤ h.length by omega)
      have hn : n ≤ 12 := by
        have : ∀ {l : List (Nat × Nat)} {e : Nat}, Ch (sv h) (sw h) l e → l.length ≤ e := by
          intro l e hc
          induction hc with
          | nil => simp
          | snoc _ hb _ ih => have := hb.1; simp; omega
        have := this hc0
        omega
      have hw1 : wrap64 ((((l0 ++ [(a0, a)]).map (bk h)).length : Int) - 1) = (n : Int) := by
        rw [w64] <;> simp [hl0] <;> omega
      have hrd : rd_T75 ((l0 ++ [(a0, a)]).map (bk h)) (n : Int) = bk h (a0, a) := by
        unfold rd_T75
        rw [Int.toNat_natCast, List.map_append, ← hl0, ← List.length_map (f := bk h)]
        exact rd_last _ _ _
      by_cases hcmp : (sv h (i + 1) - sv h a) * (sw h a - sw h a0) < (sv h a - sv h a0) * (sw h (i + 1) - sw h a)
      · -- the new block is less than the last one: it is laid behind it
        refine ⟨(l0 ++ [(a0, a)]) ++ [(a, i + 1)], Ch.snoc hc hb ?_, by simp [hl0], fun r hr => ?_⟩
        · intro b hb'
          rcases List.mem_append.1 hb' with h1 | h1
          · have k1 := hf0 b h1
            have hbin := hc0.in b h1
            have s3 := ok.small hbin.1 (show b.2 ≤ h.length by omega)
            have k2 := Int.mul_lt_mul_of_pos_right hcmp s3.1
            have k3 := Int.mul_lt_mul_of_pos_right k1 s2.1
            have k4 : ((sv h (i + 1) - sv h a) * (sw h b.2 - sw h b.1)) * (sw h a - sw h a0) < ((sv h b.2 - sv h b.1) * (sw h (i + 1) - sw h a)) * (sw h a - sw h a0) := by grind
            exact Int.lt_of_mul_lt_mul_right k4 (Int.le_of_lt s1.1)
          · rw [List.mem_singleton.1 h1]; exact hcmp
        · refine Tl.succ ?_
          simp only [haze_blocks.l1]
          refine Tl.pos (by simp) ?_
          rw [hw1]
          refine Tl.pos (by omega) (Tl.pos (by simp [hl0]; omega) ?_)
          rw [hrd]
          refine Tl.bind (ev_block_mean (by simp only [bk]; omega) (by simp only [bk]; omega) (by simp only [bk]; omega) (by simp only [bk]; omega)) ?_
          refine Tl.bind (ev_block_mean (by omega) (by omega) (by omega) (by omega)) ?_
          refine Tl.bind' (above_eq (by simp only [bk]; omega) (by simp only [bk]; omega) (by simp only [bk]; omega) (by simp only [bk]; omega) (by omega) (by omega) (by omega) (by omega)) ?_
          refine Tl.pos (decide_eq_true (by simpa only [bk] using hcmp)) (Tl.pos (by simp [hl0]; omega) ?_)
          rw [w64 (x := (i : Int) + 1) (by omega) (by omega)]
          refine hr.congr (fun k => ?_)
          simp [bk]
      · -- it is joined with the last one
        have hm : Blk (sv h) (sw h) a0 (i + 1) := Blk.merge ok.up (by omega) hb0 hb (by omega)
        obtain ⟨l', hc', hl', hr'⟩ := ih l0 a0 hl0 hc0 hm
        refine ⟨l', hc', by omega, fun r hr => ?_⟩
        refine Tl.succ ?_
        simp only [haze_blocks.l1]
        refine Tl.pos (by simp) ?_
        rw [hw1]
        refine Tl.pos (by omega) (Tl.pos (by simp [hl0]; omega) ?_)
        rw [hrd]
        refine Tl.bind (ev_block_mean (by simp only [bk]; omega) (by simp only [bk]; omega) (by simp only [bk]; omega) (by simp only [bk]; omega)) ?_
        refine Tl.bind (ev_block_mean (by omega) (by omega) (by omega) (by omega)) ?_
        refine Tl.bind' (above_eq (by simp only [bk]; omega) (by simp only [bk]; omega) (by simp only [bk]; omega) (by simp only [bk]; omega) (by omega) (by omega) (by omega) (by omega)) ?_
        refine Tl.neg (by rw [decide_eq_true_eq]; simpa only [bk] using hcmp) ?_
        have hwith : haze_block_with.f (bk h (a0, a)).f0 (bk h (a0, a)).f1 (bk h (a0, a)).f2 (bk h (a0, a)).f3 (a : Int) (i : Int) (sw h (i + 1) - sw h a) (sv h (i + 1) - sv h a) = some ((a0 : Int), (i : Int), sw h (i + 1) - sw h a0, sv h (i + 1) - sv h a0) := by
          unfold haze_block_with.f
          simp only [bk]
          rw [w64 (by omega) (by omega), w64 (by omega) (by omega)]
          rw [show sw h a - sw h a0 + (sw h (i + 1) - sw h a) = sw h (i + 1) - sw h a0 by omega, show sv h a - sv h a0 + (sv h (i + 1) - sv h a) = sv h (i + 1) - sv h a0 by omega]
        refine Tl.bind' hwith ?_
        refine Tl.pos (by simp [hl0]; omega) ?_
        refine (hr' r hr).congr (fun k => ?_)
        congr 1
        rw [Int.toNat_natCast, List.map_append, List.take_left']
        simp [hl0]

theorem outer {h : List S31} (ok : Ok h) (d : Nat) : ∀ (i : Nat) (l : List (Nat × Nat)), h.length - i = d → i ≤ h.length → Ch (sv h) (sw h) l i →
    ∃ l', Ch (sv h) (sw h) l' h.length ∧ Tl (fun k => haze_blocks.l0 k h (l.map (bk h)) (h.length : Int) (i : Int)) (l'.map (bk h)) := by
  induction d with
  | zero =>
    intro i l hd hi hc
    obtain rfl : i = h.length := by omega
    refine ⟨l, hc, Tl.succ ?_⟩
    simp only [haze_blocks.l0]
    exact Tl.neg (by omega) Tl.now
  | succ d ih =>
    intro i l hd hi hc
    have hlt : i < h.length := by omega
    obtain ⟨l1, hc1, _, hr1⟩ := inner ok hlt _ l i rfl hc (Blk.one _ _ i)
    obtain ⟨l', hc', hr'⟩ := ih (i + 1) l1 (by omega) (by omega) hc1
    refine ⟨l', hc', Tl.succ ?_⟩
    simp only [haze_blocks.l0]
    refine Tl.pos (by omega) (Tl.bind' (of_eq ok hlt) ?_)
    exact hr1 _ hr'
theorem ev_blocks {h : List S31} (ok : Ok h) : ∃ l, Ch (sv h) (sw h) l h.length ∧ Tl (fun k => haze_blocks.f k h) (l.map (bk h)) := by
  obtain ⟨l, hc, hr⟩ := outer ok h.length 0 [] rfl (by omega) Ch.nil
  exact ⟨l, hc, hr⟩
end Go.Proofs.Ytgdhbeccpicdcaa.Bl
