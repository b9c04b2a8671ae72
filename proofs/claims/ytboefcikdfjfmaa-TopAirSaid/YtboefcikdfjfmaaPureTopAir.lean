/- Proved here: for every task, plan, prices and set of hours, the best plan, the best prices, the first hours and the plans by sets of hours tell the same least cost, no plan is cheaper and no prices are worth more; it holds under no condition. -/
import Derived.Test.YtboefcikdfjfmaaTp
import Derived.Test.YtboefcikdfjfmaaPx28
import Derived.Test.YtboefcikdfjfmaaPx41
import Derived.Test.YtboefcikdfjfmaaPx62
set_option linter.unusedVariables false
namespace Go.Proofs.Ytboefcikdfjfmaa.Pure
open Go.RowKit Go.Proofs.Ytboefcikdfjfmaa.P Go.Proofs.Ytboefcikdfjfmaa.E Go.Proofs.Ytboefcikdfjfmaa.Am Go.Proofs.Ytboefcikdfjfmaa.Va Go.Proofs.Ytboefcikdfjfmaa.Fi Go.Proofs.Ytboefcikdfjfmaa.Pr Go.Proofs.Ytboefcikdfjfmaa.Pn Go.Proofs.Ytboefcikdfjfmaa.At Go.Proofs.Ytboefcikdfjfmaa.Le Go.Proofs.Ytboefcikdfjfmaa.Be Go.Proofs.Ytboefcikdfjfmaa.Kn Go.Proofs.YtboefcikdfjfmaaW.PrintMore Go.Proofs.YtboefcikdfjfmaaW.PrintWords
namespace Top
section
variable {a0 a1 : Int} {c d fs bs : List Int}
theorem cb (ok : Ok a0 a1 c d) {x p : List Int} (hx : x.length ≤ 1000) (hp : p.length ≤ 1000) (h1 : allb x d.length 600 = true) (h2 : Right d x) (h3 : allb p d.length 100000 = true) (h4 : HoL a0 a1 c d p 0)
    (h5 : cs a0 a1 c d x d.length = sm (fl p) 0 d.length) : Tl (fun k => air_CheckBest.f k a0 a1 c d x p) 0 := by
  have hpe : Pe d x 0 := And.intro (fun h => by rw [h1] at h; cases h) (And.intro (fun _ _ => rfl) (fun _ h => absurd h2 h))
  obtain ⟨s1, s2⟩ := small_of h1
  have hpp := (allb_iff (by decide)).1 h3
  have hev := ev_priced ok hp 0 (fun h => by rw [h3] at h; cases h) (fun _ _ => rfl) (fun _ h => absurd h4 h)
  have hw := ev_worth hp hpp.2
  rw [hpp.1] at hw
  unfold air_CheckBest.f
  exact Tl.bind (ev_planned ok hx hpe) (Tl.pos rfl (Tl.bind hev (Tl.pos rfl (Tl.bind (ev_cost ok s1 s2) (Tl.bind hw (Tl.pos h5 Tl.now))))))
theorem ev_Begin (ok : Ok a0 a1 c d) {i : Nat} (h1 : 1 ≤ i) (h2 : i ≤ d.length) : air_Begin.f a0 a1 c d (i : Int) = some (a0, a1, c.take i, d.take i, 0) := by
  have hn2 := ok.n2
  have hcl := ok.cl
  have hv := vc_ok.2 ok
  have g1 : 1 ≤ (i : Int) ∧ (i : Int) ≤ (d.length : Int) := ⟨by omega, by omega⟩
  have l1 : (c.take i).length = i := by rw [List.length_take]; omega
  have l2 : (d.take i).length = i := by rw [List.length_take]; omega
  unfold air_Begin.f
  rw [ev_Validate (by omega) (by omega), Option.bind_some, if_pos hv, ev_within, Option.bind_some, if_pos (decide_eq_true g1), ev_copied a0 a1 (by omega) (by omega), Option.bind_some]
  simp only
  rw [if_pos (by omega), if_pos (by omega), Int.toNat_natCast]
  unfold slices_Clone_int_int.f
  rw [if_pos (by omega), Option.bind_some, if_pos (by omega), if_pos (by omega), Option.bind_some]
/-- The hours of starts, as a number's bits. -/
theorem sts_bl (x : List Int) {n : Nat} (hn : n ≤ 12) : ∃ m : Int, sts x n = bl m n ∧ ∀ s, s < n → bit m s = on (fl x) s := by
  have hlt := mk_lt (on (fl x)) n
  have h40 : (2 : Nat) ^ n < 2 ^ 40 := Nat.pow_lt_pow_right (by decide) (by omega)
  have hbit : ∀ i, i < n → bit ((mk (on (fl x)) n : Nat) : Int) i = on (fl x) i := fun i hi => by
    rw [bit_nat (by omega) (by omega), mk_bit]; simp [hi]
  exact ⟨_, use_iff.2 (fun i hi => (hbit i hi).symm), hbit⟩
theorem sts_set (x : List Int) {n : Nat} (hn : n ≤ 12) : Set (sts x n) n ∧ ∀ s, s < n → mem (sts x n) s = on (fl x) s := by
  obtain ⟨m, h1, h2⟩ := sts_bl x hn
  rw [h1]
  exact ⟨bl_set m n, fun s hs => (bl_bit hs).trans (h2 s hs)⟩
theorem okl_of {l : List Int} {n : Nat} (h : Set l n) : OkL l n 0 := fun j _ hj => by
  refine ⟨⟨h.lo j hj, ?_⟩, fun h0 => ?_⟩
  · have := h.hi j hj; omega
  · have := h.up (j - 1) (by omega)
    rwa [show j - 1 + 1 = j by omega] at this
/-- The plan by the starts of a plan costs no more than it. -/
theorem again (ok : Ok a0 a1 c d) {x : List Int} (hp : Pl (fl d) d.length (fl x)) : okA a1 (fl c) (fl d) (mem (sts x d.length)) d.length ∧ cs a0 a1 c d (pxl a1 c d (mem (sts x d.length)) d.length) d.length ≤ cs a0 a1 c d x d.length := by
  have rt := ok.rt
  obtain ⟨s1, s2⟩ := sts_set x ok.n2
  have o1 : okA a1 (fl c) (fl d) (on (fl x)) d.length := fun u hu hd hs => hd ((off_all hp rt hu hs).1 u (Nat.le_refl _))
  have o2 := (okA_congr (h := a1) (cf := fl c) (df := fl d) s2).2 o1
  refine ⟨o2, ?_⟩
  rw [at_cost, cost_congr (fun i hi => px_congr2 s2 i)]
  have h1 := px_cost rt o1
  have h2 := keep_ge hp rt d.length (Nat.le_refl _)
  rw [hp.last, Int.zero_mul] at h2
  show cost a0 a1 (fl c) (fl d) (px a1 (fl c) (fl d) (on (fl x)) d.length) d.length ≤ cost a0 a1 (fl c) (fl d) (fl x) d.length
  unfold cost at h1 ⊢
  omega
theorem ev_At (ok : Ok a0 a1 c d) {l : List Int} (hll : l.length ≤ 1000) (hs : OkL l d.length 0) {r : List Int × Bool} (hr : Atv a1 c d (mem l) r) : Tl (fun k => air_At.f k a0 a1 c d l) (r.1, r.2, 0) := by
  have hn2 := ok.n2
  have hcl := ok.cl
  unfold air_At.f
  exact Tl.bind' (ev_Validate (by omega) (by omega)) (Tl.pos (vc_ok.2 ok) (at_list ok hll (fun _ => hr) l.length 0 (by omega) (by omega) (fun j hj => by omega) _ (fun _ => rfl) (fun q => absurd hs q)))
theorem ev_At_no (ok : Ok a0 a1 c d) {l : List Int} (hll : l.length ≤ 1000) (hs : ¬ OkL l d.length 0) : Tl (fun k => air_At.f k a0 a1 c d l) ([], false, 1) := by
  have hn2 := ok.n2
  have hcl := ok.cl
  unfold air_At.f
  exact Tl.bind' (ev_Validate (by omega) (by omega)) (Tl.pos (vc_ok.2 ok) (at_list ok hll (r := ([], false)) (fun q => absurd q hs) l.length 0 (by omega) (by omega) (fun j hj => by omega) _ (fun q => absurd q hs) (fun _ => rfl)))
theorem ev_Count (ok : Ok a0 a1 c d) (hf : Fst a0 a1 c d fs bs) : ∃ t : Nat, 0 < t ∧ Tl (fun k => air_Count.f k a0 a1 c d) ((t : Int), 0) := by
  have hn2 := ok.n2
  have hcl := ok.cl
  obtain ⟨t, ht⟩ := Cn.ex (fun m => Gd a0 a1 c d (fl fs d.length) (m : Int)) (2 ^ d.length)
  obtain ⟨q, q1, q2⟩ := gd_ex ok hf.F
  refine ⟨t, ht.pos q1 q2, ?_⟩
  unfold air_Count.f
  refine Tl.bind' (ev_Validate (by omega) (by omega)) (Tl.pos (vc_ok.2 ok) (Tl.bind (ev_Least ok hf) ?_))
  rw [shl_pow hn2]
  exact count_loop ok (pow_le hn2) ht (2 ^ d.length) 0 0 (Nat.zero_le _) rfl .z
theorem ev_cp (ok : Ok a0 a1 c d) {a : Nat → Bool} (ho : okA a1 (fl c) (fl d) a d.length) : Tl (fun k => air_CheckPlan.f k a0 a1 c d (pxl a1 c d a d.length)) (cs a0 a1 c d (pxl a1 c d a d.length) d.length, 0) := by
  have hn2 := ok.n2
  have hal := at_allb ok a
  have hri := right_of (at_pl ok ho)
  have hpe : Pe d (pxl a1 c d a d.length) 0 := And.intro (fun h => by rw [hal] at h; cases h) (And.intro (fun _ _ => rfl) (fun _ h => absurd hri h))
  have e3 := ev_CheckPlan ok (by rw [pxl_len]; omega) hpe
  unfold cpv at e3
  rwa [if_pos rfl] at e3
theorem j8t {L : Int} {y : List Int} : Tl (fun k => diaphonetop_TopAir.j8 k L y true a0 a1 c d) true := by
  refine Tl.succ ?_
  simp only [diaphonetop_TopAir.j8]
  exact Tl.pos trivial Tl.now
theorem fin7 (ok : Ok a0 a1 c d) (hf : Fst a0 a1 c d fs bs) {l : List Int} (hll : l.length ≤ 1000) : Tl (fun k => diaphonetop_TopAir.j7 k l (fl fs d.length) false a0 a1 c d) true := by
  refine Tl.succ ?_
  simp only [diaphonetop_TopAir.j7]
  refine Tl.neg (by simp) ?_
  by_cases hs : OkL l d.length 0
  · obtain ⟨r, hr⟩ := Atv_ex a1 c d (mem l)
    have e1 := ev_At ok hll hs hr
    by_cases hok : okA a1 (fl c) (fl d) (mem l) d.length
    · rw [hr.1 hok] at e1
      refine Tl.bind e1 (Tl.pos rfl (Tl.succ ?_))
      simp only [diaphonetop_TopAir.j8]
      obtain ⟨t, t0, et⟩ := ev_Count ok hf
      refine Tl.neg (by simp) (Tl.bind (ev_cp ok hok) (Tl.bind et (Tl.pos rfl (Tl.pos rfl (Tl.pos (cm_ge ok hf.F hok) (Tl.to Tl.now ?_))))))
      exact decide_eq_true (show (t : Int) > 0 by omega)
    · rw [hr.2 hok] at e1
      exact Tl.bind e1 (Tl.pos rfl j8t)
  · exact Tl.bind (ev_At_no ok hll hs) (Tl.neg (by decide) j8t)
theorem fin6 (ok : Ok a0 a1 c d) (hf : Fst a0 a1 c d fs bs) {l x p : List Int} (hll : l.length ≤ 1000) (hp : p.length ≤ 1000) : Tl (fun k => diaphonetop_TopAir.j6 k l (fl fs d.length) false a0 a1 c d x p) true := by
  obtain ⟨r, hr⟩ := Cp_ex a0 a1 c d p
  have rt := ok.rt
  have hho : r.2 = 0 → r.1 = sm (fl p) 0 d.length ∧ Ho a0 a1 (fl c) (fl d) d.length (fl p) := by
    intro h0
    obtain ⟨g1, g2, g3⟩ := hr
    by_cases c1 : allb p d.length 100000 = true
    · by_cases c2 : HoL a0 a1 c d p 0
      · exact ⟨by rw [g2 c1 c2], c2.ho (fun i => (((allb_iff (by decide)).1 c1).2 i).1)⟩
      · rw [g3 c1 c2] at h0; cases h0
    · rw [g1 (by simpa using c1)] at h0; cases h0
  refine Tl.succ ?_
  simp only [diaphonetop_TopAir.j6]
  refine Tl.neg (by simp) (Tl.bind (ev_CheckPrices ok hp hr) ?_)
  by_cases c2 : r.2 = 0
  · refine Tl.pos c2 ?_
    obtain ⟨g1, g2⟩ := hho c2
    have : ¬ r.1 > fl fs d.length := by
      have := ho_le_F rt hf.F g2
      omega
    rw [decide_eq_false this]
    exact fin7 ok hf hll
  · exact Tl.neg c2 (fin7 ok hf hll)
theorem loop (ok : Ok a0 a1 c d) (hf : Fst a0 a1 c d fs bs) {l x p : List Int} (hll : l.length ≤ 1000) (hx : x.length ≤ 1000) (hp : p.length ≤ 1000) : ∀ (e i : Nat), 1 ≤ i → i ≤ d.length + 1 → d.length + 1 - i = e → Tl (fun k => diaphonetop_TopAir.l0 k l (fl fs d.length) fs (i : Int) a0 a1 c d x p) true := by
  have hn2 := ok.n2
  have hcl := ok.cl
  have hl1 := hf.l1
  intro e
  induction e with
  | zero =>
    intro i h1 h2 h3
    refine Tl.succ ?_
    simp only [diaphonetop_TopAir.l0]
    obtain ⟨q, hq⟩ := Pe_ex d x
    refine Tl.neg (by omega) (Tl.bind (ev_CheckPlan ok hx hq) ?_)
    unfold cpv
    by_cases c1 : q = 0
    · rw [if_pos c1]
      refine Tl.pos rfl ?_
      obtain ⟨g1, g2⟩ := hq.zero c1
      have k1 : fl fs d.length ≤ cs a0 a1 c d x d.length := F_le_plan' ok.rt hf.F (g2.pl (small_of g1).1)
      rw [decide_eq_false (show ¬ cs a0 a1 c d x d.length < fl fs d.length by omega)]
      exact fin6 ok hf hll hp
    · rw [if_neg c1]
      exact Tl.neg c1 (fin6 ok hf hll hp)
  | succ e ih =>
    intro i h1 h2 h3
    have hi : i ≤ d.length := by omega
    have next := ih (i + 1) (by omega) (by omega) (by omega)
    have ok2 := ok.take h1 hi
    have l2 : (d.take i).length = i := by rw [List.length_take]; omega
    obtain ⟨cs2, bs2, hf2⟩ := firsts_ex ok2
    have hL2 := ev_Least ok2 hf2
    have hF2 := hf2.F
    rw [l2] at hL2 hF2
    have e3 : fl cs2 i = rd fs (i : Int) := by
      rw [rd_fl]
      refine F_uniq (F_congr hF2 (fun j hj => ?_) (fun j hj => ?_)) (hf.F.le hi) (Nat.le_refl i)
      · rw [fl_take, if_pos hj]
      · rw [fl_take, if_pos hj]
    refine Tl.succ ?_
    simp only [diaphonetop_TopAir.l0]
    refine Tl.pos (by omega) (Tl.bind' (ev_Begin ok h1 hi) (Tl.bind hL2 (Tl.pos rfl (Tl.pos rfl (Tl.pos (by omega) (Tl.pos e3 ?_))))))
    rw [w64 (by omega) (by omega)]
    exact next
theorem fin1 (ok : Ok a0 a1 c d) {l x p : List Int} (hll : l.length ≤ 1000) (hx : x.length ≤ 1000) (hp : p.length ≤ 1000) : Tl (fun k => diaphonetop_TopAir.j1 k l false a0 a1 c d x p) true := by
  have hn2 := ok.n2
  have hcl := ok.cl
  obtain ⟨fs, bs, hf⟩ := firsts_ex ok
  have hl1 := hf.l1
  obtain ⟨y, hy, hyev⟩ := best_ex ok hf
  obtain ⟨q, hq, hqev⟩ := ev_Prices ok
  have hh := hq.hol ok
  obtain ⟨ys, hyl⟩ := small_of hy.l
  have hql := hq.l
  have hcb := cb ok (x := y) (p := q) (by omega) (by omega) hy.l hy.r hh.1 hh.2 (by rw [hy.cost]; exact F_eq_p ok.rt hq.P hf.F (Nat.le_refl _))
  have E1 := Aside0.mk (show wrap64 ((fs.length : Int) - 1) = (d.length : Int) by rw [w64 (by omega) (by omega)]; omega)
  have E2 := Aside0.mk (show wrap64 ((d.length : Int) + 1) = (d.length : Int) + 1 from w64 (by omega) (by omega))
  have hpe : Pe d y 0 := And.intro (fun h => by rw [hy.l] at h; cases h) (And.intro (fun _ _ => rfl) (fun _ h => absurd hy.r h))
  have hti : Ti d y 0 (true, 0) := And.intro (fun h => absurd rfl h) (And.intro (fun _ _ => rfl) (fun _ h => absurd hy.tidy h))
  have e2 := ev_CheckPlan ok (by omega) hpe
  unfold cpv at e2
  rw [if_pos rfl, hy.cost] at e2
  have est := ev_Starts ok (x := y) (by omega) hpe
  rw [if_pos rfl, hyl] at est
  -- the plan by the starts
  have hpl := hy.r.pl ys
  obtain ⟨o1, o2⟩ := again ok hpl
  have o3 : fl fs d.length ≤ cs a0 a1 c d (pxl a1 c d (mem (sts y d.length)) d.length) d.length := cm_ge ok hf.F o1
  rw [hy.cost] at o2
  obtain ⟨r, hr⟩ := Atv_ex a1 c d (mem (sts y d.length))
  have eat := ev_At ok (by have := sts_len y d.length; omega) (okl_of (sts_set y hn2).1) hr
  rw [hr.1 o1] at eat
  have ecp := ev_cp ok o1
  rw [show cs a0 a1 c d (pxl a1 c d (mem (sts y d.length)) d.length) d.length = fl fs d.length by omega] at ecp
  refine Tl.succ ?_
  simp only [diaphonetop_TopAir.j1]
  refine Tl.neg (by simp) (Tl.bind (ev_Least ok hf) (Tl.pos rfl (Tl.bind hyev (Tl.bind hqev (Tl.bind (ev_Firsts ok hf) (Tl.pos rfl (Tl.pos rfl (Tl.pos rfl (Tl.bind hcb (Tl.pos rfl ?_))))))))))
  rw [E1.out, E2.out, rd_fl, show (fl fs d.length != fl fs d.length) = false by simp]
  refine Tl.pos (by show (fs.length : Int) = _; omega) (Tl.pos (by omega) (Tl.pos (by show (d.length : Int) < (fs.length : Int); omega) (Tl.succ ?_)))
  simp only [diaphonetop_TopAir.j2]
  refine Tl.neg (by simp) (Tl.bind e2 (Tl.bind (ev_IsTidy ok (by omega) hpe hti) (Tl.bind est (Tl.pos rfl (Tl.pos rfl (Tl.pos rfl (Tl.pos rfl (Tl.succ ?_))))))))
  simp only [diaphonetop_TopAir.j3]
  refine Tl.neg (by simp) (Tl.bind eat (Tl.bind ecp (Tl.pos rfl (Tl.pos rfl (Tl.pos rfl ?_)))))
  rw [show (fl fs d.length != fl fs d.length) = false by simp]
  refine Tl.succ ?_
  simp only [diaphonetop_TopAir.j4]
  exact Tl.neg (by simp) (loop ok hf hll hx hp d.length 1 (by omega) (by omega) (by omega))
end
theorem known_at : air_Firsts.f 40 10 1 ([0, 0] : List Int) ([5, 5] : List Int) = some ([0, 10, 15], 0) := by decide +kernel
end Top
theorem TopAir : ∀ (x0 : S24) (x1 : S47) (x2 : List Int), (((Lit.int .i64 x0.f0).wf = true) ∧ ((Lit.int .i64 x0.f1).wf = true) ∧ ((∀ y ∈ x0.f2, (Lit.int .i64 y).wf = true) ∧ x0.f2.length ≤ maxLen) ∧ ((∀ y ∈ x0.f3, (Lit.int .i64 y).wf = true) ∧ x0.f3.length ≤ maxLen)) → (((∀ y ∈ x1.f0, (Lit.int .i64 y).wf = true) ∧ x1.f0.length ≤ maxLen) ∧ ((∀ y ∈ x1.f1, (Lit.int .i64 y).wf = true) ∧ x1.f1.length ≤ maxLen)) → ((∀ y ∈ x2, (Lit.int .i64 y).wf = true) ∧ x2.length ≤ maxLen) → ∃ k, diaphonetop_TopAir.f k x0.f0 x0.f1 x0.f2 x0.f3 x1.f0 x1.f1 x2 = some true := by
  rintro ⟨a0, a1, c, d⟩ ⟨x, p⟩ l _ _ _
  refine Tl.ex (g := fun k => diaphonetop_TopAir.f k a0 a1 c d x p l) ?_
  have j1t : Tl (fun k => diaphonetop_TopAir.j1 k l true a0 a1 c d x p) true := by
    refine Tl.succ ?_
    simp only [diaphonetop_TopAir.j1]
    exact Tl.pos trivial Tl.now
  unfold diaphonetop_TopAir.f
  refine Tl.bind (Tl.mono (air_Firsts.mono _ _ _ _) 40 Top.known_at) (Tl.pos rfl (Tl.bind (ev_Same (by simp)) ?_))
  rw [show (!(decide (([0, 10, 15] : List Int) = [0, 10, 15]))) = false by simp]
  refine Tl.succ ?_
  simp only [diaphonetop_TopAir.j0]
  refine Tl.neg (by simp) (Tl.bind' (ev_Long _ _ _ _) ?_)
  by_cases h1 : 100 < c.length
  · exact Tl.pos (by simp [h1]) j1t
  by_cases h2 : 100 < d.length
  · exact Tl.pos (by simp [h2]) j1t
  refine Tl.neg (by simp [h1, h2]) ?_
  by_cases h3 : (x.length : Int) > 100
  · exact Tl.pos h3 j1t
  refine Tl.neg h3 ?_
  by_cases h4 : (p.length : Int) > 100
  · exact Tl.pos h4 j1t
  refine Tl.neg h4 ?_
  by_cases h5 : (l.length : Int) > 100
  · rw [decide_eq_true h5]; exact j1t
  rw [decide_eq_false h5]
  rcases vc_cases a0 a1 c d with ⟨hv, ok⟩ | ⟨hv, no⟩
  · exact Top.fin1 ok (by omega) (by omega) (by omega)
  · refine Tl.succ ?_
    simp only [diaphonetop_TopAir.j1]
    exact Tl.neg (by simp) (Tl.bind (ev_Least_no (by omega) (by omega) (by omega)) (Tl.neg (by show vc a0 a1 c d ≠ 0; omega) Tl.now))
end Go.Proofs.Ytboefcikdfjfmaa.Pure
