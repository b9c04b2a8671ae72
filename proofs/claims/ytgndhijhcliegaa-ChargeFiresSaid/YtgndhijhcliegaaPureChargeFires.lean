/- Proved here: for all weights and amounts, the counts that are returned make up the amount, with as few cartridges as can be; it holds under no condition. -/
import Derived.Test.YtgndhijhcliegaaCc
import Derived.Test.YtgndhijhcliegaaPx29
import Derived.Test.YtgndhijhcliegaaPx13
import Derived.Test.YtgndhijhcliegaaPx40
set_option linter.unusedVariables false
namespace Go.Proofs.Ytgndhijhcliegaa.Pure
open Go.RowKit Go.Proofs.Ytgndhijhcliegaa.P Go.Proofs.Ytgndhijhcliegaa.E Go.Proofs.Ytgndhijhcliegaa.Va Go.Proofs.Ytgndhijhcliegaa.Kn Go.Proofs.Ytgndhijhcliegaa.Me Go.Proofs.Ytgndhijhcliegaa.Cc Go.Proofs.YtgndhijhcliegaaW.PrintMore
open Go.Proofs.YtgndhijhcliegaaW.PrintWords
namespace Fir
theorem fire_loop {w T L : List Int} (ok : Ok w) {a : Nat} (ha : a ≤ 2000) (hL : L.length = a + 1) (hLo : LOk w L (a + 1)) (n : Nat) : ∀ c : List Int, n ≤ a → 0 ≤ fw w n → c.length = w.length → (∀ i : Nat, i < c.length → 0 ≤ rd c (i : Int) ∧ rd c (i : Int) ≤ 2000 - n) →
    ∃ r : List Int, r.length = w.length ∧ (∀ i : Nat, i < r.length → 0 ≤ rd r (i : Int) ∧ rd r (i : Int) ≤ 2000) ∧ am w r w.length = am w c w.length + n ∧ sm r w.length = sm c w.length + fw w n ∧ Tl (fun k => charge_Fire.l0 k w (n : Int) c T L) (r, true, 0) := by
  induction n using Nat.strongRecOn with
  | _ n ih =>
    intro c h1 h2 h3 h4
    by_cases z : n = 0
    · subst z
      refine ⟨c, h3, fun i hi => by have := h4 i hi; omega, by omega, by rw [fw_zero]; omega, Tl.succ ?_⟩
      simp only [charge_Fire.l0]
      exact Tl.neg (by omega) Tl.now
    · obtain ⟨i, m, e1, e2, e3, e4⟩ := hLo n (by omega) (by omega) h2
      have hi := (ok.2 i e2).1
      have hpos : 0 < fw w n := by
        rcases fw_few w n with ⟨f1, _⟩ | ⟨d, f1, f2, _⟩
        · omega
        · rcases mk_inv f2 with q | ⟨_, _, d', _, _, _, q⟩
          · omega
          · omega
      have hc := h4 i (by omega)
      have hil : i < c.length := by omega
      obtain ⟨r, r1, r2, r3, r4, r5⟩ := ih m (by omega) (c.set i (rd c (i : Int) + 1)) (by omega) (by omega) (by simpa using h3) (fun j hj => by
        rw [rd_set hil]
        have := h4 j (by simpa using hj)
        by_cases e : j = i
        · rw [if_pos e]; omega
        · rw [if_neg e]; omega)
      rw [am_set hil, if_pos e2] at r3
      rw [sm_set hil, if_pos e2] at r4
      refine ⟨r, r1, r2, by omega, by omega, Tl.succ ?_⟩
      simp only [charge_Fire.l0]
      rw [e1, w64 (x := (n : Int) - rd w (i : Int)) (by omega) (by omega), w64 (x := rd c (i : Int) + 1) (by omega) (by omega), Int.toNat_natCast, show (n : Int) - rd w (i : Int) = (m : Int) by omega]
      exact Tl.pos (by omega) (Tl.pos (by omega) (Tl.pos (by omega) (Tl.pos (by omega) (Tl.pos (by omega) (Tl.pos (by omega) r5)))))
theorem zeros (w : List Int) (n : Nat) : am w (List.replicate w.length 0) n = 0 ∧ sm (List.replicate w.length 0) n = 0 := by
  have e : ∀ i : Nat, rd (List.replicate w.length 0) (i : Int) = 0 := by
    intro i
    rw [rd_nat, List.getD_eq_getElem?_getD]
    by_cases h : i < w.length
    · rw [List.getElem?_replicate, if_pos h]; rfl
    · rw [List.getElem?_replicate, if_neg h]; rfl
  induction n with
  | zero => exact ⟨rfl, rfl⟩
  | succ n ih =>
    refine ⟨?_, ?_⟩
    · show am w _ n + rd _ (n : Int) * _ = 0
      rw [ih.1, e]; omega
    · show sm _ n + rd _ (n : Int) = 0
      rw [ih.2, e]; omega
theorem ev_sum {l : List Int} (hl : l.length ≤ 1000) (hb : ∀ i : Nat, i < l.length → 0 ≤ rd l (i : Int) ∧ rd l (i : Int) ≤ 2000) : Tl (fun k => diaphonelaw07_sum.f k l) (sm l l.length) := by
  have rng : ∀ i : Nat, i ≤ l.length → 0 ≤ sm l i ∧ sm l i ≤ 2000 * i := by
    intro i
    induction i with
    | zero => intro _; simp [sm]
    | succ i ih =>
      intro hi
      have := ih (by omega)
      have := hb i (by omega)
      show 0 ≤ sm l i + rd l (i : Int) ∧ sm l i + rd l (i : Int) ≤ _
      omega
  have loop : ∀ d i : Nat, i + d = l.length → Tl (fun k => diaphonelaw07_sum.l0 k l (sm l i) (i : Int)) (sm l l.length) := by
    intro d
    induction d with
    | zero =>
      intro i h
      obtain rfl : i = l.length := by omega
      refine Tl.succ ?_
      simp only [diaphonelaw07_sum.l0]
      exact Tl.neg (by omega) Tl.now
    | succ d ih =>
      intro i h
      have next := ih (i + 1) (by omega)
      have r := rng (i + 1) (by omega)
      have e : sm l i + rd l (i : Int) = sm l (i + 1) := rfl
      refine Tl.succ ?_
      simp only [diaphonelaw07_sum.l0]
      rw [e, w64 (x := sm l (i + 1)) (by omega) (by omega), w64 (x := (i : Int) + 1) (by omega) (by omega)]
      exact Tl.pos (by omega) (Tl.pos (by omega) next)
  exact loop l.length 0 (by omega)
end Fir
open Fir
theorem ChargeFires : ∀ (x0 : List Int) (x1 : Int), ((∀ y ∈ x0, (Lit.int .i64 y).wf = true) ∧ x0.length ≤ maxLen) → ((Lit.int .i64 x1).wf = true) → ∃ k, diaphonelaw07_ChargeFires.f k x0 x1 = some true := by
  intro w a _ _
  refine Tl.ex (g := fun k => diaphonelaw07_ChargeFires.f k w a) ?_
  unfold diaphonelaw07_ChargeFires.f
  refine by_long (fun hl => ?_)
  have no : ∀ e : Int, Tl (fun k => diaphonelaw07_ChargeFires.j0 k w a [] false 0 (e != e)) true := by
    intro e
    refine Tl.succ ?_
    simp only [diaphonelaw07_ChargeFires.j0]
    exact Tl.neg (by simp) (Tl.neg (by simp) (Tl.pos (by simp) ev_sane'))
  by_cases h : ac w a = 0
  · have hk := ac_ok.1 h
    obtain ⟨m, rfl⟩ : ∃ m : Nat, a = (m : Int) := ⟨a.toNat, by omega⟩
    obtain ⟨L, l1, l2, hf⟩ := ev_fill hk.1.wt (show m ≤ 10000 by omega)
    have w2 := hk.1.wt.1
    by_cases c : fw w m ≥ 0
    · obtain ⟨r, r1, r2, r3, r4, r5⟩ := fire_loop (T := tab w (m + 1)) hk.1 (show m ≤ 2000 by omega) l1 l2 m (List.replicate w.length 0) (Nat.le_refl _) c (by simp) (fun i hi => by
        rw [List.length_replicate] at hi
        rw [rd_lt (by simpa using hi)]; simp; omega)
      rw [(zeros w w.length).1, Int.zero_add] at r3
      rw [(zeros w w.length).2, Int.zero_add] at r4
      have e1 : Tl (fun k => charge_Fire.f k w (m : Int)) (r, true, 0) := by
        unfold charge_Fire.f
        refine Tl.bind (ev_amounted w m) (Tl.pos h (Tl.bind hf (Tl.bind' can_tab (Tl.pos (decide_eq_true c) (Tl.pos (by omega) (Tl.pos (by omega) ?_))))))
        rw [Int.toNat_natCast]
        exact r5
      have e2 : fc w (m : Int) = (fw w m, true, 0) := by unfold fc; rw [if_pos h, Int.toNat_natCast, if_pos c]
      have e3 : kc w r = ((m : Int), 0) := by unfold kc; rw [if_pos (vc_ok.2 hk.1), if_pos ⟨r1, inb_of r2⟩, r3]
      have hs := ev_sum (l := r) (by omega) r2
      rw [r1, r4] at hs
      refine Tl.bind e1 (Tl.bind (ev_rFewest w m) ?_)
      rw [e2]
      refine Tl.neg (by simp) (Tl.succ ?_)
      simp only [diaphonelaw07_ChargeFires.j0]
      refine Tl.neg (by simp) (Tl.pos trivial (Tl.bind (ev_rCheck (by omega)) ?_))
      rw [e3]
      exact Tl.pos rfl (Tl.pos rfl (Tl.bind hs (Tl.pos rfl ev_sane')))
    · have e1 : Tl (fun k => charge_Fire.f k w (m : Int)) ([], false, 0) := by
        unfold charge_Fire.f
        exact Tl.bind (ev_amounted w m) (Tl.pos h (Tl.bind hf (Tl.bind' can_tab (Tl.neg (by rw [decide_eq_true_eq]; exact c) Tl.now))))
      have e2 : fc w (m : Int) = (0, false, 0) := by unfold fc; rw [if_pos h, Int.toNat_natCast, if_neg c]
      refine Tl.bind e1 (Tl.bind (ev_rFewest w m) ?_)
      rw [e2]
      exact Tl.neg (by simp) (no 0)
  · have e1 : Tl (fun k => charge_Fire.f k w a) ([], false, ac w a) := by
      unfold charge_Fire.f
      exact Tl.bind (ev_amounted w a) (Tl.neg h Tl.now)
    have e2 : fc w a = (0, false, ac w a) := by unfold fc; rw [if_neg h]
    refine Tl.bind e1 (Tl.bind (ev_rFewest w a) ?_)
    rw [e2]
    exact Tl.neg (by simp) (no (ac w a))
end Go.Proofs.Ytgndhijhcliegaa.Pure
