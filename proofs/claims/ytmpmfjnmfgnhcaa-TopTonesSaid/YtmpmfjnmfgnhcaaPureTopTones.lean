/- Proved here: for any two tones and numbers, that tones that agree for both periods less their common divisor are the same, that listening so long tells tones apart, and that turning, repeating and turning round keep what is alike; it holds under no condition. -/
import Derived.Test.YtmpmfjnmfgnhcaaTt
import Derived.Test.YtmpmfjnmfgnhcaaPx60
set_option linter.unusedVariables false
namespace Go.Proofs.Ytmpmfjnmfgnhcaa.Pure
open Go.RowKit Go.Proofs.Ytmpmfjnmfgnhcaa.P Go.Proofs.Ytmpmfjnmfgnhcaa.E Go.Proofs.Ytmpmfjnmfgnhcaa.Va Go.Proofs.Ytmpmfjnmfgnhcaa.Pe Go.Proofs.Ytmpmfjnmfgnhcaa.Nm Go.Proofs.Ytmpmfjnmfgnhcaa.Tn Go.Proofs.Ytmpmfjnmfgnhcaa.Sm Go.Proofs.Ytmpmfjnmfgnhcaa.Sw Go.Proofs.Ytmpmfjnmfgnhcaa.Fx Go.Proofs.Ytmpmfjnmfgnhcaa.Fy Go.Proofs.Ytmpmfjnmfgnhcaa.Fz Go.Proofs.Ytmpmfjnmfgnhcaa.Fl Go.Proofs.Ytmpmfjnmfgnhcaa.Fa Go.Proofs.YtmpmfjnmfgnhcaaW.PrintMore
open Go.Proofs.YtmpmfjnmfgnhcaaW.PrintWords
namespace Tt
theorem known_at : tone_Listen.f 60 [1, 0] [1, 0, 0] = some (4, true, 0) := by decide +kernel
theorem cut_loop {t : List Int} (o : Ok t) {m : Nat} (hm : m ≤ 100) (d : Nat) : ∀ i : Nat, i ≤ m → m - i = d → Tl (fun k => diaphonetop_cut.l0 k t 0 (m : Int) (pc t 0 i) (i : Int)) (pc t 0 m, true) := by
  induction d with
  | zero =>
    intro i h1 h2
    obtain rfl : i = m := by omega
    refine Tl.succ ?_
    simp only [diaphonetop_cut.l0]
    exact Tl.neg (by omega) Tl.now
  | succ d ih =>
    intro i h1 h2
    have next := ih (i + 1) (by omega) (by omega)
    rw [pc_succ] at next
    refine Tl.succ ?_
    simp only [diaphonetop_cut.l0]
    rw [show wrap64 (0 + (i : Int)) = 0 + (i : Int) by unfold wrap64; omega, show wrap64 ((i : Int) + 1) = ((i + 1 : Nat) : Int) by unfold wrap64; omega]
    exact Tl.pos (by omega) (Tl.bind (ev_At o _) (Tl.pos rfl (Tl.pos (by rw [pc_length]; omega) next)))
theorem ev_cut {t : List Int} (o : Ok t) {m : Nat} (hm : m ≤ 100) : Tl (fun k => diaphonetop_cut.f k t 0 (m : Int)) (pc t 0 m, true) := by
  unfold diaphonetop_cut.f
  have := cut_loop o hm m 0 (by omega) (by omega)
  rw [show pc t 0 0 = [] by simp [pc]] at this
  exact this
theorem ev_Turn {t : List Int} (ok : Ok t) (z : Int) : Tl (fun k => tone_Turn.f k t z) (rot t (z % (t.length : Int)).toNat, 0) := by
  have l1 := ok.2.1
  unfold tone_Turn.f
  exact Tl.bind (ev_Validate (by omega)) (Tl.pos (vc_ok.2 ok) (Tl.bind' (turn_eq ok.1 (by omega) z) Tl.now))
theorem ev_Alike {s t : List Int} (os : Ok s) (ot : Ok t) {r : Bool} (hr : r = true ↔ ∃ b : Nat, b < s.length ∧ Sh s t b) : Tl (fun k => tone_Alike.f k s t) (r, 0) := by
  have l1 := os.2.1
  have l2 := ot.2.1
  obtain ⟨p, hp, _⟩ := ev_period os.1 (show s.length ≤ 1000 by omega)
  obtain ⟨q, hq, _⟩ := ev_period ot.1 (show t.length ≤ 1000 by omega)
  obtain ⟨x, lx, hx, n1⟩ := ev_name os.1 (show s.length ≤ 1000 by omega) hp
  obtain ⟨y, ly, hy, n2⟩ := ev_name ot.1 (show t.length ≤ 1000 by omega) hq
  have p2 := hp.2.1
  have han := alike_name os.1 ot.1 hp hq hx hy
  unfold tone_Alike.f
  refine Tl.bind (ev_both os ot) (Tl.pos rfl (Tl.bind n1 (Tl.bind n2 (Tl.bind (ev_Equal (by omega)) (Tl.to Tl.now ?_)))))
  congr 1
  exact Bool.eq_iff_iff.2 (by rw [decide_eq_true_eq, han, hr])
theorem rot_back {t : List Int} (h0 : 0 < t.length) (z : Int) : rot (rot t (z % (t.length : Int)).toNat) ((-(Int.tmod z (t.length : Int))) % (t.length : Int)).toNat = t := by
  have hn : (0 : Int) < t.length := by omega
  have m1 := Int.emod_nonneg z (show (t.length : Int) ≠ 0 by omega)
  have m2 := Int.emod_lt_of_pos z hn
  have k1 := Int.emod_nonneg (-(Int.tmod z (t.length : Int))) (show (t.length : Int) ≠ 0 by omega)
  have k2 := Int.emod_lt_of_pos (-(Int.tmod z (t.length : Int))) hn
  obtain ⟨b, hb⟩ : ∃ b : Nat, z % (t.length : Int) = b := ⟨(z % (t.length : Int)).toNat, by omega⟩
  obtain ⟨c, hc⟩ : ∃ c : Nat, (-(Int.tmod z (t.length : Int))) % (t.length : Int) = c := ⟨((-(Int.tmod z (t.length : Int))) % (t.length : Int)).toNat, by omega⟩
  have e0 := Int.emod_add_mul_ediv (-(Int.tmod z (t.length : Int))) (t.length : Int)
  rw [hb, hc, Int.toNat_natCast, Int.toNat_natCast]
  have hbl : b ≤ t.length := by omega
  have hl : (rot t b).length = t.length := rot_length hbl
  obtain ⟨u, hu⟩ : ∃ u : Int, (c : Int) + b = (t.length : Int) * u := by
    rcases tmod_cases hn z with e | ⟨_, e⟩
    · refine ⟨-((-(Int.tmod z (t.length : Int))) / (t.length : Int)), ?_⟩
      rw [Int.mul_neg]; rw [hc] at e0; omega
    · refine ⟨-((-(Int.tmod z (t.length : Int))) / (t.length : Int)) + 1, ?_⟩
      rw [Int.mul_add, Int.mul_neg, Int.mul_one]; rw [hc] at e0; omega
  refine List.ext_getElem? (fun j => ?_)
  by_cases hj : j < t.length
  · rw [rot_get (by omega) (by omega), sec_rot h0 hbl, List.getElem?_eq_getElem hj]
    congr 1
    rw [show (((j + c : Nat) : Int)) + (b : Int) = (j : Int) + (t.length : Int) * u by omega, sec_mul, sec_nat hj]
  · rw [List.getElem?_eq_none (by rw [rot_length (by omega)]; omega), List.getElem?_eq_none (by omega)]
theorem tail {s : List Int} (os : Ok s) {p : Nat} (hp : IsPer s p) (z : Int) : Tl (fun k => diaphonetop_TopTones.j6 k s z (p : Int)) true := by
  have l0 := os.1
  have l1 := os.2.1
  have p1 := hp.1
  have p2 := hp.2.1
  have hn : (0 : Int) < s.length := by omega
  have m1 := Int.emod_nonneg z (show (s.length : Int) ≠ 0 by omega)
  have m2 := Int.emod_lt_of_pos z hn
  have v1 := ev_Validate (t := s) (by omega)
  have hk := vc_ok.2 os
  have hback := rot_back l0 z
  have e1 := ev_Turn os z
  obtain ⟨b, hb⟩ : ∃ b : Nat, (z % (s.length : Int)).toNat = b := ⟨_, rfl⟩
  rw [hb] at e1 hback
  have hbl : b < s.length := by omega
  have orot := ok_rot os (b := b) (by omega)
  have lrot := rot_length (t := s) (b := b) (by omega)
  have e2 : Tl (fun k => tone_Swap.f k s) (sw s, 0) := by
    unfold tone_Swap.f
    have := sw_loop os s.length 0 (by omega) (by omega)
    simp only [List.take_zero, List.drop_zero, List.nil_append] at this
    exact Tl.bind v1 (Tl.pos hk (Tl.bind' (clone_eq (by omega)) this))
  have e3 : Tl (fun k => tone_Back.f k s) (s.reverse, 0) := by
    unfold tone_Back.f
    exact Tl.bind v1 (Tl.pos hk (Tl.bind' (clone_eq (by omega)) (Tl.bind (ev_rev s (by omega)) Tl.now)))
  have q2 := ev_Period (ok_sw os) (isper_congr (sw_length s) (per_sw l0) hp)
  have q3 := ev_Period (ok_rev os) (isper_congr (by simp) (per_rev l0) hp)
  have e4 := ev_Alike os orot (r := true) ⟨fun _ => ⟨b, hbl, fun i => (sec_rot l0 (by omega) i).symm⟩, fun _ => rfl⟩
  have e5 := ev_Turn orot (-(Int.tmod z (s.length : Int)))
  rw [lrot, hback] at e5
  have et := tmod_cases hn z
  refine Tl.succ ?_
  simp only [diaphonetop_TopTones.j6]
  refine Tl.bind e1 (Tl.bind e3 (Tl.bind e2 (Tl.pos rfl (Tl.pos rfl (Tl.succ ?_)))))
  simp only [diaphonetop_TopTones.j7]
  refine Tl.neg (by simp) (Tl.bind e4 (Tl.bind q3 (Tl.bind q2 (Tl.pos rfl (Tl.pos rfl (Tl.pos rfl (Tl.pos rfl (Tl.pos rfl (Tl.succ ?_)))))))))
  simp only [diaphonetop_TopTones.j8]
  refine Tl.neg (by simp) (Tl.neg (by omega) ?_)
  rw [show wrap64 (-(Int.tmod z (s.length : Int))) = -(Int.tmod z (s.length : Int)) from w64 (by omega) (by omega)]
  refine Tl.bind e5 (Tl.pos rfl (Tl.bind (ev_SameInts s (by omega)) (Tl.succ ?_)))
  simp only [diaphonetop_TopTones.j9]
  have e7 : Tl (fun k => tone_Root.f k s) (s.take p, 0) := by
    unfold tone_Root.f
    exact Tl.bind v1 (Tl.pos hk (Tl.bind (ev_root l0 (by omega) hp) Tl.now))
  have lr : (((s.take p).length : Nat) : Int) = (p : Int) := by simp; omega
  have ew1 : wrap64 ((s.length : Int) * 2) = ((2 * s.length : Nat) : Int) := by unfold wrap64; omega
  by_cases c : 2 * s.length ≤ 24
  · have e6 : Tl (fun k => tone_Repeat.f k s 2) (pc s 0 (2 * s.length), 0) := by
      unfold tone_Repeat.f
      refine Tl.bind v1 (Tl.pos hk (Tl.bind' (within_eq _ _ _) (Tl.pos (decide_eq_true (by omega)) ?_)))
      rw [ew1]
      refine Tl.neg (by omega) (Tl.bind' (a := pc s 0 (2 * s.length)) ?_ Tl.now)
      unfold slices_Repeat_int_int.f
      rw [if_pos (by omega), if_pos (by omega), if_pos (by omega), if_pos (by omega), show (2 : Int).toNat = 2 by rfl, rep_pc]
    have oa : Ok (pc s 0 (2 * s.length)) := ok_pc os (by omega) c
    have hsec : ∀ i, sec (pc s 0 (2 * s.length)) i = sec s i := fun i => sec_pc (by omega) i
    generalize pc s 0 (2 * s.length) = a at e6 oa hsec
    have la : a.length ≤ 24 := oa.2.1
    obtain ⟨q, hq, _⟩ := ev_period oa.1 (show a.length ≤ 1000 by omega)
    have hroot := (same_root oa.1 os.1 hq hp).2 (fun i => by rw [Int.add_zero]; exact hsec i)
    have e8 : Tl (fun k => tone_Root.f k a) (s.take p, 0) := by
      unfold tone_Root.f
      exact Tl.bind (ev_Validate (by omega)) (Tl.pos (vc_ok.2 oa) (Tl.bind (Tl.to (ev_root oa.1 (by omega) hq) hroot) Tl.now))
    refine Tl.neg (by simp) (Tl.bind e6 (Tl.bind e7 (Tl.pos rfl ?_)))
    simp only [lr]
    refine Tl.succ ?_
    simp only [diaphonetop_TopTones.j10]
    exact Tl.neg (by simp) (Tl.pos (by simp) (Tl.bind e8 (Tl.pos rfl (Tl.bind (ev_SameInts (s.take p) (by simp; omega)) Tl.now))))
  · have e6 : Tl (fun k => tone_Repeat.f k s 2) ([], 3) := by
      unfold tone_Repeat.f
      refine Tl.bind v1 (Tl.pos hk (Tl.bind' (within_eq _ _ _) (Tl.pos (decide_eq_true (by omega)) ?_)))
      rw [ew1]
      exact Tl.pos (by omega) Tl.now
    refine Tl.neg (by simp) (Tl.bind e6 (Tl.bind e7 (Tl.pos rfl ?_)))
    simp only [lr]
    refine Tl.succ ?_
    simp only [diaphonetop_TopTones.j10]
    refine Tl.neg (by simp) (Tl.neg (by simp) (Tl.to Tl.now ?_))
    exact decide_eq_true (by unfold wrap64; omega)
end Tt
open Tt
theorem TopTones : ∀ (x0 : List Int) (x1 : List Int) (x2 : Int), ((∀ y ∈ x0, (Lit.int .i64 y).wf = true) ∧ x0.length ≤ maxLen) → ((∀ y ∈ x1, (Lit.int .i64 y).wf = true) ∧ x1.length ≤ maxLen) → ((Lit.int .i64 x2).wf = true) → ∃ k, diaphonetop_TopTones.f k x0 x1 x2 = some true := by
  intro s t z _ _ _
  refine Tl.ex (g := fun k => diaphonetop_TopTones.f k s t z) ?_
  unfold diaphonetop_TopTones.f
  refine Tl.bind (Tl.mono (tone_Listen.mono _ _) 60 known_at) (Tl.pos rfl (Tl.pos rfl (Tl.succ ?_)))
  simp only [diaphonetop_TopTones.j0, diaphonelaw01_Long.f]
  have j1t : Tl (fun k => diaphonetop_TopTones.j1 k s t z true) true := by
    refine Tl.succ ?_
    simp only [diaphonetop_TopTones.j1]
    exact Tl.pos trivial Tl.now
  refine Tl.neg (by simp) ?_
  by_cases ls : (s.length : Int) > 200
  · exact Tl.bind' (congrArg some (decide_eq_true ls)) (Tl.pos rfl j1t)
  refine Tl.bind' (congrArg some (decide_eq_false ls)) (Tl.neg (by simp) ?_)
  by_cases lt_ : (t.length : Int) > 200
  · exact Tl.bind' (congrArg some (decide_eq_true lt_)) j1t
  refine Tl.bind' (congrArg some (decide_eq_false lt_)) (Tl.succ ?_)
  simp only [diaphonetop_TopTones.j1]
  refine Tl.neg (by simp) ?_
  have j2t : ∀ p q : Int, Tl (fun k => diaphonetop_TopTones.j2 k s t z p q true) true := by
    intro p q
    refine Tl.succ ?_
    simp only [diaphonetop_TopTones.j2]
    exact Tl.pos trivial Tl.now
  by_cases ks : vc s = 0
  · have os := vc_ok.1 ks
    obtain ⟨p, hp, _⟩ := ev_period os.1 (show s.length ≤ 1000 by omega)
    by_cases kt : vc t = 0
    · have ot := vc_ok.1 kt
      obtain ⟨q, hq, _⟩ := ev_period ot.1 (show t.length ≤ 1000 by omega)
      have l1 := os.2.1
      have l2 := ot.2.1
      have p1 := hp.1
      have p2 := hp.2.1
      have q1 := hq.1
      have q2 := hq.2.1
      have hg : Nat.gcd p q ≤ p := Nat.gcd_le_left _ p1
      refine Tl.bind (ev_Period os hp) (Tl.bind (ev_Period ot hq) (Tl.pos rfl (Tl.succ ?_)))
      simp only [diaphonetop_TopTones.j2]
      refine Tl.neg (by simp) (Tl.neg (by omega) (Tl.neg (by omega) (Tl.neg (by omega) ?_)))
      rw [decide_eq_false (show ¬ (q : Int) > 24 by omega)]
      refine Tl.succ ?_
      simp only [diaphonetop_TopTones.j3]
      have ew : wrap64 (wrap64 ((p : Int) + (q : Int)) - ((Nat.gcd p q : Nat) : Int)) = ((p + q - Nat.gcd p q : Nat) : Int) := by rw [w64 (x := (p : Int) + q) (by omega) (by omega), w64 (by omega) (by omega)]; omega
      refine Tl.neg (by simp) (Tl.bind (ev_Gcd p q) ?_)
      rw [ew]
      generalize hm : p + q - Nat.gcd p q = m
      have hm48 : m ≤ 48 := by omega
      have same : (s.take p = t.take q) ↔ pc s 0 m = pc t 0 m := by
        rw [same_root os.1 ot.1 hp hq]
        constructor
        · intro h; exact pc_congr (fun j _ => by rw [← h, Int.add_zero])
        · intro h i
          have := agree_all hp hq (a := 0) (b := 0) (fun j hj => pc_eq.1 h j (by omega)) i
          rw [Int.zero_add] at this
          rw [Int.add_zero]; exact this
      have es : Tl (fun k => tone_Same.f k s t) (decide (s.take p = t.take q), 0) := by
        unfold tone_Same.f
        exact Tl.bind (ev_both os ot) (Tl.pos rfl (Tl.bind (ev_root os.1 (by omega) hp) (Tl.bind (ev_root ot.1 (by omega) hq) (Tl.bind (ev_Equal (by simp; omega)) Tl.now))))
      refine Tl.bind (ev_cut os (by omega)) (Tl.bind (ev_cut ot (by omega)) (Tl.bind es (Tl.pos rfl (Tl.pos rfl (Tl.pos rfl (Tl.bind (ev_SameInts' (by rw [pc_length]; omega)) ?_))))))
      have hd : decide (s.take p = t.take q) = decide (pc s 0 m = pc t 0 m) := decide_eq_decide.2 same
      rw [show (decide (s.take p = t.take q) != decide (pc s 0 m = pc t 0 m)) = false by rw [hd]; simp]
      refine Tl.succ ?_
      simp only [diaphonetop_TopTones.j4]
      refine Tl.neg (by simp) ?_
      rcases ev_listen os ot hp hq with ⟨hal, r1⟩ | ⟨hal, M, m1, m2, m3, r1⟩
      · have e1 := ev_Alike os ot (r := true) ⟨fun _ => hal, fun _ => rfl⟩
        have e2 : Tl (fun k => tone_Listen.f k s t) (0, false, 0) := by
          unfold tone_Listen.f; exact Tl.bind (ev_both os ot) (Tl.pos rfl (Tl.bind r1 Tl.now))
        have fin : Tl (fun k => diaphonetop_TopTones.j5 k s t z (p : Int) 0 false false) true := by
          refine Tl.succ ?_
          simp only [diaphonetop_TopTones.j5]
          exact Tl.neg (by simp) (Tl.neg (by simp) (tail os hp z))
        refine Tl.bind e1 (Tl.bind e2 (Tl.pos rfl (Tl.pos rfl (Tl.neg (by simp) ?_))))
        by_cases cs : decide (s.take p = t.take q) = true
        · exact Tl.pos cs (Tl.pos rfl (Tl.neg (by simp) fin))
        · exact Tl.neg cs (Tl.neg (by simp) fin)
      · have e1 := ev_Alike os ot (r := false) ⟨fun h => by simp at h, fun h => absurd h hal⟩
        have e2 : Tl (fun k => tone_Listen.f k s t) ((M : Int) + 1, true, 0) := by
          unfold tone_Listen.f; exact Tl.bind (ev_both os ot) (Tl.pos rfl (Tl.bind r1 Tl.now))
        have fin : Tl (fun k => diaphonetop_TopTones.j5 k s t z (p : Int) ((M : Int) + 1) true false) true := by
          refine Tl.succ ?_
          simp only [diaphonetop_TopTones.j5]
          refine Tl.neg (by simp) (Tl.pos (by simp) ?_)
          have ec := ev_cut os (m := M + 1) (by omega)
          rw [show ((M + 1 : Nat) : Int) = (M : Int) + 1 by omega] at ec
          have hsm : Sml [s, t] := ⟨by simp, fun i hi => by
            rcases i with _ | _ | i
            · show s.length ≤ 200; omega
            · show t.length ≤ 200; omega
            · exact absurd hi (by show ¬ i + 1 + 1 < 2; omega)⟩
          have hok : Oks [s, t] := ⟨by simp, fun i hi => by
            rcases i with _ | _ | i
            · exact os
            · exact ot
            · exact absurd hi (by show ¬ i + 1 + 1 < 2; omega)⟩
          obtain ⟨r, hr, hr2, t1⟩ := ev_Tell hsm (x := pc s 0 (M + 1)) (by rw [pc_length]; omega)
          have e := hr2 hok (by rw [pc_length]; omega) (bits_pc os 0 (M + 1))
          have hone := tl_one (l := [s, t]) (x := pc s 0 (M + 1)) (w := 0) (fun i hi => by
            rw [pc_length]
            rcases i with _ | _ | i
            · exact ⟨fun _ => rfl, fun _ => (mem_ps os.1).2 ⟨0, rfl⟩⟩
            · refine ⟨fun h => ?_, fun h => by omega⟩
              obtain ⟨j, ej⟩ := (mem_ps (t := t) ot.1).1 h
              exact absurd ⟨0, j, ej⟩ m3
            · exact absurd hi (by show ¬ i + 1 + 1 < 2; omega)) 2 (by simp)
          rw [if_pos (by omega)] at hone
          have e' : r = ([0], 0) := e.trans (by rw [show ([s, t] : List (List Int)).length = 2 by rfl, hone]; rfl)
          subst e'
          exact Tl.bind ec (Tl.bind t1 (Tl.pos rfl (Tl.pos rfl (Tl.bind (ev_SameInts [0] (by simp)) (Tl.pos rfl (tail os hp z))))))
        have hns : ¬ decide (s.take p = t.take q) = true := by
          rw [decide_eq_true_eq, same_root os.1 ot.1 hp hq]
          intro h
          exact hal ⟨0, os.1, h⟩
        refine Tl.bind e1 (Tl.bind e2 (Tl.pos rfl (Tl.pos rfl (Tl.neg (by simp) (Tl.neg hns (Tl.pos rfl (Tl.neg (by show ¬ (M : Int) + 1 < 1; omega) ?_)))))))
        rw [decide_eq_false (show ¬ (M : Int) + 1 > (m : Int) by omega)]
        exact fin
    · exact Tl.bind (ev_Period os hp) (Tl.bind (ev_Period_no (by omega) kt) (Tl.pos rfl (by rw [show (vc t != 0) = true by simpa using kt]; exact j2t _ _)))
  · obtain ⟨r, hr⟩ := some_period t (by omega)
    exact Tl.bind (ev_Period_no (by omega) ks) (Tl.bind hr (Tl.neg ks (j2t _ _)))
end Go.Proofs.Ytmpmfjnmfgnhcaa.Pure
