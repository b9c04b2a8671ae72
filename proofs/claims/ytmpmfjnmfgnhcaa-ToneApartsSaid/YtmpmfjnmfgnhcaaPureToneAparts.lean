/- How long one must listen to tell all tones of a list apart. -/
import Derived.Test.YtmpmfjnmfgnhcaaFl
import Derived.Test.YtmpmfjnmfgnhcaaPx56
import Derived.Test.YtmpmfjnmfgnhcaaPx8
import Derived.Test.YtmpmfjnmfgnhcaaPx56
import Derived.Test.YtmpmfjnmfgnhcaaPx59
set_option linter.unusedVariables false
namespace Go.Proofs.Ytmpmfjnmfgnhcaa.Fa
open Go.RowKit Go.Proofs.Ytmpmfjnmfgnhcaa.P Go.Proofs.Ytmpmfjnmfgnhcaa.E Go.Proofs.Ytmpmfjnmfgnhcaa.Va Go.Proofs.Ytmpmfjnmfgnhcaa.Pe Go.Proofs.Ytmpmfjnmfgnhcaa.Nm Go.Proofs.Ytmpmfjnmfgnhcaa.Tn Go.Proofs.Ytmpmfjnmfgnhcaa.Sm Go.Proofs.Ytmpmfjnmfgnhcaa.Sw Go.Proofs.Ytmpmfjnmfgnhcaa.Fw Go.Proofs.Ytmpmfjnmfgnhcaa.Fx Go.Proofs.Ytmpmfjnmfgnhcaa.Fy Go.Proofs.Ytmpmfjnmfgnhcaa.Fz Go.Proofs.Ytmpmfjnmfgnhcaa.Fl Go.Proofs.YtmpmfjnmfgnhcaaW.PrintMore
open Go.Proofs.YtmpmfjnmfgnhcaaW.PrintWords
/-- The answer of both loops from a state on: the tones are not apart, or m seconds tell all pairs that are left apart. -/
def Ans (l : List (List Int)) (b : Int) (i k : Nat) (R : Int × Bool × Int) : Prop :=
  R = (0, false, 0) ∨ ∃ m : Nat, R = ((m : Int), true, 0) ∧ b ≤ (m : Int) ∧ ((m : Int) ≤ b ∨ m ≤ 48) ∧ ∀ i' k' : Nat, i' < l.length → k' < i' → (i < i' ∨ (i = i' ∧ k ≤ k')) → ¬ Mt (el l i') (el l k') m
theorem apart_in {l : List (List Int)} (ok : Oks l) {i : Nat} (hi : i < l.length)
    (out : ∀ b : Int, 0 ≤ b → b ≤ 48 → ∃ R, Ans l b (i + 1) 0 R ∧ Tl (fun k => tone_Apart.l0 k l b (l.length : Int) ((i + 1 : Nat) : Int)) R ∧ Tl (fun k => diaphoneref01_Apart.l0 k l b ((i + 1 : Nat) : Int)) R) (d : Nat) :
    ∀ (k : Nat) (b : Int), k ≤ i → i - k = d → 0 ≤ b → b ≤ 48 → ∃ R, Ans l b i k R ∧ Tl (fun q => tone_Apart.l1 q l b (i : Int) (l.length : Int) (i : Int) (i : Int) (k : Int)) R ∧ Tl (fun q => diaphoneref01_Apart.l1 q l b (i : Int) (k : Int)) R := by
  have hl := ok.1
  induction d with
  | zero =>
    intro k b h1 h2 h3 h4
    obtain ⟨R, a, t1, t2⟩ := out b h3 h4
    have ew : wrap64 ((i : Int) + 1) = ((i + 1 : Nat) : Int) := by unfold wrap64; omega
    refine ⟨R, ?_, Tl.succ ?_, Tl.succ ?_⟩
    · rcases a with a | ⟨m, e, m1, m2, m3⟩
      · exact .inl a
      · exact .inr ⟨m, e, m1, m2, fun i' k' p1 p2 p3 => m3 i' k' p1 p2 (by omega)⟩
    · simp only [tone_Apart.l1]; rw [ew]; exact Tl.neg (by omega) t1
    · simp only [diaphoneref01_Apart.l1]; rw [ew]; exact Tl.neg (by omega) t2
  | succ d ih =>
    intro k b h1 h2 h3 h4
    have os := ok.2 i hi
    have ot := ok.2 k (by omega)
    obtain ⟨p, hp, _⟩ := ev_period os.1 (show (el l i).length ≤ 1000 from Nat.le_trans os.2.1 (by omega))
    obtain ⟨q, hq, _⟩ := ev_period ot.1 (show (el l k).length ≤ 1000 from Nat.le_trans ot.2.1 (by omega))
    have p2 : p ≤ 24 := Nat.le_trans hp.2.1 os.2.1
    have q2 : q ≤ 24 := Nat.le_trans hq.2.1 ot.2.1
    have ew : wrap64 ((k : Int) + 1) = ((k + 1 : Nat) : Int) := by unfold wrap64; omega
    rcases ev_listen os ot hp hq with ⟨_, r1, r2⟩ | ⟨_, r2, M, m1, m2, m3, r1, r3⟩
    · refine ⟨(0, false, 0), .inl rfl, Tl.succ ?_, Tl.succ ?_⟩
      · simp only [tone_Apart.l1]
        exact Tl.pos (by omega) (Tl.pos (by omega) (Tl.pos (by omega) (Tl.pos (by omega) (Tl.pos (by omega) (Tl.bind r1 (Tl.neg (by simp) Tl.now))))))
      · simp only [diaphoneref01_Apart.l1]
        exact Tl.pos (by omega) (Tl.pos (by omega) (Tl.pos (by omega) (Tl.pos (by omega) (Tl.pos (by omega) (Tl.bind r2 (Tl.pos rfl Tl.now))))))
    · have hM : M + 1 ≤ 48 := by omega
      obtain ⟨R, a, t1, t2⟩ := ih (k + 1) (max b ((M : Int) + 1)) (by omega) (by omega) (by omega) (by omega)
      refine ⟨R, ?_, Tl.succ ?_, Tl.succ ?_⟩
      · rcases a with a | ⟨m, e, m4, m5, m6⟩
        · exact .inl a
        · have m7 : M + 1 ≤ m := by
            have := Int.le_trans (Int.le_max_right b ((M : Int) + 1)) m4
            clear m1 m4 m5 hp hq hM
            omega
          have m8 : b ≤ (m : Int) := Int.le_trans (Int.le_max_left _ _) m4
          have m9 : (m : Int) ≤ b ∨ m ≤ 48 := by
            clear m1 hp hq
            omega
          refine .inr ⟨m, e, m8, m9, fun i' k' g1 g2 g3 => ?_⟩
          by_cases z : i = i' ∧ k' = k
          · obtain ⟨rfl, rfl⟩ := z
            exact fun h => m3 (mt_down h m7)
          · exact m6 i' k' g1 g2 (by clear m1 m4 m5 m7 m8 m9 hp hq hM; omega)
      · simp only [tone_Apart.l1]
        rw [ew]
        exact Tl.pos (by omega) (Tl.pos (by omega) (Tl.pos (by omega) (Tl.pos (by omega) (Tl.pos (by omega) (Tl.bind r1 (Tl.pos rfl (by rw [mx_eq]; exact t1)))))))
      · simp only [diaphoneref01_Apart.l1]
        rw [ew]
        exact Tl.pos (by omega) (Tl.pos (by omega) (Tl.pos (by omega) (Tl.pos (by omega) (Tl.pos (by omega) (Tl.bind r2 (Tl.neg (by simp) (Tl.bind r3 (by rw [mx_eq]; exact t2))))))))
theorem apart_out {l : List (List Int)} (ok : Oks l) (d : Nat) : ∀ (i : Nat), i ≤ l.length → l.length - i = d → ∀ b : Int, 0 ≤ b → b ≤ 48 → ∃ R, Ans l b i 0 R ∧ Tl (fun k => tone_Apart.l0 k l b (l.length : Int) (i : Int)) R ∧ Tl (fun k => diaphoneref01_Apart.l0 k l b (i : Int)) R := by
  have hl := ok.1
  induction d with
  | zero =>
    intro i h1 h2 b h3 h4
    refine ⟨(b, true, 0), .inr ⟨b.toNat, by rw [show ((b.toNat : Nat) : Int) = b by omega], by omega, by omega, fun i' k' g1 g2 g3 => by omega⟩, Tl.succ ?_, Tl.succ ?_⟩
    · simp only [tone_Apart.l0]; exact Tl.neg (by omega) Tl.now
    · simp only [diaphoneref01_Apart.l0]; exact Tl.neg (by omega) Tl.now
  | succ d ih =>
    intro i h1 h2 b h3 h4
    obtain ⟨R, a, t1, t2⟩ := apart_in ok (i := i) (by omega) (fun b' h5 h6 => ih (i + 1) (by omega) (by omega) b' h5 h6) i 0 b (by omega) (by omega) h3 h4
    refine ⟨R, a, Tl.succ ?_, Tl.succ ?_⟩
    · simp only [tone_Apart.l0]; exact Tl.pos (by omega) t1
    · simp only [diaphoneref01_Apart.l0]; exact Tl.pos (by omega) t2
/-- How long one must listen to tell all apart. -/
theorem ev_Apart {l : List (List Int)} (hs : Sml l) : ∃ R : Int × Bool × Int, Tl (fun k => tone_Apart.f k l) R ∧ Tl (fun k => diaphoneref01_Apart.f k l) R ∧ (R.2.1 = true → Oks l ∧ ∃ m : Nat, R.1 = (m : Int) ∧ m ≤ 48 ∧ ∀ i k : Nat, i < l.length → k < i → ¬ Mt (el l i) (el l k) m) := by
  obtain ⟨e, he, t1, t2⟩ := ev_tones hs
  unfold tone_Apart.f diaphoneref01_Apart.f
  by_cases c : e = 0
  · have ok := he c
    obtain ⟨R, a, r1, r2⟩ := apart_out ok l.length 0 (by omega) (by omega) 0 (by omega) (by omega)
    refine ⟨R, Tl.bind t1 (Tl.pos c r1), Tl.bind t2 (Tl.pos c r2), fun h => ⟨ok, ?_⟩⟩
    rcases a with a | ⟨m, rfl, m1, m2, m3⟩
    · rw [a] at h; simp at h
    · exact ⟨m, rfl, by omega, fun i k g1 g2 => m3 i k g1 g2 (by omega)⟩
  · exact ⟨(0, false, e), Tl.bind t1 (Tl.neg c Tl.now), Tl.bind t2 (Tl.neg c Tl.now), fun h => by simp at h⟩
theorem mt_symm {s t : List Int} {n : Nat} (h : Mt s t n) : Mt t s n := by
  obtain ⟨i, j, e⟩ := h
  exact ⟨j, i, e.symm⟩
theorem ev_At {t : List Int} (ok : Ok t) (i : Int) : Tl (fun k => tone_At.f k t i) (sec t i, 0) := by
  unfold tone_At.f
  exact Tl.bind (ev_Validate (by have := ok.2.1; omega)) (Tl.pos (vc_ok.2 ok) (Tl.bind' (at_eq ok.1 (by have := ok.2.1; omega) i) Tl.now))
theorem bits_pc {t : List Int} (ok : Ok t) (f : Int) (n : Nat) : Va.bits (pc t f n) = true := by
  unfold Va.bits
  refine List.all_eq_true.2 (fun x hx => ?_)
  unfold pc at hx
  obtain ⟨j, _, rfl⟩ := List.mem_map.1 hx
  have h3 := Int.emod_nonneg (f + (j : Int)) (b := (t.length : Int)) (by have := ok.1; omega)
  have h4 := Int.emod_lt_of_pos (f + (j : Int)) (b := (t.length : Int)) (by have := ok.1; omega)
  have := ok.2.2 ((f + (j : Int)) % (t.length : Int)).toNat (by omega)
  rw [show ((((f + (j : Int)) % (t.length : Int)).toNat : Nat) : Int) = (f + (j : Int)) % (t.length : Int) by omega] at this
  exact decide_eq_true this
end Go.Proofs.Ytmpmfjnmfgnhcaa.Fa
/- Proved here: for all lists of tones, how long one must listen to tell all apart is the document's answer, and a piece of so many seconds is one of a single tone; it holds under no condition. -/
set_option linter.unusedVariables false
namespace Go.Proofs.Ytmpmfjnmfgnhcaa.Pure
open Go.RowKit Go.Proofs.Ytmpmfjnmfgnhcaa.P Go.Proofs.Ytmpmfjnmfgnhcaa.E Go.Proofs.Ytmpmfjnmfgnhcaa.Va Go.Proofs.Ytmpmfjnmfgnhcaa.Nm Go.Proofs.Ytmpmfjnmfgnhcaa.Sm Go.Proofs.Ytmpmfjnmfgnhcaa.Fx Go.Proofs.Ytmpmfjnmfgnhcaa.Fy Go.Proofs.Ytmpmfjnmfgnhcaa.Fl Go.Proofs.Ytmpmfjnmfgnhcaa.Fa Go.Proofs.YtmpmfjnmfgnhcaaW.PrintMore
open Go.Proofs.YtmpmfjnmfgnhcaaW.PrintWords
namespace Ap
theorem cut {l : List (List Int)} {w : Nat} (hw : w < l.length) (o : Ok (el l w)) {f : Int} (hf : 0 ≤ f ∧ f ≤ 1000) {m : Nat} (hm : m ≤ 48) (hend : Tl (fun k => (tone_Tell.f k l (pc (el l w) f m)).bind fun bt116 => (if bt116.2 = 0 then ((diaphoneref01_SameInts.f k bt116.1 (([(w : Int)] : List Int))).bind fun t123 => (if t123 = true then ((diaphonelaw01_known.f k).bind fun t124 => (some t124)) else (some false))) else (some false))) true) (d : Nat) :
    ∀ i : Nat, i ≤ m → m - i = d → Tl (fun k => diaphonelaw01_ToneAparts.l0 k l (w : Int) f (m : Int) (pc (el l w) f i) (i : Int)) true := by
  induction d with
  | zero =>
    intro i h1 h2
    obtain rfl : i = m := by omega
    refine Tl.succ ?_
    simp only [diaphonelaw01_ToneAparts.l0]
    exact Tl.neg (by omega) hend
  | succ d ih =>
    intro i h1 h2
    have next := ih (i + 1) (by omega) (by omega)
    rw [pc_succ] at next
    refine Tl.succ ?_
    simp only [diaphonelaw01_ToneAparts.l0]
    rw [show wrap64 (f + (i : Int)) = f + (i : Int) by unfold wrap64; omega, show wrap64 ((i : Int) + 1) = ((i + 1 : Nat) : Int) by unfold wrap64; omega]
    exact Tl.pos (by omega) (Tl.pos (by omega) (Tl.pos (by omega) (Tl.bind (ev_At o _) (Tl.pos rfl (Tl.pos (by rw [pc_length]; omega) next)))))
end Ap
theorem ToneAparts : ∀ (x0 : List (List Int)) (x1 : Int) (x2 : Int), ((∀ y ∈ x0, (∀ z ∈ y, (Lit.int .i64 z).wf = true) ∧ y.length ≤ maxLen) ∧ x0.length ≤ maxLen) → ((Lit.int .i64 x1).wf = true) → ((Lit.int .i64 x2).wf = true) → ∃ k, diaphonelaw01_ToneAparts.f k x0 x1 x2 = some true := by
  intro l w f _ _ _
  refine Tl.ex (g := fun k => diaphonelaw01_ToneAparts.f k l w f) ?_
  unfold diaphonelaw01_ToneAparts.f
  obtain ⟨b, hb, tb⟩ := ev_Many l
  refine Tl.bind tb ?_
  cases b with
  | true => exact Tl.pos rfl ev_known'
  | false =>
    have hs := hb rfl
    obtain ⟨R, r1, r2, hR⟩ := ev_Apart hs
    have j1t : Tl (fun k => diaphonelaw01_ToneAparts.j1 k l w f R.1 true) true := by
      refine Tl.succ ?_
      simp only [diaphonelaw01_ToneAparts.j1]
      exact Tl.pos trivial ev_known'
    refine Tl.neg (by simp) (Tl.bind r1 (Tl.bind r2 (Tl.pos rfl (Tl.neg (by simp) (Tl.succ ?_)))))
    simp only [diaphonelaw01_ToneAparts.j0]
    refine Tl.neg (by simp) ?_
    cases hc : R.2.1 with
    | false => exact Tl.neg (by simp) j1t
    | true =>
      refine Tl.pos rfl ?_
      obtain ⟨ok, m, em, m48, hm⟩ := hR hc
      have h6 := ok.1
      by_cases c1 : w < 0
      · exact Tl.pos c1 j1t
      by_cases c2 : w ≥ (l.length : Int)
      · exact Tl.neg c1 (Tl.pos c2 j1t)
      by_cases c3 : f < 0
      · exact Tl.neg c1 (Tl.neg c2 (Tl.pos c3 j1t))
      refine Tl.neg c1 (Tl.neg c2 (Tl.neg c3 ?_))
      by_cases c4 : f > 1000
      · rw [decide_eq_true c4]; exact j1t
      rw [decide_eq_false c4]
      obtain ⟨w, rfl⟩ := Int.eq_ofNat_of_zero_le (show 0 ≤ w by omega)
      have hw : w < l.length := by omega
      have o := ok.2 w hw
      refine Tl.succ ?_
      simp only [diaphonelaw01_ToneAparts.j1]
      refine Tl.neg (by simp) ?_
      rw [em]
      have e0 : pc (el l w) f 0 = [] := by simp [pc]
      have key := Ap.cut hw o (f := f) (by omega) m48 ?_ m 0 (by omega) (by omega)
      · rw [e0] at key; exact key
      · obtain ⟨r, hr, hr2, t1, _⟩ := ev_Tell hs (x := pc (el l w) f m) (by rw [pc_length]; omega)
        have e := hr2 ok (by rw [pc_length]; omega) (bits_pc o f m)
        have hone := tl_one (l := l) (x := pc (el l w) f m) (w := w) (fun i hi => by
          rw [pc_length, mem_ps (ok.2 i hi).1]
          constructor
          · rintro ⟨j, ej⟩
            refine Classical.byContradiction (fun z => ?_)
            rcases Nat.lt_or_gt_of_ne z with z | z
            · exact hm w i hw z ⟨f, j, ej⟩
            · exact hm i w hi z ⟨j, f, ej.symm⟩
          · intro z; subst z; exact ⟨f, rfl⟩) l.length (Nat.le_refl _)
        rw [if_pos hw] at hone
        rw [hone] at e
        subst e
        exact Tl.bind t1 (Tl.pos rfl (Tl.bind (ev_SameInts [(w : Int)] (by simp)) (Tl.pos rfl ev_known')))
end Go.Proofs.Ytmpmfjnmfgnhcaa.Pure
