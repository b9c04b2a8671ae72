/- Lists of tones: which are right, which have a piece, how long one must listen to tell them apart. -/
import Derived.Test.YtmpmfjnmfgnhcaaFz
import Derived.Test.YtmpmfjnmfgnhcaaPx20
import Derived.Test.YtmpmfjnmfgnhcaaPx21
import Derived.Test.YtmpmfjnmfgnhcaaPx22
set_option linter.unusedVariables false
namespace Go.Proofs.Ytmpmfjnmfgnhcaa.Fl
open Go.RowKit Go.Proofs.Ytmpmfjnmfgnhcaa.P Go.Proofs.Ytmpmfjnmfgnhcaa.E Go.Proofs.Ytmpmfjnmfgnhcaa.Va Go.Proofs.Ytmpmfjnmfgnhcaa.Pe Go.Proofs.Ytmpmfjnmfgnhcaa.Nm Go.Proofs.Ytmpmfjnmfgnhcaa.Tn Go.Proofs.Ytmpmfjnmfgnhcaa.Sm Go.Proofs.Ytmpmfjnmfgnhcaa.Sw Go.Proofs.Ytmpmfjnmfgnhcaa.Fw Go.Proofs.Ytmpmfjnmfgnhcaa.Fx Go.Proofs.Ytmpmfjnmfgnhcaa.Fy Go.Proofs.Ytmpmfjnmfgnhcaa.Fz Go.Proofs.YtmpmfjnmfgnhcaaW.PrintMore
open Go.Proofs.YtmpmfjnmfgnhcaaW.PrintWords
abbrev el (l : List (List Int)) (i : Nat) : List Int := rd_L1 l (i : Int)
def Sml (l : List (List Int)) : Prop := l.length ≤ 50 ∧ ∀ i : Nat, i < l.length → (el l i).length ≤ 200
theorem many_loop {l : List (List Int)} (hl : l.length ≤ 50) (d : Nat) : ∀ i : Nat, i ≤ l.length → l.length - i = d → (∀ j : Nat, j < i → (el l j).length ≤ 200) → ∃ b : Bool, (b = false → Sml l) ∧ Tl (fun k => diaphonelaw01_Many.l0 k l (i : Int)) b := by
  induction d with
  | zero =>
    intro i h1 h2 h3
    refine ⟨false, fun _ => ⟨hl, fun j hj => h3 j (by omega)⟩, Tl.succ ?_⟩
    simp only [diaphonelaw01_Many.l0]
    exact Tl.neg (by omega) Tl.now
  | succ d ih =>
    intro i h1 h2 h3
    by_cases c : ((el l i).length : Int) > 200
    · refine ⟨true, fun z => by simp at z, Tl.succ ?_⟩
      simp only [diaphonelaw01_Many.l0, diaphonelaw01_Long.f]
      exact Tl.pos (by omega) (Tl.pos (by omega) (Tl.bind' (congrArg some (decide_eq_true c)) (Tl.pos rfl Tl.now)))
    · obtain ⟨b, hb, ht⟩ := ih (i + 1) (by omega) (by omega) (fun j hj => by
        by_cases e : j = i
        · subst e; omega
        · exact h3 j (by omega))
      refine ⟨b, hb, Tl.succ ?_⟩
      simp only [diaphonelaw01_Many.l0, diaphonelaw01_Long.f]
      rw [show wrap64 ((i : Int) + 1) = ((i + 1 : Nat) : Int) by unfold wrap64; omega]
      exact Tl.pos (by omega) (Tl.pos (by omega) (Tl.bind' (congrArg some (decide_eq_false c)) (Tl.neg (by simp) ht)))
theorem ev_Many (l : List (List Int)) : ∃ b : Bool, (b = false → Sml l) ∧ Tl (fun k => diaphonelaw01_Many.f k l) b := by
  unfold diaphonelaw01_Many.f
  by_cases c : (l.length : Int) > 50
  · exact ⟨true, fun z => by simp at z, Tl.pos c Tl.now⟩
  · obtain ⟨b, hb, ht⟩ := many_loop (l := l) (by omega) l.length 0 (by omega) (by omega) (fun j hj => by omega)
    exact ⟨b, hb, Tl.neg c ht⟩
theorem tones_loop {l : List (List Int)} (hs : Sml l) (d : Nat) : ∀ i : Nat, i ≤ l.length → l.length - i = d → (∀ j : Nat, j < i → Ok (el l j)) → ∃ e : Int, (e = 0 → ∀ j : Nat, j < l.length → Ok (el l j)) ∧ Tl (fun k => tone_tones.l0 k l (l.length : Int) (i : Int)) e ∧ Tl (fun k => diaphoneref01_listed.l0 k l (i : Int)) e := by
  have hl := hs.1
  induction d with
  | zero =>
    intro i h1 h2 h3
    refine ⟨0, fun _ j hj => h3 j (by omega), Tl.succ ?_, Tl.succ ?_⟩
    · simp only [tone_tones.l0]; exact Tl.neg (by omega) Tl.now
    · simp only [diaphoneref01_listed.l0]; exact Tl.neg (by omega) Tl.now
  | succ d ih =>
    intro i h1 h2 h3
    have hlen := hs.2 i (by omega)
    have v1 := ev_Validate (t := el l i) (by omega)
    have v2 := ev_rValidate (t := el l i) (by omega)
    by_cases c : vc (el l i) = 0
    · obtain ⟨e, he, t1, t2⟩ := ih (i + 1) (by omega) (by omega) (fun j hj => by
        by_cases e : j = i
        · subst e; exact vc_ok.1 c
        · exact h3 j (by omega))
      have ew : wrap64 ((i : Int) + 1) = ((i + 1 : Nat) : Int) := by unfold wrap64; omega
      refine ⟨e, he, Tl.succ ?_, Tl.succ ?_⟩
      · simp only [tone_tones.l0]; rw [ew]; exact Tl.pos (by omega) (Tl.pos (by omega) (Tl.pos (by omega) (Tl.bind v1 (Tl.pos c t1))))
      · simp only [diaphoneref01_listed.l0]; rw [ew]; exact Tl.pos (by omega) (Tl.pos (by omega) (Tl.bind v2 (Tl.pos c t2)))
    · refine ⟨vc (el l i), fun z => absurd z c, Tl.succ ?_, Tl.succ ?_⟩
      · simp only [tone_tones.l0]; exact Tl.pos (by omega) (Tl.pos (by omega) (Tl.pos (by omega) (Tl.bind v1 (Tl.neg c Tl.now))))
      · simp only [diaphoneref01_listed.l0]; exact Tl.pos (by omega) (Tl.pos (by omega) (Tl.bind v2 (Tl.neg c Tl.now)))
/-- A list of tones is right. -/
def Oks (l : List (List Int)) : Prop := l.length ≤ 6 ∧ ∀ j : Nat, j < l.length → Ok (el l j)
theorem ev_tones {l : List (List Int)} (hs : Sml l) : ∃ e : Int, (e = 0 → Oks l) ∧ Tl (fun k => tone_tones.f k l) e ∧ Tl (fun k => diaphoneref01_listed.f k l) e := by
  unfold tone_tones.f diaphoneref01_listed.f
  by_cases c : (l.length : Int) > 6
  · exact ⟨3, fun z => by omega, Tl.pos c Tl.now, Tl.pos c Tl.now⟩
  · obtain ⟨e, he, t1, t2⟩ := tones_loop hs l.length 0 (by omega) (by omega) (fun j hj => by omega)
    exact ⟨e, fun z => ⟨by omega, he z⟩, Tl.neg c t1, Tl.neg c t2⟩
theorem ev_isSeconds {t : List Int} (hl : t.length ≤ 1000) : Tl (fun k => tone_isSeconds.f k t) (Va.bits t) := by
  obtain ⟨j, hj, hr⟩ := pbits_loop t hl t.length 0 (by omega) (by omega)
  unfold tone_isSeconds.f slices_ContainsFunc_int_int_tone_isSeconds_1.f
  refine Tl.to (Tl.bind (Tl.bind hr Tl.now) Tl.now) ?_
  rw [List.drop_zero] at hj
  cases hb : Va.bits t with
  | true => rw [hb] at hj; have := hj.2 rfl; simp; omega
  | false => rw [hb] at hj; have : ¬ j < 0 := fun q => by simpa using hj.1 q
             simp; omega
theorem ev_rbits {t : List Int} (hl : t.length ≤ 1000) : Tl (fun k => diaphoneref01_bits.f k t) (Va.bits t) := rbits_loop t hl t.length 0 (by omega) (by omega)
/-- The numbers of the first tones that have a piece. -/
def tl (l : List (List Int)) (x : List Int) (m : Nat) : List Int := ((List.range m).filter (fun i => decide (x ∈ ps (el l i) x.length))).map (fun (i : Nat) => (i : Int))
theorem tl_succ (l : List (List Int)) (x : List Int) (m : Nat) : tl l x (m + 1) = tl l x m ++ (if x ∈ ps (el l m) x.length then [(m : Int)] else []) := by
  unfold tl
  rw [List.range_succ, List.filter_append, List.map_append]
  congr 1
  by_cases c : x ∈ ps (el l m) x.length <;> simp [c]
theorem tl_len (l : List (List Int)) (x : List Int) (m : Nat) : (tl l x m).length ≤ m := by
  unfold tl
  rw [List.length_map]
  have := List.length_filter_le (fun i => decide (x ∈ ps (el l i) x.length)) (List.range m)
  rwa [List.length_range] at this
theorem tell_loop {l : List (List Int)} (ok : Oks l) {x : List Int} (hx : x.length ≤ 60) (d : Nat) : ∀ i : Nat, i ≤ l.length → l.length - i = d → Tl (fun k => tone_Tell.l0 k l x (tl l x i) (i : Int)) (tl l x l.length, 0) := by
  have hl := ok.1
  induction d with
  | zero =>
    intro i h1 h2
    obtain rfl : i = l.length := by omega
    refine Tl.succ ?_
    simp only [tone_Tell.l0]
    exact Tl.neg (by omega) Tl.now
  | succ d ih =>
    intro i h1 h2
    have next := ih (i + 1) (by omega) (by omega)
    have o := ok.2 i (by omega)
    have hlen := tl_len l x i
    refine Tl.succ ?_
    simp only [tone_Tell.l0]
    rw [show wrap64 ((i : Int) + 1) = ((i + 1 : Nat) : Int) by unfold wrap64; omega]
    refine Tl.pos (by omega) (Tl.pos (by omega) (Tl.bind' (pieces_eq o hx) ?_))
    rw [tl_succ] at next
    by_cases c : x ∈ ps (el l i) x.length
    · rw [if_pos c] at next
      exact Tl.pos c (Tl.pos (by omega) next)
    · rw [if_neg c, List.append_nil] at next
      exact Tl.neg c next
theorem rtell_in {l : List (List Int)} {x : List Int} (hx : x.length ≤ 60) {i : Nat} (hi : i < l.length) (o : Ok (el l i)) {c : List Int} {R : List Int × Int} {N : Nat} (hN : (el l i).length = N) (d : Nat) : ∀ (j : Nat) (b : Bool), j ≤ N → N - j = d → (b = true ↔ ∃ q : Nat, q < j ∧ pc (el l i) (q : Int) x.length = x) →
    (∀ b : Bool, (b = true ↔ x ∈ ps (el l i) x.length) → Tl (fun k => if b = true then (if c.length < 17592186044416 then (diaphoneref01_Tell.l0 k l x (c ++ [(i : Int)]) (wrap64 ((i : Int) + 1))) else (none)) else (diaphoneref01_Tell.l0 k l x c (wrap64 ((i : Int) + 1)))) R) → Tl (fun k => diaphoneref01_Tell.l1 k l x c (i : Int) b (j : Int)) R := by
  have h24 : N ≤ 24 := by rw [← hN]; exact o.2.1
  induction d with
  | zero =>
    intro j b h1 h2 hb hR
    refine Tl.succ ?_
    simp only [diaphoneref01_Tell.l1]
    refine Tl.pos (by omega) (Tl.pos (by omega) (Tl.neg (by show ¬ (j : Int) < ((el l i).length : Int); rw [hN]; omega) (hR b ?_)))
    rw [hb]
    unfold ps
    rw [List.mem_map, hN]
    constructor
    · rintro ⟨q, hq, e⟩; exact ⟨q, List.mem_range.2 (by omega), e⟩
    · rintro ⟨q, hq, e⟩; exact ⟨q, by have := List.mem_range.1 hq; omega, e⟩
  | succ d ih =>
    intro j b h1 h2 hb hR
    have a1 : j + 1 ≤ N := by clear hb hR ih; omega
    have a2 : N - (j + 1) = d := by clear hb hR ih; omega
    refine Tl.succ ?_
    simp only [diaphoneref01_Tell.l1]
    rw [show wrap64 ((j : Int) + 1) = ((j + 1 : Nat) : Int) by unfold wrap64; omega]
    refine Tl.pos (by omega) (Tl.pos (by omega) (Tl.pos (by show (j : Int) < ((el l i).length : Int); rw [hN]; omega) ?_))
    cases b with
    | true =>
      refine Tl.pos rfl (ih (j + 1) true a1 a2 ⟨fun _ => ?_, fun _ => rfl⟩ hR)
      obtain ⟨q, hq, e⟩ := hb.1 rfl
      exact ⟨q, by omega, e⟩
    | false =>
      refine Tl.neg (by simp) (Tl.bind (ev_piece o.1 (by rw [hN]; omega) (f := (j : Int)) (by omega) (n := x.length) (by omega)) (Tl.bind (ev_SameInts' (by rw [pc_length]; omega)) (ih (j + 1) _ a1 a2 ?_ hR)))
      rw [decide_eq_true_eq]
      constructor
      · intro e; exact ⟨j, by omega, e⟩
      · rintro ⟨q, hq, e⟩
        by_cases z : q = j
        · subst z; exact e
        · exact absurd (hb.2 ⟨q, by omega, e⟩) (by simp)
theorem rtell_loop {l : List (List Int)} (ok : Oks l) {x : List Int} (hx : x.length ≤ 60) (d : Nat) : ∀ i : Nat, i ≤ l.length → l.length - i = d → Tl (fun k => diaphoneref01_Tell.l0 k l x (tl l x i) (i : Int)) (tl l x l.length, 0) := by
  have hl := ok.1
  induction d with
  | zero =>
    intro i h1 h2
    obtain rfl : i = l.length := by omega
    refine Tl.succ ?_
    simp only [diaphoneref01_Tell.l0]
    exact Tl.neg (by omega) Tl.now
  | succ d ih =>
    intro i h1 h2
    have next := ih (i + 1) (by omega) (by omega)
    have o := ok.2 i (by omega)
    have hlen := tl_len l x i
    refine Tl.succ ?_
    simp only [diaphoneref01_Tell.l0]
    refine Tl.pos (by omega) (rtell_in hx (by omega) o rfl _ 0 false (by omega) rfl ⟨fun z => by simp at z, fun ⟨q, hq, _⟩ => by omega⟩ (fun b hb => ?_))
    rw [show wrap64 ((i : Int) + 1) = ((i + 1 : Nat) : Int) by unfold wrap64; omega]
    rw [tl_succ] at next
    by_cases c : x ∈ ps (el l i) x.length
    · rw [if_pos c] at next
      exact Tl.pos (hb.2 c) (Tl.pos (by omega) next)
    · rw [if_neg c, List.append_nil] at next
      exact Tl.neg (fun z => c (hb.1 z)) next
/-- Which tones of a list have a piece. -/
theorem ev_Tell {l : List (List Int)} (hs : Sml l) {x : List Int} (hx : x.length ≤ 1000) : ∃ r : List Int × Int, r.1.length ≤ 1000 ∧ (Oks l → x.length ≤ 60 → Va.bits x = true → r = (tl l x l.length, 0)) ∧ Tl (fun k => tone_Tell.f k l x) r ∧ Tl (fun k => diaphoneref01_Tell.f k l x) r := by
  obtain ⟨e, he, t1, t2⟩ := ev_tones hs
  unfold tone_Tell.f diaphoneref01_Tell.f
  by_cases c : e = 0
  · have ok := he c
    by_cases c2 : (x.length : Int) > 60
    · exact ⟨([], 3), by simp, fun _ h => by omega, Tl.bind t1 (Tl.pos c (Tl.pos c2 Tl.now)), Tl.bind t2 (Tl.pos c (Tl.pos c2 Tl.now))⟩
    · by_cases c3 : Va.bits x = true
      · have hb : x.all (fun x => x == 0 || x == 1) = true := by
          unfold Va.bits at c3
          refine List.all_eq_true.2 (fun y hy => ?_)
          have := List.all_eq_true.1 c3 y hy
          simpa using this
        have r1 := tell_loop ok (x := x) (by omega) l.length 0 (by omega) (by omega)
        have r2 := rtell_loop ok (x := x) (by omega) l.length 0 (by omega) (by omega)
        refine ⟨(tl l x l.length, 0), by have := tl_len l x l.length; have := ok.1; simp only; omega, fun _ _ _ => rfl, Tl.bind t1 (Tl.pos c (Tl.neg c2 (Tl.bind (ev_isSeconds hx) (Tl.pos c3 (Tl.pos hb r1))))), Tl.bind t2 (Tl.pos c (Tl.neg c2 (Tl.bind (ev_rbits hx) (Tl.pos c3 r2))))⟩
      · exact ⟨([], 1), by simp, fun _ _ h => absurd h c3, Tl.bind t1 (Tl.pos c (Tl.neg c2 (Tl.bind (ev_isSeconds hx) (Tl.neg c3 Tl.now)))), Tl.bind t2 (Tl.pos c (Tl.neg c2 (Tl.bind (ev_rbits hx) (Tl.neg c3 Tl.now))))⟩
  · refine ⟨([], e), by simp, fun ok => ?_, Tl.bind t1 (Tl.neg c Tl.now), Tl.bind t2 (Tl.neg c Tl.now)⟩
    exfalso
    apply c
    have o1 := ok.1
    have key : ∀ d i : Nat, i ≤ l.length → l.length - i = d → Tl (fun k => tone_tones.l0 k l (l.length : Int) (i : Int)) 0 := by
      intro d
      induction d with
      | zero => intro i h1 h2; refine Tl.succ ?_; simp only [tone_tones.l0]; exact Tl.neg (by omega) Tl.now
      | succ d ih =>
        intro i h1 h2
        refine Tl.succ ?_
        simp only [tone_tones.l0]
        rw [show wrap64 ((i : Int) + 1) = ((i + 1 : Nat) : Int) by unfold wrap64; omega]
        exact Tl.pos (by omega) (Tl.pos (by omega) (Tl.pos (by omega) (Tl.bind (ev_Validate (t := el l i) (by have := hs.2 i (by omega); omega)) (Tl.pos (vc_ok.2 (ok.2 i (by omega))) (ih (i + 1) (by omega) (by omega))))))
    have t0 : Tl (fun k => tone_tones.f k l) 0 := by
      unfold tone_tones.f
      exact Tl.neg (by omega) (key l.length 0 (by omega) (by omega))
    obtain ⟨K, hK⟩ := t1
    obtain ⟨L, hL⟩ := t0
    have := (hK (max K L) (by omega)).symm.trans (hL (max K L) (by omega))
    exact Option.some.inj this
theorem tl_one {l : List (List Int)} {x : List Int} {w : Nat} (hw : ∀ i : Nat, i < l.length → (x ∈ ps (el l i) x.length ↔ i = w)) : ∀ m : Nat, m ≤ l.length → tl l x m = if w < m then [(w : Int)] else []
  | 0, _ => by simp [tl]
  | m + 1, hm => by
    rw [tl_succ, tl_one hw m (by omega)]
    by_cases c : m = w
    · subst c
      rw [if_pos ((hw m (by omega)).2 rfl), if_neg (by omega), if_pos (by omega)]; rfl
    · rw [if_neg (fun z => c ((hw m (by omega)).1 z)), List.append_nil]
      by_cases d : w < m
      · rw [if_pos d, if_pos (by omega)]
      · rw [if_neg d, if_neg (by omega)]
end Go.Proofs.Ytmpmfjnmfgnhcaa.Fl
