/- Proved here: for all weights and amounts, an amount is made up by trying, by ways, by residues and by gaps alike, and needless weights change nothing; it holds under no condition. -/
import Derived.Test.YtgndhijhcliegaaTp
import Derived.Test.YtgndhijhcliegaaPx51
set_option linter.unusedVariables false
namespace Go.Proofs.Ytgndhijhcliegaa.Pure
open Go.RowKit Go.Proofs.Ytgndhijhcliegaa.P Go.Proofs.Ytgndhijhcliegaa.E Go.Proofs.Ytgndhijhcliegaa.Va Go.Proofs.Ytgndhijhcliegaa.Kn Go.Proofs.Ytgndhijhcliegaa.Me Go.Proofs.Ytgndhijhcliegaa.Cc Go.Proofs.Ytgndhijhcliegaa.Rs Go.Proofs.YtgndhijhcliegaaW.PrintMore
open Go.Proofs.YtgndhijhcliegaaW.PrintWords
namespace Top
noncomputable instance madeDec (w : List Int) (n : Nat) : Decidable (made w n) := Classical.propDecidable _
section
variable {w : List Int} {m : Nat} {x : Int}
/-- Is it made up? -/
noncomputable def ok (w : List Int) (m : Nat) : Bool := decide (fw w m ≥ 0)
theorem ok_made : ok w m = true ↔ made w m := by unfold ok; rw [decide_eq_true_eq]; exact fw_nonneg
theorem ok_eq {p : Prop} [Decidable p] (h : made w m ↔ p) : ok w m = decide p := by
  unfold ok
  exact decide_eq_decide.2 (Iff.trans fw_nonneg h)
theorem cc_ok (o : Ok w) (hm : m ≤ 2000) : cc w (m : Int) = (ok w m, 0) := by
  unfold cc; rw [if_pos (ac_ok.2 ⟨o, by omega, by omega⟩), Int.toNat_natCast]; rfl
theorem up8 (o : Ok w) : Tl (fun k => diaphonetop_TopCharges.j8 k w x false) true := by
  have hw := o.1
  have vw := vc_ok.2 o
  obtain ⟨p, hp, e⟩ := Wit.ev_With (w := w) (x := x) (by omega)
  refine Tl.succ ?_
  simp only [diaphonetop_TopCharges.j8]
  refine Tl.neg (by simp) (Tl.bind e ?_)
  by_cases h : (Wit.wr w x p).2 = 0
  · obtain ⟨v1, v2, v3⟩ := Wit.wr_zero h
    have o2 := vc_ok.1 v2
    have hl := Wit.ins_len (x := x) (hp v1).1
    have hx : 1 ≤ x ∧ x ≤ 30 := by
      have hm : x ∈ Wit.ins w x p := by unfold Wit.ins; simp
      obtain ⟨j, hj, e⟩ := List.getElem_of_mem hm
      have := (o2.2 j hj).1
      rw [rd_lt hj, e] at this; exact this
    obtain ⟨n, rfl⟩ : ∃ n : Nat, x = (n : Int) := ⟨x.toNat, by omega⟩
    rw [v3]
    have es := Nd.ev_Same w (Wit.ins w (n : Int) p)
    have se : Nd.sc w (Wit.ins w (n : Int) p) = (decide (made w n), 0) := by
      unfold Nd.sc
      rw [if_pos v1, if_pos v2]
      refine Prod.ext (decide_eq_decide.2 ((Nd.same_iff o o2).trans ⟨fun q => ?_, fun q => ⟨fun i hi => ?_, fun j hj => ?_⟩⟩)) rfl
      · have hm : (n : Int) ∈ Wit.ins w (n : Int) p := by unfold Wit.ins; simp
        obtain ⟨j, hj, e⟩ := List.getElem_of_mem hm
        have := q.2 j hj
        rwa [rd_lt hj, e, Int.toNat_natCast] at this
      · obtain ⟨j, hj, e⟩ := Wit.at_ins (x := (n : Int)) (p := p) hi
        rw [← e]; exact Nd.G.elem hj
      · exact Wit.mk_less (x := (n : Int)) (p := p) (by rw [Int.toNat_natCast]; exact q) (show Mk (Wit.ins w (n : Int) p) (rd (Wit.ins w (n : Int) p) (j : Int)).toNat 1 from by
          have := Mk.step hj (Mk.zero (w := Wit.ins w (n : Int) p))
          rwa [Nat.zero_add] at this)
    rw [se] at es
    have ec := ev_Can w (n : Int)
    rw [cc_ok o (by omega)] at ec
    refine Tl.pos h (Tl.bind es (Tl.bind ec (Tl.pos rfl (Tl.pos rfl (Tl.to Tl.now ?_)))))
    rw [ok_eq Iff.rfl]; simp
  · have h0 : (Wit.wr w x p).1 = [] := by
      unfold Wit.wr at h ⊢
      rw [if_pos vw] at h ⊢
      by_cases h2 : x ∈ w
      · rw [if_pos h2]
      · rw [if_neg h2] at h ⊢
        by_cases h3 : vc (Wit.ins w x p) = 0
        · rw [if_pos h3] at h; exact absurd rfl h
        · rw [if_neg h3]
    refine Tl.neg h (Tl.to Tl.now ?_)
    rw [h0]; rfl
theorem up7 (o : Ok w) (hm : m ≤ 2000) : Tl (fun k => diaphonetop_TopCharges.j7 k w (m : Int) x (ok w m) false) true := by
  have er := Nd.ev_Reduce w
  rw [if_pos (vc_ok.2 o)] at er
  have o2 := Nd.rl_ok o
  have ec := ev_Can (Nd.rl w w.length) (m : Int)
  rw [cc_ok o2 hm] at ec
  refine Tl.succ ?_
  simp only [diaphonetop_TopCharges.j7]
  refine Tl.neg (by simp) (Tl.bind er (Tl.pos rfl (Tl.bind ec (Tl.pos rfl ?_))))
  have e : ok (Nd.rl w w.length) m = ok w m := decide_eq_decide.2 (Iff.trans fw_nonneg (Iff.trans Nd.rl_all fw_nonneg.symm))
  rw [e, show (ok w m != ok w m) = false by simp]
  exact up8 o
theorem up6 (o : Ok w) (hm : m ≤ 2000) : Tl (fun k => diaphonetop_TopCharges.j6 k w (m : Int) x (ok w m) false) true := by
  have ew := Wys.ev_Ways w (m : Int)
  have ha : ac w (m : Int) = 0 := ac_ok.2 ⟨o, by omega, by omega⟩
  refine Tl.succ ?_
  simp only [diaphonetop_TopCharges.j6]
  refine Tl.neg (by simp) (Tl.bind ew ?_)
  by_cases c : (m : Int) > 200
  · have e : Wys.wc w (m : Int) = (0, 3) := by unfold Wys.wc; rw [if_pos ha, if_pos c]
    rw [e]
    exact Tl.neg (by decide) (up7 o hm)
  · have e : Wys.wc w (m : Int) = (((Wys.wy w w.length m : Nat) : Int), 0) := by unfold Wys.wc; rw [if_pos ha, if_neg c, Int.toNat_natCast]
    rw [e]
    refine Tl.pos rfl ?_
    have e2 : ok w m = decide (((Wys.wy w w.length m : Nat) : Int) > 0) := ok_eq ⟨fun q => by have := Wys.made_wy o.wt q; omega, fun q => Wys.wy_made o.wt w.length (Nat.le_refl _) _ (by omega)⟩
    rw [← e2, show (ok w m != ok w m) = false by simp]
    exact up7 o hm
theorem up5 (o : Ok w) (hm : m ≤ 2000) : Tl (fun k => diaphonetop_TopCharges.j5 k w (m : Int) x (ok w m) false) true := by
  have eg := Gp.ev_Gaps w
  refine Tl.succ ?_
  simp only [diaphonetop_TopCharges.j5]
  refine Tl.neg (by simp) (Tl.bind eg ?_)
  by_cases h : Gp.sc w = 0
  · have e : Gp.gc w = (Gp.gl w, 0) := by unfold Gp.gc; rw [if_pos h]
    have h1 := (Gp.sc_ok.1 h).2
    have gl1 := Gp.gl_len w
    have eh := Gp.ev_Has (l := Gp.gl w) (by omega) (m : Int)
    have e2 : (ok w m == decide ((m : Int) ∈ Gp.gl w)) = false := by
      by_cases q : made w m
      · have n : ¬ (m : Int) ∈ Gp.gl w := fun z => ((Gp.gl_mem m).1 z).2 q
        rw [ok_made.2 q, decide_eq_false n]; rfl
      · have y : (m : Int) ∈ Gp.gl w := (Gp.gl_mem m).2 ⟨by
          by_cases z : m < 901
          · exact z
          · exact absurd (Gp.made_far o h1 (by omega)) q, q⟩
        rw [decide_eq_true y, Bool.eq_false_iff.2 (fun z => q (ok_made.1 z))]; rfl
    rw [e]
    clear e
    generalize Gp.gl w = g at eh e2 ⊢
    refine Tl.pos rfl (Tl.bind eh ?_)
    rw [e2]
    exact up6 o hm
  · have e : Gp.gc w = ([], Gp.sc w) := by unfold Gp.gc; rw [if_neg h]
    rw [e]
    exact Tl.neg h (up6 o hm)
theorem up3 (o : Ok w) (hm : m ≤ 2000) : Tl (fun k => diaphonetop_TopCharges.j3 k w (m : Int) x (ok w m)) true := by
  have er := ev_Residues w
  have e : rc w = (Rs.rl w (w0 w), 0) := by unfold rc; rw [if_pos (vc_ok.2 o)]
  rw [e] at er
  obtain ⟨a1, a2, a3⟩ := w0_range o
  have hl := o.1
  refine Tl.succ ?_
  simp only [diaphonetop_TopCharges.j3]
  refine Tl.bind er (Tl.pos rfl (Tl.pos (by omega) ?_))
  rw [a3]
  rw [show (((Rs.rl w (w0 w)).length : Int) != (w0 w : Int)) = false by rw [rl_length]; simp]
  refine Tl.succ ?_
  simp only [diaphonetop_TopCharges.j4]
  rw [a3]
  have md : Int.tmod (m : Int) (w0 w : Int) = ((m % w0 w : Nat) : Int) := by rw [Int.tmod_eq_emod_of_nonneg (by omega)]; omega
  have lt : m % w0 w < w0 w := Nat.mod_lt _ (by omega)
  rw [md, rl_rd lt, rl_length]
  refine Tl.neg (by simp) (Tl.pos (by omega) (Tl.neg (by omega) (Tl.pos (by omega) (Tl.pos (by omega) ?_))))
  have rs := res_is w (m % w0 w)
  by_cases c : res w (m % w0 w) ≥ 0
  · refine Tl.pos c ?_
    have e2 : ok w m = decide ((m : Int) ≥ res w (m % w0 w)) := ok_eq (by
      rcases rs with ⟨r1, _⟩ | ⟨n, r1, r2, r3, r4⟩
      · omega
      · rw [r1]
        exact ⟨fun q => by have := r4 m rfl q; omega, fun q => made_up o r3 (by omega) r2⟩)
    rw [← e2, show (ok w m != ok w m) = false by simp]
    exact up5 o hm
  · refine Tl.neg c ?_
    have e2 : ok w m = false := Bool.eq_false_iff.2 (fun q => by
      rcases rs with ⟨r1, r2⟩ | ⟨n, r1, _⟩
      · exact r2 m rfl (ok_made.1 q)
      · omega)
    rw [e2]
    have := up5 (x := x) o hm
    rw [e2] at this
    exact this
theorem sum_loop {l : List Int} {g : Nat → Option Bool} {s e : Int} {h : Bool} {v15 : Int} (hl : l.length ≤ 1000) (hb : ∀ i : Nat, i < l.length → 0 ≤ rd l (i : Int) ∧ rd l (i : Int) ≤ 2000) (a : Int)
    (out : Tl (fun k => if e = 0 then (if s = a then (if sm l l.length = v15 then diaphonetop_TopCharges.j3 k w a x h else none) else none) else none) true) : ∀ d i : Nat, i + d = l.length → Tl (fun k => diaphonetop_TopCharges.l0 k w a x h l v15 s e (sm l i) (i : Int)) true := by
  have rng : ∀ i : Nat, i ≤ l.length → 0 ≤ sm l i ∧ sm l i ≤ 2000 * i := by
    intro i
    induction i with
    | zero => intro _; simp [sm]
    | succ i ih =>
      intro hi
      have := ih (by omega)
      have := hb i (by omega)
      show 0 ≤ sm l i + rd l (i : Int) ∧ sm l i + rd l (i : Int) ≤ _
      omega
  intro d
  induction d with
  | zero =>
    intro i h
    obtain rfl : i = l.length := by omega
    refine Tl.succ ?_
    simp only [diaphonetop_TopCharges.l0]
    exact Tl.neg (by omega) out
  | succ d ih =>
    intro i h
    have next := ih (i + 1) (by omega)
    have r := rng (i + 1) (by omega)
    have e : sm l i + rd l (i : Int) = sm l (i + 1) := rfl
    refine Tl.succ ?_
    simp only [diaphonetop_TopCharges.l0]
    rw [e, w64 (x := sm l (i + 1)) (by omega) (by omega), w64 (x := (i : Int) + 1) (by omega) (by omega)]
    exact Tl.pos (by omega) (Tl.pos (by omega) next)
theorem up0 (hl : w.length ≤ 50) {a : Int} : Tl (fun k => (charge_Can.f k w a).bind fun bt110 => (if bt110.2 = 0 then ((charge_Fire.f k w a).bind fun bt115 => ((charge_Fewest.f k w a).bind fun bt120 => (if bt115.2.2 = 0 then (if bt120.2.2 = 0 then (if (bt115.2.1 != bt110.1) = true then (none) else (diaphonetop_TopCharges.j1 k w a x bt110.1 bt115.1 bt120.1 (bt120.2.1 != bt110.1))) else (none)) else (none)))) else ((charge_Fewest.f k w a).bind fun bt112 => (if bt112.2.2 = bt110.2 then (some (!bt110.1)) else (none))))) true := by
  by_cases h : ac w a = 0
  · have hk := ac_ok.1 h
    obtain ⟨m, rfl⟩ : ∃ m : Nat, a = (m : Int) := ⟨a.toNat, by omega⟩
    have hm : m ≤ 2000 := by omega
    obtain ⟨L, l1, l2, hf⟩ := ev_fill hk.1.wt (show m ≤ 10000 by omega)
    have w2 := hk.1.wt.1
    have ec := ev_Can w (m : Int)
    rw [cc_ok hk.1 hm] at ec
    have ef := ev_Fewest w (m : Int)
    refine Tl.bind ec (Tl.pos rfl ?_)
    by_cases c : fw w m ≥ 0
    · have o1 : ok w m = true := decide_eq_true c
      obtain ⟨r, r1, r2, r3, r4, r5⟩ := Fir.fire_loop (T := tab w (m + 1)) hk.1 (show m ≤ 2000 by omega) l1 l2 m (List.replicate w.length 0) (Nat.le_refl _) c (by simp) (fun i hi => by
        rw [List.length_replicate] at hi
        rw [rd_lt (by simpa using hi)]; simp; omega)
      rw [(Fir.zeros w w.length).1, Int.zero_add] at r3
      rw [(Fir.zeros w w.length).2, Int.zero_add] at r4
      have e1 : Tl (fun k => charge_Fire.f k w (m : Int)) (r, true, 0) := by
        unfold charge_Fire.f
        refine Tl.bind (ev_amounted w m) (Tl.pos h (Tl.bind hf (Tl.bind' can_tab (Tl.pos (decide_eq_true c) (Tl.pos (by omega) (Tl.pos (by omega) ?_))))))
        rw [Int.toNat_natCast]
        exact r5
      have e2 : fc w (m : Int) = (fw w m, true, 0) := by unfold fc; rw [if_pos h, Int.toNat_natCast, if_pos c]
      have e3 : kc w r = ((m : Int), 0) := by unfold kc; rw [if_pos (vc_ok.2 hk.1), if_pos ⟨r1, inb_of r2⟩, r3]
      rw [e2] at ef
      have ek := ev_Check (w := w) (l := r) (by omega)
      rw [e3] at ek
      refine Tl.bind e1 (Tl.bind ef (Tl.pos rfl (Tl.pos rfl ?_)))
      rw [o1]
      refine Tl.neg (by simp) ?_
      rw [show (true != true) = false by rfl]
      refine Tl.succ ?_
      simp only [diaphonetop_TopCharges.j1]
      have u3 := up3 (x := x) hk.1 hm
      rw [o1] at u3
      exact Tl.neg (by simp) (Tl.pos trivial (Tl.bind ek (sum_loop (g := fun _ => none) (by omega) r2 (m : Int) (Tl.pos rfl (Tl.pos rfl (Tl.pos (by rw [r1, r4]) u3))) r.length 0 (by omega))))
    · have o1 : ok w m = false := decide_eq_false c
      have e1 : Tl (fun k => charge_Fire.f k w (m : Int)) ([], false, 0) := by
        unfold charge_Fire.f
        exact Tl.bind (ev_amounted w m) (Tl.pos h (Tl.bind hf (Tl.bind' can_tab (Tl.neg (by rw [decide_eq_true_eq]; exact c) Tl.now))))
      have e2 : fc w (m : Int) = (0, false, 0) := by unfold fc; rw [if_pos h, Int.toNat_natCast, if_neg c]
      rw [e2] at ef
      refine Tl.bind e1 (Tl.bind ef (Tl.pos rfl (Tl.pos rfl ?_)))
      rw [o1]
      refine Tl.neg (by simp) ?_
      rw [show (false != false) = false by rfl]
      refine Tl.succ ?_
      simp only [diaphonetop_TopCharges.j1]
      have u3 := up3 (x := x) hk.1 hm
      rw [o1] at u3
      exact Tl.neg (by simp) (Tl.neg (by simp) u3)
  · have e1 : cc w a = (false, ac w a) := by unfold cc; rw [if_neg h]
    have e2 : fc w a = (0, false, ac w a) := by unfold fc; rw [if_neg h]
    have ec := ev_Can w a
    have ef := ev_Fewest w a
    rw [e1] at ec
    rw [e2] at ef
    exact Tl.bind ec (Tl.neg h (Tl.bind ef (Tl.pos rfl Tl.now)))
theorem known : Tl (fun k => charge_Ways.f k ([2, 3] : List Int) 6) (2, 0) := Tl.mono (charge_Ways.mono _ _) 60 (by decide +kernel)
end
end Top
theorem TopCharges : ∀ (x0 : List Int) (x1 : Int) (x2 : Int), ((∀ y ∈ x0, (Lit.int .i64 y).wf = true) ∧ x0.length ≤ maxLen) → ((Lit.int .i64 x1).wf = true) → ((Lit.int .i64 x2).wf = true) → ∃ k, diaphonetop_TopCharges.f k x0 x1 x2 = some true := by
  intro w a x _ _ _
  refine Tl.ex (g := fun k => diaphonetop_TopCharges.f k w a x) ?_
  unfold diaphonetop_TopCharges.f
  refine Tl.bind Top.known (Tl.pos rfl ?_)
  rw [show ((2 : Int) != 2) = false by simp]
  refine Tl.succ ?_
  simp only [diaphonetop_TopCharges.j0]
  refine Tl.neg (by simp) (Tl.bind (ev_Long1 w) ?_)
  by_cases h : (w.length : Int) > 50
  · exact Tl.pos (decide_eq_true h) Tl.now
  · exact Tl.neg (by simpa using h) (Top.up0 (by omega))
end Go.Proofs.Ytgndhijhcliegaa.Pure
