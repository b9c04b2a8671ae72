-- laid by a program of this session (wip/tools): plain functions of the Go code and their contracts
-- thinned4
-- thinned3
-- thinned
import Derived.Test.YtboefcikdfjfmaaProg
import Derived.Below
import Derived.Deep.Draws
import Derived.Deep.AppendLies
import Derived.Maps.AppendAt
import Derived.OwnWalk
import Derived.Laws.BytesArg
import Derived.Laws.MakeOwn
import Derived.Laws.OwnMore
import Derived.Deep.OwnRows
import Derived.Tactics
import Derived.Lib.ConvBytes
import Derived.Laws.Slices
import Derived.WalkKit
import Derived.KernelRfl
import Derived.RowKit3
import Derived.Deep.LoopGhost
import Derived.Deep.QuietTactic
import Derived.BigQuiet
import Derived.WideLaws
import Derived.Deep.DeepCutAuto
import Derived.Deep.CutBlock
import Derived.Deep.RegionHeld3
import Derived.Laws.Rows
import Derived.Lib.AppendStr
import Derived.ArgAppend
import Derived.Laws.IdiomCopy
import Derived.OrdersHeld
import Derived.Laws.BitsLemmas
import Derived.RowKit
import Derived.Laws.CopyOwn
import Derived.WalkSpells
import Derived.WalkLawsBesides
import Derived.Lib.SliceRun
import Derived.Lib.AppendZerosOnto
import Derived.Lib.Walk
import Derived.ScopeJumps
import Derived.WalkMore
import Derived.Laws.EntriesVeiled
import Derived.Test.YtboefcikdfjfmaaWWords
import Derived.Test.YtboefcikdfjfmaaWLast
import Derived.Test.YtboefcikdfjfmaaWTab
import Derived.Test.YtboefcikdfjfmaaWQPut
import Derived.Test.YtboefcikdfjfmaaWApart
import Derived.Test.YtboefcikdfjfmaaWArr
import Derived.Test.YtboefcikdfjfmaaWZeros
import Derived.Test.YtboefcikdfjfmaaWFoot
import Derived.Test.YtboefcikdfjfmaaWKept
import Derived.Test.YtboefcikdfjfmaaWShare
import Derived.Test.YtboefcikdfjfmaaWN
import Derived.Test.YtboefcikdfjfmaaWFootNe
import Derived.Test.YtboefcikdfjfmaaWAt
import Derived.Test.YtboefcikdfjfmaaWEqStruct
import Derived.Test.YtboefcikdfjfmaaWRepsOne
import Derived.Test.YtboefcikdfjfmaaWGuard
import Derived.Test.YtboefcikdfjfmaaWNEv
import Derived.Test.YtboefcikdfjfmaaWMore
import Derived.Test.YtboefcikdfjfmaaWHand
namespace Go.Proofs.Ytboefcikdfjfmaa.P
open Go.RowKit Go.Proofs.YtboefcikdfjfmaaW.PrintWords Go.Proofs.YtboefcikdfjfmaaW.PrintLast Go.Proofs.YtboefcikdfjfmaaW.PrintMore
attribute [local go_sem] max2_int min2_int max_two min_two max_three min_three max_four min_four   -- for this text's walks alone
set_option linter.unusedVariables false
set_option linter.unusedSimpArgs false



def errW : Option Int → Value
 | none => .nilIface
 | some c => .iface 0 (.int .i64 c)
theorem errW_none : errW none = .nilIface := rfl
theorem errW_some (c : Int) : errW (some c) = .iface 0 (.int .i64 c) := rfl

theorem info3 : (Try.prog.info? 3).map (fun i => (i.zero, i.size, i.bytes)) = some (some (.int .i64 0), 1, 8) := by kernel_rfl
-- the values' own types
def rd_L1 (xs : List (List Int)) (i : Int) : (List Int) := xs.getD i.toNat ([] : List Int)
theorem at_L1 {w : World} {A : Option Addr} {n : Nat} {xs : List (List Int)} (h : Kd.C (Kd.slice 3 (Kd.int .i64)) w A n xs) (i : Int) (h0 : 0 ≤ i) (h1 : i < n) : ∃ ad A0 c0, A = some ad ∧ w.cell? (ad.add i.toNat) = some (.slice A0 (rd_L1 xs i).length c0) ∧ (rd_L1 xs i).length ≤ c0 ∧ (Kd.int .i64).C w A0 (rd_L1 xs i).length (rd_L1 xs i) := by
 obtain ⟨ad, c, e, _, hK, hc0⟩ := Kd.C_get h ([] : List Int) i h0 h1; have hc : ∀ j u, c[j]? = some u → w.cell? (ad.add (i.toNat * 1 + j)) = some u := hc0
 obtain ⟨A0, c0, rfl, l0, g0⟩ := hK; exact ⟨ad, A0, c0, e, by have hq := hc 0 _ rfl; rwa [Nat.mul_one, Nat.add_zero] at hq, l0, g0⟩

/-! #### struct type 24 -/
structure S24 where
 f0 : Int
 f1 : Int
 f2 : (List Int)
 f3 : (List Int)
def z24 : S24 := ⟨(0 : Int), (0 : Int), ([] : List Int), ([] : List Int)⟩
def k24 : Kd S24 := Kd.iso (Kd.pair (Kd.int .i64) (Kd.pair (Kd.int .i64) (Kd.pair (Kd.slice 3 (Kd.int .i64)) (Kd.slice 3 (Kd.int .i64))))) (fun x : S24 => (x.f0, x.f1, x.f2, x.f3))
theorem k24_open {w : World} {x : S24} {cs : List Value} (h : k24.K w x cs) : ∃ A2 c2 A3 c3, cs = [.int .i64 x.f0, .int .i64 x.f1, .slice A2 x.f2.length c2, .slice A3 x.f3.length c3] ∧ x.f2.length ≤ c2 ∧ (Kd.int .i64).C w A2 x.f2.length x.f2 ∧ x.f3.length ≤ c3 ∧ (Kd.int .i64).C w A3 x.f3.length x.f3 := by
 obtain ⟨_, _, rfl, rfl, ⟨_, _, rfl, rfl, ⟨_, _, rfl, ⟨A2, c2, rfl, l2, g2⟩, ⟨A3, c3, rfl, l3, g3⟩⟩⟩⟩ := h; exact ⟨A2, c2, A3, c3, rfl, l2, g2, l3, g3⟩
theorem k24_openM {w : World} {base : Nat} {ok : Nat → Prop} {x : S24} {cs : List Value} (h : k24.M w base ok x cs) : ∃ v2 v3, cs = [.int .i64 x.f0, .int .i64 x.f1, v2, v3] ∧ (Kd.int .i64).R 3 w base ok v2 x.f2 ∧ (Kd.int .i64).R 3 w base ok v3 x.f3 := by
 obtain ⟨_, _, rfl, rfl, ⟨_, _, rfl, rfl, ⟨_, _, rfl, ⟨v2, rfl, g2⟩, ⟨v3, rfl, g3⟩⟩⟩⟩ := h; exact ⟨v2, v3, rfl, g2, g3⟩
theorem k24_mk (w : World) (x : S24) {A2 : Option Addr} {c2 : Nat} (l2 : x.f2.length ≤ c2) (g2 : (Kd.int .i64).C w A2 x.f2.length x.f2) {A3 : Option Addr} {c3 : Nat} (l3 : x.f3.length ≤ c3) (g3 : (Kd.int .i64).C w A3 x.f3.length x.f3) : k24.K w x [.int .i64 x.f0, .int .i64 x.f1, .slice A2 x.f2.length c2, .slice A3 x.f3.length c3] := ⟨[.int .i64 x.f0], [.int .i64 x.f1, .slice A2 x.f2.length c2, .slice A3 x.f3.length c3], rfl, rfl, ⟨[.int .i64 x.f1], [.slice A2 x.f2.length c2, .slice A3 x.f3.length c3], rfl, rfl, ⟨[.slice A2 x.f2.length c2], [.slice A3 x.f3.length c3], rfl, ⟨A2, c2, rfl, l2, g2⟩, ⟨A3, c3, rfl, l3, g3⟩⟩⟩⟩
theorem k24_mkM (w : World) (base : Nat) (ok : Nat → Prop) (x : S24) {v2 : Value} (g2 : (Kd.int .i64).R 3 w base ok v2 x.f2) {v3 : Value} (g3 : (Kd.int .i64).R 3 w base ok v3 x.f3) : k24.M w base ok x [.int .i64 x.f0, .int .i64 x.f1, v2, v3] := ⟨[.int .i64 x.f0], [.int .i64 x.f1, v2, v3], rfl, rfl, ⟨[.int .i64 x.f1], [v2, v3], rfl, rfl, ⟨[v2], [v3], rfl, ⟨v2, rfl, g2⟩, ⟨v3, rfl, g3⟩⟩⟩⟩
def rd_T24 (xs : List S24) (i : Int) : S24 := xs.getD i.toNat z24
theorem at_T24 {w : World} {A : Option Addr} {n : Nat} {xs : List S24} (h : Kd.C k24 w A n xs) (i : Int) (h0 : 0 ≤ i) (h1 : i < n) : ∃ ad A2 c2 A3 c3, A = some ad ∧ w.cell? (ad.add (i.toNat * 4)) = some (.int .i64 (rd_T24 xs i).f0) ∧ w.cell? ⟨(ad.add (i.toNat * 4)).block, (ad.add (i.toNat * 4)).off + 1, none⟩ = some (.int .i64 (rd_T24 xs i).f1) ∧ w.cell? ⟨(ad.add (i.toNat * 4)).block, (ad.add (i.toNat * 4)).off + 2, none⟩ = some (.slice A2 (rd_T24 xs i).f2.length c2) ∧ w.cell? ⟨(ad.add (i.toNat * 4)).block, (ad.add (i.toNat * 4)).off + 3, none⟩ = some (.slice A3 (rd_T24 xs i).f3.length c3) ∧ (rd_T24 xs i).f2.length ≤ c2 ∧ (Kd.int .i64).C w A2 (rd_T24 xs i).f2.length (rd_T24 xs i).f2 ∧ (rd_T24 xs i).f3.length ≤ c3 ∧ (Kd.int .i64).C w A3 (rd_T24 xs i).f3.length (rd_T24 xs i).f3 := by
 obtain ⟨ad, c, e, _, hK, hc0⟩ := Kd.C_get h z24 i h0 h1; have hc : ∀ j u, c[j]? = some u → w.cell? (ad.add (i.toNat * 4 + j)) = some u := hc0
 obtain ⟨A2, c2, A3, c3, rfl, l2, g2, l3, g3⟩ := k24_open hK; exact ⟨ad, A2, c2, A3, c3, e, hc 0 _ rfl, by rw [← add_field _ _ 1 (by omega)]; exact hc 1 _ rfl, by rw [← add_field _ _ 2 (by omega)]; exact hc 2 _ rfl, by rw [← add_field _ _ 3 (by omega)]; exact hc 3 _ rfl, l2, g2, l3, g3⟩

/-! #### struct type 47 -/
structure S47 where
 f0 : (List Int)
 f1 : (List Int)
def z47 : S47 := ⟨([] : List Int), ([] : List Int)⟩
def k47 : Kd S47 := Kd.iso (Kd.pair (Kd.slice 3 (Kd.int .i64)) (Kd.slice 3 (Kd.int .i64))) (fun x : S47 => (x.f0, x.f1))
theorem k47_open {w : World} {x : S47} {cs : List Value} (h : k47.K w x cs) : ∃ A0 c0 A1 c1, cs = [.slice A0 x.f0.length c0, .slice A1 x.f1.length c1] ∧ x.f0.length ≤ c0 ∧ (Kd.int .i64).C w A0 x.f0.length x.f0 ∧ x.f1.length ≤ c1 ∧ (Kd.int .i64).C w A1 x.f1.length x.f1 := by
 obtain ⟨_, _, rfl, ⟨A0, c0, rfl, l0, g0⟩, ⟨A1, c1, rfl, l1, g1⟩⟩ := h; exact ⟨A0, c0, A1, c1, rfl, l0, g0, l1, g1⟩
theorem k47_openM {w : World} {base : Nat} {ok : Nat → Prop} {x : S47} {cs : List Value} (h : k47.M w base ok x cs) : ∃ v0 v1, cs = [v0, v1] ∧ (Kd.int .i64).R 3 w base ok v0 x.f0 ∧ (Kd.int .i64).R 3 w base ok v1 x.f1 := by
 obtain ⟨_, _, rfl, ⟨v0, rfl, g0⟩, ⟨v1, rfl, g1⟩⟩ := h; exact ⟨v0, v1, rfl, g0, g1⟩
theorem k47_mk (w : World) (x : S47) {A0 : Option Addr} {c0 : Nat} (l0 : x.f0.length ≤ c0) (g0 : (Kd.int .i64).C w A0 x.f0.length x.f0) {A1 : Option Addr} {c1 : Nat} (l1 : x.f1.length ≤ c1) (g1 : (Kd.int .i64).C w A1 x.f1.length x.f1) : k47.K w x [.slice A0 x.f0.length c0, .slice A1 x.f1.length c1] := ⟨[.slice A0 x.f0.length c0], [.slice A1 x.f1.length c1], rfl, ⟨A0, c0, rfl, l0, g0⟩, ⟨A1, c1, rfl, l1, g1⟩⟩
theorem k47_mkM (w : World) (base : Nat) (ok : Nat → Prop) (x : S47) {v0 : Value} (g0 : (Kd.int .i64).R 3 w base ok v0 x.f0) {v1 : Value} (g1 : (Kd.int .i64).R 3 w base ok v1 x.f1) : k47.M w base ok x [v0, v1] := ⟨[v0], [v1], rfl, ⟨v0, rfl, g0⟩, ⟨v1, rfl, g1⟩⟩
def rd_T47 (xs : List S47) (i : Int) : S47 := xs.getD i.toNat z47
theorem at_T47 {w : World} {A : Option Addr} {n : Nat} {xs : List S47} (h : Kd.C k47 w A n xs) (i : Int) (h0 : 0 ≤ i) (h1 : i < n) : ∃ ad A0 c0 A1 c1, A = some ad ∧ w.cell? (ad.add (i.toNat * 2)) = some (.slice A0 (rd_T47 xs i).f0.length c0) ∧ w.cell? ⟨(ad.add (i.toNat * 2)).block, (ad.add (i.toNat * 2)).off + 1, none⟩ = some (.slice A1 (rd_T47 xs i).f1.length c1) ∧ (rd_T47 xs i).f0.length ≤ c0 ∧ (Kd.int .i64).C w A0 (rd_T47 xs i).f0.length (rd_T47 xs i).f0 ∧ (rd_T47 xs i).f1.length ≤ c1 ∧ (Kd.int .i64).C w A1 (rd_T47 xs i).f1.length (rd_T47 xs i).f1 := by
 obtain ⟨ad, c, e, _, hK, hc0⟩ := Kd.C_get h z47 i h0 h1; have hc : ∀ j u, c[j]? = some u → w.cell? (ad.add (i.toNat * 2 + j)) = some u := hc0
 obtain ⟨A0, c0, A1, c1, rfl, l0, g0, l1, g1⟩ := k47_open hK; exact ⟨ad, A0, c0, A1, c1, e, hc 0 _ rfl, by rw [← add_field _ _ 1 (by omega)]; exact hc 1 _ rfl, l0, g0, l1, g1⟩

/-- Which operations are done. -/
def Bq (n v : Nat) : Array Bool := ⟨(List.range n).map fun i => Nat.testBit v i⟩
/-! Short names for what the walks name often. -/
theorem Xa : ∀ {B : Nat} {w W : World}, Below B w W → ∀ (n : Nat), Below B w (World.drewN W n) := @pw_below_drewN
theorem Xb : ∀ {base : Nat} {w W : World}, Below base w W → Below base w (World.drew W) := @below_drew1
theorem Xc : ∀ {w W : World}, Below (Array.size (World.heap w)) w W → ∀ (o : Obj), Below (Array.size (World.heap w)) w (World.alloc W o) := @below_alloc
theorem Xd : ∀ {w W : World} {g j : Nat} {v : Value}, Below (Array.size (World.heap w)) w W → Array.size (World.heap w) ≤ g → Below (Array.size (World.heap w)) w (World.setCell W { block := g, off := j } v) := @below_set
theorem Xe : ∀ {w : World} {g : Nat} {o : Obj}, (World.heap w)[g]? = some o → ∀ (o' : Obj), (World.heap (World.alloc w o'))[g]? = some o := @blk_alloc
theorem Xf : ∀ {w : World} {g : Nat} {o : Obj}, (World.heap w)[g]? = some o → ∀ (n : Nat), (World.heap (World.drewN w n))[g]? = some o := @blk_drewN
theorem Xg : ∀ {w : World} {g : Nat} {o : Obj}, (World.heap w)[g]? = some o → (World.heap (World.drew w))[g]? = some o := @blk_drew
theorem Xh : ∀ {w : World} {g : Nat} {t : TypeId} {cs : Array Value}, (World.heap w)[g]? = some (Obj.cells cs t) → ∀ (i : Nat), World.frozen? w { block := g, off := i } = false := @blk_frozen
theorem Xi : ∀ {w : World} {g : Nat} {t : TypeId} {cs : Array Value}, (World.heap w)[g]? = some (Obj.cells cs t) → ∀ (i : Nat), World.cell? w { block := g, off := i } = cs[i]? := @blk_cell
theorem Xj : ∀ {α : Type} (l : List α) (i : Nat) (a : α), Array.setIfInBounds (List.toArray l) i a = List.toArray (List.set l i a) := @List.setIfInBounds_toArray
theorem Xk : ∀ {α : Type} {x : α} {xs : List α} {a : α}, List.set (x :: xs) 0 a = a :: xs := @List.set_cons_zero
theorem Xl : ∀ {α : Type} {x : α} {xs : List α} {i : Nat} {a : α}, List.set (x :: xs) (i + 1) a = x :: List.set xs i a := @List.set_cons_succ
theorem Xm : ∀ {α : Type} {β : Type} {f : α → β} {l : List α}, Array.map f (List.toArray l) = List.toArray (List.map f l) := @List.map_toArray
theorem Xn : ∀ {α : Type} {β : Type} {f : α → β} {a : α} {l : List α}, List.map f (a :: l) = f a :: List.map f l := @List.map_cons
theorem Xo : ∀ {α : Type} {β : Type} {f : α → β}, List.map f [] = [] := @List.map_nil
theorem Xp : ∀ {α : Type} {i : Nat} {l : List α}, List.length (List.drop i l) = List.length l - i := @List.length_drop
theorem Xq : ∀ {α : Type} {i : Nat} {l : List α}, List.length (List.take i l) = min i (List.length l) := @List.length_take
theorem Xr : ∀ {α : Type} {d : Kd α} {w : World} {xs : List α} {A : Option Addr} {n : Nat}, Kd.C d w A n xs → ∀ (o : Obj), Kd.C d (World.alloc w o) A n xs := @Kd.C_alloc
theorem Xs : ∀ {α : Type} {d : Kd α} {w : World} {xs : List α} {A : Option Addr} {n : Nat}, Kd.C d w A n xs → ∀ (m : Nat), Kd.C d (World.drewN w m) A n xs := @Kd.C_drewN
theorem Xt : ∀ {α : Type} {d : Kd α} {w : World} {xs : List α} {A : Option Addr} {n : Nat}, Kd.C d w A n xs → Kd.C d (World.drew w) A n xs := @Kd.C_drew
theorem Xu : ∀ {α : Type} {d : Kd α} {w w1 : World} {xs : List α} {A : Option Addr} {n : Nat}, Kd.C d w A n xs → Below (Array.size (World.heap w)) w w1 → Kd.C d w1 A n xs := @Kd.C_below
theorem Xv : ∀ {α : Type} {d : Kd α} {e : Nat} {w : World} {base : Nat} {ok : Nat → Prop} {v : Value} {xs : List α}, Kd.R d e w base ok v xs → ∀ (o : Obj), Kd.R d e (World.alloc w o) base ok v xs := @Kd.R_alloc
theorem Xw : ∀ {α : Type} {d : Kd α} {e : Nat} {w : World} {base : Nat} {ok : Nat → Prop} {v : Value} {xs : List α}, Kd.R d e w base ok v xs → ∀ (m : Nat), Kd.R d e (World.drewN w m) base ok v xs := @Kd.R_drewN
theorem Xx : ∀ {α : Type} {d : Kd α} {e : Nat} {w : World} {base : Nat} {ok : Nat → Prop} {v : Value} {xs : List α}, Kd.R d e w base ok v xs → Kd.R d e (World.drew w) base ok v xs := @Kd.R_drew
theorem Xy : ∀ {α : Type} {d : Kd α} {e : Nat} {w w1 : World} {base : Nat} {ok : Nat → Prop} {v : Value} {xs : List α}, Kd.R d e w base ok v xs → Below (Array.size (World.heap w)) w w1 → Kd.R d e w1 base ok v xs := @Kd.R_below
theorem Xz : ∀ {w W w2 : World}, Below (Array.size (World.heap w)) w W → Below (Array.size (World.heap W)) W w2 → Below (Array.size (World.heap w)) w w2 := @below_step
theorem XA : ∀ {w w1 : World} {g : Nat} {o : Obj}, (World.heap w)[g]? = some o → Below (Array.size (World.heap w)) w w1 → (World.heap w1)[g]? = some o := @blk_below
theorem XB : ∀ {p : Prop}, p → Aside0 p := @Aside0.mk
theorem XC : ∀ {w W : World}, Below (Array.size (World.heap w)) w W → Array.size (World.heap w) ≤ Array.size (World.heap W) := @below_size
theorem XD : ∀ {α : Type} {d : Kd α} {e : Nat} {w : World} {base : Nat} {ok : Nat → Prop} {xs : List α} {A : Option Addr} {n c : Nat}, Kd.R d e w base ok (Value.slice A n c) xs → n = List.length xs ∧ n ≤ c ∧ Kd.C d w A (List.length xs) xs := @Kd.R_reads'
/-! Facts that find their way to a later world. -/
theorem XI {w0 w w1 : World} {g : Nat} {o : Obj} (J : Aside0 ((World.heap w0)[g]? = some o)) (hb : Below (Array.size (World.heap w)) w w1) (h : (World.heap w0)[g]? = some o → (World.heap w)[g]? = some o := by intro h_; (with_reducible repeat (first | refine Xf ?_ _ | refine Xg ?_ | refine Xe ?_ _)); exact h_) : Aside0 ((World.heap w1)[g]? = some o) := ⟨XA (h J.out) hb⟩
theorem XJ {w0 w : World} {g : Nat} {o : Obj} (J : Aside0 ((World.heap w0)[g]? = some o)) (h : (World.heap w0)[g]? = some o → (World.heap w)[g]? = some o := by intro h_; (with_reducible repeat (first | refine Xf ?_ _ | refine Xg ?_ | refine Xe ?_ _)); exact h_) : Aside0 ((World.heap w)[g]? = some o) := ⟨h J.out⟩
theorem XK {n : Nat} {v w0 w : World} (B : Aside0 (Below n v w0)) (h : Below n v w0 → Below n v w := by intro h_; repeat (first | (with_reducible first | exact h_ | apply Xc | apply Xa | apply Xb | refine Xd ?_ (Aside0.out (by with_reducible assumption))) | exact h_)) : Aside0 (Below n v w) := ⟨h B.out⟩
theorem XL {n : Nat} {v w0 w : World} (B : Aside0 (Below n v w0)) (h : Below n v w0 → Below n v w := by intro h_; repeat (first | (with_reducible first | exact h_ | apply Xc | apply Xa | apply Xb | refine Xd ?_ (Aside0.out (by with_reducible assumption))) | exact h_)) : Below n v w := h B.out
theorem XM {P : Program} {ops : Array Oper} {Q : Exit → Act → World → Prop} {md : Region.Mode} {S : World → Prop} {ds : List Nat} {T : Bool × List (List Nat × List Nat)} {oi : Oper} {fuel : Nat} {l : Array Bool} {a : Act} {w : World} (i n : Nat) (v : Value) (l' : Array Bool) (hi : ops[i]? = some oi) (hN : oi.dst = some n) (hT : Aside0 (rtab md ops = T)) (h0 : anyT T l.toList l'.toList i = true) (hQ : ∀ c a w, Q (.panic c) (a.put oi.dst v) w → Q (.panic c) a w) (hy : Yields P ops oi v a) (a' : Act) (ha : a.put (some n) v = a') (h : wpAnyLast P md ops Q S ds fuel l' a' w) : wpAnyLast P md ops Q S ds (fuel + 1) l a w := pure_ l' hi hN (any_of hT.out h0) hQ hy ha h
/-! Steps and facts that lay what they need by themselves. -/
theorem YA {P : Program} {ops : Array Oper} {Q : Exit → Act → World → Prop} {md : Region.Mode} {S : World → Prop} {ds : List Nat} {T : Bool × List (List Nat × List Nat)} {oi : Oper} {fuel : Nat} {l : Array Bool} {a : Act} {w : World} (i n : Nat) (l' : Array Bool) (hi : ops[i]? = some oi) (hN : oi.dst = some n) (hT : Aside0 (rtab md ops = T)) {v : Value} {a' : Act} (h : wpAnyLast P md ops Q S ds fuel l' a' w) (h0 : anyT T l.toList l'.toList i = true := by kernel_rfl) (hy : Yields P ops oi v a ∧ a.put (some n) v = a' := by refine ⟨Or.inl ⟨by rfl, ?_⟩, ?_⟩; (intro w'; go_simp; with_reducible rfl); (simp only [Act.put, Xj, Xk, Xl, i64_w, i32_w]; rfl)) (hQ : ∀ c a w, Q (.panic c) (a.put oi.dst v) w → Q (.panic c) a w := by exact fun _ _ _ h => h) : wpAnyLast P md ops Q S ds (fuel + 1) l a w := pure_ l' hi hN (any_of hT.out h0) hQ hy.1 hy.2 h
theorem YB {P : Program} {ops : Array Oper} {Q : Exit → Act → World → Prop} {md : Region.Mode} {S : World → Prop} {ds : List Nat} {T : Bool × List (List Nat × List Nat)} {oi : Oper} {fuel : Nat} {l : Array Bool} {a : Act} {w : World} (i n : Nat) (l' : Array Bool) (hi : ops[i]? = some oi) (hN : oi.dst = some n) (hT : Aside0 (rtab md ops = T)) {a' : Act} (h : wpAnyLast P md ops Q S ds fuel l' a' w) (h0 : anyT T l.toList l'.toList i = true := by kernel_rfl) (hy : Yields P ops oi undef a ∧ a.put (some n) undef = a' := by refine ⟨Or.inr ⟨by rfl, rfl⟩, ?_⟩; (simp only [Act.put, Xj, Xk, Xl, i64_w, i32_w]; rfl)) (hQ : ∀ c a w, Q (.panic c) (a.put oi.dst undef) w → Q (.panic c) a w := by exact fun _ _ _ h => h) : wpAnyLast P md ops Q S ds (fuel + 1) l a w := pure_ l' hi hN (any_of hT.out h0) hQ hy.1 hy.2 h
theorem YC {P : Program} {ops : Array Oper} {Q : Exit → Act → World → Prop} {md : Region.Mode} {S : World → Prop} {ds : List Nat} {T : Bool × List (List Nat × List Nat)} {oi : Oper} {fuel : Nat} {l : Array Bool} {a : Act} {w : World} {B : List Nat} (i n : Nat) (l' : Array Bool) (hi : ops[i]? = some oi) (hN : oi.dst = some n) (hT : Aside0 (rtab md ops = T)) (hW : Aside0 (waitsOk T.2 B = true)) (hS : S w) {v : Value} {a' : Act} (h : wpAnyLast P md ops Q S ds fuel l' a' w) (h0 : takeW T B ds l.toList l'.toList i = true := by kernel_rfl) (hy : YieldsIf P ops S oi v a ∧ a.put (some n) v = a' := by refine ⟨Or.inl ⟨by rfl, ?_⟩, ?_⟩; (intro w' hs_; (repeat (obtain ⟨s_, hs_⟩ := hs_)); go_simp; with_reducible rfl); (simp only [Act.put, Xj, Xk, Xl, i64_w, i32_w]; rfl)) (hQ : ∀ c a w, Q (.panic c) (a.put oi.dst v) w → Q (.panic c) a w := by exact fun _ _ _ h => h) : wpAnyLast P md ops Q S ds (fuel + 1) l a w := take_ l' hi hN (take_ofW hT.out hW.out h0) hQ hy.1 hS hy.2 h
theorem YD {p : Prop} [Decidable p] (h : decide p = true := by first | (with_reducible assumption) | assumption) : p := of_decide_eq_true h
theorem YE {P Q G : Prop} (R : Aside0 P) (B : Aside0 Q) (h : P → Q → G := by intro hr_ hb_; repeat (first | exact (Xu hr_ hb_) | (with_reducible refine Xr ?_ _) | (with_reducible refine Xs ?_ _) | (with_reducible refine Xt ?_))) : G := h R.out B.out
theorem YF {α : Type} {a b : α} (h : a = b := by first | rfl | (simp [errW_none, errW_some] <;> rfl) | (simp [*, errW_none, errW_some] <;> rfl)) : a = b := h
theorem YG {p : Prop} (h : p := by first | rfl | (simp; done) | (simp [*]; done)) : p := h
theorem YH {α : Type} {a b c : α} {i : Decidable (false = true)} (h : (@ite α (false = true) i a b) = c) : b = c := (if_neg Bool.false_ne_true).symm.trans h
theorem YI {α : Type} {a b c : α} {i : Decidable (true = true)} (h : (@ite α (true = true) i a b) = c) : a = c := (if_pos rfl).symm.trans h
theorem YJ {α β : Type} {o : Option α} {f : α → Option β} {b : β} (h : o.bind f = some b) : ∃ a, Aside0 (o = some a) ∧ f a = some b := let ⟨a, x, y⟩ := Option.bind_eq_some_iff.mp h; ⟨a, ⟨x⟩, y⟩
theorem YK2 {w : World} {g : Nat} {t : TypeId} {a b : Value} (J : Aside0 (w.heap[g]? = some (.cells #[a, b] t (0, 0)))) : w.cell? ⟨g, 0, none⟩ = some a ∧ w.cell? ⟨g, 1, none⟩ = some b ∧ w.frozen? ⟨g, 0, none⟩ = false ∧ w.frozen? ⟨g, 1, none⟩ = false := ⟨(Xi J.out 0).trans rfl, (Xi J.out 1).trans rfl, Xh J.out 0, Xh J.out 1⟩
theorem YK3 {w : World} {g : Nat} {t : TypeId} {a b c : Value} (J : Aside0 (w.heap[g]? = some (.cells #[a, b, c] t (0, 0)))) : w.cell? ⟨g, 0, none⟩ = some a ∧ w.cell? ⟨g, 1, none⟩ = some b ∧ w.cell? ⟨g, 2, none⟩ = some c ∧ w.frozen? ⟨g, 0, none⟩ = false ∧ w.frozen? ⟨g, 1, none⟩ = false ∧ w.frozen? ⟨g, 2, none⟩ = false := ⟨(Xi J.out 0).trans rfl, (Xi J.out 1).trans rfl, (Xi J.out 2).trans rfl, Xh J.out 0, Xh J.out 1, Xh J.out 2⟩
theorem YK4 {w : World} {g : Nat} {t : TypeId} {a b c d : Value} (J : Aside0 (w.heap[g]? = some (.cells #[a, b, c, d] t (0, 0)))) : w.cell? ⟨g, 0, none⟩ = some a ∧ w.cell? ⟨g, 1, none⟩ = some b ∧ w.cell? ⟨g, 2, none⟩ = some c ∧ w.cell? ⟨g, 3, none⟩ = some d ∧ w.frozen? ⟨g, 0, none⟩ = false ∧ w.frozen? ⟨g, 1, none⟩ = false ∧ w.frozen? ⟨g, 2, none⟩ = false ∧ w.frozen? ⟨g, 3, none⟩ = false := ⟨(Xi J.out 0).trans rfl, (Xi J.out 1).trans rfl, (Xi J.out 2).trans rfl, (Xi J.out 3).trans rfl, Xh J.out 0, Xh J.out 1, Xh J.out 2, Xh J.out 3⟩
theorem YK5 {w : World} {g : Nat} {t : TypeId} {a b c d e : Value} (J : Aside0 (w.heap[g]? = some (.cells #[a, b, c, d, e] t (0, 0)))) : w.cell? ⟨g, 0, none⟩ = some a ∧ w.cell? ⟨g, 1, none⟩ = some b ∧ w.cell? ⟨g, 2, none⟩ = some c ∧ w.cell? ⟨g, 3, none⟩ = some d ∧ w.cell? ⟨g, 4, none⟩ = some e ∧ w.frozen? ⟨g, 0, none⟩ = false ∧ w.frozen? ⟨g, 1, none⟩ = false ∧ w.frozen? ⟨g, 2, none⟩ = false ∧ w.frozen? ⟨g, 3, none⟩ = false ∧ w.frozen? ⟨g, 4, none⟩ = false := ⟨(Xi J.out 0).trans rfl, (Xi J.out 1).trans rfl, (Xi J.out 2).trans rfl, (Xi J.out 3).trans rfl, (Xi J.out 4).trans rfl, Xh J.out 0, Xh J.out 1, Xh J.out 2, Xh J.out 3, Xh J.out 4⟩
theorem YL {P : Program} {ops : Array Oper} {Q : Exit → Act → World → Prop} {rest : List Oper} {oi : Oper} {a : Act} {w : World} (N : Option Tmp) (hd : oi.dst = N) (hg : oi.guard = none) {f : FuncId} {fn : Func} {xs : Array Operand} {ts : Array TypeId} (hf : P.funcs[f]? = some fn) (hb : fn.body.isSome = true) (args : Array Value) (hop : oi.op = .call { callee := .value (.func f), args := xs, argTypes := ts }) (h : Calls P f args w fun e w' => ∃ v, e = .returned v ∧ wpList P ops Q rest (a.put N v) w') (hargs : xs.map a.eval = args := by (try simp only [Xm, Xn, Xo]); first | done | rfl | (simp only [Xp, Xq]; rfl)) (hname : (fn.name == "runtime.NumGoroutine") = false := by kernel_rfl) : wpList P ops Q (oi :: rest) a w := goesL_ N hd hg hf hname hb args hop hargs h
end Go.Proofs.Ytboefcikdfjfmaa.P
