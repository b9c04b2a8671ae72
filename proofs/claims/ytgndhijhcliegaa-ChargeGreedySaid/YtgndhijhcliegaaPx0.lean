-- laid by a program of this session (wip/tools): plain functions of the Go code and their contracts
-- thinned
import Derived.Test.YtgndhijhcliegaaProg
import Derived.Below
import Derived.Deep.Draws
import Derived.Deep.AppendLies
import Derived.Maps.AppendAt
import Derived.OwnWalk
import Derived.Laws.BytesArg
import Derived.Laws.MakeOwn
import Derived.Laws.OwnMore
import Derived.Deep.OwnRows
import Derived.Tactics
import Derived.Lib.ConvBytes
import Derived.Laws.Slices
import Derived.WalkKit
import Derived.KernelRfl
import Derived.RowKit3
import Derived.Deep.LoopGhost
import Derived.Deep.QuietTactic
import Derived.BigQuiet
import Derived.WideLaws
import Derived.Deep.DeepCutAuto
import Derived.Deep.CutBlock
import Derived.Deep.RegionHeld3
import Derived.Laws.Rows
import Derived.Lib.AppendStr
import Derived.ArgAppend
import Derived.Laws.IdiomCopy
import Derived.OrdersHeld
import Derived.Laws.BitsLemmas
import Derived.RowKit
import Derived.Laws.CopyOwn
import Derived.WalkSpells
import Derived.WalkLawsBesides
import Derived.Lib.SliceRun
import Derived.Lib.AppendZerosOnto
import Derived.Lib.Walk
import Derived.ScopeJumps
import Derived.WalkMore
import Derived.Laws.EntriesVeiled
import Derived.Test.YtgndhijhcliegaaWWords
import Derived.Test.YtgndhijhcliegaaWLast
import Derived.Test.YtgndhijhcliegaaWTab
import Derived.Test.YtgndhijhcliegaaWFour
import Derived.Test.YtgndhijhcliegaaWQPut
import Derived.Test.YtgndhijhcliegaaWApart
import Derived.Test.YtgndhijhcliegaaWArr
import Derived.Test.YtgndhijhcliegaaWZeros
import Derived.Test.YtgndhijhcliegaaWFoot
import Derived.Test.YtgndhijhcliegaaWKept
import Derived.Test.YtgndhijhcliegaaWShare
import Derived.Test.YtgndhijhcliegaaWN
import Derived.Test.YtgndhijhcliegaaWFootNe
import Derived.Test.YtgndhijhcliegaaWAt
import Derived.Test.YtgndhijhcliegaaWEqStruct
import Derived.Test.YtgndhijhcliegaaWRepsOne
import Derived.Test.YtgndhijhcliegaaWInv
import Derived.Test.YtgndhijhcliegaaWInvWords
import Derived.Test.YtgndhijhcliegaaWGuard
import Derived.Test.YtgndhijhcliegaaWNEv
import Derived.Test.YtgndhijhcliegaaWMore
import Derived.Test.YtgndhijhcliegaaWHand
namespace Go.Proofs.Ytgndhijhcliegaa.P
open Go.RowKit Go.Proofs.YtgndhijhcliegaaW.PrintWords Go.Proofs.YtgndhijhcliegaaW.PrintLast Go.Proofs.YtgndhijhcliegaaW.PrintMore
attribute [local go_sem] max2_int min2_int max_two min_two max_three min_three max_four min_four   -- for this text's walks alone
set_option linter.unusedVariables false
set_option linter.unusedSimpArgs false



def errW : Option Int → Value
 | none => .nilIface
 | some c => .iface 0 (.int .i64 c)
theorem errW_none : errW none = .nilIface := rfl
theorem errW_some (c : Int) : errW (some c) = .iface 0 (.int .i64 c) := rfl

theorem info3 : (Try.prog.info? 3).map (fun i => (i.zero, i.size, i.bytes)) = some (some (.int .i64 0), 1, 8) := by kernel_rfl
theorem info22 : (Try.prog.info? 22).map (fun i => (i.zero, i.size, i.bytes)) = some (some (.slice none 0 0), 1, 24) := by kernel_rfl
-- the values' own types
def rd_L1 (xs : List (List Int)) (i : Int) : (List Int) := xs.getD i.toNat ([] : List Int)
theorem at_L1 {w : World} {A : Option Addr} {n : Nat} {xs : List (List Int)} (h : Kd.C (Kd.slice 3 (Kd.int .i64)) w A n xs) (i : Int) (h0 : 0 ≤ i) (h1 : i < n) : ∃ ad A0 c0, A = some ad ∧ w.cell? (ad.add i.toNat) = some (.slice A0 (rd_L1 xs i).length c0) ∧ (rd_L1 xs i).length ≤ c0 ∧ (Kd.int .i64).C w A0 (rd_L1 xs i).length (rd_L1 xs i) := by
 obtain ⟨ad, c, e, _, hK, hc0⟩ := Kd.C_get h ([] : List Int) i h0 h1; have hc : ∀ j u, c[j]? = some u → w.cell? (ad.add (i.toNat * 1 + j)) = some u := hc0
 obtain ⟨A0, c0, rfl, l0, g0⟩ := hK; exact ⟨ad, A0, c0, e, by have hq := hc 0 _ rfl; rwa [Nat.mul_one, Nat.add_zero] at hq, l0, g0⟩

/-! #### struct type 50 -/
structure S50 where
 f0 : (List Int)
 f1 : (List Int)
def z50 : S50 := ⟨([] : List Int), ([] : List Int)⟩
def k50 : Kd S50 := Kd.iso (Kd.pair (Kd.slice 3 (Kd.int .i64)) (Kd.slice 3 (Kd.int .i64))) (fun x : S50 => (x.f0, x.f1))
theorem k50_open {w : World} {x : S50} {cs : List Value} (h : k50.K w x cs) : ∃ A0 c0 A1 c1, cs = [.slice A0 x.f0.length c0, .slice A1 x.f1.length c1] ∧ x.f0.length ≤ c0 ∧ (Kd.int .i64).C w A0 x.f0.length x.f0 ∧ x.f1.length ≤ c1 ∧ (Kd.int .i64).C w A1 x.f1.length x.f1 := by
 obtain ⟨_, _, rfl, ⟨A0, c0, rfl, l0, g0⟩, ⟨A1, c1, rfl, l1, g1⟩⟩ := h; exact ⟨A0, c0, A1, c1, rfl, l0, g0, l1, g1⟩
theorem k50_openM {w : World} {base : Nat} {ok : Nat → Prop} {x : S50} {cs : List Value} (h : k50.M w base ok x cs) : ∃ v0 v1, cs = [v0, v1] ∧ (Kd.int .i64).R 3 w base ok v0 x.f0 ∧ (Kd.int .i64).R 3 w base ok v1 x.f1 := by
 obtain ⟨_, _, rfl, ⟨v0, rfl, g0⟩, ⟨v1, rfl, g1⟩⟩ := h; exact ⟨v0, v1, rfl, g0, g1⟩
theorem k50_mk (w : World) (x : S50) {A0 : Option Addr} {c0 : Nat} (l0 : x.f0.length ≤ c0) (g0 : (Kd.int .i64).C w A0 x.f0.length x.f0) {A1 : Option Addr} {c1 : Nat} (l1 : x.f1.length ≤ c1) (g1 : (Kd.int .i64).C w A1 x.f1.length x.f1) : k50.K w x [.slice A0 x.f0.length c0, .slice A1 x.f1.length c1] := ⟨[.slice A0 x.f0.length c0], [.slice A1 x.f1.length c1], rfl, ⟨A0, c0, rfl, l0, g0⟩, ⟨A1, c1, rfl, l1, g1⟩⟩
theorem k50_mkM (w : World) (base : Nat) (ok : Nat → Prop) (x : S50) {v0 : Value} (g0 : (Kd.int .i64).R 3 w base ok v0 x.f0) {v1 : Value} (g1 : (Kd.int .i64).R 3 w base ok v1 x.f1) : k50.M w base ok x [v0, v1] := ⟨[v0], [v1], rfl, ⟨v0, rfl, g0⟩, ⟨v1, rfl, g1⟩⟩
theorem k50_openF {W : World} {ok : Nat → Prop} {x : S50} {cs : List Value} (h : Kd.FK k50 W ok x cs) : ∃ A0 c0 A1 c1, cs = [.slice A0 x.f0.length c0, .slice A1 x.f1.length c1] ∧ x.f0.length ≤ c0 ∧ Kd.F (Kd.int .i64) W ok A0 x.f0.length x.f0 ∧ x.f1.length ≤ c1 ∧ Kd.F (Kd.int .i64) W ok A1 x.f1.length x.f1 := by
 obtain ⟨A0, c0, A1, c1, rfl, l0, _, l1, _⟩ := k50_open (Kd.FK_now h); exact ⟨A0, c0, A1, c1, rfl, l0, (fun W' hW => by obtain ⟨A0_, c0_, A1_, c1_, he, l0_, g0_, l1_, g1_⟩ := k50_open (h W' hW); injection (Option.some.inj (show some (Value.slice A0 x.f0.length c0) = some (Value.slice A0_ x.f0.length c0_) from congrArg (fun l => l[0]?) he)) with ha_ _ _; rw [ha_]; exact g0_), l1, (fun W' hW => by obtain ⟨A0_, c0_, A1_, c1_, he, l0_, g0_, l1_, g1_⟩ := k50_open (h W' hW); injection (Option.some.inj (show some (Value.slice A1 x.f1.length c1) = some (Value.slice A1_ x.f1.length c1_) from congrArg (fun l => l[1]?) he)) with ha_ _ _; rw [ha_]; exact g1_)⟩
theorem k50_mkF (W : World) (ok : Nat → Prop) (x : S50) {A0 : Option Addr} {c0 : Nat} (l0 : x.f0.length ≤ c0) (g0 : Kd.F (Kd.int .i64) W ok A0 x.f0.length x.f0) {A1 : Option Addr} {c1 : Nat} (l1 : x.f1.length ≤ c1) (g1 : Kd.F (Kd.int .i64) W ok A1 x.f1.length x.f1) : Kd.FK k50 W ok x [.slice A0 x.f0.length c0, .slice A1 x.f1.length c1] := fun W2 hW => k50_mk W2 x l0 (g0 W2 hW) l1 (g1 W2 hW)
def rd_T50 (xs : List S50) (i : Int) : S50 := xs.getD i.toNat z50
theorem at_T50 {w : World} {A : Option Addr} {n : Nat} {xs : List S50} (h : Kd.C k50 w A n xs) (i : Int) (h0 : 0 ≤ i) (h1 : i < n) : ∃ ad A0 c0 A1 c1, A = some ad ∧ w.cell? (ad.add (i.toNat * 2)) = some (.slice A0 (rd_T50 xs i).f0.length c0) ∧ w.cell? ⟨(ad.add (i.toNat * 2)).block, (ad.add (i.toNat * 2)).off + 1, none⟩ = some (.slice A1 (rd_T50 xs i).f1.length c1) ∧ (rd_T50 xs i).f0.length ≤ c0 ∧ (Kd.int .i64).C w A0 (rd_T50 xs i).f0.length (rd_T50 xs i).f0 ∧ (rd_T50 xs i).f1.length ≤ c1 ∧ (Kd.int .i64).C w A1 (rd_T50 xs i).f1.length (rd_T50 xs i).f1 := by
 obtain ⟨ad, c, e, _, hK, hc0⟩ := Kd.C_get h z50 i h0 h1; have hc : ∀ j u, c[j]? = some u → w.cell? (ad.add (i.toNat * 2 + j)) = some u := hc0
 obtain ⟨A0, c0, A1, c1, rfl, l0, g0, l1, g1⟩ := k50_open hK; exact ⟨ad, A0, c0, A1, c1, e, hc 0 _ rfl, by rw [← add_field _ _ 1 (by omega)]; exact hc 1 _ rfl, l0, g0, l1, g1⟩

/-- Which operations are done. -/
def Bq (n v : Nat) : Array Bool := ⟨(List.range n).map fun i => Nat.testBit v i⟩
/-! Short names for what the walks name often. -/
theorem Xa : ∀ {B : Nat} {w W : World}, Below B w W → ∀ (n : Nat), Below B w (World.drewN W n) := @pw_below_drewN
theorem Xb : ∀ {base : Nat} {w W : World}, Below base w W → Below base w (World.drew W) := @below_drew1
theorem Xc : ∀ {w W : World}, Below (Array.size (World.heap w)) w W → ∀ (o : Obj), Below (Array.size (World.heap w)) w (World.alloc W o) := @below_alloc
theorem Xd : ∀ {w W : World} {g j : Nat} {v : Value}, Below (Array.size (World.heap w)) w W → Array.size (World.heap w) ≤ g → Below (Array.size (World.heap w)) w (World.setCell W { block := g, off := j } v) := @below_set
theorem Xe : ∀ {w : World} {g : Nat} {o : Obj}, (World.heap w)[g]? = some o → ∀ (o' : Obj), (World.heap (World.alloc w o'))[g]? = some o := @blk_alloc
theorem Xf : ∀ {w : World} {g : Nat} {o : Obj}, (World.heap w)[g]? = some o → ∀ (n : Nat), (World.heap (World.drewN w n))[g]? = some o := @blk_drewN
theorem Xg : ∀ {w : World} {g : Nat} {o : Obj}, (World.heap w)[g]? = some o → (World.heap (World.drew w))[g]? = some o := @blk_drew
theorem Xh : ∀ {w : World} {g : Nat} {t : TypeId} {cs : Array Value}, (World.heap w)[g]? = some (Obj.cells cs t) → ∀ (i : Nat), World.frozen? w { block := g, off := i } = false := @blk_frozen
theorem Xi : ∀ {w : World} {g : Nat} {t : TypeId} {cs : Array Value}, (World.heap w)[g]? = some (Obj.cells cs t) → ∀ (i : Nat), World.cell? w { block := g, off := i } = cs[i]? := @blk_cell
theorem Xj : ∀ {α : Type} (l : List α) (i : Nat) (a : α), Array.setIfInBounds (List.toArray l) i a = List.toArray (List.set l i a) := @List.setIfInBounds_toArray
theorem Xk : ∀ {α : Type} {x : α} {xs : List α} {a : α}, List.set (x :: xs) 0 a = a :: xs := @List.set_cons_zero
theorem Xl : ∀ {α : Type} {x : α} {xs : List α} {i : Nat} {a : α}, List.set (x :: xs) (i + 1) a = x :: List.set xs i a := @List.set_cons_succ
theorem Xm : ∀ {α : Type} {β : Type} {f : α → β} {l : List α}, Array.map f (List.toArray l) = List.toArray (List.map f l) := @List.map_toArray
theorem Xn : ∀ {α : Type} {β : Type} {f : α → β} {a : α} {l : List α}, List.map f (a :: l) = f a :: List.map f l := @List.map_cons
theorem Xo : ∀ {α : Type} {β : Type} {f : α → β}, List.map f [] = [] := @List.map_nil
theorem Xp : ∀ {α : Type} {i : Nat} {l : List α}, List.length (List.drop i l) = List.length l - i := @List.length_drop
theorem Xq : ∀ {α : Type} {i : Nat} {l : List α}, List.length (List.take i l) = min i (List.length l) := @List.length_take
theorem Xr : ∀ {α : Type} {d : Kd α} {w : World} {xs : List α} {A : Option Addr} {n : Nat}, Kd.C d w A n xs → ∀ (o : Obj), Kd.C d (World.alloc w o) A n xs := @Kd.C_alloc
theorem Xs : ∀ {α : Type} {d : Kd α} {w : World} {xs : List α} {A : Option Addr} {n : Nat}, Kd.C d w A n xs → ∀ (m : Nat), Kd.C d (World.drewN w m) A n xs := @Kd.C_drewN
theorem Xt : ∀ {α : Type} {d : Kd α} {w : World} {xs : List α} {A : Option Addr} {n : Nat}, Kd.C d w A n xs → Kd.C d (World.drew w) A n xs := @Kd.C_drew
theorem Xu : ∀ {α : Type} {d : Kd α} {w w1 : World} {xs : List α} {A : Option Addr} {n : Nat}, Kd.C d w A n xs → Below (Array.size (World.heap w)) w w1 → Kd.C d w1 A n xs := @Kd.C_below
theorem Xv : ∀ {α : Type} {d : Kd α} {e : Nat} {w : World} {base : Nat} {ok : Nat → Prop} {v : Value} {xs : List α}, Kd.R d e w base ok v xs → ∀ (o : Obj), Kd.R d e (World.alloc w o) base ok v xs := @Kd.R_alloc
theorem Xw : ∀ {α : Type} {d : Kd α} {e : Nat} {w : World} {base : Nat} {ok : Nat → Prop} {v : Value} {xs : List α}, Kd.R d e w base ok v xs → ∀ (m : Nat), Kd.R d e (World.drewN w m) base ok v xs := @Kd.R_drewN
theorem Xx : ∀ {α : Type} {d : Kd α} {e : Nat} {w : World} {base : Nat} {ok : Nat → Prop} {v : Value} {xs : List α}, Kd.R d e w base ok v xs → Kd.R d e (World.drew w) base ok v xs := @Kd.R_drew
theorem Xy : ∀ {α : Type} {d : Kd α} {e : Nat} {w w1 : World} {base : Nat} {ok : Nat → Prop} {v : Value} {xs : List α}, Kd.R d e w base ok v xs → Below (Array.size (World.heap w)) w w1 → Kd.R d e w1 base ok v xs := @Kd.R_below
theorem Xz : ∀ {w W w2 : World}, Below (Array.size (World.heap w)) w W → Below (Array.size (World.heap W)) W w2 → Below (Array.size (World.heap w)) w w2 := @below_step
theorem XA : ∀ {w w1 : World} {g : Nat} {o : Obj}, (World.heap w)[g]? = some o → Below (Array.size (World.heap w)) w w1 → (World.heap w1)[g]? = some o := @blk_below
theorem XB : ∀ {p : Prop}, p → Aside0 p := @Aside0.mk
theorem XC : ∀ {w W : World}, Below (Array.size (World.heap w)) w W → Array.size (World.heap w) ≤ Array.size (World.heap W) := @below_size
theorem XD : ∀ {α : Type} {d : Kd α} {e : Nat} {w : World} {base : Nat} {ok : Nat → Prop} {xs : List α} {A : Option Addr} {n c : Nat}, Kd.R d e w base ok (Value.slice A n c) xs → n = List.length xs ∧ n ≤ c ∧ Kd.C d w A (List.length xs) xs := @Kd.R_reads'
end Go.Proofs.Ytgndhijhcliegaa.P
