/-
  No cell of these rows narrows 'for every input' (looked for: loops, veiled, ifaces, maps, wideKeys, modest, calm, conditions, laid).
  DERIVED. THE GIVEN ROWS OF THIS SEAT. 14 by the template 'for every input the law returns true; each argument reads behind the call as it read before'; 0 by the template 'total and deterministic' (their statements: YtboefcikdfjfmaaTotals.lean).
  GIVEN WITH THE SEED: the statements are not yours to turn. If you find one false, say at which input.
  Laid BY PROGRAM, IN A SANDBOX (cutbox-rows.mjs): the forced cells as the released guide's own fill.sh prints them over the translation ff3b88b3b4f85d19… (all of the seat's roots in one cut). By AI agents, Wed Nov 11 2026. No macro, syntax, notation, axiom, sorry.
-/
import Derived.Test.YtboefcikdfjfmaaChecked
import GoSem.Claim
import GoSem.ClaimJoined
import GoSem.ClaimMapViews
import Derived.JoinedTies
import Derived.KernelRfl
namespace Go.Proofs.Ytboefcikdfjfmaa
/- THE CELL 'sum', in the pinned program and in every row, IS THE sha256 OF THE DUMP (.gsa) THAT YtboefcikdfjfmaaProg.lean LOADS. Nothing in Lean hashes anything: it is a label: what it is worth is what the hold of that sum in a sandbox is worth. -/
noncomputable def Try.pinned : Pinned := { name := "ytboefcikdfjfmaa", sum := "ff3b88b3b4f85d19b43dccd94cb703beee271f780f1ee82558c7c1218d2eb676", checked := Try.checked }
namespace Rows
def none {H : Type} : Left H := { results := [], args := [] }

/-- 'diaphonelaw03.AirFirsts': WHATEVER THE INPUT: true; the input reads as it did. -/
def airFirstsSpec : ChangeSpec := { name := "airFirsts", fn := fun _ => fun
  | [d] => { results := [.lit (.bool true)], args := [d] }
  | _ => none }
def airFirstsRow : OpenClaim := { program := "ytboefcikdfjfmaa", sum := "ff3b88b3b4f85d19b43dccd94cb703beee271f780f1ee82558c7c1218d2eb676", func := "diaphone/diaphonelaw03.AirFirsts", spec := "airFirsts", unfollowed := true, recurses := true, apart := false }
def AirFirstsSaid : Prop := airFirstsRow.holds Try.pinned (OpenSpec.ofChange airFirstsSpec)

/-- ITS FALSE NEIGHBOUR: 'it returns false'. Refute it at one input. -/
def airFirstsWrong : ChangeSpec := { name := "airFirsts", fn := fun _ => fun
  | [d] => { results := [.lit (.bool false)], args := [d] }
  | _ => none }
def AirFirstsWrongFalsely : Prop := airFirstsRow.holds Try.pinned (OpenSpec.ofChange airFirstsWrong)

/-- 'diaphonelaw03.AirLeast': WHATEVER THE INPUT: true; the input reads as it did. -/
def airLeastSpec : ChangeSpec := { name := "airLeast", fn := fun _ => fun
  | [d] => { results := [.lit (.bool true)], args := [d] }
  | _ => none }
def airLeastRow : OpenClaim := { program := "ytboefcikdfjfmaa", sum := "ff3b88b3b4f85d19b43dccd94cb703beee271f780f1ee82558c7c1218d2eb676", func := "diaphone/diaphonelaw03.AirLeast", spec := "airLeast", unfollowed := true, recurses := true, apart := false }
def AirLeastSaid : Prop := airLeastRow.holds Try.pinned (OpenSpec.ofChange airLeastSpec)

/-- ITS FALSE NEIGHBOUR: 'it returns false'. Refute it at one input. -/
def airLeastWrong : ChangeSpec := { name := "airLeast", fn := fun _ => fun
  | [d] => { results := [.lit (.bool false)], args := [d] }
  | _ => none }
def AirLeastWrongFalsely : Prop := airLeastRow.holds Try.pinned (OpenSpec.ofChange airLeastWrong)

/-- 'diaphonelaw03.AirPrices': WHATEVER THE INPUT: true; the input reads as it did. -/
def airPricesSpec : ChangeSpec := { name := "airPrices", fn := fun _ => fun
  | [d1, d2] => { results := [.lit (.bool true)], args := [d1, d2] }
  | _ => none }
def airPricesRow : OpenClaim := { program := "ytboefcikdfjfmaa", sum := "ff3b88b3b4f85d19b43dccd94cb703beee271f780f1ee82558c7c1218d2eb676", func := "diaphone/diaphonelaw03.AirPrices", spec := "airPrices", unfollowed := true, recurses := true, apart := false }
def AirPricesSaid : Prop := airPricesRow.holds Try.pinned (OpenSpec.ofChange airPricesSpec)

/-- ITS FALSE NEIGHBOUR: 'it returns false'. Refute it at one input. -/
def airPricesWrong : ChangeSpec := { name := "airPrices", fn := fun _ => fun
  | [d1, d2] => { results := [.lit (.bool false)], args := [d1, d2] }
  | _ => none }
def AirPricesWrongFalsely : Prop := airPricesRow.holds Try.pinned (OpenSpec.ofChange airPricesWrong)

/-- 'diaphonelaw03.AirDearer': WHATEVER THE INPUT: true; the input reads as it did. -/
def airDearerSpec : ChangeSpec := { name := "airDearer", fn := fun _ => fun
  | [d1, d2] => { results := [.lit (.bool true)], args := [d1, d2] }
  | _ => none }
def airDearerRow : OpenClaim := { program := "ytboefcikdfjfmaa", sum := "ff3b88b3b4f85d19b43dccd94cb703beee271f780f1ee82558c7c1218d2eb676", func := "diaphone/diaphonelaw03.AirDearer", spec := "airDearer", unfollowed := true, recurses := true, apart := false }
def AirDearerSaid : Prop := airDearerRow.holds Try.pinned (OpenSpec.ofChange airDearerSpec)

/-- ITS FALSE NEIGHBOUR: 'it returns false'. Refute it at one input. -/
def airDearerWrong : ChangeSpec := { name := "airDearer", fn := fun _ => fun
  | [d1, d2] => { results := [.lit (.bool false)], args := [d1, d2] }
  | _ => none }
def AirDearerWrongFalsely : Prop := airDearerRow.holds Try.pinned (OpenSpec.ofChange airDearerWrong)

/-- 'diaphonelaw03.AirBegins': WHATEVER THE INPUT: true; the input reads as it did. -/
def airBeginsSpec : ChangeSpec := { name := "airBegins", fn := fun _ => fun
  | [d1, d2] => { results := [.lit (.bool true)], args := [d1, d2] }
  | _ => none }
def airBeginsRow : OpenClaim := { program := "ytboefcikdfjfmaa", sum := "ff3b88b3b4f85d19b43dccd94cb703beee271f780f1ee82558c7c1218d2eb676", func := "diaphone/diaphonelaw03.AirBegins", spec := "airBegins", unfollowed := true, recurses := true, apart := false }
def AirBeginsSaid : Prop := airBeginsRow.holds Try.pinned (OpenSpec.ofChange airBeginsSpec)

/-- ITS FALSE NEIGHBOUR: 'it returns false'. Refute it at one input. -/
def airBeginsWrong : ChangeSpec := { name := "airBegins", fn := fun _ => fun
  | [d1, d2] => { results := [.lit (.bool false)], args := [d1, d2] }
  | _ => none }
def AirBeginsWrongFalsely : Prop := airBeginsRow.holds Try.pinned (OpenSpec.ofChange airBeginsWrong)

/-- 'diaphonelaw03.AirNeeds': WHATEVER THE INPUT: true; the input reads as it did. -/
def airNeedsSpec : ChangeSpec := { name := "airNeeds", fn := fun _ => fun
  | [d1, d2, d3] => { results := [.lit (.bool true)], args := [d1, d2, d3] }
  | _ => none }
def airNeedsRow : OpenClaim := { program := "ytboefcikdfjfmaa", sum := "ff3b88b3b4f85d19b43dccd94cb703beee271f780f1ee82558c7c1218d2eb676", func := "diaphone/diaphonelaw03.AirNeeds", spec := "airNeeds", unfollowed := true, recurses := true, apart := false }
def AirNeedsSaid : Prop := airNeedsRow.holds Try.pinned (OpenSpec.ofChange airNeedsSpec)

/-- ITS FALSE NEIGHBOUR: 'it returns false'. Refute it at one input. -/
def airNeedsWrong : ChangeSpec := { name := "airNeeds", fn := fun _ => fun
  | [d1, d2, d3] => { results := [.lit (.bool false)], args := [d1, d2, d3] }
  | _ => none }
def AirNeedsWrongFalsely : Prop := airNeedsRow.holds Try.pinned (OpenSpec.ofChange airNeedsWrong)

/-- 'diaphonelaw03.AirScales': WHATEVER THE INPUT: true; the input reads as it did. -/
def airScalesSpec : ChangeSpec := { name := "airScales", fn := fun _ => fun
  | [d1, d2] => { results := [.lit (.bool true)], args := [d1, d2] }
  | _ => none }
def airScalesRow : OpenClaim := { program := "ytboefcikdfjfmaa", sum := "ff3b88b3b4f85d19b43dccd94cb703beee271f780f1ee82558c7c1218d2eb676", func := "diaphone/diaphonelaw03.AirScales", spec := "airScales", unfollowed := true, recurses := true, apart := false }
def AirScalesSaid : Prop := airScalesRow.holds Try.pinned (OpenSpec.ofChange airScalesSpec)

/-- ITS FALSE NEIGHBOUR: 'it returns false'. Refute it at one input. -/
def airScalesWrong : ChangeSpec := { name := "airScales", fn := fun _ => fun
  | [d1, d2] => { results := [.lit (.bool false)], args := [d1, d2] }
  | _ => none }
def AirScalesWrongFalsely : Prop := airScalesRow.holds Try.pinned (OpenSpec.ofChange airScalesWrong)

/-- 'diaphonelaw03.AirPlans': WHATEVER THE INPUT: true; the input reads as it did. -/
def airPlansSpec : ChangeSpec := { name := "airPlans", fn := fun _ => fun
  | [d1, d2] => { results := [.lit (.bool true)], args := [d1, d2] }
  | _ => none }
def airPlansRow : OpenClaim := { program := "ytboefcikdfjfmaa", sum := "ff3b88b3b4f85d19b43dccd94cb703beee271f780f1ee82558c7c1218d2eb676", func := "diaphone/diaphonelaw03.AirPlans", spec := "airPlans", unfollowed := true, recurses := true, apart := false }
def AirPlansSaid : Prop := airPlansRow.holds Try.pinned (OpenSpec.ofChange airPlansSpec)

/-- ITS FALSE NEIGHBOUR: 'it returns false'. Refute it at one input. -/
def airPlansWrong : ChangeSpec := { name := "airPlans", fn := fun _ => fun
  | [d1, d2] => { results := [.lit (.bool false)], args := [d1, d2] }
  | _ => none }
def AirPlansWrongFalsely : Prop := airPlansRow.holds Try.pinned (OpenSpec.ofChange airPlansWrong)

/-- 'diaphonelaw03.AirBounds': WHATEVER THE INPUT: true; the input reads as it did. -/
def airBoundsSpec : ChangeSpec := { name := "airBounds", fn := fun _ => fun
  | [d1, d2] => { results := [.lit (.bool true)], args := [d1, d2] }
  | _ => none }
def airBoundsRow : OpenClaim := { program := "ytboefcikdfjfmaa", sum := "ff3b88b3b4f85d19b43dccd94cb703beee271f780f1ee82558c7c1218d2eb676", func := "diaphone/diaphonelaw03.AirBounds", spec := "airBounds", unfollowed := true, recurses := true, apart := false }
def AirBoundsSaid : Prop := airBoundsRow.holds Try.pinned (OpenSpec.ofChange airBoundsSpec)

/-- ITS FALSE NEIGHBOUR: 'it returns false'. Refute it at one input. -/
def airBoundsWrong : ChangeSpec := { name := "airBounds", fn := fun _ => fun
  | [d1, d2] => { results := [.lit (.bool false)], args := [d1, d2] }
  | _ => none }
def AirBoundsWrongFalsely : Prop := airBoundsRow.holds Try.pinned (OpenSpec.ofChange airBoundsWrong)

/-- 'diaphonetop.TopAir': WHATEVER THE INPUT: true; the input reads as it did. -/
def topAirSpec : ChangeSpec := { name := "topAir", fn := fun _ => fun
  | [d1, d2, d3] => { results := [.lit (.bool true)], args := [d1, d2, d3] }
  | _ => none }
def topAirRow : OpenClaim := { program := "ytboefcikdfjfmaa", sum := "ff3b88b3b4f85d19b43dccd94cb703beee271f780f1ee82558c7c1218d2eb676", func := "diaphone/diaphonetop.TopAir", spec := "topAir", unfollowed := true, recurses := true, apart := false }
def TopAirSaid : Prop := topAirRow.holds Try.pinned (OpenSpec.ofChange topAirSpec)

/-- ITS FALSE NEIGHBOUR: 'it returns false'. Refute it at one input. -/
def topAirWrong : ChangeSpec := { name := "topAir", fn := fun _ => fun
  | [d1, d2, d3] => { results := [.lit (.bool false)], args := [d1, d2, d3] }
  | _ => none }
def TopAirWrongFalsely : Prop := topAirRow.holds Try.pinned (OpenSpec.ofChange topAirWrong)

/-- 'diaphonelaw03.AirStocks': WHATEVER THE INPUT: true; the input reads as it did. -/
def airStocksSpec : ChangeSpec := { name := "airStocks", fn := fun _ => fun
  | [d1, d2] => { results := [.lit (.bool true)], args := [d1, d2] }
  | _ => none }
def airStocksRow : OpenClaim := { program := "ytboefcikdfjfmaa", sum := "ff3b88b3b4f85d19b43dccd94cb703beee271f780f1ee82558c7c1218d2eb676", func := "diaphone/diaphonelaw03.AirStocks", spec := "airStocks", unfollowed := true, recurses := true, apart := false }
def AirStocksSaid : Prop := airStocksRow.holds Try.pinned (OpenSpec.ofChange airStocksSpec)

/-- ITS FALSE NEIGHBOUR: 'it returns false'. Refute it at one input. -/
def airStocksWrong : ChangeSpec := { name := "airStocks", fn := fun _ => fun
  | [d1, d2] => { results := [.lit (.bool false)], args := [d1, d2] }
  | _ => none }
def AirStocksWrongFalsely : Prop := airStocksRow.holds Try.pinned (OpenSpec.ofChange airStocksWrong)

/-- 'diaphonelaw03.AirCounts': WHATEVER THE INPUT: true; the input reads as it did. -/
def airCountsSpec : ChangeSpec := { name := "airCounts", fn := fun _ => fun
  | [d] => { results := [.lit (.bool true)], args := [d] }
  | _ => none }
def airCountsRow : OpenClaim := { program := "ytboefcikdfjfmaa", sum := "ff3b88b3b4f85d19b43dccd94cb703beee271f780f1ee82558c7c1218d2eb676", func := "diaphone/diaphonelaw03.AirCounts", spec := "airCounts", unfollowed := true, recurses := true, apart := false }
def AirCountsSaid : Prop := airCountsRow.holds Try.pinned (OpenSpec.ofChange airCountsSpec)

/-- ITS FALSE NEIGHBOUR: 'it returns false'. Refute it at one input. -/
def airCountsWrong : ChangeSpec := { name := "airCounts", fn := fun _ => fun
  | [d] => { results := [.lit (.bool false)], args := [d] }
  | _ => none }
def AirCountsWrongFalsely : Prop := airCountsRow.holds Try.pinned (OpenSpec.ofChange airCountsWrong)

/-- 'diaphonelaw03.AirSets': WHATEVER THE INPUT: true; the input reads as it did. -/
def airSetsSpec : ChangeSpec := { name := "airSets", fn := fun _ => fun
  | [d1, d2] => { results := [.lit (.bool true)], args := [d1, d2] }
  | _ => none }
def airSetsRow : OpenClaim := { program := "ytboefcikdfjfmaa", sum := "ff3b88b3b4f85d19b43dccd94cb703beee271f780f1ee82558c7c1218d2eb676", func := "diaphone/diaphonelaw03.AirSets", spec := "airSets", unfollowed := true, recurses := true, apart := false }
def AirSetsSaid : Prop := airSetsRow.holds Try.pinned (OpenSpec.ofChange airSetsSpec)

/-- ITS FALSE NEIGHBOUR: 'it returns false'. Refute it at one input. -/
def airSetsWrong : ChangeSpec := { name := "airSets", fn := fun _ => fun
  | [d1, d2] => { results := [.lit (.bool false)], args := [d1, d2] }
  | _ => none }
def AirSetsWrongFalsely : Prop := airSetsRow.holds Try.pinned (OpenSpec.ofChange airSetsWrong)

/-- 'diaphonelaw03.AirProves': WHATEVER THE INPUT: true; the input reads as it did. -/
def airProvesSpec : ChangeSpec := { name := "airProves", fn := fun _ => fun
  | [d1, d2] => { results := [.lit (.bool true)], args := [d1, d2] }
  | _ => none }
def airProvesRow : OpenClaim := { program := "ytboefcikdfjfmaa", sum := "ff3b88b3b4f85d19b43dccd94cb703beee271f780f1ee82558c7c1218d2eb676", func := "diaphone/diaphonelaw03.AirProves", spec := "airProves", unfollowed := true, recurses := true, apart := false }
def AirProvesSaid : Prop := airProvesRow.holds Try.pinned (OpenSpec.ofChange airProvesSpec)

/-- ITS FALSE NEIGHBOUR: 'it returns false'. Refute it at one input. -/
def airProvesWrong : ChangeSpec := { name := "airProves", fn := fun _ => fun
  | [d1, d2] => { results := [.lit (.bool false)], args := [d1, d2] }
  | _ => none }
def AirProvesWrongFalsely : Prop := airProvesRow.holds Try.pinned (OpenSpec.ofChange airProvesWrong)

/- THE SECOND FORM. 'bulk': how many values and letters a reading holds, each counted each time it is reached (what is shared counts as often as it is met; a slice's spare places count too). A statement '..UptoSaid' is the law's where the arguments, and the package variables that the reading takes, are together of bulk at most 1048576: NARROWER than '..Said'. Prove '..Said' where nothing that the law and all that it calls make is longer than what came in: it says more and counts as full. Else prove '..UptoSaid'. A law counts once. -/
mutual
def uptoBulk {H : Type} : DataW H → Nat
  | .lit (.string bytes) => bytes.length + 1
  | .lit _ => 1
  | .nil => 1
  | .ptr d => uptoBulk d + 1
  | .slice elems spare => uptoBulkAll elems + uptoBulkAll spare + 1
  | .agg parts => uptoBulkAll parts + 1
  | .iface _ d => uptoBulk d + 1
  | .map entries => uptoBulkEntries entries + 1
  | .held _ => 1
def uptoBulkAll {H : Type} : List (DataW H) → Nat
  | [] => 0
  | d :: r => uptoBulk d + uptoBulkAll r
def uptoBulkEntries {H : Type} : List (Lit × DataW H) → Nat
  | [] => 0
  | x :: r => uptoBulkEntry x + uptoBulkEntries r
def uptoBulkEntry {H : Type} : Lit × DataW H → Nat
  | (.string bytes, d) => bytes.length + uptoBulk d + 1
  | (_, d) => uptoBulk d + 1
 end
def uptoSmall : (H : Type) → List (DataW H) → Bool := fun _ ds => decide (uptoBulkAll ds ≤ 1048576)
def OpenSpec.upto (s : _root_.Go.ChangeSpec) : _root_.Go.OpenSpec := { _root_.Go.OpenSpec.ofChange s with cond := some uptoSmall }

/-- 'diaphonelaw03.AirFirsts', WHERE WHAT IT READS IS OF BULK AT MOST 1048576: true; the input reads as it did. -/
def airFirstsUptoRow : OpenClaim := { program := "ytboefcikdfjfmaa", sum := "ff3b88b3b4f85d19b43dccd94cb703beee271f780f1ee82558c7c1218d2eb676", func := "diaphone/diaphonelaw03.AirFirsts", spec := "airFirsts", unfollowed := true, recurses := true, apart := false, narrowed := true }
def AirFirstsUptoSaid : Prop := airFirstsUptoRow.holds Try.pinned (OpenSpec.upto airFirstsSpec)

/-- 'diaphonelaw03.AirLeast', WHERE WHAT IT READS IS OF BULK AT MOST 1048576: true; the input reads as it did. -/
def airLeastUptoRow : OpenClaim := { program := "ytboefcikdfjfmaa", sum := "ff3b88b3b4f85d19b43dccd94cb703beee271f780f1ee82558c7c1218d2eb676", func := "diaphone/diaphonelaw03.AirLeast", spec := "airLeast", unfollowed := true, recurses := true, apart := false, narrowed := true }
def AirLeastUptoSaid : Prop := airLeastUptoRow.holds Try.pinned (OpenSpec.upto airLeastSpec)

/-- 'diaphonelaw03.AirPrices', WHERE WHAT IT READS IS OF BULK AT MOST 1048576: true; the input reads as it did. -/
def airPricesUptoRow : OpenClaim := { program := "ytboefcikdfjfmaa", sum := "ff3b88b3b4f85d19b43dccd94cb703beee271f780f1ee82558c7c1218d2eb676", func := "diaphone/diaphonelaw03.AirPrices", spec := "airPrices", unfollowed := true, recurses := true, apart := false, narrowed := true }
def AirPricesUptoSaid : Prop := airPricesUptoRow.holds Try.pinned (OpenSpec.upto airPricesSpec)

/-- 'diaphonelaw03.AirDearer', WHERE WHAT IT READS IS OF BULK AT MOST 1048576: true; the input reads as it did. -/
def airDearerUptoRow : OpenClaim := { program := "ytboefcikdfjfmaa", sum := "ff3b88b3b4f85d19b43dccd94cb703beee271f780f1ee82558c7c1218d2eb676", func := "diaphone/diaphonelaw03.AirDearer", spec := "airDearer", unfollowed := true, recurses := true, apart := false, narrowed := true }
def AirDearerUptoSaid : Prop := airDearerUptoRow.holds Try.pinned (OpenSpec.upto airDearerSpec)

/-- 'diaphonelaw03.AirBegins', WHERE WHAT IT READS IS OF BULK AT MOST 1048576: true; the input reads as it did. -/
def airBeginsUptoRow : OpenClaim := { program := "ytboefcikdfjfmaa", sum := "ff3b88b3b4f85d19b43dccd94cb703beee271f780f1ee82558c7c1218d2eb676", func := "diaphone/diaphonelaw03.AirBegins", spec := "airBegins", unfollowed := true, recurses := true, apart := false, narrowed := true }
def AirBeginsUptoSaid : Prop := airBeginsUptoRow.holds Try.pinned (OpenSpec.upto airBeginsSpec)

/-- 'diaphonelaw03.AirNeeds', WHERE WHAT IT READS IS OF BULK AT MOST 1048576: true; the input reads as it did. -/
def airNeedsUptoRow : OpenClaim := { program := "ytboefcikdfjfmaa", sum := "ff3b88b3b4f85d19b43dccd94cb703beee271f780f1ee82558c7c1218d2eb676", func := "diaphone/diaphonelaw03.AirNeeds", spec := "airNeeds", unfollowed := true, recurses := true, apart := false, narrowed := true }
def AirNeedsUptoSaid : Prop := airNeedsUptoRow.holds Try.pinned (OpenSpec.upto airNeedsSpec)

/-- 'diaphonelaw03.AirScales', WHERE WHAT IT READS IS OF BULK AT MOST 1048576: true; the input reads as it did. -/
def airScalesUptoRow : OpenClaim := { program := "ytboefcikdfjfmaa", sum := "ff3b88b3b4f85d19b43dccd94cb703beee271f780f1ee82558c7c1218d2eb676", func := "diaphone/diaphonelaw03.AirScales", spec := "airScales", unfollowed := true, recurses := true, apart := false, narrowed := true }
def AirScalesUptoSaid : Prop := airScalesUptoRow.holds Try.pinned (OpenSpec.upto airScalesSpec)

/-- 'diaphonelaw03.AirPlans', WHERE WHAT IT READS IS OF BULK AT MOST 1048576: true; the input reads as it did. -/
def airPlansUptoRow : OpenClaim := { program := "ytboefcikdfjfmaa", sum := "ff3b88b3b4f85d19b43dccd94cb703beee271f780f1ee82558c7c1218d2eb676", func := "diaphone/diaphonelaw03.AirPlans", spec := "airPlans", unfollowed := true, recurses := true, apart := false, narrowed := true }
def AirPlansUptoSaid : Prop := airPlansUptoRow.holds Try.pinned (OpenSpec.upto airPlansSpec)

/-- 'diaphonelaw03.AirBounds', WHERE WHAT IT READS IS OF BULK AT MOST 1048576: true; the input reads as it did. -/
def airBoundsUptoRow : OpenClaim := { program := "ytboefcikdfjfmaa", sum := "ff3b88b3b4f85d19b43dccd94cb703beee271f780f1ee82558c7c1218d2eb676", func := "diaphone/diaphonelaw03.AirBounds", spec := "airBounds", unfollowed := true, recurses := true, apart := false, narrowed := true }
def AirBoundsUptoSaid : Prop := airBoundsUptoRow.holds Try.pinned (OpenSpec.upto airBoundsSpec)

/-- 'diaphonetop.TopAir', WHERE WHAT IT READS IS OF BULK AT MOST 1048576: true; the input reads as it did. -/
def topAirUptoRow : OpenClaim := { program := "ytboefcikdfjfmaa", sum := "ff3b88b3b4f85d19b43dccd94cb703beee271f780f1ee82558c7c1218d2eb676", func := "diaphone/diaphonetop.TopAir", spec := "topAir", unfollowed := true, recurses := true, apart := false, narrowed := true }
def TopAirUptoSaid : Prop := topAirUptoRow.holds Try.pinned (OpenSpec.upto topAirSpec)

/-- 'diaphonelaw03.AirStocks', WHERE WHAT IT READS IS OF BULK AT MOST 1048576: true; the input reads as it did. -/
def airStocksUptoRow : OpenClaim := { program := "ytboefcikdfjfmaa", sum := "ff3b88b3b4f85d19b43dccd94cb703beee271f780f1ee82558c7c1218d2eb676", func := "diaphone/diaphonelaw03.AirStocks", spec := "airStocks", unfollowed := true, recurses := true, apart := false, narrowed := true }
def AirStocksUptoSaid : Prop := airStocksUptoRow.holds Try.pinned (OpenSpec.upto airStocksSpec)

/-- 'diaphonelaw03.AirCounts', WHERE WHAT IT READS IS OF BULK AT MOST 1048576: true; the input reads as it did. -/
def airCountsUptoRow : OpenClaim := { program := "ytboefcikdfjfmaa", sum := "ff3b88b3b4f85d19b43dccd94cb703beee271f780f1ee82558c7c1218d2eb676", func := "diaphone/diaphonelaw03.AirCounts", spec := "airCounts", unfollowed := true, recurses := true, apart := false, narrowed := true }
def AirCountsUptoSaid : Prop := airCountsUptoRow.holds Try.pinned (OpenSpec.upto airCountsSpec)

/-- 'diaphonelaw03.AirSets', WHERE WHAT IT READS IS OF BULK AT MOST 1048576: true; the input reads as it did. -/
def airSetsUptoRow : OpenClaim := { program := "ytboefcikdfjfmaa", sum := "ff3b88b3b4f85d19b43dccd94cb703beee271f780f1ee82558c7c1218d2eb676", func := "diaphone/diaphonelaw03.AirSets", spec := "airSets", unfollowed := true, recurses := true, apart := false, narrowed := true }
def AirSetsUptoSaid : Prop := airSetsUptoRow.holds Try.pinned (OpenSpec.upto airSetsSpec)

/-- 'diaphonelaw03.AirProves', WHERE WHAT IT READS IS OF BULK AT MOST 1048576: true; the input reads as it did. -/
def airProvesUptoRow : OpenClaim := { program := "ytboefcikdfjfmaa", sum := "ff3b88b3b4f85d19b43dccd94cb703beee271f780f1ee82558c7c1218d2eb676", func := "diaphone/diaphonelaw03.AirProves", spec := "airProves", unfollowed := true, recurses := true, apart := false, narrowed := true }
def AirProvesUptoSaid : Prop := airProvesUptoRow.holds Try.pinned (OpenSpec.upto airProvesSpec)

end Rows
end Go.Proofs.Ytboefcikdfjfmaa
