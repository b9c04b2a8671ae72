/-
  No cell of these rows narrows 'for every input' (looked for: loops, veiled, ifaces, maps, wideKeys, modest, calm, conditions, laid).
  DERIVED. THE GIVEN ROWS OF THIS SEAT. 15 by the template 'for every input the law returns true; each argument reads behind the call as it read before'; 0 by the template 'total and deterministic' (their statements: YtmpmfjnmfgnhcaaTotals.lean).
  GIVEN WITH THE SEED: the statements are not yours to turn. If you find one false, say at which input.
  Laid BY PROGRAM, IN A SANDBOX (cutbox-rows.mjs): the forced cells as the released guide's own fill.sh prints them over the translation 8a7fdd8bd4028c65… (all of the seat's roots in one cut). By AI agents, Wed Nov 11 2026. No macro, syntax, notation, axiom, sorry.
-/
import Derived.Test.YtmpmfjnmfgnhcaaChecked
import GoSem.Claim
import GoSem.ClaimJoined
import GoSem.ClaimMapViews
import Derived.JoinedTies
import Derived.KernelRfl
namespace Go.Proofs.Ytmpmfjnmfgnhcaa
/- THE CELL 'sum', in the pinned program and in every row, IS THE sha256 OF THE DUMP (.gsa) THAT YtmpmfjnmfgnhcaaProg.lean LOADS. Nothing in Lean hashes anything: it is a label: what it is worth is what the hold of that sum in a sandbox is worth. -/
noncomputable def Try.pinned : Pinned := { name := "ytmpmfjnmfgnhcaa", sum := "8a7fdd8bd4028c65bd88b103c49b6731c48cad0a3c002d4d7abe3b8114642ac0", checked := Try.checked }
namespace Rows
def none {H : Type} : Left H := { results := [], args := [] }

/-- 'diaphonelaw01.ToneTurns': WHATEVER THE INPUT: true; the input reads as it did. -/
def toneTurnsSpec : ChangeSpec := { name := "toneTurns", fn := fun _ => fun
  | [d1, d2] => { results := [.lit (.bool true)], args := [d1, d2] }
  | _ => none }
def toneTurnsRow : OpenClaim := { program := "ytmpmfjnmfgnhcaa", sum := "8a7fdd8bd4028c65bd88b103c49b6731c48cad0a3c002d4d7abe3b8114642ac0", func := "diaphone/diaphonelaw01.ToneTurns", spec := "toneTurns", unfollowed := true, recurses := true, plainKeys := false, apart := false }
def ToneTurnsSaid : Prop := toneTurnsRow.holds Try.pinned (OpenSpec.ofChange toneTurnsSpec)

/-- ITS FALSE NEIGHBOUR: 'it returns false'. Refute it at one input. -/
def toneTurnsWrong : ChangeSpec := { name := "toneTurns", fn := fun _ => fun
  | [d1, d2] => { results := [.lit (.bool false)], args := [d1, d2] }
  | _ => none }
def ToneTurnsWrongFalsely : Prop := toneTurnsRow.holds Try.pinned (OpenSpec.ofChange toneTurnsWrong)

/-- 'diaphonelaw01.ToneSeconds': WHATEVER THE INPUT: true; the input reads as it did. -/
def toneSecondsSpec : ChangeSpec := { name := "toneSeconds", fn := fun _ => fun
  | [d1, d2] => { results := [.lit (.bool true)], args := [d1, d2] }
  | _ => none }
def toneSecondsRow : OpenClaim := { program := "ytmpmfjnmfgnhcaa", sum := "8a7fdd8bd4028c65bd88b103c49b6731c48cad0a3c002d4d7abe3b8114642ac0", func := "diaphone/diaphonelaw01.ToneSeconds", spec := "toneSeconds", unfollowed := true, recurses := true, plainKeys := false, apart := false }
def ToneSecondsSaid : Prop := toneSecondsRow.holds Try.pinned (OpenSpec.ofChange toneSecondsSpec)

/-- ITS FALSE NEIGHBOUR: 'it returns false'. Refute it at one input. -/
def toneSecondsWrong : ChangeSpec := { name := "toneSeconds", fn := fun _ => fun
  | [d1, d2] => { results := [.lit (.bool false)], args := [d1, d2] }
  | _ => none }
def ToneSecondsWrongFalsely : Prop := toneSecondsRow.holds Try.pinned (OpenSpec.ofChange toneSecondsWrong)

/-- 'diaphonelaw01.TonePeriods': WHATEVER THE INPUT: true; the input reads as it did. -/
def tonePeriodsSpec : ChangeSpec := { name := "tonePeriods", fn := fun _ => fun
  | [d] => { results := [.lit (.bool true)], args := [d] }
  | _ => none }
def tonePeriodsRow : OpenClaim := { program := "ytmpmfjnmfgnhcaa", sum := "8a7fdd8bd4028c65bd88b103c49b6731c48cad0a3c002d4d7abe3b8114642ac0", func := "diaphone/diaphonelaw01.TonePeriods", spec := "tonePeriods", unfollowed := true, recurses := true, plainKeys := false, apart := false }
def TonePeriodsSaid : Prop := tonePeriodsRow.holds Try.pinned (OpenSpec.ofChange tonePeriodsSpec)

/-- ITS FALSE NEIGHBOUR: 'it returns false'. Refute it at one input. -/
def tonePeriodsWrong : ChangeSpec := { name := "tonePeriods", fn := fun _ => fun
  | [d] => { results := [.lit (.bool false)], args := [d] }
  | _ => none }
def TonePeriodsWrongFalsely : Prop := tonePeriodsRow.holds Try.pinned (OpenSpec.ofChange tonePeriodsWrong)

/-- 'diaphonelaw01.ToneCounts': WHATEVER THE INPUT: true; the input reads as it did. -/
def toneCountsSpec : ChangeSpec := { name := "toneCounts", fn := fun _ => fun
  | [d] => { results := [.lit (.bool true)], args := [d] }
  | _ => none }
def toneCountsRow : OpenClaim := { program := "ytmpmfjnmfgnhcaa", sum := "8a7fdd8bd4028c65bd88b103c49b6731c48cad0a3c002d4d7abe3b8114642ac0", func := "diaphone/diaphonelaw01.ToneCounts", spec := "toneCounts", unfollowed := true, recurses := true, plainKeys := false, apart := false }
def ToneCountsSaid : Prop := toneCountsRow.holds Try.pinned (OpenSpec.ofChange toneCountsSpec)

/-- ITS FALSE NEIGHBOUR: 'it returns false'. Refute it at one input. -/
def toneCountsWrong : ChangeSpec := { name := "toneCounts", fn := fun _ => fun
  | [d] => { results := [.lit (.bool false)], args := [d] }
  | _ => none }
def ToneCountsWrongFalsely : Prop := toneCountsRow.holds Try.pinned (OpenSpec.ofChange toneCountsWrong)

/-- 'diaphonelaw01.ToneSames': WHATEVER THE INPUT: true; the input reads as it did. -/
def toneSamesSpec : ChangeSpec := { name := "toneSames", fn := fun _ => fun
  | [d1, d2] => { results := [.lit (.bool true)], args := [d1, d2] }
  | _ => none }
def toneSamesRow : OpenClaim := { program := "ytmpmfjnmfgnhcaa", sum := "8a7fdd8bd4028c65bd88b103c49b6731c48cad0a3c002d4d7abe3b8114642ac0", func := "diaphone/diaphonelaw01.ToneSames", spec := "toneSames", unfollowed := true, recurses := true, plainKeys := false, apart := false }
def ToneSamesSaid : Prop := toneSamesRow.holds Try.pinned (OpenSpec.ofChange toneSamesSpec)

/-- ITS FALSE NEIGHBOUR: 'it returns false'. Refute it at one input. -/
def toneSamesWrong : ChangeSpec := { name := "toneSames", fn := fun _ => fun
  | [d1, d2] => { results := [.lit (.bool false)], args := [d1, d2] }
  | _ => none }
def ToneSamesWrongFalsely : Prop := toneSamesRow.holds Try.pinned (OpenSpec.ofChange toneSamesWrong)

/-- 'diaphonelaw01.TonePieces': WHATEVER THE INPUT: true; the input reads as it did. -/
def tonePiecesSpec : ChangeSpec := { name := "tonePieces", fn := fun _ => fun
  | [d1, d2] => { results := [.lit (.bool true)], args := [d1, d2] }
  | _ => none }
def tonePiecesRow : OpenClaim := { program := "ytmpmfjnmfgnhcaa", sum := "8a7fdd8bd4028c65bd88b103c49b6731c48cad0a3c002d4d7abe3b8114642ac0", func := "diaphone/diaphonelaw01.TonePieces", spec := "tonePieces", unfollowed := true, recurses := true, plainKeys := false, apart := false }
def TonePiecesSaid : Prop := tonePiecesRow.holds Try.pinned (OpenSpec.ofChange tonePiecesSpec)

/-- ITS FALSE NEIGHBOUR: 'it returns false'. Refute it at one input. -/
def tonePiecesWrong : ChangeSpec := { name := "tonePieces", fn := fun _ => fun
  | [d1, d2] => { results := [.lit (.bool false)], args := [d1, d2] }
  | _ => none }
def TonePiecesWrongFalsely : Prop := tonePiecesRow.holds Try.pinned (OpenSpec.ofChange tonePiecesWrong)

/-- 'diaphonelaw01.ToneSwaps': WHATEVER THE INPUT: true; the input reads as it did. -/
def toneSwapsSpec : ChangeSpec := { name := "toneSwaps", fn := fun _ => fun
  | [d] => { results := [.lit (.bool true)], args := [d] }
  | _ => none }
def toneSwapsRow : OpenClaim := { program := "ytmpmfjnmfgnhcaa", sum := "8a7fdd8bd4028c65bd88b103c49b6731c48cad0a3c002d4d7abe3b8114642ac0", func := "diaphone/diaphonelaw01.ToneSwaps", spec := "toneSwaps", unfollowed := true, recurses := true, plainKeys := false, apart := false }
def ToneSwapsSaid : Prop := toneSwapsRow.holds Try.pinned (OpenSpec.ofChange toneSwapsSpec)

/-- ITS FALSE NEIGHBOUR: 'it returns false'. Refute it at one input. -/
def toneSwapsWrong : ChangeSpec := { name := "toneSwaps", fn := fun _ => fun
  | [d] => { results := [.lit (.bool false)], args := [d] }
  | _ => none }
def ToneSwapsWrongFalsely : Prop := toneSwapsRow.holds Try.pinned (OpenSpec.ofChange toneSwapsWrong)

/-- 'diaphonelaw01.ToneSounds': WHATEVER THE INPUT: true; the input reads as it did. -/
def toneSoundsSpec : ChangeSpec := { name := "toneSounds", fn := fun _ => fun
  | [d] => { results := [.lit (.bool true)], args := [d] }
  | _ => none }
def toneSoundsRow : OpenClaim := { program := "ytmpmfjnmfgnhcaa", sum := "8a7fdd8bd4028c65bd88b103c49b6731c48cad0a3c002d4d7abe3b8114642ac0", func := "diaphone/diaphonelaw01.ToneSounds", spec := "toneSounds", unfollowed := true, recurses := true, plainKeys := false, apart := false }
def ToneSoundsSaid : Prop := toneSoundsRow.holds Try.pinned (OpenSpec.ofChange toneSoundsSpec)

/-- ITS FALSE NEIGHBOUR: 'it returns false'. Refute it at one input. -/
def toneSoundsWrong : ChangeSpec := { name := "toneSounds", fn := fun _ => fun
  | [d] => { results := [.lit (.bool false)], args := [d] }
  | _ => none }
def ToneSoundsWrongFalsely : Prop := toneSoundsRow.holds Try.pinned (OpenSpec.ofChange toneSoundsWrong)

/-- 'diaphonelaw01.ToneTells': WHATEVER THE INPUT: true; the input reads as it did. -/
def toneTellsSpec : ChangeSpec := { name := "toneTells", fn := fun _ => fun
  | [d1, d2] => { results := [.lit (.bool true)], args := [d1, d2] }
  | _ => none }
def toneTellsRow : OpenClaim := { program := "ytmpmfjnmfgnhcaa", sum := "8a7fdd8bd4028c65bd88b103c49b6731c48cad0a3c002d4d7abe3b8114642ac0", func := "diaphone/diaphonelaw01.ToneTells", spec := "toneTells", unfollowed := true, recurses := true, plainKeys := false, apart := false }
def ToneTellsSaid : Prop := toneTellsRow.holds Try.pinned (OpenSpec.ofChange toneTellsSpec)

/-- ITS FALSE NEIGHBOUR: 'it returns false'. Refute it at one input. -/
def toneTellsWrong : ChangeSpec := { name := "toneTells", fn := fun _ => fun
  | [d1, d2] => { results := [.lit (.bool false)], args := [d1, d2] }
  | _ => none }
def ToneTellsWrongFalsely : Prop := toneTellsRow.holds Try.pinned (OpenSpec.ofChange toneTellsWrong)

/-- 'diaphonelaw01.ToneAgrees': WHATEVER THE INPUT: true; the input reads as it did. -/
def toneAgreesSpec : ChangeSpec := { name := "toneAgrees", fn := fun _ => fun
  | [d1, d2] => { results := [.lit (.bool true)], args := [d1, d2] }
  | _ => none }
def toneAgreesRow : OpenClaim := { program := "ytmpmfjnmfgnhcaa", sum := "8a7fdd8bd4028c65bd88b103c49b6731c48cad0a3c002d4d7abe3b8114642ac0", func := "diaphone/diaphonelaw01.ToneAgrees", spec := "toneAgrees", unfollowed := true, recurses := true, plainKeys := false, apart := false }
def ToneAgreesSaid : Prop := toneAgreesRow.holds Try.pinned (OpenSpec.ofChange toneAgreesSpec)

/-- ITS FALSE NEIGHBOUR: 'it returns false'. Refute it at one input. -/
def toneAgreesWrong : ChangeSpec := { name := "toneAgrees", fn := fun _ => fun
  | [d1, d2] => { results := [.lit (.bool false)], args := [d1, d2] }
  | _ => none }
def ToneAgreesWrongFalsely : Prop := toneAgreesRow.holds Try.pinned (OpenSpec.ofChange toneAgreesWrong)

/-- 'diaphonelaw01.ToneBlasts': WHATEVER THE INPUT: true; the input reads as it did. -/
def toneBlastsSpec : ChangeSpec := { name := "toneBlasts", fn := fun _ => fun
  | [d] => { results := [.lit (.bool true)], args := [d] }
  | _ => none }
def toneBlastsRow : OpenClaim := { program := "ytmpmfjnmfgnhcaa", sum := "8a7fdd8bd4028c65bd88b103c49b6731c48cad0a3c002d4d7abe3b8114642ac0", func := "diaphone/diaphonelaw01.ToneBlasts", spec := "toneBlasts", unfollowed := true, recurses := true, plainKeys := false, apart := false }
def ToneBlastsSaid : Prop := toneBlastsRow.holds Try.pinned (OpenSpec.ofChange toneBlastsSpec)

/-- ITS FALSE NEIGHBOUR: 'it returns false'. Refute it at one input. -/
def toneBlastsWrong : ChangeSpec := { name := "toneBlasts", fn := fun _ => fun
  | [d] => { results := [.lit (.bool false)], args := [d] }
  | _ => none }
def ToneBlastsWrongFalsely : Prop := toneBlastsRow.holds Try.pinned (OpenSpec.ofChange toneBlastsWrong)

/-- 'diaphonelaw01.ToneMakes': WHATEVER THE INPUT: true; the input reads as it did. -/
def toneMakesSpec : ChangeSpec := { name := "toneMakes", fn := fun _ => fun
  | [d] => { results := [.lit (.bool true)], args := [d] }
  | _ => none }
def toneMakesRow : OpenClaim := { program := "ytmpmfjnmfgnhcaa", sum := "8a7fdd8bd4028c65bd88b103c49b6731c48cad0a3c002d4d7abe3b8114642ac0", func := "diaphone/diaphonelaw01.ToneMakes", spec := "toneMakes", unfollowed := true, recurses := true, plainKeys := false, apart := false }
def ToneMakesSaid : Prop := toneMakesRow.holds Try.pinned (OpenSpec.ofChange toneMakesSpec)

/-- ITS FALSE NEIGHBOUR: 'it returns false'. Refute it at one input. -/
def toneMakesWrong : ChangeSpec := { name := "toneMakes", fn := fun _ => fun
  | [d] => { results := [.lit (.bool false)], args := [d] }
  | _ => none }
def ToneMakesWrongFalsely : Prop := toneMakesRow.holds Try.pinned (OpenSpec.ofChange toneMakesWrong)

/-- 'diaphonelaw01.ToneAparts': WHATEVER THE INPUT: true; the input reads as it did. -/
def toneApartsSpec : ChangeSpec := { name := "toneAparts", fn := fun _ => fun
  | [d1, d2, d3] => { results := [.lit (.bool true)], args := [d1, d2, d3] }
  | _ => none }
def toneApartsRow : OpenClaim := { program := "ytmpmfjnmfgnhcaa", sum := "8a7fdd8bd4028c65bd88b103c49b6731c48cad0a3c002d4d7abe3b8114642ac0", func := "diaphone/diaphonelaw01.ToneAparts", spec := "toneAparts", unfollowed := true, recurses := true, plainKeys := false, apart := false }
def ToneApartsSaid : Prop := toneApartsRow.holds Try.pinned (OpenSpec.ofChange toneApartsSpec)

/-- ITS FALSE NEIGHBOUR: 'it returns false'. Refute it at one input. -/
def toneApartsWrong : ChangeSpec := { name := "toneAparts", fn := fun _ => fun
  | [d1, d2, d3] => { results := [.lit (.bool false)], args := [d1, d2, d3] }
  | _ => none }
def ToneApartsWrongFalsely : Prop := toneApartsRow.holds Try.pinned (OpenSpec.ofChange toneApartsWrong)

/-- 'diaphonelaw01.ToneRepeats': WHATEVER THE INPUT: true; the input reads as it did. -/
def toneRepeatsSpec : ChangeSpec := { name := "toneRepeats", fn := fun _ => fun
  | [d1, d2, d3] => { results := [.lit (.bool true)], args := [d1, d2, d3] }
  | _ => none }
def toneRepeatsRow : OpenClaim := { program := "ytmpmfjnmfgnhcaa", sum := "8a7fdd8bd4028c65bd88b103c49b6731c48cad0a3c002d4d7abe3b8114642ac0", func := "diaphone/diaphonelaw01.ToneRepeats", spec := "toneRepeats", unfollowed := true, recurses := true, plainKeys := false, apart := false }
def ToneRepeatsSaid : Prop := toneRepeatsRow.holds Try.pinned (OpenSpec.ofChange toneRepeatsSpec)

/-- ITS FALSE NEIGHBOUR: 'it returns false'. Refute it at one input. -/
def toneRepeatsWrong : ChangeSpec := { name := "toneRepeats", fn := fun _ => fun
  | [d1, d2, d3] => { results := [.lit (.bool false)], args := [d1, d2, d3] }
  | _ => none }
def ToneRepeatsWrongFalsely : Prop := toneRepeatsRow.holds Try.pinned (OpenSpec.ofChange toneRepeatsWrong)

/-- 'diaphonetop.TopTones': WHATEVER THE INPUT: true; the input reads as it did. -/
def topTonesSpec : ChangeSpec := { name := "topTones", fn := fun _ => fun
  | [d1, d2, d3] => { results := [.lit (.bool true)], args := [d1, d2, d3] }
  | _ => none }
def topTonesRow : OpenClaim := { program := "ytmpmfjnmfgnhcaa", sum := "8a7fdd8bd4028c65bd88b103c49b6731c48cad0a3c002d4d7abe3b8114642ac0", func := "diaphone/diaphonetop.TopTones", spec := "topTones", unfollowed := true, recurses := true, plainKeys := false, apart := false }
def TopTonesSaid : Prop := topTonesRow.holds Try.pinned (OpenSpec.ofChange topTonesSpec)

/-- ITS FALSE NEIGHBOUR: 'it returns false'. Refute it at one input. -/
def topTonesWrong : ChangeSpec := { name := "topTones", fn := fun _ => fun
  | [d1, d2, d3] => { results := [.lit (.bool false)], args := [d1, d2, d3] }
  | _ => none }
def TopTonesWrongFalsely : Prop := topTonesRow.holds Try.pinned (OpenSpec.ofChange topTonesWrong)

/- THE SECOND FORM. 'bulk': how many values and letters a reading holds, each counted each time it is reached (what is shared counts as often as it is met; a slice's spare places count too). A statement '..UptoSaid' is the law's where the arguments, and the package variables that the reading takes, are together of bulk at most 1048576: NARROWER than '..Said'. Prove '..Said' where nothing that the law and all that it calls make is longer than what came in: it says more and counts as full. Else prove '..UptoSaid'. A law counts once. -/
mutual
def uptoBulk {H : Type} : DataW H → Nat
  | .lit (.string bytes) => bytes.length + 1
  | .lit _ => 1
  | .nil => 1
  | .ptr d => uptoBulk d + 1
  | .slice elems spare => uptoBulkAll elems + uptoBulkAll spare + 1
  | .agg parts => uptoBulkAll parts + 1
  | .iface _ d => uptoBulk d + 1
  | .map entries => uptoBulkEntries entries + 1
  | .held _ => 1
def uptoBulkAll {H : Type} : List (DataW H) → Nat
  | [] => 0
  | d :: r => uptoBulk d + uptoBulkAll r
def uptoBulkEntries {H : Type} : List (Lit × DataW H) → Nat
  | [] => 0
  | x :: r => uptoBulkEntry x + uptoBulkEntries r
def uptoBulkEntry {H : Type} : Lit × DataW H → Nat
  | (.string bytes, d) => bytes.length + uptoBulk d + 1
  | (_, d) => uptoBulk d + 1
 end
def uptoSmall : (H : Type) → List (DataW H) → Bool := fun _ ds => decide (uptoBulkAll ds ≤ 1048576)
def OpenSpec.upto (s : _root_.Go.ChangeSpec) : _root_.Go.OpenSpec := { _root_.Go.OpenSpec.ofChange s with cond := some uptoSmall }

/-- 'diaphonelaw01.ToneTurns', WHERE WHAT IT READS IS OF BULK AT MOST 1048576: true; the input reads as it did. -/
def toneTurnsUptoRow : OpenClaim := { program := "ytmpmfjnmfgnhcaa", sum := "8a7fdd8bd4028c65bd88b103c49b6731c48cad0a3c002d4d7abe3b8114642ac0", func := "diaphone/diaphonelaw01.ToneTurns", spec := "toneTurns", unfollowed := true, recurses := true, plainKeys := false, apart := false, narrowed := true }
def ToneTurnsUptoSaid : Prop := toneTurnsUptoRow.holds Try.pinned (OpenSpec.upto toneTurnsSpec)

/-- 'diaphonelaw01.ToneSeconds', WHERE WHAT IT READS IS OF BULK AT MOST 1048576: true; the input reads as it did. -/
def toneSecondsUptoRow : OpenClaim := { program := "ytmpmfjnmfgnhcaa", sum := "8a7fdd8bd4028c65bd88b103c49b6731c48cad0a3c002d4d7abe3b8114642ac0", func := "diaphone/diaphonelaw01.ToneSeconds", spec := "toneSeconds", unfollowed := true, recurses := true, plainKeys := false, apart := false, narrowed := true }
def ToneSecondsUptoSaid : Prop := toneSecondsUptoRow.holds Try.pinned (OpenSpec.upto toneSecondsSpec)

/-- 'diaphonelaw01.TonePeriods', WHERE WHAT IT READS IS OF BULK AT MOST 1048576: true; the input reads as it did. -/
def tonePeriodsUptoRow : OpenClaim := { program := "ytmpmfjnmfgnhcaa", sum := "8a7fdd8bd4028c65bd88b103c49b6731c48cad0a3c002d4d7abe3b8114642ac0", func := "diaphone/diaphonelaw01.TonePeriods", spec := "tonePeriods", unfollowed := true, recurses := true, plainKeys := false, apart := false, narrowed := true }
def TonePeriodsUptoSaid : Prop := tonePeriodsUptoRow.holds Try.pinned (OpenSpec.upto tonePeriodsSpec)

/-- 'diaphonelaw01.ToneCounts', WHERE WHAT IT READS IS OF BULK AT MOST 1048576: true; the input reads as it did. -/
def toneCountsUptoRow : OpenClaim := { program := "ytmpmfjnmfgnhcaa", sum := "8a7fdd8bd4028c65bd88b103c49b6731c48cad0a3c002d4d7abe3b8114642ac0", func := "diaphone/diaphonelaw01.ToneCounts", spec := "toneCounts", unfollowed := true, recurses := true, plainKeys := false, apart := false, narrowed := true }
def ToneCountsUptoSaid : Prop := toneCountsUptoRow.holds Try.pinned (OpenSpec.upto toneCountsSpec)

/-- 'diaphonelaw01.ToneSames', WHERE WHAT IT READS IS OF BULK AT MOST 1048576: true; the input reads as it did. -/
def toneSamesUptoRow : OpenClaim := { program := "ytmpmfjnmfgnhcaa", sum := "8a7fdd8bd4028c65bd88b103c49b6731c48cad0a3c002d4d7abe3b8114642ac0", func := "diaphone/diaphonelaw01.ToneSames", spec := "toneSames", unfollowed := true, recurses := true, plainKeys := false, apart := false, narrowed := true }
def ToneSamesUptoSaid : Prop := toneSamesUptoRow.holds Try.pinned (OpenSpec.upto toneSamesSpec)

/-- 'diaphonelaw01.TonePieces', WHERE WHAT IT READS IS OF BULK AT MOST 1048576: true; the input reads as it did. -/
def tonePiecesUptoRow : OpenClaim := { program := "ytmpmfjnmfgnhcaa", sum := "8a7fdd8bd4028c65bd88b103c49b6731c48cad0a3c002d4d7abe3b8114642ac0", func := "diaphone/diaphonelaw01.TonePieces", spec := "tonePieces", unfollowed := true, recurses := true, plainKeys := false, apart := false, narrowed := true }
def TonePiecesUptoSaid : Prop := tonePiecesUptoRow.holds Try.pinned (OpenSpec.upto tonePiecesSpec)

/-- 'diaphonelaw01.ToneSwaps', WHERE WHAT IT READS IS OF BULK AT MOST 1048576: true; the input reads as it did. -/
def toneSwapsUptoRow : OpenClaim := { program := "ytmpmfjnmfgnhcaa", sum := "8a7fdd8bd4028c65bd88b103c49b6731c48cad0a3c002d4d7abe3b8114642ac0", func := "diaphone/diaphonelaw01.ToneSwaps", spec := "toneSwaps", unfollowed := true, recurses := true, plainKeys := false, apart := false, narrowed := true }
def ToneSwapsUptoSaid : Prop := toneSwapsUptoRow.holds Try.pinned (OpenSpec.upto toneSwapsSpec)

/-- 'diaphonelaw01.ToneSounds', WHERE WHAT IT READS IS OF BULK AT MOST 1048576: true; the input reads as it did. -/
def toneSoundsUptoRow : OpenClaim := { program := "ytmpmfjnmfgnhcaa", sum := "8a7fdd8bd4028c65bd88b103c49b6731c48cad0a3c002d4d7abe3b8114642ac0", func := "diaphone/diaphonelaw01.ToneSounds", spec := "toneSounds", unfollowed := true, recurses := true, plainKeys := false, apart := false, narrowed := true }
def ToneSoundsUptoSaid : Prop := toneSoundsUptoRow.holds Try.pinned (OpenSpec.upto toneSoundsSpec)

/-- 'diaphonelaw01.ToneTells', WHERE WHAT IT READS IS OF BULK AT MOST 1048576: true; the input reads as it did. -/
def toneTellsUptoRow : OpenClaim := { program := "ytmpmfjnmfgnhcaa", sum := "8a7fdd8bd4028c65bd88b103c49b6731c48cad0a3c002d4d7abe3b8114642ac0", func := "diaphone/diaphonelaw01.ToneTells", spec := "toneTells", unfollowed := true, recurses := true, plainKeys := false, apart := false, narrowed := true }
def ToneTellsUptoSaid : Prop := toneTellsUptoRow.holds Try.pinned (OpenSpec.upto toneTellsSpec)

/-- 'diaphonelaw01.ToneAgrees', WHERE WHAT IT READS IS OF BULK AT MOST 1048576: true; the input reads as it did. -/
def toneAgreesUptoRow : OpenClaim := { program := "ytmpmfjnmfgnhcaa", sum := "8a7fdd8bd4028c65bd88b103c49b6731c48cad0a3c002d4d7abe3b8114642ac0", func := "diaphone/diaphonelaw01.ToneAgrees", spec := "toneAgrees", unfollowed := true, recurses := true, plainKeys := false, apart := false, narrowed := true }
def ToneAgreesUptoSaid : Prop := toneAgreesUptoRow.holds Try.pinned (OpenSpec.upto toneAgreesSpec)

/-- 'diaphonelaw01.ToneBlasts', WHERE WHAT IT READS IS OF BULK AT MOST 1048576: true; the input reads as it did. -/
def toneBlastsUptoRow : OpenClaim := { program := "ytmpmfjnmfgnhcaa", sum := "8a7fdd8bd4028c65bd88b103c49b6731c48cad0a3c002d4d7abe3b8114642ac0", func := "diaphone/diaphonelaw01.ToneBlasts", spec := "toneBlasts", unfollowed := true, recurses := true, plainKeys := false, apart := false, narrowed := true }
def ToneBlastsUptoSaid : Prop := toneBlastsUptoRow.holds Try.pinned (OpenSpec.upto toneBlastsSpec)

/-- 'diaphonelaw01.ToneMakes', WHERE WHAT IT READS IS OF BULK AT MOST 1048576: true; the input reads as it did. -/
def toneMakesUptoRow : OpenClaim := { program := "ytmpmfjnmfgnhcaa", sum := "8a7fdd8bd4028c65bd88b103c49b6731c48cad0a3c002d4d7abe3b8114642ac0", func := "diaphone/diaphonelaw01.ToneMakes", spec := "toneMakes", unfollowed := true, recurses := true, plainKeys := false, apart := false, narrowed := true }
def ToneMakesUptoSaid : Prop := toneMakesUptoRow.holds Try.pinned (OpenSpec.upto toneMakesSpec)

/-- 'diaphonelaw01.ToneAparts', WHERE WHAT IT READS IS OF BULK AT MOST 1048576: true; the input reads as it did. -/
def toneApartsUptoRow : OpenClaim := { program := "ytmpmfjnmfgnhcaa", sum := "8a7fdd8bd4028c65bd88b103c49b6731c48cad0a3c002d4d7abe3b8114642ac0", func := "diaphone/diaphonelaw01.ToneAparts", spec := "toneAparts", unfollowed := true, recurses := true, plainKeys := false, apart := false, narrowed := true }
def ToneApartsUptoSaid : Prop := toneApartsUptoRow.holds Try.pinned (OpenSpec.upto toneApartsSpec)

/-- 'diaphonelaw01.ToneRepeats', WHERE WHAT IT READS IS OF BULK AT MOST 1048576: true; the input reads as it did. -/
def toneRepeatsUptoRow : OpenClaim := { program := "ytmpmfjnmfgnhcaa", sum := "8a7fdd8bd4028c65bd88b103c49b6731c48cad0a3c002d4d7abe3b8114642ac0", func := "diaphone/diaphonelaw01.ToneRepeats", spec := "toneRepeats", unfollowed := true, recurses := true, plainKeys := false, apart := false, narrowed := true }
def ToneRepeatsUptoSaid : Prop := toneRepeatsUptoRow.holds Try.pinned (OpenSpec.upto toneRepeatsSpec)

/-- 'diaphonetop.TopTones', WHERE WHAT IT READS IS OF BULK AT MOST 1048576: true; the input reads as it did. -/
def topTonesUptoRow : OpenClaim := { program := "ytmpmfjnmfgnhcaa", sum := "8a7fdd8bd4028c65bd88b103c49b6731c48cad0a3c002d4d7abe3b8114642ac0", func := "diaphone/diaphonetop.TopTones", spec := "topTones", unfollowed := true, recurses := true, plainKeys := false, apart := false, narrowed := true }
def TopTonesUptoSaid : Prop := topTonesUptoRow.holds Try.pinned (OpenSpec.upto topTonesSpec)

end Rows
end Go.Proofs.Ytmpmfjnmfgnhcaa
