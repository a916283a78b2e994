/-
  No cell of these rows narrows 'for every input' (looked for: loops, veiled, ifaces, maps, wideKeys, modest, calm, conditions, laid).
  DERIVED. THE GIVEN ROWS OF THIS SEAT. 7 by the template 'for every input the law returns true; each argument reads behind the call as it read before'; 0 by the template 'total and deterministic' (their statements: YtdpnhpennceldaaTotals.lean).
  GIVEN WITH THE SEED: the statements are not yours to turn. If you find one false, say at which input.
  Laid BY PROGRAM, IN A SANDBOX (cutbox-rows.mjs): the forced cells as the released guide's own fill.sh prints them over the translation f1eb5e2e4d2c5888… (all of the seat's roots in one cut). By AI agents, Wed Nov 11 2026. No macro, syntax, notation, axiom, sorry.
-/
import Derived.Test.YtdpnhpennceldaaChecked
import GoSem.Claim
import GoSem.ClaimJoined
import GoSem.ClaimMapViews
import Derived.JoinedTies
import Derived.KernelRfl
namespace Go.Proofs.Ytdpnhpennceldaa
/- THE CELL 'sum', in the pinned program and in every row, IS THE sha256 OF THE DUMP (.gsa) THAT YtdpnhpennceldaaProg.lean LOADS. Nothing in Lean hashes anything: it is a label: what it is worth is what the hold of that sum in a sandbox is worth. -/
noncomputable def Try.pinned : Pinned := { name := "ytdpnhpennceldaa", sum := "f1eb5e2e4d2c58883a0266f41a2a579b88d71e7fb02d737a63e19e850d38f270", checked := Try.checked }
namespace Rows
def none {H : Type} : Left H := { results := [], args := [] }

/-- 'barbicanlaw2.AluDoes': WHATEVER THE INPUT: true; the input reads as it did. -/
def aluDoesSpec : ChangeSpec := { name := "aluDoes", fn := fun _ => fun
  | [d1, d2, d3, d4] => { results := [.lit (.bool true)], args := [d1, d2, d3, d4] }
  | _ => none }
def aluDoesRow : OpenClaim := { program := "ytdpnhpennceldaa", sum := "f1eb5e2e4d2c58883a0266f41a2a579b88d71e7fb02d737a63e19e850d38f270", func := "barbican/barbicanlaw2.AluDoes", spec := "aluDoes", unfollowed := true, recurses := true, apart := false }
def AluDoesSaid : Prop := aluDoesRow.holds Try.pinned (OpenSpec.ofChange aluDoesSpec)

/-- ITS FALSE NEIGHBOUR: 'it returns false'. Refute it at one input. -/
def aluDoesWrong : ChangeSpec := { name := "aluDoes", fn := fun _ => fun
  | [d1, d2, d3, d4] => { results := [.lit (.bool false)], args := [d1, d2, d3, d4] }
  | _ => none }
def AluDoesWrongFalsely : Prop := aluDoesRow.holds Try.pinned (OpenSpec.ofChange aluDoesWrong)

/-- 'barbicanlaw2.AluLaws': WHATEVER THE INPUT: true; the input reads as it did. -/
def aluLawsSpec : ChangeSpec := { name := "aluLaws", fn := fun _ => fun
  | [d1, d2, d3, d4] => { results := [.lit (.bool true)], args := [d1, d2, d3, d4] }
  | _ => none }
def aluLawsRow : OpenClaim := { program := "ytdpnhpennceldaa", sum := "f1eb5e2e4d2c58883a0266f41a2a579b88d71e7fb02d737a63e19e850d38f270", func := "barbican/barbicanlaw2.AluLaws", spec := "aluLaws", unfollowed := true, recurses := true, apart := false }
def AluLawsSaid : Prop := aluLawsRow.holds Try.pinned (OpenSpec.ofChange aluLawsSpec)

/-- ITS FALSE NEIGHBOUR: 'it returns false'. Refute it at one input. -/
def aluLawsWrong : ChangeSpec := { name := "aluLaws", fn := fun _ => fun
  | [d1, d2, d3, d4] => { results := [.lit (.bool false)], args := [d1, d2, d3, d4] }
  | _ => none }
def AluLawsWrongFalsely : Prop := aluLawsRow.holds Try.pinned (OpenSpec.ofChange aluLawsWrong)

/-- 'barbicanlaw2.AluShifts': WHATEVER THE INPUT: true; the input reads as it did. -/
def aluShiftsSpec : ChangeSpec := { name := "aluShifts", fn := fun _ => fun
  | [d1, d2, d3] => { results := [.lit (.bool true)], args := [d1, d2, d3] }
  | _ => none }
def aluShiftsRow : OpenClaim := { program := "ytdpnhpennceldaa", sum := "f1eb5e2e4d2c58883a0266f41a2a579b88d71e7fb02d737a63e19e850d38f270", func := "barbican/barbicanlaw2.AluShifts", spec := "aluShifts", unfollowed := true, recurses := true, apart := false }
def AluShiftsSaid : Prop := aluShiftsRow.holds Try.pinned (OpenSpec.ofChange aluShiftsSpec)

/-- ITS FALSE NEIGHBOUR: 'it returns false'. Refute it at one input. -/
def aluShiftsWrong : ChangeSpec := { name := "aluShifts", fn := fun _ => fun
  | [d1, d2, d3] => { results := [.lit (.bool false)], args := [d1, d2, d3] }
  | _ => none }
def AluShiftsWrongFalsely : Prop := aluShiftsRow.holds Try.pinned (OpenSpec.ofChange aluShiftsWrong)

/-- 'barbicanlaw2.AluSigns': WHATEVER THE INPUT: true; the input reads as it did. -/
def aluSignsSpec : ChangeSpec := { name := "aluSigns", fn := fun _ => fun
  | [d1, d2] => { results := [.lit (.bool true)], args := [d1, d2] }
  | _ => none }
def aluSignsRow : OpenClaim := { program := "ytdpnhpennceldaa", sum := "f1eb5e2e4d2c58883a0266f41a2a579b88d71e7fb02d737a63e19e850d38f270", func := "barbican/barbicanlaw2.AluSigns", spec := "aluSigns", unfollowed := true, recurses := true, apart := false }
def AluSignsSaid : Prop := aluSignsRow.holds Try.pinned (OpenSpec.ofChange aluSignsSpec)

/-- ITS FALSE NEIGHBOUR: 'it returns false'. Refute it at one input. -/
def aluSignsWrong : ChangeSpec := { name := "aluSigns", fn := fun _ => fun
  | [d1, d2] => { results := [.lit (.bool false)], args := [d1, d2] }
  | _ => none }
def AluSignsWrongFalsely : Prop := aluSignsRow.holds Try.pinned (OpenSpec.ofChange aluSignsWrong)

/-- 'barbicanlaw2.AluBits': WHATEVER THE INPUT: true; the input reads as it did. -/
def aluBitsSpec : ChangeSpec := { name := "aluBits", fn := fun _ => fun
  | [d1, d2, d3] => { results := [.lit (.bool true)], args := [d1, d2, d3] }
  | _ => none }
def aluBitsRow : OpenClaim := { program := "ytdpnhpennceldaa", sum := "f1eb5e2e4d2c58883a0266f41a2a579b88d71e7fb02d737a63e19e850d38f270", func := "barbican/barbicanlaw2.AluBits", spec := "aluBits", unfollowed := true, recurses := true, apart := false }
def AluBitsSaid : Prop := aluBitsRow.holds Try.pinned (OpenSpec.ofChange aluBitsSpec)

/-- ITS FALSE NEIGHBOUR: 'it returns false'. Refute it at one input. -/
def aluBitsWrong : ChangeSpec := { name := "aluBits", fn := fun _ => fun
  | [d1, d2, d3] => { results := [.lit (.bool false)], args := [d1, d2, d3] }
  | _ => none }
def AluBitsWrongFalsely : Prop := aluBitsRow.holds Try.pinned (OpenSpec.ofChange aluBitsWrong)

/-- 'barbicanlaw2.AluSwaps': WHATEVER THE INPUT: true; the input reads as it did. -/
def aluSwapsSpec : ChangeSpec := { name := "aluSwaps", fn := fun _ => fun
  | [d1, d2, d3, d4] => { results := [.lit (.bool true)], args := [d1, d2, d3, d4] }
  | _ => none }
def aluSwapsRow : OpenClaim := { program := "ytdpnhpennceldaa", sum := "f1eb5e2e4d2c58883a0266f41a2a579b88d71e7fb02d737a63e19e850d38f270", func := "barbican/barbicanlaw2.AluSwaps", spec := "aluSwaps", unfollowed := true, recurses := true, apart := false }
def AluSwapsSaid : Prop := aluSwapsRow.holds Try.pinned (OpenSpec.ofChange aluSwapsSpec)

/-- ITS FALSE NEIGHBOUR: 'it returns false'. Refute it at one input. -/
def aluSwapsWrong : ChangeSpec := { name := "aluSwaps", fn := fun _ => fun
  | [d1, d2, d3, d4] => { results := [.lit (.bool false)], args := [d1, d2, d3, d4] }
  | _ => none }
def AluSwapsWrongFalsely : Prop := aluSwapsRow.holds Try.pinned (OpenSpec.ofChange aluSwapsWrong)

/-- 'barbicanlaw2.AluCompares': WHATEVER THE INPUT: true; the input reads as it did. -/
def aluComparesSpec : ChangeSpec := { name := "aluCompares", fn := fun _ => fun
  | [d1, d2, d3, d4] => { results := [.lit (.bool true)], args := [d1, d2, d3, d4] }
  | _ => none }
def aluComparesRow : OpenClaim := { program := "ytdpnhpennceldaa", sum := "f1eb5e2e4d2c58883a0266f41a2a579b88d71e7fb02d737a63e19e850d38f270", func := "barbican/barbicanlaw2.AluCompares", spec := "aluCompares", unfollowed := true, recurses := true, apart := false }
def AluComparesSaid : Prop := aluComparesRow.holds Try.pinned (OpenSpec.ofChange aluComparesSpec)

/-- ITS FALSE NEIGHBOUR: 'it returns false'. Refute it at one input. -/
def aluComparesWrong : ChangeSpec := { name := "aluCompares", fn := fun _ => fun
  | [d1, d2, d3, d4] => { results := [.lit (.bool false)], args := [d1, d2, d3, d4] }
  | _ => none }
def AluComparesWrongFalsely : Prop := aluComparesRow.holds Try.pinned (OpenSpec.ofChange aluComparesWrong)

/- THE SECOND FORM. 'bulk': how many values and letters a reading holds, each counted each time it is reached (what is shared counts as often as it is met; a slice's spare places count too). A statement '..UptoSaid' is the law's where the arguments, and the package variables that the reading takes, are together of bulk at most 1048576: NARROWER than '..Said'. Prove '..Said' where nothing that the law and all that it calls make is longer than what came in: it says more and counts as full. Else prove '..UptoSaid'. A law counts once. -/
mutual
def uptoBulk {H : Type} : DataW H → Nat
  | .lit (.string bytes) => bytes.length + 1
  | .lit _ => 1
  | .nil => 1
  | .ptr d => uptoBulk d + 1
  | .slice elems spare => uptoBulkAll elems + uptoBulkAll spare + 1
  | .agg parts => uptoBulkAll parts + 1
  | .iface _ d => uptoBulk d + 1
  | .map entries => uptoBulkEntries entries + 1
  | .held _ => 1
def uptoBulkAll {H : Type} : List (DataW H) → Nat
  | [] => 0
  | d :: r => uptoBulk d + uptoBulkAll r
def uptoBulkEntries {H : Type} : List (Lit × DataW H) → Nat
  | [] => 0
  | x :: r => uptoBulkEntry x + uptoBulkEntries r
def uptoBulkEntry {H : Type} : Lit × DataW H → Nat
  | (.string bytes, d) => bytes.length + uptoBulk d + 1
  | (_, d) => uptoBulk d + 1
 end
def uptoSmall : (H : Type) → List (DataW H) → Bool := fun _ ds => decide (uptoBulkAll ds ≤ 1048576)
def OpenSpec.upto (s : _root_.Go.ChangeSpec) : _root_.Go.OpenSpec := { _root_.Go.OpenSpec.ofChange s with cond := some uptoSmall }

/-- 'barbicanlaw2.AluDoes', WHERE WHAT IT READS IS OF BULK AT MOST 1048576: true; the input reads as it did. -/
def aluDoesUptoRow : OpenClaim := { program := "ytdpnhpennceldaa", sum := "f1eb5e2e4d2c58883a0266f41a2a579b88d71e7fb02d737a63e19e850d38f270", func := "barbican/barbicanlaw2.AluDoes", spec := "aluDoes", unfollowed := true, recurses := true, apart := false, narrowed := true }
def AluDoesUptoSaid : Prop := aluDoesUptoRow.holds Try.pinned (OpenSpec.upto aluDoesSpec)

/-- 'barbicanlaw2.AluLaws', WHERE WHAT IT READS IS OF BULK AT MOST 1048576: true; the input reads as it did. -/
def aluLawsUptoRow : OpenClaim := { program := "ytdpnhpennceldaa", sum := "f1eb5e2e4d2c58883a0266f41a2a579b88d71e7fb02d737a63e19e850d38f270", func := "barbican/barbicanlaw2.AluLaws", spec := "aluLaws", unfollowed := true, recurses := true, apart := false, narrowed := true }
def AluLawsUptoSaid : Prop := aluLawsUptoRow.holds Try.pinned (OpenSpec.upto aluLawsSpec)

/-- 'barbicanlaw2.AluShifts', WHERE WHAT IT READS IS OF BULK AT MOST 1048576: true; the input reads as it did. -/
def aluShiftsUptoRow : OpenClaim := { program := "ytdpnhpennceldaa", sum := "f1eb5e2e4d2c58883a0266f41a2a579b88d71e7fb02d737a63e19e850d38f270", func := "barbican/barbicanlaw2.AluShifts", spec := "aluShifts", unfollowed := true, recurses := true, apart := false, narrowed := true }
def AluShiftsUptoSaid : Prop := aluShiftsUptoRow.holds Try.pinned (OpenSpec.upto aluShiftsSpec)

/-- 'barbicanlaw2.AluSigns', WHERE WHAT IT READS IS OF BULK AT MOST 1048576: true; the input reads as it did. -/
def aluSignsUptoRow : OpenClaim := { program := "ytdpnhpennceldaa", sum := "f1eb5e2e4d2c58883a0266f41a2a579b88d71e7fb02d737a63e19e850d38f270", func := "barbican/barbicanlaw2.AluSigns", spec := "aluSigns", unfollowed := true, recurses := true, apart := false, narrowed := true }
def AluSignsUptoSaid : Prop := aluSignsUptoRow.holds Try.pinned (OpenSpec.upto aluSignsSpec)

/-- 'barbicanlaw2.AluBits', WHERE WHAT IT READS IS OF BULK AT MOST 1048576: true; the input reads as it did. -/
def aluBitsUptoRow : OpenClaim := { program := "ytdpnhpennceldaa", sum := "f1eb5e2e4d2c58883a0266f41a2a579b88d71e7fb02d737a63e19e850d38f270", func := "barbican/barbicanlaw2.AluBits", spec := "aluBits", unfollowed := true, recurses := true, apart := false, narrowed := true }
def AluBitsUptoSaid : Prop := aluBitsUptoRow.holds Try.pinned (OpenSpec.upto aluBitsSpec)

/-- 'barbicanlaw2.AluSwaps', WHERE WHAT IT READS IS OF BULK AT MOST 1048576: true; the input reads as it did. -/
def aluSwapsUptoRow : OpenClaim := { program := "ytdpnhpennceldaa", sum := "f1eb5e2e4d2c58883a0266f41a2a579b88d71e7fb02d737a63e19e850d38f270", func := "barbican/barbicanlaw2.AluSwaps", spec := "aluSwaps", unfollowed := true, recurses := true, apart := false, narrowed := true }
def AluSwapsUptoSaid : Prop := aluSwapsUptoRow.holds Try.pinned (OpenSpec.upto aluSwapsSpec)

/-- 'barbicanlaw2.AluCompares', WHERE WHAT IT READS IS OF BULK AT MOST 1048576: true; the input reads as it did. -/
def aluComparesUptoRow : OpenClaim := { program := "ytdpnhpennceldaa", sum := "f1eb5e2e4d2c58883a0266f41a2a579b88d71e7fb02d737a63e19e850d38f270", func := "barbican/barbicanlaw2.AluCompares", spec := "aluCompares", unfollowed := true, recurses := true, apart := false, narrowed := true }
def AluComparesUptoSaid : Prop := aluComparesUptoRow.holds Try.pinned (OpenSpec.upto aluComparesSpec)

end Rows
end Go.Proofs.Ytdpnhpennceldaa
