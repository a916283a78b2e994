/-
  No cell of these rows narrows 'for every input' (looked for: loops, veiled, ifaces, maps, wideKeys, modest, calm, conditions, laid).
  DERIVED. THE GIVEN ROWS OF THIS SEAT. 9 by the template 'for every input the law returns true; each argument reads behind the call as it read before'; 0 by the template 'total and deterministic' (their statements: YtmjeloinibembaaTotals.lean).
  GIVEN WITH THE SEED: the statements are not yours to turn. If you find one false, say at which input.
  Laid BY PROGRAM, IN A SANDBOX (cutbox-rows.mjs): the forced cells as the released guide's own fill.sh prints them over the translation af8455161941c3ea… (all of the seat's roots in one cut). By AI agents, Wed Nov 11 2026. No macro, syntax, notation, axiom, sorry.
-/
import Derived.Test.YtmjeloinibembaaChecked
import GoSem.Claim
import GoSem.ClaimJoined
import GoSem.ClaimMapViews
import Derived.JoinedTies
import Derived.KernelRfl
namespace Go.Proofs.Ytmjeloinibembaa
/- THE CELL 'sum', in the pinned program and in every row, IS THE sha256 OF THE DUMP (.gsa) THAT YtmjeloinibembaaProg.lean LOADS. Nothing in Lean hashes anything: it is a label: what it is worth is what the hold of that sum in a sandbox is worth. -/
noncomputable def Try.pinned : Pinned := { name := "ytmjeloinibembaa", sum := "af8455161941c3ea122b7f9b58d6bdeb42510f54a4ff1c3f5cb318a0950345f5", checked := Try.checked }
namespace Rows
def none {H : Type} : Left H := { results := [], args := [] }

/-- 'barbicanlaw10.RingFills': WHATEVER THE INPUT: true; the input reads as it did. -/
def ringFillsSpec : ChangeSpec := { name := "ringFills", fn := fun _ => fun
  | [d1, d2] => { results := [.lit (.bool true)], args := [d1, d2] }
  | _ => none }
def ringFillsRow : OpenClaim := { program := "ytmjeloinibembaa", sum := "af8455161941c3ea122b7f9b58d6bdeb42510f54a4ff1c3f5cb318a0950345f5", func := "barbican/barbicanlaw10.RingFills", spec := "ringFills", unfollowed := true, recurses := true, apart := false }
def RingFillsSaid : Prop := ringFillsRow.holds Try.pinned (OpenSpec.ofChange ringFillsSpec)

/-- ITS FALSE NEIGHBOUR: 'it returns false'. Refute it at one input. -/
def ringFillsWrong : ChangeSpec := { name := "ringFills", fn := fun _ => fun
  | [d1, d2] => { results := [.lit (.bool false)], args := [d1, d2] }
  | _ => none }
def RingFillsWrongFalsely : Prop := ringFillsRow.holds Try.pinned (OpenSpec.ofChange ringFillsWrong)

/-- 'barbicanlaw10.RingStream': WHATEVER THE INPUT: true; the input reads as it did. -/
def ringStreamSpec : ChangeSpec := { name := "ringStream", fn := fun _ => fun
  | [d1, d2] => { results := [.lit (.bool true)], args := [d1, d2] }
  | _ => none }
def ringStreamRow : OpenClaim := { program := "ytmjeloinibembaa", sum := "af8455161941c3ea122b7f9b58d6bdeb42510f54a4ff1c3f5cb318a0950345f5", func := "barbican/barbicanlaw10.RingStream", spec := "ringStream", unfollowed := true, recurses := true, apart := false }
def RingStreamSaid : Prop := ringStreamRow.holds Try.pinned (OpenSpec.ofChange ringStreamSpec)

/-- ITS FALSE NEIGHBOUR: 'it returns false'. Refute it at one input. -/
def ringStreamWrong : ChangeSpec := { name := "ringStream", fn := fun _ => fun
  | [d1, d2] => { results := [.lit (.bool false)], args := [d1, d2] }
  | _ => none }
def RingStreamWrongFalsely : Prop := ringStreamRow.holds Try.pinned (OpenSpec.ofChange ringStreamWrong)

/-- 'barbicanlaw10.RingOrder': WHATEVER THE INPUT: true; the input reads as it did. -/
def ringOrderSpec : ChangeSpec := { name := "ringOrder", fn := fun _ => fun
  | [d1, d2, d3] => { results := [.lit (.bool true)], args := [d1, d2, d3] }
  | _ => none }
def ringOrderRow : OpenClaim := { program := "ytmjeloinibembaa", sum := "af8455161941c3ea122b7f9b58d6bdeb42510f54a4ff1c3f5cb318a0950345f5", func := "barbican/barbicanlaw10.RingOrder", spec := "ringOrder", unfollowed := true, recurses := true, apart := false }
def RingOrderSaid : Prop := ringOrderRow.holds Try.pinned (OpenSpec.ofChange ringOrderSpec)

/-- ITS FALSE NEIGHBOUR: 'it returns false'. Refute it at one input. -/
def ringOrderWrong : ChangeSpec := { name := "ringOrder", fn := fun _ => fun
  | [d1, d2, d3] => { results := [.lit (.bool false)], args := [d1, d2, d3] }
  | _ => none }
def RingOrderWrongFalsely : Prop := ringOrderRow.holds Try.pinned (OpenSpec.ofChange ringOrderWrong)

/-- 'barbicanlaw10.RingPlays': WHATEVER THE INPUT: true; the input reads as it did. -/
def ringPlaysSpec : ChangeSpec := { name := "ringPlays", fn := fun _ => fun
  | [d1, d2] => { results := [.lit (.bool true)], args := [d1, d2] }
  | _ => none }
def ringPlaysRow : OpenClaim := { program := "ytmjeloinibembaa", sum := "af8455161941c3ea122b7f9b58d6bdeb42510f54a4ff1c3f5cb318a0950345f5", func := "barbican/barbicanlaw10.RingPlays", spec := "ringPlays", unfollowed := true, recurses := true, apart := false }
def RingPlaysSaid : Prop := ringPlaysRow.holds Try.pinned (OpenSpec.ofChange ringPlaysSpec)

/-- ITS FALSE NEIGHBOUR: 'it returns false'. Refute it at one input. -/
def ringPlaysWrong : ChangeSpec := { name := "ringPlays", fn := fun _ => fun
  | [d1, d2] => { results := [.lit (.bool false)], args := [d1, d2] }
  | _ => none }
def RingPlaysWrongFalsely : Prop := ringPlaysRow.holds Try.pinned (OpenSpec.ofChange ringPlaysWrong)

/-- 'barbicanlaw8.RegionKeeps': WHATEVER THE INPUT: true; the input reads as it did. -/
def regionKeepsSpec : ChangeSpec := { name := "regionKeeps", fn := fun _ => fun
  | [d1, d2, d3, d4, d5, d6, d7] => { results := [.lit (.bool true)], args := [d1, d2, d3, d4, d5, d6, d7] }
  | _ => none }
def regionKeepsRow : OpenClaim := { program := "ytmjeloinibembaa", sum := "af8455161941c3ea122b7f9b58d6bdeb42510f54a4ff1c3f5cb318a0950345f5", func := "barbican/barbicanlaw8.RegionKeeps", spec := "regionKeeps", unfollowed := true, recurses := true, apart := false }
def RegionKeepsSaid : Prop := regionKeepsRow.holds Try.pinned (OpenSpec.ofChange regionKeepsSpec)

/-- ITS FALSE NEIGHBOUR: 'it returns false'. Refute it at one input. -/
def regionKeepsWrong : ChangeSpec := { name := "regionKeeps", fn := fun _ => fun
  | [d1, d2, d3, d4, d5, d6, d7] => { results := [.lit (.bool false)], args := [d1, d2, d3, d4, d5, d6, d7] }
  | _ => none }
def RegionKeepsWrongFalsely : Prop := regionKeepsRow.holds Try.pinned (OpenSpec.ofChange regionKeepsWrong)

/-- 'barbicanlaw8.RegionLittle': WHATEVER THE INPUT: true; the input reads as it did. -/
def regionLittleSpec : ChangeSpec := { name := "regionLittle", fn := fun _ => fun
  | [d1, d2] => { results := [.lit (.bool true)], args := [d1, d2] }
  | _ => none }
def regionLittleRow : OpenClaim := { program := "ytmjeloinibembaa", sum := "af8455161941c3ea122b7f9b58d6bdeb42510f54a4ff1c3f5cb318a0950345f5", func := "barbican/barbicanlaw8.RegionLittle", spec := "regionLittle", unfollowed := true, recurses := true, apart := false }
def RegionLittleSaid : Prop := regionLittleRow.holds Try.pinned (OpenSpec.ofChange regionLittleSpec)

/-- ITS FALSE NEIGHBOUR: 'it returns false'. Refute it at one input. -/
def regionLittleWrong : ChangeSpec := { name := "regionLittle", fn := fun _ => fun
  | [d1, d2] => { results := [.lit (.bool false)], args := [d1, d2] }
  | _ => none }
def RegionLittleWrongFalsely : Prop := regionLittleRow.holds Try.pinned (OpenSpec.ofChange regionLittleWrong)

/-- 'barbicanlaw8.RegionApart': WHATEVER THE INPUT: true; the input reads as it did. -/
def regionApartSpec : ChangeSpec := { name := "regionApart", fn := fun _ => fun
  | [d1, d2, d3] => { results := [.lit (.bool true)], args := [d1, d2, d3] }
  | _ => none }
def regionApartRow : OpenClaim := { program := "ytmjeloinibembaa", sum := "af8455161941c3ea122b7f9b58d6bdeb42510f54a4ff1c3f5cb318a0950345f5", func := "barbican/barbicanlaw8.RegionApart", spec := "regionApart", unfollowed := true, recurses := true, apart := false }
def RegionApartSaid : Prop := regionApartRow.holds Try.pinned (OpenSpec.ofChange regionApartSpec)

/-- ITS FALSE NEIGHBOUR: 'it returns false'. Refute it at one input. -/
def regionApartWrong : ChangeSpec := { name := "regionApart", fn := fun _ => fun
  | [d1, d2, d3] => { results := [.lit (.bool false)], args := [d1, d2, d3] }
  | _ => none }
def RegionApartWrongFalsely : Prop := regionApartRow.holds Try.pinned (OpenSpec.ofChange regionApartWrong)

/-- 'barbicanlaw8.RegionEnds': WHATEVER THE INPUT: true; the input reads as it did. -/
def regionEndsSpec : ChangeSpec := { name := "regionEnds", fn := fun _ => fun
  | [d1, d2, d3, d4] => { results := [.lit (.bool true)], args := [d1, d2, d3, d4] }
  | _ => none }
def regionEndsRow : OpenClaim := { program := "ytmjeloinibembaa", sum := "af8455161941c3ea122b7f9b58d6bdeb42510f54a4ff1c3f5cb318a0950345f5", func := "barbican/barbicanlaw8.RegionEnds", spec := "regionEnds", unfollowed := true, recurses := true, apart := false }
def RegionEndsSaid : Prop := regionEndsRow.holds Try.pinned (OpenSpec.ofChange regionEndsSpec)

/-- ITS FALSE NEIGHBOUR: 'it returns false'. Refute it at one input. -/
def regionEndsWrong : ChangeSpec := { name := "regionEnds", fn := fun _ => fun
  | [d1, d2, d3, d4] => { results := [.lit (.bool false)], args := [d1, d2, d3, d4] }
  | _ => none }
def RegionEndsWrongFalsely : Prop := regionEndsRow.holds Try.pinned (OpenSpec.ofChange regionEndsWrong)

/-- 'barbicanlaw8.RegionTags': WHATEVER THE INPUT: true; the input reads as it did. -/
def regionTagsSpec : ChangeSpec := { name := "regionTags", fn := fun _ => fun
  | [d1, d2, d3, d4] => { results := [.lit (.bool true)], args := [d1, d2, d3, d4] }
  | _ => none }
def regionTagsRow : OpenClaim := { program := "ytmjeloinibembaa", sum := "af8455161941c3ea122b7f9b58d6bdeb42510f54a4ff1c3f5cb318a0950345f5", func := "barbican/barbicanlaw8.RegionTags", spec := "regionTags", unfollowed := true, recurses := true, apart := false }
def RegionTagsSaid : Prop := regionTagsRow.holds Try.pinned (OpenSpec.ofChange regionTagsSpec)

/-- ITS FALSE NEIGHBOUR: 'it returns false'. Refute it at one input. -/
def regionTagsWrong : ChangeSpec := { name := "regionTags", fn := fun _ => fun
  | [d1, d2, d3, d4] => { results := [.lit (.bool false)], args := [d1, d2, d3, d4] }
  | _ => none }
def RegionTagsWrongFalsely : Prop := regionTagsRow.holds Try.pinned (OpenSpec.ofChange regionTagsWrong)

/- THE SECOND FORM. 'bulk': how many values and letters a reading holds, each counted each time it is reached (what is shared counts as often as it is met; a slice's spare places count too). A statement '..UptoSaid' is the law's where the arguments, and the package variables that the reading takes, are together of bulk at most 1048576: NARROWER than '..Said'. Prove '..Said' where nothing that the law and all that it calls make is longer than what came in: it says more and counts as full. Else prove '..UptoSaid'. A law counts once. -/
mutual
def uptoBulk {H : Type} : DataW H → Nat
  | .lit (.string bytes) => bytes.length + 1
  | .lit _ => 1
  | .nil => 1
  | .ptr d => uptoBulk d + 1
  | .slice elems spare => uptoBulkAll elems + uptoBulkAll spare + 1
  | .agg parts => uptoBulkAll parts + 1
  | .iface _ d => uptoBulk d + 1
  | .map entries => uptoBulkEntries entries + 1
  | .held _ => 1
def uptoBulkAll {H : Type} : List (DataW H) → Nat
  | [] => 0
  | d :: r => uptoBulk d + uptoBulkAll r
def uptoBulkEntries {H : Type} : List (Lit × DataW H) → Nat
  | [] => 0
  | x :: r => uptoBulkEntry x + uptoBulkEntries r
def uptoBulkEntry {H : Type} : Lit × DataW H → Nat
  | (.string bytes, d) => bytes.length + uptoBulk d + 1
  | (_, d) => uptoBulk d + 1
 end
def uptoSmall : (H : Type) → List (DataW H) → Bool := fun _ ds => decide (uptoBulkAll ds ≤ 1048576)
def OpenSpec.upto (s : _root_.Go.ChangeSpec) : _root_.Go.OpenSpec := { _root_.Go.OpenSpec.ofChange s with cond := some uptoSmall }

/-- 'barbicanlaw10.RingFills', WHERE WHAT IT READS IS OF BULK AT MOST 1048576: true; the input reads as it did. -/
def ringFillsUptoRow : OpenClaim := { program := "ytmjeloinibembaa", sum := "af8455161941c3ea122b7f9b58d6bdeb42510f54a4ff1c3f5cb318a0950345f5", func := "barbican/barbicanlaw10.RingFills", spec := "ringFills", unfollowed := true, recurses := true, apart := false, narrowed := true }
def RingFillsUptoSaid : Prop := ringFillsUptoRow.holds Try.pinned (OpenSpec.upto ringFillsSpec)

/-- 'barbicanlaw10.RingStream', WHERE WHAT IT READS IS OF BULK AT MOST 1048576: true; the input reads as it did. -/
def ringStreamUptoRow : OpenClaim := { program := "ytmjeloinibembaa", sum := "af8455161941c3ea122b7f9b58d6bdeb42510f54a4ff1c3f5cb318a0950345f5", func := "barbican/barbicanlaw10.RingStream", spec := "ringStream", unfollowed := true, recurses := true, apart := false, narrowed := true }
def RingStreamUptoSaid : Prop := ringStreamUptoRow.holds Try.pinned (OpenSpec.upto ringStreamSpec)

/-- 'barbicanlaw10.RingOrder', WHERE WHAT IT READS IS OF BULK AT MOST 1048576: true; the input reads as it did. -/
def ringOrderUptoRow : OpenClaim := { program := "ytmjeloinibembaa", sum := "af8455161941c3ea122b7f9b58d6bdeb42510f54a4ff1c3f5cb318a0950345f5", func := "barbican/barbicanlaw10.RingOrder", spec := "ringOrder", unfollowed := true, recurses := true, apart := false, narrowed := true }
def RingOrderUptoSaid : Prop := ringOrderUptoRow.holds Try.pinned (OpenSpec.upto ringOrderSpec)

/-- 'barbicanlaw10.RingPlays', WHERE WHAT IT READS IS OF BULK AT MOST 1048576: true; the input reads as it did. -/
def ringPlaysUptoRow : OpenClaim := { program := "ytmjeloinibembaa", sum := "af8455161941c3ea122b7f9b58d6bdeb42510f54a4ff1c3f5cb318a0950345f5", func := "barbican/barbicanlaw10.RingPlays", spec := "ringPlays", unfollowed := true, recurses := true, apart := false, narrowed := true }
def RingPlaysUptoSaid : Prop := ringPlaysUptoRow.holds Try.pinned (OpenSpec.upto ringPlaysSpec)

/-- 'barbicanlaw8.RegionKeeps', WHERE WHAT IT READS IS OF BULK AT MOST 1048576: true; the input reads as it did. -/
def regionKeepsUptoRow : OpenClaim := { program := "ytmjeloinibembaa", sum := "af8455161941c3ea122b7f9b58d6bdeb42510f54a4ff1c3f5cb318a0950345f5", func := "barbican/barbicanlaw8.RegionKeeps", spec := "regionKeeps", unfollowed := true, recurses := true, apart := false, narrowed := true }
def RegionKeepsUptoSaid : Prop := regionKeepsUptoRow.holds Try.pinned (OpenSpec.upto regionKeepsSpec)

/-- 'barbicanlaw8.RegionLittle', WHERE WHAT IT READS IS OF BULK AT MOST 1048576: true; the input reads as it did. -/
def regionLittleUptoRow : OpenClaim := { program := "ytmjeloinibembaa", sum := "af8455161941c3ea122b7f9b58d6bdeb42510f54a4ff1c3f5cb318a0950345f5", func := "barbican/barbicanlaw8.RegionLittle", spec := "regionLittle", unfollowed := true, recurses := true, apart := false, narrowed := true }
def RegionLittleUptoSaid : Prop := regionLittleUptoRow.holds Try.pinned (OpenSpec.upto regionLittleSpec)

/-- 'barbicanlaw8.RegionApart', WHERE WHAT IT READS IS OF BULK AT MOST 1048576: true; the input reads as it did. -/
def regionApartUptoRow : OpenClaim := { program := "ytmjeloinibembaa", sum := "af8455161941c3ea122b7f9b58d6bdeb42510f54a4ff1c3f5cb318a0950345f5", func := "barbican/barbicanlaw8.RegionApart", spec := "regionApart", unfollowed := true, recurses := true, apart := false, narrowed := true }
def RegionApartUptoSaid : Prop := regionApartUptoRow.holds Try.pinned (OpenSpec.upto regionApartSpec)

/-- 'barbicanlaw8.RegionEnds', WHERE WHAT IT READS IS OF BULK AT MOST 1048576: true; the input reads as it did. -/
def regionEndsUptoRow : OpenClaim := { program := "ytmjeloinibembaa", sum := "af8455161941c3ea122b7f9b58d6bdeb42510f54a4ff1c3f5cb318a0950345f5", func := "barbican/barbicanlaw8.RegionEnds", spec := "regionEnds", unfollowed := true, recurses := true, apart := false, narrowed := true }
def RegionEndsUptoSaid : Prop := regionEndsUptoRow.holds Try.pinned (OpenSpec.upto regionEndsSpec)

/-- 'barbicanlaw8.RegionTags', WHERE WHAT IT READS IS OF BULK AT MOST 1048576: true; the input reads as it did. -/
def regionTagsUptoRow : OpenClaim := { program := "ytmjeloinibembaa", sum := "af8455161941c3ea122b7f9b58d6bdeb42510f54a4ff1c3f5cb318a0950345f5", func := "barbican/barbicanlaw8.RegionTags", spec := "regionTags", unfollowed := true, recurses := true, apart := false, narrowed := true }
def RegionTagsUptoSaid : Prop := regionTagsUptoRow.holds Try.pinned (OpenSpec.upto regionTagsSpec)

end Rows
end Go.Proofs.Ytmjeloinibembaa
