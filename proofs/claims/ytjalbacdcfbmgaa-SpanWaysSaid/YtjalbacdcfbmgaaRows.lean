/-
  No cell of these rows narrows 'for every input' (looked for: loops, veiled, ifaces, maps, wideKeys, modest, calm, conditions, laid).
  DERIVED. THE GIVEN ROWS OF THIS SEAT. 3 by the template 'for every input the law returns true; each argument reads behind the call as it read before'; 0 by the template 'total and deterministic' (their statements: YtjalbacdcfbmgaaTotals.lean).
  GIVEN WITH THE SEED: the statements are not yours to turn. If you find one false, say at which input.
  Laid BY PROGRAM, IN A SANDBOX (cutbox-rows.mjs): the forced cells as the released guide's own fill.sh prints them over the translation 25688571624305c1… (all of the seat's roots in one cut). By AI agents, Wed Nov 11 2026. No macro, syntax, notation, axiom, sorry.
-/
import Derived.Test.YtjalbacdcfbmgaaChecked
import GoSem.Claim
import GoSem.ClaimJoined
import GoSem.ClaimMapViews
import Derived.JoinedTies
import Derived.KernelRfl
namespace Go.Proofs.Ytjalbacdcfbmgaa
/- THE CELL 'sum', in the pinned program and in every row, IS THE sha256 OF THE DUMP (.gsa) THAT YtjalbacdcfbmgaaProg.lean LOADS. Nothing in Lean hashes anything: it is a label: what it is worth is what the hold of that sum in a sandbox is worth. -/
noncomputable def Try.pinned : Pinned := { name := "ytjalbacdcfbmgaa", sum := "25688571624305c18f11e2f0fce757db0ad846bd6e70368cee6e0da129f0e087", checked := Try.checked }
namespace Rows
def none {H : Type} : Left H := { results := [], args := [] }

/-- 'croftlaw42.SpanRoads': WHATEVER THE INPUT: true; the input reads as it did. -/
def spanRoadsSpec : ChangeSpec := { name := "spanRoads", fn := fun _ => fun
  | [d] => { results := [.lit (.bool true)], args := [d] }
  | _ => none }
def spanRoadsRow : OpenClaim := { program := "ytjalbacdcfbmgaa", sum := "25688571624305c18f11e2f0fce757db0ad846bd6e70368cee6e0da129f0e087", func := "croft/croftlaw42.SpanRoads", spec := "spanRoads", inPlace := ["math/bits.Add64"], unfollowed := true, recurses := true, apart := false }
def SpanRoadsSaid : Prop := spanRoadsRow.holds Try.pinned (OpenSpec.ofChange spanRoadsSpec)

/-- ITS FALSE NEIGHBOUR: 'it returns false'. Refute it at one input. -/
def spanRoadsWrong : ChangeSpec := { name := "spanRoads", fn := fun _ => fun
  | [d] => { results := [.lit (.bool false)], args := [d] }
  | _ => none }
def SpanRoadsWrongFalsely : Prop := spanRoadsRow.holds Try.pinned (OpenSpec.ofChange spanRoadsWrong)

/-- 'croftlaw42.SpanLongest': WHATEVER THE INPUT: true; the input reads as it did. -/
def spanLongestSpec : ChangeSpec := { name := "spanLongest", fn := fun _ => fun
  | [d] => { results := [.lit (.bool true)], args := [d] }
  | _ => none }
def spanLongestRow : OpenClaim := { program := "ytjalbacdcfbmgaa", sum := "25688571624305c18f11e2f0fce757db0ad846bd6e70368cee6e0da129f0e087", func := "croft/croftlaw42.SpanLongest", spec := "spanLongest", inPlace := ["math/bits.Add64"], unfollowed := true, recurses := true, apart := false }
def SpanLongestSaid : Prop := spanLongestRow.holds Try.pinned (OpenSpec.ofChange spanLongestSpec)

/-- ITS FALSE NEIGHBOUR: 'it returns false'. Refute it at one input. -/
def spanLongestWrong : ChangeSpec := { name := "spanLongest", fn := fun _ => fun
  | [d] => { results := [.lit (.bool false)], args := [d] }
  | _ => none }
def SpanLongestWrongFalsely : Prop := spanLongestRow.holds Try.pinned (OpenSpec.ofChange spanLongestWrong)

/-- 'croftlaw42.SpanWays': WHATEVER THE INPUT: true; the input reads as it did. -/
def spanWaysSpec : ChangeSpec := { name := "spanWays", fn := fun _ => fun
  | [d1, d2, d3, d4] => { results := [.lit (.bool true)], args := [d1, d2, d3, d4] }
  | _ => none }
def spanWaysRow : OpenClaim := { program := "ytjalbacdcfbmgaa", sum := "25688571624305c18f11e2f0fce757db0ad846bd6e70368cee6e0da129f0e087", func := "croft/croftlaw42.SpanWays", spec := "spanWays", inPlace := ["math/bits.Add64"], unfollowed := true, recurses := true, apart := false }
def SpanWaysSaid : Prop := spanWaysRow.holds Try.pinned (OpenSpec.ofChange spanWaysSpec)

/-- ITS FALSE NEIGHBOUR: 'it returns false'. Refute it at one input. -/
def spanWaysWrong : ChangeSpec := { name := "spanWays", fn := fun _ => fun
  | [d1, d2, d3, d4] => { results := [.lit (.bool false)], args := [d1, d2, d3, d4] }
  | _ => none }
def SpanWaysWrongFalsely : Prop := spanWaysRow.holds Try.pinned (OpenSpec.ofChange spanWaysWrong)

/- THE SECOND FORM. 'bulk': how many values and letters a reading holds, each counted each time it is reached (what is shared counts as often as it is met; a slice's spare places count too). A statement '..UptoSaid' is the law's where the arguments, and the package variables that the reading takes, are together of bulk at most 1048576: NARROWER than '..Said'. Prove '..Said' where nothing that the law and all that it calls make is longer than what came in: it says more and counts as full. Else prove '..UptoSaid'. A law counts once. -/
mutual
def uptoBulk {H : Type} : DataW H → Nat
  | .lit (.string bytes) => bytes.length + 1
  | .lit _ => 1
  | .nil => 1
  | .ptr d => uptoBulk d + 1
  | .slice elems spare => uptoBulkAll elems + uptoBulkAll spare + 1
  | .agg parts => uptoBulkAll parts + 1
  | .iface _ d => uptoBulk d + 1
  | .map entries => uptoBulkEntries entries + 1
  | .held _ => 1
def uptoBulkAll {H : Type} : List (DataW H) → Nat
  | [] => 0
  | d :: r => uptoBulk d + uptoBulkAll r
def uptoBulkEntries {H : Type} : List (Lit × DataW H) → Nat
  | [] => 0
  | x :: r => uptoBulkEntry x + uptoBulkEntries r
def uptoBulkEntry {H : Type} : Lit × DataW H → Nat
  | (.string bytes, d) => bytes.length + uptoBulk d + 1
  | (_, d) => uptoBulk d + 1
 end
def uptoSmall : (H : Type) → List (DataW H) → Bool := fun _ ds => decide (uptoBulkAll ds ≤ 1048576)
def OpenSpec.upto (s : _root_.Go.ChangeSpec) : _root_.Go.OpenSpec := { _root_.Go.OpenSpec.ofChange s with cond := some uptoSmall }

/-- 'croftlaw42.SpanRoads', WHERE WHAT IT READS IS OF BULK AT MOST 1048576: true; the input reads as it did. -/
def spanRoadsUptoRow : OpenClaim := { program := "ytjalbacdcfbmgaa", sum := "25688571624305c18f11e2f0fce757db0ad846bd6e70368cee6e0da129f0e087", func := "croft/croftlaw42.SpanRoads", spec := "spanRoads", inPlace := ["math/bits.Add64"], unfollowed := true, recurses := true, apart := false, narrowed := true }
def SpanRoadsUptoSaid : Prop := spanRoadsUptoRow.holds Try.pinned (OpenSpec.upto spanRoadsSpec)

/-- 'croftlaw42.SpanLongest', WHERE WHAT IT READS IS OF BULK AT MOST 1048576: true; the input reads as it did. -/
def spanLongestUptoRow : OpenClaim := { program := "ytjalbacdcfbmgaa", sum := "25688571624305c18f11e2f0fce757db0ad846bd6e70368cee6e0da129f0e087", func := "croft/croftlaw42.SpanLongest", spec := "spanLongest", inPlace := ["math/bits.Add64"], unfollowed := true, recurses := true, apart := false, narrowed := true }
def SpanLongestUptoSaid : Prop := spanLongestUptoRow.holds Try.pinned (OpenSpec.upto spanLongestSpec)

/-- 'croftlaw42.SpanWays', WHERE WHAT IT READS IS OF BULK AT MOST 1048576: true; the input reads as it did. -/
def spanWaysUptoRow : OpenClaim := { program := "ytjalbacdcfbmgaa", sum := "25688571624305c18f11e2f0fce757db0ad846bd6e70368cee6e0da129f0e087", func := "croft/croftlaw42.SpanWays", spec := "spanWays", inPlace := ["math/bits.Add64"], unfollowed := true, recurses := true, apart := false, narrowed := true }
def SpanWaysUptoSaid : Prop := spanWaysUptoRow.holds Try.pinned (OpenSpec.upto spanWaysSpec)

end Rows
end Go.Proofs.Ytjalbacdcfbmgaa
