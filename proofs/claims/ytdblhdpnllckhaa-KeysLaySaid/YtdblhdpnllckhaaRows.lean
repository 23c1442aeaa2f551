/-
  No cell of these rows narrows 'for every input' (looked for: loops, veiled, ifaces, maps, wideKeys, modest, calm, conditions, laid).
  DERIVED. THE GIVEN ROWS OF THIS SEAT. 9 by the template 'for every input the law returns true; each argument reads behind the call as it read before'; 0 by the template 'total and deterministic' (their statements: YtdblhdpnllckhaaTotals.lean).
  GIVEN WITH THE SEED: the statements are not yours to turn. If you find one false, say at which input.
  Laid BY PROGRAM, IN A SANDBOX (cutbox-rows.mjs): the forced cells as the released guide's own fill.sh prints them over the translation 3dbca197023d05bf… (all of the seat's roots in one cut). By AI agents, Wed Nov 11 2026. No macro, syntax, notation, axiom, sorry.
-/
import Derived.Test.YtdblhdpnllckhaaChecked
import GoSem.Claim
import GoSem.ClaimJoined
import GoSem.ClaimMapViews
import Derived.JoinedTies
import Derived.KernelRfl
namespace Go.Proofs.Ytdblhdpnllckhaa
/- THE CELL 'sum', in the pinned program and in every row, IS THE sha256 OF THE DUMP (.gsa) THAT YtdblhdpnllckhaaProg.lean LOADS. Nothing in Lean hashes anything: it is a label: what it is worth is what the hold of that sum in a sandbox is worth. -/
noncomputable def Try.pinned : Pinned := { name := "ytdblhdpnllckhaa", sum := "3dbca197023d05bf3c2847e0dcaca45ecc48f4fec63c5f679107ac21bc2d4c1f", checked := Try.checked }
namespace Rows
def none {H : Type} : Left H := { results := [], args := [] }

/-- 'pleachlaw27.FactsOf': WHATEVER THE INPUT: true; the input reads as it did. -/
def factsOfSpec : ChangeSpec := { name := "factsOf", fn := fun _ => fun
  | [d] => { results := [.lit (.bool true)], args := [d] }
  | _ => none }
def factsOfRow : OpenClaim := { program := "ytdblhdpnllckhaa", sum := "3dbca197023d05bf3c2847e0dcaca45ecc48f4fec63c5f679107ac21bc2d4c1f", func := "pleach/pleachlaw27.FactsOf", spec := "factsOf", inPlace := ["internal/bytealg.abigen_runtime_cmpstring"], unfollowed := true, recurses := true, apart := false }
def FactsOfSaid : Prop := factsOfRow.holds Try.pinned (OpenSpec.ofChange factsOfSpec)

/-- ITS FALSE NEIGHBOUR: 'it returns false'. Refute it at one input. -/
def factsOfWrong : ChangeSpec := { name := "factsOf", fn := fun _ => fun
  | [d] => { results := [.lit (.bool false)], args := [d] }
  | _ => none }
def FactsOfWrongFalsely : Prop := factsOfRow.holds Try.pinned (OpenSpec.ofChange factsOfWrong)

/-- 'pleachlaw27.FactsDiff': WHATEVER THE INPUT: true; the input reads as it did. -/
def factsDiffSpec : ChangeSpec := { name := "factsDiff", fn := fun _ => fun
  | [d1, d2, d3] => { results := [.lit (.bool true)], args := [d1, d2, d3] }
  | _ => none }
def factsDiffRow : OpenClaim := { program := "ytdblhdpnllckhaa", sum := "3dbca197023d05bf3c2847e0dcaca45ecc48f4fec63c5f679107ac21bc2d4c1f", func := "pleach/pleachlaw27.FactsDiff", spec := "factsDiff", inPlace := ["internal/bytealg.abigen_runtime_cmpstring"], unfollowed := true, recurses := true, apart := false }
def FactsDiffSaid : Prop := factsDiffRow.holds Try.pinned (OpenSpec.ofChange factsDiffSpec)

/-- ITS FALSE NEIGHBOUR: 'it returns false'. Refute it at one input. -/
def factsDiffWrong : ChangeSpec := { name := "factsDiff", fn := fun _ => fun
  | [d1, d2, d3] => { results := [.lit (.bool false)], args := [d1, d2, d3] }
  | _ => none }
def FactsDiffWrongFalsely : Prop := factsDiffRow.holds Try.pinned (OpenSpec.ofChange factsDiffWrong)

/-- 'pleachlaw27.FactsOrder': WHATEVER THE INPUT: true; the input reads as it did. -/
def factsOrderSpec : ChangeSpec := { name := "factsOrder", fn := fun _ => fun
  | [d1, d2, d3] => { results := [.lit (.bool true)], args := [d1, d2, d3] }
  | _ => none }
def factsOrderRow : OpenClaim := { program := "ytdblhdpnllckhaa", sum := "3dbca197023d05bf3c2847e0dcaca45ecc48f4fec63c5f679107ac21bc2d4c1f", func := "pleach/pleachlaw27.FactsOrder", spec := "factsOrder", inPlace := ["internal/bytealg.abigen_runtime_cmpstring", "internal/bytealg.IndexByteString", "internal/bytealg.IndexString"], unfollowed := true, recurses := true, named := ["internal/bytealg.MaxLen"], apart := false }
def FactsOrderSaid : Prop := factsOrderRow.holds Try.pinned (OpenSpec.ofChange factsOrderSpec)

/-- ITS FALSE NEIGHBOUR: 'it returns false'. Refute it at one input. -/
def factsOrderWrong : ChangeSpec := { name := "factsOrder", fn := fun _ => fun
  | [d1, d2, d3] => { results := [.lit (.bool false)], args := [d1, d2, d3] }
  | _ => none }
def FactsOrderWrongFalsely : Prop := factsOrderRow.holds Try.pinned (OpenSpec.ofChange factsOrderWrong)

/-- 'pleachlaw26.GraphOps': WHATEVER THE INPUT: true; the input reads as it did. -/
def graphOpsSpec : ChangeSpec := { name := "graphOps", fn := fun _ => fun
  | [d1, d2] => { results := [.lit (.bool true)], args := [d1, d2] }
  | _ => none }
def graphOpsRow : OpenClaim := { program := "ytdblhdpnllckhaa", sum := "3dbca197023d05bf3c2847e0dcaca45ecc48f4fec63c5f679107ac21bc2d4c1f", func := "pleach/pleachlaw26.GraphOps", spec := "graphOps", inPlace := ["slices.overlaps[pleach/api.Prop]", "slices.overlaps[string]", "slices.overlaps[pleach/api.Node]", "slices.overlaps[pleach/api.Edge]"], unfollowed := true, recurses := true, apart := false }
def GraphOpsSaid : Prop := graphOpsRow.holds Try.pinned (OpenSpec.ofChange graphOpsSpec)

/-- ITS FALSE NEIGHBOUR: 'it returns false'. Refute it at one input. -/
def graphOpsWrong : ChangeSpec := { name := "graphOps", fn := fun _ => fun
  | [d1, d2] => { results := [.lit (.bool false)], args := [d1, d2] }
  | _ => none }
def GraphOpsWrongFalsely : Prop := graphOpsRow.holds Try.pinned (OpenSpec.ofChange graphOpsWrong)

/-- 'pleachlaw26.GraphStays': WHATEVER THE INPUT: true; the input reads as it did. -/
def graphStaysSpec : ChangeSpec := { name := "graphStays", fn := fun _ => fun
  | [d1, d2, d3] => { results := [.lit (.bool true)], args := [d1, d2, d3] }
  | _ => none }
def graphStaysRow : OpenClaim := { program := "ytdblhdpnllckhaa", sum := "3dbca197023d05bf3c2847e0dcaca45ecc48f4fec63c5f679107ac21bc2d4c1f", func := "pleach/pleachlaw26.GraphStays", spec := "graphStays", inPlace := ["slices.overlaps[pleach/api.Prop]", "slices.overlaps[string]", "slices.overlaps[pleach/api.Node]", "slices.overlaps[pleach/api.Edge]"], unfollowed := true, recurses := true, apart := false }
def GraphStaysSaid : Prop := graphStaysRow.holds Try.pinned (OpenSpec.ofChange graphStaysSpec)

/-- ITS FALSE NEIGHBOUR: 'it returns false'. Refute it at one input. -/
def graphStaysWrong : ChangeSpec := { name := "graphStays", fn := fun _ => fun
  | [d1, d2, d3] => { results := [.lit (.bool false)], args := [d1, d2, d3] }
  | _ => none }
def GraphStaysWrongFalsely : Prop := graphStaysRow.holds Try.pinned (OpenSpec.ofChange graphStaysWrong)

/-- 'pleachlaw31.KeysLay': WHATEVER THE INPUT: true; the input reads as it did. -/
def keysLaySpec : ChangeSpec := { name := "keysLay", fn := fun _ => fun
  | [d] => { results := [.lit (.bool true)], args := [d] }
  | _ => none }
def keysLayRow : OpenClaim := { program := "ytdblhdpnllckhaa", sum := "3dbca197023d05bf3c2847e0dcaca45ecc48f4fec63c5f679107ac21bc2d4c1f", func := "pleach/pleachlaw31.KeysLay", spec := "keysLay", unfollowed := true, recurses := true, apart := false }
def KeysLaySaid : Prop := keysLayRow.holds Try.pinned (OpenSpec.ofChange keysLaySpec)

/-- ITS FALSE NEIGHBOUR: 'it returns false'. Refute it at one input. -/
def keysLayWrong : ChangeSpec := { name := "keysLay", fn := fun _ => fun
  | [d] => { results := [.lit (.bool false)], args := [d] }
  | _ => none }
def KeysLayWrongFalsely : Prop := keysLayRow.holds Try.pinned (OpenSpec.ofChange keysLayWrong)

/-- 'pleachlaw26.GraphChecks': WHATEVER THE INPUT: true; the input reads as it did. -/
def graphChecksSpec : ChangeSpec := { name := "graphChecks", fn := fun _ => fun
  | [d1, d2] => { results := [.lit (.bool true)], args := [d1, d2] }
  | _ => none }
def graphChecksRow : OpenClaim := { program := "ytdblhdpnllckhaa", sum := "3dbca197023d05bf3c2847e0dcaca45ecc48f4fec63c5f679107ac21bc2d4c1f", func := "pleach/pleachlaw26.GraphChecks", spec := "graphChecks", inPlace := ["slices.overlaps[pleach/api.Prop]", "slices.overlaps[string]", "slices.overlaps[pleach/api.Node]", "slices.overlaps[pleach/api.Edge]"], unfollowed := true, recurses := true, apart := false }
def GraphChecksSaid : Prop := graphChecksRow.holds Try.pinned (OpenSpec.ofChange graphChecksSpec)

/-- ITS FALSE NEIGHBOUR: 'it returns false'. Refute it at one input. -/
def graphChecksWrong : ChangeSpec := { name := "graphChecks", fn := fun _ => fun
  | [d1, d2] => { results := [.lit (.bool false)], args := [d1, d2] }
  | _ => none }
def GraphChecksWrongFalsely : Prop := graphChecksRow.holds Try.pinned (OpenSpec.ofChange graphChecksWrong)

/-- 'pleachlaw27.FactsBack': WHATEVER THE INPUT: true; the input reads as it did. -/
def factsBackSpec : ChangeSpec := { name := "factsBack", fn := fun _ => fun
  | [d1, d2] => { results := [.lit (.bool true)], args := [d1, d2] }
  | _ => none }
def factsBackRow : OpenClaim := { program := "ytdblhdpnllckhaa", sum := "3dbca197023d05bf3c2847e0dcaca45ecc48f4fec63c5f679107ac21bc2d4c1f", func := "pleach/pleachlaw27.FactsBack", spec := "factsBack", inPlace := ["internal/bytealg.abigen_runtime_cmpstring", "internal/bytealg.IndexByteString", "internal/bytealg.IndexString"], unfollowed := true, recurses := true, named := ["internal/bytealg.MaxLen"], apart := false }
def FactsBackSaid : Prop := factsBackRow.holds Try.pinned (OpenSpec.ofChange factsBackSpec)

/-- ITS FALSE NEIGHBOUR: 'it returns false'. Refute it at one input. -/
def factsBackWrong : ChangeSpec := { name := "factsBack", fn := fun _ => fun
  | [d1, d2] => { results := [.lit (.bool false)], args := [d1, d2] }
  | _ => none }
def FactsBackWrongFalsely : Prop := factsBackRow.holds Try.pinned (OpenSpec.ofChange factsBackWrong)

/-- 'pleachlaw31.KeysBack': WHATEVER THE INPUT: true; the input reads as it did. -/
def keysBackSpec : ChangeSpec := { name := "keysBack", fn := fun _ => fun
  | [d] => { results := [.lit (.bool true)], args := [d] }
  | _ => none }
def keysBackRow : OpenClaim := { program := "ytdblhdpnllckhaa", sum := "3dbca197023d05bf3c2847e0dcaca45ecc48f4fec63c5f679107ac21bc2d4c1f", func := "pleach/pleachlaw31.KeysBack", spec := "keysBack", unfollowed := true, recurses := true, apart := false }
def KeysBackSaid : Prop := keysBackRow.holds Try.pinned (OpenSpec.ofChange keysBackSpec)

/-- ITS FALSE NEIGHBOUR: 'it returns false'. Refute it at one input. -/
def keysBackWrong : ChangeSpec := { name := "keysBack", fn := fun _ => fun
  | [d] => { results := [.lit (.bool false)], args := [d] }
  | _ => none }
def KeysBackWrongFalsely : Prop := keysBackRow.holds Try.pinned (OpenSpec.ofChange keysBackWrong)

/- THE SECOND FORM. 'bulk': how many values and letters a reading holds, each counted each time it is reached (what is shared counts as often as it is met; a slice's spare places count too). A statement '..UptoSaid' is the law's where the arguments, and the package variables that the reading takes, are together of bulk at most 1048576: NARROWER than '..Said'. Prove '..Said' where nothing that the law and all that it calls make is longer than what came in: it says more and counts as full. Else prove '..UptoSaid'. A law counts once. -/
mutual
def uptoBulk {H : Type} : DataW H → Nat
  | .lit (.string bytes) => bytes.length + 1
  | .lit _ => 1
  | .nil => 1
  | .ptr d => uptoBulk d + 1
  | .slice elems spare => uptoBulkAll elems + uptoBulkAll spare + 1
  | .agg parts => uptoBulkAll parts + 1
  | .iface _ d => uptoBulk d + 1
  | .map entries => uptoBulkEntries entries + 1
  | .held _ => 1
def uptoBulkAll {H : Type} : List (DataW H) → Nat
  | [] => 0
  | d :: r => uptoBulk d + uptoBulkAll r
def uptoBulkEntries {H : Type} : List (Lit × DataW H) → Nat
  | [] => 0
  | x :: r => uptoBulkEntry x + uptoBulkEntries r
def uptoBulkEntry {H : Type} : Lit × DataW H → Nat
  | (.string bytes, d) => bytes.length + uptoBulk d + 1
  | (_, d) => uptoBulk d + 1
 end
def uptoSmall : (H : Type) → List (DataW H) → Bool := fun _ ds => decide (uptoBulkAll ds ≤ 1048576)
def OpenSpec.upto (s : _root_.Go.ChangeSpec) : _root_.Go.OpenSpec := { _root_.Go.OpenSpec.ofChange s with cond := some uptoSmall }

/-- 'pleachlaw27.FactsOf', WHERE WHAT IT READS IS OF BULK AT MOST 1048576: true; the input reads as it did. -/
def factsOfUptoRow : OpenClaim := { program := "ytdblhdpnllckhaa", sum := "3dbca197023d05bf3c2847e0dcaca45ecc48f4fec63c5f679107ac21bc2d4c1f", func := "pleach/pleachlaw27.FactsOf", spec := "factsOf", inPlace := ["internal/bytealg.abigen_runtime_cmpstring"], unfollowed := true, recurses := true, apart := false, narrowed := true }
def FactsOfUptoSaid : Prop := factsOfUptoRow.holds Try.pinned (OpenSpec.upto factsOfSpec)

/-- 'pleachlaw27.FactsDiff', WHERE WHAT IT READS IS OF BULK AT MOST 1048576: true; the input reads as it did. -/
def factsDiffUptoRow : OpenClaim := { program := "ytdblhdpnllckhaa", sum := "3dbca197023d05bf3c2847e0dcaca45ecc48f4fec63c5f679107ac21bc2d4c1f", func := "pleach/pleachlaw27.FactsDiff", spec := "factsDiff", inPlace := ["internal/bytealg.abigen_runtime_cmpstring"], unfollowed := true, recurses := true, apart := false, narrowed := true }
def FactsDiffUptoSaid : Prop := factsDiffUptoRow.holds Try.pinned (OpenSpec.upto factsDiffSpec)

/-- 'pleachlaw27.FactsOrder', WHERE WHAT IT READS IS OF BULK AT MOST 1048576: true; the input reads as it did. -/
def factsOrderUptoRow : OpenClaim := { program := "ytdblhdpnllckhaa", sum := "3dbca197023d05bf3c2847e0dcaca45ecc48f4fec63c5f679107ac21bc2d4c1f", func := "pleach/pleachlaw27.FactsOrder", spec := "factsOrder", inPlace := ["internal/bytealg.abigen_runtime_cmpstring", "internal/bytealg.IndexByteString", "internal/bytealg.IndexString"], unfollowed := true, recurses := true, named := ["internal/bytealg.MaxLen"], apart := false, narrowed := true }
def FactsOrderUptoSaid : Prop := factsOrderUptoRow.holds Try.pinned (OpenSpec.upto factsOrderSpec)

/-- 'pleachlaw26.GraphOps', WHERE WHAT IT READS IS OF BULK AT MOST 1048576: true; the input reads as it did. -/
def graphOpsUptoRow : OpenClaim := { program := "ytdblhdpnllckhaa", sum := "3dbca197023d05bf3c2847e0dcaca45ecc48f4fec63c5f679107ac21bc2d4c1f", func := "pleach/pleachlaw26.GraphOps", spec := "graphOps", inPlace := ["slices.overlaps[pleach/api.Prop]", "slices.overlaps[string]", "slices.overlaps[pleach/api.Node]", "slices.overlaps[pleach/api.Edge]"], unfollowed := true, recurses := true, apart := false, narrowed := true }
def GraphOpsUptoSaid : Prop := graphOpsUptoRow.holds Try.pinned (OpenSpec.upto graphOpsSpec)

/-- 'pleachlaw26.GraphStays', WHERE WHAT IT READS IS OF BULK AT MOST 1048576: true; the input reads as it did. -/
def graphStaysUptoRow : OpenClaim := { program := "ytdblhdpnllckhaa", sum := "3dbca197023d05bf3c2847e0dcaca45ecc48f4fec63c5f679107ac21bc2d4c1f", func := "pleach/pleachlaw26.GraphStays", spec := "graphStays", inPlace := ["slices.overlaps[pleach/api.Prop]", "slices.overlaps[string]", "slices.overlaps[pleach/api.Node]", "slices.overlaps[pleach/api.Edge]"], unfollowed := true, recurses := true, apart := false, narrowed := true }
def GraphStaysUptoSaid : Prop := graphStaysUptoRow.holds Try.pinned (OpenSpec.upto graphStaysSpec)

/-- 'pleachlaw31.KeysLay', WHERE WHAT IT READS IS OF BULK AT MOST 1048576: true; the input reads as it did. -/
def keysLayUptoRow : OpenClaim := { program := "ytdblhdpnllckhaa", sum := "3dbca197023d05bf3c2847e0dcaca45ecc48f4fec63c5f679107ac21bc2d4c1f", func := "pleach/pleachlaw31.KeysLay", spec := "keysLay", unfollowed := true, recurses := true, apart := false, narrowed := true }
def KeysLayUptoSaid : Prop := keysLayUptoRow.holds Try.pinned (OpenSpec.upto keysLaySpec)

/-- 'pleachlaw26.GraphChecks', WHERE WHAT IT READS IS OF BULK AT MOST 1048576: true; the input reads as it did. -/
def graphChecksUptoRow : OpenClaim := { program := "ytdblhdpnllckhaa", sum := "3dbca197023d05bf3c2847e0dcaca45ecc48f4fec63c5f679107ac21bc2d4c1f", func := "pleach/pleachlaw26.GraphChecks", spec := "graphChecks", inPlace := ["slices.overlaps[pleach/api.Prop]", "slices.overlaps[string]", "slices.overlaps[pleach/api.Node]", "slices.overlaps[pleach/api.Edge]"], unfollowed := true, recurses := true, apart := false, narrowed := true }
def GraphChecksUptoSaid : Prop := graphChecksUptoRow.holds Try.pinned (OpenSpec.upto graphChecksSpec)

/-- 'pleachlaw27.FactsBack', WHERE WHAT IT READS IS OF BULK AT MOST 1048576: true; the input reads as it did. -/
def factsBackUptoRow : OpenClaim := { program := "ytdblhdpnllckhaa", sum := "3dbca197023d05bf3c2847e0dcaca45ecc48f4fec63c5f679107ac21bc2d4c1f", func := "pleach/pleachlaw27.FactsBack", spec := "factsBack", inPlace := ["internal/bytealg.abigen_runtime_cmpstring", "internal/bytealg.IndexByteString", "internal/bytealg.IndexString"], unfollowed := true, recurses := true, named := ["internal/bytealg.MaxLen"], apart := false, narrowed := true }
def FactsBackUptoSaid : Prop := factsBackUptoRow.holds Try.pinned (OpenSpec.upto factsBackSpec)

/-- 'pleachlaw31.KeysBack', WHERE WHAT IT READS IS OF BULK AT MOST 1048576: true; the input reads as it did. -/
def keysBackUptoRow : OpenClaim := { program := "ytdblhdpnllckhaa", sum := "3dbca197023d05bf3c2847e0dcaca45ecc48f4fec63c5f679107ac21bc2d4c1f", func := "pleach/pleachlaw31.KeysBack", spec := "keysBack", unfollowed := true, recurses := true, apart := false, narrowed := true }
def KeysBackUptoSaid : Prop := keysBackUptoRow.holds Try.pinned (OpenSpec.upto keysBackSpec)

end Rows
end Go.Proofs.Ytdblhdpnllckhaa
