/-
  No cell of these rows narrows 'for every input' (looked for: loops, veiled, ifaces, maps, wideKeys, modest, calm, conditions, laid).
  DERIVED. THE GIVEN ROWS OF THIS SEAT. 3 by the template 'for every input the law returns true; each argument reads behind the call as it read before'; 0 by the template 'total and deterministic' (their statements: YtdblhdpnllckhaaGreatTotals.lean).
  GIVEN WITH THE SEED: the statements are not yours to turn. If you find one false, say at which input.
  Laid BY PROGRAM, IN A SANDBOX (cutbox-rows.mjs): the forced cells as the released guide's own fill.sh prints them over the translation 27c3bb8661b97e72… (all of the seat's roots in one cut). By AI agents, Wed Nov 11 2026. No macro, syntax, notation, axiom, sorry.
-/
import Derived.Test.YtdblhdpnllckhaaGreatChecked
import GoSem.Claim
import GoSem.ClaimJoined
import GoSem.ClaimMapViews
import Derived.JoinedTies
import Derived.KernelRfl
namespace Go.Proofs.YtdblhdpnllckhaaGreat
/- THE CELL 'sum', in the pinned program and in every row, IS THE sha256 OF THE DUMP (.gsa) THAT YtdblhdpnllckhaaGreatProg.lean LOADS. Nothing in Lean hashes anything: it is a label: what it is worth is what the hold of that sum in a sandbox is worth. -/
noncomputable def Tryz.pinned : Pinned := { name := "ytdblhdpnllckhaagreat", sum := "27c3bb8661b97e72ab5922d13b4d76d7904381f2a9d9455a73702908f7d3d225", checked := Tryz.checked }
namespace Rows
def none {H : Type} : Left H := { results := [], args := [] }

/-- 'pleachlaw26.GraphApplies': WHATEVER THE INPUT: true; the input reads as it did. -/
def graphAppliesSpec : ChangeSpec := { name := "graphApplies", fn := fun _ => fun
  | [d1, d2] => { results := [.lit (.bool true)], args := [d1, d2] }
  | _ => none }
def graphAppliesRow : OpenClaim := { program := "ytdblhdpnllckhaagreat", sum := "27c3bb8661b97e72ab5922d13b4d76d7904381f2a9d9455a73702908f7d3d225", func := "pleach/pleachlaw26.GraphApplies", spec := "graphApplies", inPlace := ["slices.overlaps[pleach/api.Prop]", "slices.overlaps[string]", "slices.overlaps[pleach/api.Node]", "slices.overlaps[pleach/api.Edge]"], unfollowed := true, recurses := true, apart := false }
def GraphAppliesSaid : Prop := graphAppliesRow.holds Tryz.pinned (OpenSpec.ofChange graphAppliesSpec)

/-- ITS FALSE NEIGHBOUR: 'it returns false'. Refute it at one input. -/
def graphAppliesWrong : ChangeSpec := { name := "graphApplies", fn := fun _ => fun
  | [d1, d2] => { results := [.lit (.bool false)], args := [d1, d2] }
  | _ => none }
def GraphAppliesWrongFalsely : Prop := graphAppliesRow.holds Tryz.pinned (OpenSpec.ofChange graphAppliesWrong)

/-- 'pleachlaw26.GraphFinds': WHATEVER THE INPUT: true; the input reads as it did. -/
def graphFindsSpec : ChangeSpec := { name := "graphFinds", fn := fun _ => fun
  | [d1, d2, d3] => { results := [.lit (.bool true)], args := [d1, d2, d3] }
  | _ => none }
def graphFindsRow : OpenClaim := { program := "ytdblhdpnllckhaagreat", sum := "27c3bb8661b97e72ab5922d13b4d76d7904381f2a9d9455a73702908f7d3d225", func := "pleach/pleachlaw26.GraphFinds", spec := "graphFinds", inPlace := ["slices.overlaps[pleach/api.Prop]", "slices.overlaps[string]", "slices.overlaps[pleach/api.Node]", "slices.overlaps[pleach/api.Edge]"], unfollowed := true, recurses := true, apart := false }
def GraphFindsSaid : Prop := graphFindsRow.holds Tryz.pinned (OpenSpec.ofChange graphFindsSpec)

/-- ITS FALSE NEIGHBOUR: 'it returns false'. Refute it at one input. -/
def graphFindsWrong : ChangeSpec := { name := "graphFinds", fn := fun _ => fun
  | [d1, d2, d3] => { results := [.lit (.bool false)], args := [d1, d2, d3] }
  | _ => none }
def GraphFindsWrongFalsely : Prop := graphFindsRow.holds Tryz.pinned (OpenSpec.ofChange graphFindsWrong)

/-- 'pleachlaw27.FactsGraph': WHATEVER THE INPUT: true; the input reads as it did. -/
def factsGraphSpec : ChangeSpec := { name := "factsGraph", fn := fun _ => fun
  | [d] => { results := [.lit (.bool true)], args := [d] }
  | _ => none }
def factsGraphRow : OpenClaim := { program := "ytdblhdpnllckhaagreat", sum := "27c3bb8661b97e72ab5922d13b4d76d7904381f2a9d9455a73702908f7d3d225", func := "pleach/pleachlaw27.FactsGraph", spec := "factsGraph", inPlace := ["internal/bytealg.abigen_runtime_cmpstring", "internal/bytealg.IndexByteString", "internal/bytealg.IndexString"], unfollowed := true, recurses := true, named := ["internal/bytealg.MaxLen"], apart := false }
def FactsGraphSaid : Prop := factsGraphRow.holds Tryz.pinned (OpenSpec.ofChange factsGraphSpec)

/-- ITS FALSE NEIGHBOUR: 'it returns false'. Refute it at one input. -/
def factsGraphWrong : ChangeSpec := { name := "factsGraph", fn := fun _ => fun
  | [d] => { results := [.lit (.bool false)], args := [d] }
  | _ => none }
def FactsGraphWrongFalsely : Prop := factsGraphRow.holds Tryz.pinned (OpenSpec.ofChange factsGraphWrong)

/- THE SECOND FORM. 'bulk': how many values and letters a reading holds, each counted each time it is reached (what is shared counts as often as it is met; a slice's spare places count too). A statement '..UptoSaid' is the law's where the arguments, and the package variables that the reading takes, are together of bulk at most 1048576: NARROWER than '..Said'. Prove '..Said' where nothing that the law and all that it calls make is longer than what came in: it says more and counts as full. Else prove '..UptoSaid'. A law counts once. -/
mutual
def uptoBulk {H : Type} : DataW H → Nat
  | .lit (.string bytes) => bytes.length + 1
  | .lit _ => 1
  | .nil => 1
  | .ptr d => uptoBulk d + 1
  | .slice elems spare => uptoBulkAll elems + uptoBulkAll spare + 1
  | .agg parts => uptoBulkAll parts + 1
  | .iface _ d => uptoBulk d + 1
  | .map entries => uptoBulkEntries entries + 1
  | .held _ => 1
def uptoBulkAll {H : Type} : List (DataW H) → Nat
  | [] => 0
  | d :: r => uptoBulk d + uptoBulkAll r
def uptoBulkEntries {H : Type} : List (Lit × DataW H) → Nat
  | [] => 0
  | x :: r => uptoBulkEntry x + uptoBulkEntries r
def uptoBulkEntry {H : Type} : Lit × DataW H → Nat
  | (.string bytes, d) => bytes.length + uptoBulk d + 1
  | (_, d) => uptoBulk d + 1
 end
def uptoSmall : (H : Type) → List (DataW H) → Bool := fun _ ds => decide (uptoBulkAll ds ≤ 1048576)
def OpenSpec.upto (s : _root_.Go.ChangeSpec) : _root_.Go.OpenSpec := { _root_.Go.OpenSpec.ofChange s with cond := some uptoSmall }

/-- 'pleachlaw26.GraphApplies', WHERE WHAT IT READS IS OF BULK AT MOST 1048576: true; the input reads as it did. -/
def graphAppliesUptoRow : OpenClaim := { program := "ytdblhdpnllckhaagreat", sum := "27c3bb8661b97e72ab5922d13b4d76d7904381f2a9d9455a73702908f7d3d225", func := "pleach/pleachlaw26.GraphApplies", spec := "graphApplies", inPlace := ["slices.overlaps[pleach/api.Prop]", "slices.overlaps[string]", "slices.overlaps[pleach/api.Node]", "slices.overlaps[pleach/api.Edge]"], unfollowed := true, recurses := true, apart := false, narrowed := true }
def GraphAppliesUptoSaid : Prop := graphAppliesUptoRow.holds Tryz.pinned (OpenSpec.upto graphAppliesSpec)

/-- 'pleachlaw26.GraphFinds', WHERE WHAT IT READS IS OF BULK AT MOST 1048576: true; the input reads as it did. -/
def graphFindsUptoRow : OpenClaim := { program := "ytdblhdpnllckhaagreat", sum := "27c3bb8661b97e72ab5922d13b4d76d7904381f2a9d9455a73702908f7d3d225", func := "pleach/pleachlaw26.GraphFinds", spec := "graphFinds", inPlace := ["slices.overlaps[pleach/api.Prop]", "slices.overlaps[string]", "slices.overlaps[pleach/api.Node]", "slices.overlaps[pleach/api.Edge]"], unfollowed := true, recurses := true, apart := false, narrowed := true }
def GraphFindsUptoSaid : Prop := graphFindsUptoRow.holds Tryz.pinned (OpenSpec.upto graphFindsSpec)

/-- 'pleachlaw27.FactsGraph', WHERE WHAT IT READS IS OF BULK AT MOST 1048576: true; the input reads as it did. -/
def factsGraphUptoRow : OpenClaim := { program := "ytdblhdpnllckhaagreat", sum := "27c3bb8661b97e72ab5922d13b4d76d7904381f2a9d9455a73702908f7d3d225", func := "pleach/pleachlaw27.FactsGraph", spec := "factsGraph", inPlace := ["internal/bytealg.abigen_runtime_cmpstring", "internal/bytealg.IndexByteString", "internal/bytealg.IndexString"], unfollowed := true, recurses := true, named := ["internal/bytealg.MaxLen"], apart := false, narrowed := true }
def FactsGraphUptoSaid : Prop := factsGraphUptoRow.holds Tryz.pinned (OpenSpec.upto factsGraphSpec)

end Rows
end Go.Proofs.YtdblhdpnllckhaaGreat
