/-
  No cell of these rows narrows 'for every input' (looked for: loops, veiled, ifaces, maps, wideKeys, modest, calm, conditions, laid).
  DERIVED. THE GIVEN ROWS OF THIS SEAT. 7 by the template 'for every input the law returns true; each argument reads behind the call as it read before'; 0 by the template 'total and deterministic' (their statements: YtmnadajjgnniaaaTotals.lean).
  GIVEN WITH THE SEED: the statements are not yours to turn. If you find one false, say at which input.
  Laid BY PROGRAM, IN A SANDBOX (cutbox-rows.mjs): the forced cells as the released guide's own fill.sh prints them over the translation 5266d80cae86c985… (all of the seat's roots in one cut). By AI agents, Wed Nov 11 2026. No macro, syntax, notation, axiom, sorry.
-/
import Derived.Test.YtmnadajjgnniaaaChecked
import GoSem.Claim
import GoSem.ClaimJoined
import GoSem.ClaimMapViews
import Derived.JoinedTies
import Derived.KernelRfl
namespace Go.Proofs.Ytmnadajjgnniaaa
/- THE CELL 'sum', in the pinned program and in every row, IS THE sha256 OF THE DUMP (.gsa) THAT YtmnadajjgnniaaaProg.lean LOADS. Nothing in Lean hashes anything: it is a label: what it is worth is what the hold of that sum in a sandbox is worth. -/
noncomputable def Try.pinned : Pinned := { name := "ytmnadajjgnniaaa", sum := "5266d80cae86c985ad59e1db0e16e42aec98ee1d0ea19c9359cb2dc92a496269", checked := Try.checked }
namespace Rows
def none {H : Type} : Left H := { results := [], args := [] }

/-- 'pleachlaw25.ElemNodes': WHATEVER THE INPUT: true; the input reads as it did. -/
def elemNodesSpec : ChangeSpec := { name := "elemNodes", fn := fun _ => fun
  | [d] => { results := [.lit (.bool true)], args := [d] }
  | _ => none }
def elemNodesRow : OpenClaim := { program := "ytmnadajjgnniaaa", sum := "5266d80cae86c985ad59e1db0e16e42aec98ee1d0ea19c9359cb2dc92a496269", func := "pleach/pleachlaw25.ElemNodes", spec := "elemNodes", apart := false }
def ElemNodesSaid : Prop := elemNodesRow.holds Try.pinned (OpenSpec.ofChange elemNodesSpec)

/-- ITS FALSE NEIGHBOUR: 'it returns false'. Refute it at one input. -/
def elemNodesWrong : ChangeSpec := { name := "elemNodes", fn := fun _ => fun
  | [d] => { results := [.lit (.bool false)], args := [d] }
  | _ => none }
def ElemNodesWrongFalsely : Prop := elemNodesRow.holds Try.pinned (OpenSpec.ofChange elemNodesWrong)

/-- 'pleachlaw25.ElemEdges': WHATEVER THE INPUT: true; the input reads as it did. -/
def elemEdgesSpec : ChangeSpec := { name := "elemEdges", fn := fun _ => fun
  | [d] => { results := [.lit (.bool true)], args := [d] }
  | _ => none }
def elemEdgesRow : OpenClaim := { program := "ytmnadajjgnniaaa", sum := "5266d80cae86c985ad59e1db0e16e42aec98ee1d0ea19c9359cb2dc92a496269", func := "pleach/pleachlaw25.ElemEdges", spec := "elemEdges", apart := false }
def ElemEdgesSaid : Prop := elemEdgesRow.holds Try.pinned (OpenSpec.ofChange elemEdgesSpec)

/-- ITS FALSE NEIGHBOUR: 'it returns false'. Refute it at one input. -/
def elemEdgesWrong : ChangeSpec := { name := "elemEdges", fn := fun _ => fun
  | [d] => { results := [.lit (.bool false)], args := [d] }
  | _ => none }
def ElemEdgesWrongFalsely : Prop := elemEdgesRow.holds Try.pinned (OpenSpec.ofChange elemEdgesWrong)

/-- 'pleachlaw31.KeysOf': WHATEVER THE INPUT: true; the input reads as it did. -/
def keysOfSpec : ChangeSpec := { name := "keysOf", fn := fun _ => fun
  | [d1, d2, d3] => { results := [.lit (.bool true)], args := [d1, d2, d3] }
  | _ => none }
def keysOfRow : OpenClaim := { program := "ytmnadajjgnniaaa", sum := "5266d80cae86c985ad59e1db0e16e42aec98ee1d0ea19c9359cb2dc92a496269", func := "pleach/pleachlaw31.KeysOf", spec := "keysOf", inPlace := ["internal/bytealg.IndexByteString", "internal/bytealg.IndexString"], named := ["internal/bytealg.MaxLen"], apart := false }
def KeysOfSaid : Prop := keysOfRow.holds Try.pinned (OpenSpec.ofChange keysOfSpec)

/-- ITS FALSE NEIGHBOUR: 'it returns false'. Refute it at one input. -/
def keysOfWrong : ChangeSpec := { name := "keysOf", fn := fun _ => fun
  | [d1, d2, d3] => { results := [.lit (.bool false)], args := [d1, d2, d3] }
  | _ => none }
def KeysOfWrongFalsely : Prop := keysOfRow.holds Try.pinned (OpenSpec.ofChange keysOfWrong)

/-- 'pleachlaw31.KeysTake': WHATEVER THE INPUT: true; the input reads as it did. -/
def keysTakeSpec : ChangeSpec := { name := "keysTake", fn := fun _ => fun
  | [d] => { results := [.lit (.bool true)], args := [d] }
  | _ => none }
def keysTakeRow : OpenClaim := { program := "ytmnadajjgnniaaa", sum := "5266d80cae86c985ad59e1db0e16e42aec98ee1d0ea19c9359cb2dc92a496269", func := "pleach/pleachlaw31.KeysTake", spec := "keysTake", apart := false }
def KeysTakeSaid : Prop := keysTakeRow.holds Try.pinned (OpenSpec.ofChange keysTakeSpec)

/-- ITS FALSE NEIGHBOUR: 'it returns false'. Refute it at one input. -/
def keysTakeWrong : ChangeSpec := { name := "keysTake", fn := fun _ => fun
  | [d] => { results := [.lit (.bool false)], args := [d] }
  | _ => none }
def KeysTakeWrongFalsely : Prop := keysTakeRow.holds Try.pinned (OpenSpec.ofChange keysTakeWrong)

/-- 'pleachlaw25.ElemTakes': WHATEVER THE INPUT: true; the input reads as it did. -/
def elemTakesSpec : ChangeSpec := { name := "elemTakes", fn := fun _ => fun
  | [d1, d2] => { results := [.lit (.bool true)], args := [d1, d2] }
  | _ => none }
def elemTakesRow : OpenClaim := { program := "ytmnadajjgnniaaa", sum := "5266d80cae86c985ad59e1db0e16e42aec98ee1d0ea19c9359cb2dc92a496269", func := "pleach/pleachlaw25.ElemTakes", spec := "elemTakes", apart := false }
def ElemTakesSaid : Prop := elemTakesRow.holds Try.pinned (OpenSpec.ofChange elemTakesSpec)

/-- ITS FALSE NEIGHBOUR: 'it returns false'. Refute it at one input. -/
def elemTakesWrong : ChangeSpec := { name := "elemTakes", fn := fun _ => fun
  | [d1, d2] => { results := [.lit (.bool false)], args := [d1, d2] }
  | _ => none }
def ElemTakesWrongFalsely : Prop := elemTakesRow.holds Try.pinned (OpenSpec.ofChange elemTakesWrong)

/-- 'pleachlaw25.ElemBack': WHATEVER THE INPUT: true; the input reads as it did. -/
def elemBackSpec : ChangeSpec := { name := "elemBack", fn := fun _ => fun
  | [d1, d2, d3] => { results := [.lit (.bool true)], args := [d1, d2, d3] }
  | _ => none }
def elemBackRow : OpenClaim := { program := "ytmnadajjgnniaaa", sum := "5266d80cae86c985ad59e1db0e16e42aec98ee1d0ea19c9359cb2dc92a496269", func := "pleach/pleachlaw25.ElemBack", spec := "elemBack", apart := false }
def ElemBackSaid : Prop := elemBackRow.holds Try.pinned (OpenSpec.ofChange elemBackSpec)

/-- ITS FALSE NEIGHBOUR: 'it returns false'. Refute it at one input. -/
def elemBackWrong : ChangeSpec := { name := "elemBack", fn := fun _ => fun
  | [d1, d2, d3] => { results := [.lit (.bool false)], args := [d1, d2, d3] }
  | _ => none }
def ElemBackWrongFalsely : Prop := elemBackRow.holds Try.pinned (OpenSpec.ofChange elemBackWrong)

/-- 'pleachlaw25.ElemTurns': WHATEVER THE INPUT: true; the input reads as it did. -/
def elemTurnsSpec : ChangeSpec := { name := "elemTurns", fn := fun _ => fun
  | [d1, d2, d3, d4] => { results := [.lit (.bool true)], args := [d1, d2, d3, d4] }
  | _ => none }
def elemTurnsRow : OpenClaim := { program := "ytmnadajjgnniaaa", sum := "5266d80cae86c985ad59e1db0e16e42aec98ee1d0ea19c9359cb2dc92a496269", func := "pleach/pleachlaw25.ElemTurns", spec := "elemTurns", inPlace := ["slices.overlaps[pleach/api.Prop]", "slices.overlaps[string]"], unfollowed := true, recurses := true, apart := false }
def ElemTurnsSaid : Prop := elemTurnsRow.holds Try.pinned (OpenSpec.ofChange elemTurnsSpec)

/-- ITS FALSE NEIGHBOUR: 'it returns false'. Refute it at one input. -/
def elemTurnsWrong : ChangeSpec := { name := "elemTurns", fn := fun _ => fun
  | [d1, d2, d3, d4] => { results := [.lit (.bool false)], args := [d1, d2, d3, d4] }
  | _ => none }
def ElemTurnsWrongFalsely : Prop := elemTurnsRow.holds Try.pinned (OpenSpec.ofChange elemTurnsWrong)

/- THE SECOND FORM. 'bulk': how many values and letters a reading holds, each counted each time it is reached (what is shared counts as often as it is met; a slice's spare places count too). A statement '..UptoSaid' is the law's where the arguments, and the package variables that the reading takes, are together of bulk at most 1048576: NARROWER than '..Said'. Prove '..Said' where nothing that the law and all that it calls make is longer than what came in: it says more and counts as full. Else prove '..UptoSaid'. A law counts once. -/
mutual
def uptoBulk {H : Type} : DataW H → Nat
  | .lit (.string bytes) => bytes.length + 1
  | .lit _ => 1
  | .nil => 1
  | .ptr d => uptoBulk d + 1
  | .slice elems spare => uptoBulkAll elems + uptoBulkAll spare + 1
  | .agg parts => uptoBulkAll parts + 1
  | .iface _ d => uptoBulk d + 1
  | .map entries => uptoBulkEntries entries + 1
  | .held _ => 1
def uptoBulkAll {H : Type} : List (DataW H) → Nat
  | [] => 0
  | d :: r => uptoBulk d + uptoBulkAll r
def uptoBulkEntries {H : Type} : List (Lit × DataW H) → Nat
  | [] => 0
  | x :: r => uptoBulkEntry x + uptoBulkEntries r
def uptoBulkEntry {H : Type} : Lit × DataW H → Nat
  | (.string bytes, d) => bytes.length + uptoBulk d + 1
  | (_, d) => uptoBulk d + 1
 end
def uptoSmall : (H : Type) → List (DataW H) → Bool := fun _ ds => decide (uptoBulkAll ds ≤ 1048576)
def OpenSpec.upto (s : _root_.Go.ChangeSpec) : _root_.Go.OpenSpec := { _root_.Go.OpenSpec.ofChange s with cond := some uptoSmall }

/-- 'pleachlaw25.ElemNodes', WHERE WHAT IT READS IS OF BULK AT MOST 1048576: true; the input reads as it did. -/
def elemNodesUptoRow : OpenClaim := { program := "ytmnadajjgnniaaa", sum := "5266d80cae86c985ad59e1db0e16e42aec98ee1d0ea19c9359cb2dc92a496269", func := "pleach/pleachlaw25.ElemNodes", spec := "elemNodes", apart := false, narrowed := true }
def ElemNodesUptoSaid : Prop := elemNodesUptoRow.holds Try.pinned (OpenSpec.upto elemNodesSpec)

/-- 'pleachlaw25.ElemEdges', WHERE WHAT IT READS IS OF BULK AT MOST 1048576: true; the input reads as it did. -/
def elemEdgesUptoRow : OpenClaim := { program := "ytmnadajjgnniaaa", sum := "5266d80cae86c985ad59e1db0e16e42aec98ee1d0ea19c9359cb2dc92a496269", func := "pleach/pleachlaw25.ElemEdges", spec := "elemEdges", apart := false, narrowed := true }
def ElemEdgesUptoSaid : Prop := elemEdgesUptoRow.holds Try.pinned (OpenSpec.upto elemEdgesSpec)

/-- 'pleachlaw31.KeysOf', WHERE WHAT IT READS IS OF BULK AT MOST 1048576: true; the input reads as it did. -/
def keysOfUptoRow : OpenClaim := { program := "ytmnadajjgnniaaa", sum := "5266d80cae86c985ad59e1db0e16e42aec98ee1d0ea19c9359cb2dc92a496269", func := "pleach/pleachlaw31.KeysOf", spec := "keysOf", inPlace := ["internal/bytealg.IndexByteString", "internal/bytealg.IndexString"], named := ["internal/bytealg.MaxLen"], apart := false, narrowed := true }
def KeysOfUptoSaid : Prop := keysOfUptoRow.holds Try.pinned (OpenSpec.upto keysOfSpec)

/-- 'pleachlaw31.KeysTake', WHERE WHAT IT READS IS OF BULK AT MOST 1048576: true; the input reads as it did. -/
def keysTakeUptoRow : OpenClaim := { program := "ytmnadajjgnniaaa", sum := "5266d80cae86c985ad59e1db0e16e42aec98ee1d0ea19c9359cb2dc92a496269", func := "pleach/pleachlaw31.KeysTake", spec := "keysTake", apart := false, narrowed := true }
def KeysTakeUptoSaid : Prop := keysTakeUptoRow.holds Try.pinned (OpenSpec.upto keysTakeSpec)

/-- 'pleachlaw25.ElemTakes', WHERE WHAT IT READS IS OF BULK AT MOST 1048576: true; the input reads as it did. -/
def elemTakesUptoRow : OpenClaim := { program := "ytmnadajjgnniaaa", sum := "5266d80cae86c985ad59e1db0e16e42aec98ee1d0ea19c9359cb2dc92a496269", func := "pleach/pleachlaw25.ElemTakes", spec := "elemTakes", apart := false, narrowed := true }
def ElemTakesUptoSaid : Prop := elemTakesUptoRow.holds Try.pinned (OpenSpec.upto elemTakesSpec)

/-- 'pleachlaw25.ElemBack', WHERE WHAT IT READS IS OF BULK AT MOST 1048576: true; the input reads as it did. -/
def elemBackUptoRow : OpenClaim := { program := "ytmnadajjgnniaaa", sum := "5266d80cae86c985ad59e1db0e16e42aec98ee1d0ea19c9359cb2dc92a496269", func := "pleach/pleachlaw25.ElemBack", spec := "elemBack", apart := false, narrowed := true }
def ElemBackUptoSaid : Prop := elemBackUptoRow.holds Try.pinned (OpenSpec.upto elemBackSpec)

/-- 'pleachlaw25.ElemTurns', WHERE WHAT IT READS IS OF BULK AT MOST 1048576: true; the input reads as it did. -/
def elemTurnsUptoRow : OpenClaim := { program := "ytmnadajjgnniaaa", sum := "5266d80cae86c985ad59e1db0e16e42aec98ee1d0ea19c9359cb2dc92a496269", func := "pleach/pleachlaw25.ElemTurns", spec := "elemTurns", inPlace := ["slices.overlaps[pleach/api.Prop]", "slices.overlaps[string]"], unfollowed := true, recurses := true, apart := false, narrowed := true }
def ElemTurnsUptoSaid : Prop := elemTurnsUptoRow.holds Try.pinned (OpenSpec.upto elemTurnsSpec)

end Rows
end Go.Proofs.Ytmnadajjgnniaaa
