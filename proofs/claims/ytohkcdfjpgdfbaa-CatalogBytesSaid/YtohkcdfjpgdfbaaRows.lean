/-
  No cell of these rows narrows 'for every input' (looked for: loops, veiled, ifaces, maps, wideKeys, modest, calm, conditions, laid).
  DERIVED. THE GIVEN ROWS OF THIS SEAT. 5 by the template 'for every input the law returns true; each argument reads behind the call as it read before'; 0 by the template 'total and deterministic' (their statements: YtohkcdfjpgdfbaaTotals.lean).
  GIVEN WITH THE SEED: the statements are not yours to turn. If you find one false, say at which input.
  Laid BY PROGRAM, IN A SANDBOX (cutbox-rows.mjs): the forced cells as the released guide's own fill.sh prints them over the translation 40538ac7a7ce85f0… (all of the seat's roots in one cut). By AI agents, Wed Nov 11 2026. No macro, syntax, notation, axiom, sorry.
-/
import Derived.Test.YtohkcdfjpgdfbaaChecked
import GoSem.Claim
import GoSem.ClaimJoined
import GoSem.ClaimMapViews
import Derived.JoinedTies
import Derived.KernelRfl
namespace Go.Proofs.Ytohkcdfjpgdfbaa
/- THE CELL 'sum', in the pinned program and in every row, IS THE sha256 OF THE DUMP (.gsa) THAT YtohkcdfjpgdfbaaProg.lean LOADS. Nothing in Lean hashes anything: it is a label: what it is worth is what the hold of that sum in a sandbox is worth. -/
noncomputable def Try.pinned : Pinned := { name := "ytohkcdfjpgdfbaa", sum := "40538ac7a7ce85f0226f43266739027847ed4d4bf1e8052946144bdf5c9f0114", checked := Try.checked }
namespace Rows
def none {H : Type} : Left H := { results := [], args := [] }

/-- 'chartroomlaw29.ScriptReads': WHATEVER THE INPUT: true; the input reads as it did. -/
def scriptReadsSpec : ChangeSpec := { name := "scriptReads", fn := fun _ => fun
  | [d] => { results := [.lit (.bool true)], args := [d] }
  | _ => none }
def scriptReadsRow : OpenClaim := { program := "ytohkcdfjpgdfbaa", sum := "40538ac7a7ce85f0226f43266739027847ed4d4bf1e8052946144bdf5c9f0114", func := "chartroom/chartroomlaw29.ScriptReads", spec := "scriptReads", inPlace := ["internal/abi.NoEscape"], apart := false }
def ScriptReadsSaid : Prop := scriptReadsRow.holds Try.pinned (OpenSpec.ofChange scriptReadsSpec)

/-- ITS FALSE NEIGHBOUR: 'it returns false'. Refute it at one input. -/
def scriptReadsWrong : ChangeSpec := { name := "scriptReads", fn := fun _ => fun
  | [d] => { results := [.lit (.bool false)], args := [d] }
  | _ => none }
def ScriptReadsWrongFalsely : Prop := scriptReadsRow.holds Try.pinned (OpenSpec.ofChange scriptReadsWrong)

/-- 'chartroomlaw17.CatalogDoes': WHATEVER THE INPUT: true; the input reads as it did. -/
def catalogDoesSpec : ChangeSpec := { name := "catalogDoes", fn := fun _ => fun
  | [d1, d2, d3, d4] => { results := [.lit (.bool true)], args := [d1, d2, d3, d4] }
  | _ => none }
def catalogDoesRow : OpenClaim := { program := "ytohkcdfjpgdfbaa", sum := "40538ac7a7ce85f0226f43266739027847ed4d4bf1e8052946144bdf5c9f0114", func := "chartroom/chartroomlaw17.CatalogDoes", spec := "catalogDoes", inPlace := ["slices.overlaps[chartroom/catalog.Entry]"], unfollowed := true, recurses := true, apart := false }
def CatalogDoesSaid : Prop := catalogDoesRow.holds Try.pinned (OpenSpec.ofChange catalogDoesSpec)

/-- ITS FALSE NEIGHBOUR: 'it returns false'. Refute it at one input. -/
def catalogDoesWrong : ChangeSpec := { name := "catalogDoes", fn := fun _ => fun
  | [d1, d2, d3, d4] => { results := [.lit (.bool false)], args := [d1, d2, d3, d4] }
  | _ => none }
def CatalogDoesWrongFalsely : Prop := catalogDoesRow.holds Try.pinned (OpenSpec.ofChange catalogDoesWrong)

/-- 'chartroomlaw17.CatalogBack': WHATEVER THE INPUT: true; the input reads as it did. -/
def catalogBackSpec : ChangeSpec := { name := "catalogBack", fn := fun _ => fun
  | [d1, d2, d3, d4, d5] => { results := [.lit (.bool true)], args := [d1, d2, d3, d4, d5] }
  | _ => none }
def catalogBackRow : OpenClaim := { program := "ytohkcdfjpgdfbaa", sum := "40538ac7a7ce85f0226f43266739027847ed4d4bf1e8052946144bdf5c9f0114", func := "chartroom/chartroomlaw17.CatalogBack", spec := "catalogBack", inPlace := ["slices.overlaps[chartroom/catalog.Entry]"], unfollowed := true, recurses := true, apart := false }
def CatalogBackSaid : Prop := catalogBackRow.holds Try.pinned (OpenSpec.ofChange catalogBackSpec)

/-- ITS FALSE NEIGHBOUR: 'it returns false'. Refute it at one input. -/
def catalogBackWrong : ChangeSpec := { name := "catalogBack", fn := fun _ => fun
  | [d1, d2, d3, d4, d5] => { results := [.lit (.bool false)], args := [d1, d2, d3, d4, d5] }
  | _ => none }
def CatalogBackWrongFalsely : Prop := catalogBackRow.holds Try.pinned (OpenSpec.ofChange catalogBackWrong)

/-- 'chartroomlaw17.CatalogBytes': WHATEVER THE INPUT: true; the input reads as it did. -/
def catalogBytesSpec : ChangeSpec := { name := "catalogBytes", fn := fun _ => fun
  | [d1, d2] => { results := [.lit (.bool true)], args := [d1, d2] }
  | _ => none }
def catalogBytesRow : OpenClaim := { program := "ytohkcdfjpgdfbaa", sum := "40538ac7a7ce85f0226f43266739027847ed4d4bf1e8052946144bdf5c9f0114", func := "chartroom/chartroomlaw17.CatalogBytes", spec := "catalogBytes", inPlace := ["slices.overlaps[chartroom/catalog.Entry]"], unfollowed := true, recurses := true, apart := false }
def CatalogBytesSaid : Prop := catalogBytesRow.holds Try.pinned (OpenSpec.ofChange catalogBytesSpec)

/-- ITS FALSE NEIGHBOUR: 'it returns false'. Refute it at one input. -/
def catalogBytesWrong : ChangeSpec := { name := "catalogBytes", fn := fun _ => fun
  | [d1, d2] => { results := [.lit (.bool false)], args := [d1, d2] }
  | _ => none }
def CatalogBytesWrongFalsely : Prop := catalogBytesRow.holds Try.pinned (OpenSpec.ofChange catalogBytesWrong)

/-- 'chartroomlaw17.CatalogKnown': WHATEVER THE INPUT: true; the input reads as it did. -/
def catalogKnownSpec : ChangeSpec := { name := "catalogKnown", fn := fun _ => fun
  | [] => { results := [.lit (.bool true)], args := [] }
  | _ => none }
def catalogKnownRow : OpenClaim := { program := "ytohkcdfjpgdfbaa", sum := "40538ac7a7ce85f0226f43266739027847ed4d4bf1e8052946144bdf5c9f0114", func := "chartroom/chartroomlaw17.CatalogKnown", spec := "catalogKnown", inPlace := ["slices.overlaps[chartroom/catalog.Entry]"], unfollowed := true, recurses := true, apart := false }
def CatalogKnownSaid : Prop := catalogKnownRow.holds Try.pinned (OpenSpec.ofChange catalogKnownSpec)

/-- ITS FALSE NEIGHBOUR: 'it returns false'. Refute it at one input. -/
def catalogKnownWrong : ChangeSpec := { name := "catalogKnown", fn := fun _ => fun
  | [] => { results := [.lit (.bool false)], args := [] }
  | _ => none }
def CatalogKnownWrongFalsely : Prop := catalogKnownRow.holds Try.pinned (OpenSpec.ofChange catalogKnownWrong)

/- THE SECOND FORM. 'bulk': how many values and letters a reading holds, each counted each time it is reached (what is shared counts as often as it is met; a slice's spare places count too). A statement '..UptoSaid' is the law's where the arguments, and the package variables that the reading takes, are together of bulk at most 1048576: NARROWER than '..Said'. Prove '..Said' where nothing that the law and all that it calls make is longer than what came in: it says more and counts as full. Else prove '..UptoSaid'. A law counts once. -/
mutual
def uptoBulk {H : Type} : DataW H → Nat
  | .lit (.string bytes) => bytes.length + 1
  | .lit _ => 1
  | .nil => 1
  | .ptr d => uptoBulk d + 1
  | .slice elems spare => uptoBulkAll elems + uptoBulkAll spare + 1
  | .agg parts => uptoBulkAll parts + 1
  | .iface _ d => uptoBulk d + 1
  | .map entries => uptoBulkEntries entries + 1
  | .held _ => 1
def uptoBulkAll {H : Type} : List (DataW H) → Nat
  | [] => 0
  | d :: r => uptoBulk d + uptoBulkAll r
def uptoBulkEntries {H : Type} : List (Lit × DataW H) → Nat
  | [] => 0
  | x :: r => uptoBulkEntry x + uptoBulkEntries r
def uptoBulkEntry {H : Type} : Lit × DataW H → Nat
  | (.string bytes, d) => bytes.length + uptoBulk d + 1
  | (_, d) => uptoBulk d + 1
 end
def uptoSmall : (H : Type) → List (DataW H) → Bool := fun _ ds => decide (uptoBulkAll ds ≤ 1048576)
def OpenSpec.upto (s : _root_.Go.ChangeSpec) : _root_.Go.OpenSpec := { _root_.Go.OpenSpec.ofChange s with cond := some uptoSmall }

/-- 'chartroomlaw29.ScriptReads', WHERE WHAT IT READS IS OF BULK AT MOST 1048576: true; the input reads as it did. -/
def scriptReadsUptoRow : OpenClaim := { program := "ytohkcdfjpgdfbaa", sum := "40538ac7a7ce85f0226f43266739027847ed4d4bf1e8052946144bdf5c9f0114", func := "chartroom/chartroomlaw29.ScriptReads", spec := "scriptReads", inPlace := ["internal/abi.NoEscape"], apart := false, narrowed := true }
def ScriptReadsUptoSaid : Prop := scriptReadsUptoRow.holds Try.pinned (OpenSpec.upto scriptReadsSpec)

/-- 'chartroomlaw17.CatalogDoes', WHERE WHAT IT READS IS OF BULK AT MOST 1048576: true; the input reads as it did. -/
def catalogDoesUptoRow : OpenClaim := { program := "ytohkcdfjpgdfbaa", sum := "40538ac7a7ce85f0226f43266739027847ed4d4bf1e8052946144bdf5c9f0114", func := "chartroom/chartroomlaw17.CatalogDoes", spec := "catalogDoes", inPlace := ["slices.overlaps[chartroom/catalog.Entry]"], unfollowed := true, recurses := true, apart := false, narrowed := true }
def CatalogDoesUptoSaid : Prop := catalogDoesUptoRow.holds Try.pinned (OpenSpec.upto catalogDoesSpec)

/-- 'chartroomlaw17.CatalogBack', WHERE WHAT IT READS IS OF BULK AT MOST 1048576: true; the input reads as it did. -/
def catalogBackUptoRow : OpenClaim := { program := "ytohkcdfjpgdfbaa", sum := "40538ac7a7ce85f0226f43266739027847ed4d4bf1e8052946144bdf5c9f0114", func := "chartroom/chartroomlaw17.CatalogBack", spec := "catalogBack", inPlace := ["slices.overlaps[chartroom/catalog.Entry]"], unfollowed := true, recurses := true, apart := false, narrowed := true }
def CatalogBackUptoSaid : Prop := catalogBackUptoRow.holds Try.pinned (OpenSpec.upto catalogBackSpec)

/-- 'chartroomlaw17.CatalogBytes', WHERE WHAT IT READS IS OF BULK AT MOST 1048576: true; the input reads as it did. -/
def catalogBytesUptoRow : OpenClaim := { program := "ytohkcdfjpgdfbaa", sum := "40538ac7a7ce85f0226f43266739027847ed4d4bf1e8052946144bdf5c9f0114", func := "chartroom/chartroomlaw17.CatalogBytes", spec := "catalogBytes", inPlace := ["slices.overlaps[chartroom/catalog.Entry]"], unfollowed := true, recurses := true, apart := false, narrowed := true }
def CatalogBytesUptoSaid : Prop := catalogBytesUptoRow.holds Try.pinned (OpenSpec.upto catalogBytesSpec)

/-- 'chartroomlaw17.CatalogKnown', WHERE WHAT IT READS IS OF BULK AT MOST 1048576: true; the input reads as it did. -/
def catalogKnownUptoRow : OpenClaim := { program := "ytohkcdfjpgdfbaa", sum := "40538ac7a7ce85f0226f43266739027847ed4d4bf1e8052946144bdf5c9f0114", func := "chartroom/chartroomlaw17.CatalogKnown", spec := "catalogKnown", inPlace := ["slices.overlaps[chartroom/catalog.Entry]"], unfollowed := true, recurses := true, apart := false, narrowed := true }
def CatalogKnownUptoSaid : Prop := catalogKnownUptoRow.holds Try.pinned (OpenSpec.upto catalogKnownSpec)

end Rows
end Go.Proofs.Ytohkcdfjpgdfbaa
