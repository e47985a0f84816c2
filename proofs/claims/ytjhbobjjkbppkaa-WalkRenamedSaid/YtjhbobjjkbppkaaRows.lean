/-
  No cell of these rows narrows 'for every input' (looked for: loops, veiled, ifaces, maps, wideKeys, modest, calm, conditions, laid).
  DERIVED. THE GIVEN ROWS OF THIS SEAT. 9 by the template 'for every input the law returns true; each argument reads behind the call as it read before'; 0 by the template 'total and deterministic' (their statements: YtjhbobjjkbppkaaTotals.lean).
  GIVEN WITH THE SEED: the statements are not yours to turn. If you find one false, say at which input.
  Laid BY PROGRAM, IN A SANDBOX (cutbox-rows.mjs): the forced cells as the released guide's own fill.sh prints them over the translation 06cabda3c53ece47… (all of the seat's roots in one cut). By AI agents, Wed Nov 11 2026. No macro, syntax, notation, axiom, sorry.
-/
import Derived.Test.YtjhbobjjkbppkaaChecked
import GoSem.Claim
import GoSem.ClaimJoined
import GoSem.ClaimMapViews
import Derived.JoinedTies
import Derived.KernelRfl
namespace Go.Proofs.Ytjhbobjjkbppkaa
/- THE CELL 'sum', in the pinned program and in every row, IS THE sha256 OF THE DUMP (.gsa) THAT YtjhbobjjkbppkaaProg.lean LOADS. Nothing in Lean hashes anything: it is a label: what it is worth is what the hold of that sum in a sandbox is worth. -/
noncomputable def Try.pinned : Pinned := { name := "ytjhbobjjkbppkaa", sum := "06cabda3c53ece473edd39922f47889aa4bbc6be8d9ffb6cb95d2a049a7488e3", checked := Try.checked }
namespace Rows
def none {H : Type} : Left H := { results := [], args := [] }

/-- 'inkhornlaw11.WalkNext': WHATEVER THE INPUT: true; the input reads as it did. -/
def walkNextSpec : ChangeSpec := { name := "walkNext", fn := fun _ => fun
  | [d1, d2, d3, d4, d5, d6] => { results := [.lit (.bool true)], args := [d1, d2, d3, d4, d5, d6] }
  | _ => none }
def walkNextRow : OpenClaim := { program := "ytjhbobjjkbppkaa", sum := "06cabda3c53ece473edd39922f47889aa4bbc6be8d9ffb6cb95d2a049a7488e3", func := "inkhorn/inkhornlaw11.WalkNext", spec := "walkNext", inPlace := ["internal/bytealg.abigen_runtime_cmpstring", "internal/abi.NoEscape", "internal/bytealg.MakeNoZero"], unfollowed := true, recurses := true, apart := false }
def WalkNextSaid : Prop := walkNextRow.holds Try.pinned (OpenSpec.ofChange walkNextSpec)

/-- ITS FALSE NEIGHBOUR: 'it returns false'. Refute it at one input. -/
def walkNextWrong : ChangeSpec := { name := "walkNext", fn := fun _ => fun
  | [d1, d2, d3, d4, d5, d6] => { results := [.lit (.bool false)], args := [d1, d2, d3, d4, d5, d6] }
  | _ => none }
def WalkNextWrongFalsely : Prop := walkNextRow.holds Try.pinned (OpenSpec.ofChange walkNextWrong)

/-- 'inkhornlaw11.WalkSplit': WHATEVER THE INPUT: true; the input reads as it did. -/
def walkSplitSpec : ChangeSpec := { name := "walkSplit", fn := fun _ => fun
  | [d1, d2, d3, d4, d5, d6] => { results := [.lit (.bool true)], args := [d1, d2, d3, d4, d5, d6] }
  | _ => none }
def walkSplitRow : OpenClaim := { program := "ytjhbobjjkbppkaa", sum := "06cabda3c53ece473edd39922f47889aa4bbc6be8d9ffb6cb95d2a049a7488e3", func := "inkhorn/inkhornlaw11.WalkSplit", spec := "walkSplit", inPlace := ["internal/bytealg.abigen_runtime_cmpstring", "internal/abi.NoEscape", "internal/bytealg.MakeNoZero"], unfollowed := true, recurses := true, apart := false }
def WalkSplitSaid : Prop := walkSplitRow.holds Try.pinned (OpenSpec.ofChange walkSplitSpec)

/-- ITS FALSE NEIGHBOUR: 'it returns false'. Refute it at one input. -/
def walkSplitWrong : ChangeSpec := { name := "walkSplit", fn := fun _ => fun
  | [d1, d2, d3, d4, d5, d6] => { results := [.lit (.bool false)], args := [d1, d2, d3, d4, d5, d6] }
  | _ => none }
def WalkSplitWrongFalsely : Prop := walkSplitRow.holds Try.pinned (OpenSpec.ofChange walkSplitWrong)

/-- 'inkhornlaw11.WalkDists': WHATEVER THE INPUT: true; the input reads as it did. -/
def walkDistsSpec : ChangeSpec := { name := "walkDists", fn := fun _ => fun
  | [d1, d2, d3] => { results := [.lit (.bool true)], args := [d1, d2, d3] }
  | _ => none }
def walkDistsRow : OpenClaim := { program := "ytjhbobjjkbppkaa", sum := "06cabda3c53ece473edd39922f47889aa4bbc6be8d9ffb6cb95d2a049a7488e3", func := "inkhorn/inkhornlaw11.WalkDists", spec := "walkDists", inPlace := ["internal/bytealg.abigen_runtime_cmpstring", "internal/abi.NoEscape", "internal/bytealg.MakeNoZero"], unfollowed := true, recurses := true, apart := false }
def WalkDistsSaid : Prop := walkDistsRow.holds Try.pinned (OpenSpec.ofChange walkDistsSpec)

/-- ITS FALSE NEIGHBOUR: 'it returns false'. Refute it at one input. -/
def walkDistsWrong : ChangeSpec := { name := "walkDists", fn := fun _ => fun
  | [d1, d2, d3] => { results := [.lit (.bool false)], args := [d1, d2, d3] }
  | _ => none }
def WalkDistsWrongFalsely : Prop := walkDistsRow.holds Try.pinned (OpenSpec.ofChange walkDistsWrong)

/-- 'inkhornlaw11.WalkFar': WHATEVER THE INPUT: true; the input reads as it did. -/
def walkFarSpec : ChangeSpec := { name := "walkFar", fn := fun _ => fun
  | [d1, d2, d3, d4] => { results := [.lit (.bool true)], args := [d1, d2, d3, d4] }
  | _ => none }
def walkFarRow : OpenClaim := { program := "ytjhbobjjkbppkaa", sum := "06cabda3c53ece473edd39922f47889aa4bbc6be8d9ffb6cb95d2a049a7488e3", func := "inkhorn/inkhornlaw11.WalkFar", spec := "walkFar", inPlace := ["internal/bytealg.abigen_runtime_cmpstring", "internal/abi.NoEscape", "internal/bytealg.MakeNoZero"], unfollowed := true, recurses := true, apart := false }
def WalkFarSaid : Prop := walkFarRow.holds Try.pinned (OpenSpec.ofChange walkFarSpec)

/-- ITS FALSE NEIGHBOUR: 'it returns false'. Refute it at one input. -/
def walkFarWrong : ChangeSpec := { name := "walkFar", fn := fun _ => fun
  | [d1, d2, d3, d4] => { results := [.lit (.bool false)], args := [d1, d2, d3, d4] }
  | _ => none }
def WalkFarWrongFalsely : Prop := walkFarRow.holds Try.pinned (OpenSpec.ofChange walkFarWrong)

/-- 'inkhornlaw11.WalkLevels': WHATEVER THE INPUT: true; the input reads as it did. -/
def walkLevelsSpec : ChangeSpec := { name := "walkLevels", fn := fun _ => fun
  | [d1, d2, d3] => { results := [.lit (.bool true)], args := [d1, d2, d3] }
  | _ => none }
def walkLevelsRow : OpenClaim := { program := "ytjhbobjjkbppkaa", sum := "06cabda3c53ece473edd39922f47889aa4bbc6be8d9ffb6cb95d2a049a7488e3", func := "inkhorn/inkhornlaw11.WalkLevels", spec := "walkLevels", inPlace := ["internal/bytealg.abigen_runtime_cmpstring", "internal/abi.NoEscape", "internal/bytealg.MakeNoZero"], unfollowed := true, recurses := true, apart := false }
def WalkLevelsSaid : Prop := walkLevelsRow.holds Try.pinned (OpenSpec.ofChange walkLevelsSpec)

/-- ITS FALSE NEIGHBOUR: 'it returns false'. Refute it at one input. -/
def walkLevelsWrong : ChangeSpec := { name := "walkLevels", fn := fun _ => fun
  | [d1, d2, d3] => { results := [.lit (.bool false)], args := [d1, d2, d3] }
  | _ => none }
def WalkLevelsWrongFalsely : Prop := walkLevelsRow.holds Try.pinned (OpenSpec.ofChange walkLevelsWrong)

/-- 'inkhornlaw11.WalkBatches': WHATEVER THE INPUT: true; the input reads as it did. -/
def walkBatchesSpec : ChangeSpec := { name := "walkBatches", fn := fun _ => fun
  | [d1, d2, d3] => { results := [.lit (.bool true)], args := [d1, d2, d3] }
  | _ => none }
def walkBatchesRow : OpenClaim := { program := "ytjhbobjjkbppkaa", sum := "06cabda3c53ece473edd39922f47889aa4bbc6be8d9ffb6cb95d2a049a7488e3", func := "inkhorn/inkhornlaw11.WalkBatches", spec := "walkBatches", inPlace := ["internal/bytealg.abigen_runtime_cmpstring", "internal/abi.NoEscape", "internal/bytealg.MakeNoZero"], unfollowed := true, recurses := true, apart := false }
def WalkBatchesSaid : Prop := walkBatchesRow.holds Try.pinned (OpenSpec.ofChange walkBatchesSpec)

/-- ITS FALSE NEIGHBOUR: 'it returns false'. Refute it at one input. -/
def walkBatchesWrong : ChangeSpec := { name := "walkBatches", fn := fun _ => fun
  | [d1, d2, d3] => { results := [.lit (.bool false)], args := [d1, d2, d3] }
  | _ => none }
def WalkBatchesWrongFalsely : Prop := walkBatchesRow.holds Try.pinned (OpenSpec.ofChange walkBatchesWrong)

/-- 'inkhornlaw11.WalkEnds': WHATEVER THE INPUT: true; the input reads as it did. -/
def walkEndsSpec : ChangeSpec := { name := "walkEnds", fn := fun _ => fun
  | [d1, d2] => { results := [.lit (.bool true)], args := [d1, d2] }
  | _ => none }
def walkEndsRow : OpenClaim := { program := "ytjhbobjjkbppkaa", sum := "06cabda3c53ece473edd39922f47889aa4bbc6be8d9ffb6cb95d2a049a7488e3", func := "inkhorn/inkhornlaw11.WalkEnds", spec := "walkEnds", inPlace := ["internal/bytealg.abigen_runtime_cmpstring", "internal/abi.NoEscape", "internal/bytealg.MakeNoZero"], unfollowed := true, recurses := true, apart := false }
def WalkEndsSaid : Prop := walkEndsRow.holds Try.pinned (OpenSpec.ofChange walkEndsSpec)

/-- ITS FALSE NEIGHBOUR: 'it returns false'. Refute it at one input. -/
def walkEndsWrong : ChangeSpec := { name := "walkEnds", fn := fun _ => fun
  | [d1, d2] => { results := [.lit (.bool false)], args := [d1, d2] }
  | _ => none }
def WalkEndsWrongFalsely : Prop := walkEndsRow.holds Try.pinned (OpenSpec.ofChange walkEndsWrong)

/-- 'inkhornlaw11.WalkOwn': WHATEVER THE INPUT: true; the input reads as it did. -/
def walkOwnSpec : ChangeSpec := { name := "walkOwn", fn := fun _ => fun
  | [d1, d2, d3] => { results := [.lit (.bool true)], args := [d1, d2, d3] }
  | _ => none }
def walkOwnRow : OpenClaim := { program := "ytjhbobjjkbppkaa", sum := "06cabda3c53ece473edd39922f47889aa4bbc6be8d9ffb6cb95d2a049a7488e3", func := "inkhorn/inkhornlaw11.WalkOwn", spec := "walkOwn", inPlace := ["internal/bytealg.abigen_runtime_cmpstring", "internal/abi.NoEscape", "internal/bytealg.MakeNoZero"], unfollowed := true, recurses := true, apart := false }
def WalkOwnSaid : Prop := walkOwnRow.holds Try.pinned (OpenSpec.ofChange walkOwnSpec)

/-- ITS FALSE NEIGHBOUR: 'it returns false'. Refute it at one input. -/
def walkOwnWrong : ChangeSpec := { name := "walkOwn", fn := fun _ => fun
  | [d1, d2, d3] => { results := [.lit (.bool false)], args := [d1, d2, d3] }
  | _ => none }
def WalkOwnWrongFalsely : Prop := walkOwnRow.holds Try.pinned (OpenSpec.ofChange walkOwnWrong)

/-- 'inkhornlaw11.WalkRenamed': WHATEVER THE INPUT: true; the input reads as it did. -/
def walkRenamedSpec : ChangeSpec := { name := "walkRenamed", fn := fun _ => fun
  | [d1, d2, d3] => { results := [.lit (.bool true)], args := [d1, d2, d3] }
  | _ => none }
def walkRenamedRow : OpenClaim := { program := "ytjhbobjjkbppkaa", sum := "06cabda3c53ece473edd39922f47889aa4bbc6be8d9ffb6cb95d2a049a7488e3", func := "inkhorn/inkhornlaw11.WalkRenamed", spec := "walkRenamed", inPlace := ["internal/bytealg.abigen_runtime_cmpstring", "internal/abi.NoEscape", "internal/bytealg.MakeNoZero"], unfollowed := true, recurses := true, apart := false }
def WalkRenamedSaid : Prop := walkRenamedRow.holds Try.pinned (OpenSpec.ofChange walkRenamedSpec)

/-- ITS FALSE NEIGHBOUR: 'it returns false'. Refute it at one input. -/
def walkRenamedWrong : ChangeSpec := { name := "walkRenamed", fn := fun _ => fun
  | [d1, d2, d3] => { results := [.lit (.bool false)], args := [d1, d2, d3] }
  | _ => none }
def WalkRenamedWrongFalsely : Prop := walkRenamedRow.holds Try.pinned (OpenSpec.ofChange walkRenamedWrong)

/- THE SECOND FORM. 'bulk': how many values and letters a reading holds, each counted each time it is reached (what is shared counts as often as it is met; a slice's spare places count too). A statement '..UptoSaid' is the law's where the arguments, and the package variables that the reading takes, are together of bulk at most 1048576: NARROWER than '..Said'. Prove '..Said' where nothing that the law and all that it calls make is longer than what came in: it says more and counts as full. Else prove '..UptoSaid'. A law counts once. -/
mutual
def uptoBulk {H : Type} : DataW H → Nat
  | .lit (.string bytes) => bytes.length + 1
  | .lit _ => 1
  | .nil => 1
  | .ptr d => uptoBulk d + 1
  | .slice elems spare => uptoBulkAll elems + uptoBulkAll spare + 1
  | .agg parts => uptoBulkAll parts + 1
  | .iface _ d => uptoBulk d + 1
  | .map entries => uptoBulkEntries entries + 1
  | .held _ => 1
def uptoBulkAll {H : Type} : List (DataW H) → Nat
  | [] => 0
  | d :: r => uptoBulk d + uptoBulkAll r
def uptoBulkEntries {H : Type} : List (Lit × DataW H) → Nat
  | [] => 0
  | x :: r => uptoBulkEntry x + uptoBulkEntries r
def uptoBulkEntry {H : Type} : Lit × DataW H → Nat
  | (.string bytes, d) => bytes.length + uptoBulk d + 1
  | (_, d) => uptoBulk d + 1
 end
def uptoSmall : (H : Type) → List (DataW H) → Bool := fun _ ds => decide (uptoBulkAll ds ≤ 1048576)
def OpenSpec.upto (s : _root_.Go.ChangeSpec) : _root_.Go.OpenSpec := { _root_.Go.OpenSpec.ofChange s with cond := some uptoSmall }

/-- 'inkhornlaw11.WalkNext', WHERE WHAT IT READS IS OF BULK AT MOST 1048576: true; the input reads as it did. -/
def walkNextUptoRow : OpenClaim := { program := "ytjhbobjjkbppkaa", sum := "06cabda3c53ece473edd39922f47889aa4bbc6be8d9ffb6cb95d2a049a7488e3", func := "inkhorn/inkhornlaw11.WalkNext", spec := "walkNext", inPlace := ["internal/bytealg.abigen_runtime_cmpstring", "internal/abi.NoEscape", "internal/bytealg.MakeNoZero"], unfollowed := true, recurses := true, apart := false, narrowed := true }
def WalkNextUptoSaid : Prop := walkNextUptoRow.holds Try.pinned (OpenSpec.upto walkNextSpec)

/-- 'inkhornlaw11.WalkSplit', WHERE WHAT IT READS IS OF BULK AT MOST 1048576: true; the input reads as it did. -/
def walkSplitUptoRow : OpenClaim := { program := "ytjhbobjjkbppkaa", sum := "06cabda3c53ece473edd39922f47889aa4bbc6be8d9ffb6cb95d2a049a7488e3", func := "inkhorn/inkhornlaw11.WalkSplit", spec := "walkSplit", inPlace := ["internal/bytealg.abigen_runtime_cmpstring", "internal/abi.NoEscape", "internal/bytealg.MakeNoZero"], unfollowed := true, recurses := true, apart := false, narrowed := true }
def WalkSplitUptoSaid : Prop := walkSplitUptoRow.holds Try.pinned (OpenSpec.upto walkSplitSpec)

/-- 'inkhornlaw11.WalkDists', WHERE WHAT IT READS IS OF BULK AT MOST 1048576: true; the input reads as it did. -/
def walkDistsUptoRow : OpenClaim := { program := "ytjhbobjjkbppkaa", sum := "06cabda3c53ece473edd39922f47889aa4bbc6be8d9ffb6cb95d2a049a7488e3", func := "inkhorn/inkhornlaw11.WalkDists", spec := "walkDists", inPlace := ["internal/bytealg.abigen_runtime_cmpstring", "internal/abi.NoEscape", "internal/bytealg.MakeNoZero"], unfollowed := true, recurses := true, apart := false, narrowed := true }
def WalkDistsUptoSaid : Prop := walkDistsUptoRow.holds Try.pinned (OpenSpec.upto walkDistsSpec)

/-- 'inkhornlaw11.WalkFar', WHERE WHAT IT READS IS OF BULK AT MOST 1048576: true; the input reads as it did. -/
def walkFarUptoRow : OpenClaim := { program := "ytjhbobjjkbppkaa", sum := "06cabda3c53ece473edd39922f47889aa4bbc6be8d9ffb6cb95d2a049a7488e3", func := "inkhorn/inkhornlaw11.WalkFar", spec := "walkFar", inPlace := ["internal/bytealg.abigen_runtime_cmpstring", "internal/abi.NoEscape", "internal/bytealg.MakeNoZero"], unfollowed := true, recurses := true, apart := false, narrowed := true }
def WalkFarUptoSaid : Prop := walkFarUptoRow.holds Try.pinned (OpenSpec.upto walkFarSpec)

/-- 'inkhornlaw11.WalkLevels', WHERE WHAT IT READS IS OF BULK AT MOST 1048576: true; the input reads as it did. -/
def walkLevelsUptoRow : OpenClaim := { program := "ytjhbobjjkbppkaa", sum := "06cabda3c53ece473edd39922f47889aa4bbc6be8d9ffb6cb95d2a049a7488e3", func := "inkhorn/inkhornlaw11.WalkLevels", spec := "walkLevels", inPlace := ["internal/bytealg.abigen_runtime_cmpstring", "internal/abi.NoEscape", "internal/bytealg.MakeNoZero"], unfollowed := true, recurses := true, apart := false, narrowed := true }
def WalkLevelsUptoSaid : Prop := walkLevelsUptoRow.holds Try.pinned (OpenSpec.upto walkLevelsSpec)

/-- 'inkhornlaw11.WalkBatches', WHERE WHAT IT READS IS OF BULK AT MOST 1048576: true; the input reads as it did. -/
def walkBatchesUptoRow : OpenClaim := { program := "ytjhbobjjkbppkaa", sum := "06cabda3c53ece473edd39922f47889aa4bbc6be8d9ffb6cb95d2a049a7488e3", func := "inkhorn/inkhornlaw11.WalkBatches", spec := "walkBatches", inPlace := ["internal/bytealg.abigen_runtime_cmpstring", "internal/abi.NoEscape", "internal/bytealg.MakeNoZero"], unfollowed := true, recurses := true, apart := false, narrowed := true }
def WalkBatchesUptoSaid : Prop := walkBatchesUptoRow.holds Try.pinned (OpenSpec.upto walkBatchesSpec)

/-- 'inkhornlaw11.WalkEnds', WHERE WHAT IT READS IS OF BULK AT MOST 1048576: true; the input reads as it did. -/
def walkEndsUptoRow : OpenClaim := { program := "ytjhbobjjkbppkaa", sum := "06cabda3c53ece473edd39922f47889aa4bbc6be8d9ffb6cb95d2a049a7488e3", func := "inkhorn/inkhornlaw11.WalkEnds", spec := "walkEnds", inPlace := ["internal/bytealg.abigen_runtime_cmpstring", "internal/abi.NoEscape", "internal/bytealg.MakeNoZero"], unfollowed := true, recurses := true, apart := false, narrowed := true }
def WalkEndsUptoSaid : Prop := walkEndsUptoRow.holds Try.pinned (OpenSpec.upto walkEndsSpec)

/-- 'inkhornlaw11.WalkOwn', WHERE WHAT IT READS IS OF BULK AT MOST 1048576: true; the input reads as it did. -/
def walkOwnUptoRow : OpenClaim := { program := "ytjhbobjjkbppkaa", sum := "06cabda3c53ece473edd39922f47889aa4bbc6be8d9ffb6cb95d2a049a7488e3", func := "inkhorn/inkhornlaw11.WalkOwn", spec := "walkOwn", inPlace := ["internal/bytealg.abigen_runtime_cmpstring", "internal/abi.NoEscape", "internal/bytealg.MakeNoZero"], unfollowed := true, recurses := true, apart := false, narrowed := true }
def WalkOwnUptoSaid : Prop := walkOwnUptoRow.holds Try.pinned (OpenSpec.upto walkOwnSpec)

/-- 'inkhornlaw11.WalkRenamed', WHERE WHAT IT READS IS OF BULK AT MOST 1048576: true; the input reads as it did. -/
def walkRenamedUptoRow : OpenClaim := { program := "ytjhbobjjkbppkaa", sum := "06cabda3c53ece473edd39922f47889aa4bbc6be8d9ffb6cb95d2a049a7488e3", func := "inkhorn/inkhornlaw11.WalkRenamed", spec := "walkRenamed", inPlace := ["internal/bytealg.abigen_runtime_cmpstring", "internal/abi.NoEscape", "internal/bytealg.MakeNoZero"], unfollowed := true, recurses := true, apart := false, narrowed := true }
def WalkRenamedUptoSaid : Prop := walkRenamedUptoRow.holds Try.pinned (OpenSpec.upto walkRenamedSpec)

end Rows
end Go.Proofs.Ytjhbobjjkbppkaa
