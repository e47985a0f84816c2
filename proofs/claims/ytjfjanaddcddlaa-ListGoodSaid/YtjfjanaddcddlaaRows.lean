/-
  No cell of these rows narrows 'for every input' (looked for: loops, veiled, ifaces, maps, wideKeys, modest, calm, conditions, laid).
  DERIVED. THE GIVEN ROWS OF THIS SEAT. 6 by the template 'for every input the law returns true; each argument reads behind the call as it read before'; 0 by the template 'total and deterministic' (their statements: YtjfjanaddcddlaaTotals.lean).
  GIVEN WITH THE SEED: the statements are not yours to turn. If you find one false, say at which input.
  Laid BY PROGRAM, IN A SANDBOX (cutbox-rows.mjs): the forced cells as the released guide's own fill.sh prints them over the translation bd2d314488711896… (all of the seat's roots in one cut). By AI agents, Wed Nov 11 2026. No macro, syntax, notation, axiom, sorry.
-/
import Derived.Test.YtjfjanaddcddlaaChecked
import GoSem.Claim
import GoSem.ClaimJoined
import GoSem.ClaimMapViews
import Derived.JoinedTies
import Derived.KernelRfl
namespace Go.Proofs.Ytjfjanaddcddlaa
/- THE CELL 'sum', in the pinned program and in every row, IS THE sha256 OF THE DUMP (.gsa) THAT YtjfjanaddcddlaaProg.lean LOADS. Nothing in Lean hashes anything: it is a label: what it is worth is what the hold of that sum in a sandbox is worth. -/
noncomputable def Try.pinned : Pinned := { name := "ytjfjanaddcddlaa", sum := "bd2d314488711896a53d76617bb117e0b719d4d3b6eb9a6fdfd1619fdeaccb04", checked := Try.checked }
namespace Rows
def none {H : Type} : Left H := { results := [], args := [] }

/-- 'inkhornlaw4.ListGood': WHATEVER THE INPUT: true; the input reads as it did. -/
def listGoodSpec : ChangeSpec := { name := "listGood", fn := fun _ => fun
  | [d] => { results := [.lit (.bool true)], args := [d] }
  | _ => none }
def listGoodRow : OpenClaim := { program := "ytjfjanaddcddlaa", sum := "bd2d314488711896a53d76617bb117e0b719d4d3b6eb9a6fdfd1619fdeaccb04", func := "inkhorn/inkhornlaw4.ListGood", spec := "listGood", inPlace := ["internal/bytealg.abigen_runtime_cmpstring"], unfollowed := true, recurses := true, apart := false }
def ListGoodSaid : Prop := listGoodRow.holds Try.pinned (OpenSpec.ofChange listGoodSpec)

/-- ITS FALSE NEIGHBOUR: 'it returns false'. Refute it at one input. -/
def listGoodWrong : ChangeSpec := { name := "listGood", fn := fun _ => fun
  | [d] => { results := [.lit (.bool false)], args := [d] }
  | _ => none }
def ListGoodWrongFalsely : Prop := listGoodRow.holds Try.pinned (OpenSpec.ofChange listGoodWrong)

/-- 'inkhornlaw4.ListSorted': WHATEVER THE INPUT: true; the input reads as it did. -/
def listSortedSpec : ChangeSpec := { name := "listSorted", fn := fun _ => fun
  | [d] => { results := [.lit (.bool true)], args := [d] }
  | _ => none }
def listSortedRow : OpenClaim := { program := "ytjfjanaddcddlaa", sum := "bd2d314488711896a53d76617bb117e0b719d4d3b6eb9a6fdfd1619fdeaccb04", func := "inkhorn/inkhornlaw4.ListSorted", spec := "listSorted", inPlace := ["internal/bytealg.abigen_runtime_cmpstring"], unfollowed := true, recurses := true, apart := false }
def ListSortedSaid : Prop := listSortedRow.holds Try.pinned (OpenSpec.ofChange listSortedSpec)

/-- ITS FALSE NEIGHBOUR: 'it returns false'. Refute it at one input. -/
def listSortedWrong : ChangeSpec := { name := "listSorted", fn := fun _ => fun
  | [d] => { results := [.lit (.bool false)], args := [d] }
  | _ => none }
def ListSortedWrongFalsely : Prop := listSortedRow.holds Try.pinned (OpenSpec.ofChange listSortedWrong)

/-- 'inkhornlaw4.ListAt': WHATEVER THE INPUT: true; the input reads as it did. -/
def listAtSpec : ChangeSpec := { name := "listAt", fn := fun _ => fun
  | [d1, d2] => { results := [.lit (.bool true)], args := [d1, d2] }
  | _ => none }
def listAtRow : OpenClaim := { program := "ytjfjanaddcddlaa", sum := "bd2d314488711896a53d76617bb117e0b719d4d3b6eb9a6fdfd1619fdeaccb04", func := "inkhorn/inkhornlaw4.ListAt", spec := "listAt", inPlace := ["internal/bytealg.abigen_runtime_cmpstring"], unfollowed := true, recurses := true, apart := false }
def ListAtSaid : Prop := listAtRow.holds Try.pinned (OpenSpec.ofChange listAtSpec)

/-- ITS FALSE NEIGHBOUR: 'it returns false'. Refute it at one input. -/
def listAtWrong : ChangeSpec := { name := "listAt", fn := fun _ => fun
  | [d1, d2] => { results := [.lit (.bool false)], args := [d1, d2] }
  | _ => none }
def ListAtWrongFalsely : Prop := listAtRow.holds Try.pinned (OpenSpec.ofChange listAtWrong)

/-- 'inkhornlaw4.ListJoins': WHATEVER THE INPUT: true; the input reads as it did. -/
def listJoinsSpec : ChangeSpec := { name := "listJoins", fn := fun _ => fun
  | [d1, d2, d3] => { results := [.lit (.bool true)], args := [d1, d2, d3] }
  | _ => none }
def listJoinsRow : OpenClaim := { program := "ytjfjanaddcddlaa", sum := "bd2d314488711896a53d76617bb117e0b719d4d3b6eb9a6fdfd1619fdeaccb04", func := "inkhorn/inkhornlaw4.ListJoins", spec := "listJoins", inPlace := ["internal/bytealg.abigen_runtime_cmpstring"], unfollowed := true, recurses := true, apart := false }
def ListJoinsSaid : Prop := listJoinsRow.holds Try.pinned (OpenSpec.ofChange listJoinsSpec)

/-- ITS FALSE NEIGHBOUR: 'it returns false'. Refute it at one input. -/
def listJoinsWrong : ChangeSpec := { name := "listJoins", fn := fun _ => fun
  | [d1, d2, d3] => { results := [.lit (.bool false)], args := [d1, d2, d3] }
  | _ => none }
def ListJoinsWrongFalsely : Prop := listJoinsRow.holds Try.pinned (OpenSpec.ofChange listJoinsWrong)

/-- 'inkhornlaw4.ListParts': WHATEVER THE INPUT: true; the input reads as it did. -/
def listPartsSpec : ChangeSpec := { name := "listParts", fn := fun _ => fun
  | [d1, d2, d3] => { results := [.lit (.bool true)], args := [d1, d2, d3] }
  | _ => none }
def listPartsRow : OpenClaim := { program := "ytjfjanaddcddlaa", sum := "bd2d314488711896a53d76617bb117e0b719d4d3b6eb9a6fdfd1619fdeaccb04", func := "inkhorn/inkhornlaw4.ListParts", spec := "listParts", inPlace := ["internal/bytealg.abigen_runtime_cmpstring"], unfollowed := true, recurses := true, apart := false }
def ListPartsSaid : Prop := listPartsRow.holds Try.pinned (OpenSpec.ofChange listPartsSpec)

/-- ITS FALSE NEIGHBOUR: 'it returns false'. Refute it at one input. -/
def listPartsWrong : ChangeSpec := { name := "listParts", fn := fun _ => fun
  | [d1, d2, d3] => { results := [.lit (.bool false)], args := [d1, d2, d3] }
  | _ => none }
def ListPartsWrongFalsely : Prop := listPartsRow.holds Try.pinned (OpenSpec.ofChange listPartsWrong)

/-- 'inkhornlaw4.ListThree': WHATEVER THE INPUT: true; the input reads as it did. -/
def listThreeSpec : ChangeSpec := { name := "listThree", fn := fun _ => fun
  | [d1, d2, d3] => { results := [.lit (.bool true)], args := [d1, d2, d3] }
  | _ => none }
def listThreeRow : OpenClaim := { program := "ytjfjanaddcddlaa", sum := "bd2d314488711896a53d76617bb117e0b719d4d3b6eb9a6fdfd1619fdeaccb04", func := "inkhorn/inkhornlaw4.ListThree", spec := "listThree", inPlace := ["internal/bytealg.abigen_runtime_cmpstring"], unfollowed := true, recurses := true, apart := false }
def ListThreeSaid : Prop := listThreeRow.holds Try.pinned (OpenSpec.ofChange listThreeSpec)

/-- ITS FALSE NEIGHBOUR: 'it returns false'. Refute it at one input. -/
def listThreeWrong : ChangeSpec := { name := "listThree", fn := fun _ => fun
  | [d1, d2, d3] => { results := [.lit (.bool false)], args := [d1, d2, d3] }
  | _ => none }
def ListThreeWrongFalsely : Prop := listThreeRow.holds Try.pinned (OpenSpec.ofChange listThreeWrong)

/- THE SECOND FORM. 'bulk': how many values and letters a reading holds, each counted each time it is reached (what is shared counts as often as it is met; a slice's spare places count too). A statement '..UptoSaid' is the law's where the arguments, and the package variables that the reading takes, are together of bulk at most 1048576: NARROWER than '..Said'. Prove '..Said' where nothing that the law and all that it calls make is longer than what came in: it says more and counts as full. Else prove '..UptoSaid'. A law counts once. -/
mutual
def uptoBulk {H : Type} : DataW H → Nat
  | .lit (.string bytes) => bytes.length + 1
  | .lit _ => 1
  | .nil => 1
  | .ptr d => uptoBulk d + 1
  | .slice elems spare => uptoBulkAll elems + uptoBulkAll spare + 1
  | .agg parts => uptoBulkAll parts + 1
  | .iface _ d => uptoBulk d + 1
  | .map entries => uptoBulkEntries entries + 1
  | .held _ => 1
def uptoBulkAll {H : Type} : List (DataW H) → Nat
  | [] => 0
  | d :: r => uptoBulk d + uptoBulkAll r
def uptoBulkEntries {H : Type} : List (Lit × DataW H) → Nat
  | [] => 0
  | x :: r => uptoBulkEntry x + uptoBulkEntries r
def uptoBulkEntry {H : Type} : Lit × DataW H → Nat
  | (.string bytes, d) => bytes.length + uptoBulk d + 1
  | (_, d) => uptoBulk d + 1
 end
def uptoSmall : (H : Type) → List (DataW H) → Bool := fun _ ds => decide (uptoBulkAll ds ≤ 1048576)
def OpenSpec.upto (s : _root_.Go.ChangeSpec) : _root_.Go.OpenSpec := { _root_.Go.OpenSpec.ofChange s with cond := some uptoSmall }

/-- 'inkhornlaw4.ListGood', WHERE WHAT IT READS IS OF BULK AT MOST 1048576: true; the input reads as it did. -/
def listGoodUptoRow : OpenClaim := { program := "ytjfjanaddcddlaa", sum := "bd2d314488711896a53d76617bb117e0b719d4d3b6eb9a6fdfd1619fdeaccb04", func := "inkhorn/inkhornlaw4.ListGood", spec := "listGood", inPlace := ["internal/bytealg.abigen_runtime_cmpstring"], unfollowed := true, recurses := true, apart := false, narrowed := true }
def ListGoodUptoSaid : Prop := listGoodUptoRow.holds Try.pinned (OpenSpec.upto listGoodSpec)

/-- 'inkhornlaw4.ListSorted', WHERE WHAT IT READS IS OF BULK AT MOST 1048576: true; the input reads as it did. -/
def listSortedUptoRow : OpenClaim := { program := "ytjfjanaddcddlaa", sum := "bd2d314488711896a53d76617bb117e0b719d4d3b6eb9a6fdfd1619fdeaccb04", func := "inkhorn/inkhornlaw4.ListSorted", spec := "listSorted", inPlace := ["internal/bytealg.abigen_runtime_cmpstring"], unfollowed := true, recurses := true, apart := false, narrowed := true }
def ListSortedUptoSaid : Prop := listSortedUptoRow.holds Try.pinned (OpenSpec.upto listSortedSpec)

/-- 'inkhornlaw4.ListAt', WHERE WHAT IT READS IS OF BULK AT MOST 1048576: true; the input reads as it did. -/
def listAtUptoRow : OpenClaim := { program := "ytjfjanaddcddlaa", sum := "bd2d314488711896a53d76617bb117e0b719d4d3b6eb9a6fdfd1619fdeaccb04", func := "inkhorn/inkhornlaw4.ListAt", spec := "listAt", inPlace := ["internal/bytealg.abigen_runtime_cmpstring"], unfollowed := true, recurses := true, apart := false, narrowed := true }
def ListAtUptoSaid : Prop := listAtUptoRow.holds Try.pinned (OpenSpec.upto listAtSpec)

/-- 'inkhornlaw4.ListJoins', WHERE WHAT IT READS IS OF BULK AT MOST 1048576: true; the input reads as it did. -/
def listJoinsUptoRow : OpenClaim := { program := "ytjfjanaddcddlaa", sum := "bd2d314488711896a53d76617bb117e0b719d4d3b6eb9a6fdfd1619fdeaccb04", func := "inkhorn/inkhornlaw4.ListJoins", spec := "listJoins", inPlace := ["internal/bytealg.abigen_runtime_cmpstring"], unfollowed := true, recurses := true, apart := false, narrowed := true }
def ListJoinsUptoSaid : Prop := listJoinsUptoRow.holds Try.pinned (OpenSpec.upto listJoinsSpec)

/-- 'inkhornlaw4.ListParts', WHERE WHAT IT READS IS OF BULK AT MOST 1048576: true; the input reads as it did. -/
def listPartsUptoRow : OpenClaim := { program := "ytjfjanaddcddlaa", sum := "bd2d314488711896a53d76617bb117e0b719d4d3b6eb9a6fdfd1619fdeaccb04", func := "inkhorn/inkhornlaw4.ListParts", spec := "listParts", inPlace := ["internal/bytealg.abigen_runtime_cmpstring"], unfollowed := true, recurses := true, apart := false, narrowed := true }
def ListPartsUptoSaid : Prop := listPartsUptoRow.holds Try.pinned (OpenSpec.upto listPartsSpec)

/-- 'inkhornlaw4.ListThree', WHERE WHAT IT READS IS OF BULK AT MOST 1048576: true; the input reads as it did. -/
def listThreeUptoRow : OpenClaim := { program := "ytjfjanaddcddlaa", sum := "bd2d314488711896a53d76617bb117e0b719d4d3b6eb9a6fdfd1619fdeaccb04", func := "inkhorn/inkhornlaw4.ListThree", spec := "listThree", inPlace := ["internal/bytealg.abigen_runtime_cmpstring"], unfollowed := true, recurses := true, apart := false, narrowed := true }
def ListThreeUptoSaid : Prop := listThreeUptoRow.holds Try.pinned (OpenSpec.upto listThreeSpec)

end Rows
end Go.Proofs.Ytjfjanaddcddlaa
