/-
  No cell of these rows narrows 'for every input' (looked for: loops, veiled, ifaces, maps, wideKeys, modest, calm, conditions, laid).
  DERIVED. THE GIVEN ROWS OF THIS SEAT. 8 by the template 'for every input the law returns true; each argument reads behind the call as it read before'; 0 by the template 'total and deterministic' (their statements: YtjideiielmlccaaGreatTotals.lean).
  GIVEN WITH THE SEED: the statements are not yours to turn. If you find one false, say at which input.
  Laid BY PROGRAM, IN A SANDBOX (cutbox-rows.mjs): the forced cells as the released guide's own fill.sh prints them over the translation 9d5a3132b9352a24… (all of the seat's roots in one cut). By AI agents, Wed Nov 11 2026. No macro, syntax, notation, axiom, sorry.
-/
import Derived.Test.YtjideiielmlccaaGreatChecked
import GoSem.Claim
import GoSem.ClaimJoined
import GoSem.ClaimMapViews
import Derived.JoinedTies
import Derived.KernelRfl
namespace Go.Proofs.YtjideiielmlccaaGreat
/- THE CELL 'sum', in the pinned program and in every row, IS THE sha256 OF THE DUMP (.gsa) THAT YtjideiielmlccaaGreatProg.lean LOADS. Nothing in Lean hashes anything: it is a label: what it is worth is what the hold of that sum in a sandbox is worth. -/
noncomputable def Tryz.pinned : Pinned := { name := "ytjideiielmlccaagreat", sum := "9d5a3132b9352a24685345dcc87bba91801ea9f0cff2d806cfa8d9019909ddd8", checked := Tryz.checked }
namespace Rows
def none {H : Type} : Left H := { results := [], args := [] }

/-- 'inkhornlaw21.WorkerOnce': WHATEVER THE INPUT: true; the input reads as it did. -/
def workerOnceSpec : ChangeSpec := { name := "workerOnce", fn := fun _ => fun
  | [d1, d2, d3, d4] => { results := [.lit (.bool true)], args := [d1, d2, d3, d4] }
  | _ => none }
def workerOnceRow : OpenClaim := { program := "ytjideiielmlccaagreat", sum := "9d5a3132b9352a24685345dcc87bba91801ea9f0cff2d806cfa8d9019909ddd8", func := "inkhorn/inkhornlaw21.WorkerOnce", spec := "workerOnce", inPlace := ["internal/bytealg.abigen_runtime_cmpstring", "internal/abi.NoEscape", "internal/bytealg.MakeNoZero"], unfollowed := true, recurses := true, plainKeys := false, apart := false }
def WorkerOnceSaid : Prop := workerOnceRow.holds Tryz.pinned (OpenSpec.ofChange workerOnceSpec)

/-- ITS FALSE NEIGHBOUR: 'it returns false'. Refute it at one input. -/
def workerOnceWrong : ChangeSpec := { name := "workerOnce", fn := fun _ => fun
  | [d1, d2, d3, d4] => { results := [.lit (.bool false)], args := [d1, d2, d3, d4] }
  | _ => none }
def WorkerOnceWrongFalsely : Prop := workerOnceRow.holds Tryz.pinned (OpenSpec.ofChange workerOnceWrong)

/-- 'inkhornlaw21.WorkerEpochs': WHATEVER THE INPUT: true; the input reads as it did. -/
def workerEpochsSpec : ChangeSpec := { name := "workerEpochs", fn := fun _ => fun
  | [d1, d2] => { results := [.lit (.bool true)], args := [d1, d2] }
  | _ => none }
def workerEpochsRow : OpenClaim := { program := "ytjideiielmlccaagreat", sum := "9d5a3132b9352a24685345dcc87bba91801ea9f0cff2d806cfa8d9019909ddd8", func := "inkhorn/inkhornlaw21.WorkerEpochs", spec := "workerEpochs", inPlace := ["internal/bytealg.abigen_runtime_cmpstring", "internal/abi.NoEscape", "internal/bytealg.MakeNoZero"], unfollowed := true, recurses := true, plainKeys := false, apart := false }
def WorkerEpochsSaid : Prop := workerEpochsRow.holds Tryz.pinned (OpenSpec.ofChange workerEpochsSpec)

/-- ITS FALSE NEIGHBOUR: 'it returns false'. Refute it at one input. -/
def workerEpochsWrong : ChangeSpec := { name := "workerEpochs", fn := fun _ => fun
  | [d1, d2] => { results := [.lit (.bool false)], args := [d1, d2] }
  | _ => none }
def WorkerEpochsWrongFalsely : Prop := workerEpochsRow.holds Tryz.pinned (OpenSpec.ofChange workerEpochsWrong)

/-- 'inkhornlaw21.WorkerRots': WHATEVER THE INPUT: true; the input reads as it did. -/
def workerRotsSpec : ChangeSpec := { name := "workerRots", fn := fun _ => fun
  | [d1, d2, d3, d4] => { results := [.lit (.bool true)], args := [d1, d2, d3, d4] }
  | _ => none }
def workerRotsRow : OpenClaim := { program := "ytjideiielmlccaagreat", sum := "9d5a3132b9352a24685345dcc87bba91801ea9f0cff2d806cfa8d9019909ddd8", func := "inkhorn/inkhornlaw21.WorkerRots", spec := "workerRots", inPlace := ["internal/bytealg.abigen_runtime_cmpstring", "internal/abi.NoEscape", "internal/bytealg.MakeNoZero"], unfollowed := true, recurses := true, plainKeys := false, apart := false }
def WorkerRotsSaid : Prop := workerRotsRow.holds Tryz.pinned (OpenSpec.ofChange workerRotsSpec)

/-- ITS FALSE NEIGHBOUR: 'it returns false'. Refute it at one input. -/
def workerRotsWrong : ChangeSpec := { name := "workerRots", fn := fun _ => fun
  | [d1, d2, d3, d4] => { results := [.lit (.bool false)], args := [d1, d2, d3, d4] }
  | _ => none }
def WorkerRotsWrongFalsely : Prop := workerRotsRow.holds Tryz.pinned (OpenSpec.ofChange workerRotsWrong)

/-- 'inkhornlaw21.WorkerNone': WHATEVER THE INPUT: true; the input reads as it did. -/
def workerNoneSpec : ChangeSpec := { name := "workerNone", fn := fun _ => fun
  | [d] => { results := [.lit (.bool true)], args := [d] }
  | _ => none }
def workerNoneRow : OpenClaim := { program := "ytjideiielmlccaagreat", sum := "9d5a3132b9352a24685345dcc87bba91801ea9f0cff2d806cfa8d9019909ddd8", func := "inkhorn/inkhornlaw21.WorkerNone", spec := "workerNone", inPlace := ["internal/bytealg.abigen_runtime_cmpstring", "internal/abi.NoEscape", "internal/bytealg.MakeNoZero"], unfollowed := true, recurses := true, plainKeys := false, apart := false }
def WorkerNoneSaid : Prop := workerNoneRow.holds Tryz.pinned (OpenSpec.ofChange workerNoneSpec)

/-- ITS FALSE NEIGHBOUR: 'it returns false'. Refute it at one input. -/
def workerNoneWrong : ChangeSpec := { name := "workerNone", fn := fun _ => fun
  | [d] => { results := [.lit (.bool false)], args := [d] }
  | _ => none }
def WorkerNoneWrongFalsely : Prop := workerNoneRow.holds Tryz.pinned (OpenSpec.ofChange workerNoneWrong)

/-- 'inkhornlaw21.WorkerScript': WHATEVER THE INPUT: true; the input reads as it did. -/
def workerScriptSpec : ChangeSpec := { name := "workerScript", fn := fun _ => fun
  | [d1, d2, d3] => { results := [.lit (.bool true)], args := [d1, d2, d3] }
  | _ => none }
def workerScriptRow : OpenClaim := { program := "ytjideiielmlccaagreat", sum := "9d5a3132b9352a24685345dcc87bba91801ea9f0cff2d806cfa8d9019909ddd8", func := "inkhorn/inkhornlaw21.WorkerScript", spec := "workerScript", inPlace := ["internal/bytealg.abigen_runtime_cmpstring", "internal/abi.NoEscape", "internal/bytealg.MakeNoZero"], unfollowed := true, recurses := true, plainKeys := false, apart := false }
def WorkerScriptSaid : Prop := workerScriptRow.holds Tryz.pinned (OpenSpec.ofChange workerScriptSpec)

/-- ITS FALSE NEIGHBOUR: 'it returns false'. Refute it at one input. -/
def workerScriptWrong : ChangeSpec := { name := "workerScript", fn := fun _ => fun
  | [d1, d2, d3] => { results := [.lit (.bool false)], args := [d1, d2, d3] }
  | _ => none }
def WorkerScriptWrongFalsely : Prop := workerScriptRow.holds Tryz.pinned (OpenSpec.ofChange workerScriptWrong)

/-- 'inkhornlaw21.WorkerDeaf': WHATEVER THE INPUT: true; the input reads as it did. -/
def workerDeafSpec : ChangeSpec := { name := "workerDeaf", fn := fun _ => fun
  | [d1, d2, d3, d4] => { results := [.lit (.bool true)], args := [d1, d2, d3, d4] }
  | _ => none }
def workerDeafRow : OpenClaim := { program := "ytjideiielmlccaagreat", sum := "9d5a3132b9352a24685345dcc87bba91801ea9f0cff2d806cfa8d9019909ddd8", func := "inkhorn/inkhornlaw21.WorkerDeaf", spec := "workerDeaf", inPlace := ["internal/bytealg.abigen_runtime_cmpstring", "internal/abi.NoEscape", "internal/bytealg.MakeNoZero"], unfollowed := true, recurses := true, plainKeys := false, apart := false }
def WorkerDeafSaid : Prop := workerDeafRow.holds Tryz.pinned (OpenSpec.ofChange workerDeafSpec)

/-- ITS FALSE NEIGHBOUR: 'it returns false'. Refute it at one input. -/
def workerDeafWrong : ChangeSpec := { name := "workerDeaf", fn := fun _ => fun
  | [d1, d2, d3, d4] => { results := [.lit (.bool false)], args := [d1, d2, d3, d4] }
  | _ => none }
def WorkerDeafWrongFalsely : Prop := workerDeafRow.holds Tryz.pinned (OpenSpec.ofChange workerDeafWrong)

/-- 'inkhornlaw21.WorkerServes': WHATEVER THE INPUT: true; the input reads as it did. -/
def workerServesSpec : ChangeSpec := { name := "workerServes", fn := fun _ => fun
  | [d1, d2, d3] => { results := [.lit (.bool true)], args := [d1, d2, d3] }
  | _ => none }
def workerServesRow : OpenClaim := { program := "ytjideiielmlccaagreat", sum := "9d5a3132b9352a24685345dcc87bba91801ea9f0cff2d806cfa8d9019909ddd8", func := "inkhorn/inkhornlaw21.WorkerServes", spec := "workerServes", inPlace := ["internal/bytealg.abigen_runtime_cmpstring", "internal/abi.NoEscape", "internal/bytealg.MakeNoZero"], unfollowed := true, recurses := true, plainKeys := false, apart := false }
def WorkerServesSaid : Prop := workerServesRow.holds Tryz.pinned (OpenSpec.ofChange workerServesSpec)

/-- ITS FALSE NEIGHBOUR: 'it returns false'. Refute it at one input. -/
def workerServesWrong : ChangeSpec := { name := "workerServes", fn := fun _ => fun
  | [d1, d2, d3] => { results := [.lit (.bool false)], args := [d1, d2, d3] }
  | _ => none }
def WorkerServesWrongFalsely : Prop := workerServesRow.holds Tryz.pinned (OpenSpec.ofChange workerServesWrong)

/-- 'inkhornlaw21.WorkerAnswers': WHATEVER THE INPUT: true; the input reads as it did. -/
def workerAnswersSpec : ChangeSpec := { name := "workerAnswers", fn := fun _ => fun
  | [d1, d2, d3, d4] => { results := [.lit (.bool true)], args := [d1, d2, d3, d4] }
  | _ => none }
def workerAnswersRow : OpenClaim := { program := "ytjideiielmlccaagreat", sum := "9d5a3132b9352a24685345dcc87bba91801ea9f0cff2d806cfa8d9019909ddd8", func := "inkhorn/inkhornlaw21.WorkerAnswers", spec := "workerAnswers", inPlace := ["internal/bytealg.abigen_runtime_cmpstring", "internal/abi.NoEscape", "internal/bytealg.MakeNoZero"], unfollowed := true, recurses := true, plainKeys := false, apart := false }
def WorkerAnswersSaid : Prop := workerAnswersRow.holds Tryz.pinned (OpenSpec.ofChange workerAnswersSpec)

/-- ITS FALSE NEIGHBOUR: 'it returns false'. Refute it at one input. -/
def workerAnswersWrong : ChangeSpec := { name := "workerAnswers", fn := fun _ => fun
  | [d1, d2, d3, d4] => { results := [.lit (.bool false)], args := [d1, d2, d3, d4] }
  | _ => none }
def WorkerAnswersWrongFalsely : Prop := workerAnswersRow.holds Tryz.pinned (OpenSpec.ofChange workerAnswersWrong)

/- THE SECOND FORM. 'bulk': how many values and letters a reading holds, each counted each time it is reached (what is shared counts as often as it is met; a slice's spare places count too). A statement '..UptoSaid' is the law's where the arguments, and the package variables that the reading takes, are together of bulk at most 1048576: NARROWER than '..Said'. Prove '..Said' where nothing that the law and all that it calls make is longer than what came in: it says more and counts as full. Else prove '..UptoSaid'. A law counts once. -/
mutual
def uptoBulk {H : Type} : DataW H → Nat
  | .lit (.string bytes) => bytes.length + 1
  | .lit _ => 1
  | .nil => 1
  | .ptr d => uptoBulk d + 1
  | .slice elems spare => uptoBulkAll elems + uptoBulkAll spare + 1
  | .agg parts => uptoBulkAll parts + 1
  | .iface _ d => uptoBulk d + 1
  | .map entries => uptoBulkEntries entries + 1
  | .held _ => 1
def uptoBulkAll {H : Type} : List (DataW H) → Nat
  | [] => 0
  | d :: r => uptoBulk d + uptoBulkAll r
def uptoBulkEntries {H : Type} : List (Lit × DataW H) → Nat
  | [] => 0
  | x :: r => uptoBulkEntry x + uptoBulkEntries r
def uptoBulkEntry {H : Type} : Lit × DataW H → Nat
  | (.string bytes, d) => bytes.length + uptoBulk d + 1
  | (_, d) => uptoBulk d + 1
 end
def uptoSmall : (H : Type) → List (DataW H) → Bool := fun _ ds => decide (uptoBulkAll ds ≤ 1048576)
def OpenSpec.upto (s : _root_.Go.ChangeSpec) : _root_.Go.OpenSpec := { _root_.Go.OpenSpec.ofChange s with cond := some uptoSmall }

/-- 'inkhornlaw21.WorkerOnce', WHERE WHAT IT READS IS OF BULK AT MOST 1048576: true; the input reads as it did. -/
def workerOnceUptoRow : OpenClaim := { program := "ytjideiielmlccaagreat", sum := "9d5a3132b9352a24685345dcc87bba91801ea9f0cff2d806cfa8d9019909ddd8", func := "inkhorn/inkhornlaw21.WorkerOnce", spec := "workerOnce", inPlace := ["internal/bytealg.abigen_runtime_cmpstring", "internal/abi.NoEscape", "internal/bytealg.MakeNoZero"], unfollowed := true, recurses := true, plainKeys := false, apart := false, narrowed := true }
def WorkerOnceUptoSaid : Prop := workerOnceUptoRow.holds Tryz.pinned (OpenSpec.upto workerOnceSpec)

/-- 'inkhornlaw21.WorkerEpochs', WHERE WHAT IT READS IS OF BULK AT MOST 1048576: true; the input reads as it did. -/
def workerEpochsUptoRow : OpenClaim := { program := "ytjideiielmlccaagreat", sum := "9d5a3132b9352a24685345dcc87bba91801ea9f0cff2d806cfa8d9019909ddd8", func := "inkhorn/inkhornlaw21.WorkerEpochs", spec := "workerEpochs", inPlace := ["internal/bytealg.abigen_runtime_cmpstring", "internal/abi.NoEscape", "internal/bytealg.MakeNoZero"], unfollowed := true, recurses := true, plainKeys := false, apart := false, narrowed := true }
def WorkerEpochsUptoSaid : Prop := workerEpochsUptoRow.holds Tryz.pinned (OpenSpec.upto workerEpochsSpec)

/-- 'inkhornlaw21.WorkerRots', WHERE WHAT IT READS IS OF BULK AT MOST 1048576: true; the input reads as it did. -/
def workerRotsUptoRow : OpenClaim := { program := "ytjideiielmlccaagreat", sum := "9d5a3132b9352a24685345dcc87bba91801ea9f0cff2d806cfa8d9019909ddd8", func := "inkhorn/inkhornlaw21.WorkerRots", spec := "workerRots", inPlace := ["internal/bytealg.abigen_runtime_cmpstring", "internal/abi.NoEscape", "internal/bytealg.MakeNoZero"], unfollowed := true, recurses := true, plainKeys := false, apart := false, narrowed := true }
def WorkerRotsUptoSaid : Prop := workerRotsUptoRow.holds Tryz.pinned (OpenSpec.upto workerRotsSpec)

/-- 'inkhornlaw21.WorkerNone', WHERE WHAT IT READS IS OF BULK AT MOST 1048576: true; the input reads as it did. -/
def workerNoneUptoRow : OpenClaim := { program := "ytjideiielmlccaagreat", sum := "9d5a3132b9352a24685345dcc87bba91801ea9f0cff2d806cfa8d9019909ddd8", func := "inkhorn/inkhornlaw21.WorkerNone", spec := "workerNone", inPlace := ["internal/bytealg.abigen_runtime_cmpstring", "internal/abi.NoEscape", "internal/bytealg.MakeNoZero"], unfollowed := true, recurses := true, plainKeys := false, apart := false, narrowed := true }
def WorkerNoneUptoSaid : Prop := workerNoneUptoRow.holds Tryz.pinned (OpenSpec.upto workerNoneSpec)

/-- 'inkhornlaw21.WorkerScript', WHERE WHAT IT READS IS OF BULK AT MOST 1048576: true; the input reads as it did. -/
def workerScriptUptoRow : OpenClaim := { program := "ytjideiielmlccaagreat", sum := "9d5a3132b9352a24685345dcc87bba91801ea9f0cff2d806cfa8d9019909ddd8", func := "inkhorn/inkhornlaw21.WorkerScript", spec := "workerScript", inPlace := ["internal/bytealg.abigen_runtime_cmpstring", "internal/abi.NoEscape", "internal/bytealg.MakeNoZero"], unfollowed := true, recurses := true, plainKeys := false, apart := false, narrowed := true }
def WorkerScriptUptoSaid : Prop := workerScriptUptoRow.holds Tryz.pinned (OpenSpec.upto workerScriptSpec)

/-- 'inkhornlaw21.WorkerDeaf', WHERE WHAT IT READS IS OF BULK AT MOST 1048576: true; the input reads as it did. -/
def workerDeafUptoRow : OpenClaim := { program := "ytjideiielmlccaagreat", sum := "9d5a3132b9352a24685345dcc87bba91801ea9f0cff2d806cfa8d9019909ddd8", func := "inkhorn/inkhornlaw21.WorkerDeaf", spec := "workerDeaf", inPlace := ["internal/bytealg.abigen_runtime_cmpstring", "internal/abi.NoEscape", "internal/bytealg.MakeNoZero"], unfollowed := true, recurses := true, plainKeys := false, apart := false, narrowed := true }
def WorkerDeafUptoSaid : Prop := workerDeafUptoRow.holds Tryz.pinned (OpenSpec.upto workerDeafSpec)

/-- 'inkhornlaw21.WorkerServes', WHERE WHAT IT READS IS OF BULK AT MOST 1048576: true; the input reads as it did. -/
def workerServesUptoRow : OpenClaim := { program := "ytjideiielmlccaagreat", sum := "9d5a3132b9352a24685345dcc87bba91801ea9f0cff2d806cfa8d9019909ddd8", func := "inkhorn/inkhornlaw21.WorkerServes", spec := "workerServes", inPlace := ["internal/bytealg.abigen_runtime_cmpstring", "internal/abi.NoEscape", "internal/bytealg.MakeNoZero"], unfollowed := true, recurses := true, plainKeys := false, apart := false, narrowed := true }
def WorkerServesUptoSaid : Prop := workerServesUptoRow.holds Tryz.pinned (OpenSpec.upto workerServesSpec)

/-- 'inkhornlaw21.WorkerAnswers', WHERE WHAT IT READS IS OF BULK AT MOST 1048576: true; the input reads as it did. -/
def workerAnswersUptoRow : OpenClaim := { program := "ytjideiielmlccaagreat", sum := "9d5a3132b9352a24685345dcc87bba91801ea9f0cff2d806cfa8d9019909ddd8", func := "inkhorn/inkhornlaw21.WorkerAnswers", spec := "workerAnswers", inPlace := ["internal/bytealg.abigen_runtime_cmpstring", "internal/abi.NoEscape", "internal/bytealg.MakeNoZero"], unfollowed := true, recurses := true, plainKeys := false, apart := false, narrowed := true }
def WorkerAnswersUptoSaid : Prop := workerAnswersUptoRow.holds Tryz.pinned (OpenSpec.upto workerAnswersSpec)

end Rows
end Go.Proofs.YtjideiielmlccaaGreat
