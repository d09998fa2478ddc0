/-
  No cell of these rows narrows 'for every input' (looked for: loops, veiled, ifaces, maps, wideKeys, modest, calm, conditions, laid).
  DERIVED. THE GIVEN ROWS OF THIS SEAT. 5 by the template 'for every input the law returns true; each argument reads behind the call as it read before'; 0 by the template 'total and deterministic' (their statements: YtgbfmjgndcooeaaTotals.lean).
  GIVEN WITH THE SEED: the statements are not yours to turn. If you find one false, say at which input.
  Laid BY PROGRAM, IN A SANDBOX (cutbox-rows.mjs): the forced cells as the released guide's own fill.sh prints them over the translation af35a9db96a9b1a1… (all of the seat's roots in one cut). By AI agents, Wed Nov 11 2026. No macro, syntax, notation, axiom, sorry.
-/
import Derived.Test.YtgbfmjgndcooeaaChecked
import GoSem.Claim
import GoSem.ClaimJoined
import GoSem.ClaimMapViews
import Derived.JoinedTies
import Derived.KernelRfl
namespace Go.Proofs.Ytgbfmjgndcooeaa
/- THE CELL 'sum', in the pinned program and in every row, IS THE sha256 OF THE DUMP (.gsa) THAT YtgbfmjgndcooeaaProg.lean LOADS. Nothing in Lean hashes anything: it is a label: what it is worth is what the hold of that sum in a sandbox is worth. -/
noncomputable def Try.pinned : Pinned := { name := "ytgbfmjgndcooeaa", sum := "af35a9db96a9b1a15dddd27fb2e91e9ec14ba8b4ce4141077aac1010c381dce2", checked := Try.checked }
namespace Rows
def none {H : Type} : Left H := { results := [], args := [] }

/-- 'laws.FnExactConstants': WHATEVER THE INPUT: true; the input reads as it did. -/
def fnExactConstantsSpec : ChangeSpec := { name := "fnExactConstants", fn := fun _ => fun
  | [] => { results := [.lit (.bool true)], args := [] }
  | _ => none }
def fnExactConstantsRow : OpenClaim := { program := "ytgbfmjgndcooeaa", sum := "af35a9db96a9b1a15dddd27fb2e91e9ec14ba8b4ce4141077aac1010c381dce2", func := "loop.example/wharflog/laws.FnExactConstants", spec := "fnExactConstants", apart := false }
def FnExactConstantsSaid : Prop := fnExactConstantsRow.holds Try.pinned (OpenSpec.ofChange fnExactConstantsSpec)

/-- ITS FALSE NEIGHBOUR: 'it returns false'. Refute it at one input. -/
def fnExactConstantsWrong : ChangeSpec := { name := "fnExactConstants", fn := fun _ => fun
  | [] => { results := [.lit (.bool false)], args := [] }
  | _ => none }
def FnExactConstantsWrongFalsely : Prop := fnExactConstantsRow.holds Try.pinned (OpenSpec.ofChange fnExactConstantsWrong)

/-- 'laws.FnExactRecNextBallot': WHATEVER THE INPUT: true; the input reads as it did. -/
def fnExactRecNextBallotSpec : ChangeSpec := { name := "fnExactRecNextBallot", fn := fun _ => fun
  | [d1, d2, d3] => { results := [.lit (.bool true)], args := [d1, d2, d3] }
  | _ => none }
def fnExactRecNextBallotRow : OpenClaim := { program := "ytgbfmjgndcooeaa", sum := "af35a9db96a9b1a15dddd27fb2e91e9ec14ba8b4ce4141077aac1010c381dce2", func := "loop.example/wharflog/laws.FnExactRecNextBallot", spec := "fnExactRecNextBallot", apart := false }
def FnExactRecNextBallotSaid : Prop := fnExactRecNextBallotRow.holds Try.pinned (OpenSpec.ofChange fnExactRecNextBallotSpec)

/-- ITS FALSE NEIGHBOUR: 'it returns false'. Refute it at one input. -/
def fnExactRecNextBallotWrong : ChangeSpec := { name := "fnExactRecNextBallot", fn := fun _ => fun
  | [d1, d2, d3] => { results := [.lit (.bool false)], args := [d1, d2, d3] }
  | _ => none }
def FnExactRecNextBallotWrongFalsely : Prop := fnExactRecNextBallotRow.holds Try.pinned (OpenSpec.ofChange fnExactRecNextBallotWrong)

/-- 'laws.FnExactRecMerge': WHATEVER THE INPUT: true; the input reads as it did. -/
def fnExactRecMergeSpec : ChangeSpec := { name := "fnExactRecMerge", fn := fun _ => fun
  | [d1, d2] => { results := [.lit (.bool true)], args := [d1, d2] }
  | _ => none }
def fnExactRecMergeRow : OpenClaim := { program := "ytgbfmjgndcooeaa", sum := "af35a9db96a9b1a15dddd27fb2e91e9ec14ba8b4ce4141077aac1010c381dce2", func := "loop.example/wharflog/laws.FnExactRecMerge", spec := "fnExactRecMerge", apart := false }
def FnExactRecMergeSaid : Prop := fnExactRecMergeRow.holds Try.pinned (OpenSpec.ofChange fnExactRecMergeSpec)

/-- ITS FALSE NEIGHBOUR: 'it returns false'. Refute it at one input. -/
def fnExactRecMergeWrong : ChangeSpec := { name := "fnExactRecMerge", fn := fun _ => fun
  | [d1, d2] => { results := [.lit (.bool false)], args := [d1, d2] }
  | _ => none }
def FnExactRecMergeWrongFalsely : Prop := fnExactRecMergeRow.holds Try.pinned (OpenSpec.ofChange fnExactRecMergeWrong)

/-- 'laws.FnExactRecDiskOk': WHATEVER THE INPUT: true; the input reads as it did. -/
def fnExactRecDiskOkSpec : ChangeSpec := { name := "fnExactRecDiskOk", fn := fun _ => fun
  | [d] => { results := [.lit (.bool true)], args := [d] }
  | _ => none }
def fnExactRecDiskOkRow : OpenClaim := { program := "ytgbfmjgndcooeaa", sum := "af35a9db96a9b1a15dddd27fb2e91e9ec14ba8b4ce4141077aac1010c381dce2", func := "loop.example/wharflog/laws.FnExactRecDiskOk", spec := "fnExactRecDiskOk", apart := false }
def FnExactRecDiskOkSaid : Prop := fnExactRecDiskOkRow.holds Try.pinned (OpenSpec.ofChange fnExactRecDiskOkSpec)

/-- ITS FALSE NEIGHBOUR: 'it returns false'. Refute it at one input. -/
def fnExactRecDiskOkWrong : ChangeSpec := { name := "fnExactRecDiskOk", fn := fun _ => fun
  | [d] => { results := [.lit (.bool false)], args := [d] }
  | _ => none }
def FnExactRecDiskOkWrongFalsely : Prop := fnExactRecDiskOkRow.holds Try.pinned (OpenSpec.ofChange fnExactRecDiskOkWrong)

/-- 'laws.FnExactRecMessageOk': WHATEVER THE INPUT: true; the input reads as it did. -/
def fnExactRecMessageOkSpec : ChangeSpec := { name := "fnExactRecMessageOk", fn := fun _ => fun
  | [d1, d2] => { results := [.lit (.bool true)], args := [d1, d2] }
  | _ => none }
def fnExactRecMessageOkRow : OpenClaim := { program := "ytgbfmjgndcooeaa", sum := "af35a9db96a9b1a15dddd27fb2e91e9ec14ba8b4ce4141077aac1010c381dce2", func := "loop.example/wharflog/laws.FnExactRecMessageOk", spec := "fnExactRecMessageOk", apart := false }
def FnExactRecMessageOkSaid : Prop := fnExactRecMessageOkRow.holds Try.pinned (OpenSpec.ofChange fnExactRecMessageOkSpec)

/-- ITS FALSE NEIGHBOUR: 'it returns false'. Refute it at one input. -/
def fnExactRecMessageOkWrong : ChangeSpec := { name := "fnExactRecMessageOk", fn := fun _ => fun
  | [d1, d2] => { results := [.lit (.bool false)], args := [d1, d2] }
  | _ => none }
def FnExactRecMessageOkWrongFalsely : Prop := fnExactRecMessageOkRow.holds Try.pinned (OpenSpec.ofChange fnExactRecMessageOkWrong)

/- THE SECOND FORM. 'bulk': how many values and letters a reading holds, each counted each time it is reached (what is shared counts as often as it is met; a slice's spare places count too). A statement '..UptoSaid' is the law's where the arguments, and the package variables that the reading takes, are together of bulk at most 1048576: NARROWER than '..Said'. Prove '..Said' where nothing that the law and all that it calls make is longer than what came in: it says more and counts as full. Else prove '..UptoSaid'. A law counts once. -/
mutual
def uptoBulk {H : Type} : DataW H → Nat
  | .lit (.string bytes) => bytes.length + 1
  | .lit _ => 1
  | .nil => 1
  | .ptr d => uptoBulk d + 1
  | .slice elems spare => uptoBulkAll elems + uptoBulkAll spare + 1
  | .agg parts => uptoBulkAll parts + 1
  | .iface _ d => uptoBulk d + 1
  | .map entries => uptoBulkEntries entries + 1
  | .held _ => 1
def uptoBulkAll {H : Type} : List (DataW H) → Nat
  | [] => 0
  | d :: r => uptoBulk d + uptoBulkAll r
def uptoBulkEntries {H : Type} : List (Lit × DataW H) → Nat
  | [] => 0
  | x :: r => uptoBulkEntry x + uptoBulkEntries r
def uptoBulkEntry {H : Type} : Lit × DataW H → Nat
  | (.string bytes, d) => bytes.length + uptoBulk d + 1
  | (_, d) => uptoBulk d + 1
 end
def uptoSmall : (H : Type) → List (DataW H) → Bool := fun _ ds => decide (uptoBulkAll ds ≤ 1048576)
def OpenSpec.upto (s : _root_.Go.ChangeSpec) : _root_.Go.OpenSpec := { _root_.Go.OpenSpec.ofChange s with cond := some uptoSmall }

/-- 'laws.FnExactConstants', WHERE WHAT IT READS IS OF BULK AT MOST 1048576: true; the input reads as it did. -/
def fnExactConstantsUptoRow : OpenClaim := { program := "ytgbfmjgndcooeaa", sum := "af35a9db96a9b1a15dddd27fb2e91e9ec14ba8b4ce4141077aac1010c381dce2", func := "loop.example/wharflog/laws.FnExactConstants", spec := "fnExactConstants", apart := false, narrowed := true }
def FnExactConstantsUptoSaid : Prop := fnExactConstantsUptoRow.holds Try.pinned (OpenSpec.upto fnExactConstantsSpec)

/-- 'laws.FnExactRecNextBallot', WHERE WHAT IT READS IS OF BULK AT MOST 1048576: true; the input reads as it did. -/
def fnExactRecNextBallotUptoRow : OpenClaim := { program := "ytgbfmjgndcooeaa", sum := "af35a9db96a9b1a15dddd27fb2e91e9ec14ba8b4ce4141077aac1010c381dce2", func := "loop.example/wharflog/laws.FnExactRecNextBallot", spec := "fnExactRecNextBallot", apart := false, narrowed := true }
def FnExactRecNextBallotUptoSaid : Prop := fnExactRecNextBallotUptoRow.holds Try.pinned (OpenSpec.upto fnExactRecNextBallotSpec)

/-- 'laws.FnExactRecMerge', WHERE WHAT IT READS IS OF BULK AT MOST 1048576: true; the input reads as it did. -/
def fnExactRecMergeUptoRow : OpenClaim := { program := "ytgbfmjgndcooeaa", sum := "af35a9db96a9b1a15dddd27fb2e91e9ec14ba8b4ce4141077aac1010c381dce2", func := "loop.example/wharflog/laws.FnExactRecMerge", spec := "fnExactRecMerge", apart := false, narrowed := true }
def FnExactRecMergeUptoSaid : Prop := fnExactRecMergeUptoRow.holds Try.pinned (OpenSpec.upto fnExactRecMergeSpec)

/-- 'laws.FnExactRecDiskOk', WHERE WHAT IT READS IS OF BULK AT MOST 1048576: true; the input reads as it did. -/
def fnExactRecDiskOkUptoRow : OpenClaim := { program := "ytgbfmjgndcooeaa", sum := "af35a9db96a9b1a15dddd27fb2e91e9ec14ba8b4ce4141077aac1010c381dce2", func := "loop.example/wharflog/laws.FnExactRecDiskOk", spec := "fnExactRecDiskOk", apart := false, narrowed := true }
def FnExactRecDiskOkUptoSaid : Prop := fnExactRecDiskOkUptoRow.holds Try.pinned (OpenSpec.upto fnExactRecDiskOkSpec)

/-- 'laws.FnExactRecMessageOk', WHERE WHAT IT READS IS OF BULK AT MOST 1048576: true; the input reads as it did. -/
def fnExactRecMessageOkUptoRow : OpenClaim := { program := "ytgbfmjgndcooeaa", sum := "af35a9db96a9b1a15dddd27fb2e91e9ec14ba8b4ce4141077aac1010c381dce2", func := "loop.example/wharflog/laws.FnExactRecMessageOk", spec := "fnExactRecMessageOk", apart := false, narrowed := true }
def FnExactRecMessageOkUptoSaid : Prop := fnExactRecMessageOkUptoRow.holds Try.pinned (OpenSpec.upto fnExactRecMessageOkSpec)

end Rows
end Go.Proofs.Ytgbfmjgndcooeaa
