/-
  No cell of these rows narrows 'for every input' (looked for: loops, veiled, ifaces, maps, wideKeys, modest, calm, conditions, laid).
  DERIVED. THE GIVEN ROWS OF THIS SEAT. 3 by the template 'for every input the law returns true; each argument reads behind the call as it read before'; 0 by the template 'total and deterministic' (their statements: YtgekblcbdhjmfaaTotals.lean).
  GIVEN WITH THE SEED: the statements are not yours to turn. If you find one false, say at which input.
  Laid BY PROGRAM, IN A SANDBOX (cutbox-rows.mjs): the forced cells as the released guide's own fill.sh prints them over the translation 906182839b688273… (all of the seat's roots in one cut). By AI agents, Wed Nov 11 2026. No macro, syntax, notation, axiom, sorry.
-/
import Derived.Test.YtgekblcbdhjmfaaChecked
import GoSem.Claim
import GoSem.ClaimJoined
import GoSem.ClaimMapViews
import Derived.JoinedTies
import Derived.KernelRfl
namespace Go.Proofs.Ytgekblcbdhjmfaa
/- THE CELL 'sum', in the pinned program and in every row, IS THE sha256 OF THE DUMP (.gsa) THAT YtgekblcbdhjmfaaProg.lean LOADS. Nothing in Lean hashes anything: it is a label: what it is worth is what the hold of that sum in a sandbox is worth. -/
noncomputable def Try.pinned : Pinned := { name := "ytgekblcbdhjmfaa", sum := "906182839b688273e6a5e1839003ce619d6f44eb628778ff98ab9a914a96f02f", checked := Try.checked }
namespace Rows
def none {H : Type} : Left H := { results := [], args := [] }

/-- 'laws.FnBookWatch': WHATEVER THE INPUT: true; the input reads as it did. -/
def fnBookWatchSpec : ChangeSpec := { name := "fnBookWatch", fn := fun _ => fun
  | [d] => { results := [.lit (.bool true)], args := [d] }
  | _ => none }
def fnBookWatchRow : OpenClaim := { program := "ytgekblcbdhjmfaa", sum := "906182839b688273e6a5e1839003ce619d6f44eb628778ff98ab9a914a96f02f", func := "loop.example/wharflog/laws.FnBookWatch", spec := "fnBookWatch", inPlace := ["internal/bytealg.abigen_runtime_cmpstring"], recurses := true, plainKeys := false, apart := false }
def FnBookWatchSaid : Prop := fnBookWatchRow.holds Try.pinned (OpenSpec.ofChange fnBookWatchSpec)

/-- ITS FALSE NEIGHBOUR: 'it returns false'. Refute it at one input. -/
def fnBookWatchWrong : ChangeSpec := { name := "fnBookWatch", fn := fun _ => fun
  | [d] => { results := [.lit (.bool false)], args := [d] }
  | _ => none }
def FnBookWatchWrongFalsely : Prop := fnBookWatchRow.holds Try.pinned (OpenSpec.ofChange fnBookWatchWrong)

/-- 'laws.FnBookCut': WHATEVER THE INPUT: true; the input reads as it did. -/
def fnBookCutSpec : ChangeSpec := { name := "fnBookCut", fn := fun _ => fun
  | [d] => { results := [.lit (.bool true)], args := [d] }
  | _ => none }
def fnBookCutRow : OpenClaim := { program := "ytgekblcbdhjmfaa", sum := "906182839b688273e6a5e1839003ce619d6f44eb628778ff98ab9a914a96f02f", func := "loop.example/wharflog/laws.FnBookCut", spec := "fnBookCut", inPlace := ["internal/bytealg.abigen_runtime_cmpstring"], recurses := true, plainKeys := false, apart := false }
def FnBookCutSaid : Prop := fnBookCutRow.holds Try.pinned (OpenSpec.ofChange fnBookCutSpec)

/-- ITS FALSE NEIGHBOUR: 'it returns false'. Refute it at one input. -/
def fnBookCutWrong : ChangeSpec := { name := "fnBookCut", fn := fun _ => fun
  | [d] => { results := [.lit (.bool false)], args := [d] }
  | _ => none }
def FnBookCutWrongFalsely : Prop := fnBookCutRow.holds Try.pinned (OpenSpec.ofChange fnBookCutWrong)

/-- 'laws.FnBookMirrors': WHATEVER THE INPUT: true; the input reads as it did. -/
def fnBookMirrorsSpec : ChangeSpec := { name := "fnBookMirrors", fn := fun _ => fun
  | [d] => { results := [.lit (.bool true)], args := [d] }
  | _ => none }
def fnBookMirrorsRow : OpenClaim := { program := "ytgekblcbdhjmfaa", sum := "906182839b688273e6a5e1839003ce619d6f44eb628778ff98ab9a914a96f02f", func := "loop.example/wharflog/laws.FnBookMirrors", spec := "fnBookMirrors", inPlace := ["internal/bytealg.abigen_runtime_cmpstring"], unfollowed := true, recurses := true, plainKeys := false, apart := false }
def FnBookMirrorsSaid : Prop := fnBookMirrorsRow.holds Try.pinned (OpenSpec.ofChange fnBookMirrorsSpec)

/-- ITS FALSE NEIGHBOUR: 'it returns false'. Refute it at one input. -/
def fnBookMirrorsWrong : ChangeSpec := { name := "fnBookMirrors", fn := fun _ => fun
  | [d] => { results := [.lit (.bool false)], args := [d] }
  | _ => none }
def FnBookMirrorsWrongFalsely : Prop := fnBookMirrorsRow.holds Try.pinned (OpenSpec.ofChange fnBookMirrorsWrong)

/- THE SECOND FORM. 'bulk': how many values and letters a reading holds, each counted each time it is reached (what is shared counts as often as it is met; a slice's spare places count too). A statement '..UptoSaid' is the law's where the arguments, and the package variables that the reading takes, are together of bulk at most 1048576: NARROWER than '..Said'. Prove '..Said' where nothing that the law and all that it calls make is longer than what came in: it says more and counts as full. Else prove '..UptoSaid'. A law counts once. -/
mutual
def uptoBulk {H : Type} : DataW H → Nat
  | .lit (.string bytes) => bytes.length + 1
  | .lit _ => 1
  | .nil => 1
  | .ptr d => uptoBulk d + 1
  | .slice elems spare => uptoBulkAll elems + uptoBulkAll spare + 1
  | .agg parts => uptoBulkAll parts + 1
  | .iface _ d => uptoBulk d + 1
  | .map entries => uptoBulkEntries entries + 1
  | .held _ => 1
def uptoBulkAll {H : Type} : List (DataW H) → Nat
  | [] => 0
  | d :: r => uptoBulk d + uptoBulkAll r
def uptoBulkEntries {H : Type} : List (Lit × DataW H) → Nat
  | [] => 0
  | x :: r => uptoBulkEntry x + uptoBulkEntries r
def uptoBulkEntry {H : Type} : Lit × DataW H → Nat
  | (.string bytes, d) => bytes.length + uptoBulk d + 1
  | (_, d) => uptoBulk d + 1
 end
def uptoSmall : (H : Type) → List (DataW H) → Bool := fun _ ds => decide (uptoBulkAll ds ≤ 1048576)
def OpenSpec.upto (s : _root_.Go.ChangeSpec) : _root_.Go.OpenSpec := { _root_.Go.OpenSpec.ofChange s with cond := some uptoSmall }

/-- 'laws.FnBookWatch', WHERE WHAT IT READS IS OF BULK AT MOST 1048576: true; the input reads as it did. -/
def fnBookWatchUptoRow : OpenClaim := { program := "ytgekblcbdhjmfaa", sum := "906182839b688273e6a5e1839003ce619d6f44eb628778ff98ab9a914a96f02f", func := "loop.example/wharflog/laws.FnBookWatch", spec := "fnBookWatch", inPlace := ["internal/bytealg.abigen_runtime_cmpstring"], recurses := true, plainKeys := false, apart := false, narrowed := true }
def FnBookWatchUptoSaid : Prop := fnBookWatchUptoRow.holds Try.pinned (OpenSpec.upto fnBookWatchSpec)

/-- 'laws.FnBookCut', WHERE WHAT IT READS IS OF BULK AT MOST 1048576: true; the input reads as it did. -/
def fnBookCutUptoRow : OpenClaim := { program := "ytgekblcbdhjmfaa", sum := "906182839b688273e6a5e1839003ce619d6f44eb628778ff98ab9a914a96f02f", func := "loop.example/wharflog/laws.FnBookCut", spec := "fnBookCut", inPlace := ["internal/bytealg.abigen_runtime_cmpstring"], recurses := true, plainKeys := false, apart := false, narrowed := true }
def FnBookCutUptoSaid : Prop := fnBookCutUptoRow.holds Try.pinned (OpenSpec.upto fnBookCutSpec)

/-- 'laws.FnBookMirrors', WHERE WHAT IT READS IS OF BULK AT MOST 1048576: true; the input reads as it did. -/
def fnBookMirrorsUptoRow : OpenClaim := { program := "ytgekblcbdhjmfaa", sum := "906182839b688273e6a5e1839003ce619d6f44eb628778ff98ab9a914a96f02f", func := "loop.example/wharflog/laws.FnBookMirrors", spec := "fnBookMirrors", inPlace := ["internal/bytealg.abigen_runtime_cmpstring"], unfollowed := true, recurses := true, plainKeys := false, apart := false, narrowed := true }
def FnBookMirrorsUptoSaid : Prop := fnBookMirrorsUptoRow.holds Try.pinned (OpenSpec.upto fnBookMirrorsSpec)

end Rows
end Go.Proofs.Ytgekblcbdhjmfaa
