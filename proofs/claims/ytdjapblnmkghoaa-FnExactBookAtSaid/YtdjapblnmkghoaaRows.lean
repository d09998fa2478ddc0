/-
  No cell of these rows narrows 'for every input' (looked for: loops, veiled, ifaces, maps, wideKeys, modest, calm, conditions, laid).
  DERIVED. THE GIVEN ROWS OF THIS SEAT. 9 by the template 'for every input the law returns true; each argument reads behind the call as it read before'; 0 by the template 'total and deterministic' (their statements: YtdjapblnmkghoaaTotals.lean).
  GIVEN WITH THE SEED: the statements are not yours to turn. If you find one false, say at which input.
  Laid BY PROGRAM, IN A SANDBOX (cutbox-rows.mjs): the forced cells as the released guide's own fill.sh prints them over the translation a393795d2acbc9e6… (all of the seat's roots in one cut). By AI agents, Wed Nov 11 2026. No macro, syntax, notation, axiom, sorry.
-/
import Derived.Test.YtdjapblnmkghoaaChecked
import GoSem.Claim
import GoSem.ClaimJoined
import GoSem.ClaimMapViews
import Derived.JoinedTies
import Derived.KernelRfl
namespace Go.Proofs.Ytdjapblnmkghoaa
/- THE CELL 'sum', in the pinned program and in every row, IS THE sha256 OF THE DUMP (.gsa) THAT YtdjapblnmkghoaaProg.lean LOADS. Nothing in Lean hashes anything: it is a label: what it is worth is what the hold of that sum in a sandbox is worth. -/
noncomputable def Try.pinned : Pinned := { name := "ytdjapblnmkghoaa", sum := "a393795d2acbc9e6c4a3d9ba1f111de3fbde4f28b6d1bb2ff0211c03de39e260", checked := Try.checked }
namespace Rows
def none {H : Type} : Left H := { results := [], args := [] }

/-- 'laws.FnExactBookFind': WHATEVER THE INPUT: true; the input reads as it did. -/
def fnExactBookFindSpec : ChangeSpec := { name := "fnExactBookFind", fn := fun _ => fun
  | [d1, d2, d3] => { results := [.lit (.bool true)], args := [d1, d2, d3] }
  | _ => none }
def fnExactBookFindRow : OpenClaim := { program := "ytdjapblnmkghoaa", sum := "a393795d2acbc9e6c4a3d9ba1f111de3fbde4f28b6d1bb2ff0211c03de39e260", func := "loop.example/wharflog/laws.FnExactBookFind", spec := "fnExactBookFind", unfollowed := true, recurses := true, plainKeys := false, apart := false }
def FnExactBookFindSaid : Prop := fnExactBookFindRow.holds Try.pinned (OpenSpec.ofChange fnExactBookFindSpec)

/-- ITS FALSE NEIGHBOUR: 'it returns false'. Refute it at one input. -/
def fnExactBookFindWrong : ChangeSpec := { name := "fnExactBookFind", fn := fun _ => fun
  | [d1, d2, d3] => { results := [.lit (.bool false)], args := [d1, d2, d3] }
  | _ => none }
def FnExactBookFindWrongFalsely : Prop := fnExactBookFindRow.holds Try.pinned (OpenSpec.ofChange fnExactBookFindWrong)

/-- 'laws.FnExactBookTake': WHATEVER THE INPUT: true; the input reads as it did. -/
def fnExactBookTakeSpec : ChangeSpec := { name := "fnExactBookTake", fn := fun _ => fun
  | [d1, d2] => { results := [.lit (.bool true)], args := [d1, d2] }
  | _ => none }
def fnExactBookTakeRow : OpenClaim := { program := "ytdjapblnmkghoaa", sum := "a393795d2acbc9e6c4a3d9ba1f111de3fbde4f28b6d1bb2ff0211c03de39e260", func := "loop.example/wharflog/laws.FnExactBookTake", spec := "fnExactBookTake", inPlace := ["internal/bytealg.abigen_runtime_cmpstring"], unfollowed := true, recurses := true, plainKeys := false, apart := false }
def FnExactBookTakeSaid : Prop := fnExactBookTakeRow.holds Try.pinned (OpenSpec.ofChange fnExactBookTakeSpec)

/-- ITS FALSE NEIGHBOUR: 'it returns false'. Refute it at one input. -/
def fnExactBookTakeWrong : ChangeSpec := { name := "fnExactBookTake", fn := fun _ => fun
  | [d1, d2] => { results := [.lit (.bool false)], args := [d1, d2] }
  | _ => none }
def FnExactBookTakeWrongFalsely : Prop := fnExactBookTakeRow.holds Try.pinned (OpenSpec.ofChange fnExactBookTakeWrong)

/-- 'laws.FnExactBookValid': WHATEVER THE INPUT: true; the input reads as it did. -/
def fnExactBookValidSpec : ChangeSpec := { name := "fnExactBookValid", fn := fun _ => fun
  | [d] => { results := [.lit (.bool true)], args := [d] }
  | _ => none }
def fnExactBookValidRow : OpenClaim := { program := "ytdjapblnmkghoaa", sum := "a393795d2acbc9e6c4a3d9ba1f111de3fbde4f28b6d1bb2ff0211c03de39e260", func := "loop.example/wharflog/laws.FnExactBookValid", spec := "fnExactBookValid", inPlace := ["internal/bytealg.abigen_runtime_cmpstring"], plainKeys := false, apart := false }
def FnExactBookValidSaid : Prop := fnExactBookValidRow.holds Try.pinned (OpenSpec.ofChange fnExactBookValidSpec)

/-- ITS FALSE NEIGHBOUR: 'it returns false'. Refute it at one input. -/
def fnExactBookValidWrong : ChangeSpec := { name := "fnExactBookValid", fn := fun _ => fun
  | [d] => { results := [.lit (.bool false)], args := [d] }
  | _ => none }
def FnExactBookValidWrongFalsely : Prop := fnExactBookValidRow.holds Try.pinned (OpenSpec.ofChange fnExactBookValidWrong)

/-- 'laws.FnExactBookList': WHATEVER THE INPUT: true; the input reads as it did. -/
def fnExactBookListSpec : ChangeSpec := { name := "fnExactBookList", fn := fun _ => fun
  | [d1, d2, d3] => { results := [.lit (.bool true)], args := [d1, d2, d3] }
  | _ => none }
def fnExactBookListRow : OpenClaim := { program := "ytdjapblnmkghoaa", sum := "a393795d2acbc9e6c4a3d9ba1f111de3fbde4f28b6d1bb2ff0211c03de39e260", func := "loop.example/wharflog/laws.FnExactBookList", spec := "fnExactBookList", inPlace := ["internal/bytealg.abigen_runtime_cmpstring"], plainKeys := false, apart := false }
def FnExactBookListSaid : Prop := fnExactBookListRow.holds Try.pinned (OpenSpec.ofChange fnExactBookListSpec)

/-- ITS FALSE NEIGHBOUR: 'it returns false'. Refute it at one input. -/
def fnExactBookListWrong : ChangeSpec := { name := "fnExactBookList", fn := fun _ => fun
  | [d1, d2, d3] => { results := [.lit (.bool false)], args := [d1, d2, d3] }
  | _ => none }
def FnExactBookListWrongFalsely : Prop := fnExactBookListRow.holds Try.pinned (OpenSpec.ofChange fnExactBookListWrong)

/-- 'laws.FnExactBookNext': WHATEVER THE INPUT: true; the input reads as it did. -/
def fnExactBookNextSpec : ChangeSpec := { name := "fnExactBookNext", fn := fun _ => fun
  | [d1, d2, d3] => { results := [.lit (.bool true)], args := [d1, d2, d3] }
  | _ => none }
def fnExactBookNextRow : OpenClaim := { program := "ytdjapblnmkghoaa", sum := "a393795d2acbc9e6c4a3d9ba1f111de3fbde4f28b6d1bb2ff0211c03de39e260", func := "loop.example/wharflog/laws.FnExactBookNext", spec := "fnExactBookNext", inPlace := ["internal/bytealg.abigen_runtime_cmpstring"], plainKeys := false, apart := false }
def FnExactBookNextSaid : Prop := fnExactBookNextRow.holds Try.pinned (OpenSpec.ofChange fnExactBookNextSpec)

/-- ITS FALSE NEIGHBOUR: 'it returns false'. Refute it at one input. -/
def fnExactBookNextWrong : ChangeSpec := { name := "fnExactBookNext", fn := fun _ => fun
  | [d1, d2, d3] => { results := [.lit (.bool false)], args := [d1, d2, d3] }
  | _ => none }
def FnExactBookNextWrongFalsely : Prop := fnExactBookNextRow.holds Try.pinned (OpenSpec.ofChange fnExactBookNextWrong)

/-- 'laws.FnExactBookRelist': WHATEVER THE INPUT: true; the input reads as it did. -/
def fnExactBookRelistSpec : ChangeSpec := { name := "fnExactBookRelist", fn := fun _ => fun
  | [d1, d2] => { results := [.lit (.bool true)], args := [d1, d2] }
  | _ => none }
def fnExactBookRelistRow : OpenClaim := { program := "ytdjapblnmkghoaa", sum := "a393795d2acbc9e6c4a3d9ba1f111de3fbde4f28b6d1bb2ff0211c03de39e260", func := "loop.example/wharflog/laws.FnExactBookRelist", spec := "fnExactBookRelist", inPlace := ["internal/bytealg.abigen_runtime_cmpstring"], plainKeys := false, apart := false }
def FnExactBookRelistSaid : Prop := fnExactBookRelistRow.holds Try.pinned (OpenSpec.ofChange fnExactBookRelistSpec)

/-- ITS FALSE NEIGHBOUR: 'it returns false'. Refute it at one input. -/
def fnExactBookRelistWrong : ChangeSpec := { name := "fnExactBookRelist", fn := fun _ => fun
  | [d1, d2] => { results := [.lit (.bool false)], args := [d1, d2] }
  | _ => none }
def FnExactBookRelistWrongFalsely : Prop := fnExactBookRelistRow.holds Try.pinned (OpenSpec.ofChange fnExactBookRelistWrong)

/-- 'laws.FnExactBookAt': WHATEVER THE INPUT: true; the input reads as it did. -/
def fnExactBookAtSpec : ChangeSpec := { name := "fnExactBookAt", fn := fun _ => fun
  | [d1, d2] => { results := [.lit (.bool true)], args := [d1, d2] }
  | _ => none }
def fnExactBookAtRow : OpenClaim := { program := "ytdjapblnmkghoaa", sum := "a393795d2acbc9e6c4a3d9ba1f111de3fbde4f28b6d1bb2ff0211c03de39e260", func := "loop.example/wharflog/laws.FnExactBookAt", spec := "fnExactBookAt", inPlace := ["internal/bytealg.abigen_runtime_cmpstring"], unfollowed := true, recurses := true, plainKeys := false, apart := false }
def FnExactBookAtSaid : Prop := fnExactBookAtRow.holds Try.pinned (OpenSpec.ofChange fnExactBookAtSpec)

/-- ITS FALSE NEIGHBOUR: 'it returns false'. Refute it at one input. -/
def fnExactBookAtWrong : ChangeSpec := { name := "fnExactBookAt", fn := fun _ => fun
  | [d1, d2] => { results := [.lit (.bool false)], args := [d1, d2] }
  | _ => none }
def FnExactBookAtWrongFalsely : Prop := fnExactBookAtRow.holds Try.pinned (OpenSpec.ofChange fnExactBookAtWrong)

/-- 'laws.FnExactBookCut': WHATEVER THE INPUT: true; the input reads as it did. -/
def fnExactBookCutSpec : ChangeSpec := { name := "fnExactBookCut", fn := fun _ => fun
  | [d1, d2] => { results := [.lit (.bool true)], args := [d1, d2] }
  | _ => none }
def fnExactBookCutRow : OpenClaim := { program := "ytdjapblnmkghoaa", sum := "a393795d2acbc9e6c4a3d9ba1f111de3fbde4f28b6d1bb2ff0211c03de39e260", func := "loop.example/wharflog/laws.FnExactBookCut", spec := "fnExactBookCut", inPlace := ["internal/bytealg.abigen_runtime_cmpstring"], plainKeys := false, apart := false }
def FnExactBookCutSaid : Prop := fnExactBookCutRow.holds Try.pinned (OpenSpec.ofChange fnExactBookCutSpec)

/-- ITS FALSE NEIGHBOUR: 'it returns false'. Refute it at one input. -/
def fnExactBookCutWrong : ChangeSpec := { name := "fnExactBookCut", fn := fun _ => fun
  | [d1, d2] => { results := [.lit (.bool false)], args := [d1, d2] }
  | _ => none }
def FnExactBookCutWrongFalsely : Prop := fnExactBookCutRow.holds Try.pinned (OpenSpec.ofChange fnExactBookCutWrong)

/-- 'laws.FnExactBookStep': WHATEVER THE INPUT: true; the input reads as it did. -/
def fnExactBookStepSpec : ChangeSpec := { name := "fnExactBookStep", fn := fun _ => fun
  | [d1, d2, d3] => { results := [.lit (.bool true)], args := [d1, d2, d3] }
  | _ => none }
def fnExactBookStepRow : OpenClaim := { program := "ytdjapblnmkghoaa", sum := "a393795d2acbc9e6c4a3d9ba1f111de3fbde4f28b6d1bb2ff0211c03de39e260", func := "loop.example/wharflog/laws.FnExactBookStep", spec := "fnExactBookStep", inPlace := ["internal/bytealg.abigen_runtime_cmpstring"], unfollowed := true, recurses := true, plainKeys := false, apart := false }
def FnExactBookStepSaid : Prop := fnExactBookStepRow.holds Try.pinned (OpenSpec.ofChange fnExactBookStepSpec)

/-- ITS FALSE NEIGHBOUR: 'it returns false'. Refute it at one input. -/
def fnExactBookStepWrong : ChangeSpec := { name := "fnExactBookStep", fn := fun _ => fun
  | [d1, d2, d3] => { results := [.lit (.bool false)], args := [d1, d2, d3] }
  | _ => none }
def FnExactBookStepWrongFalsely : Prop := fnExactBookStepRow.holds Try.pinned (OpenSpec.ofChange fnExactBookStepWrong)

/- THE SECOND FORM. 'bulk': how many values and letters a reading holds, each counted each time it is reached (what is shared counts as often as it is met; a slice's spare places count too). A statement '..UptoSaid' is the law's where the arguments, and the package variables that the reading takes, are together of bulk at most 1048576: NARROWER than '..Said'. Prove '..Said' where nothing that the law and all that it calls make is longer than what came in: it says more and counts as full. Else prove '..UptoSaid'. A law counts once. -/
mutual
def uptoBulk {H : Type} : DataW H → Nat
  | .lit (.string bytes) => bytes.length + 1
  | .lit _ => 1
  | .nil => 1
  | .ptr d => uptoBulk d + 1
  | .slice elems spare => uptoBulkAll elems + uptoBulkAll spare + 1
  | .agg parts => uptoBulkAll parts + 1
  | .iface _ d => uptoBulk d + 1
  | .map entries => uptoBulkEntries entries + 1
  | .held _ => 1
def uptoBulkAll {H : Type} : List (DataW H) → Nat
  | [] => 0
  | d :: r => uptoBulk d + uptoBulkAll r
def uptoBulkEntries {H : Type} : List (Lit × DataW H) → Nat
  | [] => 0
  | x :: r => uptoBulkEntry x + uptoBulkEntries r
def uptoBulkEntry {H : Type} : Lit × DataW H → Nat
  | (.string bytes, d) => bytes.length + uptoBulk d + 1
  | (_, d) => uptoBulk d + 1
 end
def uptoSmall : (H : Type) → List (DataW H) → Bool := fun _ ds => decide (uptoBulkAll ds ≤ 1048576)
def OpenSpec.upto (s : _root_.Go.ChangeSpec) : _root_.Go.OpenSpec := { _root_.Go.OpenSpec.ofChange s with cond := some uptoSmall }

/-- 'laws.FnExactBookFind', WHERE WHAT IT READS IS OF BULK AT MOST 1048576: true; the input reads as it did. -/
def fnExactBookFindUptoRow : OpenClaim := { program := "ytdjapblnmkghoaa", sum := "a393795d2acbc9e6c4a3d9ba1f111de3fbde4f28b6d1bb2ff0211c03de39e260", func := "loop.example/wharflog/laws.FnExactBookFind", spec := "fnExactBookFind", unfollowed := true, recurses := true, plainKeys := false, apart := false, narrowed := true }
def FnExactBookFindUptoSaid : Prop := fnExactBookFindUptoRow.holds Try.pinned (OpenSpec.upto fnExactBookFindSpec)

/-- 'laws.FnExactBookTake', WHERE WHAT IT READS IS OF BULK AT MOST 1048576: true; the input reads as it did. -/
def fnExactBookTakeUptoRow : OpenClaim := { program := "ytdjapblnmkghoaa", sum := "a393795d2acbc9e6c4a3d9ba1f111de3fbde4f28b6d1bb2ff0211c03de39e260", func := "loop.example/wharflog/laws.FnExactBookTake", spec := "fnExactBookTake", inPlace := ["internal/bytealg.abigen_runtime_cmpstring"], unfollowed := true, recurses := true, plainKeys := false, apart := false, narrowed := true }
def FnExactBookTakeUptoSaid : Prop := fnExactBookTakeUptoRow.holds Try.pinned (OpenSpec.upto fnExactBookTakeSpec)

/-- 'laws.FnExactBookValid', WHERE WHAT IT READS IS OF BULK AT MOST 1048576: true; the input reads as it did. -/
def fnExactBookValidUptoRow : OpenClaim := { program := "ytdjapblnmkghoaa", sum := "a393795d2acbc9e6c4a3d9ba1f111de3fbde4f28b6d1bb2ff0211c03de39e260", func := "loop.example/wharflog/laws.FnExactBookValid", spec := "fnExactBookValid", inPlace := ["internal/bytealg.abigen_runtime_cmpstring"], plainKeys := false, apart := false, narrowed := true }
def FnExactBookValidUptoSaid : Prop := fnExactBookValidUptoRow.holds Try.pinned (OpenSpec.upto fnExactBookValidSpec)

/-- 'laws.FnExactBookList', WHERE WHAT IT READS IS OF BULK AT MOST 1048576: true; the input reads as it did. -/
def fnExactBookListUptoRow : OpenClaim := { program := "ytdjapblnmkghoaa", sum := "a393795d2acbc9e6c4a3d9ba1f111de3fbde4f28b6d1bb2ff0211c03de39e260", func := "loop.example/wharflog/laws.FnExactBookList", spec := "fnExactBookList", inPlace := ["internal/bytealg.abigen_runtime_cmpstring"], plainKeys := false, apart := false, narrowed := true }
def FnExactBookListUptoSaid : Prop := fnExactBookListUptoRow.holds Try.pinned (OpenSpec.upto fnExactBookListSpec)

/-- 'laws.FnExactBookNext', WHERE WHAT IT READS IS OF BULK AT MOST 1048576: true; the input reads as it did. -/
def fnExactBookNextUptoRow : OpenClaim := { program := "ytdjapblnmkghoaa", sum := "a393795d2acbc9e6c4a3d9ba1f111de3fbde4f28b6d1bb2ff0211c03de39e260", func := "loop.example/wharflog/laws.FnExactBookNext", spec := "fnExactBookNext", inPlace := ["internal/bytealg.abigen_runtime_cmpstring"], plainKeys := false, apart := false, narrowed := true }
def FnExactBookNextUptoSaid : Prop := fnExactBookNextUptoRow.holds Try.pinned (OpenSpec.upto fnExactBookNextSpec)

/-- 'laws.FnExactBookRelist', WHERE WHAT IT READS IS OF BULK AT MOST 1048576: true; the input reads as it did. -/
def fnExactBookRelistUptoRow : OpenClaim := { program := "ytdjapblnmkghoaa", sum := "a393795d2acbc9e6c4a3d9ba1f111de3fbde4f28b6d1bb2ff0211c03de39e260", func := "loop.example/wharflog/laws.FnExactBookRelist", spec := "fnExactBookRelist", inPlace := ["internal/bytealg.abigen_runtime_cmpstring"], plainKeys := false, apart := false, narrowed := true }
def FnExactBookRelistUptoSaid : Prop := fnExactBookRelistUptoRow.holds Try.pinned (OpenSpec.upto fnExactBookRelistSpec)

/-- 'laws.FnExactBookAt', WHERE WHAT IT READS IS OF BULK AT MOST 1048576: true; the input reads as it did. -/
def fnExactBookAtUptoRow : OpenClaim := { program := "ytdjapblnmkghoaa", sum := "a393795d2acbc9e6c4a3d9ba1f111de3fbde4f28b6d1bb2ff0211c03de39e260", func := "loop.example/wharflog/laws.FnExactBookAt", spec := "fnExactBookAt", inPlace := ["internal/bytealg.abigen_runtime_cmpstring"], unfollowed := true, recurses := true, plainKeys := false, apart := false, narrowed := true }
def FnExactBookAtUptoSaid : Prop := fnExactBookAtUptoRow.holds Try.pinned (OpenSpec.upto fnExactBookAtSpec)

/-- 'laws.FnExactBookCut', WHERE WHAT IT READS IS OF BULK AT MOST 1048576: true; the input reads as it did. -/
def fnExactBookCutUptoRow : OpenClaim := { program := "ytdjapblnmkghoaa", sum := "a393795d2acbc9e6c4a3d9ba1f111de3fbde4f28b6d1bb2ff0211c03de39e260", func := "loop.example/wharflog/laws.FnExactBookCut", spec := "fnExactBookCut", inPlace := ["internal/bytealg.abigen_runtime_cmpstring"], plainKeys := false, apart := false, narrowed := true }
def FnExactBookCutUptoSaid : Prop := fnExactBookCutUptoRow.holds Try.pinned (OpenSpec.upto fnExactBookCutSpec)

/-- 'laws.FnExactBookStep', WHERE WHAT IT READS IS OF BULK AT MOST 1048576: true; the input reads as it did. -/
def fnExactBookStepUptoRow : OpenClaim := { program := "ytdjapblnmkghoaa", sum := "a393795d2acbc9e6c4a3d9ba1f111de3fbde4f28b6d1bb2ff0211c03de39e260", func := "loop.example/wharflog/laws.FnExactBookStep", spec := "fnExactBookStep", inPlace := ["internal/bytealg.abigen_runtime_cmpstring"], unfollowed := true, recurses := true, plainKeys := false, apart := false, narrowed := true }
def FnExactBookStepUptoSaid : Prop := fnExactBookStepUptoRow.holds Try.pinned (OpenSpec.upto fnExactBookStepSpec)

end Rows
end Go.Proofs.Ytdjapblnmkghoaa
