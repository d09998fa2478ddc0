/-
  No cell of these rows narrows 'for every input' (looked for: loops, veiled, ifaces, maps, wideKeys, modest, calm, conditions, laid).
  DERIVED. THE GIVEN ROWS OF THIS SEAT. 8 by the template 'for every input the law returns true; each argument reads behind the call as it read before'; 0 by the template 'total and deterministic' (their statements: YtndcljdmopigeaaTotals.lean).
  GIVEN WITH THE SEED: the statements are not yours to turn. If you find one false, say at which input.
  Laid BY PROGRAM, IN A SANDBOX (cutbox-rows.mjs): the forced cells as the released guide's own fill.sh prints them over the translation 3944eb232a00a3a1… (all of the seat's roots in one cut). By AI agents, Wed Nov 11 2026. No macro, syntax, notation, axiom, sorry.
-/
import Derived.Test.YtndcljdmopigeaaChecked
import GoSem.Claim
import GoSem.ClaimJoined
import GoSem.ClaimMapViews
import Derived.JoinedTies
import Derived.KernelRfl
namespace Go.Proofs.Ytndcljdmopigeaa
/- THE CELL 'sum', in the pinned program and in every row, IS THE sha256 OF THE DUMP (.gsa) THAT YtndcljdmopigeaaProg.lean LOADS. Nothing in Lean hashes anything: it is a label: what it is worth is what the hold of that sum in a sandbox is worth. -/
noncomputable def Try.pinned : Pinned := { name := "ytndcljdmopigeaa", sum := "3944eb232a00a3a1ba8c5eba660953e7715b7713fd41fbdfb2a05e2635ddd191", checked := Try.checked }
namespace Rows
def none {H : Type} : Left H := { results := [], args := [] }

/-- 'laws.FnExactRecNew': WHATEVER THE INPUT: true; the input reads as it did. -/
def fnExactRecNewSpec : ChangeSpec := { name := "fnExactRecNew", fn := fun _ => fun
  | [d1, d2] => { results := [.lit (.bool true)], args := [d1, d2] }
  | _ => none }
def fnExactRecNewRow : OpenClaim := { program := "ytndcljdmopigeaa", sum := "3944eb232a00a3a1ba8c5eba660953e7715b7713fd41fbdfb2a05e2635ddd191", func := "loop.example/wharflog/laws.FnExactRecNew", spec := "fnExactRecNew", plainKeys := false, apart := false }
def FnExactRecNewSaid : Prop := fnExactRecNewRow.holds Try.pinned (OpenSpec.ofChange fnExactRecNewSpec)

/-- ITS FALSE NEIGHBOUR: 'it returns false'. Refute it at one input. -/
def fnExactRecNewWrong : ChangeSpec := { name := "fnExactRecNew", fn := fun _ => fun
  | [d1, d2] => { results := [.lit (.bool false)], args := [d1, d2] }
  | _ => none }
def FnExactRecNewWrongFalsely : Prop := fnExactRecNewRow.holds Try.pinned (OpenSpec.ofChange fnExactRecNewWrong)

/-- 'laws.FnExactRecValid': WHATEVER THE INPUT: true; the input reads as it did. -/
def fnExactRecValidSpec : ChangeSpec := { name := "fnExactRecValid", fn := fun _ => fun
  | [d] => { results := [.lit (.bool true)], args := [d] }
  | _ => none }
def fnExactRecValidRow : OpenClaim := { program := "ytndcljdmopigeaa", sum := "3944eb232a00a3a1ba8c5eba660953e7715b7713fd41fbdfb2a05e2635ddd191", func := "loop.example/wharflog/laws.FnExactRecValid", spec := "fnExactRecValid", plainKeys := false, apart := false }
def FnExactRecValidSaid : Prop := fnExactRecValidRow.holds Try.pinned (OpenSpec.ofChange fnExactRecValidSpec)

/-- ITS FALSE NEIGHBOUR: 'it returns false'. Refute it at one input. -/
def fnExactRecValidWrong : ChangeSpec := { name := "fnExactRecValid", fn := fun _ => fun
  | [d] => { results := [.lit (.bool false)], args := [d] }
  | _ => none }
def FnExactRecValidWrongFalsely : Prop := fnExactRecValidRow.holds Try.pinned (OpenSpec.ofChange fnExactRecValidWrong)

/-- 'laws.FnExactRecNewWorld': WHATEVER THE INPUT: true; the input reads as it did. -/
def fnExactRecNewWorldSpec : ChangeSpec := { name := "fnExactRecNewWorld", fn := fun _ => fun
  | [d] => { results := [.lit (.bool true)], args := [d] }
  | _ => none }
def fnExactRecNewWorldRow : OpenClaim := { program := "ytndcljdmopigeaa", sum := "3944eb232a00a3a1ba8c5eba660953e7715b7713fd41fbdfb2a05e2635ddd191", func := "loop.example/wharflog/laws.FnExactRecNewWorld", spec := "fnExactRecNewWorld", plainKeys := false, apart := false }
def FnExactRecNewWorldSaid : Prop := fnExactRecNewWorldRow.holds Try.pinned (OpenSpec.ofChange fnExactRecNewWorldSpec)

/-- ITS FALSE NEIGHBOUR: 'it returns false'. Refute it at one input. -/
def fnExactRecNewWorldWrong : ChangeSpec := { name := "fnExactRecNewWorld", fn := fun _ => fun
  | [d] => { results := [.lit (.bool false)], args := [d] }
  | _ => none }
def FnExactRecNewWorldWrongFalsely : Prop := fnExactRecNewWorldRow.holds Try.pinned (OpenSpec.ofChange fnExactRecNewWorldWrong)

/-- 'laws.FnExactRecBook': WHATEVER THE INPUT: true; the input reads as it did. -/
def fnExactRecBookSpec : ChangeSpec := { name := "fnExactRecBook", fn := fun _ => fun
  | [d] => { results := [.lit (.bool true)], args := [d] }
  | _ => none }
def fnExactRecBookRow : OpenClaim := { program := "ytndcljdmopigeaa", sum := "3944eb232a00a3a1ba8c5eba660953e7715b7713fd41fbdfb2a05e2635ddd191", func := "loop.example/wharflog/laws.FnExactRecBook", spec := "fnExactRecBook", plainKeys := false, apart := false }
def FnExactRecBookSaid : Prop := fnExactRecBookRow.holds Try.pinned (OpenSpec.ofChange fnExactRecBookSpec)

/-- ITS FALSE NEIGHBOUR: 'it returns false'. Refute it at one input. -/
def fnExactRecBookWrong : ChangeSpec := { name := "fnExactRecBook", fn := fun _ => fun
  | [d] => { results := [.lit (.bool false)], args := [d] }
  | _ => none }
def FnExactRecBookWrongFalsely : Prop := fnExactRecBookRow.holds Try.pinned (OpenSpec.ofChange fnExactRecBookWrong)

/-- 'laws.FnExactRecWorldOk': WHATEVER THE INPUT: true; the input reads as it did. -/
def fnExactRecWorldOkSpec : ChangeSpec := { name := "fnExactRecWorldOk", fn := fun _ => fun
  | [d] => { results := [.lit (.bool true)], args := [d] }
  | _ => none }
def fnExactRecWorldOkRow : OpenClaim := { program := "ytndcljdmopigeaa", sum := "3944eb232a00a3a1ba8c5eba660953e7715b7713fd41fbdfb2a05e2635ddd191", func := "loop.example/wharflog/laws.FnExactRecWorldOk", spec := "fnExactRecWorldOk", plainKeys := false, apart := false }
def FnExactRecWorldOkSaid : Prop := fnExactRecWorldOkRow.holds Try.pinned (OpenSpec.ofChange fnExactRecWorldOkSpec)

/-- ITS FALSE NEIGHBOUR: 'it returns false'. Refute it at one input. -/
def fnExactRecWorldOkWrong : ChangeSpec := { name := "fnExactRecWorldOk", fn := fun _ => fun
  | [d] => { results := [.lit (.bool false)], args := [d] }
  | _ => none }
def FnExactRecWorldOkWrongFalsely : Prop := fnExactRecWorldOkRow.holds Try.pinned (OpenSpec.ofChange fnExactRecWorldOkWrong)

/-- 'laws.FnExactRecMajor': WHATEVER THE INPUT: true; the input reads as it did. -/
def fnExactRecMajorSpec : ChangeSpec := { name := "fnExactRecMajor", fn := fun _ => fun
  | [d1, d2] => { results := [.lit (.bool true)], args := [d1, d2] }
  | _ => none }
def fnExactRecMajorRow : OpenClaim := { program := "ytndcljdmopigeaa", sum := "3944eb232a00a3a1ba8c5eba660953e7715b7713fd41fbdfb2a05e2635ddd191", func := "loop.example/wharflog/laws.FnExactRecMajor", spec := "fnExactRecMajor", plainKeys := false, apart := false }
def FnExactRecMajorSaid : Prop := fnExactRecMajorRow.holds Try.pinned (OpenSpec.ofChange fnExactRecMajorSpec)

/-- ITS FALSE NEIGHBOUR: 'it returns false'. Refute it at one input. -/
def fnExactRecMajorWrong : ChangeSpec := { name := "fnExactRecMajor", fn := fun _ => fun
  | [d1, d2] => { results := [.lit (.bool false)], args := [d1, d2] }
  | _ => none }
def FnExactRecMajorWrongFalsely : Prop := fnExactRecMajorRow.holds Try.pinned (OpenSpec.ofChange fnExactRecMajorWrong)

/-- 'laws.FnExactRecFall': WHATEVER THE INPUT: true; the input reads as it did. -/
def fnExactRecFallSpec : ChangeSpec := { name := "fnExactRecFall", fn := fun _ => fun
  | [d] => { results := [.lit (.bool true)], args := [d] }
  | _ => none }
def fnExactRecFallRow : OpenClaim := { program := "ytndcljdmopigeaa", sum := "3944eb232a00a3a1ba8c5eba660953e7715b7713fd41fbdfb2a05e2635ddd191", func := "loop.example/wharflog/laws.FnExactRecFall", spec := "fnExactRecFall", plainKeys := false, apart := false }
def FnExactRecFallSaid : Prop := fnExactRecFallRow.holds Try.pinned (OpenSpec.ofChange fnExactRecFallSpec)

/-- ITS FALSE NEIGHBOUR: 'it returns false'. Refute it at one input. -/
def fnExactRecFallWrong : ChangeSpec := { name := "fnExactRecFall", fn := fun _ => fun
  | [d] => { results := [.lit (.bool false)], args := [d] }
  | _ => none }
def FnExactRecFallWrongFalsely : Prop := fnExactRecFallRow.holds Try.pinned (OpenSpec.ofChange fnExactRecFallWrong)

/-- 'laws.FnExactRecRise': WHATEVER THE INPUT: true; the input reads as it did. -/
def fnExactRecRiseSpec : ChangeSpec := { name := "fnExactRecRise", fn := fun _ => fun
  | [d] => { results := [.lit (.bool true)], args := [d] }
  | _ => none }
def fnExactRecRiseRow : OpenClaim := { program := "ytndcljdmopigeaa", sum := "3944eb232a00a3a1ba8c5eba660953e7715b7713fd41fbdfb2a05e2635ddd191", func := "loop.example/wharflog/laws.FnExactRecRise", spec := "fnExactRecRise", plainKeys := false, apart := false }
def FnExactRecRiseSaid : Prop := fnExactRecRiseRow.holds Try.pinned (OpenSpec.ofChange fnExactRecRiseSpec)

/-- ITS FALSE NEIGHBOUR: 'it returns false'. Refute it at one input. -/
def fnExactRecRiseWrong : ChangeSpec := { name := "fnExactRecRise", fn := fun _ => fun
  | [d] => { results := [.lit (.bool false)], args := [d] }
  | _ => none }
def FnExactRecRiseWrongFalsely : Prop := fnExactRecRiseRow.holds Try.pinned (OpenSpec.ofChange fnExactRecRiseWrong)

/- THE SECOND FORM. 'bulk': how many values and letters a reading holds, each counted each time it is reached (what is shared counts as often as it is met; a slice's spare places count too). A statement '..UptoSaid' is the law's where the arguments, and the package variables that the reading takes, are together of bulk at most 1048576: NARROWER than '..Said'. Prove '..Said' where nothing that the law and all that it calls make is longer than what came in: it says more and counts as full. Else prove '..UptoSaid'. A law counts once. -/
mutual
def uptoBulk {H : Type} : DataW H → Nat
  | .lit (.string bytes) => bytes.length + 1
  | .lit _ => 1
  | .nil => 1
  | .ptr d => uptoBulk d + 1
  | .slice elems spare => uptoBulkAll elems + uptoBulkAll spare + 1
  | .agg parts => uptoBulkAll parts + 1
  | .iface _ d => uptoBulk d + 1
  | .map entries => uptoBulkEntries entries + 1
  | .held _ => 1
def uptoBulkAll {H : Type} : List (DataW H) → Nat
  | [] => 0
  | d :: r => uptoBulk d + uptoBulkAll r
def uptoBulkEntries {H : Type} : List (Lit × DataW H) → Nat
  | [] => 0
  | x :: r => uptoBulkEntry x + uptoBulkEntries r
def uptoBulkEntry {H : Type} : Lit × DataW H → Nat
  | (.string bytes, d) => bytes.length + uptoBulk d + 1
  | (_, d) => uptoBulk d + 1
 end
def uptoSmall : (H : Type) → List (DataW H) → Bool := fun _ ds => decide (uptoBulkAll ds ≤ 1048576)
def OpenSpec.upto (s : _root_.Go.ChangeSpec) : _root_.Go.OpenSpec := { _root_.Go.OpenSpec.ofChange s with cond := some uptoSmall }

/-- 'laws.FnExactRecNew', WHERE WHAT IT READS IS OF BULK AT MOST 1048576: true; the input reads as it did. -/
def fnExactRecNewUptoRow : OpenClaim := { program := "ytndcljdmopigeaa", sum := "3944eb232a00a3a1ba8c5eba660953e7715b7713fd41fbdfb2a05e2635ddd191", func := "loop.example/wharflog/laws.FnExactRecNew", spec := "fnExactRecNew", plainKeys := false, apart := false, narrowed := true }
def FnExactRecNewUptoSaid : Prop := fnExactRecNewUptoRow.holds Try.pinned (OpenSpec.upto fnExactRecNewSpec)

/-- 'laws.FnExactRecValid', WHERE WHAT IT READS IS OF BULK AT MOST 1048576: true; the input reads as it did. -/
def fnExactRecValidUptoRow : OpenClaim := { program := "ytndcljdmopigeaa", sum := "3944eb232a00a3a1ba8c5eba660953e7715b7713fd41fbdfb2a05e2635ddd191", func := "loop.example/wharflog/laws.FnExactRecValid", spec := "fnExactRecValid", plainKeys := false, apart := false, narrowed := true }
def FnExactRecValidUptoSaid : Prop := fnExactRecValidUptoRow.holds Try.pinned (OpenSpec.upto fnExactRecValidSpec)

/-- 'laws.FnExactRecNewWorld', WHERE WHAT IT READS IS OF BULK AT MOST 1048576: true; the input reads as it did. -/
def fnExactRecNewWorldUptoRow : OpenClaim := { program := "ytndcljdmopigeaa", sum := "3944eb232a00a3a1ba8c5eba660953e7715b7713fd41fbdfb2a05e2635ddd191", func := "loop.example/wharflog/laws.FnExactRecNewWorld", spec := "fnExactRecNewWorld", plainKeys := false, apart := false, narrowed := true }
def FnExactRecNewWorldUptoSaid : Prop := fnExactRecNewWorldUptoRow.holds Try.pinned (OpenSpec.upto fnExactRecNewWorldSpec)

/-- 'laws.FnExactRecBook', WHERE WHAT IT READS IS OF BULK AT MOST 1048576: true; the input reads as it did. -/
def fnExactRecBookUptoRow : OpenClaim := { program := "ytndcljdmopigeaa", sum := "3944eb232a00a3a1ba8c5eba660953e7715b7713fd41fbdfb2a05e2635ddd191", func := "loop.example/wharflog/laws.FnExactRecBook", spec := "fnExactRecBook", plainKeys := false, apart := false, narrowed := true }
def FnExactRecBookUptoSaid : Prop := fnExactRecBookUptoRow.holds Try.pinned (OpenSpec.upto fnExactRecBookSpec)

/-- 'laws.FnExactRecWorldOk', WHERE WHAT IT READS IS OF BULK AT MOST 1048576: true; the input reads as it did. -/
def fnExactRecWorldOkUptoRow : OpenClaim := { program := "ytndcljdmopigeaa", sum := "3944eb232a00a3a1ba8c5eba660953e7715b7713fd41fbdfb2a05e2635ddd191", func := "loop.example/wharflog/laws.FnExactRecWorldOk", spec := "fnExactRecWorldOk", plainKeys := false, apart := false, narrowed := true }
def FnExactRecWorldOkUptoSaid : Prop := fnExactRecWorldOkUptoRow.holds Try.pinned (OpenSpec.upto fnExactRecWorldOkSpec)

/-- 'laws.FnExactRecMajor', WHERE WHAT IT READS IS OF BULK AT MOST 1048576: true; the input reads as it did. -/
def fnExactRecMajorUptoRow : OpenClaim := { program := "ytndcljdmopigeaa", sum := "3944eb232a00a3a1ba8c5eba660953e7715b7713fd41fbdfb2a05e2635ddd191", func := "loop.example/wharflog/laws.FnExactRecMajor", spec := "fnExactRecMajor", plainKeys := false, apart := false, narrowed := true }
def FnExactRecMajorUptoSaid : Prop := fnExactRecMajorUptoRow.holds Try.pinned (OpenSpec.upto fnExactRecMajorSpec)

/-- 'laws.FnExactRecFall', WHERE WHAT IT READS IS OF BULK AT MOST 1048576: true; the input reads as it did. -/
def fnExactRecFallUptoRow : OpenClaim := { program := "ytndcljdmopigeaa", sum := "3944eb232a00a3a1ba8c5eba660953e7715b7713fd41fbdfb2a05e2635ddd191", func := "loop.example/wharflog/laws.FnExactRecFall", spec := "fnExactRecFall", plainKeys := false, apart := false, narrowed := true }
def FnExactRecFallUptoSaid : Prop := fnExactRecFallUptoRow.holds Try.pinned (OpenSpec.upto fnExactRecFallSpec)

/-- 'laws.FnExactRecRise', WHERE WHAT IT READS IS OF BULK AT MOST 1048576: true; the input reads as it did. -/
def fnExactRecRiseUptoRow : OpenClaim := { program := "ytndcljdmopigeaa", sum := "3944eb232a00a3a1ba8c5eba660953e7715b7713fd41fbdfb2a05e2635ddd191", func := "loop.example/wharflog/laws.FnExactRecRise", spec := "fnExactRecRise", plainKeys := false, apart := false, narrowed := true }
def FnExactRecRiseUptoSaid : Prop := fnExactRecRiseUptoRow.holds Try.pinned (OpenSpec.upto fnExactRecRiseSpec)

end Rows
end Go.Proofs.Ytndcljdmopigeaa
