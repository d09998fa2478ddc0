/-
  No cell of these rows narrows 'for every input' (looked for: loops, veiled, ifaces, maps, wideKeys, modest, calm, conditions, laid).
  DERIVED. THE GIVEN ROWS OF THIS SEAT. 5 by the template 'for every input the law returns true; each argument reads behind the call as it read before'; 0 by the template 'total and deterministic' (their statements: YtjcbojcnfdlfaaaTotals.lean).
  GIVEN WITH THE SEED: the statements are not yours to turn. If you find one false, say at which input.
  Laid BY PROGRAM, IN A SANDBOX (cutbox-rows.mjs): the forced cells as the released guide's own fill.sh prints them over the translation 80b0bf264ab5b386… (all of the seat's roots in one cut). By AI agents, Wed Nov 11 2026. No macro, syntax, notation, axiom, sorry.
-/
import Derived.Test.YtjcbojcnfdlfaaaChecked
import GoSem.Claim
import GoSem.ClaimJoined
import GoSem.ClaimMapViews
import Derived.JoinedTies
import Derived.KernelRfl
namespace Go.Proofs.Ytjcbojcnfdlfaaa
/- THE CELL 'sum', in the pinned program and in every row, IS THE sha256 OF THE DUMP (.gsa) THAT YtjcbojcnfdlfaaaProg.lean LOADS. Nothing in Lean hashes anything: it is a label: what it is worth is what the hold of that sum in a sandbox is worth. -/
noncomputable def Try.pinned : Pinned := { name := "ytjcbojcnfdlfaaa", sum := "80b0bf264ab5b3866a14bf27ce53c34d0753872b9f5a7a2259300d3183f81efe", checked := Try.checked }
namespace Rows
def none {H : Type} : Left H := { results := [], args := [] }

/-- 'laws.FnExactRecAgree': WHATEVER THE INPUT: true; the input reads as it did. -/
def fnExactRecAgreeSpec : ChangeSpec := { name := "fnExactRecAgree", fn := fun _ => fun
  | [d] => { results := [.lit (.bool true)], args := [d] }
  | _ => none }
def fnExactRecAgreeRow : OpenClaim := { program := "ytjcbojcnfdlfaaa", sum := "80b0bf264ab5b3866a14bf27ce53c34d0753872b9f5a7a2259300d3183f81efe", func := "loop.example/wharflog/laws.FnExactRecAgree", spec := "fnExactRecAgree", plainKeys := false, apart := false }
def FnExactRecAgreeSaid : Prop := fnExactRecAgreeRow.holds Try.pinned (OpenSpec.ofChange fnExactRecAgreeSpec)

/-- ITS FALSE NEIGHBOUR: 'it returns false'. Refute it at one input. -/
def fnExactRecAgreeWrong : ChangeSpec := { name := "fnExactRecAgree", fn := fun _ => fun
  | [d] => { results := [.lit (.bool false)], args := [d] }
  | _ => none }
def FnExactRecAgreeWrongFalsely : Prop := fnExactRecAgreeRow.holds Try.pinned (OpenSpec.ofChange fnExactRecAgreeWrong)

/-- 'laws.FnExactLogNew': WHATEVER THE INPUT: true; the input reads as it did. -/
def fnExactLogNewSpec : ChangeSpec := { name := "fnExactLogNew", fn := fun _ => fun
  | [d] => { results := [.lit (.bool true)], args := [d] }
  | _ => none }
def fnExactLogNewRow : OpenClaim := { program := "ytjcbojcnfdlfaaa", sum := "80b0bf264ab5b3866a14bf27ce53c34d0753872b9f5a7a2259300d3183f81efe", func := "loop.example/wharflog/laws.FnExactLogNew", spec := "fnExactLogNew", plainKeys := false, apart := false }
def FnExactLogNewSaid : Prop := fnExactLogNewRow.holds Try.pinned (OpenSpec.ofChange fnExactLogNewSpec)

/-- ITS FALSE NEIGHBOUR: 'it returns false'. Refute it at one input. -/
def fnExactLogNewWrong : ChangeSpec := { name := "fnExactLogNew", fn := fun _ => fun
  | [d] => { results := [.lit (.bool false)], args := [d] }
  | _ => none }
def FnExactLogNewWrongFalsely : Prop := fnExactLogNewRow.holds Try.pinned (OpenSpec.ofChange fnExactLogNewWrong)

/-- 'laws.FnRecMerge': WHATEVER THE INPUT: true; the input reads as it did. -/
def fnRecMergeSpec : ChangeSpec := { name := "fnRecMerge", fn := fun _ => fun
  | [d] => { results := [.lit (.bool true)], args := [d] }
  | _ => none }
def fnRecMergeRow : OpenClaim := { program := "ytjcbojcnfdlfaaa", sum := "80b0bf264ab5b3866a14bf27ce53c34d0753872b9f5a7a2259300d3183f81efe", func := "loop.example/wharflog/laws.FnRecMerge", spec := "fnRecMerge", recurses := true, plainKeys := false, apart := false }
def FnRecMergeSaid : Prop := fnRecMergeRow.holds Try.pinned (OpenSpec.ofChange fnRecMergeSpec)

/-- ITS FALSE NEIGHBOUR: 'it returns false'. Refute it at one input. -/
def fnRecMergeWrong : ChangeSpec := { name := "fnRecMerge", fn := fun _ => fun
  | [d] => { results := [.lit (.bool false)], args := [d] }
  | _ => none }
def FnRecMergeWrongFalsely : Prop := fnRecMergeRow.holds Try.pinned (OpenSpec.ofChange fnRecMergeWrong)

/-- 'laws.FnExactRecWish': WHATEVER THE INPUT: true; the input reads as it did. -/
def fnExactRecWishSpec : ChangeSpec := { name := "fnExactRecWish", fn := fun _ => fun
  | [d1, d2] => { results := [.lit (.bool true)], args := [d1, d2] }
  | _ => none }
def fnExactRecWishRow : OpenClaim := { program := "ytjcbojcnfdlfaaa", sum := "80b0bf264ab5b3866a14bf27ce53c34d0753872b9f5a7a2259300d3183f81efe", func := "loop.example/wharflog/laws.FnExactRecWish", spec := "fnExactRecWish", plainKeys := false, apart := false }
def FnExactRecWishSaid : Prop := fnExactRecWishRow.holds Try.pinned (OpenSpec.ofChange fnExactRecWishSpec)

/-- ITS FALSE NEIGHBOUR: 'it returns false'. Refute it at one input. -/
def fnExactRecWishWrong : ChangeSpec := { name := "fnExactRecWish", fn := fun _ => fun
  | [d1, d2] => { results := [.lit (.bool false)], args := [d1, d2] }
  | _ => none }
def FnExactRecWishWrongFalsely : Prop := fnExactRecWishRow.holds Try.pinned (OpenSpec.ofChange fnExactRecWishWrong)

/-- 'laws.FnRecFalls': WHATEVER THE INPUT: true; the input reads as it did. -/
def fnRecFallsSpec : ChangeSpec := { name := "fnRecFalls", fn := fun _ => fun
  | [d] => { results := [.lit (.bool true)], args := [d] }
  | _ => none }
def fnRecFallsRow : OpenClaim := { program := "ytjcbojcnfdlfaaa", sum := "80b0bf264ab5b3866a14bf27ce53c34d0753872b9f5a7a2259300d3183f81efe", func := "loop.example/wharflog/laws.FnRecFalls", spec := "fnRecFalls", recurses := true, plainKeys := false, apart := false }
def FnRecFallsSaid : Prop := fnRecFallsRow.holds Try.pinned (OpenSpec.ofChange fnRecFallsSpec)

/-- ITS FALSE NEIGHBOUR: 'it returns false'. Refute it at one input. -/
def fnRecFallsWrong : ChangeSpec := { name := "fnRecFalls", fn := fun _ => fun
  | [d] => { results := [.lit (.bool false)], args := [d] }
  | _ => none }
def FnRecFallsWrongFalsely : Prop := fnRecFallsRow.holds Try.pinned (OpenSpec.ofChange fnRecFallsWrong)

/- THE SECOND FORM. 'bulk': how many values and letters a reading holds, each counted each time it is reached (what is shared counts as often as it is met; a slice's spare places count too). A statement '..UptoSaid' is the law's where the arguments, and the package variables that the reading takes, are together of bulk at most 1048576: NARROWER than '..Said'. Prove '..Said' where nothing that the law and all that it calls make is longer than what came in: it says more and counts as full. Else prove '..UptoSaid'. A law counts once. -/
mutual
def uptoBulk {H : Type} : DataW H → Nat
  | .lit (.string bytes) => bytes.length + 1
  | .lit _ => 1
  | .nil => 1
  | .ptr d => uptoBulk d + 1
  | .slice elems spare => uptoBulkAll elems + uptoBulkAll spare + 1
  | .agg parts => uptoBulkAll parts + 1
  | .iface _ d => uptoBulk d + 1
  | .map entries => uptoBulkEntries entries + 1
  | .held _ => 1
def uptoBulkAll {H : Type} : List (DataW H) → Nat
  | [] => 0
  | d :: r => uptoBulk d + uptoBulkAll r
def uptoBulkEntries {H : Type} : List (Lit × DataW H) → Nat
  | [] => 0
  | x :: r => uptoBulkEntry x + uptoBulkEntries r
def uptoBulkEntry {H : Type} : Lit × DataW H → Nat
  | (.string bytes, d) => bytes.length + uptoBulk d + 1
  | (_, d) => uptoBulk d + 1
 end
def uptoSmall : (H : Type) → List (DataW H) → Bool := fun _ ds => decide (uptoBulkAll ds ≤ 1048576)
def OpenSpec.upto (s : _root_.Go.ChangeSpec) : _root_.Go.OpenSpec := { _root_.Go.OpenSpec.ofChange s with cond := some uptoSmall }

/-- 'laws.FnExactRecAgree', WHERE WHAT IT READS IS OF BULK AT MOST 1048576: true; the input reads as it did. -/
def fnExactRecAgreeUptoRow : OpenClaim := { program := "ytjcbojcnfdlfaaa", sum := "80b0bf264ab5b3866a14bf27ce53c34d0753872b9f5a7a2259300d3183f81efe", func := "loop.example/wharflog/laws.FnExactRecAgree", spec := "fnExactRecAgree", plainKeys := false, apart := false, narrowed := true }
def FnExactRecAgreeUptoSaid : Prop := fnExactRecAgreeUptoRow.holds Try.pinned (OpenSpec.upto fnExactRecAgreeSpec)

/-- 'laws.FnExactLogNew', WHERE WHAT IT READS IS OF BULK AT MOST 1048576: true; the input reads as it did. -/
def fnExactLogNewUptoRow : OpenClaim := { program := "ytjcbojcnfdlfaaa", sum := "80b0bf264ab5b3866a14bf27ce53c34d0753872b9f5a7a2259300d3183f81efe", func := "loop.example/wharflog/laws.FnExactLogNew", spec := "fnExactLogNew", plainKeys := false, apart := false, narrowed := true }
def FnExactLogNewUptoSaid : Prop := fnExactLogNewUptoRow.holds Try.pinned (OpenSpec.upto fnExactLogNewSpec)

/-- 'laws.FnRecMerge', WHERE WHAT IT READS IS OF BULK AT MOST 1048576: true; the input reads as it did. -/
def fnRecMergeUptoRow : OpenClaim := { program := "ytjcbojcnfdlfaaa", sum := "80b0bf264ab5b3866a14bf27ce53c34d0753872b9f5a7a2259300d3183f81efe", func := "loop.example/wharflog/laws.FnRecMerge", spec := "fnRecMerge", recurses := true, plainKeys := false, apart := false, narrowed := true }
def FnRecMergeUptoSaid : Prop := fnRecMergeUptoRow.holds Try.pinned (OpenSpec.upto fnRecMergeSpec)

/-- 'laws.FnExactRecWish', WHERE WHAT IT READS IS OF BULK AT MOST 1048576: true; the input reads as it did. -/
def fnExactRecWishUptoRow : OpenClaim := { program := "ytjcbojcnfdlfaaa", sum := "80b0bf264ab5b3866a14bf27ce53c34d0753872b9f5a7a2259300d3183f81efe", func := "loop.example/wharflog/laws.FnExactRecWish", spec := "fnExactRecWish", plainKeys := false, apart := false, narrowed := true }
def FnExactRecWishUptoSaid : Prop := fnExactRecWishUptoRow.holds Try.pinned (OpenSpec.upto fnExactRecWishSpec)

/-- 'laws.FnRecFalls', WHERE WHAT IT READS IS OF BULK AT MOST 1048576: true; the input reads as it did. -/
def fnRecFallsUptoRow : OpenClaim := { program := "ytjcbojcnfdlfaaa", sum := "80b0bf264ab5b3866a14bf27ce53c34d0753872b9f5a7a2259300d3183f81efe", func := "loop.example/wharflog/laws.FnRecFalls", spec := "fnRecFalls", recurses := true, plainKeys := false, apart := false, narrowed := true }
def FnRecFallsUptoSaid : Prop := fnRecFallsUptoRow.holds Try.pinned (OpenSpec.upto fnRecFallsSpec)

end Rows
end Go.Proofs.Ytjcbojcnfdlfaaa
