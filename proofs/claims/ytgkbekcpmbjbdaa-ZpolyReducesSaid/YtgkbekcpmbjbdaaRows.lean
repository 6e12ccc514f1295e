/-
  No cell of these rows narrows 'for every input' (looked for: loops, veiled, ifaces, maps, wideKeys, modest, calm, conditions, laid).
  DERIVED. THE GIVEN ROWS OF THIS SEAT. 6 by the template 'for every input the law returns true; each argument reads behind the call as it read before'; 0 by the template 'total and deterministic' (their statements: YtgkbekcpmbjbdaaTotals.lean).
  GIVEN WITH THE SEED: the statements are not yours to turn. If you find one false, say at which input.
  Laid BY PROGRAM, IN A SANDBOX (cutbox-rows.mjs): the forced cells as the released guide's own fill.sh prints them over the translation 48382473045418d6… (all of the seat's roots in one cut). By AI agents, Wed Nov 11 2026. No macro, syntax, notation, axiom, sorry.
-/
import Derived.Test.YtgkbekcpmbjbdaaChecked
import GoSem.Claim
import GoSem.ClaimJoined
import GoSem.ClaimMapViews
import Derived.JoinedTies
import Derived.KernelRfl
namespace Go.Proofs.Ytgkbekcpmbjbdaa
/- THE CELL 'sum', in the pinned program and in every row, IS THE sha256 OF THE DUMP (.gsa) THAT YtgkbekcpmbjbdaaProg.lean LOADS. Nothing in Lean hashes anything: it is a label: what it is worth is what the hold of that sum in a sandbox is worth. -/
noncomputable def Try.pinned : Pinned := { name := "ytgkbekcpmbjbdaa", sum := "48382473045418d67eea7a401c3e4e7f6bfad396336f08570c3f40ccbde58e15", checked := Try.checked }
namespace Rows
def none {H : Type} : Left H := { results := [], args := [] }

/-- 'quincunxlaw26.ZcharPowers': WHATEVER THE INPUT: true; the input reads as it did. -/
def zcharPowersSpec : ChangeSpec := { name := "zcharPowers", fn := fun _ => fun
  | [d1, d2] => { results := [.lit (.bool true)], args := [d1, d2] }
  | _ => none }
def zcharPowersRow : OpenClaim := { program := "ytgkbekcpmbjbdaa", sum := "48382473045418d67eea7a401c3e4e7f6bfad396336f08570c3f40ccbde58e15", func := "quincunx/quincunxlaw26.ZcharPowers", spec := "zcharPowers", inPlace := ["math/bits.Add64", "math/bits.Sub64"], unfollowed := true, recurses := true, named := ["math/bits.divideError", "math/bits.overflowError"], apart := false }
def ZcharPowersSaid : Prop := zcharPowersRow.holds Try.pinned (OpenSpec.ofChange zcharPowersSpec)

/-- ITS FALSE NEIGHBOUR: 'it returns false'. Refute it at one input. -/
def zcharPowersWrong : ChangeSpec := { name := "zcharPowers", fn := fun _ => fun
  | [d1, d2] => { results := [.lit (.bool false)], args := [d1, d2] }
  | _ => none }
def ZcharPowersWrongFalsely : Prop := zcharPowersRow.holds Try.pinned (OpenSpec.ofChange zcharPowersWrong)

/-- 'quincunxlaw26.ZcharValues': WHATEVER THE INPUT: true; the input reads as it did. -/
def zcharValuesSpec : ChangeSpec := { name := "zcharValues", fn := fun _ => fun
  | [d1, d2] => { results := [.lit (.bool true)], args := [d1, d2] }
  | _ => none }
def zcharValuesRow : OpenClaim := { program := "ytgkbekcpmbjbdaa", sum := "48382473045418d67eea7a401c3e4e7f6bfad396336f08570c3f40ccbde58e15", func := "quincunx/quincunxlaw26.ZcharValues", spec := "zcharValues", inPlace := ["math/bits.Add64", "math/bits.Sub64"], unfollowed := true, recurses := true, named := ["math/bits.divideError", "math/bits.overflowError"], apart := false }
def ZcharValuesSaid : Prop := zcharValuesRow.holds Try.pinned (OpenSpec.ofChange zcharValuesSpec)

/-- ITS FALSE NEIGHBOUR: 'it returns false'. Refute it at one input. -/
def zcharValuesWrong : ChangeSpec := { name := "zcharValues", fn := fun _ => fun
  | [d1, d2] => { results := [.lit (.bool false)], args := [d1, d2] }
  | _ => none }
def ZcharValuesWrongFalsely : Prop := zcharValuesRow.holds Try.pinned (OpenSpec.ofChange zcharValuesWrong)

/-- 'quincunxlaw26.ZcharChars': WHATEVER THE INPUT: true; the input reads as it did. -/
def zcharCharsSpec : ChangeSpec := { name := "zcharChars", fn := fun _ => fun
  | [d] => { results := [.lit (.bool true)], args := [d] }
  | _ => none }
def zcharCharsRow : OpenClaim := { program := "ytgkbekcpmbjbdaa", sum := "48382473045418d67eea7a401c3e4e7f6bfad396336f08570c3f40ccbde58e15", func := "quincunx/quincunxlaw26.ZcharChars", spec := "zcharChars", inPlace := ["math/bits.Add64", "math/bits.Sub64"], unfollowed := true, recurses := true, named := ["math/bits.divideError", "math/bits.overflowError"], apart := false }
def ZcharCharsSaid : Prop := zcharCharsRow.holds Try.pinned (OpenSpec.ofChange zcharCharsSpec)

/-- ITS FALSE NEIGHBOUR: 'it returns false'. Refute it at one input. -/
def zcharCharsWrong : ChangeSpec := { name := "zcharChars", fn := fun _ => fun
  | [d] => { results := [.lit (.bool false)], args := [d] }
  | _ => none }
def ZcharCharsWrongFalsely : Prop := zcharCharsRow.holds Try.pinned (OpenSpec.ofChange zcharCharsWrong)

/-- 'quincunxlaw26.ZcharAdjugates': WHATEVER THE INPUT: true; the input reads as it did. -/
def zcharAdjugatesSpec : ChangeSpec := { name := "zcharAdjugates", fn := fun _ => fun
  | [d] => { results := [.lit (.bool true)], args := [d] }
  | _ => none }
def zcharAdjugatesRow : OpenClaim := { program := "ytgkbekcpmbjbdaa", sum := "48382473045418d67eea7a401c3e4e7f6bfad396336f08570c3f40ccbde58e15", func := "quincunx/quincunxlaw26.ZcharAdjugates", spec := "zcharAdjugates", inPlace := ["math/bits.Add64", "math/bits.Sub64"], unfollowed := true, recurses := true, named := ["math/bits.divideError", "math/bits.overflowError"], apart := false }
def ZcharAdjugatesSaid : Prop := zcharAdjugatesRow.holds Try.pinned (OpenSpec.ofChange zcharAdjugatesSpec)

/-- ITS FALSE NEIGHBOUR: 'it returns false'. Refute it at one input. -/
def zcharAdjugatesWrong : ChangeSpec := { name := "zcharAdjugates", fn := fun _ => fun
  | [d] => { results := [.lit (.bool false)], args := [d] }
  | _ => none }
def ZcharAdjugatesWrongFalsely : Prop := zcharAdjugatesRow.holds Try.pinned (OpenSpec.ofChange zcharAdjugatesWrong)

/-- 'quincunxlaw03.DivOwn': WHATEVER THE INPUT: true; the input reads as it did. -/
def divOwnSpec : ChangeSpec := { name := "divOwn", fn := fun _ => fun
  | [d1, d2] => { results := [.lit (.bool true)], args := [d1, d2] }
  | _ => none }
def divOwnRow : OpenClaim := { program := "ytgkbekcpmbjbdaa", sum := "48382473045418d67eea7a401c3e4e7f6bfad396336f08570c3f40ccbde58e15", func := "quincunx/quincunxlaw03.DivOwn", spec := "divOwn", inPlace := ["math/bits.Add64", "math/bits.Sub64"], named := ["math/bits.divideError", "math/bits.overflowError"], apart := false }
def DivOwnSaid : Prop := divOwnRow.holds Try.pinned (OpenSpec.ofChange divOwnSpec)

/-- ITS FALSE NEIGHBOUR: 'it returns false'. Refute it at one input. -/
def divOwnWrong : ChangeSpec := { name := "divOwn", fn := fun _ => fun
  | [d1, d2] => { results := [.lit (.bool false)], args := [d1, d2] }
  | _ => none }
def DivOwnWrongFalsely : Prop := divOwnRow.holds Try.pinned (OpenSpec.ofChange divOwnWrong)

/-- 'quincunxlaw10.ZpolyReduces': WHATEVER THE INPUT: true; the input reads as it did. -/
def zpolyReducesSpec : ChangeSpec := { name := "zpolyReduces", fn := fun _ => fun
  | [d1, d2, d3] => { results := [.lit (.bool true)], args := [d1, d2, d3] }
  | _ => none }
def zpolyReducesRow : OpenClaim := { program := "ytgkbekcpmbjbdaa", sum := "48382473045418d67eea7a401c3e4e7f6bfad396336f08570c3f40ccbde58e15", func := "quincunx/quincunxlaw10.ZpolyReduces", spec := "zpolyReduces", inPlace := ["math/bits.Add64", "math/bits.Sub64"], unfollowed := true, recurses := true, named := ["math/bits.divideError", "math/bits.overflowError"], apart := false }
def ZpolyReducesSaid : Prop := zpolyReducesRow.holds Try.pinned (OpenSpec.ofChange zpolyReducesSpec)

/-- ITS FALSE NEIGHBOUR: 'it returns false'. Refute it at one input. -/
def zpolyReducesWrong : ChangeSpec := { name := "zpolyReduces", fn := fun _ => fun
  | [d1, d2, d3] => { results := [.lit (.bool false)], args := [d1, d2, d3] }
  | _ => none }
def ZpolyReducesWrongFalsely : Prop := zpolyReducesRow.holds Try.pinned (OpenSpec.ofChange zpolyReducesWrong)

/- THE SECOND FORM. 'bulk': how many values and letters a reading holds, each counted each time it is reached (what is shared counts as often as it is met; a slice's spare places count too). A statement '..UptoSaid' is the law's where the arguments, and the package variables that the reading takes, are together of bulk at most 1048576: NARROWER than '..Said'. Prove '..Said' where nothing that the law and all that it calls make is longer than what came in: it says more and counts as full. Else prove '..UptoSaid'. A law counts once. -/
mutual
def uptoBulk {H : Type} : DataW H → Nat
  | .lit (.string bytes) => bytes.length + 1
  | .lit _ => 1
  | .nil => 1
  | .ptr d => uptoBulk d + 1
  | .slice elems spare => uptoBulkAll elems + uptoBulkAll spare + 1
  | .agg parts => uptoBulkAll parts + 1
  | .iface _ d => uptoBulk d + 1
  | .map entries => uptoBulkEntries entries + 1
  | .held _ => 1
def uptoBulkAll {H : Type} : List (DataW H) → Nat
  | [] => 0
  | d :: r => uptoBulk d + uptoBulkAll r
def uptoBulkEntries {H : Type} : List (Lit × DataW H) → Nat
  | [] => 0
  | x :: r => uptoBulkEntry x + uptoBulkEntries r
def uptoBulkEntry {H : Type} : Lit × DataW H → Nat
  | (.string bytes, d) => bytes.length + uptoBulk d + 1
  | (_, d) => uptoBulk d + 1
 end
def uptoSmall : (H : Type) → List (DataW H) → Bool := fun _ ds => decide (uptoBulkAll ds ≤ 1048576)
def OpenSpec.upto (s : _root_.Go.ChangeSpec) : _root_.Go.OpenSpec := { _root_.Go.OpenSpec.ofChange s with cond := some uptoSmall }

/-- 'quincunxlaw26.ZcharPowers', WHERE WHAT IT READS IS OF BULK AT MOST 1048576: true; the input reads as it did. -/
def zcharPowersUptoRow : OpenClaim := { program := "ytgkbekcpmbjbdaa", sum := "48382473045418d67eea7a401c3e4e7f6bfad396336f08570c3f40ccbde58e15", func := "quincunx/quincunxlaw26.ZcharPowers", spec := "zcharPowers", inPlace := ["math/bits.Add64", "math/bits.Sub64"], unfollowed := true, recurses := true, named := ["math/bits.divideError", "math/bits.overflowError"], apart := false, narrowed := true }
def ZcharPowersUptoSaid : Prop := zcharPowersUptoRow.holds Try.pinned (OpenSpec.upto zcharPowersSpec)

/-- 'quincunxlaw26.ZcharValues', WHERE WHAT IT READS IS OF BULK AT MOST 1048576: true; the input reads as it did. -/
def zcharValuesUptoRow : OpenClaim := { program := "ytgkbekcpmbjbdaa", sum := "48382473045418d67eea7a401c3e4e7f6bfad396336f08570c3f40ccbde58e15", func := "quincunx/quincunxlaw26.ZcharValues", spec := "zcharValues", inPlace := ["math/bits.Add64", "math/bits.Sub64"], unfollowed := true, recurses := true, named := ["math/bits.divideError", "math/bits.overflowError"], apart := false, narrowed := true }
def ZcharValuesUptoSaid : Prop := zcharValuesUptoRow.holds Try.pinned (OpenSpec.upto zcharValuesSpec)

/-- 'quincunxlaw26.ZcharChars', WHERE WHAT IT READS IS OF BULK AT MOST 1048576: true; the input reads as it did. -/
def zcharCharsUptoRow : OpenClaim := { program := "ytgkbekcpmbjbdaa", sum := "48382473045418d67eea7a401c3e4e7f6bfad396336f08570c3f40ccbde58e15", func := "quincunx/quincunxlaw26.ZcharChars", spec := "zcharChars", inPlace := ["math/bits.Add64", "math/bits.Sub64"], unfollowed := true, recurses := true, named := ["math/bits.divideError", "math/bits.overflowError"], apart := false, narrowed := true }
def ZcharCharsUptoSaid : Prop := zcharCharsUptoRow.holds Try.pinned (OpenSpec.upto zcharCharsSpec)

/-- 'quincunxlaw26.ZcharAdjugates', WHERE WHAT IT READS IS OF BULK AT MOST 1048576: true; the input reads as it did. -/
def zcharAdjugatesUptoRow : OpenClaim := { program := "ytgkbekcpmbjbdaa", sum := "48382473045418d67eea7a401c3e4e7f6bfad396336f08570c3f40ccbde58e15", func := "quincunx/quincunxlaw26.ZcharAdjugates", spec := "zcharAdjugates", inPlace := ["math/bits.Add64", "math/bits.Sub64"], unfollowed := true, recurses := true, named := ["math/bits.divideError", "math/bits.overflowError"], apart := false, narrowed := true }
def ZcharAdjugatesUptoSaid : Prop := zcharAdjugatesUptoRow.holds Try.pinned (OpenSpec.upto zcharAdjugatesSpec)

/-- 'quincunxlaw03.DivOwn', WHERE WHAT IT READS IS OF BULK AT MOST 1048576: true; the input reads as it did. -/
def divOwnUptoRow : OpenClaim := { program := "ytgkbekcpmbjbdaa", sum := "48382473045418d67eea7a401c3e4e7f6bfad396336f08570c3f40ccbde58e15", func := "quincunx/quincunxlaw03.DivOwn", spec := "divOwn", inPlace := ["math/bits.Add64", "math/bits.Sub64"], named := ["math/bits.divideError", "math/bits.overflowError"], apart := false, narrowed := true }
def DivOwnUptoSaid : Prop := divOwnUptoRow.holds Try.pinned (OpenSpec.upto divOwnSpec)

/-- 'quincunxlaw10.ZpolyReduces', WHERE WHAT IT READS IS OF BULK AT MOST 1048576: true; the input reads as it did. -/
def zpolyReducesUptoRow : OpenClaim := { program := "ytgkbekcpmbjbdaa", sum := "48382473045418d67eea7a401c3e4e7f6bfad396336f08570c3f40ccbde58e15", func := "quincunx/quincunxlaw10.ZpolyReduces", spec := "zpolyReduces", inPlace := ["math/bits.Add64", "math/bits.Sub64"], unfollowed := true, recurses := true, named := ["math/bits.divideError", "math/bits.overflowError"], apart := false, narrowed := true }
def ZpolyReducesUptoSaid : Prop := zpolyReducesUptoRow.holds Try.pinned (OpenSpec.upto zpolyReducesSpec)

end Rows
end Go.Proofs.Ytgkbekcpmbjbdaa
