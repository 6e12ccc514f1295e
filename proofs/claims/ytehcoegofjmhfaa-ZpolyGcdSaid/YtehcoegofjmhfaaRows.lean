/-
  No cell of these rows narrows 'for every input' (looked for: loops, veiled, ifaces, maps, wideKeys, modest, calm, conditions, laid).
  DERIVED. THE GIVEN ROWS OF THIS SEAT. 6 by the template 'for every input the law returns true; each argument reads behind the call as it read before'; 0 by the template 'total and deterministic' (their statements: YtehcoegofjmhfaaTotals.lean).
  GIVEN WITH THE SEED: the statements are not yours to turn. If you find one false, say at which input.
  Laid BY PROGRAM, IN A SANDBOX (cutbox-rows.mjs): the forced cells as the released guide's own fill.sh prints them over the translation f8b0b4de20b30c84… (all of the seat's roots in one cut). By AI agents, Wed Nov 11 2026. No macro, syntax, notation, axiom, sorry.
-/
import Derived.Test.YtehcoegofjmhfaaChecked
import GoSem.Claim
import GoSem.ClaimJoined
import GoSem.ClaimMapViews
import Derived.JoinedTies
import Derived.KernelRfl
namespace Go.Proofs.Ytehcoegofjmhfaa
/- THE CELL 'sum', in the pinned program and in every row, IS THE sha256 OF THE DUMP (.gsa) THAT YtehcoegofjmhfaaProg.lean LOADS. Nothing in Lean hashes anything: it is a label: what it is worth is what the hold of that sum in a sandbox is worth. -/
noncomputable def Try.pinned : Pinned := { name := "ytehcoegofjmhfaa", sum := "f8b0b4de20b30c84dff78ce50359d9420755ef17cdfa51d9fd2f22f6439b38fa", checked := Try.checked }
namespace Rows
def none {H : Type} : Left H := { results := [], args := [] }

/-- 'quincunxlaw10.ZpolyPseudo': WHATEVER THE INPUT: true; the input reads as it did. -/
def zpolyPseudoSpec : ChangeSpec := { name := "zpolyPseudo", fn := fun _ => fun
  | [d1, d2] => { results := [.lit (.bool true)], args := [d1, d2] }
  | _ => none }
def zpolyPseudoRow : OpenClaim := { program := "ytehcoegofjmhfaa", sum := "f8b0b4de20b30c84dff78ce50359d9420755ef17cdfa51d9fd2f22f6439b38fa", func := "quincunx/quincunxlaw10.ZpolyPseudo", spec := "zpolyPseudo", inPlace := ["math/bits.Add64", "math/bits.Sub64"], unfollowed := true, recurses := true, named := ["math/bits.divideError", "math/bits.overflowError"], apart := false }
def ZpolyPseudoSaid : Prop := zpolyPseudoRow.holds Try.pinned (OpenSpec.ofChange zpolyPseudoSpec)

/-- ITS FALSE NEIGHBOUR: 'it returns false'. Refute it at one input. -/
def zpolyPseudoWrong : ChangeSpec := { name := "zpolyPseudo", fn := fun _ => fun
  | [d1, d2] => { results := [.lit (.bool false)], args := [d1, d2] }
  | _ => none }
def ZpolyPseudoWrongFalsely : Prop := zpolyPseudoRow.holds Try.pinned (OpenSpec.ofChange zpolyPseudoWrong)

/-- 'quincunxlaw10.ZpolyContent': WHATEVER THE INPUT: true; the input reads as it did. -/
def zpolyContentSpec : ChangeSpec := { name := "zpolyContent", fn := fun _ => fun
  | [d1, d2] => { results := [.lit (.bool true)], args := [d1, d2] }
  | _ => none }
def zpolyContentRow : OpenClaim := { program := "ytehcoegofjmhfaa", sum := "f8b0b4de20b30c84dff78ce50359d9420755ef17cdfa51d9fd2f22f6439b38fa", func := "quincunx/quincunxlaw10.ZpolyContent", spec := "zpolyContent", inPlace := ["math/bits.Add64", "math/bits.Sub64"], unfollowed := true, recurses := true, named := ["math/bits.divideError", "math/bits.overflowError"], apart := false }
def ZpolyContentSaid : Prop := zpolyContentRow.holds Try.pinned (OpenSpec.ofChange zpolyContentSpec)

/-- ITS FALSE NEIGHBOUR: 'it returns false'. Refute it at one input. -/
def zpolyContentWrong : ChangeSpec := { name := "zpolyContent", fn := fun _ => fun
  | [d1, d2] => { results := [.lit (.bool false)], args := [d1, d2] }
  | _ => none }
def ZpolyContentWrongFalsely : Prop := zpolyContentRow.holds Try.pinned (OpenSpec.ofChange zpolyContentWrong)

/-- 'quincunxlaw10.ZpolyReckons': WHATEVER THE INPUT: true; the input reads as it did. -/
def zpolyReckonsSpec : ChangeSpec := { name := "zpolyReckons", fn := fun _ => fun
  | [d1, d2, d3] => { results := [.lit (.bool true)], args := [d1, d2, d3] }
  | _ => none }
def zpolyReckonsRow : OpenClaim := { program := "ytehcoegofjmhfaa", sum := "f8b0b4de20b30c84dff78ce50359d9420755ef17cdfa51d9fd2f22f6439b38fa", func := "quincunx/quincunxlaw10.ZpolyReckons", spec := "zpolyReckons", inPlace := ["math/bits.Add64", "math/bits.Sub64"], unfollowed := true, recurses := true, named := ["math/bits.divideError", "math/bits.overflowError"], apart := false }
def ZpolyReckonsSaid : Prop := zpolyReckonsRow.holds Try.pinned (OpenSpec.ofChange zpolyReckonsSpec)

/-- ITS FALSE NEIGHBOUR: 'it returns false'. Refute it at one input. -/
def zpolyReckonsWrong : ChangeSpec := { name := "zpolyReckons", fn := fun _ => fun
  | [d1, d2, d3] => { results := [.lit (.bool false)], args := [d1, d2, d3] }
  | _ => none }
def ZpolyReckonsWrongFalsely : Prop := zpolyReckonsRow.holds Try.pinned (OpenSpec.ofChange zpolyReckonsWrong)

/-- 'quincunxlaw10.ZpolyExact': WHATEVER THE INPUT: true; the input reads as it did. -/
def zpolyExactSpec : ChangeSpec := { name := "zpolyExact", fn := fun _ => fun
  | [d1, d2, d3] => { results := [.lit (.bool true)], args := [d1, d2, d3] }
  | _ => none }
def zpolyExactRow : OpenClaim := { program := "ytehcoegofjmhfaa", sum := "f8b0b4de20b30c84dff78ce50359d9420755ef17cdfa51d9fd2f22f6439b38fa", func := "quincunx/quincunxlaw10.ZpolyExact", spec := "zpolyExact", inPlace := ["math/bits.Add64", "math/bits.Sub64"], unfollowed := true, recurses := true, named := ["math/bits.divideError", "math/bits.overflowError"], apart := false }
def ZpolyExactSaid : Prop := zpolyExactRow.holds Try.pinned (OpenSpec.ofChange zpolyExactSpec)

/-- ITS FALSE NEIGHBOUR: 'it returns false'. Refute it at one input. -/
def zpolyExactWrong : ChangeSpec := { name := "zpolyExact", fn := fun _ => fun
  | [d1, d2, d3] => { results := [.lit (.bool false)], args := [d1, d2, d3] }
  | _ => none }
def ZpolyExactWrongFalsely : Prop := zpolyExactRow.holds Try.pinned (OpenSpec.ofChange zpolyExactWrong)

/-- 'quincunxlaw10.ZpolyGcd': WHATEVER THE INPUT: true; the input reads as it did. -/
def zpolyGcdSpec : ChangeSpec := { name := "zpolyGcd", fn := fun _ => fun
  | [d1, d2, d3] => { results := [.lit (.bool true)], args := [d1, d2, d3] }
  | _ => none }
def zpolyGcdRow : OpenClaim := { program := "ytehcoegofjmhfaa", sum := "f8b0b4de20b30c84dff78ce50359d9420755ef17cdfa51d9fd2f22f6439b38fa", func := "quincunx/quincunxlaw10.ZpolyGcd", spec := "zpolyGcd", inPlace := ["math/bits.Add64", "math/bits.Sub64"], unfollowed := true, recurses := true, named := ["math/bits.divideError", "math/bits.overflowError"], apart := false }
def ZpolyGcdSaid : Prop := zpolyGcdRow.holds Try.pinned (OpenSpec.ofChange zpolyGcdSpec)

/-- ITS FALSE NEIGHBOUR: 'it returns false'. Refute it at one input. -/
def zpolyGcdWrong : ChangeSpec := { name := "zpolyGcd", fn := fun _ => fun
  | [d1, d2, d3] => { results := [.lit (.bool false)], args := [d1, d2, d3] }
  | _ => none }
def ZpolyGcdWrongFalsely : Prop := zpolyGcdRow.holds Try.pinned (OpenSpec.ofChange zpolyGcdWrong)

/-- 'quincunxlaw10.ZpolyReduces': WHATEVER THE INPUT: true; the input reads as it did. -/
def zpolyReducesSpec : ChangeSpec := { name := "zpolyReduces", fn := fun _ => fun
  | [d1, d2, d3] => { results := [.lit (.bool true)], args := [d1, d2, d3] }
  | _ => none }
def zpolyReducesRow : OpenClaim := { program := "ytehcoegofjmhfaa", sum := "f8b0b4de20b30c84dff78ce50359d9420755ef17cdfa51d9fd2f22f6439b38fa", func := "quincunx/quincunxlaw10.ZpolyReduces", spec := "zpolyReduces", inPlace := ["math/bits.Add64", "math/bits.Sub64"], unfollowed := true, recurses := true, named := ["math/bits.divideError", "math/bits.overflowError"], apart := false }
def ZpolyReducesSaid : Prop := zpolyReducesRow.holds Try.pinned (OpenSpec.ofChange zpolyReducesSpec)

/-- ITS FALSE NEIGHBOUR: 'it returns false'. Refute it at one input. -/
def zpolyReducesWrong : ChangeSpec := { name := "zpolyReduces", fn := fun _ => fun
  | [d1, d2, d3] => { results := [.lit (.bool false)], args := [d1, d2, d3] }
  | _ => none }
def ZpolyReducesWrongFalsely : Prop := zpolyReducesRow.holds Try.pinned (OpenSpec.ofChange zpolyReducesWrong)

/- THE SECOND FORM. 'bulk': how many values and letters a reading holds, each counted each time it is reached (what is shared counts as often as it is met; a slice's spare places count too). A statement '..UptoSaid' is the law's where the arguments, and the package variables that the reading takes, are together of bulk at most 1048576: NARROWER than '..Said'. Prove '..Said' where nothing that the law and all that it calls make is longer than what came in: it says more and counts as full. Else prove '..UptoSaid'. A law counts once. -/
mutual
def uptoBulk {H : Type} : DataW H → Nat
  | .lit (.string bytes) => bytes.length + 1
  | .lit _ => 1
  | .nil => 1
  | .ptr d => uptoBulk d + 1
  | .slice elems spare => uptoBulkAll elems + uptoBulkAll spare + 1
  | .agg parts => uptoBulkAll parts + 1
  | .iface _ d => uptoBulk d + 1
  | .map entries => uptoBulkEntries entries + 1
  | .held _ => 1
def uptoBulkAll {H : Type} : List (DataW H) → Nat
  | [] => 0
  | d :: r => uptoBulk d + uptoBulkAll r
def uptoBulkEntries {H : Type} : List (Lit × DataW H) → Nat
  | [] => 0
  | x :: r => uptoBulkEntry x + uptoBulkEntries r
def uptoBulkEntry {H : Type} : Lit × DataW H → Nat
  | (.string bytes, d) => bytes.length + uptoBulk d + 1
  | (_, d) => uptoBulk d + 1
 end
def uptoSmall : (H : Type) → List (DataW H) → Bool := fun _ ds => decide (uptoBulkAll ds ≤ 1048576)
def OpenSpec.upto (s : _root_.Go.ChangeSpec) : _root_.Go.OpenSpec := { _root_.Go.OpenSpec.ofChange s with cond := some uptoSmall }

/-- 'quincunxlaw10.ZpolyPseudo', WHERE WHAT IT READS IS OF BULK AT MOST 1048576: true; the input reads as it did. -/
def zpolyPseudoUptoRow : OpenClaim := { program := "ytehcoegofjmhfaa", sum := "f8b0b4de20b30c84dff78ce50359d9420755ef17cdfa51d9fd2f22f6439b38fa", func := "quincunx/quincunxlaw10.ZpolyPseudo", spec := "zpolyPseudo", inPlace := ["math/bits.Add64", "math/bits.Sub64"], unfollowed := true, recurses := true, named := ["math/bits.divideError", "math/bits.overflowError"], apart := false, narrowed := true }
def ZpolyPseudoUptoSaid : Prop := zpolyPseudoUptoRow.holds Try.pinned (OpenSpec.upto zpolyPseudoSpec)

/-- 'quincunxlaw10.ZpolyContent', WHERE WHAT IT READS IS OF BULK AT MOST 1048576: true; the input reads as it did. -/
def zpolyContentUptoRow : OpenClaim := { program := "ytehcoegofjmhfaa", sum := "f8b0b4de20b30c84dff78ce50359d9420755ef17cdfa51d9fd2f22f6439b38fa", func := "quincunx/quincunxlaw10.ZpolyContent", spec := "zpolyContent", inPlace := ["math/bits.Add64", "math/bits.Sub64"], unfollowed := true, recurses := true, named := ["math/bits.divideError", "math/bits.overflowError"], apart := false, narrowed := true }
def ZpolyContentUptoSaid : Prop := zpolyContentUptoRow.holds Try.pinned (OpenSpec.upto zpolyContentSpec)

/-- 'quincunxlaw10.ZpolyReckons', WHERE WHAT IT READS IS OF BULK AT MOST 1048576: true; the input reads as it did. -/
def zpolyReckonsUptoRow : OpenClaim := { program := "ytehcoegofjmhfaa", sum := "f8b0b4de20b30c84dff78ce50359d9420755ef17cdfa51d9fd2f22f6439b38fa", func := "quincunx/quincunxlaw10.ZpolyReckons", spec := "zpolyReckons", inPlace := ["math/bits.Add64", "math/bits.Sub64"], unfollowed := true, recurses := true, named := ["math/bits.divideError", "math/bits.overflowError"], apart := false, narrowed := true }
def ZpolyReckonsUptoSaid : Prop := zpolyReckonsUptoRow.holds Try.pinned (OpenSpec.upto zpolyReckonsSpec)

/-- 'quincunxlaw10.ZpolyExact', WHERE WHAT IT READS IS OF BULK AT MOST 1048576: true; the input reads as it did. -/
def zpolyExactUptoRow : OpenClaim := { program := "ytehcoegofjmhfaa", sum := "f8b0b4de20b30c84dff78ce50359d9420755ef17cdfa51d9fd2f22f6439b38fa", func := "quincunx/quincunxlaw10.ZpolyExact", spec := "zpolyExact", inPlace := ["math/bits.Add64", "math/bits.Sub64"], unfollowed := true, recurses := true, named := ["math/bits.divideError", "math/bits.overflowError"], apart := false, narrowed := true }
def ZpolyExactUptoSaid : Prop := zpolyExactUptoRow.holds Try.pinned (OpenSpec.upto zpolyExactSpec)

/-- 'quincunxlaw10.ZpolyGcd', WHERE WHAT IT READS IS OF BULK AT MOST 1048576: true; the input reads as it did. -/
def zpolyGcdUptoRow : OpenClaim := { program := "ytehcoegofjmhfaa", sum := "f8b0b4de20b30c84dff78ce50359d9420755ef17cdfa51d9fd2f22f6439b38fa", func := "quincunx/quincunxlaw10.ZpolyGcd", spec := "zpolyGcd", inPlace := ["math/bits.Add64", "math/bits.Sub64"], unfollowed := true, recurses := true, named := ["math/bits.divideError", "math/bits.overflowError"], apart := false, narrowed := true }
def ZpolyGcdUptoSaid : Prop := zpolyGcdUptoRow.holds Try.pinned (OpenSpec.upto zpolyGcdSpec)

/-- 'quincunxlaw10.ZpolyReduces', WHERE WHAT IT READS IS OF BULK AT MOST 1048576: true; the input reads as it did. -/
def zpolyReducesUptoRow : OpenClaim := { program := "ytehcoegofjmhfaa", sum := "f8b0b4de20b30c84dff78ce50359d9420755ef17cdfa51d9fd2f22f6439b38fa", func := "quincunx/quincunxlaw10.ZpolyReduces", spec := "zpolyReduces", inPlace := ["math/bits.Add64", "math/bits.Sub64"], unfollowed := true, recurses := true, named := ["math/bits.divideError", "math/bits.overflowError"], apart := false, narrowed := true }
def ZpolyReducesUptoSaid : Prop := zpolyReducesUptoRow.holds Try.pinned (OpenSpec.upto zpolyReducesSpec)

end Rows
end Go.Proofs.Ytehcoegofjmhfaa
