/-
  No cell of these rows narrows 'for every input' (looked for: loops, veiled, ifaces, maps, wideKeys, modest, calm, conditions, laid).
  DERIVED. THE GIVEN ROWS OF THIS SEAT. 7 by the template 'for every input the law returns true; each argument reads behind the call as it read before'; 0 by the template 'total and deterministic' (their statements: YtahoiilikhncgaaTotals.lean).
  GIVEN WITH THE SEED: the statements are not yours to turn. If you find one false, say at which input.
  Laid BY PROGRAM, IN A SANDBOX (cutbox-rows.mjs): the forced cells as the released guide's own fill.sh prints them over the translation 813cfa074b1f2c59… (all of the seat's roots in one cut). By AI agents, Wed Nov 11 2026. No macro, syntax, notation, axiom, sorry.
-/
import Derived.Test.YtahoiilikhncgaaChecked
import GoSem.Claim
import GoSem.ClaimJoined
import GoSem.ClaimMapViews
import Derived.JoinedTies
import Derived.KernelRfl
namespace Go.Proofs.Ytahoiilikhncgaa
/- THE CELL 'sum', in the pinned program and in every row, IS THE sha256 OF THE DUMP (.gsa) THAT YtahoiilikhncgaaProg.lean LOADS. Nothing in Lean hashes anything: it is a label: what it is worth is what the hold of that sum in a sandbox is worth. -/
noncomputable def Try.pinned : Pinned := { name := "ytahoiilikhncgaa", sum := "813cfa074b1f2c590d81838e1819fe835c549ed05e098a3c20bb7c110affcc57", checked := Try.checked }
namespace Rows
def none {H : Type} : Left H := { results := [], args := [] }

/-- 'quincunxlaw14.HnfOne': WHATEVER THE INPUT: true; the input reads as it did. -/
def hnfOneSpec : ChangeSpec := { name := "hnfOne", fn := fun _ => fun
  | [d1, d2] => { results := [.lit (.bool true)], args := [d1, d2] }
  | _ => none }
def hnfOneRow : OpenClaim := { program := "ytahoiilikhncgaa", sum := "813cfa074b1f2c590d81838e1819fe835c549ed05e098a3c20bb7c110affcc57", func := "quincunx/quincunxlaw14.HnfOne", spec := "hnfOne", inPlace := ["math/bits.Add64", "math/bits.Sub64"], unfollowed := true, recurses := true, named := ["math/bits.divideError", "math/bits.overflowError"], apart := false }
def HnfOneSaid : Prop := hnfOneRow.holds Try.pinned (OpenSpec.ofChange hnfOneSpec)

/-- ITS FALSE NEIGHBOUR: 'it returns false'. Refute it at one input. -/
def hnfOneWrong : ChangeSpec := { name := "hnfOne", fn := fun _ => fun
  | [d1, d2] => { results := [.lit (.bool false)], args := [d1, d2] }
  | _ => none }
def HnfOneWrongFalsely : Prop := hnfOneRow.holds Try.pinned (OpenSpec.ofChange hnfOneWrong)

/-- 'quincunxlaw17.KernelAll': WHATEVER THE INPUT: true; the input reads as it did. -/
def kernelAllSpec : ChangeSpec := { name := "kernelAll", fn := fun _ => fun
  | [d1, d2] => { results := [.lit (.bool true)], args := [d1, d2] }
  | _ => none }
def kernelAllRow : OpenClaim := { program := "ytahoiilikhncgaa", sum := "813cfa074b1f2c590d81838e1819fe835c549ed05e098a3c20bb7c110affcc57", func := "quincunx/quincunxlaw17.KernelAll", spec := "kernelAll", inPlace := ["math/bits.Add64", "math/bits.Sub64"], unfollowed := true, recurses := true, named := ["math/bits.divideError", "math/bits.overflowError"], apart := false }
def KernelAllSaid : Prop := kernelAllRow.holds Try.pinned (OpenSpec.ofChange kernelAllSpec)

/-- ITS FALSE NEIGHBOUR: 'it returns false'. Refute it at one input. -/
def kernelAllWrong : ChangeSpec := { name := "kernelAll", fn := fun _ => fun
  | [d1, d2] => { results := [.lit (.bool false)], args := [d1, d2] }
  | _ => none }
def KernelAllWrongFalsely : Prop := kernelAllRow.holds Try.pinned (OpenSpec.ofChange kernelAllWrong)

/-- 'quincunxlaw17.KernelMeets': WHATEVER THE INPUT: true; the input reads as it did. -/
def kernelMeetsSpec : ChangeSpec := { name := "kernelMeets", fn := fun _ => fun
  | [d1, d2, d3] => { results := [.lit (.bool true)], args := [d1, d2, d3] }
  | _ => none }
def kernelMeetsRow : OpenClaim := { program := "ytahoiilikhncgaa", sum := "813cfa074b1f2c590d81838e1819fe835c549ed05e098a3c20bb7c110affcc57", func := "quincunx/quincunxlaw17.KernelMeets", spec := "kernelMeets", inPlace := ["math/bits.Add64", "math/bits.Sub64"], unfollowed := true, recurses := true, named := ["math/bits.divideError", "math/bits.overflowError"], apart := false }
def KernelMeetsSaid : Prop := kernelMeetsRow.holds Try.pinned (OpenSpec.ofChange kernelMeetsSpec)

/-- ITS FALSE NEIGHBOUR: 'it returns false'. Refute it at one input. -/
def kernelMeetsWrong : ChangeSpec := { name := "kernelMeets", fn := fun _ => fun
  | [d1, d2, d3] => { results := [.lit (.bool false)], args := [d1, d2, d3] }
  | _ => none }
def KernelMeetsWrongFalsely : Prop := kernelMeetsRow.holds Try.pinned (OpenSpec.ofChange kernelMeetsWrong)

/-- 'quincunxlaw15.ModhnfSteps': WHATEVER THE INPUT: true; the input reads as it did. -/
def modhnfStepsSpec : ChangeSpec := { name := "modhnfSteps", fn := fun _ => fun
  | [d] => { results := [.lit (.bool true)], args := [d] }
  | _ => none }
def modhnfStepsRow : OpenClaim := { program := "ytahoiilikhncgaa", sum := "813cfa074b1f2c590d81838e1819fe835c549ed05e098a3c20bb7c110affcc57", func := "quincunx/quincunxlaw15.ModhnfSteps", spec := "modhnfSteps", inPlace := ["math/bits.Add64", "math/bits.Sub64"], unfollowed := true, recurses := true, named := ["math/bits.divideError", "math/bits.overflowError"], apart := false }
def ModhnfStepsSaid : Prop := modhnfStepsRow.holds Try.pinned (OpenSpec.ofChange modhnfStepsSpec)

/-- ITS FALSE NEIGHBOUR: 'it returns false'. Refute it at one input. -/
def modhnfStepsWrong : ChangeSpec := { name := "modhnfSteps", fn := fun _ => fun
  | [d] => { results := [.lit (.bool false)], args := [d] }
  | _ => none }
def ModhnfStepsWrongFalsely : Prop := modhnfStepsRow.holds Try.pinned (OpenSpec.ofChange modhnfStepsWrong)

/-- 'quincunxlaw15.ModhnfSame': WHATEVER THE INPUT: true; the input reads as it did. -/
def modhnfSameSpec : ChangeSpec := { name := "modhnfSame", fn := fun _ => fun
  | [d] => { results := [.lit (.bool true)], args := [d] }
  | _ => none }
def modhnfSameRow : OpenClaim := { program := "ytahoiilikhncgaa", sum := "813cfa074b1f2c590d81838e1819fe835c549ed05e098a3c20bb7c110affcc57", func := "quincunx/quincunxlaw15.ModhnfSame", spec := "modhnfSame", inPlace := ["math/bits.Add64", "math/bits.Sub64"], unfollowed := true, recurses := true, named := ["math/bits.divideError", "math/bits.overflowError"], apart := false }
def ModhnfSameSaid : Prop := modhnfSameRow.holds Try.pinned (OpenSpec.ofChange modhnfSameSpec)

/-- ITS FALSE NEIGHBOUR: 'it returns false'. Refute it at one input. -/
def modhnfSameWrong : ChangeSpec := { name := "modhnfSame", fn := fun _ => fun
  | [d] => { results := [.lit (.bool false)], args := [d] }
  | _ => none }
def ModhnfSameWrongFalsely : Prop := modhnfSameRow.holds Try.pinned (OpenSpec.ofChange modhnfSameWrong)

/-- 'quincunxlaw15.ModhnfBounded': WHATEVER THE INPUT: true; the input reads as it did. -/
def modhnfBoundedSpec : ChangeSpec := { name := "modhnfBounded", fn := fun _ => fun
  | [d] => { results := [.lit (.bool true)], args := [d] }
  | _ => none }
def modhnfBoundedRow : OpenClaim := { program := "ytahoiilikhncgaa", sum := "813cfa074b1f2c590d81838e1819fe835c549ed05e098a3c20bb7c110affcc57", func := "quincunx/quincunxlaw15.ModhnfBounded", spec := "modhnfBounded", inPlace := ["math/bits.Add64", "math/bits.Sub64"], unfollowed := true, recurses := true, named := ["math/bits.divideError", "math/bits.overflowError"], apart := false }
def ModhnfBoundedSaid : Prop := modhnfBoundedRow.holds Try.pinned (OpenSpec.ofChange modhnfBoundedSpec)

/-- ITS FALSE NEIGHBOUR: 'it returns false'. Refute it at one input. -/
def modhnfBoundedWrong : ChangeSpec := { name := "modhnfBounded", fn := fun _ => fun
  | [d] => { results := [.lit (.bool false)], args := [d] }
  | _ => none }
def ModhnfBoundedWrongFalsely : Prop := modhnfBoundedRow.holds Try.pinned (OpenSpec.ofChange modhnfBoundedWrong)

/-- 'quincunxlaw15.ModhnfIndex': WHATEVER THE INPUT: true; the input reads as it did. -/
def modhnfIndexSpec : ChangeSpec := { name := "modhnfIndex", fn := fun _ => fun
  | [d] => { results := [.lit (.bool true)], args := [d] }
  | _ => none }
def modhnfIndexRow : OpenClaim := { program := "ytahoiilikhncgaa", sum := "813cfa074b1f2c590d81838e1819fe835c549ed05e098a3c20bb7c110affcc57", func := "quincunx/quincunxlaw15.ModhnfIndex", spec := "modhnfIndex", inPlace := ["math/bits.Add64", "math/bits.Sub64"], unfollowed := true, recurses := true, named := ["math/bits.divideError", "math/bits.overflowError"], apart := false }
def ModhnfIndexSaid : Prop := modhnfIndexRow.holds Try.pinned (OpenSpec.ofChange modhnfIndexSpec)

/-- ITS FALSE NEIGHBOUR: 'it returns false'. Refute it at one input. -/
def modhnfIndexWrong : ChangeSpec := { name := "modhnfIndex", fn := fun _ => fun
  | [d] => { results := [.lit (.bool false)], args := [d] }
  | _ => none }
def ModhnfIndexWrongFalsely : Prop := modhnfIndexRow.holds Try.pinned (OpenSpec.ofChange modhnfIndexWrong)

/- THE SECOND FORM. 'bulk': how many values and letters a reading holds, each counted each time it is reached (what is shared counts as often as it is met; a slice's spare places count too). A statement '..UptoSaid' is the law's where the arguments, and the package variables that the reading takes, are together of bulk at most 1048576: NARROWER than '..Said'. Prove '..Said' where nothing that the law and all that it calls make is longer than what came in: it says more and counts as full. Else prove '..UptoSaid'. A law counts once. -/
mutual
def uptoBulk {H : Type} : DataW H → Nat
  | .lit (.string bytes) => bytes.length + 1
  | .lit _ => 1
  | .nil => 1
  | .ptr d => uptoBulk d + 1
  | .slice elems spare => uptoBulkAll elems + uptoBulkAll spare + 1
  | .agg parts => uptoBulkAll parts + 1
  | .iface _ d => uptoBulk d + 1
  | .map entries => uptoBulkEntries entries + 1
  | .held _ => 1
def uptoBulkAll {H : Type} : List (DataW H) → Nat
  | [] => 0
  | d :: r => uptoBulk d + uptoBulkAll r
def uptoBulkEntries {H : Type} : List (Lit × DataW H) → Nat
  | [] => 0
  | x :: r => uptoBulkEntry x + uptoBulkEntries r
def uptoBulkEntry {H : Type} : Lit × DataW H → Nat
  | (.string bytes, d) => bytes.length + uptoBulk d + 1
  | (_, d) => uptoBulk d + 1
 end
def uptoSmall : (H : Type) → List (DataW H) → Bool := fun _ ds => decide (uptoBulkAll ds ≤ 1048576)
def OpenSpec.upto (s : _root_.Go.ChangeSpec) : _root_.Go.OpenSpec := { _root_.Go.OpenSpec.ofChange s with cond := some uptoSmall }

/-- 'quincunxlaw14.HnfOne', WHERE WHAT IT READS IS OF BULK AT MOST 1048576: true; the input reads as it did. -/
def hnfOneUptoRow : OpenClaim := { program := "ytahoiilikhncgaa", sum := "813cfa074b1f2c590d81838e1819fe835c549ed05e098a3c20bb7c110affcc57", func := "quincunx/quincunxlaw14.HnfOne", spec := "hnfOne", inPlace := ["math/bits.Add64", "math/bits.Sub64"], unfollowed := true, recurses := true, named := ["math/bits.divideError", "math/bits.overflowError"], apart := false, narrowed := true }
def HnfOneUptoSaid : Prop := hnfOneUptoRow.holds Try.pinned (OpenSpec.upto hnfOneSpec)

/-- 'quincunxlaw17.KernelAll', WHERE WHAT IT READS IS OF BULK AT MOST 1048576: true; the input reads as it did. -/
def kernelAllUptoRow : OpenClaim := { program := "ytahoiilikhncgaa", sum := "813cfa074b1f2c590d81838e1819fe835c549ed05e098a3c20bb7c110affcc57", func := "quincunx/quincunxlaw17.KernelAll", spec := "kernelAll", inPlace := ["math/bits.Add64", "math/bits.Sub64"], unfollowed := true, recurses := true, named := ["math/bits.divideError", "math/bits.overflowError"], apart := false, narrowed := true }
def KernelAllUptoSaid : Prop := kernelAllUptoRow.holds Try.pinned (OpenSpec.upto kernelAllSpec)

/-- 'quincunxlaw17.KernelMeets', WHERE WHAT IT READS IS OF BULK AT MOST 1048576: true; the input reads as it did. -/
def kernelMeetsUptoRow : OpenClaim := { program := "ytahoiilikhncgaa", sum := "813cfa074b1f2c590d81838e1819fe835c549ed05e098a3c20bb7c110affcc57", func := "quincunx/quincunxlaw17.KernelMeets", spec := "kernelMeets", inPlace := ["math/bits.Add64", "math/bits.Sub64"], unfollowed := true, recurses := true, named := ["math/bits.divideError", "math/bits.overflowError"], apart := false, narrowed := true }
def KernelMeetsUptoSaid : Prop := kernelMeetsUptoRow.holds Try.pinned (OpenSpec.upto kernelMeetsSpec)

/-- 'quincunxlaw15.ModhnfSteps', WHERE WHAT IT READS IS OF BULK AT MOST 1048576: true; the input reads as it did. -/
def modhnfStepsUptoRow : OpenClaim := { program := "ytahoiilikhncgaa", sum := "813cfa074b1f2c590d81838e1819fe835c549ed05e098a3c20bb7c110affcc57", func := "quincunx/quincunxlaw15.ModhnfSteps", spec := "modhnfSteps", inPlace := ["math/bits.Add64", "math/bits.Sub64"], unfollowed := true, recurses := true, named := ["math/bits.divideError", "math/bits.overflowError"], apart := false, narrowed := true }
def ModhnfStepsUptoSaid : Prop := modhnfStepsUptoRow.holds Try.pinned (OpenSpec.upto modhnfStepsSpec)

/-- 'quincunxlaw15.ModhnfSame', WHERE WHAT IT READS IS OF BULK AT MOST 1048576: true; the input reads as it did. -/
def modhnfSameUptoRow : OpenClaim := { program := "ytahoiilikhncgaa", sum := "813cfa074b1f2c590d81838e1819fe835c549ed05e098a3c20bb7c110affcc57", func := "quincunx/quincunxlaw15.ModhnfSame", spec := "modhnfSame", inPlace := ["math/bits.Add64", "math/bits.Sub64"], unfollowed := true, recurses := true, named := ["math/bits.divideError", "math/bits.overflowError"], apart := false, narrowed := true }
def ModhnfSameUptoSaid : Prop := modhnfSameUptoRow.holds Try.pinned (OpenSpec.upto modhnfSameSpec)

/-- 'quincunxlaw15.ModhnfBounded', WHERE WHAT IT READS IS OF BULK AT MOST 1048576: true; the input reads as it did. -/
def modhnfBoundedUptoRow : OpenClaim := { program := "ytahoiilikhncgaa", sum := "813cfa074b1f2c590d81838e1819fe835c549ed05e098a3c20bb7c110affcc57", func := "quincunx/quincunxlaw15.ModhnfBounded", spec := "modhnfBounded", inPlace := ["math/bits.Add64", "math/bits.Sub64"], unfollowed := true, recurses := true, named := ["math/bits.divideError", "math/bits.overflowError"], apart := false, narrowed := true }
def ModhnfBoundedUptoSaid : Prop := modhnfBoundedUptoRow.holds Try.pinned (OpenSpec.upto modhnfBoundedSpec)

/-- 'quincunxlaw15.ModhnfIndex', WHERE WHAT IT READS IS OF BULK AT MOST 1048576: true; the input reads as it did. -/
def modhnfIndexUptoRow : OpenClaim := { program := "ytahoiilikhncgaa", sum := "813cfa074b1f2c590d81838e1819fe835c549ed05e098a3c20bb7c110affcc57", func := "quincunx/quincunxlaw15.ModhnfIndex", spec := "modhnfIndex", inPlace := ["math/bits.Add64", "math/bits.Sub64"], unfollowed := true, recurses := true, named := ["math/bits.divideError", "math/bits.overflowError"], apart := false, narrowed := true }
def ModhnfIndexUptoSaid : Prop := modhnfIndexUptoRow.holds Try.pinned (OpenSpec.upto modhnfIndexSpec)

end Rows
end Go.Proofs.Ytahoiilikhncgaa
