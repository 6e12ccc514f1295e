/-
  No cell of these rows narrows 'for every input' (looked for: loops, veiled, ifaces, maps, wideKeys, modest, calm, conditions, laid).
  DERIVED. THE GIVEN ROWS OF THIS SEAT. 12 by the template 'for every input the law returns true; each argument reads behind the call as it read before'; 0 by the template 'total and deterministic' (their statements: YtiieaohnpnojmaaTotals.lean).
  GIVEN WITH THE SEED: the statements are not yours to turn. If you find one false, say at which input.
  Laid BY PROGRAM, IN A SANDBOX (cutbox-rows.mjs): the forced cells as the released guide's own fill.sh prints them over the translation ea00d0c534225168… (all of the seat's roots in one cut). By AI agents, Wed Nov 11 2026. No macro, syntax, notation, axiom, sorry.
-/
import Derived.Test.YtiieaohnpnojmaaChecked
import GoSem.Claim
import GoSem.ClaimJoined
import GoSem.ClaimMapViews
import Derived.JoinedTies
import Derived.KernelRfl
namespace Go.Proofs.Ytiieaohnpnojmaa
/- THE CELL 'sum', in the pinned program and in every row, IS THE sha256 OF THE DUMP (.gsa) THAT YtiieaohnpnojmaaProg.lean LOADS. Nothing in Lean hashes anything: it is a label: what it is worth is what the hold of that sum in a sandbox is worth. -/
noncomputable def Try.pinned : Pinned := { name := "ytiieaohnpnojmaa", sum := "ea00d0c5342251685d84e5bb5343c863abcb312aaabd25e79cff81056405fbb0", checked := Try.checked }
namespace Rows
def none {H : Type} : Left H := { results := [], args := [] }

/-- 'quincunxlaw21.FmatReduces': WHATEVER THE INPUT: true; the input reads as it did. -/
def fmatReducesSpec : ChangeSpec := { name := "fmatReduces", fn := fun _ => fun
  | [d1, d2] => { results := [.lit (.bool true)], args := [d1, d2] }
  | _ => none }
def fmatReducesRow : OpenClaim := { program := "ytiieaohnpnojmaa", sum := "ea00d0c5342251685d84e5bb5343c863abcb312aaabd25e79cff81056405fbb0", func := "quincunx/quincunxlaw21.FmatReduces", spec := "fmatReduces", unfollowed := true, recurses := true, apart := false }
def FmatReducesSaid : Prop := fmatReducesRow.holds Try.pinned (OpenSpec.ofChange fmatReducesSpec)

/-- ITS FALSE NEIGHBOUR: 'it returns false'. Refute it at one input. -/
def fmatReducesWrong : ChangeSpec := { name := "fmatReduces", fn := fun _ => fun
  | [d1, d2] => { results := [.lit (.bool false)], args := [d1, d2] }
  | _ => none }
def FmatReducesWrongFalsely : Prop := fmatReducesRow.holds Try.pinned (OpenSpec.ofChange fmatReducesWrong)

/-- 'quincunxlaw21.FmatInverts': WHATEVER THE INPUT: true; the input reads as it did. -/
def fmatInvertsSpec : ChangeSpec := { name := "fmatInverts", fn := fun _ => fun
  | [d1, d2] => { results := [.lit (.bool true)], args := [d1, d2] }
  | _ => none }
def fmatInvertsRow : OpenClaim := { program := "ytiieaohnpnojmaa", sum := "ea00d0c5342251685d84e5bb5343c863abcb312aaabd25e79cff81056405fbb0", func := "quincunx/quincunxlaw21.FmatInverts", spec := "fmatInverts", unfollowed := true, recurses := true, apart := false }
def FmatInvertsSaid : Prop := fmatInvertsRow.holds Try.pinned (OpenSpec.ofChange fmatInvertsSpec)

/-- ITS FALSE NEIGHBOUR: 'it returns false'. Refute it at one input. -/
def fmatInvertsWrong : ChangeSpec := { name := "fmatInverts", fn := fun _ => fun
  | [d1, d2] => { results := [.lit (.bool false)], args := [d1, d2] }
  | _ => none }
def FmatInvertsWrongFalsely : Prop := fmatInvertsRow.holds Try.pinned (OpenSpec.ofChange fmatInvertsWrong)

/-- 'quincunxlaw21.FmatSolves': WHATEVER THE INPUT: true; the input reads as it did. -/
def fmatSolvesSpec : ChangeSpec := { name := "fmatSolves", fn := fun _ => fun
  | [d1, d2, d3] => { results := [.lit (.bool true)], args := [d1, d2, d3] }
  | _ => none }
def fmatSolvesRow : OpenClaim := { program := "ytiieaohnpnojmaa", sum := "ea00d0c5342251685d84e5bb5343c863abcb312aaabd25e79cff81056405fbb0", func := "quincunx/quincunxlaw21.FmatSolves", spec := "fmatSolves", unfollowed := true, recurses := true, apart := false }
def FmatSolvesSaid : Prop := fmatSolvesRow.holds Try.pinned (OpenSpec.ofChange fmatSolvesSpec)

/-- ITS FALSE NEIGHBOUR: 'it returns false'. Refute it at one input. -/
def fmatSolvesWrong : ChangeSpec := { name := "fmatSolves", fn := fun _ => fun
  | [d1, d2, d3] => { results := [.lit (.bool false)], args := [d1, d2, d3] }
  | _ => none }
def FmatSolvesWrongFalsely : Prop := fmatSolvesRow.holds Try.pinned (OpenSpec.ofChange fmatSolvesWrong)

/-- 'quincunxlaw21.FmatKernels': WHATEVER THE INPUT: true; the input reads as it did. -/
def fmatKernelsSpec : ChangeSpec := { name := "fmatKernels", fn := fun _ => fun
  | [d1, d2] => { results := [.lit (.bool true)], args := [d1, d2] }
  | _ => none }
def fmatKernelsRow : OpenClaim := { program := "ytiieaohnpnojmaa", sum := "ea00d0c5342251685d84e5bb5343c863abcb312aaabd25e79cff81056405fbb0", func := "quincunx/quincunxlaw21.FmatKernels", spec := "fmatKernels", unfollowed := true, recurses := true, apart := false }
def FmatKernelsSaid : Prop := fmatKernelsRow.holds Try.pinned (OpenSpec.ofChange fmatKernelsSpec)

/-- ITS FALSE NEIGHBOUR: 'it returns false'. Refute it at one input. -/
def fmatKernelsWrong : ChangeSpec := { name := "fmatKernels", fn := fun _ => fun
  | [d1, d2] => { results := [.lit (.bool false)], args := [d1, d2] }
  | _ => none }
def FmatKernelsWrongFalsely : Prop := fmatKernelsRow.holds Try.pinned (OpenSpec.ofChange fmatKernelsWrong)

/-- 'quincunxlaw21.FmatReckons': WHATEVER THE INPUT: true; the input reads as it did. -/
def fmatReckonsSpec : ChangeSpec := { name := "fmatReckons", fn := fun _ => fun
  | [d1, d2, d3] => { results := [.lit (.bool true)], args := [d1, d2, d3] }
  | _ => none }
def fmatReckonsRow : OpenClaim := { program := "ytiieaohnpnojmaa", sum := "ea00d0c5342251685d84e5bb5343c863abcb312aaabd25e79cff81056405fbb0", func := "quincunx/quincunxlaw21.FmatReckons", spec := "fmatReckons", unfollowed := true, recurses := true, apart := false }
def FmatReckonsSaid : Prop := fmatReckonsRow.holds Try.pinned (OpenSpec.ofChange fmatReckonsSpec)

/-- ITS FALSE NEIGHBOUR: 'it returns false'. Refute it at one input. -/
def fmatReckonsWrong : ChangeSpec := { name := "fmatReckons", fn := fun _ => fun
  | [d1, d2, d3] => { results := [.lit (.bool false)], args := [d1, d2, d3] }
  | _ => none }
def FmatReckonsWrongFalsely : Prop := fmatReckonsRow.holds Try.pinned (OpenSpec.ofChange fmatReckonsWrong)

/-- 'quincunxlaw03.DivOwn': WHATEVER THE INPUT: true; the input reads as it did. -/
def divOwnSpec : ChangeSpec := { name := "divOwn", fn := fun _ => fun
  | [d1, d2] => { results := [.lit (.bool true)], args := [d1, d2] }
  | _ => none }
def divOwnRow : OpenClaim := { program := "ytiieaohnpnojmaa", sum := "ea00d0c5342251685d84e5bb5343c863abcb312aaabd25e79cff81056405fbb0", func := "quincunx/quincunxlaw03.DivOwn", spec := "divOwn", inPlace := ["math/bits.Add64", "math/bits.Sub64"], named := ["math/bits.divideError", "math/bits.overflowError"], apart := false }
def DivOwnSaid : Prop := divOwnRow.holds Try.pinned (OpenSpec.ofChange divOwnSpec)

/-- ITS FALSE NEIGHBOUR: 'it returns false'. Refute it at one input. -/
def divOwnWrong : ChangeSpec := { name := "divOwn", fn := fun _ => fun
  | [d1, d2] => { results := [.lit (.bool false)], args := [d1, d2] }
  | _ => none }
def DivOwnWrongFalsely : Prop := divOwnRow.holds Try.pinned (OpenSpec.ofChange divOwnWrong)

/-- 'quincunxlaw14.HnfForms': WHATEVER THE INPUT: true; the input reads as it did. -/
def hnfFormsSpec : ChangeSpec := { name := "hnfForms", fn := fun _ => fun
  | [d] => { results := [.lit (.bool true)], args := [d] }
  | _ => none }
def hnfFormsRow : OpenClaim := { program := "ytiieaohnpnojmaa", sum := "ea00d0c5342251685d84e5bb5343c863abcb312aaabd25e79cff81056405fbb0", func := "quincunx/quincunxlaw14.HnfForms", spec := "hnfForms", inPlace := ["math/bits.Add64", "math/bits.Sub64"], unfollowed := true, recurses := true, named := ["math/bits.divideError", "math/bits.overflowError"], apart := false }
def HnfFormsSaid : Prop := hnfFormsRow.holds Try.pinned (OpenSpec.ofChange hnfFormsSpec)

/-- ITS FALSE NEIGHBOUR: 'it returns false'. Refute it at one input. -/
def hnfFormsWrong : ChangeSpec := { name := "hnfForms", fn := fun _ => fun
  | [d] => { results := [.lit (.bool false)], args := [d] }
  | _ => none }
def HnfFormsWrongFalsely : Prop := hnfFormsRow.holds Try.pinned (OpenSpec.ofChange hnfFormsWrong)

/-- 'quincunxlaw14.HnfOne': WHATEVER THE INPUT: true; the input reads as it did. -/
def hnfOneSpec : ChangeSpec := { name := "hnfOne", fn := fun _ => fun
  | [d1, d2] => { results := [.lit (.bool true)], args := [d1, d2] }
  | _ => none }
def hnfOneRow : OpenClaim := { program := "ytiieaohnpnojmaa", sum := "ea00d0c5342251685d84e5bb5343c863abcb312aaabd25e79cff81056405fbb0", func := "quincunx/quincunxlaw14.HnfOne", spec := "hnfOne", inPlace := ["math/bits.Add64", "math/bits.Sub64"], unfollowed := true, recurses := true, named := ["math/bits.divideError", "math/bits.overflowError"], apart := false }
def HnfOneSaid : Prop := hnfOneRow.holds Try.pinned (OpenSpec.ofChange hnfOneSpec)

/-- ITS FALSE NEIGHBOUR: 'it returns false'. Refute it at one input. -/
def hnfOneWrong : ChangeSpec := { name := "hnfOne", fn := fun _ => fun
  | [d1, d2] => { results := [.lit (.bool false)], args := [d1, d2] }
  | _ => none }
def HnfOneWrongFalsely : Prop := hnfOneRow.holds Try.pinned (OpenSpec.ofChange hnfOneWrong)

/-- 'quincunxlaw14.HnfIs': WHATEVER THE INPUT: true; the input reads as it did. -/
def hnfIsSpec : ChangeSpec := { name := "hnfIs", fn := fun _ => fun
  | [d] => { results := [.lit (.bool true)], args := [d] }
  | _ => none }
def hnfIsRow : OpenClaim := { program := "ytiieaohnpnojmaa", sum := "ea00d0c5342251685d84e5bb5343c863abcb312aaabd25e79cff81056405fbb0", func := "quincunx/quincunxlaw14.HnfIs", spec := "hnfIs", inPlace := ["math/bits.Add64", "math/bits.Sub64"], unfollowed := true, recurses := true, named := ["math/bits.divideError", "math/bits.overflowError"], apart := false }
def HnfIsSaid : Prop := hnfIsRow.holds Try.pinned (OpenSpec.ofChange hnfIsSpec)

/-- ITS FALSE NEIGHBOUR: 'it returns false'. Refute it at one input. -/
def hnfIsWrong : ChangeSpec := { name := "hnfIs", fn := fun _ => fun
  | [d] => { results := [.lit (.bool false)], args := [d] }
  | _ => none }
def HnfIsWrongFalsely : Prop := hnfIsRow.holds Try.pinned (OpenSpec.ofChange hnfIsWrong)

/-- 'quincunxlaw14.HnfCoordinates': WHATEVER THE INPUT: true; the input reads as it did. -/
def hnfCoordinatesSpec : ChangeSpec := { name := "hnfCoordinates", fn := fun _ => fun
  | [d1, d2, d3] => { results := [.lit (.bool true)], args := [d1, d2, d3] }
  | _ => none }
def hnfCoordinatesRow : OpenClaim := { program := "ytiieaohnpnojmaa", sum := "ea00d0c5342251685d84e5bb5343c863abcb312aaabd25e79cff81056405fbb0", func := "quincunx/quincunxlaw14.HnfCoordinates", spec := "hnfCoordinates", inPlace := ["math/bits.Add64", "math/bits.Sub64"], unfollowed := true, recurses := true, named := ["math/bits.divideError", "math/bits.overflowError"], apart := false }
def HnfCoordinatesSaid : Prop := hnfCoordinatesRow.holds Try.pinned (OpenSpec.ofChange hnfCoordinatesSpec)

/-- ITS FALSE NEIGHBOUR: 'it returns false'. Refute it at one input. -/
def hnfCoordinatesWrong : ChangeSpec := { name := "hnfCoordinates", fn := fun _ => fun
  | [d1, d2, d3] => { results := [.lit (.bool false)], args := [d1, d2, d3] }
  | _ => none }
def HnfCoordinatesWrongFalsely : Prop := hnfCoordinatesRow.holds Try.pinned (OpenSpec.ofChange hnfCoordinatesWrong)

/-- 'quincunxlaw21.FmatDets': WHATEVER THE INPUT: true; the input reads as it did. -/
def fmatDetsSpec : ChangeSpec := { name := "fmatDets", fn := fun _ => fun
  | [d1, d2, d3] => { results := [.lit (.bool true)], args := [d1, d2, d3] }
  | _ => none }
def fmatDetsRow : OpenClaim := { program := "ytiieaohnpnojmaa", sum := "ea00d0c5342251685d84e5bb5343c863abcb312aaabd25e79cff81056405fbb0", func := "quincunx/quincunxlaw21.FmatDets", spec := "fmatDets", inPlace := ["math/bits.Add64", "math/bits.Sub64"], unfollowed := true, recurses := true, named := ["math/bits.divideError", "math/bits.overflowError"], apart := false }
def FmatDetsSaid : Prop := fmatDetsRow.holds Try.pinned (OpenSpec.ofChange fmatDetsSpec)

/-- ITS FALSE NEIGHBOUR: 'it returns false'. Refute it at one input. -/
def fmatDetsWrong : ChangeSpec := { name := "fmatDets", fn := fun _ => fun
  | [d1, d2, d3] => { results := [.lit (.bool false)], args := [d1, d2, d3] }
  | _ => none }
def FmatDetsWrongFalsely : Prop := fmatDetsRow.holds Try.pinned (OpenSpec.ofChange fmatDetsWrong)

/-- 'quincunxlaw14.HnfWithin': WHATEVER THE INPUT: true; the input reads as it did. -/
def hnfWithinSpec : ChangeSpec := { name := "hnfWithin", fn := fun _ => fun
  | [d1, d2, d3] => { results := [.lit (.bool true)], args := [d1, d2, d3] }
  | _ => none }
def hnfWithinRow : OpenClaim := { program := "ytiieaohnpnojmaa", sum := "ea00d0c5342251685d84e5bb5343c863abcb312aaabd25e79cff81056405fbb0", func := "quincunx/quincunxlaw14.HnfWithin", spec := "hnfWithin", inPlace := ["math/bits.Add64", "math/bits.Sub64"], unfollowed := true, recurses := true, named := ["math/bits.divideError", "math/bits.overflowError"], apart := false }
def HnfWithinSaid : Prop := hnfWithinRow.holds Try.pinned (OpenSpec.ofChange hnfWithinSpec)

/-- ITS FALSE NEIGHBOUR: 'it returns false'. Refute it at one input. -/
def hnfWithinWrong : ChangeSpec := { name := "hnfWithin", fn := fun _ => fun
  | [d1, d2, d3] => { results := [.lit (.bool false)], args := [d1, d2, d3] }
  | _ => none }
def HnfWithinWrongFalsely : Prop := hnfWithinRow.holds Try.pinned (OpenSpec.ofChange hnfWithinWrong)

/- THE SECOND FORM. 'bulk': how many values and letters a reading holds, each counted each time it is reached (what is shared counts as often as it is met; a slice's spare places count too). A statement '..UptoSaid' is the law's where the arguments, and the package variables that the reading takes, are together of bulk at most 1048576: NARROWER than '..Said'. Prove '..Said' where nothing that the law and all that it calls make is longer than what came in: it says more and counts as full. Else prove '..UptoSaid'. A law counts once. -/
mutual
def uptoBulk {H : Type} : DataW H → Nat
  | .lit (.string bytes) => bytes.length + 1
  | .lit _ => 1
  | .nil => 1
  | .ptr d => uptoBulk d + 1
  | .slice elems spare => uptoBulkAll elems + uptoBulkAll spare + 1
  | .agg parts => uptoBulkAll parts + 1
  | .iface _ d => uptoBulk d + 1
  | .map entries => uptoBulkEntries entries + 1
  | .held _ => 1
def uptoBulkAll {H : Type} : List (DataW H) → Nat
  | [] => 0
  | d :: r => uptoBulk d + uptoBulkAll r
def uptoBulkEntries {H : Type} : List (Lit × DataW H) → Nat
  | [] => 0
  | x :: r => uptoBulkEntry x + uptoBulkEntries r
def uptoBulkEntry {H : Type} : Lit × DataW H → Nat
  | (.string bytes, d) => bytes.length + uptoBulk d + 1
  | (_, d) => uptoBulk d + 1
 end
def uptoSmall : (H : Type) → List (DataW H) → Bool := fun _ ds => decide (uptoBulkAll ds ≤ 1048576)
def OpenSpec.upto (s : _root_.Go.ChangeSpec) : _root_.Go.OpenSpec := { _root_.Go.OpenSpec.ofChange s with cond := some uptoSmall }

/-- 'quincunxlaw21.FmatReduces', WHERE WHAT IT READS IS OF BULK AT MOST 1048576: true; the input reads as it did. -/
def fmatReducesUptoRow : OpenClaim := { program := "ytiieaohnpnojmaa", sum := "ea00d0c5342251685d84e5bb5343c863abcb312aaabd25e79cff81056405fbb0", func := "quincunx/quincunxlaw21.FmatReduces", spec := "fmatReduces", unfollowed := true, recurses := true, apart := false, narrowed := true }
def FmatReducesUptoSaid : Prop := fmatReducesUptoRow.holds Try.pinned (OpenSpec.upto fmatReducesSpec)

/-- 'quincunxlaw21.FmatInverts', WHERE WHAT IT READS IS OF BULK AT MOST 1048576: true; the input reads as it did. -/
def fmatInvertsUptoRow : OpenClaim := { program := "ytiieaohnpnojmaa", sum := "ea00d0c5342251685d84e5bb5343c863abcb312aaabd25e79cff81056405fbb0", func := "quincunx/quincunxlaw21.FmatInverts", spec := "fmatInverts", unfollowed := true, recurses := true, apart := false, narrowed := true }
def FmatInvertsUptoSaid : Prop := fmatInvertsUptoRow.holds Try.pinned (OpenSpec.upto fmatInvertsSpec)

/-- 'quincunxlaw21.FmatSolves', WHERE WHAT IT READS IS OF BULK AT MOST 1048576: true; the input reads as it did. -/
def fmatSolvesUptoRow : OpenClaim := { program := "ytiieaohnpnojmaa", sum := "ea00d0c5342251685d84e5bb5343c863abcb312aaabd25e79cff81056405fbb0", func := "quincunx/quincunxlaw21.FmatSolves", spec := "fmatSolves", unfollowed := true, recurses := true, apart := false, narrowed := true }
def FmatSolvesUptoSaid : Prop := fmatSolvesUptoRow.holds Try.pinned (OpenSpec.upto fmatSolvesSpec)

/-- 'quincunxlaw21.FmatKernels', WHERE WHAT IT READS IS OF BULK AT MOST 1048576: true; the input reads as it did. -/
def fmatKernelsUptoRow : OpenClaim := { program := "ytiieaohnpnojmaa", sum := "ea00d0c5342251685d84e5bb5343c863abcb312aaabd25e79cff81056405fbb0", func := "quincunx/quincunxlaw21.FmatKernels", spec := "fmatKernels", unfollowed := true, recurses := true, apart := false, narrowed := true }
def FmatKernelsUptoSaid : Prop := fmatKernelsUptoRow.holds Try.pinned (OpenSpec.upto fmatKernelsSpec)

/-- 'quincunxlaw21.FmatReckons', WHERE WHAT IT READS IS OF BULK AT MOST 1048576: true; the input reads as it did. -/
def fmatReckonsUptoRow : OpenClaim := { program := "ytiieaohnpnojmaa", sum := "ea00d0c5342251685d84e5bb5343c863abcb312aaabd25e79cff81056405fbb0", func := "quincunx/quincunxlaw21.FmatReckons", spec := "fmatReckons", unfollowed := true, recurses := true, apart := false, narrowed := true }
def FmatReckonsUptoSaid : Prop := fmatReckonsUptoRow.holds Try.pinned (OpenSpec.upto fmatReckonsSpec)

/-- 'quincunxlaw03.DivOwn', WHERE WHAT IT READS IS OF BULK AT MOST 1048576: true; the input reads as it did. -/
def divOwnUptoRow : OpenClaim := { program := "ytiieaohnpnojmaa", sum := "ea00d0c5342251685d84e5bb5343c863abcb312aaabd25e79cff81056405fbb0", func := "quincunx/quincunxlaw03.DivOwn", spec := "divOwn", inPlace := ["math/bits.Add64", "math/bits.Sub64"], named := ["math/bits.divideError", "math/bits.overflowError"], apart := false, narrowed := true }
def DivOwnUptoSaid : Prop := divOwnUptoRow.holds Try.pinned (OpenSpec.upto divOwnSpec)

/-- 'quincunxlaw14.HnfForms', WHERE WHAT IT READS IS OF BULK AT MOST 1048576: true; the input reads as it did. -/
def hnfFormsUptoRow : OpenClaim := { program := "ytiieaohnpnojmaa", sum := "ea00d0c5342251685d84e5bb5343c863abcb312aaabd25e79cff81056405fbb0", func := "quincunx/quincunxlaw14.HnfForms", spec := "hnfForms", inPlace := ["math/bits.Add64", "math/bits.Sub64"], unfollowed := true, recurses := true, named := ["math/bits.divideError", "math/bits.overflowError"], apart := false, narrowed := true }
def HnfFormsUptoSaid : Prop := hnfFormsUptoRow.holds Try.pinned (OpenSpec.upto hnfFormsSpec)

/-- 'quincunxlaw14.HnfOne', WHERE WHAT IT READS IS OF BULK AT MOST 1048576: true; the input reads as it did. -/
def hnfOneUptoRow : OpenClaim := { program := "ytiieaohnpnojmaa", sum := "ea00d0c5342251685d84e5bb5343c863abcb312aaabd25e79cff81056405fbb0", func := "quincunx/quincunxlaw14.HnfOne", spec := "hnfOne", inPlace := ["math/bits.Add64", "math/bits.Sub64"], unfollowed := true, recurses := true, named := ["math/bits.divideError", "math/bits.overflowError"], apart := false, narrowed := true }
def HnfOneUptoSaid : Prop := hnfOneUptoRow.holds Try.pinned (OpenSpec.upto hnfOneSpec)

/-- 'quincunxlaw14.HnfIs', WHERE WHAT IT READS IS OF BULK AT MOST 1048576: true; the input reads as it did. -/
def hnfIsUptoRow : OpenClaim := { program := "ytiieaohnpnojmaa", sum := "ea00d0c5342251685d84e5bb5343c863abcb312aaabd25e79cff81056405fbb0", func := "quincunx/quincunxlaw14.HnfIs", spec := "hnfIs", inPlace := ["math/bits.Add64", "math/bits.Sub64"], unfollowed := true, recurses := true, named := ["math/bits.divideError", "math/bits.overflowError"], apart := false, narrowed := true }
def HnfIsUptoSaid : Prop := hnfIsUptoRow.holds Try.pinned (OpenSpec.upto hnfIsSpec)

/-- 'quincunxlaw14.HnfCoordinates', WHERE WHAT IT READS IS OF BULK AT MOST 1048576: true; the input reads as it did. -/
def hnfCoordinatesUptoRow : OpenClaim := { program := "ytiieaohnpnojmaa", sum := "ea00d0c5342251685d84e5bb5343c863abcb312aaabd25e79cff81056405fbb0", func := "quincunx/quincunxlaw14.HnfCoordinates", spec := "hnfCoordinates", inPlace := ["math/bits.Add64", "math/bits.Sub64"], unfollowed := true, recurses := true, named := ["math/bits.divideError", "math/bits.overflowError"], apart := false, narrowed := true }
def HnfCoordinatesUptoSaid : Prop := hnfCoordinatesUptoRow.holds Try.pinned (OpenSpec.upto hnfCoordinatesSpec)

/-- 'quincunxlaw21.FmatDets', WHERE WHAT IT READS IS OF BULK AT MOST 1048576: true; the input reads as it did. -/
def fmatDetsUptoRow : OpenClaim := { program := "ytiieaohnpnojmaa", sum := "ea00d0c5342251685d84e5bb5343c863abcb312aaabd25e79cff81056405fbb0", func := "quincunx/quincunxlaw21.FmatDets", spec := "fmatDets", inPlace := ["math/bits.Add64", "math/bits.Sub64"], unfollowed := true, recurses := true, named := ["math/bits.divideError", "math/bits.overflowError"], apart := false, narrowed := true }
def FmatDetsUptoSaid : Prop := fmatDetsUptoRow.holds Try.pinned (OpenSpec.upto fmatDetsSpec)

/-- 'quincunxlaw14.HnfWithin', WHERE WHAT IT READS IS OF BULK AT MOST 1048576: true; the input reads as it did. -/
def hnfWithinUptoRow : OpenClaim := { program := "ytiieaohnpnojmaa", sum := "ea00d0c5342251685d84e5bb5343c863abcb312aaabd25e79cff81056405fbb0", func := "quincunx/quincunxlaw14.HnfWithin", spec := "hnfWithin", inPlace := ["math/bits.Add64", "math/bits.Sub64"], unfollowed := true, recurses := true, named := ["math/bits.divideError", "math/bits.overflowError"], apart := false, narrowed := true }
def HnfWithinUptoSaid : Prop := hnfWithinUptoRow.holds Try.pinned (OpenSpec.upto hnfWithinSpec)

end Rows
end Go.Proofs.Ytiieaohnpnojmaa
