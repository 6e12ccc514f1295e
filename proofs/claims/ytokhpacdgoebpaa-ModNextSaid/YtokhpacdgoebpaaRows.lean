/-
  No cell of these rows narrows 'for every input' (looked for: loops, veiled, ifaces, maps, wideKeys, modest, calm, conditions, laid).
  DERIVED. THE GIVEN ROWS OF THIS SEAT. 12 by the template 'for every input the law returns true; each argument reads behind the call as it read before'; 0 by the template 'total and deterministic' (their statements: YtokhpacdgoebpaaTotals.lean).
  GIVEN WITH THE SEED: the statements are not yours to turn. If you find one false, say at which input.
  Laid BY PROGRAM, IN A SANDBOX (cutbox-rows.mjs): the forced cells as the released guide's own fill.sh prints them over the translation 3e213b82dd652a36… (all of the seat's roots in one cut). By AI agents, Wed Nov 11 2026. No macro, syntax, notation, axiom, sorry.
-/
import Derived.Test.YtokhpacdgoebpaaChecked
import GoSem.Claim
import GoSem.ClaimJoined
import GoSem.ClaimMapViews
import Derived.JoinedTies
import Derived.KernelRfl
namespace Go.Proofs.Ytokhpacdgoebpaa
/- THE CELL 'sum', in the pinned program and in every row, IS THE sha256 OF THE DUMP (.gsa) THAT YtokhpacdgoebpaaProg.lean LOADS. Nothing in Lean hashes anything: it is a label: what it is worth is what the hold of that sum in a sandbox is worth. -/
noncomputable def Try.pinned : Pinned := { name := "ytokhpacdgoebpaa", sum := "3e213b82dd652a365f09138301c744777aab8f3ea820673cb637d1cdd710bc92", checked := Try.checked }
namespace Rows
def none {H : Type} : Left H := { results := [], args := [] }

/-- 'quincunxlaw21.FmatReduces': WHATEVER THE INPUT: true; the input reads as it did. -/
def fmatReducesSpec : ChangeSpec := { name := "fmatReduces", fn := fun _ => fun
  | [d1, d2] => { results := [.lit (.bool true)], args := [d1, d2] }
  | _ => none }
def fmatReducesRow : OpenClaim := { program := "ytokhpacdgoebpaa", sum := "3e213b82dd652a365f09138301c744777aab8f3ea820673cb637d1cdd710bc92", func := "quincunx/quincunxlaw21.FmatReduces", spec := "fmatReduces", unfollowed := true, recurses := true, apart := false }
def FmatReducesSaid : Prop := fmatReducesRow.holds Try.pinned (OpenSpec.ofChange fmatReducesSpec)

/-- ITS FALSE NEIGHBOUR: 'it returns false'. Refute it at one input. -/
def fmatReducesWrong : ChangeSpec := { name := "fmatReduces", fn := fun _ => fun
  | [d1, d2] => { results := [.lit (.bool false)], args := [d1, d2] }
  | _ => none }
def FmatReducesWrongFalsely : Prop := fmatReducesRow.holds Try.pinned (OpenSpec.ofChange fmatReducesWrong)

/-- 'quincunxlaw21.FmatInverts': WHATEVER THE INPUT: true; the input reads as it did. -/
def fmatInvertsSpec : ChangeSpec := { name := "fmatInverts", fn := fun _ => fun
  | [d1, d2] => { results := [.lit (.bool true)], args := [d1, d2] }
  | _ => none }
def fmatInvertsRow : OpenClaim := { program := "ytokhpacdgoebpaa", sum := "3e213b82dd652a365f09138301c744777aab8f3ea820673cb637d1cdd710bc92", func := "quincunx/quincunxlaw21.FmatInverts", spec := "fmatInverts", unfollowed := true, recurses := true, apart := false }
def FmatInvertsSaid : Prop := fmatInvertsRow.holds Try.pinned (OpenSpec.ofChange fmatInvertsSpec)

/-- ITS FALSE NEIGHBOUR: 'it returns false'. Refute it at one input. -/
def fmatInvertsWrong : ChangeSpec := { name := "fmatInverts", fn := fun _ => fun
  | [d1, d2] => { results := [.lit (.bool false)], args := [d1, d2] }
  | _ => none }
def FmatInvertsWrongFalsely : Prop := fmatInvertsRow.holds Try.pinned (OpenSpec.ofChange fmatInvertsWrong)

/-- 'quincunxlaw21.FmatSolves': WHATEVER THE INPUT: true; the input reads as it did. -/
def fmatSolvesSpec : ChangeSpec := { name := "fmatSolves", fn := fun _ => fun
  | [d1, d2, d3] => { results := [.lit (.bool true)], args := [d1, d2, d3] }
  | _ => none }
def fmatSolvesRow : OpenClaim := { program := "ytokhpacdgoebpaa", sum := "3e213b82dd652a365f09138301c744777aab8f3ea820673cb637d1cdd710bc92", func := "quincunx/quincunxlaw21.FmatSolves", spec := "fmatSolves", unfollowed := true, recurses := true, apart := false }
def FmatSolvesSaid : Prop := fmatSolvesRow.holds Try.pinned (OpenSpec.ofChange fmatSolvesSpec)

/-- ITS FALSE NEIGHBOUR: 'it returns false'. Refute it at one input. -/
def fmatSolvesWrong : ChangeSpec := { name := "fmatSolves", fn := fun _ => fun
  | [d1, d2, d3] => { results := [.lit (.bool false)], args := [d1, d2, d3] }
  | _ => none }
def FmatSolvesWrongFalsely : Prop := fmatSolvesRow.holds Try.pinned (OpenSpec.ofChange fmatSolvesWrong)

/-- 'quincunxlaw21.FmatKernels': WHATEVER THE INPUT: true; the input reads as it did. -/
def fmatKernelsSpec : ChangeSpec := { name := "fmatKernels", fn := fun _ => fun
  | [d1, d2] => { results := [.lit (.bool true)], args := [d1, d2] }
  | _ => none }
def fmatKernelsRow : OpenClaim := { program := "ytokhpacdgoebpaa", sum := "3e213b82dd652a365f09138301c744777aab8f3ea820673cb637d1cdd710bc92", func := "quincunx/quincunxlaw21.FmatKernels", spec := "fmatKernels", unfollowed := true, recurses := true, apart := false }
def FmatKernelsSaid : Prop := fmatKernelsRow.holds Try.pinned (OpenSpec.ofChange fmatKernelsSpec)

/-- ITS FALSE NEIGHBOUR: 'it returns false'. Refute it at one input. -/
def fmatKernelsWrong : ChangeSpec := { name := "fmatKernels", fn := fun _ => fun
  | [d1, d2] => { results := [.lit (.bool false)], args := [d1, d2] }
  | _ => none }
def FmatKernelsWrongFalsely : Prop := fmatKernelsRow.holds Try.pinned (OpenSpec.ofChange fmatKernelsWrong)

/-- 'quincunxlaw21.FmatReckons': WHATEVER THE INPUT: true; the input reads as it did. -/
def fmatReckonsSpec : ChangeSpec := { name := "fmatReckons", fn := fun _ => fun
  | [d1, d2, d3] => { results := [.lit (.bool true)], args := [d1, d2, d3] }
  | _ => none }
def fmatReckonsRow : OpenClaim := { program := "ytokhpacdgoebpaa", sum := "3e213b82dd652a365f09138301c744777aab8f3ea820673cb637d1cdd710bc92", func := "quincunx/quincunxlaw21.FmatReckons", spec := "fmatReckons", unfollowed := true, recurses := true, apart := false }
def FmatReckonsSaid : Prop := fmatReckonsRow.holds Try.pinned (OpenSpec.ofChange fmatReckonsSpec)

/-- ITS FALSE NEIGHBOUR: 'it returns false'. Refute it at one input. -/
def fmatReckonsWrong : ChangeSpec := { name := "fmatReckons", fn := fun _ => fun
  | [d1, d2, d3] => { results := [.lit (.bool false)], args := [d1, d2, d3] }
  | _ => none }
def FmatReckonsWrongFalsely : Prop := fmatReckonsRow.holds Try.pinned (OpenSpec.ofChange fmatReckonsWrong)

/-- 'quincunxlaw06.ModRests': WHATEVER THE INPUT: true; the input reads as it did. -/
def modRestsSpec : ChangeSpec := { name := "modRests", fn := fun _ => fun
  | [d1, d2] => { results := [.lit (.bool true)], args := [d1, d2] }
  | _ => none }
def modRestsRow : OpenClaim := { program := "ytokhpacdgoebpaa", sum := "3e213b82dd652a365f09138301c744777aab8f3ea820673cb637d1cdd710bc92", func := "quincunx/quincunxlaw06.ModRests", spec := "modRests", inPlace := ["math/bits.Add64", "math/bits.Sub64"], unfollowed := true, recurses := true, named := ["math/bits.divideError", "math/bits.overflowError"], apart := false }
def ModRestsSaid : Prop := modRestsRow.holds Try.pinned (OpenSpec.ofChange modRestsSpec)

/-- ITS FALSE NEIGHBOUR: 'it returns false'. Refute it at one input. -/
def modRestsWrong : ChangeSpec := { name := "modRests", fn := fun _ => fun
  | [d1, d2] => { results := [.lit (.bool false)], args := [d1, d2] }
  | _ => none }
def ModRestsWrongFalsely : Prop := modRestsRow.holds Try.pinned (OpenSpec.ofChange modRestsWrong)

/-- 'quincunxlaw08.GfpOf': WHATEVER THE INPUT: true; the input reads as it did. -/
def gfpOfSpec : ChangeSpec := { name := "gfpOf", fn := fun _ => fun
  | [d1, d2, d3] => { results := [.lit (.bool true)], args := [d1, d2, d3] }
  | _ => none }
def gfpOfRow : OpenClaim := { program := "ytokhpacdgoebpaa", sum := "3e213b82dd652a365f09138301c744777aab8f3ea820673cb637d1cdd710bc92", func := "quincunx/quincunxlaw08.GfpOf", spec := "gfpOf", inPlace := ["math/bits.Add64", "math/bits.Sub64"], unfollowed := true, recurses := true, named := ["math/bits.divideError", "math/bits.overflowError"], apart := false }
def GfpOfSaid : Prop := gfpOfRow.holds Try.pinned (OpenSpec.ofChange gfpOfSpec)

/-- ITS FALSE NEIGHBOUR: 'it returns false'. Refute it at one input. -/
def gfpOfWrong : ChangeSpec := { name := "gfpOf", fn := fun _ => fun
  | [d1, d2, d3] => { results := [.lit (.bool false)], args := [d1, d2, d3] }
  | _ => none }
def GfpOfWrongFalsely : Prop := gfpOfRow.holds Try.pinned (OpenSpec.ofChange gfpOfWrong)

/-- 'quincunxlaw06.ModPrimes': WHATEVER THE INPUT: true; the input reads as it did. -/
def modPrimesSpec : ChangeSpec := { name := "modPrimes", fn := fun _ => fun
  | [d1, d2] => { results := [.lit (.bool true)], args := [d1, d2] }
  | _ => none }
def modPrimesRow : OpenClaim := { program := "ytokhpacdgoebpaa", sum := "3e213b82dd652a365f09138301c744777aab8f3ea820673cb637d1cdd710bc92", func := "quincunx/quincunxlaw06.ModPrimes", spec := "modPrimes", inPlace := ["math/bits.Add64", "math/bits.Sub64"], unfollowed := true, recurses := true, named := ["math/bits.divideError", "math/bits.overflowError"], apart := false }
def ModPrimesSaid : Prop := modPrimesRow.holds Try.pinned (OpenSpec.ofChange modPrimesSpec)

/-- ITS FALSE NEIGHBOUR: 'it returns false'. Refute it at one input. -/
def modPrimesWrong : ChangeSpec := { name := "modPrimes", fn := fun _ => fun
  | [d1, d2] => { results := [.lit (.bool false)], args := [d1, d2] }
  | _ => none }
def ModPrimesWrongFalsely : Prop := modPrimesRow.holds Try.pinned (OpenSpec.ofChange modPrimesWrong)

/-- 'quincunxlaw06.ModNext': WHATEVER THE INPUT: true; the input reads as it did. -/
def modNextSpec : ChangeSpec := { name := "modNext", fn := fun _ => fun
  | [d] => { results := [.lit (.bool true)], args := [d] }
  | _ => none }
def modNextRow : OpenClaim := { program := "ytokhpacdgoebpaa", sum := "3e213b82dd652a365f09138301c744777aab8f3ea820673cb637d1cdd710bc92", func := "quincunx/quincunxlaw06.ModNext", spec := "modNext", inPlace := ["math/bits.Add64", "math/bits.Sub64"], unfollowed := true, recurses := true, named := ["math/bits.divideError", "math/bits.overflowError"], apart := false }
def ModNextSaid : Prop := modNextRow.holds Try.pinned (OpenSpec.ofChange modNextSpec)

/-- ITS FALSE NEIGHBOUR: 'it returns false'. Refute it at one input. -/
def modNextWrong : ChangeSpec := { name := "modNext", fn := fun _ => fun
  | [d] => { results := [.lit (.bool false)], args := [d] }
  | _ => none }
def ModNextWrongFalsely : Prop := modNextRow.holds Try.pinned (OpenSpec.ofChange modNextWrong)

/-- 'quincunxlaw06.ModPowers': WHATEVER THE INPUT: true; the input reads as it did. -/
def modPowersSpec : ChangeSpec := { name := "modPowers", fn := fun _ => fun
  | [d1, d2, d3] => { results := [.lit (.bool true)], args := [d1, d2, d3] }
  | _ => none }
def modPowersRow : OpenClaim := { program := "ytokhpacdgoebpaa", sum := "3e213b82dd652a365f09138301c744777aab8f3ea820673cb637d1cdd710bc92", func := "quincunx/quincunxlaw06.ModPowers", spec := "modPowers", inPlace := ["math/bits.Add64", "math/bits.Sub64"], unfollowed := true, recurses := true, named := ["math/bits.divideError", "math/bits.overflowError"], apart := false }
def ModPowersSaid : Prop := modPowersRow.holds Try.pinned (OpenSpec.ofChange modPowersSpec)

/-- ITS FALSE NEIGHBOUR: 'it returns false'. Refute it at one input. -/
def modPowersWrong : ChangeSpec := { name := "modPowers", fn := fun _ => fun
  | [d1, d2, d3] => { results := [.lit (.bool false)], args := [d1, d2, d3] }
  | _ => none }
def ModPowersWrongFalsely : Prop := modPowersRow.holds Try.pinned (OpenSpec.ofChange modPowersWrong)

/-- 'quincunxlaw06.ModSums': WHATEVER THE INPUT: true; the input reads as it did. -/
def modSumsSpec : ChangeSpec := { name := "modSums", fn := fun _ => fun
  | [d1, d2, d3] => { results := [.lit (.bool true)], args := [d1, d2, d3] }
  | _ => none }
def modSumsRow : OpenClaim := { program := "ytokhpacdgoebpaa", sum := "3e213b82dd652a365f09138301c744777aab8f3ea820673cb637d1cdd710bc92", func := "quincunx/quincunxlaw06.ModSums", spec := "modSums", inPlace := ["math/bits.Add64", "math/bits.Sub64"], unfollowed := true, recurses := true, named := ["math/bits.divideError", "math/bits.overflowError"], apart := false }
def ModSumsSaid : Prop := modSumsRow.holds Try.pinned (OpenSpec.ofChange modSumsSpec)

/-- ITS FALSE NEIGHBOUR: 'it returns false'. Refute it at one input. -/
def modSumsWrong : ChangeSpec := { name := "modSums", fn := fun _ => fun
  | [d1, d2, d3] => { results := [.lit (.bool false)], args := [d1, d2, d3] }
  | _ => none }
def ModSumsWrongFalsely : Prop := modSumsRow.holds Try.pinned (OpenSpec.ofChange modSumsWrong)

/-- 'quincunxlaw12.BareissDets': WHATEVER THE INPUT: true; the input reads as it did. -/
def bareissDetsSpec : ChangeSpec := { name := "bareissDets", fn := fun _ => fun
  | [d] => { results := [.lit (.bool true)], args := [d] }
  | _ => none }
def bareissDetsRow : OpenClaim := { program := "ytokhpacdgoebpaa", sum := "3e213b82dd652a365f09138301c744777aab8f3ea820673cb637d1cdd710bc92", func := "quincunx/quincunxlaw12.BareissDets", spec := "bareissDets", inPlace := ["math/bits.Add64", "math/bits.Sub64"], unfollowed := true, recurses := true, named := ["math/bits.divideError", "math/bits.overflowError"], apart := false }
def BareissDetsSaid : Prop := bareissDetsRow.holds Try.pinned (OpenSpec.ofChange bareissDetsSpec)

/-- ITS FALSE NEIGHBOUR: 'it returns false'. Refute it at one input. -/
def bareissDetsWrong : ChangeSpec := { name := "bareissDets", fn := fun _ => fun
  | [d] => { results := [.lit (.bool false)], args := [d] }
  | _ => none }
def BareissDetsWrongFalsely : Prop := bareissDetsRow.holds Try.pinned (OpenSpec.ofChange bareissDetsWrong)

/- THE SECOND FORM. 'bulk': how many values and letters a reading holds, each counted each time it is reached (what is shared counts as often as it is met; a slice's spare places count too). A statement '..UptoSaid' is the law's where the arguments, and the package variables that the reading takes, are together of bulk at most 1048576: NARROWER than '..Said'. Prove '..Said' where nothing that the law and all that it calls make is longer than what came in: it says more and counts as full. Else prove '..UptoSaid'. A law counts once. -/
mutual
def uptoBulk {H : Type} : DataW H → Nat
  | .lit (.string bytes) => bytes.length + 1
  | .lit _ => 1
  | .nil => 1
  | .ptr d => uptoBulk d + 1
  | .slice elems spare => uptoBulkAll elems + uptoBulkAll spare + 1
  | .agg parts => uptoBulkAll parts + 1
  | .iface _ d => uptoBulk d + 1
  | .map entries => uptoBulkEntries entries + 1
  | .held _ => 1
def uptoBulkAll {H : Type} : List (DataW H) → Nat
  | [] => 0
  | d :: r => uptoBulk d + uptoBulkAll r
def uptoBulkEntries {H : Type} : List (Lit × DataW H) → Nat
  | [] => 0
  | x :: r => uptoBulkEntry x + uptoBulkEntries r
def uptoBulkEntry {H : Type} : Lit × DataW H → Nat
  | (.string bytes, d) => bytes.length + uptoBulk d + 1
  | (_, d) => uptoBulk d + 1
 end
def uptoSmall : (H : Type) → List (DataW H) → Bool := fun _ ds => decide (uptoBulkAll ds ≤ 1048576)
def OpenSpec.upto (s : _root_.Go.ChangeSpec) : _root_.Go.OpenSpec := { _root_.Go.OpenSpec.ofChange s with cond := some uptoSmall }

/-- 'quincunxlaw21.FmatReduces', WHERE WHAT IT READS IS OF BULK AT MOST 1048576: true; the input reads as it did. -/
def fmatReducesUptoRow : OpenClaim := { program := "ytokhpacdgoebpaa", sum := "3e213b82dd652a365f09138301c744777aab8f3ea820673cb637d1cdd710bc92", func := "quincunx/quincunxlaw21.FmatReduces", spec := "fmatReduces", unfollowed := true, recurses := true, apart := false, narrowed := true }
def FmatReducesUptoSaid : Prop := fmatReducesUptoRow.holds Try.pinned (OpenSpec.upto fmatReducesSpec)

/-- 'quincunxlaw21.FmatInverts', WHERE WHAT IT READS IS OF BULK AT MOST 1048576: true; the input reads as it did. -/
def fmatInvertsUptoRow : OpenClaim := { program := "ytokhpacdgoebpaa", sum := "3e213b82dd652a365f09138301c744777aab8f3ea820673cb637d1cdd710bc92", func := "quincunx/quincunxlaw21.FmatInverts", spec := "fmatInverts", unfollowed := true, recurses := true, apart := false, narrowed := true }
def FmatInvertsUptoSaid : Prop := fmatInvertsUptoRow.holds Try.pinned (OpenSpec.upto fmatInvertsSpec)

/-- 'quincunxlaw21.FmatSolves', WHERE WHAT IT READS IS OF BULK AT MOST 1048576: true; the input reads as it did. -/
def fmatSolvesUptoRow : OpenClaim := { program := "ytokhpacdgoebpaa", sum := "3e213b82dd652a365f09138301c744777aab8f3ea820673cb637d1cdd710bc92", func := "quincunx/quincunxlaw21.FmatSolves", spec := "fmatSolves", unfollowed := true, recurses := true, apart := false, narrowed := true }
def FmatSolvesUptoSaid : Prop := fmatSolvesUptoRow.holds Try.pinned (OpenSpec.upto fmatSolvesSpec)

/-- 'quincunxlaw21.FmatKernels', WHERE WHAT IT READS IS OF BULK AT MOST 1048576: true; the input reads as it did. -/
def fmatKernelsUptoRow : OpenClaim := { program := "ytokhpacdgoebpaa", sum := "3e213b82dd652a365f09138301c744777aab8f3ea820673cb637d1cdd710bc92", func := "quincunx/quincunxlaw21.FmatKernels", spec := "fmatKernels", unfollowed := true, recurses := true, apart := false, narrowed := true }
def FmatKernelsUptoSaid : Prop := fmatKernelsUptoRow.holds Try.pinned (OpenSpec.upto fmatKernelsSpec)

/-- 'quincunxlaw21.FmatReckons', WHERE WHAT IT READS IS OF BULK AT MOST 1048576: true; the input reads as it did. -/
def fmatReckonsUptoRow : OpenClaim := { program := "ytokhpacdgoebpaa", sum := "3e213b82dd652a365f09138301c744777aab8f3ea820673cb637d1cdd710bc92", func := "quincunx/quincunxlaw21.FmatReckons", spec := "fmatReckons", unfollowed := true, recurses := true, apart := false, narrowed := true }
def FmatReckonsUptoSaid : Prop := fmatReckonsUptoRow.holds Try.pinned (OpenSpec.upto fmatReckonsSpec)

/-- 'quincunxlaw06.ModRests', WHERE WHAT IT READS IS OF BULK AT MOST 1048576: true; the input reads as it did. -/
def modRestsUptoRow : OpenClaim := { program := "ytokhpacdgoebpaa", sum := "3e213b82dd652a365f09138301c744777aab8f3ea820673cb637d1cdd710bc92", func := "quincunx/quincunxlaw06.ModRests", spec := "modRests", inPlace := ["math/bits.Add64", "math/bits.Sub64"], unfollowed := true, recurses := true, named := ["math/bits.divideError", "math/bits.overflowError"], apart := false, narrowed := true }
def ModRestsUptoSaid : Prop := modRestsUptoRow.holds Try.pinned (OpenSpec.upto modRestsSpec)

/-- 'quincunxlaw08.GfpOf', WHERE WHAT IT READS IS OF BULK AT MOST 1048576: true; the input reads as it did. -/
def gfpOfUptoRow : OpenClaim := { program := "ytokhpacdgoebpaa", sum := "3e213b82dd652a365f09138301c744777aab8f3ea820673cb637d1cdd710bc92", func := "quincunx/quincunxlaw08.GfpOf", spec := "gfpOf", inPlace := ["math/bits.Add64", "math/bits.Sub64"], unfollowed := true, recurses := true, named := ["math/bits.divideError", "math/bits.overflowError"], apart := false, narrowed := true }
def GfpOfUptoSaid : Prop := gfpOfUptoRow.holds Try.pinned (OpenSpec.upto gfpOfSpec)

/-- 'quincunxlaw06.ModPrimes', WHERE WHAT IT READS IS OF BULK AT MOST 1048576: true; the input reads as it did. -/
def modPrimesUptoRow : OpenClaim := { program := "ytokhpacdgoebpaa", sum := "3e213b82dd652a365f09138301c744777aab8f3ea820673cb637d1cdd710bc92", func := "quincunx/quincunxlaw06.ModPrimes", spec := "modPrimes", inPlace := ["math/bits.Add64", "math/bits.Sub64"], unfollowed := true, recurses := true, named := ["math/bits.divideError", "math/bits.overflowError"], apart := false, narrowed := true }
def ModPrimesUptoSaid : Prop := modPrimesUptoRow.holds Try.pinned (OpenSpec.upto modPrimesSpec)

/-- 'quincunxlaw06.ModNext', WHERE WHAT IT READS IS OF BULK AT MOST 1048576: true; the input reads as it did. -/
def modNextUptoRow : OpenClaim := { program := "ytokhpacdgoebpaa", sum := "3e213b82dd652a365f09138301c744777aab8f3ea820673cb637d1cdd710bc92", func := "quincunx/quincunxlaw06.ModNext", spec := "modNext", inPlace := ["math/bits.Add64", "math/bits.Sub64"], unfollowed := true, recurses := true, named := ["math/bits.divideError", "math/bits.overflowError"], apart := false, narrowed := true }
def ModNextUptoSaid : Prop := modNextUptoRow.holds Try.pinned (OpenSpec.upto modNextSpec)

/-- 'quincunxlaw06.ModPowers', WHERE WHAT IT READS IS OF BULK AT MOST 1048576: true; the input reads as it did. -/
def modPowersUptoRow : OpenClaim := { program := "ytokhpacdgoebpaa", sum := "3e213b82dd652a365f09138301c744777aab8f3ea820673cb637d1cdd710bc92", func := "quincunx/quincunxlaw06.ModPowers", spec := "modPowers", inPlace := ["math/bits.Add64", "math/bits.Sub64"], unfollowed := true, recurses := true, named := ["math/bits.divideError", "math/bits.overflowError"], apart := false, narrowed := true }
def ModPowersUptoSaid : Prop := modPowersUptoRow.holds Try.pinned (OpenSpec.upto modPowersSpec)

/-- 'quincunxlaw06.ModSums', WHERE WHAT IT READS IS OF BULK AT MOST 1048576: true; the input reads as it did. -/
def modSumsUptoRow : OpenClaim := { program := "ytokhpacdgoebpaa", sum := "3e213b82dd652a365f09138301c744777aab8f3ea820673cb637d1cdd710bc92", func := "quincunx/quincunxlaw06.ModSums", spec := "modSums", inPlace := ["math/bits.Add64", "math/bits.Sub64"], unfollowed := true, recurses := true, named := ["math/bits.divideError", "math/bits.overflowError"], apart := false, narrowed := true }
def ModSumsUptoSaid : Prop := modSumsUptoRow.holds Try.pinned (OpenSpec.upto modSumsSpec)

/-- 'quincunxlaw12.BareissDets', WHERE WHAT IT READS IS OF BULK AT MOST 1048576: true; the input reads as it did. -/
def bareissDetsUptoRow : OpenClaim := { program := "ytokhpacdgoebpaa", sum := "3e213b82dd652a365f09138301c744777aab8f3ea820673cb637d1cdd710bc92", func := "quincunx/quincunxlaw12.BareissDets", spec := "bareissDets", inPlace := ["math/bits.Add64", "math/bits.Sub64"], unfollowed := true, recurses := true, named := ["math/bits.divideError", "math/bits.overflowError"], apart := false, narrowed := true }
def BareissDetsUptoSaid : Prop := bareissDetsUptoRow.holds Try.pinned (OpenSpec.upto bareissDetsSpec)

end Rows
end Go.Proofs.Ytokhpacdgoebpaa
