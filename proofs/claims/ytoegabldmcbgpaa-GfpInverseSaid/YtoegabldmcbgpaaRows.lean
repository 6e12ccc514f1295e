/-
  No cell of these rows narrows 'for every input' (looked for: loops, veiled, ifaces, maps, wideKeys, modest, calm, conditions, laid).
  DERIVED. THE GIVEN ROWS OF THIS SEAT. 5 by the template 'for every input the law returns true; each argument reads behind the call as it read before'; 0 by the template 'total and deterministic' (their statements: YtoegabldmcbgpaaTotals.lean).
  GIVEN WITH THE SEED: the statements are not yours to turn. If you find one false, say at which input.
  Laid BY PROGRAM, IN A SANDBOX (cutbox-rows.mjs): the forced cells as the released guide's own fill.sh prints them over the translation 6b6e57d58b1bc6bd… (all of the seat's roots in one cut). By AI agents, Wed Nov 11 2026. No macro, syntax, notation, axiom, sorry.
-/
import Derived.Test.YtoegabldmcbgpaaChecked
import GoSem.Claim
import GoSem.ClaimJoined
import GoSem.ClaimMapViews
import Derived.JoinedTies
import Derived.KernelRfl
namespace Go.Proofs.Ytoegabldmcbgpaa
/- THE CELL 'sum', in the pinned program and in every row, IS THE sha256 OF THE DUMP (.gsa) THAT YtoegabldmcbgpaaProg.lean LOADS. Nothing in Lean hashes anything: it is a label: what it is worth is what the hold of that sum in a sandbox is worth. -/
noncomputable def Try.pinned : Pinned := { name := "ytoegabldmcbgpaa", sum := "6b6e57d58b1bc6bd89f362c77d53003db4f24b529412512192a654a62a0222f7", checked := Try.checked }
namespace Rows
def none {H : Type} : Left H := { results := [], args := [] }

/-- 'quincunxlaw08.GfpInverse': WHATEVER THE INPUT: true; the input reads as it did. -/
def gfpInverseSpec : ChangeSpec := { name := "gfpInverse", fn := fun _ => fun
  | [d1, d2] => { results := [.lit (.bool true)], args := [d1, d2] }
  | _ => none }
def gfpInverseRow : OpenClaim := { program := "ytoegabldmcbgpaa", sum := "6b6e57d58b1bc6bd89f362c77d53003db4f24b529412512192a654a62a0222f7", func := "quincunx/quincunxlaw08.GfpInverse", spec := "gfpInverse", apart := false }
def GfpInverseSaid : Prop := gfpInverseRow.holds Try.pinned (OpenSpec.ofChange gfpInverseSpec)

/-- ITS FALSE NEIGHBOUR: 'it returns false'. Refute it at one input. -/
def gfpInverseWrong : ChangeSpec := { name := "gfpInverse", fn := fun _ => fun
  | [d1, d2] => { results := [.lit (.bool false)], args := [d1, d2] }
  | _ => none }
def GfpInverseWrongFalsely : Prop := gfpInverseRow.holds Try.pinned (OpenSpec.ofChange gfpInverseWrong)

/-- 'quincunxlaw08.GfpNew': WHATEVER THE INPUT: true; the input reads as it did. -/
def gfpNewSpec : ChangeSpec := { name := "gfpNew", fn := fun _ => fun
  | [d1, d2, d3] => { results := [.lit (.bool true)], args := [d1, d2, d3] }
  | _ => none }
def gfpNewRow : OpenClaim := { program := "ytoegabldmcbgpaa", sum := "6b6e57d58b1bc6bd89f362c77d53003db4f24b529412512192a654a62a0222f7", func := "quincunx/quincunxlaw08.GfpNew", spec := "gfpNew", apart := false }
def GfpNewSaid : Prop := gfpNewRow.holds Try.pinned (OpenSpec.ofChange gfpNewSpec)

/-- ITS FALSE NEIGHBOUR: 'it returns false'. Refute it at one input. -/
def gfpNewWrong : ChangeSpec := { name := "gfpNew", fn := fun _ => fun
  | [d1, d2, d3] => { results := [.lit (.bool false)], args := [d1, d2, d3] }
  | _ => none }
def GfpNewWrongFalsely : Prop := gfpNewRow.holds Try.pinned (OpenSpec.ofChange gfpNewWrong)

/-- 'quincunxlaw08.GfpField': WHATEVER THE INPUT: true; the input reads as it did. -/
def gfpFieldSpec : ChangeSpec := { name := "gfpField", fn := fun _ => fun
  | [d1, d2] => { results := [.lit (.bool true)], args := [d1, d2] }
  | _ => none }
def gfpFieldRow : OpenClaim := { program := "ytoegabldmcbgpaa", sum := "6b6e57d58b1bc6bd89f362c77d53003db4f24b529412512192a654a62a0222f7", func := "quincunx/quincunxlaw08.GfpField", spec := "gfpField", apart := false }
def GfpFieldSaid : Prop := gfpFieldRow.holds Try.pinned (OpenSpec.ofChange gfpFieldSpec)

/-- ITS FALSE NEIGHBOUR: 'it returns false'. Refute it at one input. -/
def gfpFieldWrong : ChangeSpec := { name := "gfpField", fn := fun _ => fun
  | [d1, d2] => { results := [.lit (.bool false)], args := [d1, d2] }
  | _ => none }
def GfpFieldWrongFalsely : Prop := gfpFieldRow.holds Try.pinned (OpenSpec.ofChange gfpFieldWrong)

/-- 'quincunxlaw08.GfpReckons': WHATEVER THE INPUT: true; the input reads as it did. -/
def gfpReckonsSpec : ChangeSpec := { name := "gfpReckons", fn := fun _ => fun
  | [d1, d2, d3] => { results := [.lit (.bool true)], args := [d1, d2, d3] }
  | _ => none }
def gfpReckonsRow : OpenClaim := { program := "ytoegabldmcbgpaa", sum := "6b6e57d58b1bc6bd89f362c77d53003db4f24b529412512192a654a62a0222f7", func := "quincunx/quincunxlaw08.GfpReckons", spec := "gfpReckons", apart := false }
def GfpReckonsSaid : Prop := gfpReckonsRow.holds Try.pinned (OpenSpec.ofChange gfpReckonsSpec)

/-- ITS FALSE NEIGHBOUR: 'it returns false'. Refute it at one input. -/
def gfpReckonsWrong : ChangeSpec := { name := "gfpReckons", fn := fun _ => fun
  | [d1, d2, d3] => { results := [.lit (.bool false)], args := [d1, d2, d3] }
  | _ => none }
def GfpReckonsWrongFalsely : Prop := gfpReckonsRow.holds Try.pinned (OpenSpec.ofChange gfpReckonsWrong)

/-- 'quincunxlaw08.GfpPowers': WHATEVER THE INPUT: true; the input reads as it did. -/
def gfpPowersSpec : ChangeSpec := { name := "gfpPowers", fn := fun _ => fun
  | [d1, d2, d3] => { results := [.lit (.bool true)], args := [d1, d2, d3] }
  | _ => none }
def gfpPowersRow : OpenClaim := { program := "ytoegabldmcbgpaa", sum := "6b6e57d58b1bc6bd89f362c77d53003db4f24b529412512192a654a62a0222f7", func := "quincunx/quincunxlaw08.GfpPowers", spec := "gfpPowers", apart := false }
def GfpPowersSaid : Prop := gfpPowersRow.holds Try.pinned (OpenSpec.ofChange gfpPowersSpec)

/-- ITS FALSE NEIGHBOUR: 'it returns false'. Refute it at one input. -/
def gfpPowersWrong : ChangeSpec := { name := "gfpPowers", fn := fun _ => fun
  | [d1, d2, d3] => { results := [.lit (.bool false)], args := [d1, d2, d3] }
  | _ => none }
def GfpPowersWrongFalsely : Prop := gfpPowersRow.holds Try.pinned (OpenSpec.ofChange gfpPowersWrong)

/- THE SECOND FORM. 'bulk': how many values and letters a reading holds, each counted each time it is reached (what is shared counts as often as it is met; a slice's spare places count too). A statement '..UptoSaid' is the law's where the arguments, and the package variables that the reading takes, are together of bulk at most 1048576: NARROWER than '..Said'. Prove '..Said' where nothing that the law and all that it calls make is longer than what came in: it says more and counts as full. Else prove '..UptoSaid'. A law counts once. -/
mutual
def uptoBulk {H : Type} : DataW H → Nat
  | .lit (.string bytes) => bytes.length + 1
  | .lit _ => 1
  | .nil => 1
  | .ptr d => uptoBulk d + 1
  | .slice elems spare => uptoBulkAll elems + uptoBulkAll spare + 1
  | .agg parts => uptoBulkAll parts + 1
  | .iface _ d => uptoBulk d + 1
  | .map entries => uptoBulkEntries entries + 1
  | .held _ => 1
def uptoBulkAll {H : Type} : List (DataW H) → Nat
  | [] => 0
  | d :: r => uptoBulk d + uptoBulkAll r
def uptoBulkEntries {H : Type} : List (Lit × DataW H) → Nat
  | [] => 0
  | x :: r => uptoBulkEntry x + uptoBulkEntries r
def uptoBulkEntry {H : Type} : Lit × DataW H → Nat
  | (.string bytes, d) => bytes.length + uptoBulk d + 1
  | (_, d) => uptoBulk d + 1
 end
def uptoSmall : (H : Type) → List (DataW H) → Bool := fun _ ds => decide (uptoBulkAll ds ≤ 1048576)
def OpenSpec.upto (s : _root_.Go.ChangeSpec) : _root_.Go.OpenSpec := { _root_.Go.OpenSpec.ofChange s with cond := some uptoSmall }

/-- 'quincunxlaw08.GfpInverse', WHERE WHAT IT READS IS OF BULK AT MOST 1048576: true; the input reads as it did. -/
def gfpInverseUptoRow : OpenClaim := { program := "ytoegabldmcbgpaa", sum := "6b6e57d58b1bc6bd89f362c77d53003db4f24b529412512192a654a62a0222f7", func := "quincunx/quincunxlaw08.GfpInverse", spec := "gfpInverse", apart := false, narrowed := true }
def GfpInverseUptoSaid : Prop := gfpInverseUptoRow.holds Try.pinned (OpenSpec.upto gfpInverseSpec)

/-- 'quincunxlaw08.GfpNew', WHERE WHAT IT READS IS OF BULK AT MOST 1048576: true; the input reads as it did. -/
def gfpNewUptoRow : OpenClaim := { program := "ytoegabldmcbgpaa", sum := "6b6e57d58b1bc6bd89f362c77d53003db4f24b529412512192a654a62a0222f7", func := "quincunx/quincunxlaw08.GfpNew", spec := "gfpNew", apart := false, narrowed := true }
def GfpNewUptoSaid : Prop := gfpNewUptoRow.holds Try.pinned (OpenSpec.upto gfpNewSpec)

/-- 'quincunxlaw08.GfpField', WHERE WHAT IT READS IS OF BULK AT MOST 1048576: true; the input reads as it did. -/
def gfpFieldUptoRow : OpenClaim := { program := "ytoegabldmcbgpaa", sum := "6b6e57d58b1bc6bd89f362c77d53003db4f24b529412512192a654a62a0222f7", func := "quincunx/quincunxlaw08.GfpField", spec := "gfpField", apart := false, narrowed := true }
def GfpFieldUptoSaid : Prop := gfpFieldUptoRow.holds Try.pinned (OpenSpec.upto gfpFieldSpec)

/-- 'quincunxlaw08.GfpReckons', WHERE WHAT IT READS IS OF BULK AT MOST 1048576: true; the input reads as it did. -/
def gfpReckonsUptoRow : OpenClaim := { program := "ytoegabldmcbgpaa", sum := "6b6e57d58b1bc6bd89f362c77d53003db4f24b529412512192a654a62a0222f7", func := "quincunx/quincunxlaw08.GfpReckons", spec := "gfpReckons", apart := false, narrowed := true }
def GfpReckonsUptoSaid : Prop := gfpReckonsUptoRow.holds Try.pinned (OpenSpec.upto gfpReckonsSpec)

/-- 'quincunxlaw08.GfpPowers', WHERE WHAT IT READS IS OF BULK AT MOST 1048576: true; the input reads as it did. -/
def gfpPowersUptoRow : OpenClaim := { program := "ytoegabldmcbgpaa", sum := "6b6e57d58b1bc6bd89f362c77d53003db4f24b529412512192a654a62a0222f7", func := "quincunx/quincunxlaw08.GfpPowers", spec := "gfpPowers", apart := false, narrowed := true }
def GfpPowersUptoSaid : Prop := gfpPowersUptoRow.holds Try.pinned (OpenSpec.upto gfpPowersSpec)

end Rows
end Go.Proofs.Ytoegabldmcbgpaa
