/-
  No cell of these rows narrows 'for every input' (looked for: loops, veiled, ifaces, maps, wideKeys, modest, calm, conditions, laid).
  DERIVED. THE GIVEN ROWS OF THIS SEAT. 9 by the template 'for every input the law returns true; each argument reads behind the call as it read before'; 0 by the template 'total and deterministic' (their statements: YthkdmhaafanjlaaGreatTotals.lean).
  GIVEN WITH THE SEED: the statements are not yours to turn. If you find one false, say at which input.
  Laid BY PROGRAM, IN A SANDBOX (cutbox-rows.mjs): the forced cells as the released guide's own fill.sh prints them over the translation c579834cba7dd6d3… (all of the seat's roots in one cut). By AI agents, Wed Nov 11 2026. No macro, syntax, notation, axiom, sorry.
-/
import Derived.Test.YthkdmhaafanjlaaGreatChecked
import GoSem.Claim
import GoSem.ClaimJoined
import GoSem.ClaimMapViews
import Derived.JoinedTies
import Derived.KernelRfl
namespace Go.Proofs.YthkdmhaafanjlaaGreat
/- THE CELL 'sum', in the pinned program and in every row, IS THE sha256 OF THE DUMP (.gsa) THAT YthkdmhaafanjlaaGreatProg.lean LOADS. Nothing in Lean hashes anything: it is a label: what it is worth is what the hold of that sum in a sandbox is worth. -/
noncomputable def Tryz.pinned : Pinned := { name := "ythkdmhaafanjlaagreat", sum := "c579834cba7dd6d3a0da8a5d2e4a7302382feb131a207fa61fec53161e988c71", checked := Tryz.checked }
namespace Rows
def none {H : Type} : Left H := { results := [], args := [] }

/-- 'quincunxlaw15.ModhnfInserts': WHATEVER THE INPUT: true; the input reads as it did. -/
def modhnfInsertsSpec : ChangeSpec := { name := "modhnfInserts", fn := fun _ => fun
  | [d1, d2] => { results := [.lit (.bool true)], args := [d1, d2] }
  | _ => none }
def modhnfInsertsRow : OpenClaim := { program := "ythkdmhaafanjlaagreat", sum := "c579834cba7dd6d3a0da8a5d2e4a7302382feb131a207fa61fec53161e988c71", func := "quincunx/quincunxlaw15.ModhnfInserts", spec := "modhnfInserts", inPlace := ["math/bits.Add64", "math/bits.Sub64"], unfollowed := true, recurses := true, named := ["math/bits.divideError", "math/bits.overflowError"], apart := false }
def ModhnfInsertsSaid : Prop := modhnfInsertsRow.holds Tryz.pinned (OpenSpec.ofChange modhnfInsertsSpec)

/-- ITS FALSE NEIGHBOUR: 'it returns false'. Refute it at one input. -/
def modhnfInsertsWrong : ChangeSpec := { name := "modhnfInserts", fn := fun _ => fun
  | [d1, d2] => { results := [.lit (.bool false)], args := [d1, d2] }
  | _ => none }
def ModhnfInsertsWrongFalsely : Prop := modhnfInsertsRow.holds Tryz.pinned (OpenSpec.ofChange modhnfInsertsWrong)

/-- 'quincunxlaw26.ZcharFields': WHATEVER THE INPUT: true; the input reads as it did. -/
def zcharFieldsSpec : ChangeSpec := { name := "zcharFields", fn := fun _ => fun
  | [d1, d2] => { results := [.lit (.bool true)], args := [d1, d2] }
  | _ => none }
def zcharFieldsRow : OpenClaim := { program := "ythkdmhaafanjlaagreat", sum := "c579834cba7dd6d3a0da8a5d2e4a7302382feb131a207fa61fec53161e988c71", func := "quincunx/quincunxlaw26.ZcharFields", spec := "zcharFields", inPlace := ["math/bits.Add64", "math/bits.Sub64"], unfollowed := true, recurses := true, named := ["math/bits.divideError", "math/bits.overflowError"], apart := false }
def ZcharFieldsSaid : Prop := zcharFieldsRow.holds Tryz.pinned (OpenSpec.ofChange zcharFieldsSpec)

/-- ITS FALSE NEIGHBOUR: 'it returns false'. Refute it at one input. -/
def zcharFieldsWrong : ChangeSpec := { name := "zcharFields", fn := fun _ => fun
  | [d1, d2] => { results := [.lit (.bool false)], args := [d1, d2] }
  | _ => none }
def ZcharFieldsWrongFalsely : Prop := zcharFieldsRow.holds Tryz.pinned (OpenSpec.ofChange zcharFieldsWrong)

/-- 'quincunxlaw26.ZcharCompanions': WHATEVER THE INPUT: true; the input reads as it did. -/
def zcharCompanionsSpec : ChangeSpec := { name := "zcharCompanions", fn := fun _ => fun
  | [d] => { results := [.lit (.bool true)], args := [d] }
  | _ => none }
def zcharCompanionsRow : OpenClaim := { program := "ythkdmhaafanjlaagreat", sum := "c579834cba7dd6d3a0da8a5d2e4a7302382feb131a207fa61fec53161e988c71", func := "quincunx/quincunxlaw26.ZcharCompanions", spec := "zcharCompanions", inPlace := ["math/bits.Add64", "math/bits.Sub64"], unfollowed := true, recurses := true, named := ["math/bits.divideError", "math/bits.overflowError"], apart := false }
def ZcharCompanionsSaid : Prop := zcharCompanionsRow.holds Tryz.pinned (OpenSpec.ofChange zcharCompanionsSpec)

/-- ITS FALSE NEIGHBOUR: 'it returns false'. Refute it at one input. -/
def zcharCompanionsWrong : ChangeSpec := { name := "zcharCompanions", fn := fun _ => fun
  | [d] => { results := [.lit (.bool false)], args := [d] }
  | _ => none }
def ZcharCompanionsWrongFalsely : Prop := zcharCompanionsRow.holds Tryz.pinned (OpenSpec.ofChange zcharCompanionsWrong)

/-- 'quincunxlaw26.ZcharMins': WHATEVER THE INPUT: true; the input reads as it did. -/
def zcharMinsSpec : ChangeSpec := { name := "zcharMins", fn := fun _ => fun
  | [d] => { results := [.lit (.bool true)], args := [d] }
  | _ => none }
def zcharMinsRow : OpenClaim := { program := "ythkdmhaafanjlaagreat", sum := "c579834cba7dd6d3a0da8a5d2e4a7302382feb131a207fa61fec53161e988c71", func := "quincunx/quincunxlaw26.ZcharMins", spec := "zcharMins", inPlace := ["math/bits.Add64", "math/bits.Sub64"], unfollowed := true, recurses := true, named := ["math/bits.divideError", "math/bits.overflowError"], apart := false }
def ZcharMinsSaid : Prop := zcharMinsRow.holds Tryz.pinned (OpenSpec.ofChange zcharMinsSpec)

/-- ITS FALSE NEIGHBOUR: 'it returns false'. Refute it at one input. -/
def zcharMinsWrong : ChangeSpec := { name := "zcharMins", fn := fun _ => fun
  | [d] => { results := [.lit (.bool false)], args := [d] }
  | _ => none }
def ZcharMinsWrongFalsely : Prop := zcharMinsRow.holds Tryz.pinned (OpenSpec.ofChange zcharMinsWrong)

/-- 'quincunxlaw20.GramOf': WHATEVER THE INPUT: true; the input reads as it did. -/
def gramOfSpec : ChangeSpec := { name := "gramOf", fn := fun _ => fun
  | [d] => { results := [.lit (.bool true)], args := [d] }
  | _ => none }
def gramOfRow : OpenClaim := { program := "ythkdmhaafanjlaagreat", sum := "c579834cba7dd6d3a0da8a5d2e4a7302382feb131a207fa61fec53161e988c71", func := "quincunx/quincunxlaw20.GramOf", spec := "gramOf", inPlace := ["math/bits.Add64", "math/bits.Sub64"], unfollowed := true, recurses := true, named := ["math/bits.divideError", "math/bits.overflowError"], apart := false }
def GramOfSaid : Prop := gramOfRow.holds Tryz.pinned (OpenSpec.ofChange gramOfSpec)

/-- ITS FALSE NEIGHBOUR: 'it returns false'. Refute it at one input. -/
def gramOfWrong : ChangeSpec := { name := "gramOf", fn := fun _ => fun
  | [d] => { results := [.lit (.bool false)], args := [d] }
  | _ => none }
def GramOfWrongFalsely : Prop := gramOfRow.holds Tryz.pinned (OpenSpec.ofChange gramOfWrong)

/-- 'quincunxlaw20.GramReduces': WHATEVER THE INPUT: true; the input reads as it did. -/
def gramReducesSpec : ChangeSpec := { name := "gramReduces", fn := fun _ => fun
  | [d1, d2, d3] => { results := [.lit (.bool true)], args := [d1, d2, d3] }
  | _ => none }
def gramReducesRow : OpenClaim := { program := "ythkdmhaafanjlaagreat", sum := "c579834cba7dd6d3a0da8a5d2e4a7302382feb131a207fa61fec53161e988c71", func := "quincunx/quincunxlaw20.GramReduces", spec := "gramReduces", inPlace := ["math/bits.Add64", "math/bits.Sub64"], unfollowed := true, recurses := true, named := ["math/bits.divideError", "math/bits.overflowError"], apart := false }
def GramReducesSaid : Prop := gramReducesRow.holds Tryz.pinned (OpenSpec.ofChange gramReducesSpec)

/-- ITS FALSE NEIGHBOUR: 'it returns false'. Refute it at one input. -/
def gramReducesWrong : ChangeSpec := { name := "gramReduces", fn := fun _ => fun
  | [d1, d2, d3] => { results := [.lit (.bool false)], args := [d1, d2, d3] }
  | _ => none }
def GramReducesWrongFalsely : Prop := gramReducesRow.holds Tryz.pinned (OpenSpec.ofChange gramReducesWrong)

/-- 'quincunxlaw20.GramBases': WHATEVER THE INPUT: true; the input reads as it did. -/
def gramBasesSpec : ChangeSpec := { name := "gramBases", fn := fun _ => fun
  | [d1, d2] => { results := [.lit (.bool true)], args := [d1, d2] }
  | _ => none }
def gramBasesRow : OpenClaim := { program := "ythkdmhaafanjlaagreat", sum := "c579834cba7dd6d3a0da8a5d2e4a7302382feb131a207fa61fec53161e988c71", func := "quincunx/quincunxlaw20.GramBases", spec := "gramBases", inPlace := ["math/bits.Add64", "math/bits.Sub64"], unfollowed := true, recurses := true, named := ["math/bits.divideError", "math/bits.overflowError"], apart := false }
def GramBasesSaid : Prop := gramBasesRow.holds Tryz.pinned (OpenSpec.ofChange gramBasesSpec)

/-- ITS FALSE NEIGHBOUR: 'it returns false'. Refute it at one input. -/
def gramBasesWrong : ChangeSpec := { name := "gramBases", fn := fun _ => fun
  | [d1, d2] => { results := [.lit (.bool false)], args := [d1, d2] }
  | _ => none }
def GramBasesWrongFalsely : Prop := gramBasesRow.holds Tryz.pinned (OpenSpec.ofChange gramBasesWrong)

/-- 'quincunxlaw20.GramStays': WHATEVER THE INPUT: true; the input reads as it did. -/
def gramStaysSpec : ChangeSpec := { name := "gramStays", fn := fun _ => fun
  | [d1, d2] => { results := [.lit (.bool true)], args := [d1, d2] }
  | _ => none }
def gramStaysRow : OpenClaim := { program := "ythkdmhaafanjlaagreat", sum := "c579834cba7dd6d3a0da8a5d2e4a7302382feb131a207fa61fec53161e988c71", func := "quincunx/quincunxlaw20.GramStays", spec := "gramStays", inPlace := ["math/bits.Add64", "math/bits.Sub64"], unfollowed := true, recurses := true, named := ["math/bits.divideError", "math/bits.overflowError"], apart := false }
def GramStaysSaid : Prop := gramStaysRow.holds Tryz.pinned (OpenSpec.ofChange gramStaysSpec)

/-- ITS FALSE NEIGHBOUR: 'it returns false'. Refute it at one input. -/
def gramStaysWrong : ChangeSpec := { name := "gramStays", fn := fun _ => fun
  | [d1, d2] => { results := [.lit (.bool false)], args := [d1, d2] }
  | _ => none }
def GramStaysWrongFalsely : Prop := gramStaysRow.holds Tryz.pinned (OpenSpec.ofChange gramStaysWrong)

/-- 'quincunxlaw20.GramNear': WHATEVER THE INPUT: true; the input reads as it did. -/
def gramNearSpec : ChangeSpec := { name := "gramNear", fn := fun _ => fun
  | [d1, d2] => { results := [.lit (.bool true)], args := [d1, d2] }
  | _ => none }
def gramNearRow : OpenClaim := { program := "ythkdmhaafanjlaagreat", sum := "c579834cba7dd6d3a0da8a5d2e4a7302382feb131a207fa61fec53161e988c71", func := "quincunx/quincunxlaw20.GramNear", spec := "gramNear", inPlace := ["math/bits.Add64", "math/bits.Sub64"], unfollowed := true, recurses := true, named := ["math/bits.divideError", "math/bits.overflowError"], apart := false }
def GramNearSaid : Prop := gramNearRow.holds Tryz.pinned (OpenSpec.ofChange gramNearSpec)

/-- ITS FALSE NEIGHBOUR: 'it returns false'. Refute it at one input. -/
def gramNearWrong : ChangeSpec := { name := "gramNear", fn := fun _ => fun
  | [d1, d2] => { results := [.lit (.bool false)], args := [d1, d2] }
  | _ => none }
def GramNearWrongFalsely : Prop := gramNearRow.holds Tryz.pinned (OpenSpec.ofChange gramNearWrong)

/- THE SECOND FORM. 'bulk': how many values and letters a reading holds, each counted each time it is reached (what is shared counts as often as it is met; a slice's spare places count too). A statement '..UptoSaid' is the law's where the arguments, and the package variables that the reading takes, are together of bulk at most 1048576: NARROWER than '..Said'. Prove '..Said' where nothing that the law and all that it calls make is longer than what came in: it says more and counts as full. Else prove '..UptoSaid'. A law counts once. -/
mutual
def uptoBulk {H : Type} : DataW H → Nat
  | .lit (.string bytes) => bytes.length + 1
  | .lit _ => 1
  | .nil => 1
  | .ptr d => uptoBulk d + 1
  | .slice elems spare => uptoBulkAll elems + uptoBulkAll spare + 1
  | .agg parts => uptoBulkAll parts + 1
  | .iface _ d => uptoBulk d + 1
  | .map entries => uptoBulkEntries entries + 1
  | .held _ => 1
def uptoBulkAll {H : Type} : List (DataW H) → Nat
  | [] => 0
  | d :: r => uptoBulk d + uptoBulkAll r
def uptoBulkEntries {H : Type} : List (Lit × DataW H) → Nat
  | [] => 0
  | x :: r => uptoBulkEntry x + uptoBulkEntries r
def uptoBulkEntry {H : Type} : Lit × DataW H → Nat
  | (.string bytes, d) => bytes.length + uptoBulk d + 1
  | (_, d) => uptoBulk d + 1
 end
def uptoSmall : (H : Type) → List (DataW H) → Bool := fun _ ds => decide (uptoBulkAll ds ≤ 1048576)
def OpenSpec.upto (s : _root_.Go.ChangeSpec) : _root_.Go.OpenSpec := { _root_.Go.OpenSpec.ofChange s with cond := some uptoSmall }

/-- 'quincunxlaw15.ModhnfInserts', WHERE WHAT IT READS IS OF BULK AT MOST 1048576: true; the input reads as it did. -/
def modhnfInsertsUptoRow : OpenClaim := { program := "ythkdmhaafanjlaagreat", sum := "c579834cba7dd6d3a0da8a5d2e4a7302382feb131a207fa61fec53161e988c71", func := "quincunx/quincunxlaw15.ModhnfInserts", spec := "modhnfInserts", inPlace := ["math/bits.Add64", "math/bits.Sub64"], unfollowed := true, recurses := true, named := ["math/bits.divideError", "math/bits.overflowError"], apart := false, narrowed := true }
def ModhnfInsertsUptoSaid : Prop := modhnfInsertsUptoRow.holds Tryz.pinned (OpenSpec.upto modhnfInsertsSpec)

/-- 'quincunxlaw26.ZcharFields', WHERE WHAT IT READS IS OF BULK AT MOST 1048576: true; the input reads as it did. -/
def zcharFieldsUptoRow : OpenClaim := { program := "ythkdmhaafanjlaagreat", sum := "c579834cba7dd6d3a0da8a5d2e4a7302382feb131a207fa61fec53161e988c71", func := "quincunx/quincunxlaw26.ZcharFields", spec := "zcharFields", inPlace := ["math/bits.Add64", "math/bits.Sub64"], unfollowed := true, recurses := true, named := ["math/bits.divideError", "math/bits.overflowError"], apart := false, narrowed := true }
def ZcharFieldsUptoSaid : Prop := zcharFieldsUptoRow.holds Tryz.pinned (OpenSpec.upto zcharFieldsSpec)

/-- 'quincunxlaw26.ZcharCompanions', WHERE WHAT IT READS IS OF BULK AT MOST 1048576: true; the input reads as it did. -/
def zcharCompanionsUptoRow : OpenClaim := { program := "ythkdmhaafanjlaagreat", sum := "c579834cba7dd6d3a0da8a5d2e4a7302382feb131a207fa61fec53161e988c71", func := "quincunx/quincunxlaw26.ZcharCompanions", spec := "zcharCompanions", inPlace := ["math/bits.Add64", "math/bits.Sub64"], unfollowed := true, recurses := true, named := ["math/bits.divideError", "math/bits.overflowError"], apart := false, narrowed := true }
def ZcharCompanionsUptoSaid : Prop := zcharCompanionsUptoRow.holds Tryz.pinned (OpenSpec.upto zcharCompanionsSpec)

/-- 'quincunxlaw26.ZcharMins', WHERE WHAT IT READS IS OF BULK AT MOST 1048576: true; the input reads as it did. -/
def zcharMinsUptoRow : OpenClaim := { program := "ythkdmhaafanjlaagreat", sum := "c579834cba7dd6d3a0da8a5d2e4a7302382feb131a207fa61fec53161e988c71", func := "quincunx/quincunxlaw26.ZcharMins", spec := "zcharMins", inPlace := ["math/bits.Add64", "math/bits.Sub64"], unfollowed := true, recurses := true, named := ["math/bits.divideError", "math/bits.overflowError"], apart := false, narrowed := true }
def ZcharMinsUptoSaid : Prop := zcharMinsUptoRow.holds Tryz.pinned (OpenSpec.upto zcharMinsSpec)

/-- 'quincunxlaw20.GramOf', WHERE WHAT IT READS IS OF BULK AT MOST 1048576: true; the input reads as it did. -/
def gramOfUptoRow : OpenClaim := { program := "ythkdmhaafanjlaagreat", sum := "c579834cba7dd6d3a0da8a5d2e4a7302382feb131a207fa61fec53161e988c71", func := "quincunx/quincunxlaw20.GramOf", spec := "gramOf", inPlace := ["math/bits.Add64", "math/bits.Sub64"], unfollowed := true, recurses := true, named := ["math/bits.divideError", "math/bits.overflowError"], apart := false, narrowed := true }
def GramOfUptoSaid : Prop := gramOfUptoRow.holds Tryz.pinned (OpenSpec.upto gramOfSpec)

/-- 'quincunxlaw20.GramReduces', WHERE WHAT IT READS IS OF BULK AT MOST 1048576: true; the input reads as it did. -/
def gramReducesUptoRow : OpenClaim := { program := "ythkdmhaafanjlaagreat", sum := "c579834cba7dd6d3a0da8a5d2e4a7302382feb131a207fa61fec53161e988c71", func := "quincunx/quincunxlaw20.GramReduces", spec := "gramReduces", inPlace := ["math/bits.Add64", "math/bits.Sub64"], unfollowed := true, recurses := true, named := ["math/bits.divideError", "math/bits.overflowError"], apart := false, narrowed := true }
def GramReducesUptoSaid : Prop := gramReducesUptoRow.holds Tryz.pinned (OpenSpec.upto gramReducesSpec)

/-- 'quincunxlaw20.GramBases', WHERE WHAT IT READS IS OF BULK AT MOST 1048576: true; the input reads as it did. -/
def gramBasesUptoRow : OpenClaim := { program := "ythkdmhaafanjlaagreat", sum := "c579834cba7dd6d3a0da8a5d2e4a7302382feb131a207fa61fec53161e988c71", func := "quincunx/quincunxlaw20.GramBases", spec := "gramBases", inPlace := ["math/bits.Add64", "math/bits.Sub64"], unfollowed := true, recurses := true, named := ["math/bits.divideError", "math/bits.overflowError"], apart := false, narrowed := true }
def GramBasesUptoSaid : Prop := gramBasesUptoRow.holds Tryz.pinned (OpenSpec.upto gramBasesSpec)

/-- 'quincunxlaw20.GramStays', WHERE WHAT IT READS IS OF BULK AT MOST 1048576: true; the input reads as it did. -/
def gramStaysUptoRow : OpenClaim := { program := "ythkdmhaafanjlaagreat", sum := "c579834cba7dd6d3a0da8a5d2e4a7302382feb131a207fa61fec53161e988c71", func := "quincunx/quincunxlaw20.GramStays", spec := "gramStays", inPlace := ["math/bits.Add64", "math/bits.Sub64"], unfollowed := true, recurses := true, named := ["math/bits.divideError", "math/bits.overflowError"], apart := false, narrowed := true }
def GramStaysUptoSaid : Prop := gramStaysUptoRow.holds Tryz.pinned (OpenSpec.upto gramStaysSpec)

/-- 'quincunxlaw20.GramNear', WHERE WHAT IT READS IS OF BULK AT MOST 1048576: true; the input reads as it did. -/
def gramNearUptoRow : OpenClaim := { program := "ythkdmhaafanjlaagreat", sum := "c579834cba7dd6d3a0da8a5d2e4a7302382feb131a207fa61fec53161e988c71", func := "quincunx/quincunxlaw20.GramNear", spec := "gramNear", inPlace := ["math/bits.Add64", "math/bits.Sub64"], unfollowed := true, recurses := true, named := ["math/bits.divideError", "math/bits.overflowError"], apart := false, narrowed := true }
def GramNearUptoSaid : Prop := gramNearUptoRow.holds Tryz.pinned (OpenSpec.upto gramNearSpec)

end Rows
end Go.Proofs.YthkdmhaafanjlaaGreat
