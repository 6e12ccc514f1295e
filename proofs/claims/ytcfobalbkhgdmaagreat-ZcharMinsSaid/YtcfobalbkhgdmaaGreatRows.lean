/-
  No cell of these rows narrows 'for every input' (looked for: loops, veiled, ifaces, maps, wideKeys, modest, calm, conditions, laid).
  DERIVED. THE GIVEN ROWS OF THIS SEAT. 2 by the template 'for every input the law returns true; each argument reads behind the call as it read before'; 0 by the template 'total and deterministic' (their statements: YtcfobalbkhgdmaaGreatTotals.lean).
  GIVEN WITH THE SEED: the statements are not yours to turn. If you find one false, say at which input.
  Laid BY PROGRAM, IN A SANDBOX (cutbox-rows.mjs): the forced cells as the released guide's own fill.sh prints them over the translation 140f6b072133c12b… (all of the seat's roots in one cut). By AI agents, Wed Nov 11 2026. No macro, syntax, notation, axiom, sorry.
-/
import Derived.Test.YtcfobalbkhgdmaaGreatChecked
import GoSem.Claim
import GoSem.ClaimJoined
import GoSem.ClaimMapViews
import Derived.JoinedTies
import Derived.KernelRfl
namespace Go.Proofs.YtcfobalbkhgdmaaGreat
/- THE CELL 'sum', in the pinned program and in every row, IS THE sha256 OF THE DUMP (.gsa) THAT YtcfobalbkhgdmaaGreatProg.lean LOADS. Nothing in Lean hashes anything: it is a label: what it is worth is what the hold of that sum in a sandbox is worth. -/
noncomputable def Tryz.pinned : Pinned := { name := "ytcfobalbkhgdmaagreat", sum := "140f6b072133c12b0d0e06d2ac3a0608ea78e4c6c6d02a9698edf0e941b809c2", checked := Tryz.checked }
namespace Rows
def none {H : Type} : Left H := { results := [], args := [] }

/-- 'quincunxlaw26.ZcharCompanions': WHATEVER THE INPUT: true; the input reads as it did. -/
def zcharCompanionsSpec : ChangeSpec := { name := "zcharCompanions", fn := fun _ => fun
  | [d] => { results := [.lit (.bool true)], args := [d] }
  | _ => none }
def zcharCompanionsRow : OpenClaim := { program := "ytcfobalbkhgdmaagreat", sum := "140f6b072133c12b0d0e06d2ac3a0608ea78e4c6c6d02a9698edf0e941b809c2", func := "quincunx/quincunxlaw26.ZcharCompanions", spec := "zcharCompanions", inPlace := ["math/bits.Add64", "math/bits.Sub64"], unfollowed := true, recurses := true, named := ["math/bits.divideError", "math/bits.overflowError"], apart := false }
def ZcharCompanionsSaid : Prop := zcharCompanionsRow.holds Tryz.pinned (OpenSpec.ofChange zcharCompanionsSpec)

/-- ITS FALSE NEIGHBOUR: 'it returns false'. Refute it at one input. -/
def zcharCompanionsWrong : ChangeSpec := { name := "zcharCompanions", fn := fun _ => fun
  | [d] => { results := [.lit (.bool false)], args := [d] }
  | _ => none }
def ZcharCompanionsWrongFalsely : Prop := zcharCompanionsRow.holds Tryz.pinned (OpenSpec.ofChange zcharCompanionsWrong)

/-- 'quincunxlaw26.ZcharMins': WHATEVER THE INPUT: true; the input reads as it did. -/
def zcharMinsSpec : ChangeSpec := { name := "zcharMins", fn := fun _ => fun
  | [d] => { results := [.lit (.bool true)], args := [d] }
  | _ => none }
def zcharMinsRow : OpenClaim := { program := "ytcfobalbkhgdmaagreat", sum := "140f6b072133c12b0d0e06d2ac3a0608ea78e4c6c6d02a9698edf0e941b809c2", func := "quincunx/quincunxlaw26.ZcharMins", spec := "zcharMins", inPlace := ["math/bits.Add64", "math/bits.Sub64"], unfollowed := true, recurses := true, named := ["math/bits.divideError", "math/bits.overflowError"], apart := false }
def ZcharMinsSaid : Prop := zcharMinsRow.holds Tryz.pinned (OpenSpec.ofChange zcharMinsSpec)

/-- ITS FALSE NEIGHBOUR: 'it returns false'. Refute it at one input. -/
def zcharMinsWrong : ChangeSpec := { name := "zcharMins", fn := fun _ => fun
  | [d] => { results := [.lit (.bool false)], args := [d] }
  | _ => none }
def ZcharMinsWrongFalsely : Prop := zcharMinsRow.holds Tryz.pinned (OpenSpec.ofChange zcharMinsWrong)

/- THE SECOND FORM. 'bulk': how many values and letters a reading holds, each counted each time it is reached (what is shared counts as often as it is met; a slice's spare places count too). A statement '..UptoSaid' is the law's where the arguments, and the package variables that the reading takes, are together of bulk at most 1048576: NARROWER than '..Said'. Prove '..Said' where nothing that the law and all that it calls make is longer than what came in: it says more and counts as full. Else prove '..UptoSaid'. A law counts once. -/
mutual
def uptoBulk {H : Type} : DataW H → Nat
  | .lit (.string bytes) => bytes.length + 1
  | .lit _ => 1
  | .nil => 1
  | .ptr d => uptoBulk d + 1
  | .slice elems spare => uptoBulkAll elems + uptoBulkAll spare + 1
  | .agg parts => uptoBulkAll parts + 1
  | .iface _ d => uptoBulk d + 1
  | .map entries => uptoBulkEntries entries + 1
  | .held _ => 1
def uptoBulkAll {H : Type} : List (DataW H) → Nat
  | [] => 0
  | d :: r => uptoBulk d + uptoBulkAll r
def uptoBulkEntries {H : Type} : List (Lit × DataW H) → Nat
  | [] => 0
  | x :: r => uptoBulkEntry x + uptoBulkEntries r
def uptoBulkEntry {H : Type} : Lit × DataW H → Nat
  | (.string bytes, d) => bytes.length + uptoBulk d + 1
  | (_, d) => uptoBulk d + 1
 end
def uptoSmall : (H : Type) → List (DataW H) → Bool := fun _ ds => decide (uptoBulkAll ds ≤ 1048576)
def OpenSpec.upto (s : _root_.Go.ChangeSpec) : _root_.Go.OpenSpec := { _root_.Go.OpenSpec.ofChange s with cond := some uptoSmall }

/-- 'quincunxlaw26.ZcharCompanions', WHERE WHAT IT READS IS OF BULK AT MOST 1048576: true; the input reads as it did. -/
def zcharCompanionsUptoRow : OpenClaim := { program := "ytcfobalbkhgdmaagreat", sum := "140f6b072133c12b0d0e06d2ac3a0608ea78e4c6c6d02a9698edf0e941b809c2", func := "quincunx/quincunxlaw26.ZcharCompanions", spec := "zcharCompanions", inPlace := ["math/bits.Add64", "math/bits.Sub64"], unfollowed := true, recurses := true, named := ["math/bits.divideError", "math/bits.overflowError"], apart := false, narrowed := true }
def ZcharCompanionsUptoSaid : Prop := zcharCompanionsUptoRow.holds Tryz.pinned (OpenSpec.upto zcharCompanionsSpec)

/-- 'quincunxlaw26.ZcharMins', WHERE WHAT IT READS IS OF BULK AT MOST 1048576: true; the input reads as it did. -/
def zcharMinsUptoRow : OpenClaim := { program := "ytcfobalbkhgdmaagreat", sum := "140f6b072133c12b0d0e06d2ac3a0608ea78e4c6c6d02a9698edf0e941b809c2", func := "quincunx/quincunxlaw26.ZcharMins", spec := "zcharMins", inPlace := ["math/bits.Add64", "math/bits.Sub64"], unfollowed := true, recurses := true, named := ["math/bits.divideError", "math/bits.overflowError"], apart := false, narrowed := true }
def ZcharMinsUptoSaid : Prop := zcharMinsUptoRow.holds Tryz.pinned (OpenSpec.upto zcharMinsSpec)

end Rows
end Go.Proofs.YtcfobalbkhgdmaaGreat
