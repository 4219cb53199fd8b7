/-
  No cell of these rows narrows 'for every input' (looked for: loops, veiled, ifaces, maps, wideKeys, modest, calm, conditions, laid).
  DERIVED. THE GIVEN ROWS OF THIS SEAT. 6 by the template 'for every input the law returns true; each argument reads behind the call as it read before'; 0 by the template 'total and deterministic' (their statements: YtcjbflgooaddgaaTotals.lean).
  GIVEN WITH THE SEED: the statements are not yours to turn. If you find one false, say at which input.
  Laid BY PROGRAM, IN A SANDBOX (cutbox-rows.mjs): the forced cells as the released guide's own fill.sh prints them over the translation 42f612a906b3acf9… (all of the seat's roots in one cut). By AI agents, Wed Nov 11 2026. No macro, syntax, notation, axiom, sorry.
-/
import Derived.Test.YtcjbflgooaddgaaChecked
import GoSem.Claim
import GoSem.ClaimJoined
import GoSem.ClaimMapViews
import Derived.JoinedTies
import Derived.KernelRfl
namespace Go.Proofs.Ytcjbflgooaddgaa
/- THE CELL 'sum', in the pinned program and in every row, IS THE sha256 OF THE DUMP (.gsa) THAT YtcjbflgooaddgaaProg.lean LOADS. Nothing in Lean hashes anything: it is a label: what it is worth is what the hold of that sum in a sandbox is worth. -/
noncomputable def Try.pinned : Pinned := { name := "ytcjbflgooaddgaa", sum := "42f612a906b3acf957ecf064fd4c4a62677a4c80fadc6875aa957870a8cea872", checked := Try.checked }
namespace Rows
def none {H : Type} : Left H := { results := [], args := [] }

/-- 'laws.FnInsides': WHATEVER THE INPUT: true; the input reads as it did. -/
def fnInsidesSpec : ChangeSpec := { name := "fnInsides", fn := fun _ => fun
  | [d] => { results := [.lit (.bool true)], args := [d] }
  | _ => none }
def fnInsidesRow : OpenClaim := { program := "ytcjbflgooaddgaa", sum := "42f612a906b3acf957ecf064fd4c4a62677a4c80fadc6875aa957870a8cea872", func := "loop.example/g00422/laws.FnInsides", spec := "fnInsides", unfollowed := true, recurses := true, apart := false }
def FnInsidesSaid : Prop := fnInsidesRow.holds Try.pinned (OpenSpec.ofChange fnInsidesSpec)

/-- ITS FALSE NEIGHBOUR: 'it returns false'. Refute it at one input. -/
def fnInsidesWrong : ChangeSpec := { name := "fnInsides", fn := fun _ => fun
  | [d] => { results := [.lit (.bool false)], args := [d] }
  | _ => none }
def FnInsidesWrongFalsely : Prop := fnInsidesRow.holds Try.pinned (OpenSpec.ofChange fnInsidesWrong)

/-- 'laws.FnExactTaskOk': WHATEVER THE INPUT: true; the input reads as it did. -/
def fnExactTaskOkSpec : ChangeSpec := { name := "fnExactTaskOk", fn := fun _ => fun
  | [d] => { results := [.lit (.bool true)], args := [d] }
  | _ => none }
def fnExactTaskOkRow : OpenClaim := { program := "ytcjbflgooaddgaa", sum := "42f612a906b3acf957ecf064fd4c4a62677a4c80fadc6875aa957870a8cea872", func := "loop.example/g00422/laws.FnExactTaskOk", spec := "fnExactTaskOk", unfollowed := true, recurses := true, apart := false }
def FnExactTaskOkSaid : Prop := fnExactTaskOkRow.holds Try.pinned (OpenSpec.ofChange fnExactTaskOkSpec)

/-- ITS FALSE NEIGHBOUR: 'it returns false'. Refute it at one input. -/
def fnExactTaskOkWrong : ChangeSpec := { name := "fnExactTaskOk", fn := fun _ => fun
  | [d] => { results := [.lit (.bool false)], args := [d] }
  | _ => none }
def FnExactTaskOkWrongFalsely : Prop := fnExactTaskOkRow.holds Try.pinned (OpenSpec.ofChange fnExactTaskOkWrong)

/-- 'laws.FnExactInside': WHATEVER THE INPUT: true; the input reads as it did. -/
def fnExactInsideSpec : ChangeSpec := { name := "fnExactInside", fn := fun _ => fun
  | [d1, d2] => { results := [.lit (.bool true)], args := [d1, d2] }
  | _ => none }
def fnExactInsideRow : OpenClaim := { program := "ytcjbflgooaddgaa", sum := "42f612a906b3acf957ecf064fd4c4a62677a4c80fadc6875aa957870a8cea872", func := "loop.example/g00422/laws.FnExactInside", spec := "fnExactInside", unfollowed := true, recurses := true, apart := false }
def FnExactInsideSaid : Prop := fnExactInsideRow.holds Try.pinned (OpenSpec.ofChange fnExactInsideSpec)

/-- ITS FALSE NEIGHBOUR: 'it returns false'. Refute it at one input. -/
def fnExactInsideWrong : ChangeSpec := { name := "fnExactInside", fn := fun _ => fun
  | [d1, d2] => { results := [.lit (.bool false)], args := [d1, d2] }
  | _ => none }
def FnExactInsideWrongFalsely : Prop := fnExactInsideRow.holds Try.pinned (OpenSpec.ofChange fnExactInsideWrong)

/-- 'laws.FnExactEventOk': WHATEVER THE INPUT: true; the input reads as it did. -/
def fnExactEventOkSpec : ChangeSpec := { name := "fnExactEventOk", fn := fun _ => fun
  | [d] => { results := [.lit (.bool true)], args := [d] }
  | _ => none }
def fnExactEventOkRow : OpenClaim := { program := "ytcjbflgooaddgaa", sum := "42f612a906b3acf957ecf064fd4c4a62677a4c80fadc6875aa957870a8cea872", func := "loop.example/g00422/laws.FnExactEventOk", spec := "fnExactEventOk", unfollowed := true, recurses := true, apart := false }
def FnExactEventOkSaid : Prop := fnExactEventOkRow.holds Try.pinned (OpenSpec.ofChange fnExactEventOkSpec)

/-- ITS FALSE NEIGHBOUR: 'it returns false'. Refute it at one input. -/
def fnExactEventOkWrong : ChangeSpec := { name := "fnExactEventOk", fn := fun _ => fun
  | [d] => { results := [.lit (.bool false)], args := [d] }
  | _ => none }
def FnExactEventOkWrongFalsely : Prop := fnExactEventOkRow.holds Try.pinned (OpenSpec.ofChange fnExactEventOkWrong)

/-- 'laws.FnExactBegin': WHATEVER THE INPUT: true; the input reads as it did. -/
def fnExactBeginSpec : ChangeSpec := { name := "fnExactBegin", fn := fun _ => fun
  | [d1, d2, d3] => { results := [.lit (.bool true)], args := [d1, d2, d3] }
  | _ => none }
def fnExactBeginRow : OpenClaim := { program := "ytcjbflgooaddgaa", sum := "42f612a906b3acf957ecf064fd4c4a62677a4c80fadc6875aa957870a8cea872", func := "loop.example/g00422/laws.FnExactBegin", spec := "fnExactBegin", unfollowed := true, recurses := true, apart := false }
def FnExactBeginSaid : Prop := fnExactBeginRow.holds Try.pinned (OpenSpec.ofChange fnExactBeginSpec)

/-- ITS FALSE NEIGHBOUR: 'it returns false'. Refute it at one input. -/
def fnExactBeginWrong : ChangeSpec := { name := "fnExactBegin", fn := fun _ => fun
  | [d1, d2, d3] => { results := [.lit (.bool false)], args := [d1, d2, d3] }
  | _ => none }
def FnExactBeginWrongFalsely : Prop := fnExactBeginRow.holds Try.pinned (OpenSpec.ofChange fnExactBeginWrong)

/-- 'laws.FnExactZoneNew': WHATEVER THE INPUT: true; the input reads as it did. -/
def fnExactZoneNewSpec : ChangeSpec := { name := "fnExactZoneNew", fn := fun _ => fun
  | [d1, d2] => { results := [.lit (.bool true)], args := [d1, d2] }
  | _ => none }
def fnExactZoneNewRow : OpenClaim := { program := "ytcjbflgooaddgaa", sum := "42f612a906b3acf957ecf064fd4c4a62677a4c80fadc6875aa957870a8cea872", func := "loop.example/g00422/laws.FnExactZoneNew", spec := "fnExactZoneNew", inPlace := ["internal/bytealg.Compare"], unfollowed := true, recurses := true, apart := false }
def FnExactZoneNewSaid : Prop := fnExactZoneNewRow.holds Try.pinned (OpenSpec.ofChange fnExactZoneNewSpec)

/-- ITS FALSE NEIGHBOUR: 'it returns false'. Refute it at one input. -/
def fnExactZoneNewWrong : ChangeSpec := { name := "fnExactZoneNew", fn := fun _ => fun
  | [d1, d2] => { results := [.lit (.bool false)], args := [d1, d2] }
  | _ => none }
def FnExactZoneNewWrongFalsely : Prop := fnExactZoneNewRow.holds Try.pinned (OpenSpec.ofChange fnExactZoneNewWrong)

/- THE SECOND FORM. 'bulk': how many values and letters a reading holds, each counted each time it is reached (what is shared counts as often as it is met; a slice's spare places count too). A statement '..UptoSaid' is the law's where the arguments, and the package variables that the reading takes, are together of bulk at most 1048576: NARROWER than '..Said'. Prove '..Said' where nothing that the law and all that it calls make is longer than what came in: it says more and counts as full. Else prove '..UptoSaid'. A law counts once. -/
mutual
def uptoBulk {H : Type} : DataW H → Nat
  | .lit (.string bytes) => bytes.length + 1
  | .lit _ => 1
  | .nil => 1
  | .ptr d => uptoBulk d + 1
  | .slice elems spare => uptoBulkAll elems + uptoBulkAll spare + 1
  | .agg parts => uptoBulkAll parts + 1
  | .iface _ d => uptoBulk d + 1
  | .map entries => uptoBulkEntries entries + 1
  | .held _ => 1
def uptoBulkAll {H : Type} : List (DataW H) → Nat
  | [] => 0
  | d :: r => uptoBulk d + uptoBulkAll r
def uptoBulkEntries {H : Type} : List (Lit × DataW H) → Nat
  | [] => 0
  | x :: r => uptoBulkEntry x + uptoBulkEntries r
def uptoBulkEntry {H : Type} : Lit × DataW H → Nat
  | (.string bytes, d) => bytes.length + uptoBulk d + 1
  | (_, d) => uptoBulk d + 1
 end
def uptoSmall : (H : Type) → List (DataW H) → Bool := fun _ ds => decide (uptoBulkAll ds ≤ 1048576)
def OpenSpec.upto (s : _root_.Go.ChangeSpec) : _root_.Go.OpenSpec := { _root_.Go.OpenSpec.ofChange s with cond := some uptoSmall }

/-- 'laws.FnInsides', WHERE WHAT IT READS IS OF BULK AT MOST 1048576: true; the input reads as it did. -/
def fnInsidesUptoRow : OpenClaim := { program := "ytcjbflgooaddgaa", sum := "42f612a906b3acf957ecf064fd4c4a62677a4c80fadc6875aa957870a8cea872", func := "loop.example/g00422/laws.FnInsides", spec := "fnInsides", unfollowed := true, recurses := true, apart := false, narrowed := true }
def FnInsidesUptoSaid : Prop := fnInsidesUptoRow.holds Try.pinned (OpenSpec.upto fnInsidesSpec)

/-- 'laws.FnExactTaskOk', WHERE WHAT IT READS IS OF BULK AT MOST 1048576: true; the input reads as it did. -/
def fnExactTaskOkUptoRow : OpenClaim := { program := "ytcjbflgooaddgaa", sum := "42f612a906b3acf957ecf064fd4c4a62677a4c80fadc6875aa957870a8cea872", func := "loop.example/g00422/laws.FnExactTaskOk", spec := "fnExactTaskOk", unfollowed := true, recurses := true, apart := false, narrowed := true }
def FnExactTaskOkUptoSaid : Prop := fnExactTaskOkUptoRow.holds Try.pinned (OpenSpec.upto fnExactTaskOkSpec)

/-- 'laws.FnExactInside', WHERE WHAT IT READS IS OF BULK AT MOST 1048576: true; the input reads as it did. -/
def fnExactInsideUptoRow : OpenClaim := { program := "ytcjbflgooaddgaa", sum := "42f612a906b3acf957ecf064fd4c4a62677a4c80fadc6875aa957870a8cea872", func := "loop.example/g00422/laws.FnExactInside", spec := "fnExactInside", unfollowed := true, recurses := true, apart := false, narrowed := true }
def FnExactInsideUptoSaid : Prop := fnExactInsideUptoRow.holds Try.pinned (OpenSpec.upto fnExactInsideSpec)

/-- 'laws.FnExactEventOk', WHERE WHAT IT READS IS OF BULK AT MOST 1048576: true; the input reads as it did. -/
def fnExactEventOkUptoRow : OpenClaim := { program := "ytcjbflgooaddgaa", sum := "42f612a906b3acf957ecf064fd4c4a62677a4c80fadc6875aa957870a8cea872", func := "loop.example/g00422/laws.FnExactEventOk", spec := "fnExactEventOk", unfollowed := true, recurses := true, apart := false, narrowed := true }
def FnExactEventOkUptoSaid : Prop := fnExactEventOkUptoRow.holds Try.pinned (OpenSpec.upto fnExactEventOkSpec)

/-- 'laws.FnExactBegin', WHERE WHAT IT READS IS OF BULK AT MOST 1048576: true; the input reads as it did. -/
def fnExactBeginUptoRow : OpenClaim := { program := "ytcjbflgooaddgaa", sum := "42f612a906b3acf957ecf064fd4c4a62677a4c80fadc6875aa957870a8cea872", func := "loop.example/g00422/laws.FnExactBegin", spec := "fnExactBegin", unfollowed := true, recurses := true, apart := false, narrowed := true }
def FnExactBeginUptoSaid : Prop := fnExactBeginUptoRow.holds Try.pinned (OpenSpec.upto fnExactBeginSpec)

/-- 'laws.FnExactZoneNew', WHERE WHAT IT READS IS OF BULK AT MOST 1048576: true; the input reads as it did. -/
def fnExactZoneNewUptoRow : OpenClaim := { program := "ytcjbflgooaddgaa", sum := "42f612a906b3acf957ecf064fd4c4a62677a4c80fadc6875aa957870a8cea872", func := "loop.example/g00422/laws.FnExactZoneNew", spec := "fnExactZoneNew", inPlace := ["internal/bytealg.Compare"], unfollowed := true, recurses := true, apart := false, narrowed := true }
def FnExactZoneNewUptoSaid : Prop := fnExactZoneNewUptoRow.holds Try.pinned (OpenSpec.upto fnExactZoneNewSpec)

end Rows
end Go.Proofs.Ytcjbflgooaddgaa
