/-
  No cell of these rows narrows 'for every input' (looked for: loops, veiled, ifaces, maps, wideKeys, modest, calm, conditions, laid).
  DERIVED. THE GIVEN ROWS OF THIS SEAT. 7 by the template 'for every input the law returns true; each argument reads behind the call as it read before'; 0 by the template 'total and deterministic' (their statements: YtmecljfkakjmbaaGreatTotals.lean).
  GIVEN WITH THE SEED: the statements are not yours to turn. If you find one false, say at which input.
  Laid BY PROGRAM, IN A SANDBOX (cutbox-rows.mjs): the forced cells as the released guide's own fill.sh prints them over the translation ecbf1fe50de0011d… (all of the seat's roots in one cut). By AI agents, Wed Nov 11 2026. No macro, syntax, notation, axiom, sorry.
-/
import Derived.Test.YtmecljfkakjmbaaGreatChecked
import GoSem.Claim
import GoSem.ClaimJoined
import GoSem.ClaimMapViews
import Derived.JoinedTies
import Derived.KernelRfl
namespace Go.Proofs.YtmecljfkakjmbaaGreat
/- THE CELL 'sum', in the pinned program and in every row, IS THE sha256 OF THE DUMP (.gsa) THAT YtmecljfkakjmbaaGreatProg.lean LOADS. Nothing in Lean hashes anything: it is a label: what it is worth is what the hold of that sum in a sandbox is worth. -/
noncomputable def Tryz.pinned : Pinned := { name := "ytmecljfkakjmbaagreat", sum := "ecbf1fe50de0011dadaf089591495fcdd2417d93fa93ffa8d7e044bd7e1371cc", checked := Tryz.checked }
namespace Rows
def none {H : Type} : Left H := { results := [], args := [] }

/-- 'laws.FnExactZoneDiff': WHATEVER THE INPUT: true; the input reads as it did. -/
def fnExactZoneDiffSpec : ChangeSpec := { name := "fnExactZoneDiff", fn := fun _ => fun
  | [d1, d2] => { results := [.lit (.bool true)], args := [d1, d2] }
  | _ => none }
def fnExactZoneDiffRow : OpenClaim := { program := "ytmecljfkakjmbaagreat", sum := "ecbf1fe50de0011dadaf089591495fcdd2417d93fa93ffa8d7e044bd7e1371cc", func := "loop.example/g00422/laws.FnExactZoneDiff", spec := "fnExactZoneDiff", inPlace := ["internal/bytealg.Compare"], unfollowed := true, recurses := true, apart := false }
def FnExactZoneDiffSaid : Prop := fnExactZoneDiffRow.holds Tryz.pinned (OpenSpec.ofChange fnExactZoneDiffSpec)

/-- ITS FALSE NEIGHBOUR: 'it returns false'. Refute it at one input. -/
def fnExactZoneDiffWrong : ChangeSpec := { name := "fnExactZoneDiff", fn := fun _ => fun
  | [d1, d2] => { results := [.lit (.bool false)], args := [d1, d2] }
  | _ => none }
def FnExactZoneDiffWrongFalsely : Prop := fnExactZoneDiffRow.holds Tryz.pinned (OpenSpec.ofChange fnExactZoneDiffWrong)

/-- 'laws.FnExactBump': WHATEVER THE INPUT: true; the input reads as it did. -/
def fnExactBumpSpec : ChangeSpec := { name := "fnExactBump", fn := fun _ => fun
  | [d] => { results := [.lit (.bool true)], args := [d] }
  | _ => none }
def fnExactBumpRow : OpenClaim := { program := "ytmecljfkakjmbaagreat", sum := "ecbf1fe50de0011dadaf089591495fcdd2417d93fa93ffa8d7e044bd7e1371cc", func := "loop.example/g00422/laws.FnExactBump", spec := "fnExactBump", inPlace := ["internal/bytealg.Compare"], unfollowed := true, recurses := true, apart := false }
def FnExactBumpSaid : Prop := fnExactBumpRow.holds Tryz.pinned (OpenSpec.ofChange fnExactBumpSpec)

/-- ITS FALSE NEIGHBOUR: 'it returns false'. Refute it at one input. -/
def fnExactBumpWrong : ChangeSpec := { name := "fnExactBump", fn := fun _ => fun
  | [d] => { results := [.lit (.bool false)], args := [d] }
  | _ => none }
def FnExactBumpWrongFalsely : Prop := fnExactBumpRow.holds Tryz.pinned (OpenSpec.ofChange fnExactBumpWrong)

/-- 'laws.FnExactLost': WHATEVER THE INPUT: true; the input reads as it did. -/
def fnExactLostSpec : ChangeSpec := { name := "fnExactLost", fn := fun _ => fun
  | [d] => { results := [.lit (.bool true)], args := [d] }
  | _ => none }
def fnExactLostRow : OpenClaim := { program := "ytmecljfkakjmbaagreat", sum := "ecbf1fe50de0011dadaf089591495fcdd2417d93fa93ffa8d7e044bd7e1371cc", func := "loop.example/g00422/laws.FnExactLost", spec := "fnExactLost", unfollowed := true, recurses := true, apart := false }
def FnExactLostSaid : Prop := fnExactLostRow.holds Tryz.pinned (OpenSpec.ofChange fnExactLostSpec)

/-- ITS FALSE NEIGHBOUR: 'it returns false'. Refute it at one input. -/
def fnExactLostWrong : ChangeSpec := { name := "fnExactLost", fn := fun _ => fun
  | [d] => { results := [.lit (.bool false)], args := [d] }
  | _ => none }
def FnExactLostWrongFalsely : Prop := fnExactLostRow.holds Tryz.pinned (OpenSpec.ofChange fnExactLostWrong)

/-- 'laws.FnExactDropSet': WHATEVER THE INPUT: true; the input reads as it did. -/
def fnExactDropSetSpec : ChangeSpec := { name := "fnExactDropSet", fn := fun _ => fun
  | [d1, d2, d3] => { results := [.lit (.bool true)], args := [d1, d2, d3] }
  | _ => none }
def fnExactDropSetRow : OpenClaim := { program := "ytmecljfkakjmbaagreat", sum := "ecbf1fe50de0011dadaf089591495fcdd2417d93fa93ffa8d7e044bd7e1371cc", func := "loop.example/g00422/laws.FnExactDropSet", spec := "fnExactDropSet", inPlace := ["internal/bytealg.Compare"], unfollowed := true, recurses := true, apart := false }
def FnExactDropSetSaid : Prop := fnExactDropSetRow.holds Tryz.pinned (OpenSpec.ofChange fnExactDropSetSpec)

/-- ITS FALSE NEIGHBOUR: 'it returns false'. Refute it at one input. -/
def fnExactDropSetWrong : ChangeSpec := { name := "fnExactDropSet", fn := fun _ => fun
  | [d1, d2, d3] => { results := [.lit (.bool false)], args := [d1, d2, d3] }
  | _ => none }
def FnExactDropSetWrongFalsely : Prop := fnExactDropSetRow.holds Tryz.pinned (OpenSpec.ofChange fnExactDropSetWrong)

/-- 'laws.FnExactDrop': WHATEVER THE INPUT: true; the input reads as it did. -/
def fnExactDropSpec : ChangeSpec := { name := "fnExactDrop", fn := fun _ => fun
  | [d1, d2] => { results := [.lit (.bool true)], args := [d1, d2] }
  | _ => none }
def fnExactDropRow : OpenClaim := { program := "ytmecljfkakjmbaagreat", sum := "ecbf1fe50de0011dadaf089591495fcdd2417d93fa93ffa8d7e044bd7e1371cc", func := "loop.example/g00422/laws.FnExactDrop", spec := "fnExactDrop", inPlace := ["internal/bytealg.Compare"], unfollowed := true, recurses := true, apart := false }
def FnExactDropSaid : Prop := fnExactDropRow.holds Tryz.pinned (OpenSpec.ofChange fnExactDropSpec)

/-- ITS FALSE NEIGHBOUR: 'it returns false'. Refute it at one input. -/
def fnExactDropWrong : ChangeSpec := { name := "fnExactDrop", fn := fun _ => fun
  | [d1, d2] => { results := [.lit (.bool false)], args := [d1, d2] }
  | _ => none }
def FnExactDropWrongFalsely : Prop := fnExactDropRow.holds Tryz.pinned (OpenSpec.ofChange fnExactDropWrong)

/-- 'laws.FnExactLookup': WHATEVER THE INPUT: true; the input reads as it did. -/
def fnExactLookupSpec : ChangeSpec := { name := "fnExactLookup", fn := fun _ => fun
  | [d1, d2, d3] => { results := [.lit (.bool true)], args := [d1, d2, d3] }
  | _ => none }
def fnExactLookupRow : OpenClaim := { program := "ytmecljfkakjmbaagreat", sum := "ecbf1fe50de0011dadaf089591495fcdd2417d93fa93ffa8d7e044bd7e1371cc", func := "loop.example/g00422/laws.FnExactLookup", spec := "fnExactLookup", inPlace := ["internal/bytealg.Compare"], unfollowed := true, recurses := true, apart := false }
def FnExactLookupSaid : Prop := fnExactLookupRow.holds Tryz.pinned (OpenSpec.ofChange fnExactLookupSpec)

/-- ITS FALSE NEIGHBOUR: 'it returns false'. Refute it at one input. -/
def fnExactLookupWrong : ChangeSpec := { name := "fnExactLookup", fn := fun _ => fun
  | [d1, d2, d3] => { results := [.lit (.bool false)], args := [d1, d2, d3] }
  | _ => none }
def FnExactLookupWrongFalsely : Prop := fnExactLookupRow.holds Tryz.pinned (OpenSpec.ofChange fnExactLookupWrong)

/-- 'laws.FnExactAskOf': WHATEVER THE INPUT: true; the input reads as it did. -/
def fnExactAskOfSpec : ChangeSpec := { name := "fnExactAskOf", fn := fun _ => fun
  | [d] => { results := [.lit (.bool true)], args := [d] }
  | _ => none }
def fnExactAskOfRow : OpenClaim := { program := "ytmecljfkakjmbaagreat", sum := "ecbf1fe50de0011dadaf089591495fcdd2417d93fa93ffa8d7e044bd7e1371cc", func := "loop.example/g00422/laws.FnExactAskOf", spec := "fnExactAskOf", unfollowed := true, recurses := true, apart := false }
def FnExactAskOfSaid : Prop := fnExactAskOfRow.holds Tryz.pinned (OpenSpec.ofChange fnExactAskOfSpec)

/-- ITS FALSE NEIGHBOUR: 'it returns false'. Refute it at one input. -/
def fnExactAskOfWrong : ChangeSpec := { name := "fnExactAskOf", fn := fun _ => fun
  | [d] => { results := [.lit (.bool false)], args := [d] }
  | _ => none }
def FnExactAskOfWrongFalsely : Prop := fnExactAskOfRow.holds Tryz.pinned (OpenSpec.ofChange fnExactAskOfWrong)

/- THE SECOND FORM. 'bulk': how many values and letters a reading holds, each counted each time it is reached (what is shared counts as often as it is met; a slice's spare places count too). A statement '..UptoSaid' is the law's where the arguments, and the package variables that the reading takes, are together of bulk at most 1048576: NARROWER than '..Said'. Prove '..Said' where nothing that the law and all that it calls make is longer than what came in: it says more and counts as full. Else prove '..UptoSaid'. A law counts once. -/
mutual
def uptoBulk {H : Type} : DataW H → Nat
  | .lit (.string bytes) => bytes.length + 1
  | .lit _ => 1
  | .nil => 1
  | .ptr d => uptoBulk d + 1
  | .slice elems spare => uptoBulkAll elems + uptoBulkAll spare + 1
  | .agg parts => uptoBulkAll parts + 1
  | .iface _ d => uptoBulk d + 1
  | .map entries => uptoBulkEntries entries + 1
  | .held _ => 1
def uptoBulkAll {H : Type} : List (DataW H) → Nat
  | [] => 0
  | d :: r => uptoBulk d + uptoBulkAll r
def uptoBulkEntries {H : Type} : List (Lit × DataW H) → Nat
  | [] => 0
  | x :: r => uptoBulkEntry x + uptoBulkEntries r
def uptoBulkEntry {H : Type} : Lit × DataW H → Nat
  | (.string bytes, d) => bytes.length + uptoBulk d + 1
  | (_, d) => uptoBulk d + 1
 end
def uptoSmall : (H : Type) → List (DataW H) → Bool := fun _ ds => decide (uptoBulkAll ds ≤ 1048576)
def OpenSpec.upto (s : _root_.Go.ChangeSpec) : _root_.Go.OpenSpec := { _root_.Go.OpenSpec.ofChange s with cond := some uptoSmall }

/-- 'laws.FnExactZoneDiff', WHERE WHAT IT READS IS OF BULK AT MOST 1048576: true; the input reads as it did. -/
def fnExactZoneDiffUptoRow : OpenClaim := { program := "ytmecljfkakjmbaagreat", sum := "ecbf1fe50de0011dadaf089591495fcdd2417d93fa93ffa8d7e044bd7e1371cc", func := "loop.example/g00422/laws.FnExactZoneDiff", spec := "fnExactZoneDiff", inPlace := ["internal/bytealg.Compare"], unfollowed := true, recurses := true, apart := false, narrowed := true }
def FnExactZoneDiffUptoSaid : Prop := fnExactZoneDiffUptoRow.holds Tryz.pinned (OpenSpec.upto fnExactZoneDiffSpec)

/-- 'laws.FnExactBump', WHERE WHAT IT READS IS OF BULK AT MOST 1048576: true; the input reads as it did. -/
def fnExactBumpUptoRow : OpenClaim := { program := "ytmecljfkakjmbaagreat", sum := "ecbf1fe50de0011dadaf089591495fcdd2417d93fa93ffa8d7e044bd7e1371cc", func := "loop.example/g00422/laws.FnExactBump", spec := "fnExactBump", inPlace := ["internal/bytealg.Compare"], unfollowed := true, recurses := true, apart := false, narrowed := true }
def FnExactBumpUptoSaid : Prop := fnExactBumpUptoRow.holds Tryz.pinned (OpenSpec.upto fnExactBumpSpec)

/-- 'laws.FnExactLost', WHERE WHAT IT READS IS OF BULK AT MOST 1048576: true; the input reads as it did. -/
def fnExactLostUptoRow : OpenClaim := { program := "ytmecljfkakjmbaagreat", sum := "ecbf1fe50de0011dadaf089591495fcdd2417d93fa93ffa8d7e044bd7e1371cc", func := "loop.example/g00422/laws.FnExactLost", spec := "fnExactLost", unfollowed := true, recurses := true, apart := false, narrowed := true }
def FnExactLostUptoSaid : Prop := fnExactLostUptoRow.holds Tryz.pinned (OpenSpec.upto fnExactLostSpec)

/-- 'laws.FnExactDropSet', WHERE WHAT IT READS IS OF BULK AT MOST 1048576: true; the input reads as it did. -/
def fnExactDropSetUptoRow : OpenClaim := { program := "ytmecljfkakjmbaagreat", sum := "ecbf1fe50de0011dadaf089591495fcdd2417d93fa93ffa8d7e044bd7e1371cc", func := "loop.example/g00422/laws.FnExactDropSet", spec := "fnExactDropSet", inPlace := ["internal/bytealg.Compare"], unfollowed := true, recurses := true, apart := false, narrowed := true }
def FnExactDropSetUptoSaid : Prop := fnExactDropSetUptoRow.holds Tryz.pinned (OpenSpec.upto fnExactDropSetSpec)

/-- 'laws.FnExactDrop', WHERE WHAT IT READS IS OF BULK AT MOST 1048576: true; the input reads as it did. -/
def fnExactDropUptoRow : OpenClaim := { program := "ytmecljfkakjmbaagreat", sum := "ecbf1fe50de0011dadaf089591495fcdd2417d93fa93ffa8d7e044bd7e1371cc", func := "loop.example/g00422/laws.FnExactDrop", spec := "fnExactDrop", inPlace := ["internal/bytealg.Compare"], unfollowed := true, recurses := true, apart := false, narrowed := true }
def FnExactDropUptoSaid : Prop := fnExactDropUptoRow.holds Tryz.pinned (OpenSpec.upto fnExactDropSpec)

/-- 'laws.FnExactLookup', WHERE WHAT IT READS IS OF BULK AT MOST 1048576: true; the input reads as it did. -/
def fnExactLookupUptoRow : OpenClaim := { program := "ytmecljfkakjmbaagreat", sum := "ecbf1fe50de0011dadaf089591495fcdd2417d93fa93ffa8d7e044bd7e1371cc", func := "loop.example/g00422/laws.FnExactLookup", spec := "fnExactLookup", inPlace := ["internal/bytealg.Compare"], unfollowed := true, recurses := true, apart := false, narrowed := true }
def FnExactLookupUptoSaid : Prop := fnExactLookupUptoRow.holds Tryz.pinned (OpenSpec.upto fnExactLookupSpec)

/-- 'laws.FnExactAskOf', WHERE WHAT IT READS IS OF BULK AT MOST 1048576: true; the input reads as it did. -/
def fnExactAskOfUptoRow : OpenClaim := { program := "ytmecljfkakjmbaagreat", sum := "ecbf1fe50de0011dadaf089591495fcdd2417d93fa93ffa8d7e044bd7e1371cc", func := "loop.example/g00422/laws.FnExactAskOf", spec := "fnExactAskOf", unfollowed := true, recurses := true, apart := false, narrowed := true }
def FnExactAskOfUptoSaid : Prop := fnExactAskOfUptoRow.holds Tryz.pinned (OpenSpec.upto fnExactAskOfSpec)

end Rows
end Go.Proofs.YtmecljfkakjmbaaGreat
