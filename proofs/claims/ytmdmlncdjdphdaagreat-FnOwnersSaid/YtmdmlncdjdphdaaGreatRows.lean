/-
  No cell of these rows narrows 'for every input' (looked for: loops, veiled, ifaces, maps, wideKeys, modest, calm, conditions, laid).
  DERIVED. THE GIVEN ROWS OF THIS SEAT. 9 by the template 'for every input the law returns true; each argument reads behind the call as it read before'; 0 by the template 'total and deterministic' (their statements: YtmdmlncdjdphdaaGreatTotals.lean).
  GIVEN WITH THE SEED: the statements are not yours to turn. If you find one false, say at which input.
  Laid BY PROGRAM, IN A SANDBOX (cutbox-rows.mjs): the forced cells as the released guide's own fill.sh prints them over the translation 8115cc787a101377… (all of the seat's roots in one cut). By AI agents, Wed Nov 11 2026. No macro, syntax, notation, axiom, sorry.
-/
import Derived.Test.YtmdmlncdjdphdaaGreatChecked
import GoSem.Claim
import GoSem.ClaimJoined
import GoSem.ClaimMapViews
import Derived.JoinedTies
import Derived.KernelRfl
namespace Go.Proofs.YtmdmlncdjdphdaaGreat
/- THE CELL 'sum', in the pinned program and in every row, IS THE sha256 OF THE DUMP (.gsa) THAT YtmdmlncdjdphdaaGreatProg.lean LOADS. Nothing in Lean hashes anything: it is a label: what it is worth is what the hold of that sum in a sandbox is worth. -/
noncomputable def Tryz.pinned : Pinned := { name := "ytmdmlncdjdphdaagreat", sum := "8115cc787a1013773da61b98e39be8cf49fdba9ef43fcad92ed02f2e051db54d", checked := Tryz.checked }
namespace Rows
def none {H : Type} : Left H := { results := [], args := [] }

/-- 'laws.FnOwners': WHATEVER THE INPUT: true; the input reads as it did. -/
def fnOwnersSpec : ChangeSpec := { name := "fnOwners", fn := fun _ => fun
  | [d] => { results := [.lit (.bool true)], args := [d] }
  | _ => none }
def fnOwnersRow : OpenClaim := { program := "ytmdmlncdjdphdaagreat", sum := "8115cc787a1013773da61b98e39be8cf49fdba9ef43fcad92ed02f2e051db54d", func := "loop.example/g00422/laws.FnOwners", spec := "fnOwners", inPlace := ["internal/bytealg.Compare"], unfollowed := true, recurses := true, apart := false }
def FnOwnersSaid : Prop := fnOwnersRow.holds Tryz.pinned (OpenSpec.ofChange fnOwnersSpec)

/-- ITS FALSE NEIGHBOUR: 'it returns false'. Refute it at one input. -/
def fnOwnersWrong : ChangeSpec := { name := "fnOwners", fn := fun _ => fun
  | [d] => { results := [.lit (.bool false)], args := [d] }
  | _ => none }
def FnOwnersWrongFalsely : Prop := fnOwnersRow.holds Tryz.pinned (OpenSpec.ofChange fnOwnersWrong)

/-- 'laws.FnExactCacheGet': WHATEVER THE INPUT: true; the input reads as it did. -/
def fnExactCacheGetSpec : ChangeSpec := { name := "fnExactCacheGet", fn := fun _ => fun
  | [d1, d2, d3] => { results := [.lit (.bool true)], args := [d1, d2, d3] }
  | _ => none }
def fnExactCacheGetRow : OpenClaim := { program := "ytmdmlncdjdphdaagreat", sum := "8115cc787a1013773da61b98e39be8cf49fdba9ef43fcad92ed02f2e051db54d", func := "loop.example/g00422/laws.FnExactCacheGet", spec := "fnExactCacheGet", inPlace := ["internal/bytealg.Compare"], unfollowed := true, recurses := true, apart := false }
def FnExactCacheGetSaid : Prop := fnExactCacheGetRow.holds Tryz.pinned (OpenSpec.ofChange fnExactCacheGetSpec)

/-- ITS FALSE NEIGHBOUR: 'it returns false'. Refute it at one input. -/
def fnExactCacheGetWrong : ChangeSpec := { name := "fnExactCacheGet", fn := fun _ => fun
  | [d1, d2, d3] => { results := [.lit (.bool false)], args := [d1, d2, d3] }
  | _ => none }
def FnExactCacheGetWrongFalsely : Prop := fnExactCacheGetRow.holds Tryz.pinned (OpenSpec.ofChange fnExactCacheGetWrong)

/-- 'laws.FnLosts': WHATEVER THE INPUT: true; the input reads as it did. -/
def fnLostsSpec : ChangeSpec := { name := "fnLosts", fn := fun _ => fun
  | [d] => { results := [.lit (.bool true)], args := [d] }
  | _ => none }
def fnLostsRow : OpenClaim := { program := "ytmdmlncdjdphdaagreat", sum := "8115cc787a1013773da61b98e39be8cf49fdba9ef43fcad92ed02f2e051db54d", func := "loop.example/g00422/laws.FnLosts", spec := "fnLosts", unfollowed := true, recurses := true, apart := false }
def FnLostsSaid : Prop := fnLostsRow.holds Tryz.pinned (OpenSpec.ofChange fnLostsSpec)

/-- ITS FALSE NEIGHBOUR: 'it returns false'. Refute it at one input. -/
def fnLostsWrong : ChangeSpec := { name := "fnLosts", fn := fun _ => fun
  | [d] => { results := [.lit (.bool false)], args := [d] }
  | _ => none }
def FnLostsWrongFalsely : Prop := fnLostsRow.holds Tryz.pinned (OpenSpec.ofChange fnLostsWrong)

/-- 'laws.FnDiffs': WHATEVER THE INPUT: true; the input reads as it did. -/
def fnDiffsSpec : ChangeSpec := { name := "fnDiffs", fn := fun _ => fun
  | [d] => { results := [.lit (.bool true)], args := [d] }
  | _ => none }
def fnDiffsRow : OpenClaim := { program := "ytmdmlncdjdphdaagreat", sum := "8115cc787a1013773da61b98e39be8cf49fdba9ef43fcad92ed02f2e051db54d", func := "loop.example/g00422/laws.FnDiffs", spec := "fnDiffs", inPlace := ["internal/bytealg.Compare"], unfollowed := true, recurses := true, apart := false }
def FnDiffsSaid : Prop := fnDiffsRow.holds Tryz.pinned (OpenSpec.ofChange fnDiffsSpec)

/-- ITS FALSE NEIGHBOUR: 'it returns false'. Refute it at one input. -/
def fnDiffsWrong : ChangeSpec := { name := "fnDiffs", fn := fun _ => fun
  | [d] => { results := [.lit (.bool false)], args := [d] }
  | _ => none }
def FnDiffsWrongFalsely : Prop := fnDiffsRow.holds Tryz.pinned (OpenSpec.ofChange fnDiffsWrong)

/-- 'laws.FnAnswers': WHATEVER THE INPUT: true; the input reads as it did. -/
def fnAnswersSpec : ChangeSpec := { name := "fnAnswers", fn := fun _ => fun
  | [d] => { results := [.lit (.bool true)], args := [d] }
  | _ => none }
def fnAnswersRow : OpenClaim := { program := "ytmdmlncdjdphdaagreat", sum := "8115cc787a1013773da61b98e39be8cf49fdba9ef43fcad92ed02f2e051db54d", func := "loop.example/g00422/laws.FnAnswers", spec := "fnAnswers", inPlace := ["internal/bytealg.Compare"], unfollowed := true, recurses := true, apart := false }
def FnAnswersSaid : Prop := fnAnswersRow.holds Tryz.pinned (OpenSpec.ofChange fnAnswersSpec)

/-- ITS FALSE NEIGHBOUR: 'it returns false'. Refute it at one input. -/
def fnAnswersWrong : ChangeSpec := { name := "fnAnswers", fn := fun _ => fun
  | [d] => { results := [.lit (.bool false)], args := [d] }
  | _ => none }
def FnAnswersWrongFalsely : Prop := fnAnswersRow.holds Tryz.pinned (OpenSpec.ofChange fnAnswersWrong)

/-- 'laws.FnPrereqs': WHATEVER THE INPUT: true; the input reads as it did. -/
def fnPrereqsSpec : ChangeSpec := { name := "fnPrereqs", fn := fun _ => fun
  | [d] => { results := [.lit (.bool true)], args := [d] }
  | _ => none }
def fnPrereqsRow : OpenClaim := { program := "ytmdmlncdjdphdaagreat", sum := "8115cc787a1013773da61b98e39be8cf49fdba9ef43fcad92ed02f2e051db54d", func := "loop.example/g00422/laws.FnPrereqs", spec := "fnPrereqs", inPlace := ["internal/bytealg.Compare"], unfollowed := true, recurses := true, apart := false }
def FnPrereqsSaid : Prop := fnPrereqsRow.holds Tryz.pinned (OpenSpec.ofChange fnPrereqsSpec)

/-- ITS FALSE NEIGHBOUR: 'it returns false'. Refute it at one input. -/
def fnPrereqsWrong : ChangeSpec := { name := "fnPrereqs", fn := fun _ => fun
  | [d] => { results := [.lit (.bool false)], args := [d] }
  | _ => none }
def FnPrereqsWrongFalsely : Prop := fnPrereqsRow.holds Tryz.pinned (OpenSpec.ofChange fnPrereqsWrong)

/-- 'laws.FnNos': WHATEVER THE INPUT: true; the input reads as it did. -/
def fnNosSpec : ChangeSpec := { name := "fnNos", fn := fun _ => fun
  | [d] => { results := [.lit (.bool true)], args := [d] }
  | _ => none }
def fnNosRow : OpenClaim := { program := "ytmdmlncdjdphdaagreat", sum := "8115cc787a1013773da61b98e39be8cf49fdba9ef43fcad92ed02f2e051db54d", func := "loop.example/g00422/laws.FnNos", spec := "fnNos", inPlace := ["internal/bytealg.Compare"], unfollowed := true, recurses := true, apart := false }
def FnNosSaid : Prop := fnNosRow.holds Tryz.pinned (OpenSpec.ofChange fnNosSpec)

/-- ITS FALSE NEIGHBOUR: 'it returns false'. Refute it at one input. -/
def fnNosWrong : ChangeSpec := { name := "fnNos", fn := fun _ => fun
  | [d] => { results := [.lit (.bool false)], args := [d] }
  | _ => none }
def FnNosWrongFalsely : Prop := fnNosRow.holds Tryz.pinned (OpenSpec.ofChange fnNosWrong)

/-- 'laws.FnTimes': WHATEVER THE INPUT: true; the input reads as it did. -/
def fnTimesSpec : ChangeSpec := { name := "fnTimes", fn := fun _ => fun
  | [d] => { results := [.lit (.bool true)], args := [d] }
  | _ => none }
def fnTimesRow : OpenClaim := { program := "ytmdmlncdjdphdaagreat", sum := "8115cc787a1013773da61b98e39be8cf49fdba9ef43fcad92ed02f2e051db54d", func := "loop.example/g00422/laws.FnTimes", spec := "fnTimes", inPlace := ["internal/bytealg.Compare"], unfollowed := true, recurses := true, apart := false }
def FnTimesSaid : Prop := fnTimesRow.holds Tryz.pinned (OpenSpec.ofChange fnTimesSpec)

/-- ITS FALSE NEIGHBOUR: 'it returns false'. Refute it at one input. -/
def fnTimesWrong : ChangeSpec := { name := "fnTimes", fn := fun _ => fun
  | [d] => { results := [.lit (.bool false)], args := [d] }
  | _ => none }
def FnTimesWrongFalsely : Prop := fnTimesRow.holds Tryz.pinned (OpenSpec.ofChange fnTimesWrong)

/-- 'laws.FnCaches': WHATEVER THE INPUT: true; the input reads as it did. -/
def fnCachesSpec : ChangeSpec := { name := "fnCaches", fn := fun _ => fun
  | [d] => { results := [.lit (.bool true)], args := [d] }
  | _ => none }
def fnCachesRow : OpenClaim := { program := "ytmdmlncdjdphdaagreat", sum := "8115cc787a1013773da61b98e39be8cf49fdba9ef43fcad92ed02f2e051db54d", func := "loop.example/g00422/laws.FnCaches", spec := "fnCaches", inPlace := ["internal/bytealg.Compare"], unfollowed := true, recurses := true, apart := false }
def FnCachesSaid : Prop := fnCachesRow.holds Tryz.pinned (OpenSpec.ofChange fnCachesSpec)

/-- ITS FALSE NEIGHBOUR: 'it returns false'. Refute it at one input. -/
def fnCachesWrong : ChangeSpec := { name := "fnCaches", fn := fun _ => fun
  | [d] => { results := [.lit (.bool false)], args := [d] }
  | _ => none }
def FnCachesWrongFalsely : Prop := fnCachesRow.holds Tryz.pinned (OpenSpec.ofChange fnCachesWrong)

/- THE SECOND FORM. 'bulk': how many values and letters a reading holds, each counted each time it is reached (what is shared counts as often as it is met; a slice's spare places count too). A statement '..UptoSaid' is the law's where the arguments, and the package variables that the reading takes, are together of bulk at most 1048576: NARROWER than '..Said'. Prove '..Said' where nothing that the law and all that it calls make is longer than what came in: it says more and counts as full. Else prove '..UptoSaid'. A law counts once. -/
mutual
def uptoBulk {H : Type} : DataW H → Nat
  | .lit (.string bytes) => bytes.length + 1
  | .lit _ => 1
  | .nil => 1
  | .ptr d => uptoBulk d + 1
  | .slice elems spare => uptoBulkAll elems + uptoBulkAll spare + 1
  | .agg parts => uptoBulkAll parts + 1
  | .iface _ d => uptoBulk d + 1
  | .map entries => uptoBulkEntries entries + 1
  | .held _ => 1
def uptoBulkAll {H : Type} : List (DataW H) → Nat
  | [] => 0
  | d :: r => uptoBulk d + uptoBulkAll r
def uptoBulkEntries {H : Type} : List (Lit × DataW H) → Nat
  | [] => 0
  | x :: r => uptoBulkEntry x + uptoBulkEntries r
def uptoBulkEntry {H : Type} : Lit × DataW H → Nat
  | (.string bytes, d) => bytes.length + uptoBulk d + 1
  | (_, d) => uptoBulk d + 1
 end
def uptoSmall : (H : Type) → List (DataW H) → Bool := fun _ ds => decide (uptoBulkAll ds ≤ 1048576)
def OpenSpec.upto (s : _root_.Go.ChangeSpec) : _root_.Go.OpenSpec := { _root_.Go.OpenSpec.ofChange s with cond := some uptoSmall }

/-- 'laws.FnOwners', WHERE WHAT IT READS IS OF BULK AT MOST 1048576: true; the input reads as it did. -/
def fnOwnersUptoRow : OpenClaim := { program := "ytmdmlncdjdphdaagreat", sum := "8115cc787a1013773da61b98e39be8cf49fdba9ef43fcad92ed02f2e051db54d", func := "loop.example/g00422/laws.FnOwners", spec := "fnOwners", inPlace := ["internal/bytealg.Compare"], unfollowed := true, recurses := true, apart := false, narrowed := true }
def FnOwnersUptoSaid : Prop := fnOwnersUptoRow.holds Tryz.pinned (OpenSpec.upto fnOwnersSpec)

/-- 'laws.FnExactCacheGet', WHERE WHAT IT READS IS OF BULK AT MOST 1048576: true; the input reads as it did. -/
def fnExactCacheGetUptoRow : OpenClaim := { program := "ytmdmlncdjdphdaagreat", sum := "8115cc787a1013773da61b98e39be8cf49fdba9ef43fcad92ed02f2e051db54d", func := "loop.example/g00422/laws.FnExactCacheGet", spec := "fnExactCacheGet", inPlace := ["internal/bytealg.Compare"], unfollowed := true, recurses := true, apart := false, narrowed := true }
def FnExactCacheGetUptoSaid : Prop := fnExactCacheGetUptoRow.holds Tryz.pinned (OpenSpec.upto fnExactCacheGetSpec)

/-- 'laws.FnLosts', WHERE WHAT IT READS IS OF BULK AT MOST 1048576: true; the input reads as it did. -/
def fnLostsUptoRow : OpenClaim := { program := "ytmdmlncdjdphdaagreat", sum := "8115cc787a1013773da61b98e39be8cf49fdba9ef43fcad92ed02f2e051db54d", func := "loop.example/g00422/laws.FnLosts", spec := "fnLosts", unfollowed := true, recurses := true, apart := false, narrowed := true }
def FnLostsUptoSaid : Prop := fnLostsUptoRow.holds Tryz.pinned (OpenSpec.upto fnLostsSpec)

/-- 'laws.FnDiffs', WHERE WHAT IT READS IS OF BULK AT MOST 1048576: true; the input reads as it did. -/
def fnDiffsUptoRow : OpenClaim := { program := "ytmdmlncdjdphdaagreat", sum := "8115cc787a1013773da61b98e39be8cf49fdba9ef43fcad92ed02f2e051db54d", func := "loop.example/g00422/laws.FnDiffs", spec := "fnDiffs", inPlace := ["internal/bytealg.Compare"], unfollowed := true, recurses := true, apart := false, narrowed := true }
def FnDiffsUptoSaid : Prop := fnDiffsUptoRow.holds Tryz.pinned (OpenSpec.upto fnDiffsSpec)

/-- 'laws.FnAnswers', WHERE WHAT IT READS IS OF BULK AT MOST 1048576: true; the input reads as it did. -/
def fnAnswersUptoRow : OpenClaim := { program := "ytmdmlncdjdphdaagreat", sum := "8115cc787a1013773da61b98e39be8cf49fdba9ef43fcad92ed02f2e051db54d", func := "loop.example/g00422/laws.FnAnswers", spec := "fnAnswers", inPlace := ["internal/bytealg.Compare"], unfollowed := true, recurses := true, apart := false, narrowed := true }
def FnAnswersUptoSaid : Prop := fnAnswersUptoRow.holds Tryz.pinned (OpenSpec.upto fnAnswersSpec)

/-- 'laws.FnPrereqs', WHERE WHAT IT READS IS OF BULK AT MOST 1048576: true; the input reads as it did. -/
def fnPrereqsUptoRow : OpenClaim := { program := "ytmdmlncdjdphdaagreat", sum := "8115cc787a1013773da61b98e39be8cf49fdba9ef43fcad92ed02f2e051db54d", func := "loop.example/g00422/laws.FnPrereqs", spec := "fnPrereqs", inPlace := ["internal/bytealg.Compare"], unfollowed := true, recurses := true, apart := false, narrowed := true }
def FnPrereqsUptoSaid : Prop := fnPrereqsUptoRow.holds Tryz.pinned (OpenSpec.upto fnPrereqsSpec)

/-- 'laws.FnNos', WHERE WHAT IT READS IS OF BULK AT MOST 1048576: true; the input reads as it did. -/
def fnNosUptoRow : OpenClaim := { program := "ytmdmlncdjdphdaagreat", sum := "8115cc787a1013773da61b98e39be8cf49fdba9ef43fcad92ed02f2e051db54d", func := "loop.example/g00422/laws.FnNos", spec := "fnNos", inPlace := ["internal/bytealg.Compare"], unfollowed := true, recurses := true, apart := false, narrowed := true }
def FnNosUptoSaid : Prop := fnNosUptoRow.holds Tryz.pinned (OpenSpec.upto fnNosSpec)

/-- 'laws.FnTimes', WHERE WHAT IT READS IS OF BULK AT MOST 1048576: true; the input reads as it did. -/
def fnTimesUptoRow : OpenClaim := { program := "ytmdmlncdjdphdaagreat", sum := "8115cc787a1013773da61b98e39be8cf49fdba9ef43fcad92ed02f2e051db54d", func := "loop.example/g00422/laws.FnTimes", spec := "fnTimes", inPlace := ["internal/bytealg.Compare"], unfollowed := true, recurses := true, apart := false, narrowed := true }
def FnTimesUptoSaid : Prop := fnTimesUptoRow.holds Tryz.pinned (OpenSpec.upto fnTimesSpec)

/-- 'laws.FnCaches', WHERE WHAT IT READS IS OF BULK AT MOST 1048576: true; the input reads as it did. -/
def fnCachesUptoRow : OpenClaim := { program := "ytmdmlncdjdphdaagreat", sum := "8115cc787a1013773da61b98e39be8cf49fdba9ef43fcad92ed02f2e051db54d", func := "loop.example/g00422/laws.FnCaches", spec := "fnCaches", inPlace := ["internal/bytealg.Compare"], unfollowed := true, recurses := true, apart := false, narrowed := true }
def FnCachesUptoSaid : Prop := fnCachesUptoRow.holds Tryz.pinned (OpenSpec.upto fnCachesSpec)

end Rows
end Go.Proofs.YtmdmlncdjdphdaaGreat
