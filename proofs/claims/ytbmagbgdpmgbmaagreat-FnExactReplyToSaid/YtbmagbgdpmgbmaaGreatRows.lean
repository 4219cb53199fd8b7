/-
  No cell of these rows narrows 'for every input' (looked for: loops, veiled, ifaces, maps, wideKeys, modest, calm, conditions, laid).
  DERIVED. THE GIVEN ROWS OF THIS SEAT. 9 by the template 'for every input the law returns true; each argument reads behind the call as it read before'; 0 by the template 'total and deterministic' (their statements: YtbmagbgdpmgbmaaGreatTotals.lean).
  GIVEN WITH THE SEED: the statements are not yours to turn. If you find one false, say at which input.
  Laid BY PROGRAM, IN A SANDBOX (cutbox-rows.mjs): the forced cells as the released guide's own fill.sh prints them over the translation e99b40680521c6b8… (all of the seat's roots in one cut). By AI agents, Wed Nov 11 2026. No macro, syntax, notation, axiom, sorry.
-/
import Derived.Test.YtbmagbgdpmgbmaaGreatChecked
import GoSem.Claim
import GoSem.ClaimJoined
import GoSem.ClaimMapViews
import Derived.JoinedTies
import Derived.KernelRfl
namespace Go.Proofs.YtbmagbgdpmgbmaaGreat
/- THE CELL 'sum', in the pinned program and in every row, IS THE sha256 OF THE DUMP (.gsa) THAT YtbmagbgdpmgbmaaGreatProg.lean LOADS. Nothing in Lean hashes anything: it is a label: what it is worth is what the hold of that sum in a sandbox is worth. -/
noncomputable def Tryz.pinned : Pinned := { name := "ytbmagbgdpmgbmaagreat", sum := "e99b40680521c6b88b053cfa510be0d3dfd17851532e80b7d1f41e812dc2bd09", checked := Tryz.checked }
namespace Rows
def none {H : Type} : Left H := { results := [], args := [] }

/-- 'laws.FnDropSets': WHATEVER THE INPUT: true; the input reads as it did. -/
def fnDropSetsSpec : ChangeSpec := { name := "fnDropSets", fn := fun _ => fun
  | [d] => { results := [.lit (.bool true)], args := [d] }
  | _ => none }
def fnDropSetsRow : OpenClaim := { program := "ytbmagbgdpmgbmaagreat", sum := "e99b40680521c6b88b053cfa510be0d3dfd17851532e80b7d1f41e812dc2bd09", func := "loop.example/g00422/laws.FnDropSets", spec := "fnDropSets", inPlace := ["internal/bytealg.Compare"], unfollowed := true, recurses := true, apart := false }
def FnDropSetsSaid : Prop := fnDropSetsRow.holds Tryz.pinned (OpenSpec.ofChange fnDropSetsSpec)

/-- ITS FALSE NEIGHBOUR: 'it returns false'. Refute it at one input. -/
def fnDropSetsWrong : ChangeSpec := { name := "fnDropSets", fn := fun _ => fun
  | [d] => { results := [.lit (.bool false)], args := [d] }
  | _ => none }
def FnDropSetsWrongFalsely : Prop := fnDropSetsRow.holds Tryz.pinned (OpenSpec.ofChange fnDropSetsWrong)

/-- 'laws.FnLookups': WHATEVER THE INPUT: true; the input reads as it did. -/
def fnLookupsSpec : ChangeSpec := { name := "fnLookups", fn := fun _ => fun
  | [d] => { results := [.lit (.bool true)], args := [d] }
  | _ => none }
def fnLookupsRow : OpenClaim := { program := "ytbmagbgdpmgbmaagreat", sum := "e99b40680521c6b88b053cfa510be0d3dfd17851532e80b7d1f41e812dc2bd09", func := "loop.example/g00422/laws.FnLookups", spec := "fnLookups", inPlace := ["internal/bytealg.Compare"], unfollowed := true, recurses := true, apart := false }
def FnLookupsSaid : Prop := fnLookupsRow.holds Tryz.pinned (OpenSpec.ofChange fnLookupsSpec)

/-- ITS FALSE NEIGHBOUR: 'it returns false'. Refute it at one input. -/
def fnLookupsWrong : ChangeSpec := { name := "fnLookups", fn := fun _ => fun
  | [d] => { results := [.lit (.bool false)], args := [d] }
  | _ => none }
def FnLookupsWrongFalsely : Prop := fnLookupsRow.holds Tryz.pinned (OpenSpec.ofChange fnLookupsWrong)

/-- 'laws.FnOwners': WHATEVER THE INPUT: true; the input reads as it did. -/
def fnOwnersSpec : ChangeSpec := { name := "fnOwners", fn := fun _ => fun
  | [d] => { results := [.lit (.bool true)], args := [d] }
  | _ => none }
def fnOwnersRow : OpenClaim := { program := "ytbmagbgdpmgbmaagreat", sum := "e99b40680521c6b88b053cfa510be0d3dfd17851532e80b7d1f41e812dc2bd09", func := "loop.example/g00422/laws.FnOwners", spec := "fnOwners", inPlace := ["internal/bytealg.Compare"], unfollowed := true, recurses := true, apart := false }
def FnOwnersSaid : Prop := fnOwnersRow.holds Tryz.pinned (OpenSpec.ofChange fnOwnersSpec)

/-- ITS FALSE NEIGHBOUR: 'it returns false'. Refute it at one input. -/
def fnOwnersWrong : ChangeSpec := { name := "fnOwners", fn := fun _ => fun
  | [d] => { results := [.lit (.bool false)], args := [d] }
  | _ => none }
def FnOwnersWrongFalsely : Prop := fnOwnersRow.holds Tryz.pinned (OpenSpec.ofChange fnOwnersWrong)

/-- 'laws.FnExactCacheNames': WHATEVER THE INPUT: true; the input reads as it did. -/
def fnExactCacheNamesSpec : ChangeSpec := { name := "fnExactCacheNames", fn := fun _ => fun
  | [d] => { results := [.lit (.bool true)], args := [d] }
  | _ => none }
def fnExactCacheNamesRow : OpenClaim := { program := "ytbmagbgdpmgbmaagreat", sum := "e99b40680521c6b88b053cfa510be0d3dfd17851532e80b7d1f41e812dc2bd09", func := "loop.example/g00422/laws.FnExactCacheNames", spec := "fnExactCacheNames", inPlace := ["internal/bytealg.Compare"], unfollowed := true, recurses := true, apart := false }
def FnExactCacheNamesSaid : Prop := fnExactCacheNamesRow.holds Tryz.pinned (OpenSpec.ofChange fnExactCacheNamesSpec)

/-- ITS FALSE NEIGHBOUR: 'it returns false'. Refute it at one input. -/
def fnExactCacheNamesWrong : ChangeSpec := { name := "fnExactCacheNames", fn := fun _ => fun
  | [d] => { results := [.lit (.bool false)], args := [d] }
  | _ => none }
def FnExactCacheNamesWrongFalsely : Prop := fnExactCacheNamesRow.holds Tryz.pinned (OpenSpec.ofChange fnExactCacheNamesWrong)

/-- 'laws.FnExactLost': WHATEVER THE INPUT: true; the input reads as it did. -/
def fnExactLostSpec : ChangeSpec := { name := "fnExactLost", fn := fun _ => fun
  | [d] => { results := [.lit (.bool true)], args := [d] }
  | _ => none }
def fnExactLostRow : OpenClaim := { program := "ytbmagbgdpmgbmaagreat", sum := "e99b40680521c6b88b053cfa510be0d3dfd17851532e80b7d1f41e812dc2bd09", func := "loop.example/g00422/laws.FnExactLost", spec := "fnExactLost", unfollowed := true, recurses := true, apart := false }
def FnExactLostSaid : Prop := fnExactLostRow.holds Tryz.pinned (OpenSpec.ofChange fnExactLostSpec)

/-- ITS FALSE NEIGHBOUR: 'it returns false'. Refute it at one input. -/
def fnExactLostWrong : ChangeSpec := { name := "fnExactLost", fn := fun _ => fun
  | [d] => { results := [.lit (.bool false)], args := [d] }
  | _ => none }
def FnExactLostWrongFalsely : Prop := fnExactLostRow.holds Tryz.pinned (OpenSpec.ofChange fnExactLostWrong)

/-- 'laws.FnExactHouseNew': WHATEVER THE INPUT: true; the input reads as it did. -/
def fnExactHouseNewSpec : ChangeSpec := { name := "fnExactHouseNew", fn := fun _ => fun
  | [d] => { results := [.lit (.bool true)], args := [d] }
  | _ => none }
def fnExactHouseNewRow : OpenClaim := { program := "ytbmagbgdpmgbmaagreat", sum := "e99b40680521c6b88b053cfa510be0d3dfd17851532e80b7d1f41e812dc2bd09", func := "loop.example/g00422/laws.FnExactHouseNew", spec := "fnExactHouseNew", inPlace := ["internal/bytealg.Compare"], unfollowed := true, recurses := true, apart := false }
def FnExactHouseNewSaid : Prop := fnExactHouseNewRow.holds Tryz.pinned (OpenSpec.ofChange fnExactHouseNewSpec)

/-- ITS FALSE NEIGHBOUR: 'it returns false'. Refute it at one input. -/
def fnExactHouseNewWrong : ChangeSpec := { name := "fnExactHouseNew", fn := fun _ => fun
  | [d] => { results := [.lit (.bool false)], args := [d] }
  | _ => none }
def FnExactHouseNewWrongFalsely : Prop := fnExactHouseNewRow.holds Tryz.pinned (OpenSpec.ofChange fnExactHouseNewWrong)

/-- 'laws.FnExactCacheTick': WHATEVER THE INPUT: true; the input reads as it did. -/
def fnExactCacheTickSpec : ChangeSpec := { name := "fnExactCacheTick", fn := fun _ => fun
  | [d1, d2] => { results := [.lit (.bool true)], args := [d1, d2] }
  | _ => none }
def fnExactCacheTickRow : OpenClaim := { program := "ytbmagbgdpmgbmaagreat", sum := "e99b40680521c6b88b053cfa510be0d3dfd17851532e80b7d1f41e812dc2bd09", func := "loop.example/g00422/laws.FnExactCacheTick", spec := "fnExactCacheTick", inPlace := ["internal/bytealg.Compare"], unfollowed := true, recurses := true, apart := false }
def FnExactCacheTickSaid : Prop := fnExactCacheTickRow.holds Tryz.pinned (OpenSpec.ofChange fnExactCacheTickSpec)

/-- ITS FALSE NEIGHBOUR: 'it returns false'. Refute it at one input. -/
def fnExactCacheTickWrong : ChangeSpec := { name := "fnExactCacheTick", fn := fun _ => fun
  | [d1, d2] => { results := [.lit (.bool false)], args := [d1, d2] }
  | _ => none }
def FnExactCacheTickWrongFalsely : Prop := fnExactCacheTickRow.holds Tryz.pinned (OpenSpec.ofChange fnExactCacheTickWrong)

/-- 'laws.FnExactCacheGet': WHATEVER THE INPUT: true; the input reads as it did. -/
def fnExactCacheGetSpec : ChangeSpec := { name := "fnExactCacheGet", fn := fun _ => fun
  | [d1, d2, d3] => { results := [.lit (.bool true)], args := [d1, d2, d3] }
  | _ => none }
def fnExactCacheGetRow : OpenClaim := { program := "ytbmagbgdpmgbmaagreat", sum := "e99b40680521c6b88b053cfa510be0d3dfd17851532e80b7d1f41e812dc2bd09", func := "loop.example/g00422/laws.FnExactCacheGet", spec := "fnExactCacheGet", inPlace := ["internal/bytealg.Compare"], unfollowed := true, recurses := true, apart := false }
def FnExactCacheGetSaid : Prop := fnExactCacheGetRow.holds Tryz.pinned (OpenSpec.ofChange fnExactCacheGetSpec)

/-- ITS FALSE NEIGHBOUR: 'it returns false'. Refute it at one input. -/
def fnExactCacheGetWrong : ChangeSpec := { name := "fnExactCacheGet", fn := fun _ => fun
  | [d1, d2, d3] => { results := [.lit (.bool false)], args := [d1, d2, d3] }
  | _ => none }
def FnExactCacheGetWrongFalsely : Prop := fnExactCacheGetRow.holds Tryz.pinned (OpenSpec.ofChange fnExactCacheGetWrong)

/-- 'laws.FnExactReplyTo': WHATEVER THE INPUT: true; the input reads as it did. -/
def fnExactReplyToSpec : ChangeSpec := { name := "fnExactReplyTo", fn := fun _ => fun
  | [d1, d2] => { results := [.lit (.bool true)], args := [d1, d2] }
  | _ => none }
def fnExactReplyToRow : OpenClaim := { program := "ytbmagbgdpmgbmaagreat", sum := "e99b40680521c6b88b053cfa510be0d3dfd17851532e80b7d1f41e812dc2bd09", func := "loop.example/g00422/laws.FnExactReplyTo", spec := "fnExactReplyTo", unfollowed := true, recurses := true, apart := false }
def FnExactReplyToSaid : Prop := fnExactReplyToRow.holds Tryz.pinned (OpenSpec.ofChange fnExactReplyToSpec)

/-- ITS FALSE NEIGHBOUR: 'it returns false'. Refute it at one input. -/
def fnExactReplyToWrong : ChangeSpec := { name := "fnExactReplyTo", fn := fun _ => fun
  | [d1, d2] => { results := [.lit (.bool false)], args := [d1, d2] }
  | _ => none }
def FnExactReplyToWrongFalsely : Prop := fnExactReplyToRow.holds Tryz.pinned (OpenSpec.ofChange fnExactReplyToWrong)

/- THE SECOND FORM. 'bulk': how many values and letters a reading holds, each counted each time it is reached (what is shared counts as often as it is met; a slice's spare places count too). A statement '..UptoSaid' is the law's where the arguments, and the package variables that the reading takes, are together of bulk at most 1048576: NARROWER than '..Said'. Prove '..Said' where nothing that the law and all that it calls make is longer than what came in: it says more and counts as full. Else prove '..UptoSaid'. A law counts once. -/
mutual
def uptoBulk {H : Type} : DataW H → Nat
  | .lit (.string bytes) => bytes.length + 1
  | .lit _ => 1
  | .nil => 1
  | .ptr d => uptoBulk d + 1
  | .slice elems spare => uptoBulkAll elems + uptoBulkAll spare + 1
  | .agg parts => uptoBulkAll parts + 1
  | .iface _ d => uptoBulk d + 1
  | .map entries => uptoBulkEntries entries + 1
  | .held _ => 1
def uptoBulkAll {H : Type} : List (DataW H) → Nat
  | [] => 0
  | d :: r => uptoBulk d + uptoBulkAll r
def uptoBulkEntries {H : Type} : List (Lit × DataW H) → Nat
  | [] => 0
  | x :: r => uptoBulkEntry x + uptoBulkEntries r
def uptoBulkEntry {H : Type} : Lit × DataW H → Nat
  | (.string bytes, d) => bytes.length + uptoBulk d + 1
  | (_, d) => uptoBulk d + 1
 end
def uptoSmall : (H : Type) → List (DataW H) → Bool := fun _ ds => decide (uptoBulkAll ds ≤ 1048576)
def OpenSpec.upto (s : _root_.Go.ChangeSpec) : _root_.Go.OpenSpec := { _root_.Go.OpenSpec.ofChange s with cond := some uptoSmall }

/-- 'laws.FnDropSets', WHERE WHAT IT READS IS OF BULK AT MOST 1048576: true; the input reads as it did. -/
def fnDropSetsUptoRow : OpenClaim := { program := "ytbmagbgdpmgbmaagreat", sum := "e99b40680521c6b88b053cfa510be0d3dfd17851532e80b7d1f41e812dc2bd09", func := "loop.example/g00422/laws.FnDropSets", spec := "fnDropSets", inPlace := ["internal/bytealg.Compare"], unfollowed := true, recurses := true, apart := false, narrowed := true }
def FnDropSetsUptoSaid : Prop := fnDropSetsUptoRow.holds Tryz.pinned (OpenSpec.upto fnDropSetsSpec)

/-- 'laws.FnLookups', WHERE WHAT IT READS IS OF BULK AT MOST 1048576: true; the input reads as it did. -/
def fnLookupsUptoRow : OpenClaim := { program := "ytbmagbgdpmgbmaagreat", sum := "e99b40680521c6b88b053cfa510be0d3dfd17851532e80b7d1f41e812dc2bd09", func := "loop.example/g00422/laws.FnLookups", spec := "fnLookups", inPlace := ["internal/bytealg.Compare"], unfollowed := true, recurses := true, apart := false, narrowed := true }
def FnLookupsUptoSaid : Prop := fnLookupsUptoRow.holds Tryz.pinned (OpenSpec.upto fnLookupsSpec)

/-- 'laws.FnOwners', WHERE WHAT IT READS IS OF BULK AT MOST 1048576: true; the input reads as it did. -/
def fnOwnersUptoRow : OpenClaim := { program := "ytbmagbgdpmgbmaagreat", sum := "e99b40680521c6b88b053cfa510be0d3dfd17851532e80b7d1f41e812dc2bd09", func := "loop.example/g00422/laws.FnOwners", spec := "fnOwners", inPlace := ["internal/bytealg.Compare"], unfollowed := true, recurses := true, apart := false, narrowed := true }
def FnOwnersUptoSaid : Prop := fnOwnersUptoRow.holds Tryz.pinned (OpenSpec.upto fnOwnersSpec)

/-- 'laws.FnExactCacheNames', WHERE WHAT IT READS IS OF BULK AT MOST 1048576: true; the input reads as it did. -/
def fnExactCacheNamesUptoRow : OpenClaim := { program := "ytbmagbgdpmgbmaagreat", sum := "e99b40680521c6b88b053cfa510be0d3dfd17851532e80b7d1f41e812dc2bd09", func := "loop.example/g00422/laws.FnExactCacheNames", spec := "fnExactCacheNames", inPlace := ["internal/bytealg.Compare"], unfollowed := true, recurses := true, apart := false, narrowed := true }
def FnExactCacheNamesUptoSaid : Prop := fnExactCacheNamesUptoRow.holds Tryz.pinned (OpenSpec.upto fnExactCacheNamesSpec)

/-- 'laws.FnExactLost', WHERE WHAT IT READS IS OF BULK AT MOST 1048576: true; the input reads as it did. -/
def fnExactLostUptoRow : OpenClaim := { program := "ytbmagbgdpmgbmaagreat", sum := "e99b40680521c6b88b053cfa510be0d3dfd17851532e80b7d1f41e812dc2bd09", func := "loop.example/g00422/laws.FnExactLost", spec := "fnExactLost", unfollowed := true, recurses := true, apart := false, narrowed := true }
def FnExactLostUptoSaid : Prop := fnExactLostUptoRow.holds Tryz.pinned (OpenSpec.upto fnExactLostSpec)

/-- 'laws.FnExactHouseNew', WHERE WHAT IT READS IS OF BULK AT MOST 1048576: true; the input reads as it did. -/
def fnExactHouseNewUptoRow : OpenClaim := { program := "ytbmagbgdpmgbmaagreat", sum := "e99b40680521c6b88b053cfa510be0d3dfd17851532e80b7d1f41e812dc2bd09", func := "loop.example/g00422/laws.FnExactHouseNew", spec := "fnExactHouseNew", inPlace := ["internal/bytealg.Compare"], unfollowed := true, recurses := true, apart := false, narrowed := true }
def FnExactHouseNewUptoSaid : Prop := fnExactHouseNewUptoRow.holds Tryz.pinned (OpenSpec.upto fnExactHouseNewSpec)

/-- 'laws.FnExactCacheTick', WHERE WHAT IT READS IS OF BULK AT MOST 1048576: true; the input reads as it did. -/
def fnExactCacheTickUptoRow : OpenClaim := { program := "ytbmagbgdpmgbmaagreat", sum := "e99b40680521c6b88b053cfa510be0d3dfd17851532e80b7d1f41e812dc2bd09", func := "loop.example/g00422/laws.FnExactCacheTick", spec := "fnExactCacheTick", inPlace := ["internal/bytealg.Compare"], unfollowed := true, recurses := true, apart := false, narrowed := true }
def FnExactCacheTickUptoSaid : Prop := fnExactCacheTickUptoRow.holds Tryz.pinned (OpenSpec.upto fnExactCacheTickSpec)

/-- 'laws.FnExactCacheGet', WHERE WHAT IT READS IS OF BULK AT MOST 1048576: true; the input reads as it did. -/
def fnExactCacheGetUptoRow : OpenClaim := { program := "ytbmagbgdpmgbmaagreat", sum := "e99b40680521c6b88b053cfa510be0d3dfd17851532e80b7d1f41e812dc2bd09", func := "loop.example/g00422/laws.FnExactCacheGet", spec := "fnExactCacheGet", inPlace := ["internal/bytealg.Compare"], unfollowed := true, recurses := true, apart := false, narrowed := true }
def FnExactCacheGetUptoSaid : Prop := fnExactCacheGetUptoRow.holds Tryz.pinned (OpenSpec.upto fnExactCacheGetSpec)

/-- 'laws.FnExactReplyTo', WHERE WHAT IT READS IS OF BULK AT MOST 1048576: true; the input reads as it did. -/
def fnExactReplyToUptoRow : OpenClaim := { program := "ytbmagbgdpmgbmaagreat", sum := "e99b40680521c6b88b053cfa510be0d3dfd17851532e80b7d1f41e812dc2bd09", func := "loop.example/g00422/laws.FnExactReplyTo", spec := "fnExactReplyTo", unfollowed := true, recurses := true, apart := false, narrowed := true }
def FnExactReplyToUptoSaid : Prop := fnExactReplyToUptoRow.holds Tryz.pinned (OpenSpec.upto fnExactReplyToSpec)

end Rows
end Go.Proofs.YtbmagbgdpmgbmaaGreat
