/-
  No cell of these rows narrows 'for every input' (looked for: loops, veiled, ifaces, maps, wideKeys, modest, calm, conditions, laid).
  DERIVED. THE GIVEN ROWS OF THIS SEAT. 6 by the template 'for every input the law returns true; each argument reads behind the call as it read before'; 0 by the template 'total and deterministic' (their statements: YtdfcphdolipapaaGreatTotals.lean).
  GIVEN WITH THE SEED: the statements are not yours to turn. If you find one false, say at which input.
  Laid BY PROGRAM, IN A SANDBOX (cutbox-rows.mjs): the forced cells as the released guide's own fill.sh prints them over the translation 07a8fa77951d99d8… (all of the seat's roots in one cut). By AI agents, Wed Nov 11 2026. No macro, syntax, notation, axiom, sorry.
-/
import Derived.Test.YtdfcphdolipapaaGreatChecked
import GoSem.Claim
import GoSem.ClaimJoined
import GoSem.ClaimMapViews
import Derived.JoinedTies
import Derived.KernelRfl
namespace Go.Proofs.YtdfcphdolipapaaGreat
/- THE CELL 'sum', in the pinned program and in every row, IS THE sha256 OF THE DUMP (.gsa) THAT YtdfcphdolipapaaGreatProg.lean LOADS. Nothing in Lean hashes anything: it is a label: what it is worth is what the hold of that sum in a sandbox is worth. -/
noncomputable def Tryz.pinned : Pinned := { name := "ytdfcphdolipapaagreat", sum := "07a8fa77951d99d803c16a5daccffd457b81e43966a02fb84c87b070f346b992", checked := Tryz.checked }
namespace Rows
def none {H : Type} : Left H := { results := [], args := [] }

/-- 'laws.FnExactAdd': WHATEVER THE INPUT: true; the input reads as it did. -/
def fnExactAddSpec : ChangeSpec := { name := "fnExactAdd", fn := fun _ => fun
  | [d1, d2] => { results := [.lit (.bool true)], args := [d1, d2] }
  | _ => none }
def fnExactAddRow : OpenClaim := { program := "ytdfcphdolipapaagreat", sum := "07a8fa77951d99d803c16a5daccffd457b81e43966a02fb84c87b070f346b992", func := "loop.example/g00422/laws.FnExactAdd", spec := "fnExactAdd", inPlace := ["internal/bytealg.Compare"], unfollowed := true, recurses := true, apart := false }
def FnExactAddSaid : Prop := fnExactAddRow.holds Tryz.pinned (OpenSpec.ofChange fnExactAddSpec)

/-- ITS FALSE NEIGHBOUR: 'it returns false'. Refute it at one input. -/
def fnExactAddWrong : ChangeSpec := { name := "fnExactAdd", fn := fun _ => fun
  | [d1, d2] => { results := [.lit (.bool false)], args := [d1, d2] }
  | _ => none }
def FnExactAddWrongFalsely : Prop := fnExactAddRow.holds Tryz.pinned (OpenSpec.ofChange fnExactAddWrong)

/-- 'laws.FnAdds': WHATEVER THE INPUT: true; the input reads as it did. -/
def fnAddsSpec : ChangeSpec := { name := "fnAdds", fn := fun _ => fun
  | [d] => { results := [.lit (.bool true)], args := [d] }
  | _ => none }
def fnAddsRow : OpenClaim := { program := "ytdfcphdolipapaagreat", sum := "07a8fa77951d99d803c16a5daccffd457b81e43966a02fb84c87b070f346b992", func := "loop.example/g00422/laws.FnAdds", spec := "fnAdds", inPlace := ["internal/bytealg.Compare"], unfollowed := true, recurses := true, apart := false }
def FnAddsSaid : Prop := fnAddsRow.holds Tryz.pinned (OpenSpec.ofChange fnAddsSpec)

/-- ITS FALSE NEIGHBOUR: 'it returns false'. Refute it at one input. -/
def fnAddsWrong : ChangeSpec := { name := "fnAdds", fn := fun _ => fun
  | [d] => { results := [.lit (.bool false)], args := [d] }
  | _ => none }
def FnAddsWrongFalsely : Prop := fnAddsRow.holds Tryz.pinned (OpenSpec.ofChange fnAddsWrong)

/-- 'laws.FnExactTxnRead': WHATEVER THE INPUT: true; the input reads as it did. -/
def fnExactTxnReadSpec : ChangeSpec := { name := "fnExactTxnRead", fn := fun _ => fun
  | [d] => { results := [.lit (.bool true)], args := [d] }
  | _ => none }
def fnExactTxnReadRow : OpenClaim := { program := "ytdfcphdolipapaagreat", sum := "07a8fa77951d99d803c16a5daccffd457b81e43966a02fb84c87b070f346b992", func := "loop.example/g00422/laws.FnExactTxnRead", spec := "fnExactTxnRead", unfollowed := true, recurses := true, apart := false }
def FnExactTxnReadSaid : Prop := fnExactTxnReadRow.holds Tryz.pinned (OpenSpec.ofChange fnExactTxnReadSpec)

/-- ITS FALSE NEIGHBOUR: 'it returns false'. Refute it at one input. -/
def fnExactTxnReadWrong : ChangeSpec := { name := "fnExactTxnRead", fn := fun _ => fun
  | [d] => { results := [.lit (.bool false)], args := [d] }
  | _ => none }
def FnExactTxnReadWrongFalsely : Prop := fnExactTxnReadRow.holds Tryz.pinned (OpenSpec.ofChange fnExactTxnReadWrong)

/-- 'laws.FnTxns': WHATEVER THE INPUT: true; the input reads as it did. -/
def fnTxnsSpec : ChangeSpec := { name := "fnTxns", fn := fun _ => fun
  | [d] => { results := [.lit (.bool true)], args := [d] }
  | _ => none }
def fnTxnsRow : OpenClaim := { program := "ytdfcphdolipapaagreat", sum := "07a8fa77951d99d803c16a5daccffd457b81e43966a02fb84c87b070f346b992", func := "loop.example/g00422/laws.FnTxns", spec := "fnTxns", unfollowed := true, recurses := true, apart := false }
def FnTxnsSaid : Prop := fnTxnsRow.holds Tryz.pinned (OpenSpec.ofChange fnTxnsSpec)

/-- ITS FALSE NEIGHBOUR: 'it returns false'. Refute it at one input. -/
def fnTxnsWrong : ChangeSpec := { name := "fnTxns", fn := fun _ => fun
  | [d] => { results := [.lit (.bool false)], args := [d] }
  | _ => none }
def FnTxnsWrongFalsely : Prop := fnTxnsRow.holds Tryz.pinned (OpenSpec.ofChange fnTxnsWrong)

/-- 'laws.FnResolves': WHATEVER THE INPUT: true; the input reads as it did. -/
def fnResolvesSpec : ChangeSpec := { name := "fnResolves", fn := fun _ => fun
  | [d] => { results := [.lit (.bool true)], args := [d] }
  | _ => none }
def fnResolvesRow : OpenClaim := { program := "ytdfcphdolipapaagreat", sum := "07a8fa77951d99d803c16a5daccffd457b81e43966a02fb84c87b070f346b992", func := "loop.example/g00422/laws.FnResolves", spec := "fnResolves", inPlace := ["internal/bytealg.Compare"], unfollowed := true, recurses := true, apart := false }
def FnResolvesSaid : Prop := fnResolvesRow.holds Tryz.pinned (OpenSpec.ofChange fnResolvesSpec)

/-- ITS FALSE NEIGHBOUR: 'it returns false'. Refute it at one input. -/
def fnResolvesWrong : ChangeSpec := { name := "fnResolves", fn := fun _ => fun
  | [d] => { results := [.lit (.bool false)], args := [d] }
  | _ => none }
def FnResolvesWrongFalsely : Prop := fnResolvesRow.holds Tryz.pinned (OpenSpec.ofChange fnResolvesWrong)

/-- 'laws.FnFinds': WHATEVER THE INPUT: true; the input reads as it did. -/
def fnFindsSpec : ChangeSpec := { name := "fnFinds", fn := fun _ => fun
  | [d] => { results := [.lit (.bool true)], args := [d] }
  | _ => none }
def fnFindsRow : OpenClaim := { program := "ytdfcphdolipapaagreat", sum := "07a8fa77951d99d803c16a5daccffd457b81e43966a02fb84c87b070f346b992", func := "loop.example/g00422/laws.FnFinds", spec := "fnFinds", inPlace := ["internal/bytealg.Compare"], unfollowed := true, recurses := true, apart := false }
def FnFindsSaid : Prop := fnFindsRow.holds Tryz.pinned (OpenSpec.ofChange fnFindsSpec)

/-- ITS FALSE NEIGHBOUR: 'it returns false'. Refute it at one input. -/
def fnFindsWrong : ChangeSpec := { name := "fnFinds", fn := fun _ => fun
  | [d] => { results := [.lit (.bool false)], args := [d] }
  | _ => none }
def FnFindsWrongFalsely : Prop := fnFindsRow.holds Tryz.pinned (OpenSpec.ofChange fnFindsWrong)

/- THE SECOND FORM. 'bulk': how many values and letters a reading holds, each counted each time it is reached (what is shared counts as often as it is met; a slice's spare places count too). A statement '..UptoSaid' is the law's where the arguments, and the package variables that the reading takes, are together of bulk at most 1048576: NARROWER than '..Said'. Prove '..Said' where nothing that the law and all that it calls make is longer than what came in: it says more and counts as full. Else prove '..UptoSaid'. A law counts once. -/
mutual
def uptoBulk {H : Type} : DataW H → Nat
  | .lit (.string bytes) => bytes.length + 1
  | .lit _ => 1
  | .nil => 1
  | .ptr d => uptoBulk d + 1
  | .slice elems spare => uptoBulkAll elems + uptoBulkAll spare + 1
  | .agg parts => uptoBulkAll parts + 1
  | .iface _ d => uptoBulk d + 1
  | .map entries => uptoBulkEntries entries + 1
  | .held _ => 1
def uptoBulkAll {H : Type} : List (DataW H) → Nat
  | [] => 0
  | d :: r => uptoBulk d + uptoBulkAll r
def uptoBulkEntries {H : Type} : List (Lit × DataW H) → Nat
  | [] => 0
  | x :: r => uptoBulkEntry x + uptoBulkEntries r
def uptoBulkEntry {H : Type} : Lit × DataW H → Nat
  | (.string bytes, d) => bytes.length + uptoBulk d + 1
  | (_, d) => uptoBulk d + 1
 end
def uptoSmall : (H : Type) → List (DataW H) → Bool := fun _ ds => decide (uptoBulkAll ds ≤ 1048576)
def OpenSpec.upto (s : _root_.Go.ChangeSpec) : _root_.Go.OpenSpec := { _root_.Go.OpenSpec.ofChange s with cond := some uptoSmall }

/-- 'laws.FnExactAdd', WHERE WHAT IT READS IS OF BULK AT MOST 1048576: true; the input reads as it did. -/
def fnExactAddUptoRow : OpenClaim := { program := "ytdfcphdolipapaagreat", sum := "07a8fa77951d99d803c16a5daccffd457b81e43966a02fb84c87b070f346b992", func := "loop.example/g00422/laws.FnExactAdd", spec := "fnExactAdd", inPlace := ["internal/bytealg.Compare"], unfollowed := true, recurses := true, apart := false, narrowed := true }
def FnExactAddUptoSaid : Prop := fnExactAddUptoRow.holds Tryz.pinned (OpenSpec.upto fnExactAddSpec)

/-- 'laws.FnAdds', WHERE WHAT IT READS IS OF BULK AT MOST 1048576: true; the input reads as it did. -/
def fnAddsUptoRow : OpenClaim := { program := "ytdfcphdolipapaagreat", sum := "07a8fa77951d99d803c16a5daccffd457b81e43966a02fb84c87b070f346b992", func := "loop.example/g00422/laws.FnAdds", spec := "fnAdds", inPlace := ["internal/bytealg.Compare"], unfollowed := true, recurses := true, apart := false, narrowed := true }
def FnAddsUptoSaid : Prop := fnAddsUptoRow.holds Tryz.pinned (OpenSpec.upto fnAddsSpec)

/-- 'laws.FnExactTxnRead', WHERE WHAT IT READS IS OF BULK AT MOST 1048576: true; the input reads as it did. -/
def fnExactTxnReadUptoRow : OpenClaim := { program := "ytdfcphdolipapaagreat", sum := "07a8fa77951d99d803c16a5daccffd457b81e43966a02fb84c87b070f346b992", func := "loop.example/g00422/laws.FnExactTxnRead", spec := "fnExactTxnRead", unfollowed := true, recurses := true, apart := false, narrowed := true }
def FnExactTxnReadUptoSaid : Prop := fnExactTxnReadUptoRow.holds Tryz.pinned (OpenSpec.upto fnExactTxnReadSpec)

/-- 'laws.FnTxns', WHERE WHAT IT READS IS OF BULK AT MOST 1048576: true; the input reads as it did. -/
def fnTxnsUptoRow : OpenClaim := { program := "ytdfcphdolipapaagreat", sum := "07a8fa77951d99d803c16a5daccffd457b81e43966a02fb84c87b070f346b992", func := "loop.example/g00422/laws.FnTxns", spec := "fnTxns", unfollowed := true, recurses := true, apart := false, narrowed := true }
def FnTxnsUptoSaid : Prop := fnTxnsUptoRow.holds Tryz.pinned (OpenSpec.upto fnTxnsSpec)

/-- 'laws.FnResolves', WHERE WHAT IT READS IS OF BULK AT MOST 1048576: true; the input reads as it did. -/
def fnResolvesUptoRow : OpenClaim := { program := "ytdfcphdolipapaagreat", sum := "07a8fa77951d99d803c16a5daccffd457b81e43966a02fb84c87b070f346b992", func := "loop.example/g00422/laws.FnResolves", spec := "fnResolves", inPlace := ["internal/bytealg.Compare"], unfollowed := true, recurses := true, apart := false, narrowed := true }
def FnResolvesUptoSaid : Prop := fnResolvesUptoRow.holds Tryz.pinned (OpenSpec.upto fnResolvesSpec)

/-- 'laws.FnFinds', WHERE WHAT IT READS IS OF BULK AT MOST 1048576: true; the input reads as it did. -/
def fnFindsUptoRow : OpenClaim := { program := "ytdfcphdolipapaagreat", sum := "07a8fa77951d99d803c16a5daccffd457b81e43966a02fb84c87b070f346b992", func := "loop.example/g00422/laws.FnFinds", spec := "fnFinds", inPlace := ["internal/bytealg.Compare"], unfollowed := true, recurses := true, apart := false, narrowed := true }
def FnFindsUptoSaid : Prop := fnFindsUptoRow.holds Tryz.pinned (OpenSpec.upto fnFindsSpec)

end Rows
end Go.Proofs.YtdfcphdolipapaaGreat
