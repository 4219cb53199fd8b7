/- "For every code: a name of a drawn zone is free just if it has no records, and one that is a client's has its sum, and no other: no condition." -/
import Derived.Test.YtmdmlncdjdphdaaGreatFnOwnersFn3
import Derived.Test.YtmdmlncdjdphdaaGreatRows
import Derived.WalkKit
import Derived.ProofKit
import Derived.OpenShut
import Derived.ChangeOld
import Derived.Below
import Derived.Carry
import Derived.SizedLaws
set_option maxRecDepth 100000
set_option maxHeartbeats 8000000
set_option linter.unusedVariables false
namespace Go.Proofs.YtmdmlncdjdphdaaGreat.fnOwners
open Hearth Go.Proofs.YtmdmlncdjdphdaaGreat.FnOwnersFn Go.ChangeShapes Go.WideShapes Go.ChangeAt Go.RowKit
theorem own : ownKnob Tryz.prog.godebug = none := by kernel_rfl
theorem laidOut : laidOutB Tryz.prog = true := by kernel_rfl
theorem lifted (os : Os) (started : os.Started) (H : Type) (enc : TypeId × Value → H) :
    ReturnsInHanded {} Tryz.checked os 3 .any (Rows.fnOwnersSpec.pre6 enc Tryz.prog Tryz.f3 Rows.fnOwnersRow.domain false) (Rows.fnOwnersSpec.post enc Tryz.prog Tryz.f3 false true false false) := by
  refine returnsInHanded_of_change_sized (C := Tryz.checked) own started (by kernel_rfl) Tryz.func3
    (ChangeSpec.witness6 (enc := enc) (C := Tryz.checked) false ⟨#[], #[.slice none 0 0], []⟩ 8 (by kernel_rfl) (by kernel_rfl) (by kernel_rfl) (by kernel_rfl)) ?_
  intro W base args ds gs before hval0 hW hcnd hsz0 _
  have hval : ∀ (j : Nat) t v, Tryz.f3.params[j]? = some t → args[j]? = some v → Value.okWide Tryz.prog W .any base t v := hval0
  have hW' := hW
  obtain ⟨p, q, hA0, hV, rfl, hfz, hnd⟩ := hW
  have hA : DataW.TrodAll enc Tryz.prog W 0 (fun _ => true) true Tryz.f3.params.toList args.toList ds p := hA0
  rw [Tryz.params3] at hA hval
  obtain ⟨v0, vs0, d0, ds0, p0, q0, hargs, rfl, rfl, h0, r0⟩ := trodAll_cons hA
  obtain ⟨rfl, rfl, rfl⟩ := trodAll_nil r0
  obtain rfl : args = #[v0] := by cases args; simp_all
  obtain ⟨rfl, rfl⟩ := trodVars_none hV
  have lt0 : ∀ x ∈ p0, x.block < W.heap.size := by obtain ⟨m, hm⟩ := h0; exact DataW.trod_lt m _ _ _ hm
  obtain ⟨a0, g0, s0⟩ := arg_da (n := 12) (sp := .one shB) (by kernel_rfl) (hval 0 _ v0 rfl rfl) h0
  have hd : DAs W (All W) [a0] #[v0] := ⟨rfl, fun t a v ha hv => by
    match t with
    | 0 => simp at ha hv; subst ha; subst hv; exact g0
    | t + 1 => simp at ha⟩
  refine (law_calls hd ?_).mono fun e W' ⟨he, bel⟩ => ?_
  · match a0, s0 with
    | .one x, s0 =>
      obtain ⟨c, rfl, hb⟩ := shOk_bytes s0
      exact ok_laws_FnOwners c hb
  · subst he
    exact ⟨_, rfl, _, _, _, [], _, [], hW', trodAll_mk1 (shut_bool (by kernel_rfl) _), (trodAll_cons_mk (Below.trod laidOut (by kernel_rfl) (of_decide_eq_true (by kernel_rfl)) h0 bel lt0) trodAll_mk0), rfl, bel.frame _, fun h => by cases h⟩
theorem band {a b : Bool} (h1 : a = true) (h2 : b = true) : (a && b) = true := by rw [h1, h2]; rfl
theorem closed : joinedFacts Tryz.prog 3 Tryz.f3 Rows.fnOwnersSpec Rows.fnOwnersRow = true := by
  unfold joinedFacts
  repeat' with_reducible refine band ?_ ?_
  all_goals as_aux_lemma => kernel_rfl
theorem over : Rows.fnOwnersRow.holds Tryz.pinned (OpenSpec.ofChange Rows.fnOwnersSpec) :=
  OpenClaim.holds_of_wide 3 Tryz.f3 rfl rfl rfl rfl rfl rfl rfl ⟨rfl, rfl, rfl, rfl, rfl⟩ rfl rfl rfl rfl rfl (by kernel_rfl) Tryz.func3 closed
    (of_decide_eq_true (by kernel_rfl)) (by unfold Func.isWrapper; first | (rw [if_pos (by decide +kernel)]; kernel_rfl) | (rw [if_neg (by decide +kernel)]; exact ⟨rfl, rfl⟩))
    (fun os started H enc _ => lifted os started H enc)
theorem proved : Rows.FnOwnersSaid := over
#print axioms proved
end Go.Proofs.YtmdmlncdjdphdaaGreat.fnOwners
