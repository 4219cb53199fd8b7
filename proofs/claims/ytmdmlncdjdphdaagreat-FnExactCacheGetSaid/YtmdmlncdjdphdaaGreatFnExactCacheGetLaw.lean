/- "For every cache, name and type, the program's CacheGet returns what the reference's returns: no condition." -/
import Derived.Test.YtmdmlncdjdphdaaGreatFnExactCacheGetFn3
import Derived.Test.YtmdmlncdjdphdaaGreatRows
import Derived.WalkKit
import Derived.ProofKit
import Derived.OpenShut
import Derived.ChangeOld
import Derived.Below
import Derived.Carry
import Derived.SizedLaws
set_option maxRecDepth 100000
set_option maxHeartbeats 8000000
set_option linter.unusedVariables false
namespace Go.Proofs.YtmdmlncdjdphdaaGreat.fnExactCacheGet
open Hearth Go.Proofs.YtmdmlncdjdphdaaGreat.FnExactCacheGetFn Go.ChangeShapes Go.WideShapes Go.ChangeAt Go.RowKit
theorem own : ownKnob Tryz.prog.godebug = none := by kernel_rfl
theorem laidOut : laidOutB Tryz.prog = true := by kernel_rfl
theorem lifted (os : Os) (started : os.Started) (H : Type) (enc : TypeId × Value → H) :
    ReturnsInHanded {} Tryz.checked os 4 .any (Rows.fnExactCacheGetSpec.pre6 enc Tryz.prog Tryz.f4 Rows.fnExactCacheGetRow.domain false) (Rows.fnExactCacheGetSpec.post enc Tryz.prog Tryz.f4 false true false false) := by
  refine returnsInHanded_of_change_sized (C := Tryz.checked) own started (by kernel_rfl) Tryz.func4
    (ChangeSpec.witness6 (enc := enc) (C := Tryz.checked) false ⟨#[], #[.agg #[.int .i64 0, .int .i64 0, .slice none 0 0], .agg #[.slice none 0 0], .int .i64 0], []⟩ 8 (by kernel_rfl) (by kernel_rfl) (by kernel_rfl) (by kernel_rfl)) ?_
  intro W base args ds gs before hval0 hW hcnd hsz0 _
  have hval : ∀ (j : Nat) t v, Tryz.f4.params[j]? = some t → args[j]? = some v → Value.okWide Tryz.prog W .any base t v := hval0
  have hW' := hW
  obtain ⟨p, q, hA0, hV, rfl, hfz, hnd⟩ := hW
  have hA : DataW.TrodAll enc Tryz.prog W 0 (fun _ => true) true Tryz.f4.params.toList args.toList ds p := hA0
  rw [Tryz.params4] at hA hval
  obtain ⟨v0, vs0, d0, ds0, p0, q0, hargs, rfl, rfl, h0, r0⟩ := trodAll_cons hA
  obtain ⟨v1, vs1, d1, ds1, p1, q1, rfl, rfl, rfl, h1, r1⟩ := trodAll_cons r0
  obtain ⟨v2, vs2, d2, ds2, p2, q2, rfl, rfl, rfl, h2, r2⟩ := trodAll_cons r1
  obtain ⟨rfl, rfl, rfl⟩ := trodAll_nil r2
  obtain rfl : args = #[v0, v1, v2] := by cases args; simp_all
  obtain ⟨rfl, rfl⟩ := trodVars_none hV
  have lt0 : ∀ x ∈ p0, x.block < W.heap.size := by obtain ⟨m, hm⟩ := h0; exact DataW.trod_lt m _ _ _ hm
  obtain ⟨a0, g0, s0⟩ := arg_da (n := 12) (sp := .agg shCache) (by kernel_rfl) (hval 0 _ v0 rfl rfl) h0
  have lt1 : ∀ x ∈ p1, x.block < W.heap.size := by obtain ⟨m, hm⟩ := h1; exact DataW.trod_lt m _ _ _ hm
  obtain ⟨a1, g1, s1⟩ := arg_da (n := 12) (sp := .agg [shBB]) (by kernel_rfl) (hval 1 _ v1 rfl rfl) h1
  have lt2 : ∀ x ∈ p2, x.block < W.heap.size := by obtain ⟨m, hm⟩ := h2; exact DataW.trod_lt m _ _ _ hm
  obtain ⟨a2, g2, s2⟩ := arg_da (n := 12) (sp := .one i64) (by kernel_rfl) (hval 2 _ v2 rfl rfl) h2
  have hd : DAs W (All W) [a0, a1, a2] #[v0, v1, v2] := ⟨rfl, fun t a v ha hv => by
    match t with
    | 0 => simp at ha hv; subst ha; subst hv; exact g0
    | 1 => simp at ha hv; subst ha; subst hv; exact g1
    | 2 => simp at ha hv; subst ha; subst hv; exact g2
    | t + 3 => simp at ha⟩
  refine (law_calls hd ?_).mono fun e W' ⟨he, bel⟩ => ?_
  · match a0, s0, a1, s1, a2, s2 with
    | .agg xs, s0, .agg [y], s1, .one w, s2 =>
      obtain ⟨c, rfl, hb⟩ := row_Cache s0.1 s0.2
      obtain ⟨n, rfl, h1⟩ := shOk_B (s1.2 0 _ y rfl rfl)
      obtain ⟨t, rfl⟩ := shOk_i64 s2
      exact ok_laws_FnExactCacheGet c n t hb h1
  · subst he
    exact ⟨_, rfl, _, _, _, [], _, [], hW', trodAll_mk1 (shut_bool (by kernel_rfl) _), (trodAll_cons_mk (Below.trod laidOut (by kernel_rfl) (of_decide_eq_true (by kernel_rfl)) h0 bel lt0) (trodAll_cons_mk (Below.trod laidOut (by kernel_rfl) (of_decide_eq_true (by kernel_rfl)) h1 bel lt1) (trodAll_cons_mk (Below.trod laidOut (by kernel_rfl) (of_decide_eq_true (by kernel_rfl)) h2 bel lt2) trodAll_mk0))), rfl, bel.frame _, fun h => by cases h⟩
theorem band {a b : Bool} (h1 : a = true) (h2 : b = true) : (a && b) = true := by rw [h1, h2]; rfl
theorem closed : joinedFacts Tryz.prog 4 Tryz.f4 Rows.fnExactCacheGetSpec Rows.fnExactCacheGetRow = true := by
  unfold joinedFacts
  repeat' with_reducible refine band ?_ ?_
  all_goals as_aux_lemma => kernel_rfl
theorem over : Rows.fnExactCacheGetRow.holds Tryz.pinned (OpenSpec.ofChange Rows.fnExactCacheGetSpec) :=
  OpenClaim.holds_of_wide 4 Tryz.f4 rfl rfl rfl rfl rfl rfl rfl ⟨rfl, rfl, rfl, rfl, rfl⟩ rfl rfl rfl rfl rfl (by kernel_rfl) Tryz.func4 closed
    (of_decide_eq_true (by kernel_rfl)) (by unfold Func.isWrapper; first | (rw [if_pos (by decide +kernel)]; kernel_rfl) | (rw [if_neg (by decide +kernel)]; exact ⟨rfl, rfl⟩))
    (fun os started H enc _ => lifted os started H enc)
theorem proved : Rows.FnExactCacheGetSaid := over
#print axioms proved
end Go.Proofs.YtmdmlncdjdphdaaGreat.fnExactCacheGet
